import Derived.Test.YtmlmfpikncogpaaGreatL34
namespace Go.Proofs.YtmlmfpikncogpaaGreat
open Go.RowKit
set_option linter.unusedSimpArgs false
set_option linter.unusedVariables false
set_option maxRecDepth 100000
set_option maxHeartbeats 16000000
theorem iC.shift {w w':World} {X Y X':List Nat} {A:Option Addr} {l:List Chg} (h:iC w X A l) (a:aa Y w w') (d:∀y∈Y,y∈X\/w.heap.size<=y) (c:∀x∈X',x∈X\/w.heap.size<=x):iC w' X' A l:=fun i x v=>by
 obtain⟨g,off,n,co,m,o,p,k,j,q,r,s,t,u⟩:=h i x v;have e:=block_lt_of_cell j;dsimp only at e;have b:g∉Y:=fun f=>by
  rcases d g f with h | h
  ·exact k h
  omega
 exact⟨g,off,n,co,m,o,p,fun f=>by
  rcases c g f with h | h
  ·exact k h
  omega,a.cellEq j b,a.cellEq q b,a.cellEq r b,a.cellEq s b,t.shift a d c,u.shift a d c⟩
def upd (f:Nat->Int) (s:Nat) (x:Int):Nat->Int:=fun k=>if k=s then x else f k
theorem zL {A:Option Addr} {n c:Nat} {f:Nat->Int} {a x:Int} {s:Nat} (b:s<8):(stV A n c f a).setIfInBounds (2+s) (I x)=stV A n c (upd f s x) a:=by
 have h:s=0\/s=1\/s=2\/s=3\/s=4\/s=5\/s=6\/s=7:=by omega
 rcases h with rfl | rfl | rfl | rfl | rfl | rfl | rfl | rfl<;>rfl
theorem pP {A:Option Addr} {n c:Nat} {f:Nat->Int} {a:Int} {s:Nat} (b:s<8):(stV A n c f a)[2+s]? =some (I (f s)):=by
 have h:s=0\/s=1\/s=2\/s=3\/s=4\/s=5\/s=6\/s=7:=by omega
 rcases h with rfl | rfl | rfl | rfl | rfl | rfl | rfl | rfl<;>rfl
def di (ts:List TS) (f:Nat->Int) (a:Int) (s:Nat) (b:Int) (l:List Chg):Int×Option (List TS):=
 if b<=f s then (1,none) else match aQ ts l with
  | none=>(1,none)
  | some ts'=>if 1707 - a<((16+(cM l).length:Nat):Int)\/896<64+(aN ts').length then (16,none) else (0,some ts')
def uZ (w:World) (X:List Nat) (ts:List TS) (f:Nat->Int) (a:Int) (s:Nat) (b:Int) (l:List Chg) (e:Ending) (w':World):Prop:=
 ∃v,e=.returned (.tuple #[v,I (di ts f a s b l).1])/\Z (aa [] w w')/\Z (match (di ts f a s b l).2 with
  | none=>SSt w' X ts f a v
  | some ts'=>SSt w' X ts' (upd f s b) (a+4+((16+(cM l).length:Nat):Int)) v)
theorem vG (w:World) (X:List Nat) (ts:List TS) (f:Nat->Int) (a:Int) (v0:Value) (s:Nat) (p:Int) (lA:Option Addr) (l:List Chg) (m d:Nat) (hv:SSt w X ts f a v0) (hg:Gd 52 ts) (hs:s<8) (d7:0<=a) (e4:a<=1711)
 (hX:∀x∈X,x<w.heap.size) (hl:l.length=m) (hm:m<=6) (hC:iC w X lA l) (a4:∀c∈l,c.old.length<=10/\c.new.length<=10/\(∀v∈c.old,v.fits)/\(∀v∈c.new,v.fits)):
 Calls Tryz.prog 13 #[v0,I (s:Int),I p,.slice lA m d] w (uZ w X ts f a s p l):=by
  obtain⟨A,n,c,rfl,hn,hS⟩:=hv;have e1:n<=4:=by rw[<-hn];exact hg.1
  have cc:di ts f a s p l=di ts f a s p l:=rfl;have kb:aa [] w ((w.alloc (.cells (stV A n c f a) 36)).alloc (.cells #[I 0,.slice none 0 0,I 0,I 0,I 0,I 0,I 0,I 0,I 0,I 0,I 0] 36)):=((aa.refl [] w).alloc _).alloc _;have B0:=(Blk.new w 36 (stV A n c f a)).alloc (.cells #[I 0,.slice none 0 0,I 0,I 0,I 0,I 0,I 0,I 0,I 0,I 0,I 0] 36);have B8:=Blk.new (w.alloc (.cells (stV A n c f a) 36)) 36 #[I 0,.slice none 0 0,I 0,I 0,I 0,I 0,I 0,I 0,I 0,I 0,I 0];rw[show (w.alloc (.cells (stV A n c f a) 36)).heap.size=w.heap.size+1 by simp] at B8;generalize da:(w.alloc (.cells (stV A n c f a) 36)).alloc (.cells #[I 0,.slice none 0 0,I 0,I 0,I 0,I 0,I 0,I 0,I 0,I 0,I 0] 36)=w2 at*;have a9:w.heap.size+2=w2.heap.size:=by rw[<-da];simp
  have dc:w2.cell? (U w.heap.size (2+s))=some (I (f s)):=by rw[B0.cell];exact pP hs
  have d0:Z (∀W,aa [] w W->bY W ((w.heap.size+1)::w2.heap.size::X) A ts):=bZ (fun W k=>hS.shift k (by simp) (fun x E=>by simp at E;rcases E with rfl | rfl | E;exact .inr (by omega);exact .inr (by omega);exact .inl E));have c9:Z (∀W,aa [] w W->iC W ((w.heap.size+1)::w2.heap.size::X) lA l):=bZ (fun W k=>hC.shift k (by simp) (fun x E=>by simp at E;rcases E with rfl | rfl | E;exact .inr (by omega);exact .inr (by omega);exact .inl E));have d2:Z (∀W:World,w2.heap.size<W.heap.size->∀x∈(w.heap.size+1)::w2.heap.size::X,x<W.heap.size):=bZ (fun W h x E=>by simp at E;rcases E with rfl | rfl | E;omega;exact h;have:=hX x E;omega);have M:Z (∀W bb cs,di ts f a s p l=(bb,none)->aa [w.heap.size+1,w2.heap.size] w2 W->cs=A->uZ w X ts f a s p l (.returned (.tuple #[.agg (stV A n c f a),I bb])) W):=bZ (fun W bb cs he k _=>by
   have k2:aa [] w W:=kb.more k (fun y Y=>by simp at Y;rcases Y with rfl | rfl<;>exact .inr (by omega));refine⟨_,by rw[he],bZ k2,bZ ?_⟩;rw[he];exact⟨A,n,c,rfl,hn,hS.shift k2 (by simp) (fun x E=>.inl E)⟩)
  have e2:(s:Int)<=7:=by omega
  have dn:((7:Int)<(s:Int))=False:=eq_false (by omega);have dl:((s:Int)<0)=False:=eq_false (by omega);have e3:(s:Int)<8:=by omega
  replace kb:=bZ kb;replace B0:=bZ B0;replace B8:=bZ B8;replace a9:=bZ a9;replace hg:=bZ hg;replace hn:=bZ hn;replace hl:=bZ hl;replace a4:=bZ a4;clear hS hC hX cc;by_cases h1:p<=f s
  ·have he:Z (di ts f a s p l=(1,none)):=bZ (by unfold di;rw[if_pos h1]);go_enter Tryz.func13,Tryz.ntmps13;go_wp2_with (first
    | (refine al rfl 36 (.tmp 4) rfl w.heap.size rfl 36 (stV A n c f a) _ B0.o Tryz.underlying36 rfl (by kernel_rfl) ?_)
    | (refine aC rfl 36 (.tmp 8) (.tmp 28) rfl (w.heap.size+1) rfl 36 _ (stV A n c f a) rfl B8.o (by kernel_rfl) rfl bW ?_;intro w3 b2 b4))
   refine bodyPost_ret (v:=.tuple #[.agg (stV A n c f a),I 1]) (cL (g:=w.heap.size+1) (t:=36) rfl rfl rfl b2.o Tryz.underlying36 rfl (by kernel_rfl)) rfl ?_;exact M.o _ _ A he.o (b4.o.mono (by simp)) rfl
  have dq:(p<=f s)=False:=eq_false h1;go_enter Tryz.func13,Tryz.ntmps13;go_wp2_with (first
   | (refine al rfl 36 (.tmp 4) rfl w.heap.size rfl 36 (stV A n c f a) _ B0.o Tryz.underlying36 rfl (by kernel_rfl) ?_)
   | (refine aC rfl 36 (.tmp 10) (.tmp 29) rfl w2.heap.size rfl 36 _ (stV A n c f a) rfl (Blk.new w2 36 #[I 0,.slice none 0 0,I 0,I 0,I 0,I 0,I 0,I 0,I 0,I 0,I 0]) (by kernel_rfl) rfl bW ?_;intro w3 b2 b4))
  have b0:Z (aa [] w2 w3):=bZ (((aa.refl [] w2).alloc (.cells #[I 0,.slice none 0 0,I 0,I 0,I 0,I 0,I 0,I 0,I 0,I 0,I 0] 36)).more b4.o (fun y Y=>by simp at Y;subst Y;exact .inr (C9 _)));clear b4 dc;go_loopw [11] (fun c1 wr=>∃(i:Nat) (H:Option Addr) (c':Nat) (F:List TS),i<=m/\c1=I (i:Int)/\Z (aQ ts (l.take i)=some F)/\Z (bY wr ((w.heap.size+1)::w2.heap.size::X) H F)/\Z (Blk wr w2.heap.size 36 (stV H n c' f a))/\Z (aa [] w2 wr)) (fun c1 _=>m - (intOf c1).toNat)
  case atStart=>exact⟨0,A,c,ts,C3 _,rfl,bZ rfl,bZ (d0.o w3 (kb.o.trans b0.o)),b2,b0⟩
  obtain⟨i,H,c',F,hi,rfl,R,bh,ac,hk⟩:=hrel;clear b2 b0;have a7:Gd (52+i) F:=by have:=gS hg.o R.o;rw[CY,hl.o,Es hi] at this;exact this
  have b5:F.length=n:=by rw[om R.o,hn.o]
  have P:Z (Blk wr w.heap.size 36 (stV A n c f a)):=bZ (B0.o.keep hk.o (by simp));have a2:Z (Blk wr (w.heap.size+1) 36 #[I 0,.slice none 0 0,I 0,I 0,I 0,I 0,I 0,I 0,I 0,I 0,I 0]):=bZ (B8.o.keep hk.o (by simp));have z1:=ac.o.cell 1;have a8:Z (aa [] w wr):=bZ (kb.o.trans hk.o);by_cases cl:i<m
  ·have e0:(i:Int)<(m:Int):=by omega
   have wi:IntKind.i64.wrap ((i:Int)+1)=(i:Int)+1:=C0 _ (by omega);obtain⟨x,E⟩:∃x,l[i]? =some x:=⟨_,CT (by rw[hl.o];exact cl)⟩;have cr:l.take (i+1)=l.take i++[x]:=by rw[Dq,E];rfl
   have b9:l=l.take i++x::l.drop (i+1):=by rw[<-dS E,Du]
   obtain⟨f1,f2,f3,f4⟩:=a4.o x (CW E);have bp:Z (aQ ts (l.take (i+1))=apC F x):=bZ (by rw[cr];exact lZ R.o);have c0:Z (apC F x=none->aQ ts l=none):=bZ (fun h=>by rw[b9];exact lY R.o h);obtain⟨g,off,Ao,co,An,cn,rfl,d4,y0,y1,y2,y3,r5,r6⟩:=c9.o wr a8.o i x E;have L:Z (∀W,aa [] wr W->W.cell? (U w2.heap.size 1)=G H n c'/\W.cell? (U g (off+i*4))=some (I x.t)/\W.cell? (U g (off+i*4+1))=some (I x.id)/\W.cell? (U g (off+i*4+2))=G Ao x.old.length co/\W.cell? (U g (off+i*4+3))=G An x.new.length cn):=bZ (fun W k=>⟨k.cellEq z1 (by simp),k.cellEq y0 (by simp),k.cellEq y1 (by simp),k.cellEq y2 (by simp),k.cellEq y3 (by simp)⟩);have RA:Z (∀W,aa [] wr W->Calls Tryz.prog 33 #[.slice H n c',.agg #[I x.t,I x.id,.slice Ao x.old.length co,.slice An x.new.length cn]] W (lf W ((w.heap.size+1)::w2.heap.size::X) H n c' F x.t x.id x.old x.new)):=bZ (fun W k=>xG W _ H n c' F (bh.o.shift k (by simp) (fun x E=>.inl E)) b5 (by omega) (d2.o W (Dr ac.o.lt k.size)) (fun t ht=>by have:=(a7.2 t ht).hc;omega)
    (fun t ht=>by have h:=a7.2 t ht;have h2:=h.len;exact⟨h.asc,h.nx.2,by omega⟩) x.t x.id Ao An x.old.length co x.new.length cn x.old x.new rfl rfl (r5.shift k (by simp) (fun x E=>.inl E)) (r6.shift k (by simp) (fun x E=>.inl E)) (by omega) (by omega) f3 f4)
   obtain⟨tb,id,old,b6⟩:=x;dsimp only at L RA y0 y1 y2 y3;obtain⟨on,cp⟩:∃on,old.length=on:=⟨_,rfl⟩;obtain⟨nn,cm⟩:∃nn,b6.length=nn:=⟨_,rfl⟩;rw[cp,cm] at L RA;clear y0 y1 y2 y3 r5 r6 cr b9 E cp cm f1 f2 f3 f4 z1 b5 d4;have z1:=(L.o wr (aa.refl _ _)).1;replace a7:=bZ a7;by_cases hc:chk F tb id old b6=0
   ·replace hc:=bZ hc;go_wp2_with fail;refine ad (S:=(fun w':World=>w'.cell? (U w2.heap.size 1)=G H n c'/\w'.cell? (U g (off+i*4))=some (I tb)/\w'.cell? (U g (off+i*4+1))=some (I id)/\w'.cell? (U g (off+i*4+2))=G Ao on co/\w'.cell? (U g (off+i*4+3))=G An nn cn)) (n:=12) (by kernel_rfl) ?_;have z:Z (aa [] wr wr.drew):=bZ (aa.refl [] wr).drew;have b:=L.o wr.drew z.o;generalize wr.drew=wd at*;refine ord [0,1,2,3,4,5] ?_
    iterate 6 (refine tq b ?_;try simp only[PT,Y1,Y2,Y3])
    refine av ?_;refine J1 6 fun K C=>?_;dsimp only[Y1,Y2,Y3];go_simp;refine(RA.o wd z.o).mono ?_;rintro e J an;rcases an with ⟨h0,_⟩ | ⟨_,t5,cq,A5,c5,rfl,cb,N⟩
    ·exact absurd hc.o h0
    have u:Z (aa [] wr J):=bZ (z.o.trans N.o);have b:=L.o J u.o;refine C _ _ (.inr b) ?_;clear C K
    try simp only[PT,Y1,Y2,Y3]
    refine ord [7,8,9,10,11] ?_
    iterate 5 (refine tq b ?_;try simp only[PT,Y1,Y2,Y3])
    refine av ?_;refine JD ?_;have d6:Z (aQ ts (l.take (i+1))=some (F.set tb.toNat (eH t5 id b6))):=bZ (by rw[bp.o];unfold apC;dsimp only;rw[if_pos hc.o,cq];rfl);have b3:=ac.o.keep u.o (by simp);have u1:=b3.cell 1;have u2:=b3.frozen 1;have cv:Z (Blk (J.setCell (U w2.heap.size 1) (.slice A5 n c5)) w2.heap.size 36 (stV A5 n c5 f a)):=bZ (b3.set_ 1 (.slice A5 n c5));have ck:aa [w2.heap.size] J (J.setCell (U w2.heap.size 1) (.slice A5 n c5)):=(aa.refl _ _).setCell (.inl (by simp)) _;have d1:=bZ (cb.o.shift ck (fun y Y=>.inl (by simp at Y;simp[Y])) (fun x E=>.inl E));have d5:Z (aa [] w2 (J.setCell (U w2.heap.size 1) (.slice A5 n c5))):=bZ ((hk.o.trans u.o).setCell (.inr (C9 _)) _);clear b b3 ck cb cq RA L z1;go_wp2_with fail;go_roundw
    case rel=>exact⟨i+1,A5,c5,_,by omega,by go_num,d6,d1,cv,d5⟩
    case measure=>simp[intOf];omega
   have ds:(chk F tb id old b6 !=0)=true:=by simpa using hc
   replace hc:=bZ hc;go_wp2_with fail;refine ad (S:=(fun w':World=>w'.cell? (U w2.heap.size 1)=G H n c'/\w'.cell? (U g (off+i*4))=some (I tb)/\w'.cell? (U g (off+i*4+1))=some (I id)/\w'.cell? (U g (off+i*4+2))=G Ao on co/\w'.cell? (U g (off+i*4+3))=G An nn cn)) (n:=12) (by kernel_rfl) ?_;have z:Z (aa [] wr wr.drew):=bZ (aa.refl [] wr).drew;have b:=L.o wr.drew z.o;generalize wr.drew=wd at*;refine ord [0,1,2,3,4,5] ?_
   iterate 6 (refine tq b ?_;try simp only[PT,Y1,Y2,Y3])
   refine av ?_;refine J1 6 fun K C=>?_;dsimp only[Y1,Y2,Y3];go_simp;refine(RA.o wd z.o).mono ?_;rintro e J an;obtain⟨_,rfl,N⟩:=(show _\/_ from an).resolve_right (fun h=>hc.o h.1);have u:Z (aa [] wr J):=bZ (z.o.trans N.o);have b:=L.o J u.o;refine C _ _ (.inr b) ?_;clear C K
   try simp only[PT,Y1,Y2,Y3]
   refine ord [7,8,9,10,11] ?_
   iterate 5 (refine tq b ?_;try simp only[PT,Y1,Y2,Y3])
   refine av ?_;refine JD ?_;have he:Z (di ts f a s p l=(1,none)):=bZ (by unfold di;rw[if_neg (by omega),c0.o (r9.2 hc.o)]);have O:=bZ (P.o.keep u.o (by simp));have Q:=bZ (a2.o.keep u.o (by simp));go_wp2_with (first
    | (refine al rfl 36 (.tmp 4) rfl w.heap.size rfl 36 (stV A n c f a) _ O.o Tryz.underlying36 rfl (by kernel_rfl) ?_)
    | (refine aC rfl 36 (.tmp 8) (.tmp 48) rfl (w.heap.size+1) rfl 36 _ (stV A n c f a) rfl Q.o (by kernel_rfl) rfl bW ?_;intro w6 ct a0))
   refine bodyPost_ret (v:=.tuple #[.agg (stV A n c f a),I 1]) (cL (g:=w.heap.size+1) (t:=36) rfl rfl rfl ct.o Tryz.underlying36 rfl (by kernel_rfl)) rfl ?_;exact M.o _ _ A he.o ((hk.o.trans u.o).nil.trans (a0.o.mono (by simp))) rfl
  obtain rfl:i=m:=by omega
  have b8:l.take i=l:=C6 (by rw[hl.o];exact C9 _);rw[b8] at R;have bs:=lM hg.o R.o (fun c hc=>by have:=a4.o c hc;omega);have bi:(cM l).length<=2000000:=by
   have:=fa l bs;unfold cM;rw[CU,Cod.ag];have:=hl.o;omega
  obtain⟨q,hq⟩:∃q,16+(cM l).length=q:=⟨_,rfl⟩;have b1:Z (∀W,aa [] w W->Calls Tryz.prog 34 #[.slice lA i d] W fun e w'=>e=.returned (I ((q:Nat):Int))/\Z (aa [] W w')):=bZ (fun W k=>by
   rw[<-hq];exact Bm W _ lA i d l hl.o (by omega) bs (fun j x hj=>by obtain⟨g,off,Ao,co,An,cn,h0,_,h1⟩:=c9.o W k j x hj;exact⟨g,off,Ao,co,An,cn,h0,h1⟩))
  have ba:Z (∀W,Calls Tryz.prog 35 #[.agg #[I 60,.slice A n c,I (f 0),I (f 1),I (f 2),I (f 3),I (f 4),I (f 5),I (f 6),I (f 7),I a]] W fun e w'=>e=.returned (I (1707 - a))/\Z (aa [] W w')):=bZ (fun W=>zP W A n c f a d7 (by omega));obtain⟨r,hr⟩:∃r,64+(aN F).length=r:=⟨_,rfl⟩;obtain⟨rb,T⟩:∃rb,rb=decide (r<=896):=⟨_,rfl⟩;have H8:Z (∀W,aa [] wr W->Calls Tryz.prog 8 #[.agg #[I 60,.slice H n c',I (f 0),I (f 1),I (f 2),I (f 3),I (f 4),I (f 5),I (f 6),I (f 7),I a]] W fun e w'=>e=.returned (.bool rb)/\Z (aa [] W w')):=bZ (fun W k=>by
   rw[T,<-hr];exact Bl W _ F f a _ (52+i) ⟨H,n,c',rfl,b5,bh.o.shift k (by simp) (fun x E=>.inl E)⟩ a7 (by omega))
  have a6:di ts f a s p l=if 1707 - a<(q:Int)\/896<r then (16,none) else (0,some F):=by unfold di;rw[if_neg (by omega),R.o];dsimp only;rw[hq,hr]
  have L:Z (∀W,aa [] wr W->(∀j,W.cell? (U w.heap.size j)=#[I 60,.slice A n c,I (f 0),I (f 1),I (f 2),I (f 3),I (f 4),I (f 5),I (f 6),I (f 7),I a][j]?)/\(∀j,W.cell? (U w2.heap.size j)=#[I 60,.slice H n c',I (f 0),I (f 1),I (f 2),I (f 3),I (f 4),I (f 5),I (f 6),I (f 7),I a][j]?)):=bZ (fun W k=>⟨(P.o.keep k (by simp)).cell,(ac.o.keep k (by simp)).cell⟩);clear z1 b8 a7 bs bi b5 cl;replace hq:=bZ hq;replace hr:=bZ hr;by_cases a3:1707 - a<(q:Int)
  ·have he:Z (di ts f a s p l=(16,none)):=bZ (by rw[a6,if_pos (.inl a3)]);have d3:decide (1707 - a<(q:Int))=true:=decide_eq_true a3;clear a6 T;go_wp2_with fail;refine ad (S:=(fun w':World=>(∀j,w'.cell? (U w.heap.size j)=#[I 60,.slice A n c,I (f 0),I (f 1),I (f 2),I (f 3),I (f 4),I (f 5),I (f 6),I (f 7),I a][j]?)/\(∀j,w'.cell? (U w2.heap.size j)=#[I 60,.slice H n c',I (f 0),I (f 1),I (f 2),I (f 3),I (f 4),I (f 5),I (f 6),I (f 7),I a][j]?))) (n:=10) (by kernel_rfl) ?_;have z:Z (aa [] wr wr.drew):=bZ (aa.refl [] wr).drew;have b:=L.o wr.drew z.o;generalize wr.drew=wd at*;refine ord [0,2] ?_
   iterate 2 (first | (refine tu b ?_;try simp only[PT,Y1,Y2,Y3]) | (refine tq b ?_;try simp only[PT,Y1,Y2,Y3]))
   refine av ?_;refine J1 1 fun K C=>?_;dsimp only[Y1,Y2,Y3];go_simp;refine(b1.o wd (a8.o.trans z.o)).mono ?_;rintro e J ⟨rfl,N⟩;have u:Z (aa [] wr J):=bZ (z.o.trans N.o);have b:=L.o J u.o;refine C _ _ (.inr b) ?_;clear C K
   try simp only[PT,Y1,Y2,Y3]
   refine J1 3 fun K C=>?_;dsimp only[Y1,Y2,Y3];go_simp;refine(ba.o J).mono ?_;rintro e w6 ⟨rfl,a0⟩;have B:Z (aa [] wr w6):=bZ (u.o.trans a0.o);have b:=L.o w6 B.o;refine C _ _ (.inr b) ?_;clear C K
   try simp only[PT,Y1,Y2,Y3]
   refine ord [4,5,6,7,8,9] ?_
   iterate 6 (first | (refine tu b ?_;try simp only[PT,Y1,Y2,Y3]) | (refine tq b ?_;try simp only[PT,Y1,Y2,Y3]))
   refine av ?_;refine JD ?_;have O:=bZ (P.o.keep B.o (by simp));have Q:=bZ (a2.o.keep B.o (by simp));clear b;go_wp2_with (first
    | (refine al rfl 36 (.tmp 4) rfl w.heap.size rfl 36 (stV A n c f a) _ O.o Tryz.underlying36 rfl (by kernel_rfl) ?_)
    | (refine aC rfl 36 (.tmp 8) (.tmp 61) rfl (w.heap.size+1) rfl 36 _ (stV A n c f a) rfl Q.o (by kernel_rfl) rfl bW ?_;intro w8 bd bl))
   refine bodyPost_ret (v:=.tuple #[.agg (stV A n c f a),I 16]) (cL (g:=w.heap.size+1) (t:=36) rfl rfl rfl bd.o Tryz.underlying36 rfl (by kernel_rfl)) rfl ?_;exact M.o _ _ A he.o ((hk.o.trans B.o).nil.trans (bl.o.mono (by simp))) rfl
  have d3:(1707 - a<(q:Int))=False:=eq_false a3;have dr:decide (1707 - a<(q:Int))=false:=decide_eq_false a3;cases rb with
  | false=>
   have bt:¬r<=896:=fun h=>by rw[decide_eq_true h] at T;cases T
   have he:Z (di ts f a s p l=(16,none)):=bZ (by rw[a6,if_pos (.inr (by omega))]);clear a6 T bt;go_wp2_with fail;refine ad (S:=(fun w':World=>(∀j,w'.cell? (U w.heap.size j)=#[I 60,.slice A n c,I (f 0),I (f 1),I (f 2),I (f 3),I (f 4),I (f 5),I (f 6),I (f 7),I a][j]?)/\(∀j,w'.cell? (U w2.heap.size j)=#[I 60,.slice H n c',I (f 0),I (f 1),I (f 2),I (f 3),I (f 4),I (f 5),I (f 6),I (f 7),I a][j]?))) (n:=10) (by kernel_rfl) ?_;have z:Z (aa [] wr wr.drew):=bZ (aa.refl [] wr).drew;have b:=L.o wr.drew z.o;generalize wr.drew=wd at*;refine ord [0,2] ?_
   iterate 2 (first | (refine tu b ?_;try simp only[PT,Y1,Y2,Y3]) | (refine tq b ?_;try simp only[PT,Y1,Y2,Y3]))
   refine av ?_;refine J1 1 fun K C=>?_;dsimp only[Y1,Y2,Y3];go_simp;refine(b1.o wd (a8.o.trans z.o)).mono ?_;rintro e J ⟨rfl,N⟩;have u:Z (aa [] wr J):=bZ (z.o.trans N.o);have b:=L.o J u.o;refine C _ _ (.inr b) ?_;clear C K
   try simp only[PT,Y1,Y2,Y3]
   refine J1 3 fun K C=>?_;dsimp only[Y1,Y2,Y3];go_simp;refine(ba.o J).mono ?_;rintro e w6 ⟨rfl,a0⟩;have B:Z (aa [] wr w6):=bZ (u.o.trans a0.o);have b:=L.o w6 B.o;refine C _ _ (.inr b) ?_;clear C K
   try simp only[PT,Y1,Y2,Y3]
   refine ord [4,5,6] ?_
   iterate 3 (first | (refine tu b ?_;try simp only[PT,Y1,Y2,Y3]) | (refine tq b ?_;try simp only[PT,Y1,Y2,Y3]))
   refine av ?_;refine J1 7 fun K C=>?_;dsimp only[Y1,Y2,Y3];go_simp;refine(H8.o w6 B.o).mono ?_;rintro e w7 ⟨rfl,bk⟩;have D:Z (aa [] wr w7):=bZ (B.o.trans bk.o);have b:=L.o w7 D.o;refine C _ _ (.inr b) ?_;clear C K
   try simp only[PT,Y1,Y2,Y3]
   refine ord [8,9] ?_
   iterate 2 (first | (refine tu b ?_;try simp only[PT,Y1,Y2,Y3]) | (refine tq b ?_;try simp only[PT,Y1,Y2,Y3]))
   refine av ?_;refine JD ?_;have O:=bZ (P.o.keep D.o (by simp));have Q:=bZ (a2.o.keep D.o (by simp));clear b;go_wp2_with (first
    | (refine al rfl 36 (.tmp 4) rfl w.heap.size rfl 36 (stV A n c f a) _ O.o Tryz.underlying36 rfl (by kernel_rfl) ?_)
    | (refine aC rfl 36 (.tmp 8) (.tmp 61) rfl (w.heap.size+1) rfl 36 _ (stV A n c f a) rfl Q.o (by kernel_rfl) rfl bW ?_;intro w8 bd bl))
   refine bodyPost_ret (v:=.tuple #[.agg (stV A n c f a),I 16]) (cL (g:=w.heap.size+1) (t:=36) rfl rfl rfl bd.o Tryz.underlying36 rfl (by kernel_rfl)) rfl ?_;exact M.o _ _ A he.o ((hk.o.trans D.o).nil.trans (bl.o.mono (by simp))) rfl
  | true=>
   have bt:r<=896:=Classical.byContradiction (fun h=>by rw[decide_eq_false h] at T;cases T);have he:Z (di ts f a s p l=(0,some F)):=bZ (by rw[a6,if_neg (by omega)]);have e5:IntKind.i64.wrap (a+4)=a+4:=C0 _ (by omega);have e6:IntKind.i64.wrap (a+4+(q:Int))=a+4+(q:Int):=C0 _ (by omega);clear a6 T bt;go_wp2_with fail;refine ad (S:=(fun w':World=>(∀j,w'.cell? (U w.heap.size j)=#[I 60,.slice A n c,I (f 0),I (f 1),I (f 2),I (f 3),I (f 4),I (f 5),I (f 6),I (f 7),I a][j]?)/\(∀j,w'.cell? (U w2.heap.size j)=#[I 60,.slice H n c',I (f 0),I (f 1),I (f 2),I (f 3),I (f 4),I (f 5),I (f 6),I (f 7),I a][j]?))) (n:=10) (by kernel_rfl) ?_;have z:Z (aa [] wr wr.drew):=bZ (aa.refl [] wr).drew;have b:=L.o wr.drew z.o;generalize wr.drew=wd at*;refine ord [0,2] ?_
   iterate 2 (first | (refine tu b ?_;try simp only[PT,Y1,Y2,Y3]) | (refine tq b ?_;try simp only[PT,Y1,Y2,Y3]))
   refine av ?_;refine J1 1 fun K C=>?_;dsimp only[Y1,Y2,Y3];go_simp;refine(b1.o wd (a8.o.trans z.o)).mono ?_;rintro e J ⟨rfl,N⟩;have u:Z (aa [] wr J):=bZ (z.o.trans N.o);have b:=L.o J u.o;refine C _ _ (.inr b) ?_;clear C K
   try simp only[PT,Y1,Y2,Y3]
   refine J1 3 fun K C=>?_;dsimp only[Y1,Y2,Y3];go_simp;refine(ba.o J).mono ?_;rintro e w6 ⟨rfl,a0⟩;have B:Z (aa [] wr w6):=bZ (u.o.trans a0.o);have b:=L.o w6 B.o;refine C _ _ (.inr b) ?_;clear C K
   try simp only[PT,Y1,Y2,Y3]
   refine ord [4,5,6] ?_
   iterate 3 (first | (refine tu b ?_;try simp only[PT,Y1,Y2,Y3]) | (refine tq b ?_;try simp only[PT,Y1,Y2,Y3]))
   refine av ?_;refine J1 7 fun K C=>?_;dsimp only[Y1,Y2,Y3];go_simp;refine(H8.o w6 B.o).mono ?_;rintro e w7 ⟨rfl,bk⟩;have D:Z (aa [] wr w7):=bZ (B.o.trans bk.o);have b:=L.o w7 D.o;refine C _ _ (.inr b) ?_;clear C K
   try simp only[PT,Y1,Y2,Y3]
   refine ord [8,9] ?_
   iterate 2 (first | (refine tu b ?_;try simp only[PT,Y1,Y2,Y3]) | (refine tq b ?_;try simp only[PT,Y1,Y2,Y3]))
   refine av ?_;refine JD ?_;have b7:=bZ (P.o.keep D.o (by simp));have c4:=bZ (a2.o.keep D.o (by simp));have a1:=ac.o.keep D.o (by simp);have u1:w7.cell? (U w2.heap.size (2+s))=some (I (f s)):=by rw[a1.cell];exact pP hs
   have u2:=a1.frozen (2+s);have c7:Z (Blk (w7.setCell (U w2.heap.size (2+s)) (I p)) w2.heap.size 36 (stV H n c' (upd f s p) a)):=bZ (by rw[<-zL hs];exact a1.set_ (2+s) (I p));have ch:Z (aa [w2.heap.size] w7 (w7.setCell (U w2.heap.size (2+s)) (I p))):=bZ ((aa.refl _ _).setCell (.inl (by simp)) _);clear b a1;go_wp2_with fail;refine ad (S:=(fun w':World=>w'.cell? (U w.heap.size 10)=some (I a))) (n:=8) (by kernel_rfl) ?_;have ar:Z (aa [w2.heap.size] w7 (w7.setCell (U w2.heap.size (2+s)) (I p)).drew):=bZ ch.o.drew;have c8:Z (Blk (w7.setCell (U w2.heap.size (2+s)) (I p)).drew w2.heap.size 36 (stV H n c' (upd f s p) a)):=c7;have a5:w.heap.size≠w2.heap.size:=by have:=a9.o;omega
   replace a5:=bZ a5;have b:(w7.setCell (U w2.heap.size (2+s)) (I p)).drew.cell? (U w.heap.size 10)=some (I a):=(b7.o.keep ar.o (by simp;exact a5.o)).cell 10;clear c7 ch u1 u2;generalize (w7.setCell (U w2.heap.size (2+s)) (I p)).drew=wd at*;refine ord [0,1,2,3] ?_
   iterate 4 (refine tq b ?_;try simp only[PT,Y1,Y2,Y3])
   refine av ?_;refine J1 4 fun K C=>?_;dsimp only[Y1,Y2,Y3];go_simp;refine(b1.o wd ((a8.o.trans D.o).more ar.o (fun y Y=>by simp at Y;subst Y;exact .inr (by have:=a9.o;omega)))).mono ?_;rintro e w9 ⟨rfl,bn⟩;have b:w9.cell? (U w.heap.size 10)=some (I a):=bn.o.cellEq b (by simp);have ak:=c8.o.keep bn.o (by simp);have u1:=ak.cell 10;have u2:=ak.frozen 10;have c2:Z (Blk (w9.setCell (U w2.heap.size 10) (I (a+4+(q:Int)))) w2.heap.size 36 (stV H n c' (upd f s p) (a+4+(q:Int)))):=bZ (ak.set_ 10 (I (a+4+(q:Int))));have ap:Z (aa [w2.heap.size] w7 (w9.setCell (U w2.heap.size 10) (I (a+4+(q:Int))))):=bZ ((ar.o.trans bn.o.nil).setCell (.inl (by simp)) _);replace ak:=bZ ak;refine C _ _ (.inr b) ?_;clear C K
   try simp only[PT,Y1,Y2,Y3]
   refine ord [5,6] ?_
   iterate 2 (refine tq b ?_;try simp only[PT,Y1,Y2,Y3])
   refine av ?_;refine J1 7 fun K C=>?_;dsimp only[Y1,Y2,Y3];go_simp;have b:(w9.setCell (U w2.heap.size 10) (I (a+4+(q:Int)))).cell? (U w.heap.size 10)=some (I a):=(b7.o.keep ap.o (by simp;exact a5.o)).cell 10;refine C _ _ (.inr b) ?_;clear C K
   try simp only[PT,Y1,Y2,Y3]
   refine JD ?_;have c6:=bZ (c4.o.keep ap.o (by simp;have:=a9.o;omega));clear b u1 u2;go_wp2_with (first
    | (refine al rfl 36 (.tmp 10) rfl w2.heap.size rfl 36 (stV H n c' (upd f s p) (a+4+(q:Int))) _ c2.o Tryz.underlying36 rfl (by kernel_rfl) ?_)
    | (refine aC rfl 36 (.tmp 8) (.tmp 73) rfl (w.heap.size+1) rfl 36 _ (stV H n c' (upd f s p) (a+4+(q:Int))) rfl c6.o (by kernel_rfl) rfl bW ?_;intro db c3 cd))
   refine bodyPost_ret (v:=.tuple #[.agg (stV H n c' (upd f s p) (a+4+(q:Int))),I 0]) (cL (g:=w.heap.size+1) (t:=36) rfl rfl rfl c3.o Tryz.underlying36 rfl (by kernel_rfl)) rfl ?_;have cj:aa [w.heap.size+1,w2.heap.size] wr db:=D.o.nil.trans ((ap.o.mono (by simp)).trans (cd.o.mono (by simp)));refine⟨_,by rw[he.o],bZ ((a8.o).more cj (fun y Y=>by have:=a9.o;simp at Y;rcases Y with rfl | rfl<;>exact .inr (by omega))),bZ ?_⟩;rw[he.o,hq.o];exact⟨H,n,c',rfl,by rw[om R.o,hn.o],bh.o.shift cj (fun y Y=>.inl (by simp at Y;rcases Y with rfl | rfl<;>simp)) (fun x E=>.inl (by simp[E]))⟩
end Go.Proofs.YtmlmfpikncogpaaGreat
