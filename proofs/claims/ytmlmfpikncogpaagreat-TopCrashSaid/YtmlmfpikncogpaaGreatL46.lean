import Derived.Test.YtmlmfpikncogpaaGreatL45
namespace Go.Proofs.YtmlmfpikncogpaaGreat
open Go.RowKit
set_option linter.unusedSimpArgs false
set_option linter.unusedVariables false
set_option maxRecDepth 100000
set_option maxHeartbeats 16000000
theorem yp (W:World) (f:Nat->Int) {j:Nat} (a:j<8):(Instr.index 34 (.agg (fB f)) (I (j:Int))).run Tryz.prog W=.ok (I (f j)) W:=by
 have h:j=0\/j=1\/j=2\/j=3\/j=4\/j=5\/j=6\/j=7:=by omega
 rcases h with rfl | rfl | rfl | rfl | rfl | rfl | rfl | rfl<;>rfl
theorem l6 {P:Program} {w:World} {e:Array Oper} {rest:List Oper} {o:Oper} {a:Act} {Q:Exit->Act->World->Prop} (j:Region.wanted o (yielded e a.tmps)=true) (i:TypeId) (x:Operand) (p:o.op=.load i x)
 (g:Nat) (r:a.eval x=.pointer (some (U g 2))) (A:Option Addr) (n c:Nat) (f:Nat->Int) (b:Int) (l:Blk w g 36 (stV A n c f b)) (d:TypeDesc)
 (q:P.underlying i=some d) (k:(match d with | .struct _ | .array _ _=>true | _=>false)=true) (m:(P.info? i).map (·.size)=some 8)
 (h:wpList P e Q rest (a.put o.dst (.agg (fB f))) w):wpList P e Q (o::rest) a w:=
 eE j i x p g 2 8 r 36 (stV A n c f b).toList d (by simpa using l) q k m (by simp[stV]) h
def jz (f g:Nat->Int):Bool:=(List.range 8).all fun j=>decide (f j=g j)
theorem gZ {f g:Nat->Int}:jz f g=true↔∀j,j<8->f j=g j:=by
 unfold jz;rw[List.all_eq_true];exact⟨fun h j a=>of_decide_eq_true (h j (List.mem_range.2 a)),fun h j a=>decide_eq_true (h j (List.mem_range.1 a))⟩
theorem AL:∀ {l:Tab},fN l->∀ {k:Nat} {x:Int×List Val},l[k]? =some x->dm x.1 l=true/\cJ x.1 l=some x.2:=by
 intro l h k x c;refine rH (j:=k) (fun y m=>?_) c rfl;obtain⟨i,b⟩:=DQ m;have a:i<k:=by have:=(CV.1 b).1;rw[CY] at this;omega
 rw[Dx,if_pos a] at b;obtain⟨f,d⟩:=CV.1 b;obtain⟨g,e⟩:=CV.1 c;have:=Ex.1 h i k f g a;rw[d,e] at this;omega
theorem kY {lo:Nat->Prop} (w:World) (x bd bs:Nat) (s:Dk.St) (ts R:List TS) (f a:Nat->Int) (ep:Nat) (lv:Value) (X:List Nat) (m:Int) (v0:Value) (h:jH lo w x bd bs s ts f ep lv) (hg:Gd 52 ts) (hv:SSt w X R a m v0) (b:(∀j,j<8->f j=a j)->R=ts):
 Calls Tryz.prog 15 #[.pointer (V x),v0] w fun e w'=>e=.returned (.bool (jz f a))/\Z (aa [] w w'):=by
  obtain⟨A,n,c,rfl,hn,hS⟩:=hv;have b3:Z ((∃j,j<8/\f j≠a j)->jz f a=false):=bZ (fun ⟨j,h1,h2⟩=>by
   cases hb:jz f a with
   | false=>rfl
   | true=>exact absurd (gZ.1 hb j h1) h2)
  have b4:Z ((∀j,j<8->f j=a j)->jz f a=true):=bZ (fun h=>gZ.2 h);generalize jz f a=rb at*;have P:aa [] w (w.alloc (.cells (stV A n c a m) 36)):=(aa.refl [] w).alloc _;have B0:=Blk.new w 36 (stV A n c a m);generalize c9:w.alloc (.cells (stV A n c a m) 36)=w1 at*;have ac:Z (∀W,aa [] w W->∀k,k<8->Calls Tryz.prog 18 #[.pointer (V x),I ((k:Nat):Int)] W fun e w'=>e=.returned (I (f k))/\W=w'):=bZ (fun W kk k hk=>by
   obtain⟨⟨st,F,hB,a2,r⟩,hd⟩:=h;exact lW W x bd bs s ts f ep lv ⟨⟨st,F,hB.keep kk (by simp),a2.keep kk (by simp),r⟩,hd.keep kk (by simp) (by simp)⟩ k hk)
  have bh:Z (Calls Tryz.prog 44 #[.pointer (V x)] w1 (jc w1 ts)):=bZ (by
   obtain⟨⟨st,F,hB,a2,r⟩,hd⟩:=h;exact zK w1 x bd bs s ts f ep lv ⟨⟨st,F,hB.keep P (by simp),a2.keep P (by simp),r⟩,hd.keep P (by simp) (by simp)⟩ (hg.enc (by decide)) (fun t ht=>Dc (hg.2 t ht).len (by decide)))
  have bi:=bZ (hS.shift P (by simp) (fun y hy=>.inl hy));have hX:Z (w.heap.size<w1.heap.size):=bZ B0.lt;replace B0:=bZ B0;replace P:=bZ P;replace hg:=bZ hg;replace hn:=bZ hn;replace b:=bZ b;clear h hS;go_enter Tryz.func15,Tryz.ntmps15;go_wp2_with (refine l6 rfl 34 (.tmp 14) rfl w.heap.size rfl A n c a m B0.o _ Tryz.underlying34 rfl (by kernel_rfl) ?_);go_loopw [16] (fun u wr=>∃j:Nat,j<=8/\u=I (j:Int)/\Z (∀i,i<j->f i=a i)/\w1=wr) (fun u _=>8 - (intOf u).toNat)
  case atStart=>exact⟨0,C3 _,rfl,bZ (fun i hi=>absurd hi (Fr _)),rfl⟩
  obtain⟨j,hj,rfl,J,rfl⟩:=hrel;by_cases C:j<8
  ·have c5:(j:Int)<8:=by omega
   have wj:IntKind.i64.wrap ((j:Int)+1)=(j:Int)+1:=C0 _ (by omega);have bt:=yp w1 a C;have a7:=bZ (ac.o w1 P.o j C);by_cases Y:f j=a j
   ·have hb:(f j !=a j)=false:=by simp[Y]
    have bl:Z (∀i,i<j+1->f i=a i):=bZ (fun i hi=>by
     rcases DR i j with h | h
     ·exact J.o i h
     obtain rfl:i=j:=by omega
     exact Y)
    replace Y:=bZ Y;go_wp2_with (go_at_call 18;refine a7.o.mono ?_;rintro e w2 ⟨rfl,rfl⟩);go_roundw
    case rel=>exact⟨j+1,by omega,by go_num,bl,by trivial⟩
    case measure=>simp[intOf];omega
   have hb:(f j !=a j)=true:=by simpa using Y
   obtain rfl:rb=false:=b3.o ⟨j,C,Y⟩;go_wp2_with (go_at_call 18;refine a7.o.mono ?_;rintro e w2 ⟨rfl,rfl⟩);go_ret;exact⟨rfl,P⟩
  obtain rfl:j=8:=by omega
  obtain rfl:R=ts:=b.o J.o;obtain rfl:rb=true:=b4.o J.o;have z0:w1.cell? (U w.heap.size 1)=G A n c:=B0.o.cell 1;clear J b3 b4 b ac;have ba:=hn.o;have c8:n<=4:=by rw[<-ba];exact hg.o.1
  obtain⟨qs,a5,a4⟩:=bi.o;clear ba;replace a5:=bZ a5;replace a4:=bZ a4;go_wp2_with (go_at_call 44;refine bh.o.mono ?_;rintro e w2 ⟨bp,F1,rfl,b0,a3,c3⟩;have z1:w2.cell? (U w.heap.size 1)=G A n c:=(B0.o.keep a3.o (by simp)).cell 1);go_loopw [33] (fun u wr=>∃i:Nat,i<=n/\u=I (i:Int)/\Z (aa [] w2 wr)) (fun u _=>n - (intOf u).toNat)
  case atStart=>exact⟨0,C3 _,rfl,bZ (aa.refl _ _)⟩
  obtain⟨i,hi,rfl,L⟩:=hrel;obtain⟨z,bn⟩:∃x,x=wr:=⟨_,rfl⟩;subst bn;clear z0 z1;by_cases C:i<n
  ·have c4:(i:Int)<(n:Int):=by omega
   have wi:IntKind.i64.wrap ((i:Int)+1)=(i:Int)+1:=C0 _ (by omega);obtain⟨t,ht⟩:∃t,R[i]? =some t:=⟨_,CT (by rw[hn.o];exact C)⟩;have O:=hg.o.2 t (CW ht);obtain⟨q,Y,q1,q2,q3,rs,q4,q5⟩:=a5.o.at ht;obtain⟨gA,oA,rfl,_,y0,y1,y2⟩:=lu a4.o Y;obtain⟨cb,qA,qn,qc,qx⟩:=q;dsimp only at q1 q2 q3 q4 q5 y0 y1 y2;subst q2;have D:aa [] w1 z:=a3.o.trans L.o;obtain⟨p,Fi,hT,_,⟨gt,tc,t1,t2⟩,_,_⟩:=(b0.o.keep L.o (by simp)).at ht;rw[hn.o] at t1;have a8:=bZ (qK z bp i p n tc gt t1 t2 C);have a0:Z (∀W,aa [] z W->Calls Tryz.prog 46 #[ptr p] W fun e w'=>e=.returned (I ((t.l.length:Nat):Int))/\W=w'):=bZ (fun W k=>qP W p t.cols t.l t.next Fi (hT.keep k (by simp)));have a9:Z (∀W,aa [] z W->∀id,Calls Tryz.prog 47 #[ptr p,I id] W (ot W id t.l)):=bZ (fun W k id=>qQ W p t.cols t.l t.next Fi (hT.keep k (by simp)) id);have a1:Z (∀W,aa [] z W->W.cell? (U w.heap.size 1)=G (some (U gA oA)) n c/\W.cell? (U gA (oA+i*3+1))=G qA t.l.length qc):=bZ (fun W k=>⟨(B0.o.keep (D.trans k) (by simp)).cell 1,(D.trans k).cellEq y1 (by simp)⟩);have b1:Z (∀(k:Nat) (x:Int×List Val),t.l[k]? =some x->dm x.1 t.l=true/\cJ x.1 t.l=some x.2):=bZ (fun k x hx=>AL O.asc hx);have ap:Z (∀W,aa [] z W->∀(k:Nat) (x:Int×List Val),t.l[k]? =some x->∃g off B d,qA=some (U g off)/\W.cell? (U g (off+k*2))=some (I x.1)/\W.cell? (U g (off+k*2+1))=G B x.2.length d/\ah W X B x.2/\x.2.length<=10/\∀v∈x.2,v.ok):=bZ (fun W k j x hx=>by
    obtain⟨r,hr,e1,e2,e3,e4,e5⟩:=q4.at hx;obtain⟨g,off,rfl,_,c1,c2⟩:=gF q5 hr;rw[e1] at c1;rw[e2] at c2;exact⟨g,off,r.A,r.c,rfl,(D.trans k).cellEq c1 (by simp),(D.trans k).cellEq c2 (by simp),e3.shift (D.trans k) (by simp) (fun y hy=>.inl hy),by rw[e4];exact O.hc.2,e5⟩)
   obtain⟨Q,E⟩:∃q,t.l.length=q:=⟨_,rfl⟩;have c0:Q<=52:=by rw[<-E];exact O.len
   rw[E] at a0 a1;have hb:((Q:Int) !=(Q:Int))=false:=by simp
   replace E:=bZ E;obtain⟨z1,z2⟩:=a1.o z (aa.refl _ _);unfold ptr at a8 a0 a9;clear y0 y1 y2 q3 t1 t2 hT q4 q5 D O;go_wp2_with (go_at_call 45;refine a8.o.mono ?_;rintro e w4 ⟨rfl,rfl⟩);refine ad (S:=(fun w':World=>w'.cell? (U w.heap.size 1)=G (some (U gA oA)) n c/\w'.cell? (U gA (oA+i*3+1))=G qA Q qc)) (n:=14) (by kernel_rfl) ?_;have HS:=a1.o z.drew (aa.refl [] z).drew;have b6:Z (aa [] z z.drew):=bZ (aa.refl [] z).drew;generalize z.drew=wd at*;refine ord [0,1,2,3,5,6,7,8,9,10,11] ?_
   iterate 11 (refine tq HS ?_;try simp only[PT,Y1,Y2,Y3])
   refine av ?_;refine J1 4 fun K hK=>?_;dsimp only[Y1,Y2,Y3];go_simp;refine(a0.o wd b6.o).mono ?_;rintro e w5 ⟨rfl,rfl⟩;refine hK _ _ (.inr HS) ?_;clear hK K
   try simp only[PT,Y1,Y2,Y3]
   refine ord [12,13] ?_
   iterate 2 (refine tq HS ?_;try simp only[PT,Y1,Y2,Y3])
   refine av ?_;refine JD ?_;obtain⟨z3,z4⟩:=HS;go_wp2_with fail;go_loopw [60] (fun a6 wx=>∃k:Nat,k<=Q/\a6=I (k:Int)/\Z (aa [] z wx)) (fun a6 _=>Q - (intOf a6).toNat)
   case atStart=>exact⟨0,C3 _,rfl,b6⟩
   obtain⟨k,hk,rfl,M⟩:=hrel;clear z1 z2 z3 z4;by_cases b9:k<Q
   ·have c6:(k:Int)<(Q:Int):=by omega
    have wk:IntKind.i64.wrap ((k:Int)+1)=(k:Int)+1:=C0 _ (by omega);obtain⟨x,hx⟩:∃x,t.l[k]? =some x:=⟨_,CT (by rw[E.o];exact b9)⟩;obtain⟨g,off,B,d,rfl,c1,c2,hR,ak,N⟩:=ap.o wr M.o k x hx;obtain⟨g1,g2⟩:=b1.o k x hx;obtain⟨id,row⟩:=x;dsimp only at c1 c2 hR ak N g1 g2;have ka:aa [] wr (wr.alloc (.cells #[I id,.slice B row.length d] 117)):=(aa.refl [] wr).alloc _;have BI:=Blk.new wr 117 #[I id,.slice B row.length d];have H7:=bZ (a9.o _ (M.o.trans ka) id);have H8:Z (∀W A1 n1 d1,aa [] wr W->row.length=n1->ah W [] A1 row->Calls Tryz.prog 48 #[.slice A1 n1 d1,.slice B row.length d] W fun e w'=>e=.returned (.bool true)/\Z (aa [] W w')):=bZ (fun W A1 n1 d1 kk e1 e2=>by
     have:=xx W [] X A1 B row row n1 d1 row.length d e1 rfl e2 (hR.shift kk (by simp) (fun y hy=>.inl hy)) (by omega) (by omega) (fun v hv=>dI (N v hv)) (fun v hv=>dI (N v hv));rwa [decide_eq_true rfl] at this)
    have an:Z (∀W,aa [] (wr.alloc (.cells #[I id,.slice B row.length d] 117)) W->W.cell? (U wr.heap.size 1)=G B row.length d):=bZ (fun W kk=>(BI.keep kk (by simp)).cell 1);replace g1:=bZ g1;replace g2:=bZ g2;replace ka:=bZ ka;replace hx:=bZ hx;obtain⟨rn,H⟩:∃q,row.length=q:=⟨_,rfl⟩;rw[H] at c2 H8 an ka H7;rw[H] at ak;replace H:=bZ H;clear hR N BI;go_wp2_with (first
     | (go_at_call 47;(refine H7.o.mono ?_;rintro e w7 ⟨A7,n7,c7,b7,rfl,b2,bb,b5,_⟩;obtain rfl:b7=true:=b2.o.trans g1.o;obtain⟨b8,ar⟩:=bb.o row g2.o;have z7:=an.o w7 b5.o;have T:=bZ (ka.o.trans b5.o);have H9:=bZ (H8.o w7 A7 n7 c7 T.o (H.o.symm.trans b8) ar);clear b2 bb b8 ar))
     | (go_at_call 48;refine H9.o.mono ?_;rintro e w9 ⟨rfl,bk⟩))
    go_roundw
    case rel=>exact⟨k+1,by omega,by go_num,bZ (M.o.trans (T.o.trans bk.o))⟩
    case measure=>simp[intOf];omega
   obtain rfl:k=Q:=by omega
   go_wp2_with fail;go_roundw
   case rel=>exact⟨i+1,by omega,by go_num,bZ (L.o.trans M.o)⟩
   case measure=>simp[intOf];omega
  obtain rfl:i=n:=by omega
  go_wp2_with fail;go_ret;exact⟨rfl,bZ (P.o.trans (a3.o.trans L.o))⟩
theorem mo (ts:List TS) (f:Nat->Int):(stB ts f).length=64+(aN ts).length:=by unfold stB;rw[CU,eX]
theorem Lv.recs {E:Nat} {s:Dk.St} {ts:List TS} {f:Nat->Int} {ep:Nat} {L:List UInt8} (h:Lv E s ts f ep L) (i:E<=2000000):∃cs,Sd E s ts f ep cs/\Wa.cg (Wa.cT (Dk.sec s) ep 29 31)=cs.map Cm.bytes:=by
 obtain⟨e,g,c,cs,a,b⟩:=h;have j:=a.e1;refine⟨cs,a,?_⟩;rw[Wa.pM c (by omega) (by omega),b];have:=Wa.fT (cs.map Cm.bytes) [] (fun r d=>by have:=kT d;rw[<-b] at this;omega);rw[DA] at this;rw[this,Wa.dg (by simp),DA]
theorem cx.disk {lo:Nat->Prop} {w w':World} {x a e l:Nat} {s r:Dk.St} {ts:List TS} {f:Nat->Int} {ep:Nat} {L:List UInt8} {q:Nat} (h:cx lo w x a e l s ts f ep L q) (k:aa [a] w w') (D:Dk.aZ w' a e r):cx lo w' x a e l r ts f ep L q:=by
 obtain⟨⟨H,F,m,u,v,n,z,B,C⟩,i,o⟩:=h;obtain⟨A,c,j,_⟩:=o.ex;exact⟨⟨H,F,m.keep k (by simp;exact m.ne_ i.d (by decide)),u.keep k (fun y p b=>by simp at p;subst p;exact n b),v,n,z,B,C⟩,D,o.keep k (by simp;exact j.ne_ i.d (by decide)) (fun g t E _ b=>by simp at b;subst b;exact(E.ne_ i.d (by decide)) rfl)⟩
theorem cx.keep {lo:Nat->Prop} {w w':World} {x e j i:Nat} {s:Dk.St} {ts:List TS} {f:Nat->Int} {ep:Nat} {L:List UInt8} {m:Nat} (h:cx lo w x e j i s ts f ep L m) {Y:List Nat} (d:aa Y w w') (c:∀y∈Y,¬lo y/\y≠x/\y≠e/\y≠j/\y≠i) (k:∀g b,Blk w g 5 b->g∉Y):cx lo w' x e j i s ts f ep L m:=by
 obtain⟨⟨B,F,n,o,p,q,r,t,l⟩,u,v⟩:=h;exact⟨⟨B,F,n.keep d (fun a=>(c _ a).2.1 rfl),o.keep d (fun y A a=>by exact(c y A).1 (l y a)),p,q,r,t,l⟩,u.keep d (fun a=>(c _ a).2.2.1 rfl) (fun a=>(c _ a).2.2.2.1 rfl),v.keep d (fun a=>(c _ a).2.2.2.2 rfl) (fun g b z _=>k g b z)⟩
theorem cx.keep0 {lo:Nat->Prop} {w w':World} {x a c b:Nat} {s:Dk.St} {ts:List TS} {f:Nat->Int} {ep:Nat} {L:List UInt8} {d:Nat} (h:cx lo w x a c b s ts f ep L d) (e:aa [] w w'):cx lo w' x a c b s ts f ep L d:=h.keep e (by simp) (fun _ _ _=>by simp)
def CA (w:World) (b c E:Nat) (s:Dk.St) (ts:List TS) (f:Nat->Int) (e:Ending) (w':World):Prop:=
 ∃v d a,e=.returned (.tuple #[v,I d])/\Z (aa [b,c] w w')/\Z (Dk.aZ w' b c a)/\Z (0<=a.writes/\a.writes<=s.writes+1000)/\
  Z ((d=15/\v=.pointer none/\a.down=true/\a.left=0/\s.left≠0/\On (E+30) a ts f)\/
   (d=0/\∃x g ep,v=.pointer (V x)/\a.down=false/\(s.left=0->a.left=0)/\cx (fun y=>w.heap.size<=y) w' x b c g a ts f ep [] 0/\Lv (E+30) a ts f ep []/\w.heap.size<=x/\w.heap.size<=g))
theorem iM (w:World) (l p E:Nat) (s:Dk.St) (T:Dk.aZ w l p s) (z:s.down=false) (ts:List TS) (f:Nat->Int) (W:On E s ts f) (hE:E+30<=1000000) (j:0<=s.writes) (hw:s.writes<=900000)
 (P:Nat->Prop) (A:Option Addr) (n c:Nat) (k:List (List Value)) (cols:List Nat) (X:dU w P A k cols) (hn:cols.length=n) (C:n<=4) (g:ts.map (·.cols)=cols):
 Calls Tryz.prog 11 #[.pointer (V l),.slice A n c] w (CA w l p E s ts f):=by
  obtain⟨ep,cs,a,H⟩:=W;obtain⟨F,R,N,r2,r3,O⟩:=a.ex;rw[fq z] at N;have Y:=a.e1;have K:=a.fit;have J:=a.few;refine(By w l p s T z a.n F ts R f ep N a.e0 (by omega) r2 r3 cs H O (by omega) j hw P A n c k cols X hn C (by rw[<-g];exact O.cols.symm)).mono ?_;rintro e w' ⟨m,q,hm,M,L,i,D⟩;have h:=gi s m (stB ts f) j;rw[mo,<-M] at h;have b:=On.renew a H z (by omega) hm M;rcases D with ⟨r,rfl⟩ | ⟨r,x,Q,rfl,B,hx,y⟩
  ·rcases b with ⟨d,_⟩ | ⟨d,t,u,v,S⟩
   ·exact absurd d r
   exact⟨_,_,q.1,rfl,L,i,bZ ⟨h.1,by omega⟩,bZ (.inl ⟨d,rfl,t,v,u,S⟩)⟩
  rcases b with ⟨d,t,u,v⟩ | ⟨d,_⟩
  ·exact⟨_,_,q.1,rfl,L,i,bZ ⟨h.1,by omega⟩,bZ (.inr ⟨rfl,x,Q,m,rfl,t,u,B.o,v,hx,y⟩)⟩
  rw[r] at d;cases d
def CH (lo:Nat->Prop) (w:World) (x b c E:Nat) (s:Dk.St) (ts:List TS) (f:Nat->Int) (e:Ending) (w':World):Prop:=
 ∃d a,e=.returned (I d)/\Z (aa [x,b,c] w w')/\Z (Dk.aZ w' b c a)/\Z (0<=a.writes/\a.writes<=s.writes+1000)/\
  Z ((d=15/\a.down=true/\On (E+30) a ts f)\/(d=0/\∃g ep,a.down=false/\cx lo w' x b c g a ts f ep [] 0/\Lv (E+30) a ts f ep []/\w.heap.size<=g))
theorem nX {lo:Nat->Prop} (w:World) (x k p D E:Nat) (s:Dk.St) (ts:List TS) (f:Nat->Int) (ep:Nat) (L:List UInt8) (Y:Nat) (h:cx lo w x k p D s ts f ep L Y) (y:Lv E s ts f ep L) (hE:E+30<=1000000) (d:0<=s.writes) (T:s.writes<=900000):
 Calls Tryz.prog 10 #[.pointer (V x)] w (CH lo w x k p E s ts f):=by
  have z:=y.1;obtain⟨cs,a,M⟩:=y.recs (by omega);obtain⟨a0,f0,r1,W,X,C⟩:=a.ex;have O:=C.gd X;have c:=C.nums W;have N:=a.e1;have A:=a.fit;refine(qh w x k p s ts f ep _ rfl h.pre z a.n (by omega) (fun j P=>by have:=c j P;omega) d T (by omega) (fun t S=>Dc (O.2 t S).len (by decide))).mono ?_;rintro e w' ⟨m,q,R,B,rfl,Q,u,b⟩;have g:=gi s m (stB ts f) d;rw[mo,<-B] at g;refine⟨_,q.1,rfl,Q,u,bZ ⟨g.1,by omega⟩,bZ ?_⟩;rcases On.renew a M z (by omega) R B with ⟨i,r,F,v⟩ | ⟨i,r,F,v,H⟩
  ·obtain⟨l,J,K⟩:=b i;exact .inr ⟨i,l,m,r,J.o,v,K⟩
  exact .inl ⟨i,r,H⟩
theorem pw {ts b:List TS} {f:Nat->Int} {a:Int} {k:Nat} {c:Int} {l:List Chg} {d:Int} (h:di ts f a k c l=(d,some b)):d=0/\f k<c/\aQ ts l=some b/\((16+(cM l).length:Nat):Int)<=1707 - a/\64+(aN b).length<=896:=by
 unfold di at h
 split at h
 ·injection h with _ h;cases h
 rename_i h1
 split at h
 ·injection h with _ h;cases h
 rename_i t2 h2
 split at h
 ·injection h with _ h;cases h
 rename_i h3;injection h with h4 h5;injection h5 with h5;subst h5;exact⟨h4.symm,by omega,h2,by omega,by omega⟩
theorem px {ts:List TS} {f:Nat->Int} {a:Int} {k:Nat} {c:Int} {l:List Chg} {b:Int} (h:di ts f a k c l=(b,none)):b=1\/b=16:=by
 unfold di at h
 split at h
 ·injection h with h _;exact .inl h.symm
 split at h
 ·injection h with h _;exact .inl h.symm
 split at h
 ·injection h with h _;exact .inr h.symm
 injection h with _ h;cases h
def Bi (w:World) (x h i j E:Nat) (s:Dk.St) (ts:List TS) (f:Nat->Int) (ep:Nat) (L:List UInt8) (m k:Nat) (b:Int) (l:List Chg) (e:Ending) (w':World):Prop:=
 ∃d,e=.returned (I d)/\Z ((di ts f L.length k b l=(d,none)/\(d=1\/d=16)/\aa [] w w')\/
  ∃a c,di ts f L.length k b l=(0,some a)/\aa [x,j,h,i] w w'/\Dk.aZ w' h i c/\(0<=c.writes/\c.writes<=s.writes+2000)/\(∀t∈a,True)/\Gd 52 a/\a.map (·.cols)=ts.map (·.cols)/\
   ((d=15/\c.down=true/\s.left≠0/\(On E c ts f\/On E c a (upd f k b)))\/
    (d=0/\c.down=false/\(s.left=0->c.left=0)/\∃g,g.length=L.length+4+(16+(cM l).length)/\cx (fun y=>w.heap.size<=y) w' x h i j c a (upd f k b) ep g (m+1)/\Lv E c a (upd f k b) ep g)))
theorem zI {s:Dk.St} {i:Int} {b:List UInt8} (c:s.left=0) (a:s.down=false):(Dk.wr s i b).2≠15/\(Dk.wr s i b).1.left=0/\(Dk.wr s i b).1.down=false:=by
 unfold Dk.wr
 split
 ·refine⟨?_,c,a⟩;unfold Dk.cKd;rw[if_neg (by rw[a];decide)];dsimp only
  split<;>decide
 split
 ·exact⟨by show (1:Int)≠15;decide,c,a⟩
 rw[if_neg (by omega)];exact⟨by show (0:Int)≠15;decide,by dsimp only;rw[if_neg (by omega)];exact c,a⟩
theorem mH (ep:Nat):∀(f:Nat) (s:Dk.St) (i:Nat) (d:List UInt8),s.left=0->s.down=false->(Wa.wrs s i ep f d).2≠15/\(Wa.wrs s i ep f d).1.left=0
 | 0,s,i,d,h,_=>⟨by show (0:Int)≠15;decide,h⟩
 | f+1,s,i,d,h,hd=>by
  by_cases a:d=[]
  ·subst a;rw[Wa.ml];exact⟨by show (0:Int)≠15;decide,h⟩
  obtain⟨g,e,j⟩:=zI (i:=(i:Int)) (b:=Wa.bq (d.take 59) ep) h hd;by_cases c:(Dk.wr s i (Wa.bq (d.take 59) ep)).2=0
  ·rw[Wa.pF a c];exact mH ep f _ (i+1) (d.drop 59) e j
  rw[Wa.mm a c];exact⟨g,e⟩
theorem jU {lo:Nat->Prop} (w:World) (x J M K E:Nat) (s:Dk.St) (ts:List TS) (f:Nat->Int) (ep:Nat) (L:List UInt8) (H:Nat) (h:cx lo w x J M K s ts f ep L H) (C:Lv E s ts f ep L) (hE:E<=1000000) (k:Nat) (hk:k<8) (a:Int) (u: -9223372036854775808<=a/\a<9223372036854775808)
 (W:Option Addr) (l:List Chg) (m d:Nat) (hl:l.length=m) (hm:m<=6) (hC:iC w [] W l) (b:∀c∈l,c.old.length<=10/\c.new.length<=10/\(∀v∈c.old,v.fits)/\(∀v∈c.new,v.fits)) (z:0<=s.writes) (hw:s.writes<=800000) (S:H+1<=1000000):
 Calls Tryz.prog 14 #[.pointer (V x),I (k:Int),I a,.slice W m d] w (Bi w x J M K E s ts f ep L H k a l):=by
  obtain⟨cs,r,hR⟩:=C.recs (by omega);obtain⟨a3,f0,r1,r2,r3,r4⟩:=r.ex;have P:=r4.gd r3;have y:=r4.nums r2;have Y:=C.1;have a1:=C.2.1;refine(yW w x J M K s ts f ep L H h P r.n y k hk a u W l m d hl hm hC b z hw S).mono ?_;rintro e w' (⟨er,g,rfl,j⟩ | ⟨p,D,q,g,X,F,rfl,j,O,i⟩)
  ·exact⟨er,rfl,bZ (.inl ⟨g,px g,j.o⟩)⟩
  obtain⟨_,c1,B,c3,c4⟩:=pw g;have a2:=ni k a l;have a0:D.length<=2000:=by rw[X,CU,Da,Wa.cQ];omega
  have A:=mG ep D.length s (31+L.length/59) D z;rw[<-F] at A;have Q:=gS P B;have t:Gd 52 p:=Q.tight (by omega);have R:=lM P B (fun c g=>by have:=b c g;omega);have T:uU ts f ⟨k,a,l⟩ p:=⟨hk,c1,u.2,by dsimp only;omega,R,B,t⟩;refine⟨q.2,rfl,bZ (.inr ⟨p,q.1,g,j.o,O.o,⟨A.1,by omega⟩,fun _ _=>trivial,t,l4 B,?_⟩)⟩;rcases Lv.commit (c:=⟨k,a,l⟩) C (by omega) T (by omega) (by show L.length+((jw k a l).length+4)<=1711;omega) X F with ⟨g1,g2,g3⟩ | ⟨g1,g2,g3⟩
  ·exact .inr ⟨g1,g2,fun N=>by rw[F];exact(mH ep _ _ _ _ N Y).2,_,by rw[CU,Wa.cQ];show L.length+((jw k a l).length+4)=_;omega,(i g1).o,g3⟩
  exact .inl ⟨g1,g2,fun N=>by have:=(mH ep D.length s (31+L.length/59) D N Y).1;rw[<-F] at this;exact this g1,g3⟩
def CB (w:World) (b c:Nat) (cols:List Nat) (e:Ending) (w':World):Prop:=
 ∃a,e=.returned (I 0)/\Z (aa [b,c] w w')/\Z (Dk.aZ w' b c a)/\Z (0<=a.writes/\a.writes<=1000)/\Z (a.down=false/\a.left=0/\On 40 a (cols.map emp) (fun _=>0))
theorem ud (k:Nat) (a:k<60):Dk.sec (Dk.st0 60) k=List.replicate 64 0:=by
 unfold Dk.sec Dk.st0;simp only[List.drop_replicate,List.take_replicate]
 congr 1
 omega
theorem sS (w:World) (o p:Nat) (D:Dk.aZ w o p (Dk.st0 60)) (P:Nat->Prop) (A:Option Addr) (n c:Nat) (k:List (List Value)) (cols:List Nat) (H:dU w P A k cols) (M:cols.length=n) (u:n<=4) (g:∀c∈cols,1<=c/\c<=10):
 Calls Tryz.prog 22 #[.pointer (V o),.slice A n c] w (CB w o p cols):=by
  have h:Sn.root (Dk.st0 60)=0:=by unfold Sn.root;rw[ud 0 (by decide)];rfl
  have a:Sn.bad (Dk.st0 60)=0:=Sn.ql rfl (by decide) (by decide) (by omega);have y:Sn.hEp (Dk.sec (Dk.st0 60) (1+Sn.root (Dk.st0 60)))=0:=by rw[h,ud (1+0) (by decide)];rfl
  have J:=yL (cols:=cols) (by omega) g;have z:(aN (cols.map emp)).length<=64:=by
   have:∀l:List Nat,(aN (l.map emp)).length=16*l.length:=fun l=>by
    induction l with
    | nil=>rfl
    | cons x r ih=>
     have e:aN ((x::r).map emp)=fP (emp x)++aN (r.map emp):=by simp[aN]
     have B:(fP (emp x)).length=16:=by unfold fP;rw[CU,CU,Cod.ag,Cod.ag];rfl
     rw[e,CU,B,ih,Dj];omega
   rw[this];omega
  refine(yF w o p (Dk.st0 60) D rfl rfl (Sn.sF a y) (by decide) (by decide) P A n c k cols H M u g).mono ?_;rintro e w' ⟨m,q,L,v,rfl,K,t⟩;obtain⟨N,R,O⟩:=jR L (by decide);have i:=gi (Dk.st0 60) m (stB (cols.map emp) (fun _=>0)) (by decide);rw[mo,<-v] at i;have C:Sn.area (Dk.st0 60).n=14:=rfl;have d:(Dk.st0 60).mem.length=64*(Dk.st0 60).n:=by unfold Dk.st0;rw[DG]
  have f:=Sn.j3 (s:=Dk.st0 60) (ep:=m) (b:=stB (cols.map emp) (fun _=>0)) a d (by rw[y];omega) (by rw[C,mo];omega);rw[<-v] at f;rcases f with f | f
  ·have F:=uH (E:=40) rfl d a O N (by omega) (by decide) (fun j _=>⟨by decide,by decide⟩) J (by omega) v f;have Q:(Dk.st0 60).writes=0:=rfl;exact⟨q.1,by rw[f.ok],K,t,bZ ⟨i.1,by omega⟩,bZ ⟨f.down,f.left rfl,F.on (by decide)⟩⟩
  exact absurd rfl f.left
def shB (l:List Val):Bool:=decide (l.length<=10/\∀v∈l,v.s.size<=40)
theorem uc (w:World) (X:List Nat) (A:Option Addr) (l:List Val) (n c:Nat) (d:l.length=n) (q:ah w X A l) (E:n<=9223372036854775807):Calls Tryz.prog 19 #[.slice A n c] w fun e w'=>e=.returned (.bool (shB l))/\w=w':=by
 have k:Z (¬(l.length<=10/\∀v∈l,v.s.size<=40)->shB l=false):=bZ (fun h=>decide_eq_false h);have r:Z ((l.length<=10/\∀v∈l,v.s.size<=40)->shB l=true):=bZ (fun h=>decide_eq_true h);generalize shB l=b at*;replace d:=bZ d;replace q:=bZ q;go_enter Tryz.func19,Tryz.ntmps19;go_wp2_with fail;go_loopw [3] (fun a wr=>∃i:Nat,i<=n/\a=I (i:Int)/\Z (∀v∈l.take i,v.s.size<=40)/\w=wr) (fun a _=>n - (intOf a).toNat)
 case atStart=>exact⟨0,C3 _,rfl,bZ (by simp),rfl⟩
 obtain⟨i,D,rfl,m,rfl⟩:=hrel;by_cases t:i<n
 ·have C:(i:Int)<(n:Int):=by omega
  have F:IntKind.i64.wrap ((i:Int)+1)=(i:Int)+1:=C0 _ (by omega);obtain⟨v,p⟩:∃v,l[i]? =some v:=⟨_,CT (by rw[d.o];exact t)⟩;obtain⟨g,off,rfl,_,H,J,K⟩:=q.o i v p;by_cases B:(40:Int)<(v.s.size:Int)
  ·have j:=bZ (k.o (fun h=>by have:=h.2 v (CW p);omega));go_wp2_with fail;go_ret;exact⟨by rw[j.o];rfl,rfl⟩
  have x:Z (∀v∈l.take (i+1),v.s.size<=40):=bZ (fun u y=>by
   rw[Dq,p] at y;rcases CX.1 y with h | h
   ·exact m.o u h
   simp at h;subst h;omega)
  replace p:=bZ p;go_wp2_with fail;go_roundw
  case rel=>exact⟨i+1,by omega,by go_num,x,by trivial⟩
  case measure=>simp[intOf];omega
 obtain rfl:i=n:=by omega
 have f:Z (∀v∈l,v.s.size<=40):=bZ (by have:=m.o;rwa [C6 (by rw[d.o];exact C9 _)] at this);by_cases z:(i:Int)<=10
 ·have j:=bZ (r.o ⟨by rw[d.o];omega,f.o⟩);go_wp2_with fail;go_ret;exact⟨by rw[j.o];rfl,rfl⟩
 have j:=bZ (k.o (fun h=>by have:=h.1;rw[d.o] at this;omega));go_wp2_with fail;go_ret;exact⟨by rw[j.o];rfl,rfl⟩
structure TD where
 cols:Nat
 kl:List Nat
 fl:List Nat
def TD.sm (d:TD):Prop:=d.cols<=10/\d.kl.length<=5/\d.fl.length<=5/\(∀n∈d.kl,n<=10)/\∀n∈d.fl,n<=10
def mj (w:World) (P:Nat->Prop) (v:Value) (n:Nat):Prop:=∃A c k,v=.slice A n c/\List.length k=n/\n<=maxLen/\aL w P A (nJ k)
structure wS (w:World) (P:Nat->Prop) (vs:List Value) (d:TD):Prop where
 out_:∃nm cA cc kA kc fA fc hA hn hc news ks fs,vs=[.string nm,.slice cA d.cols cc,.slice kA d.kl.length kc,.slice fA d.fl.length fc,.slice hA hn hc]/\List.length news=d.cols*6/\(∀u∈news,u.oneCell'=true)/\aL w P cA news/\
  aJ (mj w P) ks d.kl/\aL w P kA ks/\List.length fs=d.fl.length*3/\aL w P fA fs/\(∀i n,d.fl[i]? =some n->∃x y z,fs[i*3]? =some x/\fs[i*3+1]? =some y/\fs[i*3+2]? =some z/\mj w P x n/\(∃n,y=I n)/\∃n,z=I n)
 b:d.cols<=maxLen/\d.kl.length<=maxLen/\d.fl.length<=maxLen
def ou (w:World) (P:Nat->Prop) (A:Option Addr) (a:List (List Value)) (b:List TD):Prop:=aL w P A a.flatten/\aJ (wS w P) a b
theorem mj.v {w:World} {P:Nat->Prop} {v:Value} {n:Nat} (h:mj w P v n) (f:n<=10):iB w P v:=by
 obtain⟨A,c,k,a,b,e,d⟩:=h;exact⟨A,n,c,k,a,b,by omega,d⟩
theorem wS.v {w:World} {P:Nat->Prop} {g:List Value} {d:TD} (h:wS w P g d) (N:d.sm) (L:1<=d.cols):oO w P g d.cols:=by
 obtain⟨T,j,k,Q,R,l,m,K,c,b,a,S,o,A,B,C,D,e,E,F,H,J⟩:=h.out_;obtain⟨Y,s2,s3,W,X⟩:=N;refine⟨⟨T,j,k,Q,d.kl.length,R,l,d.fl.length,m,K,c,b,a,S,o,A,B,C,D,e.len,by omega,E,fun v O=>?_,F,by omega,H,fun i f=>?_⟩,L,by omega⟩
 ·obtain⟨n,c,M⟩:=e.left v O;exact M.v (W n c)
 obtain⟨x,y,z,p,q,r,s,t,u⟩:=J i d.fl[i] (CT f);exact⟨x,y,z,p,q,r,s.v (X _ (List.getElem_mem f)),t,u⟩
theorem aJ.mapr {α β γ:Type} {R:α->β->Prop} {Q:α->γ->Prop} {f:β->γ}:∀ {l:List α} {k:List β},aJ R l k->(∀a∈l,∀b∈k,R a b->Q a (f b))->aJ Q l (k.map f)
 | [],[],_,_=>trivial
 | a::l,b::k,h,hf=>⟨hf a (by simp) b (by simp) h.1,aJ.mapr h.2 (fun x c y d=>hf x (by simp[c]) y (by simp[d]))⟩
theorem ou.v {w:World} {P:Nat->Prop} {A:Option Addr} {a:List (List Value)} {b:List TD} (h:ou w P A a b) (f:∀d∈b,d.sm) (e:∀d∈b,1<=d.cols):dU w P A a (b.map (·.cols)):=
 ⟨h.1,h.2.mapr (fun _ _ d c g=>g.v (f d c) (e d c))⟩
theorem ou.at {w:World} {P:Nat->Prop} {A:Option Addr} {o:List (List Value)} {T:List TD} (h:ou w P A o T) {i:Nat} {d:TD} (hi:T[i]? =some d):∃g off F H D Q t J,A=some (U g off)/\
 w.cell? (U g (off+i*5+1))=G F d.cols H/\w.cell? (U g (off+i*5+2))=G D d.kl.length Q/\w.cell? (U g (off+i*5+3))=G t d.fl.length J/\
 (∀j n,d.kl[j]? =some n->∃a m B c,D=some (U a m)/\w.cell? (U a (m+j))=G B n c)/\(∀j n,d.fl[j]? =some n->∃a m B c,t=some (U a m)/\w.cell? (U a (m+j*3))=G B n c)/\d.cols<=maxLen/\d.kl.length<=maxLen/\d.fl.length<=maxLen:=by
  obtain⟨L,O⟩:=h;have N:=(CV.1 hi).1;obtain⟨E,s⟩:∃E,o[i]? =some E:=⟨_,CT (by rw[O.len];exact N)⟩;obtain⟨d',q,ht⟩:=O.get i E s;rw[hi] at q;cases q;obtain⟨nm,F,H,D,Q,t,J,hA,hn,a3,a0,ks,fs,h1,h2,h3,h4,h5,h6,h7,h8,h9⟩:=ht.out_;have K:∀v∈o,v.length=5:=fun v C=>by
   obtain⟨d,_,hd⟩:=O.left v C;obtain⟨_,_,_,_,_,_,_,_,_,_,_,_,_,e,_⟩:=hd.out_;rw[e];rfl
  have M:=fun k hk=>cy o 5 K i E s k hk;have W:=M 1 (by decide);have X:=M 2 (by decide);have Y:=M 3 (by decide);rw[h1] at W X Y;obtain⟨g,off,p,_,c1⟩:=L _ _ W;obtain⟨g2,a1,f,_,c2⟩:=L _ _ X;obtain⟨g3,a2,l,_,c3⟩:=L _ _ Y;rw[p] at f l;injection f with f;injection f with q1 q2 _;subst q1 q2;injection l with l;injection l with q1 q2 _;subst q1 q2;refine⟨g,off,F,H,D,Q,t,J,p,c1,c2,c3,fun j n u=>?_,fun j n u=>?_,ht.b⟩
  ·obtain⟨v,C⟩:∃v,ks[j]? =some v:=⟨_,CT (by rw[h5.len];exact(CV.1 u).1)⟩;obtain⟨n',r,B,c,k,rfl,_⟩:=h5.get j v C;rw[u] at r;cases r;obtain⟨a,m,R,_,S⟩:=h6 _ _ C;exact⟨a,m,B,c,R,S⟩
  obtain⟨x,y,z,g1,_,_,⟨B,c,k,rfl,_⟩,_⟩:=h9 j n u;obtain⟨a,m,R,_,S⟩:=h8 _ _ g1;exact⟨a,m,B,c,R,S⟩
def SmC (a:List TD) (l:List Chg):Prop:=a.length<=4/\l.length<=40/\(∀d∈a,d.sm)/\∀c∈l,shB c.old=true/\shB c.new=true
open Classical in
noncomputable def smB (a:List TD) (l:List Chg):Bool:=decide (SmC a l)
theorem j7 {a:List TD} {l:List Chg}:smB a l=true↔SmC a l:=by unfold smB;exact @decide_eq_true_iff _ (Classical.propDecidable _)
theorem gq {α:Type} {p:α->Prop} {l:List α} {i:Nat} {x:α} (h:∀y∈l.take i,p y) (c:l[i]? =some x) (d:p x):∀y∈l.take (i+1),p y:=fun y b=>by
 rw[Dq,c] at b;rcases CX.1 b with a | a
 ·exact h y a
 simp at a;subst a;exact d
theorem Bk (w:World) (P:Nat->Prop) (A:Option Addr) (n c:Nat) (a8:List (List Value)) (u:List TD) (hS:ou w P A a8 u) (W:u.length=n) (hn:n<=maxLen) (lA:Option Addr) (l:List Chg) (m d:Nat) (X:l.length=m) (hm:m<=maxLen) (hC:iC w [] lA l) (hw:∀x∈l,x.old.length<=maxLen/\x.new.length<=maxLen):
 Calls Tryz.prog 5 #[.slice A n c,.slice lA m d] w fun e w'=>e=.returned (.bool (smB u l))/\w=w':=by
  have J:Z (¬SmC u l->smB u l=false):=bZ (fun h=>by
   cases p:smB u l with
   | false=>rfl
   | true=>exact absurd (j7.1 p) h)
  have a3:Z (SmC u l->smB u l=true):=bZ (fun h=>j7.2 h);generalize smB u l=rb at*;unfold maxLen at hn hm;replace hS:=bZ hS;replace W:=bZ W;replace X:=bZ X;replace hC:=bZ hC;replace hw:=bZ hw;go_enter Tryz.func5,Tryz.ntmps5;go_wp2_with fail;go_loopw [5] (fun S wr=>∃i:Nat,i<=n/\S=I (i:Int)/\Z (∀d∈u.take i,d.sm)/\w=wr) (fun S _=>n - (intOf S).toNat)
  case atStart=>exact⟨0,C3 _,rfl,bZ (by simp),rfl⟩
  obtain⟨i,hi,rfl,Q,rfl⟩:=hrel;by_cases a6:i<n
  ·have ac:(i:Int)<(n:Int):=by omega
   have wi:IntKind.i64.wrap ((i:Int)+1)=(i:Int)+1:=C0 _ (by omega);obtain⟨r,D⟩:∃r,u[i]? =some r:=⟨_,CT (by rw[W.o];exact a6)⟩;obtain⟨g,off,cA,cc,kA,kc,fA,fc,rfl,c1,c2,c3,M,K,v,H,b3⟩:=hS.o.at D;have R:Z (r.cols<=10/\r.kl.length<=5/\r.fl.length<=5/\(∀n∈r.kl,n<=10)/\(∀n∈r.fl,n<=10)->∀d∈u.take (i+1),d.sm):=bZ (fun h=>gq Q.o D h);obtain⟨q1,C⟩:∃q,r.cols=q:=⟨_,rfl⟩;obtain⟨kn,t⟩:∃q,r.kl.length=q:=⟨_,rfl⟩;obtain⟨T,s⟩:∃q,r.fl.length=q:=⟨_,rfl⟩;rw[C] at c1 v;rw[t] at c2 H;rw[s] at c3 b3;replace C:=bZ C;replace t:=bZ t;replace s:=bZ s;replace D:=bZ D;replace M:=bZ M;replace K:=bZ K;unfold maxLen at v H b3;have a:Z (¬r.sm->rb=false):=bZ (fun h=>J.o (fun h2=>h (h2.2.2.1 r (CW D.o))));by_cases z1:(10:Int)<(q1:Int)
   ·have p:=bZ (a.o (fun h=>by have:=h.1;rw[C.o] at this;omega));go_wp2_with fail;go_ret;exact⟨by rw[p.o];rfl,rfl⟩
   by_cases z2:(5:Int)<(kn:Int)
   ·have p:=bZ (a.o (fun h=>by have:=h.2.1;rw[t.o] at this;omega));go_wp2_with fail;go_ret;exact⟨by rw[p.o];rfl,rfl⟩
   by_cases z3:(5:Int)<(T:Int)
   ·have p:=bZ (a.o (fun h=>by have:=h.2.2.1;rw[s.o] at this;omega));go_wp2_with fail;go_ret;exact⟨by rw[p.o];rfl,rfl⟩
   go_wp2_with fail;go_loopw [6] (fun E wx=>∃j:Nat,j<=kn/\E=I (j:Int)/\Z (∀n∈r.kl.take j,n<=10)/\w=wx) (fun E _=>kn - (intOf E).toNat)
   case atStart=>exact⟨0,C3 _,rfl,bZ (by simp),rfl⟩
   obtain⟨j,hj,rfl,f,rfl⟩:=hrel;by_cases L:j<kn
   ·have a0:(j:Int)<(kn:Int):=by omega
    have wj:IntKind.i64.wrap ((j:Int)+1)=(j:Int)+1:=C0 _ (by omega);obtain⟨kl,z⟩:∃kl,r.kl[j]? =some kl:=⟨_,CT (by rw[t.o];exact L)⟩;obtain⟨gk,ok,B,cB,rfl,k1⟩:=M.o j kl z;by_cases z4:(10:Int)<(kl:Int)
    ·have p:=bZ (a.o (fun h=>by have:=h.2.2.2.1 kl (CW z);omega));go_wp2_with fail;go_ret;exact⟨by rw[p.o];rfl,rfl⟩
    have b:Z (∀n∈r.kl.take (j+1),n<=10):=bZ (gq f.o z (by omega));replace z:=bZ z;go_wp2_with fail;go_roundw
    case rel=>exact⟨j+1,by omega,by go_num,b,by trivial⟩
    case measure=>simp[intOf];omega
   obtain rfl:j=kn:=by omega
   have a4:Z (∀n∈r.kl,n<=10):=bZ (by have:=f.o;rwa [C6 (by rw[t.o];exact C9 _)] at this);clear f;go_wp2_with fail;go_loopw [7] (fun E wx=>∃k:Nat,k<=T/\E=I (k:Int)/\Z (∀n∈r.fl.take k,n<=10)/\w=wx) (fun E _=>T - (intOf E).toNat)
   case atStart=>exact⟨0,C3 _,rfl,bZ (by simp),rfl⟩
   obtain⟨k,hk,rfl,f,rfl⟩:=hrel;by_cases a1:k<T
   ·have a9:(k:Int)<(T:Int):=by omega
    have wk:IntKind.i64.wrap ((k:Int)+1)=(k:Int)+1:=C0 _ (by omega);obtain⟨fl,y⟩:∃fl,r.fl[k]? =some fl:=⟨_,CT (by rw[s.o];exact a1)⟩;obtain⟨gk,ok,B,cB,rfl,k1⟩:=K.o k fl y;by_cases z4:(10:Int)<(fl:Int)
    ·have p:=bZ (a.o (fun h=>by have:=h.2.2.2.2 fl (CW y);omega));go_wp2_with fail;go_ret;exact⟨by rw[p.o];rfl,rfl⟩
    have b:Z (∀n∈r.fl.take (k+1),n<=10):=bZ (gq f.o y (by omega));replace y:=bZ y;go_wp2_with fail;go_roundw
    case rel=>exact⟨k+1,by omega,by go_num,b,by trivial⟩
    case measure=>simp[intOf];omega
   obtain rfl:k=T:=by omega
   have a2:Z (∀n∈r.fl,n<=10):=bZ (by have:=f.o;rwa [C6 (by rw[s.o];exact C9 _)] at this);have b:=bZ (R.o ⟨by rw[C.o];omega,by rw[t.o];omega,by rw[s.o];omega,a4.o,a2.o⟩);clear f;go_wp2_with fail;go_roundw
   case rel=>exact⟨i+1,by omega,by go_num,b,by trivial⟩
   case measure=>simp[intOf];omega
  obtain rfl:i=n:=by omega
  have a7:Z (∀d∈u,d.sm):=bZ (by have:=Q.o;rwa [C6 (by rw[W.o];exact C9 _)] at this);clear Q;go_wp2_with fail;go_loopw [8] (fun E wx=>∃j:Nat,j<=m/\E=I (j:Int)/\Z (∀c∈l.take j,shB c.old=true/\shB c.new=true)/\w=wx) (fun E _=>m - (intOf E).toNat)
  case atStart=>exact⟨0,C3 _,rfl,bZ (by simp),rfl⟩
  obtain⟨j,hj,rfl,f,rfl⟩:=hrel;by_cases L:j<m
  ·have a0:(j:Int)<(m:Int):=by omega
   have wj:IntKind.i64.wrap ((j:Int)+1)=(j:Int)+1:=C0 _ (by omega);obtain⟨x,Y⟩:∃x,l[j]? =some x:=⟨_,CT (by rw[X.o];exact L)⟩;obtain⟨g,off,Ao,co,An,cn,rfl,_,y0,y1,y2,y3,r5,r6⟩:=hC.o j x Y;obtain⟨w1,w2⟩:=hw.o x (CW Y);unfold maxLen at w1 w2;have F:=bZ (uc w [] Ao x.old x.old.length co rfl r5 (by omega));have H2:=bZ (uc w [] An x.new x.new.length cn rfl r6 (by omega));have b:Z (shB x.old=true->shB x.new=true->∀c∈l.take (j+1),shB c.old=true/\shB c.new=true):=bZ (fun h1 h2=>gq f.o Y ⟨h1,h2⟩);have a:Z (¬(shB x.old=true/\shB x.new=true)->rb=false):=bZ (fun h=>J.o (fun h2=>h (h2.2.2.2 x (CW Y))));obtain⟨on,O⟩:∃on,x.old.length=on:=⟨_,rfl⟩;obtain⟨nn,N⟩:∃nn,x.new.length=nn:=⟨_,rfl⟩;rw[O] at y2 F;rw[N] at y3 H2;replace Y:=bZ Y;replace O:=bZ O;replace N:=bZ N;clear r5 r6 y0 y1 w1 w2;cases v:shB x.old with
   | false=>
    rw[v] at F;have p:=bZ (a.o (fun h=>by rw[v] at h;cases h.1));clear v b a;go_wp2_with (go_at_call 19;refine F.o.mono ?_;rintro e w' ⟨rfl,rfl⟩);go_ret;exact⟨by rw[p.o];rfl,rfl⟩
   | true=>
    cases H:shB x.new with
    | false=>
     have p:=bZ (a.o (fun h=>by rw[H] at h;cases h.2));rw[v] at F;rw[H] at H2;clear v H b a;go_wp2_with (go_at_call 19;first | (refine F.o.mono ?_;rintro e w' ⟨rfl,rfl⟩;clear F) | (refine H2.o.mono ?_;rintro e w' ⟨rfl,rfl⟩));go_ret;exact⟨by rw[p.o];rfl,rfl⟩
    | true=>
     rw[v] at F;rw[H] at H2;replace b:=bZ (b.o v H);clear v H a;go_wp2_with (go_at_call 19;first | (refine F.o.mono ?_;rintro e w' ⟨rfl,rfl⟩;clear F) | (refine H2.o.mono ?_;rintro e w' ⟨rfl,rfl⟩));go_roundw
     case rel=>exact⟨j+1,by omega,by go_num,b,by trivial⟩
     case measure=>simp[intOf];omega
  obtain rfl:j=m:=by omega
  have a5:Z (∀c∈l,shB c.old=true/\shB c.new=true):=bZ (by have:=f.o;rwa [C6 (by rw[X.o];exact C9 _)] at this);clear f;by_cases z1:(i:Int)<=4
  ·by_cases z2:(j:Int)<=40
   ·have p:=bZ (a3.o ⟨by rw[W.o];omega,by rw[X.o];omega,a7.o,a5.o⟩);go_wp2_with fail;go_ret;exact⟨by rw[p.o];rfl,rfl⟩
   have p:=bZ (J.o (fun h=>by have:=h.2.1;rw[X.o] at this;omega));go_wp2_with fail;go_ret;exact⟨by rw[p.o];rfl,rfl⟩
  have p:=bZ (J.o (fun h=>by have:=h.1;rw[W.o] at this;omega));go_wp2_with fail;go_ret;exact⟨by rw[p.o];rfl,rfl⟩
end Go.Proofs.YtmlmfpikncogpaaGreat
