import Derived.Test.YtmlmfpikncogpaaGreatL29
namespace Go.Proofs.YtmlmfpikncogpaaGreat
open Go.RowKit
set_option linter.unusedSimpArgs false
set_option linter.unusedVariables false
set_option maxRecDepth 100000
set_option maxHeartbeats 16000000
theorem iT {α:Type} {Q:Nat->α->Prop}:∀n,(∀i,i<n->∃a,Q i a)->∃l:List α,l.length=n/\∀i a,l[i]? =some a->Q i a
 | 0,_=>⟨[],rfl,fun i a h=>by simp at h⟩
 | n+1,h=>by
  obtain⟨l,j,k⟩:=iT n (fun i f=>h i (by omega));obtain⟨a,g⟩:=h n (by omega);refine⟨l++[a],by simp[j],fun i b c=>?_⟩;by_cases f:i<l.length
  ·rw[DC f] at c;exact k i b c
  rw[Dv (by omega)] at c;have d:i - l.length=0:=by
   rcases DY (i - l.length) with e | e
   ·exact e
   rw[D9 (by simp;omega)] at c;cases c
  rw[d] at c;obtain rfl:a=b:=by simpa using c
  have:i=n:=by omega
  rw[this];exact g
theorem xd {w:World} {P:Nat->Prop} {A:Option Addr} {a:List Value} {n:Nat} (x:a.length=n) (m:aL w P A a) (o:∀v∈a,iB w P v):∃kss:List (List Int),kss.length=n/\oC w A kss/\∀k∈kss,k.length<=10000:=by
 obtain⟨l,h,c⟩:=iT (Q:=fun i (k:List Int)=>k.length<=10000/\∃g off f q,A=some (U g off)/\w.cell? (U g (off+i))=G f k.length q/\aY w f k) n (fun i d=>by
  obtain⟨v,e⟩:∃v,a[i]? =some v:=⟨_,CT (by omega)⟩;obtain⟨t,z,u,k,rfl,r,y,s⟩:=o v (CW e);obtain⟨g,off,j,_,p⟩:=m i _ e;exact⟨k,by omega,g,off,t,u,j,by rw[p,r],ig s⟩)
 exact⟨l,h,fun i k b=>(c i k b).2,fun k b=>by obtain⟨i,d⟩:=DQ b;exact(c i k d).1⟩
theorem xe {w:World} {P:Nat->Prop} {A:Option Addr} {d:List Value} {n:Nat} (e:aL w P A d) (C:∀i,i<n->∃x y z,d[i*3]? =some x/\d[i*3+1]? =some y/\d[i*3+2]? =some z/\tM w P x y z):∃kss:List (List Int),kss.length=n/\oE w A kss/\∀k∈kss,k.length<=10000:=by
 obtain⟨l,B,o⟩:=iT (Q:=fun i (k:List Int)=>k.length<=10000/\∃g off q E x y,A=some (U g off)/\w.cell? (U g (off+i*3))=G q k.length E/\w.cell? (U g (off+i*3+1))=some (I x)/\w.cell? (U g (off+i*3+2))=some (I y)/\aY w q k) n (fun i h=>by
  obtain⟨x,y,z,s,t,u,⟨L,R,M,k,rfl,J,O,K⟩,⟨F,rfl⟩,H,rfl⟩:=C i h;obtain⟨g,off,p,_,D⟩:=e _ _ s;obtain⟨N,r,b,_,f⟩:=e _ _ t;obtain⟨v,m,a,_,c⟩:=e _ _ u;rw[p] at b a;cases b;cases a;exact⟨k,by omega,g,off,L,M,F,H,p,by rw[D,J],by rw[Ej];exact f,by rw[Ej];exact c,ig K⟩)
 exact⟨l,B,fun i k j=>(o i k j).2,fun k j=>by obtain⟨i,h⟩:=DQ j;exact(o i k h).1⟩
def emp (c:Nat):TS:=⟨c,[],1⟩
structure oP (w wr:World) (st n b1:Nat) (sA:Option Addr) (sc:Nat) (vss:List (List Value)) (cols:List Nat) (tA:Option Addr) (tc:Nat) (pf:List (Nat×List Nat)) (j:Nat):Prop where
 blk:Blk wr st 147 #[.slice sA n sc,.slice tA j tc]
 sch:dU wr (fun x=>w.heap.size<=x/\x<b1) sA vss cols
 own:wr.ownsRow 0 111 1 (.slice tA j tc) j (pf.map (fun p=>ptr p.1))
 tabs:jZ wr pf ((cols.take j).map emp)
 apart:vd pf
 ge:∀x∈st::(fb tA++fO pf),b1<=x
 sep:∀x∈st::fb tA,x∉fO pf
 stn:st∉fb tA
 kp:aa [] w wr
theorem oP.keep {w wr w':World} {g n c f k j:Nat} {e i:Option Addr} {b:List (List Value)} {cols:List Nat} {d:List (Nat×List Nat)} (h:oP w wr g n c e f b cols i k d j) (a:aa [] wr w'):oP w w' g n c e f b cols i k d j:=
 ⟨h.blk.keep a (by simp),h.sch.move a (fun x _ l=>⟨by simp,l⟩),ab h.own a,gr a h.tabs (by simp),h.apart,h.ge,h.sep,h.stn,h.kp.trans a⟩
theorem oP.step {w wr w2 w3:World} {i n K R tc k j p c:Nat} {Q J e:Option Addr} {F:List (List Value)} {cols:List Nat} {C:List (Nat×List Nat)} {l:List Nat} (t:w.heap.size<=K) (h:oP w wr i n K Q R F cols J tc C j) (S:cols[j]? =some c) (P:aa [] wr w2) (N:ci w2 p c [] 1 l) (o:∀x∈l,wr.heap.size<=x)
 (A:aa (fb J) w2 w3) (L:∀g∈fb e,g∈fb J\/w2.heap.size<=g) (T:w3.ownsRow 0 111 1 (.slice e (j+1) k) (j+1) (C.map (fun p=>ptr p.1)++[ptr p])):
 oP w (w3.setCell (U i 1) (.slice e (j+1) k)) i n K Q R F cols e k (C++[(p,l)]) (j+1):=by
  have H:=h.keep P;have X:=P.size;have Y:=h.blk.lt;have hb:=h.ge i (by simp);have z:∀x∈fb J,x<wr.heap.size:=fun x f=>(aw h.own f).2.1;have u:=pK h.tabs;have B:aa [i] w3 (w3.setCell (U i 1) (.slice e (j+1) k)):=(aa.refl [i] w3).setCell (.inl (by simp)) _;have E:i∉l:=fun a=>by have:=o i a;omega
  have D:i∉fb e:=fun a=>by
   rcases L i a with b | b
   ·exact h.stn b
   omega
  have v:fO (C++[(p,l)])=fO C++l:=by unfold fO;simp
  have s:=N.lt;refine⟨(H.blk.keep A h.stn).set_ 1 _,(H.sch.move A (fun x _ M=>⟨fun a=>by have:=h.ge x (by simp[a]);omega,M⟩)).move B (fun x _ M=>⟨fun a=>by simp only[CZ] at a;omega,M⟩),?_,?_,?_,fun x f=>?_,fun x f a=>?_,D,(H.kp.more A (fun y d=>.inr ?_)).more B (fun y d=>.inr ?_)⟩
  ·rw[DX];exact aq T B (fun y d a=>by simp only[CZ] at d;subst d;exact D a)
  ·rw[Dq,S,DX];refine aJ.snoc ?_ (gr B (gr A H.tabs (fun y d=>h.sep y (by simp[d]))) (fun y d a=>by simp only[CZ] at d;subst d;exact h.sep y (by simp) a));exact(N.keep A (fun y d a=>by have:=z y d;have:=o y a;omega)).keep B (fun y d a=>by simp only[CZ] at d;subst d;exact E a)
  ·refine EF.2 ⟨h.apart,List.pairwise_singleton _ _,fun q W r O x f a=>?_⟩;simp only[CZ] at O;subst O;have:=o x a;have:=u x (dJ.2 ⟨q,W,f⟩);omega
  ·rw[v] at f;simp only[Db,CX] at f;rcases f with b | b | b | b
   ·exact h.ge x (by simp[b])
   ·rcases L x b with m | m
    ·exact h.ge x (by simp[m])
    omega
   ·exact h.ge x (by simp[b])
   have:=o x b;omega
  ·rw[v,CX] at a;rcases Db.1 f with rfl | f
   ·exact a.elim (fun b=>h.sep x (by simp) b) E
   rcases L x f with m | m
   ·rcases a with b | b
    ·exact h.sep x (by simp[m]) b
    have:=o x b;have:=z x m;omega
   rcases a with b | b
   ·have:=u x b;omega
   have:=s x b;omega
  ·have:=h.ge y (by simp[d]);have:=h.kp.size;have:=t;omega
  simp only[CZ] at d;subst d;have:=t;omega
theorem oP.done {w wr:World} {k n d j m:Nat} {i l:Option Addr} {c:List (List Value)} {cols:List Nat} {g:List (Nat×List Nat)} (h:oP w wr k n d i j c cols l m g n) (o:cols.length=n) (p:n<=1000) (f:w.heap.size<=d):∃F,cu wr k (cols.map emp) F/\∀x∈F,w.heap.size<=x:=by
 have a:(cols.map emp).length=n:=by rw[Df,o]
 have q:cols.take n=cols:=C6 (by omega);have e:(cols.map emp).map (·.cols)=cols:=by rw[List.map_map];exact List.map_id' cols
 refine⟨_,⟨⟨i,j,c,l,m,g,w.heap.size,d,by rw[a];exact h.blk,by rw[e];exact h.sch,by rw[a];exact h.own,by have:=h.tabs;rwa [q] at this,h.apart,f,h.ge,h.sep,h.stn,rfl⟩,by rw[a];exact p⟩,fun x b=>?_⟩;rcases CX.1 b with b | b
 ·exact((fC f).1 b).1
 have:=h.ge x b;omega
def qy (w:World) (cols:List Nat) (e:Ending) (w':World):Prop:=∃a F,e=.returned (.pointer (V a))/\Z (cu w' a (cols.map emp) F)/\Z (aa [] w w')/\Z (∀x∈F,w.heap.size<=x)
theorem Ai:(Tryz.prog.info? 111).map (fun i=>(i.zero,i.size,i.bytes))=some (some (.pointer none),1,8):=by kernel_rfl
theorem ly (w:World) (A:Option Addr) (n c:Nat) (P:Nat->Prop) (a0:List (List Value)) (cols:List Nat) (hS:dU w P A a0 cols) (hn:cols.length=n) (b1:n<=1000):Calls Tryz.prog 50 #[.slice A n c] w (qy w cols):=by
 obtain⟨i0,hi,a6,a7,a8⟩:=info_parts Ai;have H:=bZ (rQ w A n c P a0 cols hS hn b1);replace hi:=bZ hi;replace a6:=bZ a6;replace a7:=bZ a7;replace a8:=bZ a8;replace hn:=bZ hn;clear hS;go_enter Tryz.func50,Tryz.ntmps50;go_wp2_with (go_at_call 84;refine H.o.mono ?_;rintro e w1 ⟨sA,sc,r,rfl,ac,a4⟩;have x0:=(Blk.new w1 147 #[.slice sA n sc,.slice none 0 0]).cell 0;have k1:=(aa.refl [] w1).alloc (.cells #[.slice sA n sc,.slice none 0 0] 147);have a2:Z (oP w (w1.alloc (.cells #[.slice sA n sc,.slice none 0 0] 147)) w1.heap.size n w1.heap.size sA sc r cols none 0 [] 0):=bZ ⟨Blk.new w1 147 _,ac.o.move k1 (fun x hx hp=>⟨by simp,hp,hx⟩),bQ _ _ _ _,trivial,List.Pairwise.nil,by simp[fb,fO],by simp[fO],by simp[fb],a4.o.trans k1⟩;replace k1:=bZ k1);obtain⟨B,a5⟩:∃x,x=w1.heap.size:=⟨_,rfl⟩;have ar:w.heap.size<=B:=by rw[a5];exact a4.o.size
 rw[<-a5] at a2 ⊢;generalize w1.alloc (.cells #[.slice sA n sc,.slice none 0 0] 147)=w2 at*;clear a5 x0 a4 ac k1;clear w1;go_loopw [15] (fun a9 wr=>∃(j:Nat) (T:Option Addr) (tc:Nat) (pf:List (Nat×List Nat)),j<=n/\a9=I (j:Int)/\Z (oP w wr B n B sA sc r cols T tc pf j)) (fun a9 _=>n - (intOf a9).toNat)
 case atStart=>exact⟨0,none,0,[],C3 _,rfl,a2⟩
 obtain⟨j,T,tc,pf,hj,rfl,d⟩:=hrel;clear a2;obtain⟨wo,ba⟩:∃x,x=wr:=⟨_,rfl⟩;subst ba;by_cases b8:j<n
 ·have bp:(j:Int)<(n:Int):=by omega
  have wj:IntKind.i64.wrap ((j:Int)+1)=(j:Int)+1:=C0 _ (by omega);have f:=d.o.sch;have b0:=f.2.len;obtain⟨vs,Y⟩:∃vs,r[j]? =some vs:=⟨_,CT (by rw[b0,hn.o];exact b8)⟩;obtain⟨u,a3,hT⟩:=f.2.get j vs Y;obtain⟨g,off,s,y⟩:=f.1.at_ (by
   have:=cy r 5 f.len j vs Y 0 (by decide);have h5:=hT.len;rcases DY r.flatten.length with h0 | h0
   ·rw[Dh h0] at this;rw[List.getElem?_nil,CT (by omega)] at this;cases this
   exact h0)
  subst s;have m:∀k v,vs[k]? =some v->wo.cell? (U g (off+(j*5+k)))=some v:=fun k v hk=>by
   have h5:=hT.len;have b7:k<5:=by have:=(CV.1 hk).1;omega
   exact y _ v (by rw[cy r 5 f.len j vs Y k b7];exact hk)
  obtain⟨R,C,D,N,Q,O,E,L,J,s,t,M,bl,ks,fs,rfl,t2,t3,t4,t5,t6,t7,t8,t9,bd,b3,b4⟩:=hT.out_;have bk:=hT.hc;have x0:wo.cell? (U g (off+j*5))=_:=m 0 _ rfl;have x1:wo.cell? (U g (off+j*5+1))=_:=m 1 _ rfl;have x2:wo.cell? (U g (off+j*5+2))=_:=m 2 _ rfl;have x3:wo.cell? (U g (off+j*5+3))=_:=m 3 _ rfl;have x4:wo.cell? (U g (off+j*5+4))=_:=m 4 _ rfl;obtain⟨bb,s1,s2,s3⟩:=xd t5 t7 t8;obtain⟨b6,s4,s5,s6⟩:=xe b3 b4;have hC:Z (∀W,aa [] wo W->Calls Tryz.prog 85 #[.agg #[.string R,.slice C u D,.slice N Q O,.slice E L J,.slice s t M]] W (oq W u)):=bZ (fun W k=>xt W R C N E s u D O J t M Q L bb b6 bk s1 s4 t6 bd (s2.keep k) (s5.keep k) s3 s6);have ka:aa [] wo (wo.alloc (.cells #[.string R,.slice C u D,.slice N Q O,.slice E L J,.slice s t M] 32)):=(aa.refl [] wo).alloc _;have B5:=Blk.new wo 32 #[.string R,.slice C u D,.slice N Q O,.slice E L J,.slice s t M];have z0:=B5.cell 0;have z1:=B5.cell 1;have z2:=B5.cell 2;have z3:=B5.cell 3;have z4:=B5.cell 4;have y1:=(d.o.blk.keep ka (by simp)).cell 1;have i:Z (wo.heap.size∉fb T):=bZ (fun t=>by have:=(aw d.o.own t).2.1;omega);replace ka:=bZ ka;replace a3:=bZ a3;clear m y hT t2 t3 t4 t5 t7 t8 t9 b3 b4 f s1 s2 s3 s4 s5 s6 Y B5;go_wp2_with fail;obtain⟨b,an⟩:∃x,x=wo.heap.size:=⟨_,rfl⟩;rw[<-an] at z0 z1 z2 z3 z4 i ⊢;generalize wo.alloc (.cells #[.string R,.slice C u D,.slice N Q O,.slice E L J,.slice s t M] 32)=wa at*;clear x0 x1 x2 x3 x4 an;refine ad (S:=(fun w':World=>(w'.cell? (U b 0)=some (.string R)/\w'.cell? (U b 1)=G C u D/\w'.cell? (U b 2)=G N Q O/\w'.cell? (U b 3)=G E L J/\w'.cell? (U b 4)=G s t M)/\w'.cell? (U B 1)=G T j tc)) (n:=11) (by kernel_rfl) ?_;have a:(wa.drew.cell? (U b 0)=some (.string R)/\wa.drew.cell? (U b 1)=G C u D/\wa.drew.cell? (U b 2)=G N Q O/\wa.drew.cell? (U b 3)=G E L J/\wa.drew.cell? (U b 4)=G s t M)/\wa.drew.cell? (U B 1)=G T j tc:=⟨⟨z0,z1,z2,z3,z4⟩,y1⟩;have X:Z (aa [] wo wa.drew):=bZ ka.o.drew;clear z0 z1 z2 z3 z4 y1;generalize wa.drew=wd at*;refine ord [0,1,2,3,4,5] ?_
  iterate 6 (refine tq a ?_;try simp only[PT,Y1,Y2,Y3])
  refine av ?_;refine J1 6 fun K hK=>?_;dsimp only[Y1,Y2,Y3];go_simp;refine(hC.o _ X.o).mono ?_;rintro e w3 ⟨p,Fp,rfl,ak,h,a1⟩;have a:(w3.cell? (U b 0)=some (.string R)/\w3.cell? (U b 1)=G C u D/\w3.cell? (U b 2)=G N Q O/\w3.cell? (U b 3)=G E L J/\w3.cell? (U b 4)=G s t M)/\w3.cell? (U B 1)=G T j tc:=⟨⟨h.o.cellEq a.1.1 (by simp),h.o.cellEq a.1.2.1 (by simp),h.o.cellEq a.1.2.2.1 (by simp),h.o.cellEq a.1.2.2.2.1 (by simp),h.o.cellEq a.1.2.2.2.2 (by simp)⟩,h.o.cellEq a.2 (by simp)⟩;have k3:Z (aa [] wo w3):=bZ (X.o.trans h.o);have a1:Z (∀x∈Fp,wo.heap.size<=x):=bZ (fun x hx=>Dc X.o.size (a1.o x hx));refine hK _ _ (.inr a) ?_;clear hK K h X
  try simp only[PT,Y1,Y2,Y3]
  refine J1 7 fun K hK=>?_;dsimp only[Y1,Y2,Y3];go_simp;have B9:=bZ (Blk.new w3 111 #[.pointer (V p)]);have q:aa [] w3 (w3.alloc (.cells #[.pointer (V p)] 111)):=(aa.refl [] w3).alloc _;have a:((w3.alloc (.cells #[.pointer (V p)] 111)).cell? (U b 0)=some (.string R)/\(w3.alloc (.cells #[.pointer (V p)] 111)).cell? (U b 1)=G C u D/\(w3.alloc (.cells #[.pointer (V p)] 111)).cell? (U b 2)=G N Q O/\(w3.alloc (.cells #[.pointer (V p)] 111)).cell? (U b 3)=G E L J/\(w3.alloc (.cells #[.pointer (V p)] 111)).cell? (U b 4)=G s t M)/\(w3.alloc (.cells #[.pointer (V p)] 111)).cell? (U B 1)=G T j tc:=⟨⟨q.cellEq a.1.1 (by simp),q.cellEq a.1.2.1 (by simp),q.cellEq a.1.2.2.1 (by simp),q.cellEq a.1.2.2.2.1 (by simp),q.cellEq a.1.2.2.2.2 (by simp)⟩,q.cellEq a.2 (by simp)⟩;refine hK _ _ (.inr a) ?_;clear hK K;obtain⟨b9,ap⟩:∃x,x=w3.heap.size:=⟨_,rfl⟩;rw[<-ap] at B9 ⊢;replace q:=bZ q;generalize w3.alloc (.cells #[.pointer (V p)] 111)=w4 at*;clear ap
  try simp only[PT,Y1,Y2,Y3]
  refine J1 8 fun K hK=>?_;dsimp only[Y1,Y2,Y3];refine am (.tmp 23) (.tmp 26) 145 (by rfl) 0 111 i0 (.pointer none) 1 8 Tryz.underlying145 hi.o a6.o a7.o a8.o rfl (by decide) (.slice T j tc) j (pf.map (fun p=>ptr p.1)) (by rfl) (ab (ab d.o.own k3.o) q.o) (V b9) 1 _ [.pointer (V p)] (by rfl) rfl (by have:=aI (off:=0) (l:=[.pointer (V p)]) B9.o (by simp) 1;exact this) (by simp[Value.oneCell']) (by unfold maxLen;omega) (by omega) (C3 _) ?_;intro v' w7 q1 q2 _ q4;obtain⟨bh,bi,rfl,o7,k7,b2⟩:=bR (A:=T) (n:=j) (c:=tc) q1 q2 q4;clear q1 q2 q4;have a:(w7.cell? (U b 0)=some (.string R)/\w7.cell? (U b 1)=G C u D/\w7.cell? (U b 2)=G N Q O/\w7.cell? (U b 3)=G E L J/\w7.cell? (U b 4)=G s t M)/\w7.cell? (U B 1)=G T j tc:=⟨⟨k7.o.cellEq a.1.1 i.o,k7.o.cellEq a.1.2.1 i.o,k7.o.cellEq a.1.2.2.1 i.o,k7.o.cellEq a.1.2.2.2.1 i.o,k7.o.cellEq a.1.2.2.2.2 i.o⟩,k7.o.cellEq a.2 d.o.stn⟩;have bn:w7.frozen? (U B 1)=false:=(((d.o.blk.keep (k3.o.trans q.o) (by simp)).keep k7.o d.o.stn)).frozen 1;refine hK _ _ (.inr a) ?_;clear hK K
  try simp only[PT,Y1,Y2,Y3]
  refine ord [9,10] ?_
  iterate 2 (refine tq a ?_;try simp only[PT,Y1,Y2,Y3])
  refine av ?_;refine JQ 11 ?_
  try simp only[PT,Y1,Y2,Y3]
  refine JD ?_;have z:=bZ (d.o.step ar a3.o (k3.o.trans q.o) (ak.o.keep q.o (by simp)) a1.o k7.o b2.o o7.o);clear d ak k3 q B9 o7 k7 b2;go_wp2_with fail;go_roundw
  case rel=>exact⟨j+1,bh,bi,_,by omega,by go_num,z⟩
  case measure=>simp[intOf];omega
 obtain rfl:j=n:=by omega
 obtain⟨F,q1,q2⟩:=d.o.done hn.o b1 ar;have z:Z (qy w cols (.returned (.pointer (V B))) wo):=bZ ⟨B,F,rfl,bZ q1,bZ d.o.kp,bZ q2⟩;clear q1 q2 d;go_wp2_with fail;go_ret;exact z.o
structure gn where
 cols:Nat
 A:Option Addr
 n:Nat
 c:Nat
 next:Int
def gn.vals (q:gn):List Value:=[I (q.cols:Int),.slice q.A q.n q.c,I q.next]
def cH (a:List gn):List Value:=a.flatMap gn.vals
theorem pl:∀(l:List gn) (i:Nat) (q:gn),l[i]? =some q->(cH l)[i*3]? =some (I (q.cols:Int))/\(cH l)[i*3+1]? =G q.A q.n q.c/\(cH l)[i*3+2]? =some (I q.next)
 | [],i,q,h=>by cases h
 | x::r,0,q,h=>by
  obtain rfl:x=q:=by simpa using h
  exact⟨rfl,rfl,rfl⟩
 | x::r,i+1,q,h=>by
  have a:=pl r i q (by simpa using h);rw[show (i+1)*3=i*3+1+1+1 by omega];exact a
theorem pk (l:List gn):(cH l).length=l.length*3:=by
 induction l with
 | nil=>rfl
 | cons x r ih=>
  have:cH (x::r)=I (x.cols:Int):: .slice x.A x.n x.c::I x.next::cH r:=rfl;rw[this,Dj,Dj,Dj,ih,Dj];omega
theorem sV (a:List gn) (q:gn):cH (a++[q])=cH a++[I (q.cols:Int),.slice q.A q.n q.c,I q.next]:=by
 unfold cH;rw[List.flatMap_append];rfl
theorem jl (l:List gn):∀u∈cH l,u.oneCell'=true:=by
 intro u a;obtain⟨q,_,h⟩:=Ea.1 a;simp only[gn.vals,Db,Dw,or_false] at h;rcases h with rfl | rfl | rfl<;>rfl
def StR (w:World) (X:List Nat) (q:gn) (t:TS):Prop:=q.cols=t.cols/\q.n=t.l.length/\q.next=t.next/\gg w X q.A t.cols t.l
def bY (w:World) (X:List Nat) (A:Option Addr) (ts:List TS):Prop:=∃a:List gn,aJ (StR w X) a ts/\aL w (fun g=>g∉X) A (cH a)
theorem StR.shift {w w':World} {X Y X':List Nat} {q:gn} {t:TS} (h:StR w X q t) (c:aa Y w w') (b:∀y∈Y,y∈X\/w.heap.size<=y) (a:∀x∈X',x∈X\/w.heap.size<=x):StR w' X' q t:=⟨h.1,h.2.1,h.2.2.1,h.2.2.2.shift c b a⟩
theorem bY.shift {w w':World} {X Y X':List Nat} {A:Option Addr} {ts:List TS} (h:bY w X A ts) (c:aa Y w w') (b:∀y∈Y,y∈X\/w.heap.size<=y) (a:∀x∈X',x∈X\/w.heap.size<=x):bY w' X' A ts:=by
 obtain⟨g,d,e⟩:=h;exact⟨g,aJ.mono d (fun r _ x _ f=>f.shift c b a),e.shift c b a⟩
theorem lu {w:World} {P:Nat->Prop} {A:Option Addr} {e:List gn} (h:aL w P A (cH e)) {i:Nat} {q:gn} (t:e[i]? =some q):∃g off,A=some (U g off)/\P g/\w.cell? (U g (off+i*3))=some (I (q.cols:Int))/\w.cell? (U g (off+i*3+1))=G q.A q.n q.c/\w.cell? (U g (off+i*3+2))=some (I q.next):=by
 obtain⟨m,o,p⟩:=pl e i q t;obtain⟨g,off,r,s,c1⟩:=h _ _ m;obtain⟨u,f,b,_,j⟩:=h _ _ o;obtain⟨l,d,a,_,k⟩:=h _ _ p;subst r;cases b;cases a;exact⟨g,off,rfl,s,c1,by rw[Ej];exact j,by rw[Ej];exact k⟩
theorem qY {α β γ:Type} {R:α->β->Prop} {Q:α->γ->Prop} {f:β->γ}:∀ {l:List α} {k:List β},aJ R l k->(∀a b,R a b->Q a (f b))->aJ Q l (k.map f)
 | [],[],_,_=>trivial
 | a::l,b::k,h,g=>⟨g a b h.1,qY h.2 g⟩
 | [],_::_,h,_=>h.elim
 | _::_,[],h,_=>h.elim
theorem uA:(Tryz.prog.info? 115).map (fun i=>(i.zero,i.size,i.bytes))=some (some (.agg #[I 0,.slice none 0 0,I 0]),3,40):=by kernel_rfl
def zs (w:World) (X:List Nat) (ts:List TS) (e:Ending) (w':World):Prop:=∃A n c,e=.returned (.slice A n c)/\ts.length=n/\Z (bY w' X A ts)/\Z (aa [] w w')
theorem xC (w:World) (X:List Nat) (P:Nat->Prop) (A:Option Addr) (n c:Nat) (f:List (List Value)) (cols:List Nat) (B:dU w P A f cols) (F:cols.length=n) (a5:n<=1000) (R:∀x∈X,x<w.heap.size):
 Calls Tryz.prog 20 #[.slice A n c] w (zs w X (cols.map emp)):=by
  obtain⟨i0,S,m,p,r⟩:=info_parts uA;have a1:f.length=n:=by rw[<-F];exact B.2.len
  have CC:Z (∀j W,j<n->aa [] w W->∃b g off K L,cols[j]? =some b/\A=some (U g off)/\W.cell? (U g (off+j*5+1))=G K b L):=bZ (fun j W hj k=>by
   obtain⟨N,H⟩:∃N,f[j]? =some N:=⟨_,CT (by omega)⟩;obtain⟨b,d,Q⟩:=B.2.get j N H;obtain⟨nm,K,L,kA,kn,kc,fA,fn,fc,hA,hm,hc,a2,ks,fs,he,_⟩:=Q.out_;have hf:=cy f 5 (fun v hv=>by obtain⟨c',_,h⟩:=B.2.left v hv;exact h.len) j N H 1 (by decide);rw[he] at hf;obtain⟨g,off,rfl,_,h3⟩:=B.1 _ _ hf;exact⟨b,g,off,K,L,d,rfl,by rw[Ej];exact k.cellEq h3 (by simp)⟩)
  replace F:=bZ F;replace S:=bZ S;replace m:=bZ m;replace p:=bZ p;replace r:=bZ r;replace R:=bZ R;clear B a1;go_enter Tryz.func20,Tryz.ntmps20;go_wp2_with fail;go_loopw [3,4] (fun ov s wr=>∃(j:Nat) (t:Option Addr) (u:Nat) (J:List gn),j<=n/\s=I (j:Int)/\ov=.slice t j u/\Z (aJ (fun (q:gn) (c:Nat)=>q.cols=c/\q.n=0/\q.next=1) J (cols.take j))/\Z (wr.ownsRow w.heap.size 115 3 (.slice t j u) j (cH J))/\Z (aa [] w wr)) (fun _ s _=>n - (intOf s).toNat)
  case atStart=>exact⟨0,none,0,[],C3 _,rfl,rfl,bZ trivial,bZ (bQ _ _ _ _),bZ (aa.refl _ _)⟩
  obtain⟨j,t,u,J,hj,rfl,rfl,M,a,E⟩:=hrel;by_cases T:j<n
  ·have a4:(j:Int)<(n:Int):=by omega
   obtain⟨b,g,off,K,L,d,rfl,x1⟩:=CC.o j wr T E.o;have wj:IntKind.i64.wrap ((j:Int)+1)=(j:Int)+1:=C0 _ (by omega);have CN:Z (Calls Tryz.prog 49 #[I (b:Int)] wr (f8 wr X b [] 1)):=bZ (Bo wr X b);have a0:Z (cols.take (j+1)=cols.take j++[b]):=bZ (by rw[Dq,d];rfl);clear d;go_wp2_with (first
    | (go_at_call 49;refine CN.o.mono ?_;rintro e O ⟨y,n5,z,rfl,Y,a3,i⟩;obtain rfl:0=n5:=Y)
    | (at_builtin;refine ae (by rfl) (.tmp 11) (.tmp 19) 33 rfl w.heap.size 115 i0 (.agg #[I 0,.slice none 0 0,I 0]) 3 40 Tryz.underlying33 S.o m.o p.o r.o rfl (by decide) (.slice t j u) j _ rfl (ab (ab a.o i.o) ((aa.refl [] O).alloc _)) (V O.heap.size) 1 1 [I (b:Int),.slice y 0 z,I 1] rfl rfl (aI (off:=0) (l:=[I (b:Int),.slice y 0 z,I 1]) (Blk.new O 115 #[I (b:Int),.slice y 0 z,I 1]) (by simp) 1) (by simp[Value.oneCell']) (by unfold maxLen;omega) (by omega) (Dc E.o.size (Dc i.o.size ((aa.refl [] O).alloc _).size)) ?_;intro v6 w6 q1 q2 _ q4;have K6:=bZ (aF E.o (i.o.alloc (.cells #[I (b:Int),.slice y 0 z,I 1] 115)) a.o q2.o);obtain⟨A6,c6,rfl,O6,N6,_⟩:=bR q1 q2 q4;clear q1 q2 q4))
   go_roundw
   case rel=>exact⟨j+1,A6,c6,J++[⟨b,y,0,z,1⟩],by omega,by go_num,rfl,bZ (by rw[a0.o];exact aJ.snoc ⟨rfl,rfl,rfl⟩ M.o),bZ (by rw[sV];exact O6.o),K6⟩
   case measure=>simp[intOf];omega
  obtain rfl:j=n:=by omega
  have C:cols.take j=cols:=C6 (by rw[F.o];exact C9 _);rw[C] at M;have D:Z (zs w X (cols.map emp) (.returned (.slice t j u)) wr):=bZ ⟨t,j,u,rfl,by rw[Df,F.o],bZ ⟨J,qY M.o (fun q c h=>⟨h.1,h.2.1,h.2.2,gg.nil _ _ _ _⟩),(aL.own a.o (by decide)).imp (fun g hg=>o8 R.o (aw a.o hg).1)⟩,E⟩;clear M a E;go_wp2_with fail;go_ret;exact D.o
section
open Go.RowKit Go.Shelf
theorem sQ {gs H J gf B N:Nat} {lb:Array Value} {assign body:Code} {Q:Exit->Act->World->Prop} {T:Array Value} {W0:World} {ds:List Deferred} {Hand:aD->World->Prop} {S:List aD->Prop}
 (hg:T[gs]? =some (.func (.func gf) #[] lb)) (eg:∀args w,(callFunc gf args).run Tryz.prog w=.ok (.enter gf args) w) (X:Cv gf lb Hand B S N W0)
 (hH:∀(r:aD) (W W':World) (row:Option Nat),Hand r W->W.grownBy W' row->(∀k,row=some k->∃o:Obj,W.heap[k]? =some o/\o.isCells=false)->Hand r W')
 (a:List aD->World->Prop) (F:OwnFrom W0.heap.size a) (h0:a [] W0) (i:aD->Array Value)
 (h:∀(l:Nat) (r:aD) (W:World) (K:Act->World->Prop),K { tmps:=i r,defers:=[] } W->
  assign.wpIn (Fence.wide.inRound l) 3 Tryz.prog (Exit.then K (fun _ _ _=>False)) { tmps:=(T.setIfInBounds H (I r.k)).setIfInBounds J (.slice r.A r.n r.c),defers:=[] } W)
 (z:∀(l:Nat) (pre:List aD) (r:aD) (W:World),a pre W->pre.length<N->Hand r W->body.wpIn (Fence.wide.inRound l) 3 Tryz.prog (zw B a (pre++[r]) W) { tmps:=i r,defers:=[] } W)
 (C:∀(D:Nat) (xs:List aD) (W:World),W0.heap.size<=D->S xs->a xs W->W.heap[D]? =some (.deferred (some []))->Q .normal { tmps:=T,defers:= { target:=.collected D,args:=#[] }::ds } W):
 (Code.rangeFunc (.tmp gs) #[H,J] assign body).wpIn Fence.wide 5 Tryz.prog Q { tmps:=T,defers:=ds } W0:=by
  refine wpIn_rangeFunc (fun fn a0=>?_);obtain⟨D,hD⟩:∃D,D=W0.heap.size:=⟨_,rfl⟩;obtain⟨u,b⟩:∃u:LoopState->Option Code->Loop,u=fun st pe=> { state:=st,pending:=pe,fn,tmps:=T,params:=#[H,J],assign:=assign,body:=body,defers:=W0.heap.size }:=⟨_,rfl⟩;obtain⟨j,f⟩:∃x,x=(W0.alloc (.deferred (some []))).alloc (.loop (u .ready none)):=⟨_,rfl⟩;have a7:j.heap.size=D+2:=by rw[f,hD];simp
  have dl:j.heap[D]? =some (.deferred (some [])):=by
   rw[f,hD];exact(Fq _ _ _ (by simp)).trans (heap_alloc_new W0 _)
  have rl:j.heap[D+1]? =some (.loop (u .ready none)):=by
   rw[f,hD];have:=heap_alloc_new (W0.alloc (.deferred (some []))) (.loop (u .ready none));rwa [Fl] at this
  have iw:a [] j:=by rw[f];exact F.alloc _ (F.alloc _ h0)
  have kw:aa [] W0 j:=by rw[f];exact((aa.refl [] W0).alloc _).alloc _
  refine⟨D+1,[{ target:=.collected D,args:=#[] }],j,{ target:=.fn (.func gf) lb,args:=#[.func (.yield (D+1)) #[] #[]] },j,gf,#[.func (.yield (D+1)) #[] #[]]++lb,j,?_,?_,fun _ _=>trivial,?_,fun _=>by omega,?_⟩
  ·rw[f,b,hD];exact run_enterLoop_outer fn T #[H,J] assign body
  ·simp only[resolve,show (Act.eval { tmps:=T,defers:=ds } (.tmp gs))=.func (.func gf) #[] lb from by simp[Act.eval,hg]];simp[go_sem]
  ·simp[invoke,go_sem,eg]
  refine(X (D+1) (fun pre W=>a pre W/\W.heap[D+1]? =some (.loop (u .ready none))/\W.heap[D]? =some (.deferred (some []))) j kw.below ?_ ?_ ⟨iw,rl,dl⟩).mono ?_
  ·intro s A A' row R E hr;refine⟨F s A A' row R.1 E (fun r e=>?_),(grownBy_keeps E (fun r e=>(hr r e).2) R.2.1 rfl).trans R.2.1,(grownBy_keeps E (fun r e=>(hr r e).2) R.2.2 rfl).trans R.2.2⟩;obtain⟨hb,o,ho,hw⟩:=hr r e;exact⟨by omega,o,ho,Obj.not_cells_of_walk hw⟩
  ·rintro pre x W ⟨hi,q,hd⟩ O hx;have hy:=run_yield (P:=Tryz.prog) (args:=mh x) q (by rw[b];rfl);rw[b] at hy;have a5:∀k,some (D+1)=some k->∃o:Obj,W.heap[k]? =some o/\o.isCells=false:=fun k e=>by cases e;exact⟨_,q,rfl⟩
   have a4:=(Dy.1 q).1;refine⟨fn,_,assign,body,hy,roundIn_of_wpIn a0 ?_⟩;have he:((#[H,J].zip (mh x)).foldl (fun t (p,v)=>t.setIfInBounds p v) T)=(T.setIfInBounds H (I x.k)).setIfInBounds J (.slice x.A x.n x.c):=by simp[mh]
   simp only[he];refine h _ x W _ ⟨_,run_beginRound q (by rw[b]),?_⟩;obtain⟨m,g⟩:∃y,y=W.putObj (D+1) (.loop { u .ready none with state:=.busy }):=⟨_,rfl⟩;have g2:W.grownBy m (some (D+1)):=by rw[g];exact grownBy_putObj' W (D+1) _
   have l2:m.heap[D+1]? =some (.loop { u .ready none with state:=.busy }):=by rw[g];exact World.putObj_heap_same a4
   have d2:m.heap[D]? =some (.deferred (some [])):=by rw[g];exact(World.putObj_heap_other (by omega)).trans hd
   have i2:a pre m:=F pre W m _ hi g2 (fun r e=>by cases e;exact⟨by omega,_,q,rfl⟩);have a6:KpM B W m:=by rw[g];exact yd (w:=W0) W (D+1) _ _ (by omega) q rfl rfl
   rw[<-g];refine wpIn_mono (z _ pre x m i2 O (hH x W m _ hx g2 a5)) ?_;rintro e a3 W3 hp;cases e with
   | normal=>
    obtain⟨L,M,a1⟩:=hp;have Y:=L.same _ _ l2 rfl;have d3:=L.same _ _ d2 rfl;have d:=run_endRound (P:=Tryz.prog) none Y;rw[b] at Y;have a2:=(Dy.1 Y).1;refine⟨_,_,d,rfl,⟨F.putObj _ a1 (by omega) Y rfl,?_,(World.putObj_heap_other (by omega)).trans d3⟩,ya (ya a6 M) (yd (w:=W0) W3 (D+1) _ _ (by omega) Y rfl rfl)⟩;rw[b];exact World.putObj_heap_same a2
   | _=>exact hp.elim
  rintro e m ⟨⟨v,rfl⟩,xs,hS,hi,q,hd⟩;have d:=run_endLoop (P:=Tryz.prog) q (by rw[b];simp);rw[b] at d;exact⟨none,_,d,C D xs _ (by omega) hS (F.putObj _ hi (by omega) q rfl) ((World.putObj_heap_other (by omega)).trans hd)⟩
def ut (a:List Nat):List Deferred:=a.map (fun D=> { target:=.collected D,args:=#[] })
theorem kC {F:Fence} {n:Nat} {P:Program} {d:Func} {tmps:Array Value} {R:Ending->World->Prop} {v:Value}:∀(a:List Nat) (w:World),(∀D∈a,w.heap[D]? =some (.deferred (some [])))->a.Nodup->
 (∀w',aa a w w'->(results d tmps).run P w'=.ok v w'/\R (.returned v) w')->LeavesInM F n P d tmps R (ut a) .returning w
 | [],w,_,_,h=>⟨v,h w (aa.refl _ _)⟩
 | D::a,w,hd,hn,h=>by
  obtain⟨j,l⟩:=E7.1 hn;have f:=hd D (by simp);have i:aa [D] w (w.putObj D (.deferred none)):=aa.grown (grownBy_putObj' w D (.deferred none)) (fun r e=>by cases e;simp);refine⟨by simp,.inl ⟨D,_,rfl,run_takeDeferred f,kC a _ (fun E c=>?_) l (fun w' k=>h w' ((i.mono (fun x b=>.inl (by simp only[CZ] at b;simp[b]))).trans (k.mono (fun x b=>.inl (by simp[b])))))⟩⟩;have g:=(Dy.1 (hd E (by simp[c]))).1;exact(World.putObj_heap_other (by rintro rfl;exact j c)).trans (hd E (by simp[c]))
end
section
open Go.RowKit Go.Shelf
def gm (x:Int×List Val):List UInt8:=Cod.num x.1++dX x.2
def cN (l:Tab):List UInt8:=l.flatMap gm
def fP (t:TS):List UInt8:=Cod.num t.next++(Cod.num (t.l.length:Nat)++cN t.l)
def aN (ts:List TS):List UInt8:=ts.flatMap fP
theorem jn {ts:List TS} {j:Nat} {t:TS} (h:ts[j]? =some t):aN (ts.take (j+1))=aN (ts.take j)++fP t:=by
 rw[Dq,h];simp[aN]
theorem qa {ts:List TS} (j:Nat):(aN (ts.take j)).length<=(aN ts).length:=by
 have h:aN ts=aN (ts.take j)++aN (ts.drop j):=by unfold aN;rw[<-List.flatMap_append,Du]
 rw[h,CU];omega
theorem rC {l:Tab} (h:fN l) {x:Int×List Val} (a:x∈l):cJ x.1 l=some x.2:=by
 unfold cJ
 induction l with
 | nil=>cases a
 | cons y l ih=>
  have b:=DJ.1 h;rw[List.find?_cons];rcases Db.1 a with rfl | a
  ·simp
  have:=b.1 x a;rw[show decide (y.1=x.1)=false from decide_eq_false (by omega)];exact ih b.2 a
theorem p8 {l:Tab} {k:Int} {row:List Val} (h:cJ k l=some row):(k,row)∈l:=by
 unfold cJ at h;cases c:l.find? (fun e=>decide (e.1=k)) with
 | none=>rw[c] at h;cases h
 | some y=>
  rw[c] at h;have d:=List.mem_of_find?_eq_some c;have f:y.1=k:=by simpa using List.find?_some c
  obtain⟨a,b⟩:=y;simp at h;subst h f;exact d
def fQ (l:Tab) (k:Int):List Val:=(cJ k l).getD []
theorem Cq {l:Tab} {cols:Nat} (h:∀x∈l,x.2.length=cols/\∀v∈x.2,v.ok) (d:cols<=1000) (k:Int):(fQ l k).length<=1000/\∀v∈fQ l k,v.ok:=by
 unfold fQ;cases c:cJ k l with
 | none=>simp
 | some row=>
  obtain⟨b,a⟩:=h _ (p8 c);dsimp only at b a;exact⟨by simp;omega,by simpa using a⟩
def eM (l:Tab) (pre:List aD):List UInt8:=pre.flatMap (fun r=>gm (r.k,fQ l r.k))
theorem yI {x:Int×List Val} (b:x.2.length<=1000) (a:∀v∈x.2,v.ok):(gm x).length<=18016:=by
 unfold gm;have:=gL a;rw[CU,Cod.ag];omega
theorem pt {l:Tab} (h:∀k,(fQ l k).length<=1000/\∀v∈fQ l k,v.ok):∀pre:List aD,(eM l pre).length<=18016*pre.length
 | []=>by simp[eM]
 | r::pre=>by
  have a:=yI (x:=(r.k,fQ l r.k)) (h r.k).1 (h r.k).2;have b:=pt h pre;have:eM l (r::pre)=gm (r.k,fQ l r.k)++eM l pre:=by simp[eM]
  rw[this,CU,Dj];omega
theorem te {l:Tab} {pre:List aD} {r:aD}:eM l (pre++[r])=eM l pre++(Cod.num r.k++dX (fQ l r.k)):=by simp[eM,gm]
theorem wC {l:Tab} (f:fN l) {a:List aD} (h:a.map (·.k)=l.map (·.1)):eM l a=cN l:=by
 have b:eM l a=(a.map (·.k)).flatMap (fun k=>gm (k,fQ l k)):=by unfold eM;rw[List.flatMap_map]
 have d:∀x∈l,gm x=gm (x.1,fQ l x.1):=fun x g=>by
  have e:fQ l x.1=x.2:=by unfold fQ;rw[rC f g];rfl
  rw[e]
 have c:cN l=(l.map (·.1)).flatMap (fun k=>gm (k,fQ l k)):=by
  unfold cN;rw[List.flatMap_map,List.flatMap_def,List.flatMap_def,List.map_congr_left d]
 rw[b,c,h]
theorem zG (W0:World) (p:Nat) (d:Option Addr) (f:List aD->List UInt8):OwnFrom W0.heap.size (fun (pre:List aD) W=>∃A n c,WrS W0 p d W A n c (f pre)):=fun s W g row i a b=>by
 obtain⟨A,n,c,h⟩:=i;exact⟨A,n,c,od h.blk a (fun r e=>(b r e).2),nB h.own a (fun r e=>(b r e).2),nE (β:=List aD) s W g row h.kp a b,h.nw,h.np⟩
theorem iD {W f:World} {p n c n' c':Nat} {A q:Option Addr} {L r:List UInt8} (m:Blk W p 162 #[.slice A n c]) (t:W.ownsRow 0 5 1 (.slice A n c) n (L.map bv)) (h:WrS W p A f q n' c' r):KeepsOthers W f/\KpM p W f:=by
 have o:=lQ (m.cell 0);have w:=lQ (h.blk.cell 0);refine⟨⟨h.kp.size,fun i y b d=>(h.kp.block i (Dy.1 b).1 (fun k=>?_)).trans b⟩,⟨h.kp.size,fun _=>⟨fun a v l u=>h.kp.cellEq u (by rw[o] at l;exact l),fun x e=>?_,by rw[h.blk.cell 0];rfl⟩⟩⟩
 ·rcases Db.1 k with rfl | k
  ·have j:W.heap[i]? =some (.cells #[.slice A n c] 162 (0,0)):=m;rw[j] at b;cases b;cases d
  obtain⟨_,_,g,s⟩:=aw t k;have j:W.heap[i]? =some (.cells g 5 (0,0)):=s;rw[j] at b;cases b;cases d
 rw[w] at e;rw[o];rcases Db.1 e with rfl | e
 ·exact .inl (by simp)
 exact(h.nw x e).imp_left (fun h=>by simp[h])
def el (W:World) (b:Nat) (a:List Nat):Prop:=(∀D∈a,W.heap[D]? =some (.deferred (some [])))/\a.Nodup/\∀D∈a,b<=D
theorem el.others {W c:World} {b:Nat} {a:List Nat} (h:el W b a) (k:KeepsOthers W c):el c b a:=⟨fun D d=>k.same _ _ (h.1 D d) rfl,h.2⟩
theorem el.keep {W c:World} {b:Nat} {a:List Nat} (h:el W b a) (k:aa [] W c):el c b a:=⟨fun D d=>(k.block D (Dy.1 (h.1 D d)).1 (by simp)).trans (h.1 D d),h.2⟩
end
end Go.Proofs.YtmlmfpikncogpaaGreat
