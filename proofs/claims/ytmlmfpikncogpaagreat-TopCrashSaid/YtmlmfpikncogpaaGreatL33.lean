import Derived.Test.YtmlmfpikncogpaaGreatL30
namespace Go.Proofs.YtmlmfpikncogpaaGreat
open Go.RowKit
set_option linter.unusedSimpArgs false
set_option linter.unusedVariables false
set_option maxRecDepth 100000
set_option maxHeartbeats 16000000
section
open Go.RowKit Go.Shelf
attribute [local go_sem] Oper.semAt_some
def noP (Q:Exit->Act->World->Prop) (e:Exit) (a:Act) (w:World):Prop:=match e with
 | .panic _=>False
 | e=>Q e a w
theorem BA {Q:Exit->Act->World->Prop} (e:Exit) (a:Act) (w:World) (h:noP Q e a w):Q e a w:=by
 cases e<;>first | exact h | exact h.elim
theorem uD (w:World) (st:Nat) (ts:List TS) (F:List Nat) (h:cu w st ts F) (hb:(aN ts).length<=1000000) (a2:∀t∈ts,t.l.length<=400):Calls Tryz.prog 70 #[.pointer (V st)] w (im w (aN ts)):=by
 refine(callsIn_wide (n:=5)).1 ?_;refine callsIn_of_wp_marks Tryz.func70 rfl trivial ?_ rfl;refine wpIn_wide.2 ?_;refine Code.wp_mono BA ?_;simp only[Tryz.ntmps70,Ew,Dj,D6,Nat.reduceAdd,Nat.reduceSub,Array.replicate_succ,Array.replicate_zero,List.push_toArray,List.append_toArray,Dm,D3];obtain⟨sA,sc,fv,tA,tc,pf,b0,b1,d,_⟩:=h.out_;have es:=h.few;obtain⟨m,f⟩:∃m,m=ts.length:=⟨_,rfl⟩;rw[<-f] at d es;have ec:Z (∀j t,ts[j]? =some t->∃q Fi g,ci w q t.cols t.l t.next Fi/\tA=V g/\w.cell? (U g j)=some (.pointer (V q))):=bZ (fun j t ht=>by
  obtain⟨q,Fi,hT,_,⟨g,fs,t1,t2⟩,_⟩:=h.at ht;rw[d.cell 1,<-f] at t1;simp only[DW,EI,D5,Option.some.injEq,EO] at t1;exact⟨q,Fi,g,hT,t1.1,t2⟩)
 have k1:aa [] w (w.alloc (.cells #[.slice none 0 0] 162)):=(aa.refl [] w).alloc _;have k2:=k1.alloc (.cells #[.pointer (V w.heap.size)] 160);have x1:((w.alloc (.cells #[.slice none 0 0] 162)).alloc (.cells #[.pointer (V w.heap.size)] 160)).cell? (U st 1)=G tA m tc:=k2.cellEq (d.cell 1) (by simp);have B1:Blk ((w.alloc (.cells #[.slice none 0 0] 162)).alloc (.cells #[.pointer (V w.heap.size)] 160)) w.heap.size 162 #[.slice none 0 0]:=(Blk.new w 162 _).alloc _;have B2:=Blk.new (w.alloc (.cells #[.slice none 0 0] 162)) 160 #[.pointer (V w.heap.size)];rw[Fl] at B2;have c9:((w.alloc (.cells #[.slice none 0 0] 162)).alloc (.cells #[.pointer (V w.heap.size)] 160)).heap.size=w.heap.size+2:=by simp
 replace hb:=bZ hb;replace a2:=bZ a2;replace f:=bZ f;clear h d k1;go_wp2_with fail;obtain⟨p,hp⟩:∃x,x=w.heap.size:=⟨_,rfl⟩;obtain⟨O,cd⟩:∃x,x=w.heap.size+1:=⟨_,rfl⟩;rw[<-cd] at B2 ⊢;rw[<-hp] at B1 B2 c9 k2 x1 ⊢;generalize (w.alloc (.cells #[.slice none 0 0] 162)).alloc (.cells #[.pointer (V p)] 160)=W2 at*;have fl:p≠O:=by omega
 have fr:O<W2.heap.size:=by omega
 have ey:w.heap.size<=p:=by omega
 have hv:Z (∀W A n c L,WrS W2 p none W A n c L->W.cell? (U O 0)=some (.pointer (V p))):=bZ (fun W A n c L h=>h.kp.cellEq (B2.cell 0) (by simp[fb];omega));have b6:Z (∀W A n c L,WrS W2 p none W A n c L->aa [] w W):=bZ (fun W A n c L h=>h.keeps k2 ey);have ew:Z (∀W A n c L,WrS W2 p none W A n c L->O∉fb A/\∀g∈fb A,W2.heap.size<=g):=bZ (fun W A n c L h=>by
  have:∀g∈fb A,W2.heap.size<=g:=fun g hg=>(h.nw g hg).elim (fun h=>by simp[fb] at h) id;exact⟨fun f=>by have:=this O f;omega,this⟩)
 have e7:=bZ (WrS.start (L:=[]) B1 (bQ W2 0 5 1));clear B1 B2 x1 hp cd c9;refine wp_loop (fun a' w'=>∃(j:Nat) (R:List Nat) (A:Option Addr) (n c:Nat) (u5 u6 u7 ch cj ck cl cm cn co cp cq cr cs ct cv d0 d1 d2 d3 d4 d5 d6 d7 da db dc dl dn:Value),j<=m/\Z (WrS W2 p none w' A n c (aN (ts.take j)))/\Z (el w' W2.heap.size R)/\a'=({ tmps:=#[.pointer (V st),undef,.slice none 0 0,.pointer (V O),undef,u5,u6,u7,.agg #[.slice none 0 0],.pointer (V p),.pointer (V st),.pointer (V st),.pointer (some (U st 1)),.slice tA m tc,I (m:Int),I (j:Int),ch,cj,ck,cl,cm,cn,co,cp,cq,cr,cs,ct,cv,d0,d1,d2,d3,d4,d5,d6,d7,da,db,dc,dl,dn],defers:=ut R }:Act)) (fun a' _=>m - (intOf (a'.tmps.getD 15 undef)).toNat) ⟨0,[],none,0,0,undef,undef,undef,undef,undef,undef,undef,undef,undef,undef,undef,undef,undef,undef,undef,undef,undef,undef,undef,undef,undef,undef,undef,undef,undef,undef,undef,undef,undef,C3 _,e7,bZ ⟨by simp,by simp,by simp⟩,rfl⟩ ?_;rintro a' wr ⟨j,R,A,n,c,u5,u6,u7,ch,cj,ck,cl,cm,cn,co,cp,cq,cr,cs,ct,cv,d0,d1,d2,d3,d4,d5,d6,d7,da,db,dc,dl,dn,hj,J,hM,rfl⟩;have y3:=hv.o _ _ _ _ _ J.o;by_cases er:j<m
 ·have f6:(j:Int)<(m:Int):=by omega
  have wj:IntKind.i64.wrap ((j:Int)+1)=(j:Int)+1:=C0 _ (by omega);obtain⟨t,ht⟩:∃t,ts[j]? =some t:=⟨_,CT (by rw[<-f.o];exact er)⟩;obtain⟨Q,Fi,g,hT,rfl,z0⟩:=ec.o j t ht;have z1:=(b6.o _ _ _ _ _ J.o).cellEq z0 (by simp);have Y:Z (∀W A n c L,WrS W2 p none W A n c L->ci W Q t.cols t.l t.next Fi):=bZ (fun W A n c L h=>hT.keep (b6.o _ _ _ _ _ h) (fun y hy=>by cases hy));have b8:Z (n<=1000000):=bZ (by have d:=J.o.len;have h2:=qa (ts:=ts) j;have h3:=hb.o;omega);have fn:=a2.o t (CW ht);have fe:=hT.nx;have f1:=bZ (jn ht);have s:Z (WrS W2 p none wr.drew A n c (aN (ts.take j))):=bZ (J.o.keep (aa.refl [] wr).drew);have bk:Z (el wr.drew W2.heap.size R):=bZ (hM.o.keep (aa.refl [] wr).drew);have dq:wr.drew.cell? (U O 0)=some (.pointer (V p)):=y3;clear ht z0;go_wp2_with fail;refine ad (S:=(fun w':World=>w'.cell? (U O 0)=some (.pointer (V p)))) (n:=4) (by kernel_rfl) ?_;have X:wr.drew.cell? (U O 0)=some (.pointer (V p)):=dq;generalize wr.drew=wd at*;clear y3 dq z1 J hM;refine ord [0,1] ?_
  iterate 2 (refine tq X ?_;try simp only[PT,Y1,Y2,Y3])
  refine av ?_;refine J1 2 fun K H=>?_;dsimp only[Y1,Y2,Y3];go_simp;refine(ku wd Q _ _ _ _ (Y.o _ _ _ _ _ s.o)).mono ?_;rintro e wz ⟨rfl,hz⟩;subst hz;refine H _ _ (.inr X) ?_;clear H K
  try simp only[PT,Y1,Y2,Y3]
  refine J1 3 fun K H=>?_;dsimp only[Y1,Y2,Y3];go_simp;have T:=fj wd p A n c _ t.next (by omega) s.o.blk s.o.own (by have:=b8.o;omega);unfold ptr at T;refine T.mono ?_;clear T;rintro e w3 ⟨A3,n3,c3,rfl,a6⟩;have ak:=bZ (s.o.then_ a6.o);have bd:=bZ (bk.o.others (iD s.o.blk s.o.own a6.o).1);have X:=hv.o _ _ _ _ _ ak.o;have c1:Z (n3=n+8):=bZ (by have d:=a6.o.len;have h2:=s.o.len;rw[CU,Cod.ag] at d;omega);refine H _ _ (.inr X) ?_;clear H K
  try simp only[PT,Y1,Y2,Y3]
  refine JD ?_;clear s bk a6;have u:Z (WrS W2 p none w3.drew A3 n3 c3 (aN (ts.take j)++Cod.num t.next)):=bZ (ak.o.keep (aa.refl [] w3).drew);have bl:Z (el w3.drew W2.heap.size R):=bZ (bd.o.keep (aa.refl [] w3).drew);have dr:w3.drew.cell? (U O 0)=some (.pointer (V p)):=X;go_wp2_with fail;refine ad (S:=(fun w':World=>w'.cell? (U O 0)=some (.pointer (V p)))) (n:=4) (by kernel_rfl) ?_;have X:w3.drew.cell? (U O 0)=some (.pointer (V p)):=dr;generalize w3.drew=we at*;clear dr ak bd;refine ord [0,1] ?_
  iterate 2 (refine tq X ?_;try simp only[PT,Y1,Y2,Y3])
  refine av ?_;refine J1 2 fun K H=>?_;dsimp only[Y1,Y2,Y3];go_simp;refine(qP we Q _ _ _ _ (Y.o _ _ _ _ _ u.o)).mono ?_;rintro e wz ⟨rfl,hz⟩;subst hz;refine H _ _ (.inr X) ?_;clear H K
  try simp only[PT,Y1,Y2,Y3]
  refine J1 3 fun K H=>?_;dsimp only[Y1,Y2,Y3];go_simp;have T:=fj we p A3 n3 c3 _ (t.l.length:Nat) (by omega) u.o.blk u.o.own (by have:=b8.o;have:=c1.o;omega);unfold ptr at T;refine T.mono ?_;clear T;rintro e C ⟨A5,n5,c5,rfl,a7⟩;have an:=bZ (u.o.then_ a7.o);have bh:=bZ (bl.o.others (iD u.o.blk u.o.own a7.o).1);have X:=hv.o _ _ _ _ _ an.o;have ev:Z (n5=n+16):=bZ (by have d:=a7.o.len;have h2:=u.o.len;have h3:=c1.o;rw[CU,Cod.ag] at d;omega);refine H _ _ (.inr X) ?_;clear H K
  try simp only[PT,Y1,Y2,Y3]
  refine JD ?_;clear u bl a7;go_wp2_with fail;refine(xy C Q).mono ?_;rintro e w' ⟨rfl,rfl⟩;have kE:aa [] C (rK C Q):=((aa.refl [] C).alloc _).alloc _;have a0:(rK C Q).cell? (U C.heap.size 0)=some (.pointer (V Q)):=((Blk.new C 111 #[.pointer (V Q)]).alloc (.cells #[.func (.func 130) #[] #[.pointer (V C.heap.size)]] 232)).cell 0;have a1:(rK C Q).cell? (U (C.heap.size+1) 0)=some (.func (.func 130) #[] #[.pointer (V C.heap.size)]):=by
   have:=(Blk.new (C.alloc (.cells #[.pointer (V Q)] 111)) 232 #[.func (.func 130) #[] #[.pointer (V C.heap.size)]]).cell 0;rw[Fl] at this;exact this
  unfold yN;obtain⟨b9,a9⟩:∃x,x=C.heap.size:=⟨_,rfl⟩;rw[<-a9] at a0 a1 ⊢;have b:=bZ (an.o.keep kE);have bi:=bZ (bh.o.keep kE);generalize rK C Q=W0 at*;clear kE an bh a9 X;obtain⟨bt,xA,xn,xc,rs,F1,fx,Gs,hB,bn,_,_,_,_,hR,bb⟩:=(Y.o _ _ _ _ _ b.o).out_;have cb:=hT.hc;have a8:=hT.asc;have ac:=hT.ids;have ar:=bZ hT.asc;have f0:=hR.len;have b5:Z (rs.map (·.k)=t.l.map (·.1)):=bZ (by
   refine Ee (fun i=>?_);rw[De,De];cases hi:rs[i]? with
   | none=>rw[D9 (by have:=List.getElem?_eq_none_iff.1 hi;omega)];rfl
   | some r=>
    obtain⟨x,P,he⟩:=hR.get i r hi;rw[P];simp[he.1])
  have b2:Z (∀k,(fQ t.l k).length<=1000/\∀v∈fQ t.l k,v.ok):=bZ (Cq (cols:=t.cols) (fun x P=>by
   obtain⟨r,_,he⟩:=hR.right x P;exact he.2.2.2) cb.2)
  have b7:MuB p W0=p::fb A5:=lQ (b.o.blk.cell 0);have c4:=bZ (wG (b9+1) b9 Q bt p rs F1 (t.l.length:Nat) (fQ t.l) W0 a1 a0 (hB.cell 1) bn (by omega) (by rw[b.o.blk.cell 0];rfl) (fun x P=>by
   rw[b7] at P;rcases Db.1 P with rfl | P
   ·exact b.o.blk.lt
   ·exact(aw b.o.own P).2.1)
   (fun r hr=>by
    obtain⟨x,P,e1,e2,e3,e4,e5⟩:=hR.left r hr;have e6:fQ t.l r.k=x.2:=by unfold fQ;rw[e1,rC a8 P];rfl
    rw[e6];have:=ac x P;exact⟨e3.apart (by simp),e2,by omega,by unfold Rng;omega⟩)
   (fun r hr g hg=>by
    obtain⟨x,P,e1,e2,e3,e4,e5⟩:=hR.left r hr;have hl:=e3.lt (by omega) g hg;refine⟨fun f=>?_,hl.1⟩;rw[b7] at f;have ek:g∈Fi:=by rw[bb];exact Dg _ (Ea.2 ⟨r,hr,hg⟩)
    have d:=hT.lt g ek;rcases Db.1 f with rfl | f
    ·omega
    have:=(ew.o _ _ _ _ _ b.o).2 g f;have:=k2.size;omega))
  have e9:=bZ (WrS.start b.o.blk b.o.own);have c0:Z (∀W A n c L,WrS W0 p A5 W A n c L->W.cell? (U O 0)=some (.pointer (V p))):=bZ (fun W A n c L h=>hv.o _ _ _ _ _ (b.o.then_ h));have f4:Z (rs.length<=400):=bZ (by omega);have ee:Z (∀pre:List aD,pre.length<rs.length->(eM t.l pre).length<=18016*400):=bZ (fun pre hp=>by
   have d:=pt b2.o pre;have h2:=Nat.mul_le_mul_left 18016 (by omega:pre.length<=400);omega)
  have ep:Z ((aN (ts.take j)++Cod.num t.next++Cod.num (t.l.length:Nat)).length<=1000016):=bZ (by have d:=b.o.len;have h2:=ev.o;have h3:=b8.o;omega);have f5:W2.heap.size<=W0.heap.size:=b.o.kp.size;have e0:Z (∀D∈R,D<W0.heap.size):=bZ (fun D hD=>(Dy.1 (bi.o.1 D hD)).1);replace b5:=bZ b5.o;clear hB bn hR bb b7 a0 a1 cb a8 ac f0 hT;go_wp2_with fail;refine(wpIn_wide (n:=5)).1 (sQ (B:=p) (N:=rs.length) (S:=fun xs=>xs.map (·.k)=rs.map (·.k)) (Hand:=Hand (fQ t.l)) (W0:=W0) (by rfl) (enters_of Tryz.func153 (by kernel_rfl) rfl) c4.o (fun r W W' row hh hg hr=>vP (fQ t.l) r W W' row hh hg hr) (fun pre W=>∃A' n' c',WrS W0 p A5 W A' n' c' (aN (ts.take j)++Cod.num t.next++Cod.num (t.l.length:Nat)++eM t.l pre)) (zG W0 p A5 (fun pre=>aN (ts.take j)++Cod.num t.next++Cod.num (t.l.length:Nat)++eM t.l pre)) ⟨A5,n5,c5,by rw[show eM t.l []=[] from rfl,DA];exact e9.o⟩ ?sl ?assign ?body ?done)
  case assign=>
   intro l r W K H
   gi_wp2
   exact H
  case body=>
   rintro l pre ⟨rk,rA,rn,rc⟩ W ⟨A6,n6,c6,a⟩ ex ⟨a4,a3,c2,a5⟩;dsimp only at a4 a3 c2 a5;have yv:=c0.o _ _ _ _ _ a;have fc:n6<=9000000:=by
    have d:=a.len;have h2:=ee.o pre ex;have h3:=ep.o;rw[CU] at d;omega
   have T:=fj W p A6 n6 c6 _ rk c2 a.blk a.own (by omega);unfold ptr at T;have ap:∀g∈fb rA,g∉p::fb A6:=fun g hg f=>by
    obtain⟨ba,hc⟩:=a5 g hg;rcases Db.1 f with rfl | f
    ·exact(a.blk.ne_ hc (by decide)) rfl
    obtain⟨_,_,f3,eg⟩:=aw a.own f;exact(hc.ne_ eg (by decide)) rfl
   replace ap:=bZ ap;replace a3:=bZ a3;replace a4:=bZ a4;replace a5:=bZ a5;replace a:=bZ a
   gi_wp2
   refine⟨trivial,?_⟩;refine(CallsIn.inRound l (callsIn_wide.2 T)).mono ?_;rintro e w7 ⟨A7,n7,c7,rfl,z⟩;clear T;have e8:=bZ (a.o.then_ z.o);have fy:=c0.o _ _ _ _ _ e8.o;have fd:n7=n6+8:=by have d:=z.o.len;have h2:=a.o.len;rw[CU,Cod.ag] at d;omega
   obtain⟨fi,fk,_⟩:=iD a.o.blk a.o.own z.o;have en:aa (p::fb A6) W w7:=z.o.kp;have HD:=mI w7 p A7 n7 c7 _ rA (fQ t.l rk) rn rc z.o.blk z.o.own (by omega) a3.o.symm (a4.o.part en ap.o) (by rw[a3.o];have:=(b2.o rk).1;omega) (b2.o rk).2;unfold ptr at HD
   gi_wp2
   refine⟨trivial,?_⟩;refine(CallsIn.inRound l (callsIn_wide.2 HD)).mono ?_;rintro e w8 ⟨A8,n8,c8,rfl,M⟩;clear HD
   gi_wp2
   have bp:=iD a.o.blk a.o.own (z.o.then_ M.o);refine⟨bp.1,bp.2,A8,n8,c8,?_⟩;have h9:=a.o.then_ (z.o.then_ M.o);rw[te,<-Dd,<-Dd];exact h9
  rintro D xs W hD hS ⟨A8,n8,c8,M⟩ hd;have f2:eM t.l xs=cN t.l:=wC ar.o (hS.trans b5.o);have b4:Z (WrS W2 p none W A8 n8 c8 (aN (ts.take (j+1)))):=bZ (by
   have d:=b.o.then_ M;rw[f2] at d;rw[f1.o];unfold fP;rw[<-Dd,<-Dd];exact d)
  have b3:Z (el W W2.heap.size (D::R)):=bZ (by
   have d:=bi.o.others (iD b.o.blk b.o.own M).1;refine⟨fun E hE=>?_,E7.2 ⟨fun f=>by have:=e0.o D f;omega,d.2.1⟩,fun E hE=>?_⟩
   ·rcases Db.1 hE with rfl | hE
    ·exact hd
    exact d.1 E hE
   rcases Db.1 hE with rfl | hE
   ·omega
   exact d.2.2 E hE)
  clear M hd;go_wp2_with fail;exact⟨⟨j+1,by omega,⟨A8,n8,c8,b4⟩,D::R,b3,by omega,rfl⟩,by simp[intOf];omega⟩
 obtain rfl:j=m:=by omega
 have cc:ts.take j=ts:=C6 (by rw[<-f.o];exact C9 _);rw[cc] at J;have y0:=J.o.blk.cell 0;have bs:Z (∀w',aa R wr w'->im w (aN ts) (.returned (.slice A n c)) w'):=bZ (fun w' k=>by
  have ds:∀y∈R,y∉fb A:=fun y hy f=>by
   obtain⟨_,_,ba,hc⟩:=aw J.o.own f;have d:wr.heap[y]? =some (.cells ba 5 (0,0)):=hc;rw[hM.o.1 y hy] at d;cases d
  refine⟨A,n,c,rfl,J.o.len,bZ ((bK J.o.own).1.kp k ds),bZ ((b6.o _ _ _ _ _ J.o).more k (fun y hy=>.inr ?_)),bZ (by have:=bK J.o.own;exact⟨this.2.2.1,by have:=this.2.2.2.1;unfold maxLen at this;omega⟩)⟩;have:=hM.o.2.2 y hy;have:=k2.size;omega)
 clear J cc;go_wp2_with fail;exact kC (v:=.slice A n c) R wr hM.o.1 hM.o.2.1 (fun w' k=>⟨by simp[results,Tryz.results70,go_sem],bs.o w' k⟩)
end
theorem rL {id:Int} {r:List Val}:∀ {l:Tab},bS id (gG id r l)=bS id l
 | []=>by simp[gG,bS]
 | e::l=>by
  unfold gG
  split
  ·rename_i h;have a:=rL (id:=id) (r:=r) (l:=l);unfold bS at a ⊢;rw[DF,DF,a]
  split
  ·rename_i h1 h2;unfold bS;rw[DF];simp
  rename_i h1 h2;have b:e.1=id:=by omega
  unfold bS;rw[DF,DF];simp[b]
theorem yP {id:Int} {r:List Val} {l:Tab} (h:∀x∈l,x.1≠id):bS id (fu id r l)=l:=by
 have a:bS id l=l:=by
  unfold bS;rw[Ek];intro x b;simpa using h x b
 unfold fu;rw[rL,a,a]
def mF:Val:=⟨0,0,⟨#[]⟩⟩
theorem wU {w:World} {g n:Nat} (h:Blk w g 60 (madeCells (Value.cells (.agg #[I 0,I 0,.string ⟨#[]⟩])) (n*3))):ah w [] (V g) (List.replicate n mF):=by
 intro i v a;rw[List.getElem?_replicate] at a
 split at a
 ·rename_i hlt;obtain rfl:mF=v:=by simpa using a
  have b:∀k,k<3->w.cell? (U g (i*3+k))=(#[I 0,I 0,.string ⟨#[]⟩]:Array Value)[k]?:=fun k e=>by
   rw[h.cell];have c:i*3+k<n*3:=by omega
   have d:(i*3+k)%3=k:=by omega
   simp[madeCells,c,Value.cells,d];rcases k with _ | _ | _ | k
   ·rfl
   ·rfl
   ·rfl
   omega
  exact⟨g,0,rfl,by simp,by rw[Dl];exact b 0 (by decide),by rw[Dl];exact b 1 (by decide),by rw[Dl];exact b 2 (by decide)⟩
 cases a
def qD (w:World) (b:Nat) (ts:List TS) (F:List Nat) (i:Nat) (c:TS) (e:Ending) (w':World):Prop:=∃a,e=.returned (.bool true)/\Z (cu w' b (ts.set i c) a)/\Z (aa F w w')/\Z (∀x∈a,x∈F\/w.heap.size<=x)
theorem AQ (w:World) (H:Nat) (ts:List TS) (F:List Nat) (h:cu w H ts F) (i:Nat) (t:TS) (T:ts[i]? =some t) (d:Int) (a9:t.next<=d/\d<=4611686018427387905) (a0:t.l.length<=100000):
 Calls Tryz.prog 97 #[ptr H,I (i:Int),I d] w (qD w H ts F i ⟨t.cols,t.l,d⟩):=by
  obtain⟨q,J,f,a2,⟨g,tc,t1,t2⟩,⟨gs,off,sc,_,s0,⟨cA,cc,s1⟩,_⟩,E⟩:=h.at T;have a7:=(CV.1 T).1;have a6:(i:Int)<(ts.length:Int):=by omega
  have a4:=f.nx;have a3:=f.hc;unfold ptr at t2 ⊢;by_cases a8:t.next<d
  ·have K:=bZ (ku w q _ _ _ _ f);have wn:IntKind.i64.wrap (d - 1)=d - 1:=C0 _ (by omega);obtain⟨i0,hi,ak,an,ap⟩:=info_parts jP;have B:=jP;have O:Z (eq t.cols (List.replicate t.cols mF)=true):=bZ (d8.2 ⟨DG,fun v hv=>by rw[List.mem_replicate] at hv;rw[hv.2];exact .inl ⟨rfl,rfl,rfl⟩⟩);have H2:Z (∀w1,Blk w1 w.heap.size 60 (madeCells (Value.cells (.agg #[I 0,I 0,.string ⟨#[]⟩])) (t.cols*3))->aa [] w w1->Calls Tryz.prog 96 #[ptr q,I (d - 1),.slice (V w.heap.size) t.cols t.cols] w1 (kZ w1 q t.cols t.l t.next J (d - 1) (List.replicate t.cols mF))):=
    bZ (fun w1 hb k=>pQ w1 q t.cols t.l t.next J (f.keep k (fun y hy=>by cases hy)) (d - 1) _ _ _ _ DG ((wU hb).apart (fun g hg hm=>by simp only[fb,EM,Option.toList_some,CZ] at hg;subst hg;have:=f.lt _ hm;omega)) (by omega) (by omega) O.o)
   have s:Z (bS (d - 1) (fu (d - 1) (List.replicate t.cols mF) t.l)=t.l/\max t.next (d - 1+1)=d):=bZ ⟨yP (fun x r=>by have:=f.ids x r;omega),by omega⟩;have S:Z ((fu (d - 1) (List.replicate t.cols mF) t.l).length<=1000000):=bZ (by
    have h1:=kG (id:=d - 1) (row:=List.replicate t.cols mF) (l:=bS (d - 1) t.l) (fun x r=>(eB.1 r).2);have h2:=vb (id:=d - 1) f.asc;unfold fu;omega)
   have z:=bZ E;have a5:Z (∀x∈J,x<w.heap.size):=bZ f.lt;have Q:Z (∀W,aa J w W->(W.cell? (U H 1)=W.cell? (U H 1))):=bZ (fun W k=>rfl);clear h f E O Q;unfold ptr at K H2;go_enter Tryz.func97,Tryz.ntmps97;go_wp2_with (first
    | (go_at_call 101;refine K.o.mono ?_;rintro e w' ⟨rfl,n⟩;subst n)
    | (refine fR rfl 62 _ _ rfl 60 (.agg #[I 0,I 0,.string ⟨#[]⟩]) 3 32 Tryz.underlying62 B .i64 .i64 t.cols t.cols rfl rfl (C9 _) (by omega) (by omega) ?_;intro w1 P C ac)
    | (go_at_call 96;refine(H2.o w1 P.o C).mono ?_;rintro e w2 ⟨X,rfl,A,D,L⟩;rw[s.o.2] at A;have H3:=bZ (m8 w2 q t.cols _ d X A.o (d - 1) (by omega) S.o trivial);unfold ptr at H3)
    | (go_at_call 104;refine H3.o.mono ?_;rintro e w3 ⟨dA,dn,dc,db,Y,rfl,p,N,M⟩;rw[s.o.1] at p;have H4:=bZ (ku w3 q _ _ _ _ p.o);unfold ptr at H4)
    | (go_at_call 101;refine H4.o.mono ?_;rintro e w' ⟨rfl,n⟩;subst n))
   have m:Z (qD w H ts F i ⟨t.cols,t.l,d⟩ (.returned (.bool true)) w3):=bZ (by
    have z1:=C.size;have z2:=D.o.size;have e2:∀x∈X,x∈J\/w.heap.size<=x:=fun x r=>(L.o x r).imp_right (fun h=>by omega);have e3:∀x∈Y,x∈J\/w.heap.size<=x:=fun x r=>(M.o x r).elim (e2 x) (fun h=>.inr (by omega));obtain⟨F',g1,g2,g3⟩:=z.o w3 t.l d Y ((C.nil.trans D.o).more N.o e2) p.o e3;exact⟨F',rfl,bZ g1,bZ g2,bZ g3⟩)
   clear A D L p N M z;go_ret;exact m.o
  have R:d=t.next:=by omega
  subst R;have K:=bZ (ku w q _ _ _ _ f);have u:ts.set i ⟨t.cols,t.l,t.next⟩=ts:=by
   obtain⟨a,b,c⟩:=t;refine Ee (fun j=>?_);rw[List.getElem?_set]
   split
   ·rename_i hj;subst hj;rw[T]
   rfl
  have m:Z (qD w H ts F i ⟨t.cols,t.l,t.next⟩ (.returned (.bool true)) w):=bZ ⟨F,rfl,bZ (by rw[u];exact h),bZ (aa.refl _ _),bZ (fun x r=>.inl r)⟩;have a1:¬t.next<t.next:=by omega
  clear h f E u;unfold ptr at K;go_enter Tryz.func97,Tryz.ntmps97;go_wp2_with (go_at_call 101;refine K.o.mono ?_;rintro e w' ⟨rfl,n⟩;subst n);go_ret;exact m.o
structure TOk (t:TS):Prop where
 hc:1<=t.cols/\t.cols<=1000
 asc:fN t.l
 ids:∀x∈t.l,1<=x.1/\x.1<t.next
 nx:1<=t.next/\t.next<=4611686018427387905
 rows:∀x∈t.l,x.2.length=t.cols/\∀v∈x.2,v.ok
 len:t.l.length<=400
theorem pd {id:Int} {r:List Val}:∀ {l:Tab},(∀x∈l,x.1<id)->gG id r l=l++[(id,r)]
 | [],_=>rfl
 | e::l,h=>by
  unfold gG;rw[if_pos (h e (by simp)),pd (fun x a=>h x (DL _ a))];rfl
theorem vH {l:Tab} (h:fN l) {j:Nat} {x:Int×List Val} (d:l[j]? =some x):fu x.1 x.2 (l.take j)=l.take (j+1):=by
 have b:∀y∈l.take j,y.1<x.1:=fun y e=>by
  obtain⟨i,a⟩:=DQ e;rw[Dx] at a
  split at a
  ·rename_i hij;have c:=Ex.1 h i j (CV.1 a).1 (CV.1 d).1 hij;rw[(CV.1 a).2,(CV.1 d).2] at c;exact c
  cases a
 have c:bS x.1 (l.take j)=l.take j:=by
  unfold bS;rw[Ek];intro y e;have:=b y e;simp;omega
 unfold fu;rw[c,pd b,Dq,d];rfl
theorem zg {l:Tab} (h:fN l) {j:Nat} {x:Int×List Val} (c:l[j]? =some x):∀y∈l.drop (j+1),x.1<y.1:=fun y d=>by
 obtain⟨i,a⟩:=DQ d;rw[DK] at a;have b:=Ex.1 h j (j+1+i) (CV.1 c).1 (CV.1 a).1 (by omega);rw[(CV.1 a).2,(CV.1 c).2] at b;exact b
theorem wE {l:Tab} {j:Nat} {x:Int×List Val} (h:l[j]? =some x):cN (l.drop j)=gm x++cN (l.drop (j+1)):=by
 rw[DP (CV.1 h).1,(CV.1 h).2];rfl
def sn (w:World) (b g d:Nat) (ts:List TS) (F:List Nat) (i:Nat) (t:TS) (R:List UInt8) (e:Ending) (w':World):Prop:=
 ∃a c n' c',e=.returned (.tuple #[])/\c'<=9223372036854775807/\Z (cu w' d (ts.set i t) a)/\Z (RdS w' b g c n' c' R)/\Z (aa (b::F) w w')/\Z (∀x∈a,x∈F\/w.heap.size<=x)
theorem xB (w:World) (b g o n c T:Nat) (ts:List TS) (F:List Nat) (i:Nat) (t:TS) (R:List UInt8) (h:cu w T ts F) (hi:ts[i]? =some (emp t.cols)) (ht:TOk t) (hR:RdS w b g o n c (fP t++R)) (hc:c<=9223372036854775807) (hp:b∉F) (hg:g∉F):
 Calls Tryz.prog 60 #[ptr b,ptr T,I (i:Int)] w (sn w b g T ts F i t R):=by
  obtain⟨q,A,hT,⟨a0,cj⟩,⟨gt,tc,t1,t2⟩,⟨gs,off,sc,_,s0,⟨cA,cc,s1⟩,_,c5,c4⟩,Q⟩:=h.at2 hi;have b7:=(CV.1 hi).1;have hT:ci w q t.cols [] 1 A:=hT;have s1:w.cell? (U gs (off+i*5+1))=G cA t.cols cc:=s1;have bk:=h.mem;have co:=hT.lt;have c9:=ht.nx;have c8:=ht.len;have cr:(i:Int)<(ts.length:Int):=by omega
  unfold fP at hR;rw[Dd,Dd] at hR;obtain⟨m,r⟩:∃m,m=t.l.length:=⟨_,rfl⟩;rw[<-r] at hR c8;have H1:=bZ (fp w b g o n c t.next _ (by omega) hR hc);have bb:b∉A:=fun r=>hp (a0 b r);have c3:g∉A:=fun r=>hg (a0 g r);have cm:=hR.blk.lt;have N:=bZ hR.lt;have bh:T≠b:=fun he=>hp (he▸bk);have b6:gs≠b:=fun he=>hp (he▸c5);have ch:Z (∀W Y,aa Y w W->(∀y∈Y,y∈b::A\/w.heap.size<=y)->W.cell? (U T 0)=G (some (U gs off)) ts.length sc/\W.cell? (U gs (off+i*5+1))=G cA t.cols cc):=bZ (fun W Y k hY=>by
   have N:=block_lt_of_cell s1;have ck:=block_lt_of_cell s0;dsimp only at N ck;refine⟨k.cellEq s0 (fun r=>?_),k.cellEq s1 (fun r=>?_)⟩
   ·rcases hY _ r with d | d
    ·rcases Db.1 d with h2 | h2
     ·exact bh h2
     exact cj h2
    dsimp only at d;omega
   rcases hY _ r with d | d
   ·rcases Db.1 d with h2 | h2
    ·exact b6 h2
    exact c4 h2
   dsimp only at d;omega)
  replace Q:=bZ Q;unfold ptr at t2 H1 ⊢;go_enter Tryz.func60,Tryz.ntmps60;go_wp2_with (first
   | (go_at_call 93;refine H1.o.mono ?_;rintro e w1 ⟨rfl,⟨o1,an⟩,a6⟩;have H2:=bZ (fp w1 b g o1 (n - 8) (c - 8) (m:Int) _ (by omega) an.o (by omega));unfold ptr at H2;clear H1)
   | (go_at_call 93;refine H2.o.mono ?_;rintro e w2 ⟨rfl,⟨o2,ap⟩,a7⟩))
  have d1:¬t.next<1:=by omega
  have d2:¬(4611686018427387905:Int)<t.next:=by omega
  have d3:¬(m:Int)<0:=by omega
  have bp:Z (aa (b::A) w w2):=bZ ((a6.o.trans a7.o).mono (fun x u=>.inl (by simp only[CZ] at u;simp[u])));have b0:Z (ci w2 q t.cols [] 1 A):=bZ (hT.keep (a6.o.trans a7.o) (fun y a r=>by simp only[CZ] at a;subst a;exact bb r));clear a6 a7 an H2 hT;go_loopw [8,9] (fun qv lv wr=>∃(j k:Nat) (la B:Int) (K:List Nat) (o' n' c':Nat),j+k=m/\qv=I (k:Int)/\lv=I la/\c'<=9223372036854775807/\Z ((∀y∈t.l.drop j,la<y.1/\B<=y.1)/\1<=B/\B<=t.next)/\Z (ci wr q t.cols (t.l.take j) B K)/\Z (RdS wr b g o' n' c' (cN (t.l.drop j)++R))/\Z (aa (b::A) w wr)/\Z (∀x∈K,x∈A\/w.heap.size<=x)) (fun qv _ _=>(intOf qv).toNat)
  case atStart=>exact⟨0,m,0,1,A,o2,n - 8 - 8,c - 8 - 8,by omega,by rw[r],rfl,by omega,bZ ⟨fun y a=>by have:=ht.ids y a;omega,by omega,by omega⟩,b0,ap,bp,bZ (fun x u=>.inl u)⟩
  obtain⟨j,k,la,B,K,o',n',c',cs,rfl,rfl,b4,M,E,D,z,C⟩:=hrel;clear b0 ap bp;have y1:=D.o.blk.cell 1;have da:=z.o.size;by_cases ct:0<k
  ·obtain⟨x,u⟩:∃x,t.l[j]? =some x:=⟨_,CT (by omega)⟩;have ac:=CW u;have O:=ht.ids x ac;obtain⟨cd,s⟩:=ht.rows x ac;have bn:x∈t.l.drop j:=by rw[DP (CV.1 u).1,(CV.1 u).2];simp
   obtain⟨a5,c1,b3⟩:=M.o;have c2:=a5 x bn;have cv:(0:Int)<(k:Int):=by omega
   have wk:IntKind.i64.wrap ((k:Int) - 1)=((k - 1:Nat):Int):=by rw[C0 _ (by omega)];omega
   have d0:¬x.1<=la:=by omega
   have cp:¬t.next<=x.1:=by omega
   have cb:=bZ (vH ht.asc u);have J:=bZ (zg ht.asc u);have ba:max B (x.1+1)=x.1+1:=by omega
   have L:=D;rw[wE u] at L;unfold gm at L;rw[Dd,Dd] at L;have Ha:=bZ (fp wr b g o' n' c' x.1 _ (by omega) L.o b4);have bi:Z (eq t.cols x.2=true):=bZ (d8.2 ⟨cd,s⟩);have d7:=ht.hc;have c6:Z ((t.l.take j).length<=1000000):=bZ (by rw[CY];omega);have p:Z (b∉K/\g∉K):=bZ ⟨fun r=>by rcases C.o b r with d | d;exact bb d;omega,fun r=>by rcases C.o g r with d | d;exact c3 d;have:=N.o;omega⟩;unfold ptr at Ha;replace s:=bZ s;replace O:=bZ O;replace a5:=bZ a5;clear u ac bn D M c2;go_wp2_with (first
    | (go_at_call 93;refine Ha.o.mono ?_;rintro e w3 ⟨rfl,⟨o3,ar⟩,P⟩;have Hb:=bZ (m9 w3 b g o3 (n' - 8) (c' - 8) x.2 _ s.o (by omega) ar.o (by omega));unfold ptr at Hb;clear Ha)
    | (go_at_call 94;refine Hb.o.mono ?_;rintro e w4 ⟨A4,m4,d4,rfl,b9,⟨o4,a4⟩,a8,a9,b5⟩;have z1:=a4.o.blk.cell 1;have S:=bZ (P.o.trans a8.o);have bd:=ch.o w4 (b::A) (z.o.more S.o (fun y a=>.inl (by simp only[CZ] at a;simp[a]))) (fun y a=>.inl a);have Hc:=bZ (tZ w4 T i ts.length sc gs off t.cols cc cA bd.1 bd.2 b7 A4 x.2 m4 d4 b9 a9.o (by omega) (fun v hv=>dI (s.o v hv)));rw[bi.o] at Hc;unfold ptr at Hc;clear Hb)
    | (go_at_call 95;refine Hc.o.mono ?_;rintro e w5 ⟨rfl,H⟩;have b1:Z (ci w5 q t.cols (t.l.take j) B K):=bZ ((E.o.keep S.o (fun y a r=>by simp only[CZ] at a;subst a;exact p.o.1 r)).keep H.o (fun y a=>by cases a));have Hd:=bZ (pQ w5 q t.cols (t.l.take j) B K b1.o x.1 A4 x.2 m4 d4 b9 (((a9.o.keep H.o (by simp)).fresh b5.o (fun y a=>by have:=E.o.lt y a;have:=P.o.size;omega))) c6.o (by have:=O.o;omega) bi.o);unfold ptr at Hd;clear Hc)
    | (go_at_call 96;refine Hd.o.mono ?_;rintro e w6 ⟨F6,rfl,b2,b8,ak⟩))
   have f:Z (((∀y∈t.l.drop (j+1),x.1<y.1/\x.1+1<=y.1)/\1<=x.1+1/\x.1+1<=t.next)/\ci w6 q t.cols (t.l.take (j+1)) (x.1+1) F6/\RdS w6 b g o4 (n' - 8 - (dX x.2).length) (c' - 8 - (dX x.2).length) (cN (t.l.drop (j+1))++R)/\aa (b::A) w w6/\(∀y∈F6,y∈A\/w.heap.size<=y)):=bZ (by
    have cq:=O.o;have d5:=P.o.size;have cn:=a8.o.size;have d6:=H.o.size;have cl:aa [b] wr w5:=S.o.trans H.o.nil;have bs:=b8.o;have eF:∀y∈K,y∈A\/w.heap.size<=y:=C.o;refine⟨⟨fun y a=>by have:=J.o y a;omega,by omega,by omega⟩,?_,(a4.o.keep H.o (by simp) (by simp)).keep bs p.o.1 p.o.2,(z.o.more cl (fun y a=>.inl (by simp only[CZ] at a;simp[a]))).more bs (fun y a=>(eF y a).imp_left (fun h=>by simp[h])),fun y a=>?_⟩
    ·have:=b2.o;rw[cb.o,ba] at this;exact this
    rcases ak.o y a with d | d
    ·exact eF y d
    exact .inr (by omega))
   clear E z C ar a4 P a8 H b8 b1 b2 ak a9 b5 S p J;go_roundw
   case rel=>exact⟨j+1,k - 1,x.1,x.1+1,F6,o4,_,_,by omega,rfl,rfl,by omega,bZ f.o.1,bZ f.o.2.1,bZ f.o.2.2.1,bZ f.o.2.2.2.1,bZ f.o.2.2.2.2⟩
   case measure=>simp[intOf];omega
  obtain rfl:k=0:=by omega
  obtain rfl:j=m:=by omega
  have bl:t.l.take j=t.l:=C6 (by omega);have hdr:t.l.drop j=[]:=DB (by omega);rw[bl] at E;rw[hdr] at D;obtain⟨_,c1,b3⟩:=M.o;obtain⟨F2,g1,g2⟩:=Q.o wr t.l B K (b::A) z.o (fun y a=>by
   rcases Db.1 a with rfl | a
   ·exact .inr hp
   exact .inl a) E.o C.o
  have X:(ts.set i (⟨t.cols,t.l,B⟩:TS))[i]? =some ⟨t.cols,t.l,B⟩:=by rw[List.getElem?_set];simp[b7]
  have Hx:=bZ (AQ wr T (ts.set i ⟨t.cols,t.l,B⟩) F2 g1 i ⟨t.cols,t.l,B⟩ X t.next ⟨b3,c9.2⟩ (by dsimp only;omega));have p:Z (b∉F2/\g∉F2):=bZ ⟨fun r=>by rcases g2 b r with d | d;exact hp d;omega,fun r=>by rcases g2 g r with d | d;exact hg d;have:=N.o;omega⟩;have f:Z (∀w' F',cu w' T ((ts.set i (⟨t.cols,t.l,B⟩:TS)).set i ⟨t.cols,t.l,t.next⟩) F'->aa F2 wr w'->(∀y∈F',y∈F2\/wr.heap.size<=y)->sn w b g T ts F i t R (.returned (.tuple #[])) w'):=bZ (fun w' F' a1 a2 a3=>by
   rw[List.set_set] at a1;refine⟨F',o',n',c',rfl,b4,bZ a1,bZ (D.o.keep a2 p.o.1 p.o.2),bZ ((z.o.mono (fun x u=>.inl ?_)).more a2 (fun y a=>?_)),bZ (fun y a=>?_)⟩
   ·rcases Db.1 u with rfl | u
    ·simp
    simp[a0 x u]
   ·exact(g2 y a).imp_left (fun h=>by simp[h])
   rcases a3 y a with d | d
   ·exact g2 y d
   exact .inr (by omega))
  unfold ptr at Hx;clear E D z C M Q bl hdr X g1;go_wp2_with (go_at_call 97;refine Hx.o.mono ?_;rintro e w7 ⟨F7,rfl,c0,c7,bt⟩;have hf:=bZ (f.o w7 F7 c0.o c7.o bt.o));go_end0;exact hf.o
end Go.Proofs.YtmlmfpikncogpaaGreat
