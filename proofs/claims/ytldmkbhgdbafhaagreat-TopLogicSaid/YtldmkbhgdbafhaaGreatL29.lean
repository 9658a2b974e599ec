import Derived.Test.YtldmkbhgdbafhaaGreatL28
namespace Go.Proofs.YtldmkbhgdbafhaaGreat
open Go.RowKit
set_option linter.unusedSimpArgs false
set_option linter.unusedVariables false
set_option maxRecDepth 100000
set_option maxHeartbeats 64000000
theorem eJ {α:Type} {l:List α} {P:α->Bool} {j:Nat} {x:α} (a:l[j]? =some x):(l.take (j+1)).all P=((l.take j).all P && P x):=by
 rw[cN a,List.all_append];simp
theorem iJ {α:Type} {l:List α} {P:α->Bool} {j:Nat} {b B:Bool} (h:b=(B && (l.take j).all P)) (a:j=l.length\/b=false):b=(B && l.all P):=by
 rcases a with rfl | rfl
 ·rw[List.take_length] at h;exact h
 cases B
 ·rfl
 rw[Bool.true_and] at h ⊢;rw[<-Du j l,List.all_append,<-h];rfl
theorem jq {α:Type} {l:List α} {P:α->Bool} {j:Nat} (h:j=l.length):(l.take j).all P=l.all P:=by rw[h,List.take_length]
theorem ms (v:Int) (a:Bool):ep v a=(decide (v<=0) && (decide (v=0) || !a)):=by unfold ep;rw[Bool.or_comm]
theorem yU (a b:ByteArray):(a.toList==b.toList)=decide (a=b):=by
 rw[Lib.toList_data,Lib.toList_data];by_cases h:a=b
 ·rw[decide_eq_true h,h];exact beq_self_eq_true _
 rw[decide_eq_false h];exact beq_false_of_ne (fun c=>h (by cases a;cases b;congr 1;exact Array.ext' c))
theorem gR {r:List Vl} {l:List Vb} {nn:List Int} {v:Int} (d:bD r l) (c:∀v∈nn,(rv r v).k≠0) (h:txU l nn v):inV l v/\(rv r v).k=2/\(rv r v).n=0/\(rv r v).s.size<=16:=by
 obtain⟨i,m,u,g,b,j⟩:=eh d h.1;have e:rv r v=u:=by unfold rv;rw[g];rfl
 have f:=c v h.2;rw[e] at f ⊢;have a:u.k=2:=by omega
 rw[qe a] at b;simp only[Bool.and_eq_true,decide_eq_true_eq] at b;exact⟨⟨i,by have:=d.len;omega⟩,a,b.1,b.2.2⟩
theorem vZ (C:Nat->Prop) (l:List Vb) (r:List Vl) (c:Cla) (s:Sv) (w:World) (A:Option Addr) (n cr:Nat) (hn:n=r.length) (hl:l.length<=10) (am:Cla.Ok l c) (hr:bD r l) (bc:c.ax.length<=90000000/\c.is.length<=90000000/\c.ts.length<=90000000/\c.sm.length<=90000000/\c.df.length<=90000000) (ez:c.nul.length<=90000000/\c.nn.length<=90000000) (hC:er w C c s) (hA:gI w A r):
 Calls Tryz.prog 50 #[.agg (clL c s).toArray,.slice A n cr] w (RoP w (.bool (Cla.holds r n c))):=by
  have bs:n=l.length:=hn.trans hr.len;have fk:n<=10:=by omega
  obtain⟨R,hR⟩:∃R,R=Cla.holds r n c:=⟨_,rfl⟩;rw[<-hR];obtain⟨ar,ao⟩:∃x,x=c.nul:=⟨_,rfl⟩;obtain⟨nn,a6⟩:∃x,x=c.nn:=⟨_,rfl⟩;obtain⟨xs,av⟩:∃x,x=c.ax:=⟨_,rfl⟩;obtain⟨es,b1⟩:∃x,x=c.is:=⟨_,rfl⟩;obtain⟨ts,bu⟩:∃x,x=c.ts:=⟨_,rfl⟩;obtain⟨sm,bt⟩:∃x,x=c.sm:=⟨_,rfl⟩;obtain⟨df,b0⟩:∃x,x=c.df:=⟨_,rfl⟩;obtain⟨P0,cp⟩:∃P:Int->Bool,P=fun v=>decide ((rv r v).k=0):=⟨_,rfl⟩;obtain⟨P1,an⟩:∃P:Int->Bool,P=fun v=>decide ((rv r v).k≠0):=⟨_,rfl⟩;obtain⟨P2,c7⟩:∃P:Lin×Bool->Bool,P=fun e=>ep (dN (fiR r) n (axV (fiR r) (ftR r) n xs) e.1) e.2:=⟨_,rfl⟩;obtain⟨P3,cq⟩:∃P:Ts->Bool,P=fun t=>decide ((rv r t.v).k=2) && t.pass (rv r t.v).s:=⟨_,rfl⟩;obtain⟨P4,ct⟩:∃P:Int×Int->Bool,P=fun e=>decide ((rv r e.1).k=2) && decide (rv r e.1=rv r e.2):=⟨_,rfl⟩;obtain⟨P5,cu⟩:∃P:Int×Int->Bool,P=fun e=>decide ((rv r e.1).k=2) && (decide ((rv r e.2).k=2) && decide ((rv r e.1).s≠(rv r e.2).s)):=⟨_,rfl⟩;have HR:Z (R=(((((ar.all P0 && nn.all P1) && es.all P2) && ts.all P3) && sm.all P4) && df.all P5)):=bZ (by rw[hR,cp,an,c7,cq,ct,cu,ao,a6,b1,bu,bt,b0,av];rfl);have aq:Z (∀(W:World) (v:Int),ad [] w W->inV l v->∃(k:Nat) (J O:Nat),v=(k:Int)/\k<n/\A=some (U J O)/\W.cell? (U J (O+k*3))=some (I (rv r v).k)/\W.cell? (U J (O+k*3+1))=some (I (rv r v).n)/\W.cell? (U J (O+k*3+2))=some (.string (rv r v).s)):=bZ (fun W v hW hv=>by
   unfold inV at hv;obtain⟨k,rfl⟩:=Int.eq_ofNat_of_zero_le hv.1;have hk:k<r.length:=by omega
   obtain⟨J,O,h0,h1,h2,h3⟩:=(hA.keep0 hW) k r[k] (CT hk);have e:rv r (k:Int)=r[k]:=by unfold rv;rw[show ((k:Int)).toNat=k by simp,CT hk];rfl
   rw[e];exact⟨k,J,O,rfl,by omega,h0,h1,h2,h3⟩)
  have I0:Z (∀v∈ar,inV l v):=bZ (by rw[ao];exact am.nul.2);have I1:Z (∀v∈nn,inV l v):=bZ (by rw[a6];exact am.nn.2);have e6:Z (nn.all P1=true->∀W,ad [] w W->Calls Tryz.prog 87 #[.agg (clL c s).toArray,.slice A n cr] W (AvP W (axV (fiR r) (ftR r) n xs))):=bZ (fun h W hW=>by
   rw[av];exact oH C l r c s W A n cr hn hl am hr (fun v hv=>by have:=List.all_eq_true.1 h v (by rw[a6];exact hv);rw[an] at this;simpa using this) bc.1 (hC.keep0 hW) (hA.keep0 hW))
  have ap:nn.all P1=true->∀v∈c.nn,(rv r v).k≠0:=fun h v hv=>by have:=List.all_eq_true.1 h v (by rw[a6];exact hv);rw[an] at this;simpa using this
  have e7:Z (nn.all P1=true->∀e∈es,∀(W:World) (fA:Option Addr) (fc:Nat) (vA:Option Addr) (vc:Nat) (E D:Nat->Prop),ad [] w W->ag bh W D fA e.1.cs->ag a8 W E vA (axV (fiR r) (ftR r) n xs)->
   Calls Tryz.prog 88 #[.agg #[I e.1.k,.slice fA e.1.cs.length fc],.slice A n cr,.slice vA (axV (fiR r) (ftR r) n xs).length vc] W (VvP W (dN (fiR r) n (axV (fiR r) (ftR r) n xs) e.1))):=bZ (fun h e he W fA fc vA vc E D hW hF hV=>by
   have hf:=am.is e (by rw[<-b1];exact he)
   rw[<-bs,<-av] at hf
   have ex:(bV n xs).length=xs.length:=eI n xs
   have fx:xs.length<=90000000:=by rw[av];exact bc.1
   have ca:=ug bs hr (ap h) hf
   have f2:=mD (fiR r) (ftR r) n xs
   rw[ex] at ca
   have ev:=lV (n:=n) (xs:=xs) hr (by have:=uB am hr c.ax.length (C9 _);rwa [List.take_length,<-bs,<-av] at this)
   exact p8 D E W e.1 fA e.1.cs.length fc r A n cr _ vA _ vc (bV n xs) rfl (gD hf hl (by omega)) hn (by omega) rfl (by omega) (fun x hx=>⟨(ca x hx).1,by rw[f2];exact(ca x hx).2.1,(ca x hx).2.2,ev x.1⟩) (by have:=hf.bd;rwa [<-bs] at this) hF hV (hA.keep0 hW))
  have TS:Z (nn.all P1=true->∀t∈ts,inV l t.v/\(rv r t.v).k=2/\P3 t=t.pass (rv r t.v).s/\∀W,Calls Tryz.prog 89 #[.agg #[I t.v,I t.kd,.bool t.ng,.string t.s],.string (rv r t.v).s] W (RoP W (.bool (P3 t)))):=bZ (fun h t ht=>by
   obtain⟨h1,h2,h3,h4⟩:=am.ts t (by rw[<-bu];exact ht);obtain⟨q1,q2,q3,q4⟩:=gR hr (ap h) h4;have e:P3 t=t.pass (rv r t.v).s:=by rw[cq];simp[q2]
   have hz:t.s.size<=16:=by unfold iQ at h3;rw[Bool.and_eq_true,decide_eq_true_eq] at h3;exact h3.2
   refine⟨q1,q2,e,fun W=>?_⟩;rw[e];exact sT W t (rv r t.v).s h1 h2 (by omega) (by omega))
  have SM:Z (nn.all P1=true->∀e∈sm,inV l e.1/\inV l e.2/\(rv r e.1).k=2/\(rv r e.2).k=2/\(rv r e.1).n=0/\(rv r e.2).n=0/\P4 e=((rv r e.1).s.toList==(rv r e.2).s.toList)):=bZ (fun h e he=>by
   obtain⟨_,h1,h2⟩:=am.sm e (by rw[<-bt];exact he);obtain⟨q1,q2,q3,_⟩:=gR hr (ap h) h1;obtain⟨t1,t2,t3,_⟩:=gR hr (ap h) h2;refine⟨q1,t1,q2,t2,q3,t3,?_⟩;rw[ct,yU];simp only[q2,decide_true,Bool.true_and];refine decide_eq_decide.2 ⟨fun h=>by rw[h],fun h=>?_⟩;have ee:∀a b:Vl,a.k=b.k->a.n=b.n->a.s=b.s->a=b:=fun a b h1 h2 h3=>by cases a;cases b;cases h1;cases h2;cases h3;rfl
   exact ee _ _ (by rw[q2,t2]) (by rw[q3,t3]) h)
  have DF:Z (nn.all P1=true->∀e∈df,inV l e.1/\inV l e.2/\(rv r e.1).k=2/\(rv r e.2).k=2/\P5 e=!((rv r e.1).s.toList==(rv r e.2).s.toList)):=bZ (fun h e he=>by
   obtain⟨_,h1,h2⟩:=am.df e (by rw[<-b0];exact he);obtain⟨q1,q2,q3,_⟩:=gR hr (ap h) h1;obtain⟨t1,t2,t3,_⟩:=gR hr (ap h) h2;refine⟨q1,t1,q2,t2,?_⟩;rw[cu,yU];simp[q2,t2])
  have E0:Z (∀v,P0 v=decide ((rv r v).k=0)):=bZ (fun v=>by rw[cp]);have E1:Z (∀v,P1 v=decide ((rv r v).k≠0)):=bZ (fun v=>by rw[an]);have E2:Z (∀e,P2 e=ep (dN (fiR r) n (axV (fiR r) (ftR r) n xs) e.1) e.2):=bZ (fun v=>by rw[c7]);have R0:=bZ hC.r0;have R1:=bZ hC.r1;have R3:=bZ hC.r3;have R4:=bZ hC.r4;have R5:=bZ hC.r5;have R6:=bZ hC.r6;rw[<-ao] at R0;rw[<-a6] at R1;rw[<-b1] at R3;rw[<-bu] at R4;rw[<-bt] at R5;rw[<-b0] at R6;obtain⟨fm,fn⟩:=ez;obtain⟨f0,fr,fs,ft,fv⟩:=bc;unfold clL at*;generalize bf:c.nul.length=n0 at*;generalize bk:c.nn.length=n1 at*;generalize bm:c.is.length=n3 at*;generalize bn:c.ts.length=n4 at*;generalize bp:c.sm.length=n5 at*;generalize bq:c.df.length=n6 at*;generalize c.ax.length=n2 at*;rw[<-ao] at bf;rw[<-a6] at bk;rw[<-b1] at bm;rw[<-bu] at bn;rw[<-bt] at bp;rw[<-b0] at bq;replace bf:=bZ bf.symm;replace bk:=bZ bk.symm;replace bm:=bZ bm.symm;replace bn:=bZ bn.symm;replace bp:=bZ bp.symm;replace bq:=bZ bq.symm;generalize axV (fiR r) (ftR r) n xs=VS at*;clear cp an c7 cq ct cu ap hR hn hl am hr hC hA bs ao a6 av b1 bu bt b0 f0;obtain⟨W1,c8⟩:∃W,W=w.alloc (.cells #[.slice s.A0 n0 s.c0,.slice s.A1 n1 s.c1,.slice s.A2 n2 s.c2,.slice s.A3 n3 s.c3,.slice s.A4 n4 s.c4,.slice s.A5 n5 s.c5,.slice s.A6 n6 s.c6] 114):=⟨_,rfl⟩;obtain⟨g2,cv⟩:∃g,g=w.heap.size:=⟨_,rfl⟩;have k1:Z (ad [] w W1):=bZ (by rw[c8];exact(ad.refl [] w).alloc _);have b2:Z (Blk W1 g2 114 #[.slice s.A0 n0 s.c0,.slice s.A1 n1 s.c1,.slice s.A2 n2 s.c2,.slice s.A3 n3 s.c3,.slice s.A4 n4 s.c4,.slice s.A5 n5 s.c5,.slice s.A6 n6 s.c6]):=bZ (by rw[c8,cv];exact Blk.new w 114 _);go_enter Tryz.func50,Tryz.ntmps50;go_upto_region 1 with fail;rw[<-c8,<-cv];clear c8 cv;go_wp2_with fail;go_loopw [5] (fun s wr=>∃j:Nat,j<=n0/\s=I (j:Int)/\Z ((ar.take j).all P0=true)/\Z (ad [] W1 wr)) (fun s _=>n0 - (intOf s).toNat)
  case atStart=>exact⟨0,C3 _,rfl,bZ rfl,bZ (ad.refl _ _)⟩
  obtain⟨j,hj,rfl,hS,y⟩:=hrel;obtain⟨Y,a9⟩:∃x,x=wr:=⟨_,rfl⟩;subst a9;have i:=bZ (k1.o.trans y.o);have bo:=bZ (b2.o.keep y.o (by simp));have y2:=bo.o.cell;have T:=bo.o.lt;by_cases f:j<n0
  ·obtain⟨v,hv⟩:∃v,ar[j]? =some v:=⟨_,CT (by rw[<-bf.o];exact f)⟩;have L:=bZ (eJ (P:=P0) hv);obtain⟨g,d,rc,a4,_,_,hI,H⟩:=(R0.o.keep0 i.o).get bN (by decide) hv;obtain rfl:=cU.1 hI;have x0:=H 0 _ rfl;rw[EU,Fg] at x0;obtain⟨k,J,O,a3,ak,ac,c0,c1,c2⟩:=aq.o Y v i.o (I0.o v (CW hv));have F:=E0.o v;have cb:(k:Int)<(n:Int):=by omega
   have b6:(j:Int)<(n0:Int):=by omega
   have wj:IntKind.i64.wrap ((j:Int)+1)=(j:Int)+1:=C0 _ (by omega);generalize s.A0=A0 at*;subst a4;subst ac;generalize (rv r v).k=vk at*;have a2:=bZ (CW hv);obtain⟨q,hq⟩:∃q,q=P0 v:=⟨_,rfl⟩;rw[<-hq] at F L;replace hq:=bZ hq;subst a3;clear hI H hv c1 c2 ak;by_cases hz:vk=0
   ·have d3:(vk==0)=true:=by simp[hz]
    have d4:(vk !=0)=false:=by simp[hz]
    obtain rfl:q=true:=by rw[F];simp[hz]
    have N:Z ((ar.take (j+1)).all P0=true):=bZ (by rw[L.o,hS.o];rfl);clear hz F L hq a2 hS;go_wp2_with fail;go_roundw
    case rel=>exact⟨j+1,by omega,by go_num,N,y⟩
    case measure=>simp[intOf];omega
   have d3:(vk==0)=false:=by simp[hz]
   have d4:(vk !=0)=true:=by simp[hz]
   obtain rfl:q=false:=by rw[F];simp[hz]
   have a5:Z (R=false):=bZ (by
    have h1:ar.all P0=false:=by
     rw[Bool.eq_false_iff];intro h;have:=List.all_eq_true.1 h _ a2.o;rw[<-hq.o] at this;cases this
    rw[HR.o,h1];simp)
   clear hz F L hq a2;go_wp2_with fail;go_ret;rw[a5.o];exact⟨rfl,i⟩
  obtain rfl:j=n0:=by omega
  have e9:Z (ar.all P0=true):=bZ (by rw[<-jq bf.o];exact hS.o);obtain⟨wa,e2⟩:∃x,x=Y:=⟨_,rfl⟩;have ka:=i;have ba:=bo;rw[<-e2] at ka ba;go_wp2_with fail;rw[<-e2];clear y2 T;go_loopw [6] (fun s wr=>∃j:Nat,j<=n1/\s=I (j:Int)/\Z ((nn.take j).all P1=true)/\Z (ad [] wa wr)) (fun s _=>n1 - (intOf s).toNat)
  case atStart=>exact⟨0,C3 _,rfl,bZ rfl,bZ (ad.refl _ _)⟩
  obtain⟨j,hj,rfl,hS,y⟩:=hrel;obtain⟨Y,a9⟩:∃x,x=wr:=⟨_,rfl⟩;subst a9;have i:=bZ (ka.o.trans y.o);have bo:=bZ (ba.o.keep y.o (by simp));have y2:=bo.o.cell;have T:=bo.o.lt;by_cases f:j<n1
  ·obtain⟨v,hv⟩:∃v,nn[j]? =some v:=⟨_,CT (by rw[<-bk.o];exact f)⟩;have L:=bZ (eJ (P:=P1) hv);obtain⟨g,d,rc,a4,_,_,hI,H⟩:=(R1.o.keep0 i.o).get bN (by decide) hv;obtain rfl:=cU.1 hI;have x0:=H 0 _ rfl;rw[EU,Fg] at x0;obtain⟨k,J,O,a3,ak,ac,c0,c1,c2⟩:=aq.o Y v i.o (I1.o v (CW hv));have F:=E1.o v;have cb:(k:Int)<(n:Int):=by omega
   have b6:(j:Int)<(n1:Int):=by omega
   have wj:IntKind.i64.wrap ((j:Int)+1)=(j:Int)+1:=C0 _ (by omega);generalize s.A1=A1 at*;subst a4;subst ac;generalize (rv r v).k=vk at*;have a2:=bZ (CW hv);obtain⟨q,hq⟩:∃q,q=P1 v:=⟨_,rfl⟩;rw[<-hq] at F L;replace hq:=bZ hq;subst a3;clear hI H hv c1 c2 ak;by_cases hz:vk=0
   ·have d3:(vk==0)=true:=by simp[hz]
    have d4:(vk !=0)=false:=by simp[hz]
    obtain rfl:q=false:=by rw[F];simp[hz]
    have a5:Z (R=false):=bZ (by
     have h1:nn.all P1=false:=by
      rw[Bool.eq_false_iff];intro h;have:=List.all_eq_true.1 h _ a2.o;rw[<-hq.o] at this;cases this
     rw[HR.o,h1];simp)
    clear hz F L hq a2;go_wp2_with fail;go_ret;rw[a5.o];exact⟨rfl,i⟩
   have d3:(vk==0)=false:=by simp[hz]
   have d4:(vk !=0)=true:=by simp[hz]
   obtain rfl:q=true:=by rw[F];simp[hz]
   have N:Z ((nn.take (j+1)).all P1=true):=bZ (by rw[L.o,hS.o];rfl);clear hz F L hq a2 hS;go_wp2_with fail;go_roundw
   case rel=>exact⟨j+1,by omega,by go_num,N,y⟩
   case measure=>simp[intOf];omega
  obtain rfl:j=n1:=by omega
  have au:Z (nn.all P1=true):=bZ (by rw[<-jq bk.o];exact hS.o);go_wp2_with (go_at_call 87;clear y2 T;refine(e6.o au.o _ i.o).mono ?_;rintro e w5 ⟨vA,vc,rfl,eu,k5⟩);have kb:=bZ (i.o.trans k5.o);have bb:=bZ (bo.o.keep k5.o (by simp))
  try clear y2 T
  go_loopw [8,9] (fun s8 s wr=>∃(j:Nat) (b:Bool),j<=n3/\s8=.bool b/\s=I (j:Int)/\Z (b=(true && (es.take j).all P2))/\Z (ad [] w5 wr)) (fun _ s _=>n3 - (intOf s).toNat)
  case atStart=>exact⟨0,_,C3 _,rfl,rfl,bZ (by simp),bZ (ad.refl _ _)⟩
  obtain⟨j,b,hj,rfl,rfl,hS,y⟩:=hrel;obtain⟨Y,a9⟩:∃x,x=wr:=⟨_,rfl⟩;subst a9;have i:=bZ (kb.o.trans y.o);have bo:=bZ (bb.o.keep y.o (by simp));have y2:=bo.o.cell;have T:=bo.o.lt;by_cases f:j<n3/\b=true
  ·obtain⟨f,rfl⟩:=f;obtain⟨x,hx⟩:∃v,es[j]? =some v:=⟨_,CT (by rw[<-bm.o];exact f)⟩;have L:Z (P2 x=(true && (es.take (j+1)).all P2)):=bZ (by
    rw[eJ hx,<-Bool.and_assoc,<-hS.o];rfl)
   have b6:(j:Int)<(n3:Int):=by omega
   have wj:IntKind.i64.wrap ((j:Int)+1)=(j:Int)+1:=C0 _ (by omega);clear hS;have F:=E2.o x;obtain⟨g,d,rc,a4,_,_,hI,H⟩:=(R3.o.keep0 i.o).get il (by decide) hx;obtain⟨fA,fc,rfl,ey,fl,ds⟩:=pL.1 hI;have x0:=H 0 _ rfl;have x1:=H 1 _ rfl;have x2:=H 2 _ rfl;rw[Fg] at x0;have VL:=bZ (fun (W:World) (hW:ad [] Y W)=>e7.o au.o x (CW hx) W fA fc vA vc _ _ (i.o.trans hW) (ds.keep0 hW) ((eu.o.keep0 y.o).keep0 hW));generalize dN (fiR r) n VS x.1=M at*;rw[ms] at F;obtain⟨Q,hQ⟩:∃Q,Q=P2 x:=⟨_,rfl⟩;rw[<-hQ] at F L;generalize s.A3=A3 at*;subst a4;generalize x.1.k=xk at*;generalize x.1.cs.length=xl at*;generalize x.2=eq at*;clear hI H hx ey ds hQ;have d8:=bZ (fun (W:World) (hW:ad [] Y W)=>hW.cellEq x2 (by simp));have h1:M<0\/M=0\/0<M:=by omega
   rcases h1 with h1 | h1 | h1
   ·have m1:(M<=0)=True:=eq_true (by omega);have bx:decide (M<=0)=true:=decide_eq_true (by omega);have m2:(M==0)=false:=by simp;omega
    have m3:decide (M=0)=false:=decide_eq_false (by omega);rw[bx,m3] at F;clear h1;cases eq
    all_goals
     have N:=L;rw[F] at N;replace F:=bZ F;simp only[Bool.true_and,Bool.false_and,Bool.true_or,Bool.false_or,Bool.not_true,Bool.not_false] at N;go_wp2_with (go_at_call 88;clear y2 T x0 x1 x2;refine(VL.o _ (ad.refl _ _)).mono ?_;rintro e w8 ⟨rfl,k8⟩;have b8:=bZ (bo.o.keep k8.o (by simp));have y2:=b8.o.cell;have T:=b8.o.lt;have x2:=d8.o _ k8.o);go_roundw
     case rel=>exact⟨j+1,_,by omega,by first | rfl | simp,by go_num,N,bZ (y.o.trans k8.o)⟩
     case measure=>simp[intOf];omega
   ·have m1:(M<=0)=True:=eq_true (by omega);have bx:decide (M<=0)=true:=decide_eq_true (by omega);have m2:(M==0)=true:=by simp;omega
    have m3:decide (M=0)=true:=decide_eq_true h1;rw[bx,m3] at F;clear h1;cases eq
    all_goals
     have N:=L;rw[F] at N;replace F:=bZ F;simp only[Bool.true_and,Bool.false_and,Bool.true_or,Bool.false_or,Bool.not_true,Bool.not_false] at N;go_wp2_with (go_at_call 88;clear y2 T x0 x1 x2;refine(VL.o _ (ad.refl _ _)).mono ?_;rintro e w8 ⟨rfl,k8⟩;have b8:=bZ (bo.o.keep k8.o (by simp));have y2:=b8.o.cell;have T:=b8.o.lt;have x2:=d8.o _ k8.o);go_roundw
     case rel=>exact⟨j+1,_,by omega,by first | rfl | simp,by go_num,N,bZ (y.o.trans k8.o)⟩
     case measure=>simp[intOf];omega
   have m1:(M<=0)=False:=eq_false (by omega);have bx:decide (M<=0)=false:=decide_eq_false (by omega);have m2:(M==0)=false:=by simp;omega
   have m3:decide (M=0)=false:=decide_eq_false (by omega);rw[bx,m3] at F;clear h1;cases eq
   all_goals
    have N:=L;rw[F] at N;replace F:=bZ F;simp only[Bool.true_and,Bool.false_and,Bool.true_or,Bool.false_or,Bool.not_true,Bool.not_false] at N;go_wp2_with (go_at_call 88;clear y2 T x0 x1 x2;refine(VL.o _ (ad.refl _ _)).mono ?_;rintro e w8 ⟨rfl,k8⟩;have b8:=bZ (bo.o.keep k8.o (by simp));have y2:=b8.o.cell;have T:=b8.o.lt;have x2:=d8.o _ k8.o);go_roundw
    case rel=>exact⟨j+1,_,by omega,by first | rfl | simp,by go_num,N,bZ (y.o.trans k8.o)⟩
    case measure=>simp[intOf];omega
  have hE:Z (b=es.all P2):=bZ (by
   have:=iJ hS.o (by
    by_cases h:j<n3
    ·right;cases b
     ·rfl
     exact absurd ⟨h,rfl⟩ f
    left;rw[<-bm.o];omega)
   rwa [Bool.true_and] at this)
  clear hS;cases b
  ·have a5:Z (R=false):=bZ (by rw[HR.o,<-hE.o];simp);have z4:(((0:Int)<(n4:Int))=True/\(0<n4)=True)\/(((0:Int)<(n4:Int))=False/\(0<n4)=False):=by
    by_cases h:0<n4
    ·exact .inl ⟨eq_true (by omega),eq_true h⟩
    exact .inr ⟨eq_false (by omega),eq_false h⟩
   have z5:(((0:Int)<(n5:Int))=True/\(0<n5)=True)\/(((0:Int)<(n5:Int))=False/\(0<n5)=False):=by
    by_cases h:0<n5
    ·exact .inl ⟨eq_true (by omega),eq_true h⟩
    exact .inr ⟨eq_false (by omega),eq_false h⟩
   have z6:(((0:Int)<(n6:Int))=True/\(0<n6)=True)\/(((0:Int)<(n6:Int))=False/\(0<n6)=False):=by
    by_cases h:0<n6
    ·exact .inl ⟨eq_true (by omega),eq_true h⟩
    exact .inr ⟨eq_false (by omega),eq_false h⟩
   have zj:(((j:Int)<(n3:Int))=True)\/(((j:Int)<(n3:Int))=False):=by
    by_cases h:j<n3
    ·exact .inl (eq_true (by omega))
    exact .inr (eq_false (by omega))
   clear hE f;rcases zj with zj | zj<;>rcases z4 with ⟨z4,fi⟩ | ⟨z4,fi⟩<;>rcases z5 with ⟨z5,d9⟩ | ⟨z5,d9⟩<;>rcases z6 with ⟨z6,bz⟩ | ⟨z6,bz⟩
   all_goals
    go_wp2_with fail;refine wp_loop_rounds 1 ?_;rw[rounds_succ];go_wp2_with fail;refine wp_loop_rounds 1 ?_;rw[rounds_succ];go_wp2_with fail;refine wp_loop_rounds 1 ?_;rw[rounds_succ];go_wp2_with fail;go_ret;rw[a5.o];exact⟨rfl,i⟩
  have ef:Z (es.all P2=true):=bZ hE.o.symm;have hc:((j:Int)<(n3:Int))=False:=eq_false (fun h=>f ⟨by omega,rfl⟩);clear hE f;obtain⟨f7,cc⟩:∃x,x=Y:=⟨_,rfl⟩;have e3:=i;have dc:=bo;have f3:=y;rw[<-cc] at e3 dc f3;go_wp2_with fail;rw[<-cc];clear y2 T hc;go_loopw [8,12] (fun s8 s wr=>∃(j:Nat) (b:Bool),j<=n4/\s8=.bool b/\s=I (j:Int)/\Z (b=(true && (ts.take j).all P3))/\Z (ad [] f7 wr)) (fun _ s _=>n4 - (intOf s).toNat)
  case atStart=>exact⟨0,_,C3 _,rfl,rfl,bZ (by simp),bZ (ad.refl _ _)⟩
  obtain⟨j,b,hj,rfl,rfl,hS,y⟩:=hrel;obtain⟨Y,a9⟩:∃x,x=wr:=⟨_,rfl⟩;subst a9;have i:=bZ (e3.o.trans y.o);have bo:=bZ (dc.o.keep y.o (by simp));have y2:=bo.o.cell;have T:=bo.o.lt;by_cases f:j<n4/\b=true
  ·obtain⟨f,rfl⟩:=f;obtain⟨x,hx⟩:∃v,ts[j]? =some v:=⟨_,CT (by rw[<-bn.o];exact f)⟩;have L:Z (P3 x=(true && (ts.take (j+1)).all P3)):=bZ (by
    rw[eJ hx,<-Bool.and_assoc,<-hS.o];rfl)
   have b6:(j:Int)<(n4:Int):=by omega
   have wj:IntKind.i64.wrap ((j:Int)+1)=(j:Int)+1:=C0 _ (by omega);clear hS;obtain⟨dv,dx,_,PS⟩:=TS.o au.o x (CW hx);replace PS:=bZ PS;obtain⟨g,d,rc,a4,_,_,hI,H⟩:=(R4.o.keep0 i.o).get gU (by decide) hx;obtain rfl:=sw.1 hI;have x0:=H 0 _ rfl;have x1:=H 1 _ rfl;have x2:=H 2 _ rfl;have x3:=H 3 _ rfl;rw[Fg] at x0;obtain⟨k,J,O,a3,ak,ac,c0,c1,c2⟩:=aq.o Y x.v i.o dv;rw[dx] at c0;have cb:(k:Int)<(n:Int):=by omega
   obtain⟨Q,hQ⟩:∃Q,Q=P3 x:=⟨_,rfl⟩;rw[<-hQ] at L PS;generalize (rv r x.v).n=vn at*;generalize (rv r x.v).s=vs at*;generalize s.A4=A4 at*;subst a4;subst ac;rw[a3] at x0 PS;generalize x.kd=tk at*;generalize x.ng=tn at*;generalize x.s=tz at*;clear hI H hx hQ dv dx a3 ak;obtain⟨W3,c9⟩:∃W,W=Y.alloc (.cells #[I 2,I vn,.string vs] 23):=⟨_,rfl⟩;obtain⟨g3,cx⟩:∃g,g=Y.heap.size:=⟨_,rfl⟩;have k3:Z (ad [] Y W3):=bZ (by rw[c9];exact(ad.refl [] Y).alloc _);have b3:Z (Blk W3 g3 23 #[I 2,I vn,.string vs]):=bZ (by rw[c9,cx];exact Blk.new Y 23 _);have aa:Z (∀X,ad [] W3 X->X.cell? (U g3 0)=some (I 2)/\X.cell? (U g3 2)=some (.string vs)/\X.cell? (U g2 4)=G (some (U g d)) n4 s.c4/\X.cell? (U g (d+j*4))=some (I (k:Int))/\X.cell? (U g (d+j*4+1))=some (I tk)/\X.cell? (U g (d+j*4+2))=some (.bool tn)/\X.cell? (U g (d+j*4+3))=some (.string tz)):=bZ (fun X h=>⟨(b3.o.keep h (by simp)).cell 0,(b3.o.keep h (by simp)).cell 2,((bo.o.keep k3.o (by simp)).keep h (by simp)).cell 4,(k3.o.trans h).cellEq x0 (by simp),(k3.o.trans h).cellEq x1 (by simp),(k3.o.trans h).cellEq x2 (by simp),(k3.o.trans h).cellEq x3 (by simp)⟩);go_upto_region 21 with fail;rw[<-c9,<-cx];clear c9 cx x0 x1 x2 x3 c0 c1 c2 y2 T;refine ae (S:=(fun B:World=>B.cell? (U g3 0)=some (I 2)/\B.cell? (U g3 2)=some (.string vs)/\B.cell? (U g2 4)=G (some (U g d)) n4 s.c4/\B.cell? (U g (d+j*4))=some (I (k:Int))/\B.cell? (U g (d+j*4+1))=some (I tk)/\B.cell? (U g (d+j*4+2))=some (.bool tn)/\B.cell? (U g (d+j*4+3))=some (.string tz))) (n:=11) (by kernel_rfl) ?_;have HS:(fun B:World=>B.cell? (U g3 0)=some (I 2)/\B.cell? (U g3 2)=some (.string vs)/\B.cell? (U g2 4)=G (some (U g d)) n4 s.c4/\B.cell? (U g (d+j*4))=some (I (k:Int))/\B.cell? (U g (d+j*4+1))=some (I tk)/\B.cell? (U g (d+j*4+2))=some (.bool tn)/\B.cell? (U g (d+j*4+3))=some (.string tz)) W3.drew:=aa.o _ (ad.refl [] W3).drew
   try dsimp only at HS
   refine ord [0,1,2,3,4,5,6,7,8,9,10] ?_
   iterate 4 (refine tq HS ?_;try simp only[PT,Y1,Y2,Y3])
   iterate 7 (first | (refine tu HS ?_;try simp only[PT,Y1,Y2,Y3]) | (refine tq HS ?_;try simp only[PT,Y1,Y2,Y3]))
   refine aB ?_;refine J1 11 fun K hK=>?_;dsimp only[Y1,Y2,Y3];go_simp;refine(PS.o _).mono ?_;rintro e w8 ⟨rfl,k8⟩;have kk:=bZ ((k3.o.drew).trans k8.o);refine hK _ _ (.inl (by omega)) ?_;clear hK K
   try simp only[PT,Y1,Y2,Y3]
   refine JQ 12 ?_
   try simp only[PT,Y1,Y2,Y3]
   refine JQ 13 ?_
   try simp only[PT,Y1,Y2,Y3]
   refine JD ?_;clear HS aa;go_wp2_with fail;go_roundw
   case rel=>exact⟨j+1,Q,by omega,by first | rfl | simp,by go_num,L,bZ (y.o.trans kk.o)⟩
   case measure=>simp[intOf];omega
  have hE:Z (b=ts.all P3):=bZ (by
   have:=iJ hS.o (by
    by_cases h:j<n4
    ·right;cases b
     ·rfl
     exact absurd ⟨h,rfl⟩ f
    left;rw[<-bn.o];omega)
   rwa [Bool.true_and] at this)
  clear hS;cases b
  ·have a5:Z (R=false):=bZ (by rw[HR.o,<-hE.o];simp);have z5:(((0:Int)<(n5:Int))=True/\(0<n5)=True)\/(((0:Int)<(n5:Int))=False/\(0<n5)=False):=by
    by_cases h:0<n5
    ·exact .inl ⟨eq_true (by omega),eq_true h⟩
    exact .inr ⟨eq_false (by omega),eq_false h⟩
   have z6:(((0:Int)<(n6:Int))=True/\(0<n6)=True)\/(((0:Int)<(n6:Int))=False/\(0<n6)=False):=by
    by_cases h:0<n6
    ·exact .inl ⟨eq_true (by omega),eq_true h⟩
    exact .inr ⟨eq_false (by omega),eq_false h⟩
   have zj:(((j:Int)<(n4:Int))=True)\/(((j:Int)<(n4:Int))=False):=by
    by_cases h:j<n4
    ·exact .inl (eq_true (by omega))
    exact .inr (eq_false (by omega))
   clear hE f;rcases zj with zj | zj<;>rcases z5 with ⟨z5,d9⟩ | ⟨z5,d9⟩<;>rcases z6 with ⟨z6,bz⟩ | ⟨z6,bz⟩
   all_goals
    go_wp2_with fail;refine wp_loop_rounds 1 ?_;rw[rounds_succ];go_wp2_with fail;refine wp_loop_rounds 1 ?_;rw[rounds_succ];go_wp2_with fail;go_ret;rw[a5.o];exact⟨rfl,i⟩
  have eg:Z (ts.all P3=true):=bZ hE.o.symm;have hc:((j:Int)<(n4:Int))=False:=eq_false (fun h=>f ⟨by omega,rfl⟩);clear hE f;obtain⟨f8,cd⟩:∃x,x=Y:=⟨_,rfl⟩;have e4:=i;have dk:=bo;have f4:=y;rw[<-cd] at e4 dk f4;go_wp2_with fail;rw[<-cd];clear y2 T hc;go_loopw [8,14] (fun s8 s wr=>∃(j:Nat) (b:Bool),j<=n5/\s8=.bool b/\s=I (j:Int)/\Z (b=(true && (sm.take j).all P4))/\Z (ad [] f8 wr)) (fun _ s _=>n5 - (intOf s).toNat)
  case atStart=>exact⟨0,_,C3 _,rfl,rfl,bZ (by simp),bZ (ad.refl _ _)⟩
  obtain⟨j,b,hj,rfl,rfl,hS,y⟩:=hrel;obtain⟨Y,a9⟩:∃x,x=wr:=⟨_,rfl⟩;subst a9;have i:=bZ (e4.o.trans y.o);have bo:=bZ (dk.o.keep y.o (by simp));have y2:=bo.o.cell;have T:=bo.o.lt;by_cases f:j<n5/\b=true
  ·obtain⟨f,rfl⟩:=f;obtain⟨x,hx⟩:∃v,sm[j]? =some v:=⟨_,CT (by rw[<-bp.o];exact f)⟩;have L:Z (P4 x=(true && (sm.take (j+1)).all P4)):=bZ (by
    rw[eJ hx,<-Bool.and_assoc,<-hS.o];rfl)
   have b6:(j:Int)<(n5:Int):=by omega
   have wj:IntKind.i64.wrap ((j:Int)+1)=(j:Int)+1:=C0 _ (by omega);clear hS;obtain⟨b4,b5,b7,b9,dy,e1,hP⟩:=SM.o au.o x (CW hx);obtain⟨g,d,rc,a4,_,_,hI,H⟩:=(R5.o.keep0 i.o).get aV (by decide) hx;obtain rfl:=eD.1 hI;have x0:=H 0 _ rfl;have x1:=H 1 _ rfl;rw[Fg] at x0;obtain⟨k,J,O,a3,ak,ac,c0,c1,c2⟩:=aq.o Y x.1 i.o b4;obtain⟨m,e8,f6,a2,cy,co,d0,d1,d2⟩:=aq.o Y x.2 i.o b5;rw[b7] at c0;rw[b9] at d0;rw[dy] at c1;rw[e1] at d1;have cb:(k:Int)<(n:Int):=by omega
   have f1:(m:Int)<(n:Int):=by omega
   obtain⟨Q,hQ⟩:∃Q,Q=P4 x:=⟨_,rfl⟩;rw[<-hQ] at L hP;generalize (rv r x.1).s=sa at*;generalize (rv r x.2).s=sb at*;generalize s.A5=A5 at*;subst a4;subst ac;cases co;rw[a3] at x0;rw[a2] at x1;replace hP:=hP.symm;clear hI H hx hQ b4 b5 b7 b9 dy e1 a3 a2 ak cy;have aa:Z (∀X,ad [] Y X->X.cell? (U g2 5)=G (some (U g d)) n5 s.c5/\X.cell? (U g (d+j*2))=some (I (k:Int))/\X.cell? (U g (d+j*2+1))=some (I (m:Int))/\X.cell? (U J (O+k*3))=some (I 2)/\X.cell? (U J (O+k*3+1))=some (I 0)/\X.cell? (U J (O+k*3+2))=some (.string sa)/\X.cell? (U J (O+m*3))=some (I 2)/\X.cell? (U J (O+m*3+1))=some (I 0)/\X.cell? (U J (O+m*3+2))=some (.string sb)):=bZ (fun X h=>⟨(bo.o.keep h (by simp)).cell 5,h.cellEq x0 (by simp),h.cellEq x1 (by simp),h.cellEq c0 (by simp),h.cellEq c1 (by simp),h.cellEq c2 (by simp),h.cellEq d0 (by simp),h.cellEq d1 (by simp),h.cellEq d2 (by simp)⟩);go_upto_region 25 with fail;clear x0 x1 c0 c1 c2 d0 d1 d2 y2 T;cases Q
   all_goals
    refine ae (S:=(fun B:World=>B.cell? (U g2 5)=G (some (U g d)) n5 s.c5/\B.cell? (U g (d+j*2))=some (I (k:Int))/\B.cell? (U g (d+j*2+1))=some (I (m:Int))/\B.cell? (U J (O+k*3))=some (I 2)/\B.cell? (U J (O+k*3+1))=some (I 0)/\B.cell? (U J (O+k*3+2))=some (.string sa)/\B.cell? (U J (O+m*3))=some (I 2)/\B.cell? (U J (O+m*3+1))=some (I 0)/\B.cell? (U J (O+m*3+2))=some (.string sb))) (n:=33) (by kernel_rfl) ?_;have HS:(fun B:World=>B.cell? (U g2 5)=G (some (U g d)) n5 s.c5/\B.cell? (U g (d+j*2))=some (I (k:Int))/\B.cell? (U g (d+j*2+1))=some (I (m:Int))/\B.cell? (U J (O+k*3))=some (I 2)/\B.cell? (U J (O+k*3+1))=some (I 0)/\B.cell? (U J (O+k*3+2))=some (.string sa)/\B.cell? (U J (O+m*3))=some (I 2)/\B.cell? (U J (O+m*3+1))=some (I 0)/\B.cell? (U J (O+m*3+2))=some (.string sb)) Y.drew:=aa.o _ (ad.refl [] Y).drew
    try dsimp only at HS
    refine ord [0,1,2,3,4,5,6,7,8,9,10,11,12,13,14,15,16,17,18,19,20,21,22,23,24,25,26,27,28,29,30,31,32] ?_
    iterate 12 (refine tq HS ?_;try simp only[PT,Y1,Y2,Y3])
    iterate 19 (first | (refine tu HS ?_;try simp only[PT,Y1,Y2,Y3]) | (refine tq HS ?_;try simp only[PT,Y1,Y2,Y3]))
    iterate 2 (refine tq HS ?_;try simp only[PT,Y1,Y2,Y3])
    refine aB ?_;refine JD ?_;clear HS aa;go_wp2_with fail;go_roundw
    case rel=>exact⟨j+1,_,by omega,by first | rfl | simp,by go_num,L,bZ y.o.drew⟩
    case measure=>simp[intOf];omega
  have hE:Z (b=sm.all P4):=bZ (by
   have:=iJ hS.o (by
    by_cases h:j<n5
    ·right;cases b
     ·rfl
     exact absurd ⟨h,rfl⟩ f
    left;rw[<-bp.o];omega)
   rwa [Bool.true_and] at this)
  clear hS;cases b
  ·have a5:Z (R=false):=bZ (by rw[HR.o,<-hE.o];simp);have z6:(((0:Int)<(n6:Int))=True/\(0<n6)=True)\/(((0:Int)<(n6:Int))=False/\(0<n6)=False):=by
    by_cases h:0<n6
    ·exact .inl ⟨eq_true (by omega),eq_true h⟩
    exact .inr ⟨eq_false (by omega),eq_false h⟩
   have zj:(((j:Int)<(n5:Int))=True)\/(((j:Int)<(n5:Int))=False):=by
    by_cases h:j<n5
    ·exact .inl (eq_true (by omega))
    exact .inr (eq_false (by omega))
   clear hE f;rcases zj with zj | zj<;>rcases z6 with ⟨z6,bz⟩ | ⟨z6,bz⟩
   all_goals
    go_wp2_with fail;refine wp_loop_rounds 1 ?_;rw[rounds_succ];go_wp2_with fail;go_ret;rw[a5.o];exact⟨rfl,i⟩
  have ek:Z (sm.all P4=true):=bZ hE.o.symm;have hc:((j:Int)<(n5:Int))=False:=eq_false (fun h=>f ⟨by omega,rfl⟩);clear hE f;obtain⟨ff,ck⟩:∃x,x=Y:=⟨_,rfl⟩;have e5:=i;have dr:=bo;have f5:=y;rw[<-ck] at e5 dr f5;go_wp2_with fail;rw[<-ck];clear y2 T hc;go_loopw [8,15] (fun s8 s wr=>∃(j:Nat) (b:Bool),j<=n6/\s8=.bool b/\s=I (j:Int)/\Z (b=(true && (df.take j).all P5))/\Z (ad [] ff wr)) (fun _ s _=>n6 - (intOf s).toNat)
  case atStart=>exact⟨0,_,C3 _,rfl,rfl,bZ (by simp),bZ (ad.refl _ _)⟩
  obtain⟨j,b,hj,rfl,rfl,hS,y⟩:=hrel;obtain⟨Y,a9⟩:∃x,x=wr:=⟨_,rfl⟩;subst a9;have i:=bZ (e5.o.trans y.o);have bo:=bZ (dr.o.keep y.o (by simp));have y2:=bo.o.cell;have T:=bo.o.lt;by_cases f:j<n6/\b=true
  ·obtain⟨f,rfl⟩:=f;obtain⟨x,hx⟩:∃v,df[j]? =some v:=⟨_,CT (by rw[<-bq.o];exact f)⟩;have L:Z (P5 x=(true && (df.take (j+1)).all P5)):=bZ (by
    rw[eJ hx,<-Bool.and_assoc,<-hS.o];rfl)
   have b6:(j:Int)<(n6:Int):=by omega
   have wj:IntKind.i64.wrap ((j:Int)+1)=(j:Int)+1:=C0 _ (by omega);clear hS;obtain⟨b4,b5,b7,b9,hP⟩:=DF.o au.o x (CW hx);obtain⟨g,d,rc,a4,_,_,hI,H⟩:=(R6.o.keep0 i.o).get aV (by decide) hx;obtain rfl:=eD.1 hI;have x0:=H 0 _ rfl;have x1:=H 1 _ rfl;rw[Fg] at x0;obtain⟨k,J,O,a3,ak,ac,c0,c1,c2⟩:=aq.o Y x.1 i.o b4;obtain⟨m,e8,f6,a2,cy,co,d0,d1,d2⟩:=aq.o Y x.2 i.o b5;rw[b7] at c0;rw[b9] at d0;have cb:(k:Int)<(n:Int):=by omega
   have f1:(m:Int)<(n:Int):=by omega
   obtain⟨Q,hQ⟩:∃Q,Q=P5 x:=⟨_,rfl⟩;rw[<-hQ] at L hP;generalize (rv r x.1).s=sa at*;generalize (rv r x.2).s=sb at*;generalize (rv r x.1).n=na at*;generalize (rv r x.2).n=nb at*;generalize s.A6=A6 at*;subst a4;subst ac;cases co;rw[a3] at x0;rw[a2] at x1;have an:(sa.toList==sb.toList)=!Q:=by rw[hP,Bool.not_not]
   have c7:(sa.toList !=sb.toList)=Q:=by rw[bne,an,Bool.not_not]
   clear hI H hx hQ b4 b5 b7 b9 a3 a2 ak cy hP;have aa:Z (∀X,ad [] Y X->X.cell? (U g2 6)=G (some (U g d)) n6 s.c6/\X.cell? (U g (d+j*2))=some (I (k:Int))/\X.cell? (U g (d+j*2+1))=some (I (m:Int))/\X.cell? (U J (O+k*3))=some (I 2)/\X.cell? (U J (O+k*3+1))=some (I na)/\X.cell? (U J (O+k*3+2))=some (.string sa)/\X.cell? (U J (O+m*3))=some (I 2)/\X.cell? (U J (O+m*3+1))=some (I nb)/\X.cell? (U J (O+m*3+2))=some (.string sb)):=bZ (fun X h=>⟨(bo.o.keep h (by simp)).cell 6,h.cellEq x0 (by simp),h.cellEq x1 (by simp),h.cellEq c0 (by simp),h.cellEq c1 (by simp),h.cellEq c2 (by simp),h.cellEq d0 (by simp),h.cellEq d1 (by simp),h.cellEq d2 (by simp)⟩);go_upto_region 29 with fail;clear x0 x1 c0 c1 c2 d0 d1 d2 y2 T;cases Q
   all_goals
    simp only[Bool.not_true,Bool.not_false] at an;refine ae (S:=(fun B:World=>B.cell? (U g2 6)=G (some (U g d)) n6 s.c6/\B.cell? (U g (d+j*2))=some (I (k:Int))/\B.cell? (U g (d+j*2+1))=some (I (m:Int))/\B.cell? (U J (O+k*3))=some (I 2)/\B.cell? (U J (O+k*3+1))=some (I na)/\B.cell? (U J (O+k*3+2))=some (.string sa)/\B.cell? (U J (O+m*3))=some (I 2)/\B.cell? (U J (O+m*3+1))=some (I nb)/\B.cell? (U J (O+m*3+2))=some (.string sb))) (n:=21) (by kernel_rfl) ?_;have kc:=bZ ((ad.refl [] Y).drew);have HS:(fun B:World=>B.cell? (U g2 6)=G (some (U g d)) n6 s.c6/\B.cell? (U g (d+j*2))=some (I (k:Int))/\B.cell? (U g (d+j*2+1))=some (I (m:Int))/\B.cell? (U J (O+k*3))=some (I 2)/\B.cell? (U J (O+k*3+1))=some (I na)/\B.cell? (U J (O+k*3+2))=some (.string sa)/\B.cell? (U J (O+m*3))=some (I 2)/\B.cell? (U J (O+m*3+1))=some (I nb)/\B.cell? (U J (O+m*3+2))=some (.string sb)) Y.drew:=aa.o Y.drew kc.o
    try dsimp only at HS
    obtain⟨wc,ab⟩:∃x,x=Y.drew:=⟨_,rfl⟩;rw[<-ab] at kc HS ⊢;clear ab
    repeat' first
     |
      refine at_ 18 ?_;dsimp only[Y1,Y2,Y3];go_simp;have a0:=bZ (Blk.new wc 23 #[I 0,I 0,.string ⟨#[]⟩]);have kd:=bZ ((ad.refl [] wc).alloc (.cells #[I 0,I 0,.string ⟨#[]⟩] 23));have d5:Z (Y.heap.size<=wc.heap.size):=bZ kc.o.size;have cl:Z (∀g t cs,Blk wc g t cs->g≠wc.heap.size):=bZ (fun g t cs h=>Nat.ne_of_lt h.lt)
      try (have br:=bZ (cl.o _ _ _ a1.o))
      clear cl;generalize wc.alloc (.cells #[I 0,I 0,.string ⟨#[]⟩] 23)=wd at*;generalize wc.heap.size=g18 at*;have q:=bZ (kc.o.trans kd.o);clear kc;have kc:=q;clear q
      try (have q:=bZ (a1.o.keep kd.o (by simp));clear a1;have a1:=q;clear q)
      clear kd;obtain⟨wc,ab⟩:∃x,x=wd:=⟨_,rfl⟩;subst ab;have HS:=aa.o wc kc.o
      try dsimp only at HS
      refine hK _ _ (.inr HS) ?_;clear hK K
      try simp only[PT,Y1,Y2,Y3]
     |
      refine at_ 19 ?_;dsimp only[Y1,Y2,Y3];go_simp;have a1:=bZ (Blk.new wc 23 #[I 0,I 0,.string ⟨#[]⟩]);have kd:=bZ ((ad.refl [] wc).alloc (.cells #[I 0,I 0,.string ⟨#[]⟩] 23));have d6:Z (Y.heap.size<=wc.heap.size):=bZ kc.o.size;have cm:Z (∀g t cs,Blk wc g t cs->g≠wc.heap.size):=bZ (fun g t cs h=>Nat.ne_of_lt h.lt)
      try (have br:=bZ (cm.o _ _ _ a0.o))
      clear cm;generalize wc.alloc (.cells #[I 0,I 0,.string ⟨#[]⟩] 23)=wd at*;generalize wc.heap.size=g19 at*;have q:=bZ (kc.o.trans kd.o);clear kc;have kc:=q;clear q
      try (have q:=bZ (a0.o.keep kd.o (by simp));clear a0;have a0:=q;clear q)
      clear kd;obtain⟨wc,ab⟩:∃x,x=wd:=⟨_,rfl⟩;subst ab;have HS:=aa.o wc kc.o
      try dsimp only at HS
      refine hK _ _ (.inr HS) ?_;clear hK K
      try simp only[PT,Y1,Y2,Y3]
     |
      refine at_ 20 ?_;dsimp only[Y1,Y2,Y3];have z:=a0.o.cell;have zf:=a0.o.frozen;have zl:=a0.o.lt;go_simp;have q:=bZ (((a0.o.set_ 0 (I 2)).set_ 1 (I na)).set_ 2 (.string sa));have hn:g19≠g18:=by first | exact br.o | exact Ne.symm br.o
      have q2:=bZ (((a1.o.far (p:=(U g18 0)) hn (I 2)).far (p:=(U g18 1)) hn (I na)).far (p:=(U g18 2)) hn (.string sa));have q3:=bZ (((kc.o.setCell (p:=(U g18 0)) (.inr d5.o) (I 2)).setCell (p:=(U g18 1)) (.inr d5.o) (I na)).setCell (p:=(U g18 2)) (.inr d5.o) (.string sa));clear z zf zl hn a0 a1 kc;have a0:=q;have a1:=q2;have kc:=q3;clear q q2 q3;generalize ((wc.setCell (U g18 0) (I 2)).setCell (U g18 1) (I na)).setCell (U g18 2) (.string sa)=wd at*;obtain⟨wc,ab⟩:∃x,x=wd:=⟨_,rfl⟩;subst ab;have HS:=aa.o wc kc.o
      try dsimp only at HS
      refine hK _ _ (.inr HS) ?_;clear hK K
      try simp only[PT,Y1,Y2,Y3]
     |
      refine at_ 21 ?_;dsimp only[Y1,Y2,Y3];have z:=a1.o.cell;have zf:=a1.o.frozen;have zl:=a1.o.lt;go_simp;have q:=bZ (((a1.o.set_ 0 (I 2)).set_ 1 (I nb)).set_ 2 (.string sb));have hn:g18≠g19:=by first | exact br.o | exact Ne.symm br.o
      have q2:=bZ (((a0.o.far (p:=(U g19 0)) hn (I 2)).far (p:=(U g19 1)) hn (I nb)).far (p:=(U g19 2)) hn (.string sb));have q3:=bZ (((kc.o.setCell (p:=(U g19 0)) (.inr d6.o) (I 2)).setCell (p:=(U g19 1)) (.inr d6.o) (I nb)).setCell (p:=(U g19 2)) (.inr d6.o) (.string sb));clear z zf zl hn a1 a0 kc;have a1:=q;have a0:=q2;have kc:=q3;clear q q2 q3;generalize ((wc.setCell (U g19 0) (I 2)).setCell (U g19 1) (I nb)).setCell (U g19 2) (.string sb)=wd at*;obtain⟨wc,ab⟩:∃x,x=wd:=⟨_,rfl⟩;subst ab;refine hK _ _ (.inl (by omega)) ?_;clear hK K
      try simp only[PT,Y1,Y2,Y3]
     |
      refine r8 [0,1,3,9,10,12,18,19] [0,1,2,3,4,5,6,7,8,9,10,11,12,13,14,15,16,17] ?_
      iterate 18 (refine tq HS ?_;try simp only[PT,Y1,Y2,Y3])
      refine aB ?_
     |
      refine J2 18 19 (fun K hK=>?_) (fun K hK=>?_)
     |
      refine J1' 19 (fun K hK=>?_)
     |
      refine J1' 20 (fun K hK=>?_)
     |
      refine J1' 21 (fun K hK=>?_)
     |
      refine J1' 18 (fun K hK=>?_)
     |
      refine JD ?_;have v:=a0.o.cell;have vl:=a0.o.lt;have u:=a1.o.cell;have ul:=a1.o.lt;go_wp2_with fail;go_roundw
      case rel=>exact⟨j+1,_,by omega,by first | rfl | simp,by go_num,L,bZ (y.o.trans kc.o)⟩
      case measure=>simp[intOf];omega
  have hE:Z (b=df.all P5):=bZ (by
   have:=iJ hS.o (by
    by_cases h:j<n6
    ·right;cases b
     ·rfl
     exact absurd ⟨h,rfl⟩ f
    left;rw[<-bq.o];omega)
   rwa [Bool.true_and] at this)
  clear hS;cases b
  ·have a5:Z (R=false):=bZ (by rw[HR.o,<-hE.o];simp);have zj:(((j:Int)<(n6:Int))=True)\/(((j:Int)<(n6:Int))=False):=by
    by_cases h:j<n6
    ·exact .inl (eq_true (by omega))
    exact .inr (eq_false (by omega))
   clear hE f;rcases zj with zj | zj
   all_goals
    go_wp2_with fail;go_ret;rw[a5.o];exact⟨rfl,i⟩
  have el:Z (df.all P5=true):=bZ hE.o.symm;have hc:((j:Int)<(n6:Int))=False:=eq_false (fun h=>f ⟨by omega,rfl⟩);clear hE f;have en:Z (R=true):=bZ (by rw[HR.o,e9.o,au.o,ef.o,eg.o,ek.o,el.o];rfl);go_wp2_with fail;go_ret;rw[en.o];exact⟨rfl,i⟩
end Go.Proofs.YtldmkbhgdbafhaaGreat
