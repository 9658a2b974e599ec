/- TopLogic: whatever the condition, the variables and the row, the law returns true and the arguments read as they did. No condition. -/
import Derived.ChangeOld
import Derived.Deep.Slices
import Derived.OpenShut
import Derived.ProofKit
import Derived.ShutString
import Derived.Test.YtldmkbhgdbafhaaGreatRows
import Derived.Test.YtldmkbhgdbafhaaGreatL29
import Derived.Test.YtldmkbhgdbafhaaGreatL48
namespace Go.Proofs.YtldmkbhgdbafhaaGreat
open Go.RowKit
set_option linter.unusedSimpArgs false
set_option linter.unusedVariables false
set_option maxRecDepth 100000
set_option maxHeartbeats 64000000
theorem uV {l:List Pt} (h:Srt l) {j:Nat} {a b:Pt} (c:l[j]? =some a) (d:l[j+1]? =some b):kc a b<0:=by
 obtain⟨p,rfl⟩:=CV.1 c;obtain⟨q,rfl⟩:=CV.1 d;exact Ex.1 h j (j+1) p q (by omega)
theorem ru (C:Nat->Prop):∀(t:T) (w:World) (A:Option Addr) (c:Nat),Nm t->t.wd<=20000->t.pts.length<=c->c<=maxLen->TAt w C A t->Calls Tryz.prog 117 #[tmV t A c] w (RoP w (.bool true)):=by
 refine T.ind (fun t ih=>?_);intro w A c hN ap bd c6 hT;have ac:=aA ap;have a6:∀p∈t.pts,p.of.wd<=20000:=fun p hp=>(T.wd_iff.1 ap).2 p hp;obtain⟨n,hn⟩:∃n,n=t.pts.length:=⟨_,rfl⟩;have SM:Z (∀W,ad [] w W->Calls Tryz.prog 159 #[tmV t A c] W (RoP W (.bool true))):=bZ (fun W hW=>by
  have:=lc C t W A c hN.1 (wY hN.2.1) (by omega) (hT.keep0 hW);rwa [show decide (Sm t)=true from decide_eq_true hN.2.1] at this)
 have HP:Z (∀(j:Nat) (p:Pt),t.pts[j]? =some p->p.n≠0/\((p.kd=0\/p.kd=1)/\0<=p.v/\p.b=0\/p.kd=2/\p.v=0/\2<=p.b/\p.b<=1000/\0<p.of.pts.length/\∀W pA pc,p.of.pts.length<=pc->pc<=maxLen->TAt W C pA p.of->Calls Tryz.prog 117 #[.agg #[I p.of.con,.slice pA p.of.pts.length pc]] W (RoP W (.bool true)))):=bZ (fun j p hp=>by
  have hm:=CW hp;have h1:=T.ok_iff.1 hN.1 p hm;refine⟨h1.1,?_⟩;rcases h1.2 with h | h
  ·exact .inl ⟨h.1,h.2.1,h.2.2.1⟩
  refine .inr ⟨h.1,h.2.1,h.2.2.1,h.2.2.2.1,h.2.2.2.2.1,fun W pA pc q1 q2 q3=>?_⟩;have:=ih p hm W pA pc ⟨h.2.2.2.2.2.1,h.2.2.2.2.2.2.1,h.2.2.2.2.2.2.2⟩ (a6 p hm) q1 q2 q3;unfold tmV at this;exact this)
 have HK:Z (∀(i j:Nat) (p q:Pt),i+1=j->t.pts[i]? =some p->t.pts[j]? =some q->kc p q<0/\∀W L J E oB aa aq,bP W C p L J->bP W C q oB aa->Calls Tryz.prog 158 #[.agg (ptV p L J E).toArray,.agg (ptV q oB aa aq).toArray] W (fa W (kc p q))):=bZ (fun i j p q bf hp hq=>by
  subst bf;have b3:=CW hp;have b7:=CW hq;have b8:=(T.ok_iff.1 hN.1 p b3).2;have b9:=(T.ok_iff.1 hN.1 q b7).2;refine⟨uV hN.2.2 hp hq,fun W L J E oB aa aq h1 h2=>?_⟩;exact mf C C p q W L oB J E aa aq b8 b9 h1 h2 (fun h2 c0 N A2 c2 A3 c3 R hT bc=>by
   have bn:p.of.ok:=by rcases b8 with h | h;rw[h.2.2.2];trivial;exact h.2.2.2.2.2.1
   have b6:q.of.ok:=by rcases b9 with h | h;rw[h.2.2.2];trivial;exact h.2.2.2.2.2.1
   have w1:=a6 p b3;have w2:=a6 q b7;have l1:=aA w1;have l2:=aA w2;exact ur _ _ p.of q.of N A2 c2 A3 c3 bn b6 (by omega) (by omega) (by omega) (by omega) hT bc))
 obtain⟨ps,a5⟩:∃l,l=t.pts:=⟨_,rfl⟩;have ar:Z (∀(W:World),ad [] w W->∀(j:Nat) (p:Pt),ps[j]? =some p->∃g a L J E,A=some (U g a)/\C g/\g<W.heap.size/\W.cell? (U g (a+j*5))=some (I p.n)/\W.cell? (U g (a+j*5+1))=some (I p.kd)/\W.cell? (U g (a+j*5+2))=some (I p.v)/\
  W.cell? (U g (a+j*5+3))=some (I p.b)/\W.cell? (U g (a+j*5+4))=G L J E/\J<=E/\E<=maxLen/\bP W C p L J):=bZ (fun W hW j p hp=>(hT.keep0 hW).get (by rw[<-a5];exact hp))
 unfold tmV at SM ⊢;rw[<-hn] at SM ⊢;rw[<-a5] at HP HK hn;have b2:=bZ hn;have c8:n<=20000:=by rw[hn,a5];exact ac
 clear hT ih hN ap a6 ac bd hn a5;generalize t.con=con at*;obtain⟨W1,a4⟩:∃W,W=w.alloc (.cells #[I con,.slice A n c] 38):=⟨_,rfl⟩;obtain⟨M,an⟩:∃g,g=w.heap.size:=⟨_,rfl⟩;have k1:Z (ad [] w W1):=bZ (by rw[a4];exact(ad.refl [] w).alloc _);have b1:Z (Blk W1 M 38 #[I con,.slice A n c]):=bZ (by rw[a4,an];exact Blk.new w 38 _);go_enter Tryz.func117,Tryz.ntmps117;go_upto_region 2 with fail;rw[<-a4,<-an];clear a4 an;go_loopw [3] (fun s3 wr=>∃j:Nat,j<=n/\s3=I (j:Int)/\Z (ad [] W1 wr)) (fun s3 _=>n - (intOf s3).toNat)
 case atStart=>exact⟨0,C3 _,rfl,bZ (ad.refl _ _)⟩
 obtain⟨j,hj,rfl,P⟩:=hrel;obtain⟨wo,bq⟩:∃x,x=wr:=⟨_,rfl⟩;subst bq;have a9:=bZ (k1.o.trans P.o);have e1:=bZ (b1.o.keep P.o (by simp));have y1:=e1.o.cell;have ab:=e1.o.lt;by_cases bk:j<n
 ·obtain⟨p,hp⟩:∃v,ps[j]? =some v:=⟨_,CT (by rw[<-b2.o];exact bk)⟩;obtain⟨g,a,L,J,E,rfl,hC,hg,x0,x1,x2,x3,x4,ca,c9,hO⟩:=ar.o wo a9.o j p hp;obtain⟨ao,R⟩:=HP.o j p hp;have c7:(j:Int)<(n:Int):=by omega
  have wj:IntKind.i64.wrap ((j:Int)+1)=(j:Int)+1:=C0 _ (by omega);have c5:(p.n==0)=false:=by simp[ao]
  have s:Z (∀i,i+1=j->∃(q:Pt) (y:Option Addr) (B z:Nat),wo.cell? (U g (a+i*5))=some (I q.n)/\wo.cell? (U g (a+i*5+1))=some (I q.kd)/\wo.cell? (U g (a+i*5+2))=some (I q.v)/\wo.cell? (U g (a+i*5+3))=some (I q.b)/\wo.cell? (U g (a+i*5+4))=G y B z/\
   kc q p<0/\∀W,ad [] wo W->Calls Tryz.prog 158 #[.agg #[I q.n,I q.kd,I q.v,I q.b,.slice y B z],.agg #[I p.n,I p.kd,I p.v,I p.b,.slice L J E]] W (fun e d=>e=.returned (I (kc q p))/\Z (ad [] W d))):=bZ (fun i hi=>by
   obtain⟨q,hq⟩:∃v,ps[i]? =some v:=⟨_,CT (by rw[<-b2.o];omega)⟩
   obtain⟨g2,bz,y,B,z,he,_,_,y0,y1,y2,y3,y4,_,_,bb⟩:=ar.o wo a9.o i q hq
   cases he
   obtain⟨h1,h2⟩:=HK.o i j q p hi hq hp
   exact⟨q,y,B,z,y0,y1,y2,y3,y4,h1,fun W hW=>h2 W y B z L J E (bb.keep hW (by simp)) (hO.keep hW (by simp))⟩)
  obtain⟨N,Q⟩:∃W,W=wo.alloc (.cells #[I p.n,I p.kd,I p.v,I p.b,.slice L J E] 221):=⟨_,rfl⟩;obtain⟨f,a0⟩:∃g,g=wo.heap.size:=⟨_,rfl⟩;have H:Z (ad [] wo N):=bZ (by rw[Q];exact(ad.refl [] wo).alloc _);have D:Z (Blk N f 221 #[I p.n,I p.kd,I p.v,I p.b,.slice L J E]):=bZ (by rw[Q,a0];exact Blk.new wo 221 _);have a1:=bZ (e1.o.keep H.o (by simp));rcases R with ⟨R,hv,hb⟩ | ⟨R,hv,av,ax,bm,am⟩
  ·have ak:J=0:=(hO.1 (by omega)).1;have bx:((J:Int) !=0)=false:=by simp[ak]
   clear ak;have c4:(p.b !=0)=false:=by simp[hb]
   have bp:(p.v<0)=False:=eq_false (by omega);clear hO hp hC ao hb;rcases R with R | R
   ·have b5:(p.kd==0)=true:=by simp[R]
    clear R hv;go_upto_region 14 with fail;rw[<-Q,<-a0];clear Q a0 x0 x1 x2 x3 x4 y1 ab;have u:Z (ad [] N N):=bZ (ad.refl _ _);by_cases h0:j=0
    ·have a2:decide (0<j)=false:=decide_eq_false (by omega);have a3:((0:Int)<(j:Int))=False:=eq_false (by omega);clear h0 s;have r:Z (∀k,ad [] N k->k.cell? (U f 0)=some (I p.n)/\k.cell? (U f 1)=some (I p.kd)/\k.cell? (U f 2)=some (I p.v)/\k.cell? (U f 3)=some (I p.b)/\k.cell? (U f 4)=G L J E/\k.cell? (U M 1)=G (some (U g a)) n c):=bZ (fun k h=>⟨(D.o.keep h (by simp)).cell 0,(D.o.keep h (by simp)).cell 1,(D.o.keep h (by simp)).cell 2,(D.o.keep h (by simp)).cell 3,(D.o.keep h (by simp)).cell 4,(a1.o.keep h (by simp)).cell 1⟩);refine ae (S:=(fun d:World=>d.cell? (U f 0)=some (I p.n)/\d.cell? (U f 1)=some (I p.kd)/\d.cell? (U f 2)=some (I p.v)/\d.cell? (U f 3)=some (I p.b)/\d.cell? (U f 4)=G L J E/\d.cell? (U M 1)=G (some (U g a)) n c)) (n:=18) (by kernel_rfl) ?_;have m:(fun d:World=>d.cell? (U f 0)=some (I p.n)/\d.cell? (U f 1)=some (I p.kd)/\d.cell? (U f 2)=some (I p.v)/\d.cell? (U f 3)=some (I p.b)/\d.cell? (U f 4)=G L J E/\d.cell? (U M 1)=G (some (U g a)) n c) N.drew:=r.o _ u.o.drew
     try dsimp only at m
     refine ord [0,1,2,3,4,5,6,7,8,9,10,11,12,13] ?_
     iterate 4 (refine tq m ?_;try simp only[PT,Y1,Y2,Y3])
     iterate 10 (first | (refine tu m ?_;try simp only[PT,Y1,Y2,Y3]) | (refine tq m ?_;try simp only[PT,Y1,Y2,Y3]))
     refine aB ?_;refine J1 14 fun K O=>?_;dsimp only[Y1,Y2,Y3];go_simp;refine O _ _ (.inr m) ?_;clear O K
     try simp only[PT,Y1,Y2,Y3]
     refine ord [15,16,17] ?_
     iterate 2 (first | (refine tu m ?_;try simp only[PT,Y1,Y2,Y3]) | (refine tq m ?_;try simp only[PT,Y1,Y2,Y3]))
     refine tq m ?_;try simp only[PT,Y1,Y2,Y3]
     refine aB ?_;refine JD ?_;clear m r;go_wp2_with fail;go_roundw
     case rel=>exact⟨j+1,by omega,by go_num,bZ ((P.o.trans H.o).trans u.o.drew)⟩
     case measure=>simp[intOf];omega
    obtain⟨i,hi⟩:∃i,i+1=j:=⟨j - 1,by omega⟩;obtain⟨q,y,B,z,z0,z1,z2,z3,z4,X,HC⟩:=s.o i hi;replace HC:=bZ HC;generalize q.n=pn2 at*;generalize q.kd=pk2 at*;generalize q.v=pv2 at*;generalize q.b=pb2 at*;generalize kc q p=kk at*;have a2:decide (0<j)=true:=decide_eq_true (by omega);have a3:(0:Int)<(j:Int):=by omega
    have q7:((0:Int)<=kk)=False:=eq_false (by omega);have ba:decide ((0:Int)<=kk)=false:=decide_eq_false (by omega);have wi:IntKind.i64.wrap ((j:Int) - 1)=(i:Int):=by rw[C0 _ (by omega)];omega
    have b0:(i:Int)<(n:Int):=by omega
    replace hi:=bZ hi;clear h0 s X;have r:Z (∀k,ad [] N k->k.cell? (U f 0)=some (I p.n)/\k.cell? (U f 1)=some (I p.kd)/\k.cell? (U f 2)=some (I p.v)/\k.cell? (U f 3)=some (I p.b)/\k.cell? (U f 4)=G L J E/\k.cell? (U M 1)=G (some (U g a)) n c/\k.cell? (U g (a+i*5))=some (I pn2)/\k.cell? (U g (a+i*5+1))=some (I pk2)/\k.cell? (U g (a+i*5+2))=some (I pv2)/\k.cell? (U g (a+i*5+3))=some (I pb2)/\k.cell? (U g (a+i*5+4))=G y B z):=bZ (fun k h=>⟨(D.o.keep h (by simp)).cell 0,(D.o.keep h (by simp)).cell 1,(D.o.keep h (by simp)).cell 2,(D.o.keep h (by simp)).cell 3,(D.o.keep h (by simp)).cell 4,(a1.o.keep h (by simp)).cell 1,h.cellEq (H.o.cellEq z0 (by simp)) (by simp),h.cellEq (H.o.cellEq z1 (by simp)) (by simp),h.cellEq (H.o.cellEq z2 (by simp)) (by simp),h.cellEq (H.o.cellEq z3 (by simp)) (by simp),h.cellEq (H.o.cellEq z4 (by simp)) (by simp)⟩);refine ae (S:=(fun d:World=>d.cell? (U f 0)=some (I p.n)/\d.cell? (U f 1)=some (I p.kd)/\d.cell? (U f 2)=some (I p.v)/\d.cell? (U f 3)=some (I p.b)/\d.cell? (U f 4)=G L J E/\d.cell? (U M 1)=G (some (U g a)) n c/\d.cell? (U g (a+i*5))=some (I pn2)/\d.cell? (U g (a+i*5+1))=some (I pk2)/\d.cell? (U g (a+i*5+2))=some (I pv2)/\d.cell? (U g (a+i*5+3))=some (I pb2)/\d.cell? (U g (a+i*5+4))=G y B z)) (n:=18) (by kernel_rfl) ?_;have m:(fun d:World=>d.cell? (U f 0)=some (I p.n)/\d.cell? (U f 1)=some (I p.kd)/\d.cell? (U f 2)=some (I p.v)/\d.cell? (U f 3)=some (I p.b)/\d.cell? (U f 4)=G L J E/\d.cell? (U M 1)=G (some (U g a)) n c/\d.cell? (U g (a+i*5))=some (I pn2)/\d.cell? (U g (a+i*5+1))=some (I pk2)/\d.cell? (U g (a+i*5+2))=some (I pv2)/\d.cell? (U g (a+i*5+3))=some (I pb2)/\d.cell? (U g (a+i*5+4))=G y B z) N.drew:=r.o _ u.o.drew
    try dsimp only at m
    refine ord [0,1,2,3,4,5,6,7,8,9,10,11,12,13] ?_
    iterate 4 (refine tq m ?_;try simp only[PT,Y1,Y2,Y3])
    iterate 10 (first | (refine tu m ?_;try simp only[PT,Y1,Y2,Y3]) | (refine tq m ?_;try simp only[PT,Y1,Y2,Y3]))
    refine aB ?_;refine J1 14 fun K O=>?_;dsimp only[Y1,Y2,Y3];go_simp;refine(HC.o _ (H.o.trans u.o.drew)).mono ?_;rintro e w7 ⟨rfl,k7⟩;have Y:=bZ (u.o.drew.trans k7.o);have F:=r.o w7 Y.o
    try dsimp only at F
    refine O _ _ (.inr F) ?_;clear O K m;have m:=F;clear F
    try simp only[PT,Y1,Y2,Y3]
    refine ord [15,16,17] ?_
    iterate 2 (first | (refine tu m ?_;try simp only[PT,Y1,Y2,Y3]) | (refine tq m ?_;try simp only[PT,Y1,Y2,Y3]))
    refine tq m ?_;try simp only[PT,Y1,Y2,Y3]
    refine aB ?_;refine JD ?_;clear m r;go_wp2_with fail;go_roundw
    case rel=>exact⟨j+1,by omega,by go_num,bZ ((P.o.trans H.o).trans Y.o)⟩
    case measure=>simp[intOf];omega
   have b5:(p.kd==0)=false:=by simp[R]
   have bo:(p.kd==1)=true:=by simp[R]
   clear R hv;go_upto_region 14 with fail;rw[<-Q,<-a0];clear Q a0 x0 x1 x2 x3 x4 y1 ab;have u:Z (ad [] N N):=bZ (ad.refl _ _);by_cases h0:j=0
   ·have a2:decide (0<j)=false:=decide_eq_false (by omega);have a3:((0:Int)<(j:Int))=False:=eq_false (by omega);clear h0 s;have r:Z (∀k,ad [] N k->k.cell? (U f 0)=some (I p.n)/\k.cell? (U f 1)=some (I p.kd)/\k.cell? (U f 2)=some (I p.v)/\k.cell? (U f 3)=some (I p.b)/\k.cell? (U f 4)=G L J E/\k.cell? (U M 1)=G (some (U g a)) n c):=bZ (fun k h=>⟨(D.o.keep h (by simp)).cell 0,(D.o.keep h (by simp)).cell 1,(D.o.keep h (by simp)).cell 2,(D.o.keep h (by simp)).cell 3,(D.o.keep h (by simp)).cell 4,(a1.o.keep h (by simp)).cell 1⟩);refine ae (S:=(fun d:World=>d.cell? (U f 0)=some (I p.n)/\d.cell? (U f 1)=some (I p.kd)/\d.cell? (U f 2)=some (I p.v)/\d.cell? (U f 3)=some (I p.b)/\d.cell? (U f 4)=G L J E/\d.cell? (U M 1)=G (some (U g a)) n c)) (n:=18) (by kernel_rfl) ?_;have m:(fun d:World=>d.cell? (U f 0)=some (I p.n)/\d.cell? (U f 1)=some (I p.kd)/\d.cell? (U f 2)=some (I p.v)/\d.cell? (U f 3)=some (I p.b)/\d.cell? (U f 4)=G L J E/\d.cell? (U M 1)=G (some (U g a)) n c) N.drew:=r.o _ u.o.drew
    try dsimp only at m
    refine ord [0,1,2,3,4,5,6,7,8,9,10,11,12,13] ?_
    iterate 4 (refine tq m ?_;try simp only[PT,Y1,Y2,Y3])
    iterate 10 (first | (refine tu m ?_;try simp only[PT,Y1,Y2,Y3]) | (refine tq m ?_;try simp only[PT,Y1,Y2,Y3]))
    refine aB ?_;refine J1 14 fun K O=>?_;dsimp only[Y1,Y2,Y3];go_simp;refine O _ _ (.inr m) ?_;clear O K
    try simp only[PT,Y1,Y2,Y3]
    refine ord [15,16,17] ?_
    iterate 2 (first | (refine tu m ?_;try simp only[PT,Y1,Y2,Y3]) | (refine tq m ?_;try simp only[PT,Y1,Y2,Y3]))
    refine tq m ?_;try simp only[PT,Y1,Y2,Y3]
    refine aB ?_;refine JD ?_;clear m r;go_wp2_with fail;go_roundw
    case rel=>exact⟨j+1,by omega,by go_num,bZ ((P.o.trans H.o).trans u.o.drew)⟩
    case measure=>simp[intOf];omega
   obtain⟨i,hi⟩:∃i,i+1=j:=⟨j - 1,by omega⟩;obtain⟨q,y,B,z,z0,z1,z2,z3,z4,X,HC⟩:=s.o i hi;replace HC:=bZ HC;generalize q.n=pn2 at*;generalize q.kd=pk2 at*;generalize q.v=pv2 at*;generalize q.b=pb2 at*;generalize kc q p=kk at*;have a2:decide (0<j)=true:=decide_eq_true (by omega);have a3:(0:Int)<(j:Int):=by omega
   have q7:((0:Int)<=kk)=False:=eq_false (by omega);have ba:decide ((0:Int)<=kk)=false:=decide_eq_false (by omega);have wi:IntKind.i64.wrap ((j:Int) - 1)=(i:Int):=by rw[C0 _ (by omega)];omega
   have b0:(i:Int)<(n:Int):=by omega
   replace hi:=bZ hi;clear h0 s X;have r:Z (∀k,ad [] N k->k.cell? (U f 0)=some (I p.n)/\k.cell? (U f 1)=some (I p.kd)/\k.cell? (U f 2)=some (I p.v)/\k.cell? (U f 3)=some (I p.b)/\k.cell? (U f 4)=G L J E/\k.cell? (U M 1)=G (some (U g a)) n c/\k.cell? (U g (a+i*5))=some (I pn2)/\k.cell? (U g (a+i*5+1))=some (I pk2)/\k.cell? (U g (a+i*5+2))=some (I pv2)/\k.cell? (U g (a+i*5+3))=some (I pb2)/\k.cell? (U g (a+i*5+4))=G y B z):=bZ (fun k h=>⟨(D.o.keep h (by simp)).cell 0,(D.o.keep h (by simp)).cell 1,(D.o.keep h (by simp)).cell 2,(D.o.keep h (by simp)).cell 3,(D.o.keep h (by simp)).cell 4,(a1.o.keep h (by simp)).cell 1,h.cellEq (H.o.cellEq z0 (by simp)) (by simp),h.cellEq (H.o.cellEq z1 (by simp)) (by simp),h.cellEq (H.o.cellEq z2 (by simp)) (by simp),h.cellEq (H.o.cellEq z3 (by simp)) (by simp),h.cellEq (H.o.cellEq z4 (by simp)) (by simp)⟩);refine ae (S:=(fun d:World=>d.cell? (U f 0)=some (I p.n)/\d.cell? (U f 1)=some (I p.kd)/\d.cell? (U f 2)=some (I p.v)/\d.cell? (U f 3)=some (I p.b)/\d.cell? (U f 4)=G L J E/\d.cell? (U M 1)=G (some (U g a)) n c/\d.cell? (U g (a+i*5))=some (I pn2)/\d.cell? (U g (a+i*5+1))=some (I pk2)/\d.cell? (U g (a+i*5+2))=some (I pv2)/\d.cell? (U g (a+i*5+3))=some (I pb2)/\d.cell? (U g (a+i*5+4))=G y B z)) (n:=18) (by kernel_rfl) ?_;have m:(fun d:World=>d.cell? (U f 0)=some (I p.n)/\d.cell? (U f 1)=some (I p.kd)/\d.cell? (U f 2)=some (I p.v)/\d.cell? (U f 3)=some (I p.b)/\d.cell? (U f 4)=G L J E/\d.cell? (U M 1)=G (some (U g a)) n c/\d.cell? (U g (a+i*5))=some (I pn2)/\d.cell? (U g (a+i*5+1))=some (I pk2)/\d.cell? (U g (a+i*5+2))=some (I pv2)/\d.cell? (U g (a+i*5+3))=some (I pb2)/\d.cell? (U g (a+i*5+4))=G y B z) N.drew:=r.o _ u.o.drew
   try dsimp only at m
   refine ord [0,1,2,3,4,5,6,7,8,9,10,11,12,13] ?_
   iterate 4 (refine tq m ?_;try simp only[PT,Y1,Y2,Y3])
   iterate 10 (first | (refine tu m ?_;try simp only[PT,Y1,Y2,Y3]) | (refine tq m ?_;try simp only[PT,Y1,Y2,Y3]))
   refine aB ?_;refine J1 14 fun K O=>?_;dsimp only[Y1,Y2,Y3];go_simp;refine(HC.o _ (H.o.trans u.o.drew)).mono ?_;rintro e w7 ⟨rfl,k7⟩;have Y:=bZ (u.o.drew.trans k7.o);have F:=r.o w7 Y.o
   try dsimp only at F
   refine O _ _ (.inr F) ?_;clear O K m;have m:=F;clear F
   try simp only[PT,Y1,Y2,Y3]
   refine ord [15,16,17] ?_
   iterate 2 (first | (refine tu m ?_;try simp only[PT,Y1,Y2,Y3]) | (refine tq m ?_;try simp only[PT,Y1,Y2,Y3]))
   refine tq m ?_;try simp only[PT,Y1,Y2,Y3]
   refine aB ?_;refine JD ?_;clear m r;go_wp2_with fail;go_roundw
   case rel=>exact⟨j+1,by omega,by go_num,bZ ((P.o.trans H.o).trans Y.o)⟩
   case measure=>simp[intOf];omega
  have b5:(p.kd==0)=false:=by simp[R]
  have bo:(p.kd==1)=false:=by simp[R]
  have b6:(p.kd==2)=true:=by simp[R]
  have bp:(p.v !=0)=false:=by simp[hv]
  obtain⟨rfl,h,o,pA,pc,rfl,c1,u0,u1,m1,m2,au⟩:=hO.2 R;have WI:=bZ (fun W=>(by have:=cj W p.b 2 1000;rwa [show decide (2<=p.b/\p.b<=1000)=true from decide_eq_true ⟨av,ax⟩] at this:Calls Tryz.prog 157 #[I p.b,I 2,I 1000] W fun e d=>e=.returned (.bool true)/\d=W));have RE:=bZ (fun W (hW:ad [] wo W)=>am W pA pc m1 m2 (au.keep0 hW));have bu:((p.of.pts.length:Int)==0)=false:=beq_false_of_ne (by omega);have bs:=H.o.cellEq u0 (by simp);have bt:=H.o.cellEq u1 (by simp);generalize p.of.con=oc3 at*;generalize p.of.pts.length=ol3 at*;clear hO hp hC ao R hv av ax bm am au u0 u1;go_upto_region 12 with fail;rw[<-Q,<-a0];clear Q a0 x0 x1 x2 x3 x4 y1 ab;have p4:=D.o.cell;have br:=D.o.lt;go_upto_region 14 with (first | (go_at_call 157;refine(WI.o _).mono ?_;rintro e w7 ⟨rfl,h7⟩;replace h7:=h7.symm;subst h7) | (go_at_call 117;clear p4 br bs bt;refine(RE.o _ H.o).mono ?_;rintro e w4 ⟨rfl,u⟩));by_cases h0:j=0
  ·have a2:decide (0<j)=false:=decide_eq_false (by omega);have a3:((0:Int)<(j:Int))=False:=eq_false (by omega);clear h0 s;have r:Z (∀k,ad [] N k->k.cell? (U f 0)=some (I p.n)/\k.cell? (U f 1)=some (I p.kd)/\k.cell? (U f 2)=some (I p.v)/\k.cell? (U f 3)=some (I p.b)/\k.cell? (U f 4)=G (some (U h o)) 1 E/\k.cell? (U M 1)=G (some (U g a)) n c):=bZ (fun k h=>⟨(D.o.keep h (by simp)).cell 0,(D.o.keep h (by simp)).cell 1,(D.o.keep h (by simp)).cell 2,(D.o.keep h (by simp)).cell 3,(D.o.keep h (by simp)).cell 4,(a1.o.keep h (by simp)).cell 1⟩);refine ae (S:=(fun d:World=>d.cell? (U f 0)=some (I p.n)/\d.cell? (U f 1)=some (I p.kd)/\d.cell? (U f 2)=some (I p.v)/\d.cell? (U f 3)=some (I p.b)/\d.cell? (U f 4)=G (some (U h o)) 1 E/\d.cell? (U M 1)=G (some (U g a)) n c)) (n:=18) (by kernel_rfl) ?_;have m:(fun d:World=>d.cell? (U f 0)=some (I p.n)/\d.cell? (U f 1)=some (I p.kd)/\d.cell? (U f 2)=some (I p.v)/\d.cell? (U f 3)=some (I p.b)/\d.cell? (U f 4)=G (some (U h o)) 1 E/\d.cell? (U M 1)=G (some (U g a)) n c) w4.drew:=r.o _ u.o.drew
   try dsimp only at m
   refine ord [0,1,2,3,4,5,6,7,8,9,10,11,12,13] ?_
   iterate 4 (refine tq m ?_;try simp only[PT,Y1,Y2,Y3])
   iterate 10 (first | (refine tu m ?_;try simp only[PT,Y1,Y2,Y3]) | (refine tq m ?_;try simp only[PT,Y1,Y2,Y3]))
   refine aB ?_;refine J1 14 fun K O=>?_;dsimp only[Y1,Y2,Y3];go_simp;refine O _ _ (.inr m) ?_;clear O K
   try simp only[PT,Y1,Y2,Y3]
   refine ord [15,16,17] ?_
   iterate 2 (first | (refine tu m ?_;try simp only[PT,Y1,Y2,Y3]) | (refine tq m ?_;try simp only[PT,Y1,Y2,Y3]))
   refine tq m ?_;try simp only[PT,Y1,Y2,Y3]
   refine aB ?_;refine JD ?_;clear m r;go_wp2_with fail;go_roundw
   case rel=>exact⟨j+1,by omega,by go_num,bZ ((P.o.trans H.o).trans u.o.drew)⟩
   case measure=>simp[intOf];omega
  obtain⟨i,hi⟩:∃i,i+1=j:=⟨j - 1,by omega⟩;obtain⟨q,y,B,z,z0,z1,z2,z3,z4,X,HC⟩:=s.o i hi;replace HC:=bZ HC;generalize q.n=pn2 at*;generalize q.kd=pk2 at*;generalize q.v=pv2 at*;generalize q.b=pb2 at*;generalize kc q p=kk at*;have a2:decide (0<j)=true:=decide_eq_true (by omega);have a3:(0:Int)<(j:Int):=by omega
  have q7:((0:Int)<=kk)=False:=eq_false (by omega);have ba:decide ((0:Int)<=kk)=false:=decide_eq_false (by omega);have wi:IntKind.i64.wrap ((j:Int) - 1)=(i:Int):=by rw[C0 _ (by omega)];omega
  have b0:(i:Int)<(n:Int):=by omega
  replace hi:=bZ hi;clear h0 s X;have r:Z (∀k,ad [] N k->k.cell? (U f 0)=some (I p.n)/\k.cell? (U f 1)=some (I p.kd)/\k.cell? (U f 2)=some (I p.v)/\k.cell? (U f 3)=some (I p.b)/\k.cell? (U f 4)=G (some (U h o)) 1 E/\k.cell? (U M 1)=G (some (U g a)) n c/\k.cell? (U g (a+i*5))=some (I pn2)/\k.cell? (U g (a+i*5+1))=some (I pk2)/\k.cell? (U g (a+i*5+2))=some (I pv2)/\k.cell? (U g (a+i*5+3))=some (I pb2)/\k.cell? (U g (a+i*5+4))=G y B z):=bZ (fun k h=>⟨(D.o.keep h (by simp)).cell 0,(D.o.keep h (by simp)).cell 1,(D.o.keep h (by simp)).cell 2,(D.o.keep h (by simp)).cell 3,(D.o.keep h (by simp)).cell 4,(a1.o.keep h (by simp)).cell 1,h.cellEq (H.o.cellEq z0 (by simp)) (by simp),h.cellEq (H.o.cellEq z1 (by simp)) (by simp),h.cellEq (H.o.cellEq z2 (by simp)) (by simp),h.cellEq (H.o.cellEq z3 (by simp)) (by simp),h.cellEq (H.o.cellEq z4 (by simp)) (by simp)⟩);refine ae (S:=(fun d:World=>d.cell? (U f 0)=some (I p.n)/\d.cell? (U f 1)=some (I p.kd)/\d.cell? (U f 2)=some (I p.v)/\d.cell? (U f 3)=some (I p.b)/\d.cell? (U f 4)=G (some (U h o)) 1 E/\d.cell? (U M 1)=G (some (U g a)) n c/\d.cell? (U g (a+i*5))=some (I pn2)/\d.cell? (U g (a+i*5+1))=some (I pk2)/\d.cell? (U g (a+i*5+2))=some (I pv2)/\d.cell? (U g (a+i*5+3))=some (I pb2)/\d.cell? (U g (a+i*5+4))=G y B z)) (n:=18) (by kernel_rfl) ?_;have m:(fun d:World=>d.cell? (U f 0)=some (I p.n)/\d.cell? (U f 1)=some (I p.kd)/\d.cell? (U f 2)=some (I p.v)/\d.cell? (U f 3)=some (I p.b)/\d.cell? (U f 4)=G (some (U h o)) 1 E/\d.cell? (U M 1)=G (some (U g a)) n c/\d.cell? (U g (a+i*5))=some (I pn2)/\d.cell? (U g (a+i*5+1))=some (I pk2)/\d.cell? (U g (a+i*5+2))=some (I pv2)/\d.cell? (U g (a+i*5+3))=some (I pb2)/\d.cell? (U g (a+i*5+4))=G y B z) w4.drew:=r.o _ u.o.drew
  try dsimp only at m
  refine ord [0,1,2,3,4,5,6,7,8,9,10,11,12,13] ?_
  iterate 4 (refine tq m ?_;try simp only[PT,Y1,Y2,Y3])
  iterate 10 (first | (refine tu m ?_;try simp only[PT,Y1,Y2,Y3]) | (refine tq m ?_;try simp only[PT,Y1,Y2,Y3]))
  refine aB ?_;refine J1 14 fun K O=>?_;dsimp only[Y1,Y2,Y3];go_simp;refine(HC.o _ (H.o.trans u.o.drew)).mono ?_;rintro e w7 ⟨rfl,k7⟩;have Y:=bZ (u.o.drew.trans k7.o);have F:=r.o w7 Y.o
  try dsimp only at F
  refine O _ _ (.inr F) ?_;clear O K m;have m:=F;clear F
  try simp only[PT,Y1,Y2,Y3]
  refine ord [15,16,17] ?_
  iterate 2 (first | (refine tu m ?_;try simp only[PT,Y1,Y2,Y3]) | (refine tq m ?_;try simp only[PT,Y1,Y2,Y3]))
  refine tq m ?_;try simp only[PT,Y1,Y2,Y3]
  refine aB ?_;refine JD ?_;clear m r;go_wp2_with fail;go_roundw
  case rel=>exact⟨j+1,by omega,by go_num,bZ ((P.o.trans H.o).trans Y.o)⟩
  case measure=>simp[intOf];omega
 obtain rfl:j=n:=by omega
 go_wp2_with (go_at_call 159;clear y1 ab;refine(SM.o _ a9.o).mono ?_;rintro e w5 ⟨rfl,k5⟩);go_ret;exact⟨rfl,bZ (a9.o.trans k5.o)⟩
theorem ty_iff {l:List Vb}:∀ {t:T},t.ty l=true↔∀p∈t.pts,(if p.kd=0 then aK l p.v 1 else if p.kd=1 then aK l p.v 2 else T.ty l p.of)=true
 | .c k=>by simp[T.ty,T.pts]
 | .p n kd v b of r=>by simp only[T.ty,T.pts,List.forall_mem_cons,Bool.and_eq_true,ty_iff (t:=r)]
theorem lP (w:World) (A:Option Addr) (c:Nat):Calls Tryz.prog 44 #[tmV (.c 0) A c] w (RoP w (.bool true)):=by
 have a:Z (ad [] w (w.alloc (.cells #[I 0,.slice A 0 c] 38))):=bZ ((ad.refl [] w).alloc _);show Calls Tryz.prog 44 #[.agg #[I 0,.slice A 0 c]] w _;go_enter Tryz.func44,Tryz.ntmps44;go_wp2_with fail;go_ret;exact⟨rfl,a⟩
theorem sE (C:Nat->Prop) (l:List Vb) (L:Option Addr) (X P:Nat) (N:P=l.length):∀(t:T) (w:World) (A:Option Addr) (c:Nat),Nm t->t.ty l=true->t.wd<=20000->t.pts.length<=c->c<=maxLen->bR w L l->TAt w C A t->Calls Tryz.prog 118 #[tmV t A c,.slice L P X] w (RoP w (.bool true)):=by
 refine T.ind (fun t ih=>?_);intro w A c hN a2 O a5 an hV hT;have H:=aA O;have a3:∀p∈t.pts,p.of.wd<=20000:=fun p q=>(T.wd_iff.1 O).2 p q;obtain⟨n,hn⟩:∃n,n=t.pts.length:=⟨_,rfl⟩;have HP:Z (∀(j:Nat) (p:Pt),t.pts[j]? =some p->(p.kd=0/\∀W,ad [] w W->Calls Tryz.prog 77 #[I p.v,I 1,.slice L P X] W (RoP W (.bool true)))\/(p.kd=1/\∀W,ad [] w W->Calls Tryz.prog 77 #[I p.v,I 2,.slice L P X] W (RoP W (.bool true)))\/
  p.kd=2/\∀W pA R,ad [] w W->p.of.pts.length<=R->R<=maxLen->TAt W C pA p.of->Calls Tryz.prog 118 #[.agg #[I p.of.con,.slice pA p.of.pts.length R],.slice L P X] W (RoP W (.bool true))):=bZ (fun j p q=>by
  have hm:=CW q
  have h1:=(T.ok_iff.1 hN.1 p hm).2
  have Y:=ty_iff.1 a2 p hm
  rcases h1 with h | h
  ·rcases h.1 with h0 | h0
   ·rw[if_pos h0] at Y;exact .inl ⟨h0,fun W F=>by have:=fS W p.v 1 L X l P N (hV.keep0 F);rwa [Y] at this⟩
   rw[if_neg (by omega),if_pos h0] at Y;exact .inr (.inl ⟨h0,fun W F=>by have:=fS W p.v 2 L X l P N (hV.keep0 F);rwa [Y] at this⟩)
  ·rw[if_neg (by omega),if_neg (by omega)] at Y;refine .inr (.inr ⟨h.1,fun W pA R q0 q1 q2 q3=>?_⟩);have:=ih p hm W pA R ⟨h.2.2.2.2.2.1,h.2.2.2.2.2.2.1,h.2.2.2.2.2.2.2⟩ Y (a3 p hm) q1 q2 (hV.keep0 q0) q3;unfold tmV at this;exact this)
 obtain⟨ps,B⟩:∃l,l=t.pts:=⟨_,rfl⟩;have a4:Z (∀(W:World),ad [] w W->∀(j:Nat) (p:Pt),ps[j]? =some p->∃g i Q J y,A=some (U g i)/\C g/\g<W.heap.size/\W.cell? (U g (i+j*5))=some (I p.n)/\W.cell? (U g (i+j*5+1))=some (I p.kd)/\W.cell? (U g (i+j*5+2))=some (I p.v)/\
  W.cell? (U g (i+j*5+3))=some (I p.b)/\W.cell? (U g (i+j*5+4))=G Q J y/\J<=y/\y<=maxLen/\bP W C p Q J):=bZ (fun W F j p q=>(hT.keep0 F).get (by rw[<-B];exact q))
 unfold tmV;rw[<-hn];rw[<-B] at HP hn;have a9:=bZ hn;have ap:n<=20000:=by rw[hn,B];exact H
 clear hT ih hN O a3 H a5 hn B hV N a2;generalize t.con=con at*;obtain⟨W1,z⟩:∃W,W=w.alloc (.cells #[I con,.slice A n c] 38):=⟨_,rfl⟩;obtain⟨g1,M⟩:∃g,g=w.heap.size:=⟨_,rfl⟩;have k1:Z (ad [] w W1):=bZ (by rw[z];exact(ad.refl [] w).alloc _);have b1:Z (Blk W1 g1 38 #[I con,.slice A n c]):=bZ (by rw[z,M];exact Blk.new w 38 _);go_enter Tryz.func118,Tryz.ntmps118;go_upto_region 2 with fail;rw[<-z,<-M];clear z M;go_loopw [5] (fun s3 wr=>∃j:Nat,j<=n/\s3=I (j:Int)/\Z (ad [] W1 wr)) (fun s3 _=>n - (intOf s3).toNat)
 case atStart=>exact⟨0,C3 _,rfl,bZ (ad.refl _ _)⟩
 obtain⟨j,hj,rfl,m⟩:=hrel;obtain⟨f,ab⟩:∃x,x=wr:=⟨_,rfl⟩;subst ab;have r:=bZ (k1.o.trans m.o);have e1:=bZ (b1.o.keep m.o (by simp));have y1:=e1.o.cell;have S:=e1.o.lt;by_cases a6:j<n
 ·obtain⟨p,q⟩:∃v,ps[j]? =some v:=⟨_,CT (by rw[<-a9.o];exact a6)⟩;obtain⟨g,i,Q,J,y,rfl,hC,hg,x0,x1,x2,x3,x4,ar,aq,hO⟩:=a4.o f r.o j p q;have k:=HP.o j p q;have ao:(j:Int)<(n:Int):=by omega
  have wj:IntKind.i64.wrap ((j:Int)+1)=(j:Int)+1:=C0 _ (by omega);rcases k with ⟨k,K⟩ | ⟨k,K⟩ | ⟨k,RE⟩
  ·replace K:=bZ K;have a1:(p.kd==0)=true:=by simp[k]
   clear hO q hC k;obtain⟨D,a⟩:∃W,W=f.alloc (.cells #[I p.n,I p.kd,I p.v,I p.b,.slice Q J y] 221):=⟨_,rfl⟩;obtain⟨g4,d⟩:∃g,g=f.heap.size:=⟨_,rfl⟩;have u:Z (ad [] f D):=bZ (by rw[a];exact(ad.refl [] f).alloc _);have E:Z (Blk D g4 221 #[I p.n,I p.kd,I p.v,I p.b,.slice Q J y]):=bZ (by rw[a,d];exact Blk.new f 221 _);go_upto_region 9 with fail;rw[<-a,<-d];clear a d x0 x1 x2 x3 x4 y1 S;have p4:=E.o.cell;have s:=E.o.lt;go_wp2_with (go_at_call 77;clear p4 s;refine(K.o _ (r.o.trans u.o)).mono ?_;rintro e w7 ⟨rfl,k7⟩);go_roundw
   case rel=>exact⟨j+1,by omega,by go_num,bZ ((m.o.trans u.o).trans k7.o)⟩
   case measure=>simp[intOf];omega
  ·replace K:=bZ K;have a1:(p.kd==0)=false:=by simp[k]
   have aa:(p.kd==1)=true:=by simp[k]
   clear hO q hC k;obtain⟨D,a⟩:∃W,W=f.alloc (.cells #[I p.n,I p.kd,I p.v,I p.b,.slice Q J y] 221):=⟨_,rfl⟩;obtain⟨g4,d⟩:∃g,g=f.heap.size:=⟨_,rfl⟩;have u:Z (ad [] f D):=bZ (by rw[a];exact(ad.refl [] f).alloc _);have E:Z (Blk D g4 221 #[I p.n,I p.kd,I p.v,I p.b,.slice Q J y]):=bZ (by rw[a,d];exact Blk.new f 221 _);go_upto_region 12 with fail;rw[<-a,<-d];clear a d x0 x1 x2 x3 x4 y1 S;have p4:=E.o.cell;have s:=E.o.lt;go_wp2_with (go_at_call 77;clear p4 s;refine(K.o _ (r.o.trans u.o)).mono ?_;rintro e w7 ⟨rfl,k7⟩);go_roundw
   case rel=>exact⟨j+1,by omega,by go_num,bZ ((m.o.trans u.o).trans k7.o)⟩
   case measure=>simp[intOf];omega
  have a1:(p.kd==0)=false:=by simp[k]
  have aa:(p.kd==1)=false:=by simp[k]
  obtain⟨rfl,h,o,pA,R,rfl,am,u0,u1,m1,m2,a0⟩:=hO.2 k;replace RE:=bZ (fun W (F:ad [] f W)=>RE W pA R (r.o.trans F) m1 m2 (a0.keep0 F));clear hO q hC k;obtain⟨D,a⟩:∃W,W=f.alloc (.cells #[I p.n,I p.kd,I p.v,I p.b,.slice (some (U h o)) 1 y] 221):=⟨_,rfl⟩;obtain⟨g4,d⟩:∃g,g=f.heap.size:=⟨_,rfl⟩;have u:Z (ad [] f D):=bZ (by rw[a];exact(ad.refl [] f).alloc _);have E:Z (Blk D g4 221 #[I p.n,I p.kd,I p.v,I p.b,.slice (some (U h o)) 1 y]):=bZ (by rw[a,d];exact Blk.new f 221 _);have ac:=u.o.cellEq u0 (by simp);have ak:=u.o.cellEq u1 (by simp);generalize p.of.con=oc3 at*;generalize p.of.pts.length=ol3 at*;clear a0 u0 u1;go_upto_region 6 with fail;rw[<-a,<-d];clear a d x0 x1 x2 x3 x4 y1 S;have p4:=E.o.cell;have s:=E.o.lt;go_wp2_with (go_at_call 118;clear p4 s ac ak;refine(RE.o _ u.o).mono ?_;rintro e w7 ⟨rfl,k7⟩);go_roundw
  case rel=>exact⟨j+1,by omega,by go_num,bZ ((m.o.trans u.o).trans k7.o)⟩
  case measure=>simp[intOf];omega
 obtain rfl:j=n:=by omega
 go_wp2_with fail;go_ret;exact⟨rfl,bZ r.o⟩
theorem xH (C:Nat->Prop) (l:List Vb) (L:Option Addr) (x u:Nat) (i:u=l.length) (t:T) (w:World) (A:Option Addr) (c:Nat) (p:Nm t) (j:t.ty l=true) (f:t.wd<=20000) (r:t.pts.length<=c) (b:c<=maxLen) (B:bR w L l) (q:TAt w C A t):Calls Tryz.prog 76 #[tmV t A c,.slice L u x] w (RoP w (.bool true)):=by
 have y:=bZ (fun W (k:ad [] w W)=>ru C t W A c p f r b (q.keep0 k));have z:=bZ (fun W (k:ad [] w W)=>sE C l L x u i t W A c p j f r b (B.keep0 k) (q.keep0 k));unfold tmV at y z ⊢;have m:Z (ad [] w (w.alloc (.cells #[I t.con,.slice A t.pts.length c] 38))):=bZ ((ad.refl [] w).alloc _);have h:Z (Blk (w.alloc (.cells #[I t.con,.slice A t.pts.length c] 38)) w.heap.size 38 #[I t.con,.slice A t.pts.length c]):=bZ (Blk.new w 38 _);generalize t.pts.length=n at*;generalize t.con=k at*;obtain⟨K,a⟩:∃W,W=w.alloc (.cells #[I k,.slice A n c] 38):=⟨_,rfl⟩;obtain⟨M,d⟩:∃g,g=w.heap.size:=⟨_,rfl⟩;rw[<-a] at m h;rw[<-d] at h;have D:=h.o.cell;have H:=h.o.lt;clear p j f r b B q i;go_enter Tryz.func76,Tryz.ntmps76;go_upto_region 1 with fail;rw[<-a,<-d];clear a d;go_upto_region 3 with (go_at_call 117;clear D H;refine(y.o _ m.o).mono ?_;rintro e N ⟨rfl,s⟩);have v:=bZ (h.o.keep s.o (by simp));have E:=v.o.cell;have J:=v.o.lt;go_wp2_with (go_at_call 118;clear E J;refine(z.o _ (m.o.trans s.o)).mono ?_;rintro e O ⟨rfl,F⟩);go_ret;exact⟨rfl,bZ ((m.o.trans s.o).trans F.o)⟩
theorem uQ (C:Nat->Prop) (l:List Vb) (L:Option Addr) (S R:Nat) (m:R=l.length) (a:Am) (w:World) (B:Option Addr) (D:Nat) (ha:a.ok l) (z:a.t.wd<=20000) (J:bR w L l) (hA:cP w C a B D):Calls Tryz.prog 43 #[amV a B D,.slice L R S] w (RoP w (.bool true)):=by
 obtain⟨kd,v,o,t,te⟩:=a;obtain⟨⟨y,p⟩,Q⟩:=hA;have M:Z (∀(cs:Array Value) W,W=w.alloc (.cells cs 42)->ad [] w W/\Blk W w.heap.size 42 cs):=bZ (fun cs W h=>by rw[h];exact⟨(ad.refl [] w).alloc _,Blk.new w 42 _⟩);simp only[Am.ok] at ha;simp only at z y Q;unfold amV amL;simp only;rcases ha with ⟨X,hv,rfl,rfl,rfl⟩ | ⟨X,rfl,rfl,rfl,hN,q⟩ | ⟨rfl,q,rfl,rfl,a0,a3,a4,F⟩ | ⟨X,q,K,a5,rfl,rfl⟩
 ·have r:=bZ (fun W=>lP W B D);unfold tmV at r;simp only[T.con,T.pts,D6] at r ⊢;unfold inV at hv;rw[<-m] at hv;obtain⟨h0,h1⟩:=hv;simp only[ts0];obtain⟨H,b⟩:∃W,W=w.alloc (.cells #[I kd,I v,I 0,I 0,.slice B 0 D,I 0,I 0,.bool false,.string ByteArray.empty] 42):=⟨_,rfl⟩;obtain⟨i,d⟩:=M.o _ _ b;obtain⟨g1,c⟩:∃g,g=w.heap.size:=⟨_,rfl⟩;rw[<-c] at d;replace i:=bZ i;replace d:=bZ d;have f:=d.o.cell;have k:=d.o.lt;clear m z y p Q J M;rcases X with rfl | rfl
  ·go_enter Tryz.func43,Tryz.ntmps43;go_upto_region 1 with fail;rw[<-b,<-c];clear b c;go_wp2_with (go_at_call 44;clear f k;refine(r.o _).mono ?_;rintro e w5 ⟨rfl,j⟩;have f:=(d.o.keep j.o (by simp)).cell;have k:=(d.o.keep j.o (by simp)).lt);go_ret;exact⟨by first | rfl | (simp;done),bZ (i.o.trans j.o)⟩
  go_enter Tryz.func43,Tryz.ntmps43;go_upto_region 1 with fail;rw[<-b,<-c];clear b c;go_wp2_with (go_at_call 44;clear f k;refine(r.o _).mono ?_;rintro e w5 ⟨rfl,j⟩;have f:=(d.o.keep j.o (by simp)).cell;have k:=(d.o.keep j.o (by simp)).lt);go_ret;exact⟨by first | rfl | (simp;done),bZ (i.o.trans j.o)⟩
 ·have r:=bZ (fun W (h:ad [] w W)=>xH C l L S R m t W B D hN q z y p (J.keep0 h) (Q.keep0 h));unfold tmV at r;simp only[ts0];generalize t.con=con at*;generalize t.pts.length=tn at*;obtain⟨H,b⟩:∃W,W=w.alloc (.cells #[I kd,I 0,I 0,I con,.slice B tn D,I 0,I 0,.bool false,.string ByteArray.empty] 42):=⟨_,rfl⟩;obtain⟨i,d⟩:=M.o _ _ b;obtain⟨g1,c⟩:∃g,g=w.heap.size:=⟨_,rfl⟩;rw[<-c] at d;replace i:=bZ i;replace d:=bZ d;have f:=d.o.cell;have k:=d.o.lt;clear m z y p Q J M hN q;rcases X with rfl | rfl | rfl
  all_goals
   go_enter Tryz.func43,Tryz.ntmps43;go_upto_region 1 with fail;rw[<-b,<-c];clear b c;go_wp2_with (go_at_call 76;clear f k;refine(r.o _ i.o).mono ?_;rintro e w5 ⟨rfl,j⟩);go_ret;exact⟨by first | rfl | (simp;done),bZ (i.o.trans j.o)⟩
 ·have r:=bZ (fun W=>lP W B D);unfold tmV at r;simp only[T.con,T.pts,D6] at r ⊢;have A:=bZ (fun W (h:ad [] w W)=>fS W v 2 L S l R m (J.keep0 h));rw[q] at A;obtain⟨tv,tk,ng,s⟩:=te;simp only at a0 a3 a4 F ⊢;subst a0;unfold iQ at F;rw[Bool.and_eq_true,decide_eq_true_eq] at F;obtain⟨Y,a2⟩:=F;have PR:=bZ (fun W=>qq W s (by omega) true ⟨fun _ x hx=>by
   have:=List.all_eq_true.1 Y x hx;simpa using this,fun _=>rfl⟩)
  obtain⟨H,b⟩:∃W,W=w.alloc (.cells #[I 5,I v,I 0,I 0,.slice B 0 D,I 0,I tk,.bool ng,.string s] 42):=⟨_,rfl⟩;obtain⟨i,d⟩:=M.o _ _ b;obtain⟨g1,c⟩:∃g,g=w.heap.size:=⟨_,rfl⟩;rw[<-c] at d;replace i:=bZ i;replace d:=bZ d;have f:=d.o.cell;have k:=d.o.lt;obtain⟨W2,E⟩:∃W,W=H.alloc (.cells #[I 0,I tk,.bool ng,.string s] 40):=⟨_,rfl⟩;obtain⟨g2,N⟩:∃g,g=H.heap.size:=⟨_,rfl⟩;have k2:Z (ad [] H W2):=bZ (by rw[E];exact(ad.refl [] H).alloc _);have P:Z (Blk W2 g2 40 #[I 0,I tk,.bool ng,.string s]):=bZ (by rw[E,N];exact Blk.new H 40 _);have u:=bZ (d.o.keep k2.o (by simp));have a6:(s.size:Int)<=16:=by omega
  clear m z y p Q J M q Y a2;go_enter Tryz.func43,Tryz.ntmps43;go_upto_region 1 with fail;rw[<-b,<-c];clear b c;go_upto_region 11 with fail;rw[<-E,<-N];clear E N f k;have f:=u.o.cell;have k:=u.o.lt;have e2:=P.o.cell;have l2:=P.o.lt;go_wp2_with (first
   | (go_at_call 77;clear f k e2 l2;refine(A.o _ (i.o.trans k2.o)).mono ?_;rintro e w5 ⟨rfl,j⟩;have f:=(u.o.keep j.o (by simp)).cell;have k:=(u.o.keep j.o (by simp)).lt;have e2:=(P.o.keep j.o (by simp)).cell;have l2:=(P.o.keep j.o (by simp)).lt)
   | (go_at_call 44;clear f k e2 l2;refine(r.o _).mono ?_;rintro e w7 ⟨rfl,k7⟩;have n:=bZ (j.o.trans k7.o);have f:=(u.o.keep n.o (by simp)).cell;have k:=(u.o.keep n.o (by simp)).lt;have e2:=(P.o.keep n.o (by simp)).cell;have l2:=(P.o.keep n.o (by simp)).lt)
   | (go_at_call 53;refine(PR.o _).mono ?_;rintro e w8 ⟨rfl,h8⟩;subst h8))
  go_ret;exact⟨by first | rfl | (simp;done),bZ ((i.o.trans k2.o).trans n.o)⟩
 have r:=bZ (fun W=>lP W B D);unfold tmV at r;simp only[T.con,T.pts,D6] at r ⊢;have A:=bZ (fun W (h:ad [] w W)=>fS W v 2 L S l R m (J.keep0 h));have a1:=bZ (fun W (h:ad [] w W)=>fS W o 2 L S l R m (J.keep0 h));rw[q] at A;rw[K] at a1;simp only[ts0];obtain⟨H,b⟩:∃W,W=w.alloc (.cells #[I kd,I v,I o,I 0,.slice B 0 D,I 0,I 0,.bool false,.string ByteArray.empty] 42):=⟨_,rfl⟩;obtain⟨i,d⟩:=M.o _ _ b;obtain⟨g1,c⟩:∃g,g=w.heap.size:=⟨_,rfl⟩;rw[<-c] at d;replace i:=bZ i;replace d:=bZ d;have f:=d.o.cell;have k:=d.o.lt;clear m z y p Q J M q K;rcases X with rfl | rfl
 all_goals
  go_enter Tryz.func43,Tryz.ntmps43;go_upto_region 1 with fail;rw[<-b,<-c];clear b c;go_wp2_with (go_at_call 77;clear f k;(with_reducible refine(A.o _ i.o).mono ?_);clear A;rintro e w5 ⟨rfl,j⟩;have f:=(d.o.keep j.o (by simp)).cell;have k:=(d.o.keep j.o (by simp)).lt);go_wp2_with (first | (go_at_call 77;clear f k;(with_reducible refine(a1.o _ (i.o.trans j.o)).mono ?_);rintro e w6 ⟨rfl,k6⟩;have O:=bZ (j.o.trans k6.o);have f:=(d.o.keep O.o (by simp)).cell;have k:=(d.o.keep O.o (by simp)).lt) | (go_at_call 44;clear f k;refine(r.o _).mono ?_;rintro e w7 ⟨rfl,k7⟩;have n:=bZ (O.o.trans k7.o);have f:=(d.o.keep n.o (by simp)).cell;have k:=(d.o.keep n.o (by simp)).lt));go_ret;exact⟨by first | rfl | (simp;done),bZ (i.o.trans n.o)⟩
theorem so (C:Nat->Prop) (l:List Vb) (L:Option Addr) (q m:Nat) (f:m=l.length) (a:Am) (w:World) (i A:Option Addr) (j c:Nat) (u:a.ok l) (x:a.t.wd<=20000) (r:bR w L l) (h:cP w C a i j):Calls Tryz.prog 21 #[fmV (.at a) i j A c,.slice L m q] w (RoP w (.bool true)):=by
 have H:=bZ (fun W (k:ad [] w W)=>uQ C l L q m f a W i j u x (r.keep0 k) (h.keep0 k));unfold fmV fmL;unfold amV at H;unfold amL at H ⊢;simp only[F.kd,F.am,F.args,D6,D3,Dm] at H ⊢;generalize a.t.con=tk at*;generalize a.t.pts.length=tl at*;obtain⟨n,b⟩:∃W,W=w.alloc (.cells #[I 2,I a.kd,I a.v,I a.o,I tk,.slice i tl j,I a.te.v,I a.te.kd,.bool a.te.ng,.string a.te.s,.slice A 0 c] 45):=⟨_,rfl⟩;obtain⟨B,d⟩:∃g,g=w.heap.size:=⟨_,rfl⟩;have y:Z (ad [] w n):=bZ (by rw[b];exact(ad.refl [] w).alloc _);have p:Z (Blk n B 45 #[I 2,I a.kd,I a.v,I a.o,I tk,.slice i tl j,I a.te.v,I a.te.kd,.bool a.te.ng,.string a.te.s,.slice A 0 c]):=bZ (by rw[b,d];exact Blk.new w 45 _);have z:=p.o.cell;have E:=p.o.lt;clear f u x r h;go_enter Tryz.func21,Tryz.ntmps21;go_upto_region 1 with fail;rw[<-b,<-d];clear b d;go_wp2_with (go_at_call 43;clear z E;refine(H.o _ y.o).mono ?_;rintro e J ⟨rfl,D⟩);go_ret;exact⟨rfl,bZ (y.o.trans D.o)⟩
theorem sn (C:Nat->Prop) (l:List Vb) (L:Option Addr) (P nl:Nat) (kd:Int) (fs:List F) (w:World) (f A:Option Addr) (i c:Nat) (hk:kd=0\/kd=1) (J:fs.length<=100000) (hc:fs.length<=c/\c<=maxLen) (S:bR w L l) (h:ag F.tr w C A fs)
 (HX:Z (∀x∈fs,∀W f i B d,bR W L l->bQ W C x f i B d->Calls Tryz.prog 21 #[fmV x f i B d,.slice L nl P] W (RoP W (.bool true)))):
 Calls Tryz.prog 21 #[fmV (.nd kd fs) f i A c,.slice L nl P] w (RoP w (.bool true)):=by
  obtain⟨n,M⟩:∃n,n=fs.length:=⟨_,rfl⟩;have ze:=bZ (fun W=>lP W f i);unfold tmV at ze;simp only[T.con,T.pts,D6] at ze;have e:fmV (.nd kd fs) f i A c=.agg #[I kd,I 0,I 0,I 0,I 0,.slice f 0 i,I 0,I 0,.bool false,.string ⟨#[]⟩,.slice A n c]:=by rw[M];rfl
  rw[e];clear e;obtain⟨q,k⟩:∃W,W=w.alloc (.cells #[I kd,I 0,I 0,I 0,I 0,.slice f 0 i,I 0,I 0,.bool false,.string ⟨#[]⟩,.slice A n c] 45):=⟨_,rfl⟩;obtain⟨g1,u⟩:∃g,g=w.heap.size:=⟨_,rfl⟩;have k1:Z (ad [] w q):=bZ (by rw[k];exact(ad.refl [] w).alloc _);have N:Z (Blk q g1 45 #[I kd,I 0,I 0,I 0,I 0,.slice f 0 i,I 0,I 0,.bool false,.string ⟨#[]⟩,.slice A n c]):=bZ (by rw[k,u];exact Blk.new w 45 _);obtain⟨W2,m⟩:∃W,W=q.alloc (.cells #[I 0,I 0,I 0,I 0,.slice f 0 i,I 0,I 0,.bool false,.string ⟨#[]⟩] 42):=⟨_,rfl⟩;obtain⟨g2,y⟩:∃g,g=q.heap.size:=⟨_,rfl⟩;have k2:Z (ad [] q W2):=bZ (by rw[m];exact(ad.refl [] q).alloc _);have K:Z (Blk W2 g2 42 #[I 0,I 0,I 0,I 0,.slice f 0 i,I 0,I 0,.bool false,.string ⟨#[]⟩]):=bZ (by rw[m,y];exact Blk.new q 42 _);have b:=bZ (N.o.keep k2.o (by simp));have a1:=bZ (k1.o.trans k2.o);replace h:=bZ h;replace S:=bZ S;rw[<-M] at hc J;have Y:=bZ M;have r:=N.o.cell;have D:=N.o.lt;clear M;rcases hk with rfl | rfl
  all_goals
   go_enter Tryz.func21,Tryz.ntmps21;go_upto_region 1 with fail;rw[<-k,<-u];clear k u;go_upto_region 4 with fail;rw[<-m,<-y];clear m y r D;have r:=b.o.cell;have D:=b.o.lt;have Q:=K.o.cell;have l2:=K.o.lt;go_wp2_with (go_at_call 44;clear r D Q l2;refine(ze.o _).mono ?_;rintro e w7 ⟨rfl,E⟩;have r:=(b.o.keep E.o (by simp)).cell;have D:=(b.o.keep E.o (by simp)).lt;have Q:=(K.o.keep E.o (by simp)).cell;have l2:=(K.o.keep E.o (by simp)).lt);have a2:=bZ (a1.o.trans E.o);have O:=bZ (b.o.keep E.o (by simp));clear r D Q l2;go_loopw [6] (fun s6 wr=>∃j:Nat,j<=n/\s6=I (j:Int)/\Z (ad [] w7 wr)) (fun s6 _=>n - (intOf s6).toNat)
   case atStart=>exact⟨0,C3 _,rfl,bZ (ad.refl _ _)⟩
   obtain⟨j,hj,rfl,R⟩:=hrel;obtain⟨wo,a0⟩:∃x,x=wr:=⟨_,rfl⟩;subst a0;have z:=bZ (a2.o.trans R.o);have H:=bZ (O.o.keep R.o (by simp));have r:=H.o.cell;have D:=H.o.lt;by_cases X:j<n
   ·obtain⟨x,hx⟩:=aI (l:=fs) (j:=j) (by rw[<-Y.o];exact X);obtain⟨g,a5,rc,rfl,hC,hg,hI,a⟩:=(h.o.keep0 z.o).get F.tr_len (by decide) hx;obtain⟨xA,xc,B,d,rfl,hF⟩:=fI.1 hI;have p:Z (∀W,ad [] wo W->Calls Tryz.prog 21 #[fmV x xA xc B d,.slice L nl P] W (RoP W (.bool true))):=bZ (fun W hW=>HX.o x (CW hx) W xA xc B d ((S.o.keep0 z.o).keep0 hW) (hF.keep0 hW));unfold fmL amL at a;unfold fmV fmL amL at p;simp only[D3,Dm] at a p;have x0:=a 0 _ rfl;have x1:=a 1 _ rfl;have x2:=a 2 _ rfl;have x3:=a 3 _ rfl;have x4:=a 4 _ rfl;have x5:=a 5 _ rfl;have x6:=a 6 _ rfl;have x7:=a 7 _ rfl;have x8:=a 8 _ rfl;have x9:=a 9 _ rfl;have a3:=a 10 _ rfl;rw[Fg] at x0;have a4:(j:Int)<(n:Int):=by omega
    have wj:IntKind.i64.wrap ((j:Int)+1)=(j:Int)+1:=C0 _ (by omega);clear a hx hI hF hC;generalize x.am.t.con=xk at*;generalize x.am.t.pts.length=xl at*;generalize x.args.length=xal at*;generalize x.kd=xkd at*;generalize x.am.kd=xak at*;generalize x.am.v=xav at*;generalize x.am.o=xao at*;generalize x.am.te.v=xtv at*;generalize x.am.te.kd=xtk at*;generalize x.am.te.ng=xtn at*;generalize x.am.te.s=xts at*;go_wp2_with (go_at_call 21;clear x0 x1 x2 x3 x4 x5 x6 x7 x8 x9 a3 r D;refine(p.o _ (ad.refl _ _)).mono ?_;rintro e w8 ⟨rfl,k8⟩);go_roundw
    case rel=>exact⟨j+1,by omega,by go_num,bZ (R.o.trans k8.o)⟩
    case measure=>simp[intOf];omega
   obtain rfl:j=n:=by omega
   go_wp2_with fail;go_ret;exact⟨rfl,bZ z.o⟩
theorem qa (l:List Vb) (L:Option Addr) (m n:Nat) (o:m=l.length):∀(f:F) (C:Nat->Prop) (w:World) (b:Option Addr) (e:Nat) (A:Option Addr) (c:Nat),F.ok l f->f.wd<=100000->(∀a∈f.ats,a.t.wd<=20000)->bR w L l->bQ w C f b e A c->
 Calls Tryz.prog 21 #[fmV f b e A c,.slice L m n] w (RoP w (.bool true)):=by
  refine F.ind (fun a=>?_) (fun kd fs s=>?_)
  ·intro C w b e A c i _ j g h;exact so C l L n m o a w b A e c i (j a (by simp[F.ats])) g h.at_
  intro C w b e A c i j r g h;rw[F.ok,F.oks_iff] at i;rw[F.wd,Nat.max_le,F.wds_mem] at j;exact sn C l L n m kd fs w b A e c i.1 j.1 h.am g h.ar (bZ (fun x k W u xc B d g q=>s x k C W u xc B d (i.2 x k) (j.2 x k) (fun a p=>r a (by rw[F.ats];exact F.atss_mem.2 ⟨x,k,p⟩)) g q))
def zL (l:List Vb) (c:Cla):Prop:=pY l c/\(c.ax.length<=90000000/\c.is.length<=90000000/\c.ts.length<=90000000/\c.sm.length<=90000000/\c.df.length<=90000000)/\c.nul.length<=90000000/\c.nn.length<=90000000
theorem oC {l:List Vb} {f:F} (j:l.length<=10) (q:F.ok l f) (h:f.big 768) (g:∀c∈dQ l f,Cla.Ok l c):∀c∈dQ l f,zL l c:=by
 intro c i;have m:=g c i;have a:pY l c:=⟨m,j⟩;refine⟨a,?_,?_⟩
 ·obtain⟨b,o,rfl⟩:=Dt.1 i;have d:=iz _ b o;have e:=qj l f;have p:b.length<=768:=Dc d.1 (Dc e.1 h.1);have:=kG (n:=l.length) rfl j b cl0 0 (fun x k=>⟨pV _ (lZ f q) _ (d.2 x k),(h.2.2 _ (mW l f _ (d.2 x k))).1⟩) ⟨C3 _,C3 _,C3 _,C3 _,C3 _,C3 _,C3 _⟩;have w:0+b.length*10010<=7687680:=by omega
  have r:=this.a2;have s:=this.a3;have t:=this.a4;have u:=this.a5;have v:=this.a6;unfold gh;dsimp only;omega
 have:=j0 a;omega
theorem uH {α:Type} {l:List α} {P:α->Bool} {j:Nat} {x:α} (a:l[j]? =some x):(l.take (j+1)).any P=((l.take j).any P || P x):=by
 rw[cN a,E8];simp
theorem oT (D:Nat->Prop) (l:List Vb) (r:List Vl) (w:World) (cs:List Cla) (A:Option Addr) (m c:Nat) (L:Option Addr) (S Y:Nat) (B:Option Addr) (n cr:Nat) (hm:m=cs.length) (a5:m<=256) (N:S=l.length) (hn:n=r.length) (hl:l.length<=10) (hr:bD r l) (C:∀x∈cs,zL l x) (hA:ag fe w D A cs) (hV:bR w L l) (hB:gI w B r):
 Calls Tryz.prog 23 #[.slice A m c,.slice L S Y,.slice B n cr] w (RoP w (.bool (cs.any (Cla.holds r n)))):=by
  obtain⟨R,J⟩:∃R,R=cs.any (Cla.holds r n):=⟨_,rfl⟩;have VD:Z (∀x∈cs,∀(W:World) (s:Sv),er W D x s->ad [] w W->Calls Tryz.prog 49 #[.agg (clL x s).toArray,.slice L S Y] W (RoP W (.bool true))):=bZ (fun x f W s h k=>uP D l x s W L S Y N (C x f).1 (C x f).2.1 h (hV.keep0 k));have HO:Z (∀x∈cs,∀(W:World) (s:Sv),er W D x s->ad [] w W->Calls Tryz.prog 50 #[.agg (clL x s).toArray,.slice B n cr] W (RoP W (.bool (Cla.holds r n x)))):=bZ (fun x f W s h k=>vZ D l r x s W B n cr hn hl (C x f).1.ok hr (C x f).2.1 (C x f).2.2 h (hB.keep0 k));rw[<-J];replace J:=bZ J;have M:=bZ hm;replace hA:=bZ hA;clear hm N hn hl hr C hV hB;go_enter Tryz.func23,Tryz.ntmps23;go_wp2_with fail;go_loopw [11] (fun s wr=>∃j:Nat,j<=m/\s=I (j:Int)/\Z ((cs.take j).any (Cla.holds r n)=false)/\Z (ad [] w wr)) (fun s _=>m - (intOf s).toNat)
  case atStart=>exact⟨0,C3 _,rfl,bZ rfl,bZ (ad.refl _ _)⟩
  obtain⟨j,hj,rfl,K,d⟩:=hrel;obtain⟨y,a3⟩:∃x,x=wr:=⟨_,rfl⟩;subst a3;by_cases a2:j<m
  ·obtain⟨x,f⟩:∃v,cs[j]? =some v:=⟨_,CT (by rw[<-M.o];exact a2)⟩;have b:=CW f;obtain⟨g,a6,rc,rfl,_,_,hI,a⟩:=(hA.o.keep0 d.o).get r9 (by decide) f;obtain⟨s,rfl,hC⟩:=uu.1 hI;have X:=bZ (fun W (k:ad [] y W)=>VD.o x b W s (hC.keep0 k) (d.o.trans k));have T:=bZ (fun W (k:ad [] y W)=>HO.o x b W s (hC.keep0 k) (d.o.trans k));have t:=bZ (uH (P:=Cla.holds r n) f);have i:Z (Cla.holds r n x=true->R=true):=bZ (fun h=>by rw[J.o];exact Fo.2 ⟨x,b,h⟩);have a4:(j:Int)<(m:Int):=by omega
   have wj:IntKind.i64.wrap ((j:Int)+1)=(j:Int)+1:=C0 _ (by omega);unfold clL at a X T;have x0:=a 0 _ rfl;have x1:=a 1 _ rfl;have x2:=a 2 _ rfl;have x3:=a 3 _ rfl;have x4:=a 4 _ rfl;have x5:=a 5 _ rfl;have x6:=a 6 _ rfl;rw[Fg] at x0;clear hI a hC f b;generalize x.nul.length=n0 at*;generalize x.nn.length=n1 at*;generalize x.ax.length=n2 at*;generalize x.is.length=n3 at*;generalize x.ts.length=n4 at*;generalize x.sm.length=n5 at*;generalize x.df.length=n6 at*;generalize Cla.holds r n x=H at*;obtain⟨W2,p⟩:∃W,W=y.alloc (.cells #[.slice s.A0 n0 s.c0,.slice s.A1 n1 s.c1,.slice s.A2 n2 s.c2,.slice s.A3 n3 s.c3,.slice s.A4 n4 s.c4,.slice s.A5 n5 s.c5,.slice s.A6 n6 s.c6] 114):=⟨_,rfl⟩;obtain⟨g2,q⟩:∃g,g=y.heap.size:=⟨_,rfl⟩;have E:Z (ad [] y W2):=bZ (by rw[p];exact(ad.refl [] y).alloc _);have Q:Z (Blk W2 g2 114 #[.slice s.A0 n0 s.c0,.slice s.A1 n1 s.c1,.slice s.A2 n2 s.c2,.slice s.A3 n3 s.c3,.slice s.A4 n4 s.c4,.slice s.A5 n5 s.c5,.slice s.A6 n6 s.c6]):=bZ (by rw[p,q];exact Blk.new y 114 _);go_upto_region 4 with fail;rw[<-p,<-q];clear p q x0 x1 x2 x3 x4 x5 x6;have e:=Q.o.cell;have z:=Q.o.lt;cases H
   ·have O:Z ((cs.take (j+1)).any (Cla.holds r n)=false):=bZ (by rw[t.o,K.o];rfl);clear t i K;go_wp2_with (first | (go_at_call 49;clear e z;refine(X.o _ E.o).mono ?_;rintro e w5 ⟨rfl,u⟩;have F:=bZ (Q.o.keep u.o (by simp));have e:=F.o.cell;have z:=F.o.lt) | (go_at_call 50;clear e z;refine(T.o _ (E.o.trans u.o)).mono ?_;rintro e w6 ⟨rfl,k6⟩));go_roundw
    case rel=>exact⟨j+1,by omega,by go_num,O,bZ (((d.o.trans E.o).trans u.o).trans k6.o)⟩
    case measure=>simp[intOf];omega
   have a1:=bZ (i.o rfl);clear t i K;go_wp2_with (first | (go_at_call 49;clear e z;refine(X.o _ E.o).mono ?_;rintro e w5 ⟨rfl,u⟩;have F:=bZ (Q.o.keep u.o (by simp));have e:=F.o.cell;have z:=F.o.lt) | (go_at_call 50;clear e z;refine(T.o _ (E.o.trans u.o)).mono ?_;rintro e w6 ⟨rfl,k6⟩));go_ret;rw[a1.o];exact⟨rfl,bZ (((d.o.trans E.o).trans u.o).trans k6.o)⟩
  obtain rfl:j=m:=by omega
  have a0:Z (R=false):=bZ (by rw[J.o];have:=K.o;rwa [C6 (by rw[<-M.o];exact C9 _)] at this);clear K;go_wp2_with fail;go_ret;rw[a0.o];exact⟨rfl,d⟩
theorem uJ (C:Nat->Prop) (l:List Vb) (r:List Vl) (w:World) (f:F) (u A:Option Addr) (y c:Nat) (k:Int) (L:Option Addr) (M z:Nat) (B:Option Addr) (n cr:Nat) (b:Bool) (p:M=l.length) (H:M<=z/\z<=maxLen) (hn:n=r.length) (hl:l.length<=10) (Y:bD r l) (hi:∀(v:Nat) (x:Vb),l[v]? =some x->x.nl=false->((r[v]?).getD em).k≠0)
 (hk:k=3\/k=0/\F.ok l f/\f.big 768/\F.holds r f=b) (hF:bQ w C f u y A c) (P:bR w L l) (hB:gI w B r):
 Calls Tryz.prog 13 #[fmV f u y A c,I k,.slice L M z,.slice B n cr,.bool b] w (RoP w (.bool true)):=by
  have e0:Z (∀W,W=w.alloc (.cells (fmL f u y A c).toArray 45)->ad [] w W/\Blk W w.heap.size 45 (fmL f u y A c).toArray):=bZ (fun W h=>by rw[h];exact⟨(ad.refl [] w).alloc _,Blk.new w 45 _⟩);rcases hk with rfl | ⟨rfl,S,d,hh⟩
  ·obtain⟨W1,i⟩:∃W,W=w.alloc (.cells (fmL f u y A c).toArray 45):=⟨_,rfl⟩;have N:=bZ (e0.o _ i).1;unfold fmV fmL amL at*;simp only[D3,Dm] at*;clear p H hn hl Y hi hF P hB e0;go_enter Tryz.func13,Tryz.ntmps13;go_upto_region 1 with fail;rw[<-i];clear i;go_wp2_with fail;go_ret;exact⟨rfl,N⟩
  have VA:=bZ (fun W (h:ad [] w W)=>qa l L M z p f C W u y A c S (by have:=d.2.1;omega) (fun a ha=>by have:=(d.2.2 a ha).2;omega) (P.keep0 h) (hF.keep0 h));have O:=bZ (fun W (h:ad [] w W)=>lK C l L M z f W u A y c p (by omega) H S ⟨by have:=d.1;omega,d.2⟩ (P.keep0 h) (hF.keep0 h));obtain⟨X,j⟩:=pQ S Y hi;have a0:=oC hl S d X;have R:l.length=n:=by rw[hn,Y.len]
  rw[R,hh] at j;unfold ClR at O;have SO:Z (∀(W:World) (D:Nat->Prop) (A:Option Addr) (c:Nat),(dQ l f).length<=256->ag fe W D A (dQ l f)->ad [] w W->Calls Tryz.prog 23 #[.slice A (dQ l f).length c,.slice L M z,.slice B n cr] W (RoP W (.bool b))):=bZ (fun W D A c h1 h2 hW=>by
   have:=oT D l r W (dQ l f) A _ c L M z B n cr rfl h1 p hn hl Y a0 h2 (P.keep0 hW) (hB.keep0 hW);rwa [j] at this)
  generalize dQ l f=cs at*;obtain⟨W1,i⟩:∃W,W=w.alloc (.cells (fmL f u y A c).toArray 45):=⟨_,rfl⟩;obtain⟨N,q⟩:=e0.o _ i;replace N:=bZ N;replace q:=bZ q;obtain⟨g1,J⟩:∃g,g=w.heap.size:=⟨_,rfl⟩;rw[<-J] at q;unfold fmV fmL amL at VA O ⊢;unfold fmL amL at i q;simp only[D3,Dm] at VA O i q ⊢;clear p H hn hl Y hi hF P hB e0 S d hh X j a0 R;generalize f.kd=k1_ at*;generalize f.am.kd=k2 at*;generalize f.am.v=k3 at*;generalize f.am.o=k4 at*;generalize f.am.t.con=k5 at*;generalize f.am.t.pts.length=k6 at*;generalize f.am.te.v=k7 at*;generalize f.am.te.kd=k8 at*;generalize f.am.te.ng=k9 at*;generalize f.am.te.s=k10 at*;generalize f.args.length=k11 at*;obtain⟨m,hm⟩:∃m,m=cs.length:=⟨_,rfl⟩;rw[<-hm] at SO O;clear hm;have e1:=q.o.cell;have l1:=q.o.lt;go_enter Tryz.func13,Tryz.ntmps13;go_upto_region 1 with fail;rw[<-i,<-J];clear i J;go_upto_region 5 with (go_at_call 21;clear e1 l1;refine(VA.o _ N.o).mono ?_;rintro e w5 ⟨rfl,k5⟩);have b5:=bZ (q.o.keep k5.o (by simp));have e1:=b5.o.cell;have l1:=b5.o.lt;have a1:=bZ (N.o.trans k5.o);have a4:(b==b)=true:=beq_self_eq_true b;go_upto_region 6 with (go_at_call 22;clear e1 l1;refine(O.o _ a1.o).mono ?_;intro e w6 h6;obtain⟨⟨h6,_⟩ | ⟨cA,cc,h6,Q,hR⟩,a2⟩:=h6<;>subst h6)
  all_goals have K:=bZ (a1.o.trans a2.o)
  ·go_wp2_with fail;go_ret;exact⟨rfl,K⟩
  cases b
  all_goals
   go_wp2_with (go_at_call 23;refine(SO.o _ _ _ _ Q.o.2.2 hR.o K.o).mono ?_;rintro e w7 ⟨rfl,a3⟩);go_ret;exact⟨rfl,bZ (K.o.trans a3.o)⟩
def e0:E:=.b 12 0 ⟨0,0,⟨#[]⟩⟩ (.z 2 0 ⟨0,0,⟨#[]⟩⟩) (.z 1 0 ⟨1,1,⟨#[]⟩⟩)
def l0:List Vb:=[⟨1,0,9,0,false⟩]
def r0:List Vl:=[⟨1,0,⟨#[]⟩⟩]
def r1:List Vl:=[⟨1,1,⟨#[]⟩⟩]
theorem mv:ci l0 6 e0=true:=by decide+kernel
theorem qL:kP l0=true:=by decide+kernel
theorem xg:bU r0 l0=true:=by decide+kernel
theorem xe:bU r1 l0=true:=by decide+kernel
theorem zo:e0.rg:=by simp only[e0,E.rg,Vl.rg];decide
theorem zq:cdE r0 e0=1:=by decide+kernel
theorem zp:cdE r1 e0=0:=by decide+kernel
theorem zn:(trE l0 e0 0).2=0:=by decide+kernel
theorem yd:(dQ l0 (trE l0 e0 0).1).length<=256:=by unfold dQ;rw[Df];decide+kernel
def ch0:List Value:=[I 2,.string ⟨#[]⟩,.string ⟨#[]⟩,I 0,I 0,I 0,.string ⟨#[]⟩,.slice none 0 0,I 1,.string ⟨#[]⟩,.string ⟨#[]⟩,I 0,I 1,I 1,.string ⟨#[]⟩,.slice none 0 0]
theorem zt {w:World} {C:Nat->Prop} {g:Nat} (h:∀i:Nat,w.cell? (U g i)=ch0.toArray[i]?) (c:C g):aY w C e0 (V g) 2:=by
 refine⟨rfl,⟨#[]⟩,⟨#[]⟩,none,0,0,⟨#[]⟩,⟨#[]⟩,none,0,0,⟨fun a b=>by cases b;rfl,dl.mk_ c (fun i u d=>?_)⟩,C9 _,C3 _,⟨rfl,trivial⟩,C9 _,C3 _,⟨rfl,trivial⟩⟩;rw[Dl,h i];rw[<-d];simp[ch0,xc,E.op,E.ix,E.lit]
theorem xw {w:World} {g:Nat} (h:∀i:Nat,w.cell? (U g i)=#[I 1,I 0,I 9,I 0,.bool false][i]?):bR w (V g) l0:=by
 intro j x a;have b:j=0:=by have:=(CV.1 a).1;simp[l0] at this;exact this
 subst b;obtain rfl:x=⟨1,0,9,0,false⟩:=by simpa [l0] using a.symm
 exact⟨g,0,rfl,h 0,h 1,h 2,h 3,h 4⟩
theorem yW {w:World} {g:Nat} {m:Int} (h:∀i:Nat,w.cell? (U g i)=#[I 1,I m,.string ⟨#[]⟩][i]?):gI w (V g) [⟨1,m,⟨#[]⟩⟩]:=by
 intro j x a;have b:j=0:=by have:=(CV.1 a).1;simp at this;exact this
 subst b;obtain rfl:x=⟨1,m,⟨#[]⟩⟩:=by simpa using a.symm
 exact⟨g,0,rfl,h 0,h 1,h 2⟩
theorem xu {r:List Vl} (h:bU r l0=true):∀(v:Nat) (x:Vb),l0[v]? =some x->x.nl=false->((r[v]?).getD em).k≠0:=by
 intro v x e g;have a:=dZ h;obtain⟨u,d⟩:∃u,r[v]? =some u:=⟨_,CT (by rw[a];exact(CV.1 e).1)⟩;obtain⟨y,c,b⟩:=d7 h d;rw[e] at c;cases c;rw[d];show u.k≠0;intro f;unfold fj at b;rw[if_pos f,g] at b;simp at b
theorem yE (w:World):Calls Tryz.prog 5 #[] w (RoP w (.bool true)):=by
 have r:=bD.of qL xg;have B:=bD.of qL xe;obtain⟨f,hf⟩:∃f,f=(trE l0 e0 0).1:=⟨_,rfl⟩;have C:trE l0 e0 0=(f,0):=by rw[hf];exact Prod.ext rfl zn
 have t0:=(kT r mv (by decide) C).2 rfl;have t1:=(kT B mv (by decide) C).2 rfl;have p:=t0.1;have j:f.big 768:=by rw[hf];exact jR (d:=6) (by decide) e0 0 mv
 obtain⟨Y,k⟩:=pQ p r (xu xg);obtain⟨_,l⟩:=pQ p B (xu xe);have P:=oC (by decide) p j Y;have q:=yd;rw[<-hf] at q;rw[t0.2,zq] at k;rw[t1.2,zp] at l;have WT:Z (∀(W:World) (g b:Nat),(∀i:Nat,W.cell? (U g i)=ch0.toArray[i]?)->(∀i:Nat,W.cell? (U b i)=#[I 1,I 0,I 9,I 0,.bool false][i]?)->Calls Tryz.prog 10 #[.agg #[I 12,.string ⟨#[]⟩,.string ⟨#[]⟩,I 0,I 0,I 0,.string ⟨#[]⟩,.slice (V g) 2 2],.slice (V b) 1 1] W (FmP W (fun g=>W.heap.size<=g) (f,0))):=bZ (fun W g b h1 h2=>by
  have:=jN (fun x=>x=g) r0 l0 (V b) 1 1 6 e0 W ⟨#[]⟩ ⟨#[]⟩ (V g) 2 2 rfl r (by decide) ⟨C9 _,by simp[maxLen]⟩ mv zo (zt h1 rfl) (C9 _) (by simp[maxLen]) (xw h2);rw[C] at this;exact this)
 have VA:=bZ (fun (W:World) (D:Nat->Prop) (b:Nat) (u:Option Addr) (y:Nat) (A:Option Addr) (c:Nat) (R:bR W (V b) l0) (hF:bQ W D f u y A c)=>qa l0 (V b) 1 1 rfl f D W u y A c p (by have:=j.2.1;omega) (fun a ha=>by have:=(j.2.2 a ha).2;omega) R hF);have CL:=bZ (fun (W:World) (D:Nat->Prop) (b:Nat) (u:Option Addr) (y:Nat) (A:Option Addr) (c:Nat) (R:bR W (V b) l0) (hF:bQ W D f u y A c)=>lK D l0 (V b) 1 1 f W u A y c rfl (by decide) ⟨C9 _,by simp[maxLen]⟩ p ⟨by have:=j.1;omega,j.2⟩ R hF);unfold ClR at CL;have SO:Z (∀(W:World) (D:Nat->Prop) (A:Option Addr) (c b g:Nat) (m:Int),(m=0\/m=1)->ag fe W D A (dQ l0 f)->bR W (V b) l0->(∀i:Nat,W.cell? (U g i)=#[I 1,I m,.string ⟨#[]⟩][i]?)->Calls Tryz.prog 23 #[.slice A (dQ l0 f).length c,.slice (V b) 1 1,.slice (V g) 1 1] W (RoP W (.bool (decide (m=0))))):=bZ (fun W D A c b g m hm h2 R hB=>by
  rcases hm with rfl | rfl
  ·have:=oT D l0 r0 W (dQ l0 f) A _ c (V b) 1 1 (V g) 1 1 rfl q rfl rfl (by decide) r P h2 R (yW hB);rw[show (1:Nat)=l0.length from rfl,k] at this;exact this
  have:=oT D l0 r1 W (dQ l0 f) A _ c (V b) 1 1 (V g) 1 1 rfl q rfl rfl (by decide) B P h2 R (yW hB);rw[show (1:Nat)=l0.length from rfl,l] at this;exact this)
 generalize dQ l0 f=cs at*;clear hf C t0 t1 p j Y k l P r B;have S:=bZ (fun W D A c b g=>SO.o W D A c b g 0 (.inl rfl));have a0:=bZ (fun W D A c b g=>SO.o W D A c b g 1 (.inr rfl));clear SO;obtain⟨X,n⟩:∃W,W=((w.alloc (.cells #[I 2,.string ⟨#[]⟩,.string ⟨#[]⟩,I 0,I 0,I 0,.string ⟨#[]⟩,.slice none 0 0,I 1,.string ⟨#[]⟩,.string ⟨#[]⟩,I 0,I 1,I 1,.string ⟨#[]⟩,.slice none 0 0] 26)).alloc (.cells #[I 12,.string ⟨#[]⟩,.string ⟨#[]⟩,I 0,I 0,I 0,.string ⟨#[]⟩,.slice (V w.heap.size) 2 2] 26)).alloc (.cells #[I 1,I 0,I 9,I 0,.bool false] 67):=⟨_,rfl⟩;obtain⟨g0,z⟩:∃g,g=w.heap.size:=⟨_,rfl⟩;obtain⟨g1,L⟩:∃g,g=w.heap.size+1:=⟨_,rfl⟩;obtain⟨K,M⟩:∃g,g=w.heap.size+1+1:=⟨_,rfl⟩;have k1:Z (ad [] w X):=bZ (by rw[n];exact(((ad.refl [] w).alloc _).alloc _).alloc _);have b0:Z (Blk X g0 26 #[I 2,.string ⟨#[]⟩,.string ⟨#[]⟩,I 0,I 0,I 0,.string ⟨#[]⟩,.slice none 0 0,I 1,.string ⟨#[]⟩,.string ⟨#[]⟩,I 0,I 1,I 1,.string ⟨#[]⟩,.slice none 0 0]):=bZ (by rw[n,z];exact((Blk.new w 26 _).alloc _).alloc _);have b1:Z (Blk X g1 26 #[I 12,.string ⟨#[]⟩,.string ⟨#[]⟩,I 0,I 0,I 0,.string ⟨#[]⟩,.slice (V w.heap.size) 2 2]):=bZ (by
  rw[n,L];have:=(Blk.new (w.alloc (.cells #[I 2,.string ⟨#[]⟩,.string ⟨#[]⟩,I 0,I 0,I 0,.string ⟨#[]⟩,.slice none 0 0,I 1,.string ⟨#[]⟩,.string ⟨#[]⟩,I 0,I 1,I 1,.string ⟨#[]⟩,.slice none 0 0] 26)) 26 #[I 12,.string ⟨#[]⟩,.string ⟨#[]⟩,I 0,I 0,I 0,.string ⟨#[]⟩,.slice (V w.heap.size) 2 2]).alloc (.cells #[I 1,I 0,I 9,I 0,.bool false] 67);rwa [Fl] at this)
 have b2:Z (Blk X K 67 #[I 1,I 0,I 9,I 0,.bool false]):=bZ (by
  rw[n,M];have:=Blk.new ((w.alloc (.cells #[I 2,.string ⟨#[]⟩,.string ⟨#[]⟩,I 0,I 0,I 0,.string ⟨#[]⟩,.slice none 0 0,I 1,.string ⟨#[]⟩,.string ⟨#[]⟩,I 0,I 1,I 1,.string ⟨#[]⟩,.slice none 0 0] 26)).alloc (.cells #[I 12,.string ⟨#[]⟩,.string ⟨#[]⟩,I 0,I 0,I 0,.string ⟨#[]⟩,.slice (V w.heap.size) 2 2] 26)) 67 #[I 1,I 0,I 9,I 0,.bool false];rwa [Fl,Fl] at this)
 rw[<-z] at b1;go_enter Tryz.func5,Tryz.ntmps5;go_upto_region 3 with fail;rw[<-n,<-M,<-L,<-z];clear n z L M;unfold fmV fmL amL at VA CL;simp only[D3,Dm] at VA CL;have e1:=b1.o.cell;have l1:=b1.o.lt;have J:=bZ (WT.o X g0 K b0.o.cell b2.o.cell);unfold FmP fmV fmL amL at J;simp only[D3,Dm] at J;generalize f.kd=z1 at*;generalize f.am.kd=z2 at*;generalize f.am.v=z3 at*;generalize f.am.o=z4 at*;generalize f.am.t.con=z5 at*;generalize f.am.t.pts.length=z6 at*;generalize f.am.te.v=z7 at*;generalize f.am.te.kd=z8 at*;generalize f.am.te.ng=z9 at*;generalize f.am.te.s=z10 at*;generalize f.args.length=z11 at*;go_upto_region 4 with (go_at_call 10;clear e1 l1;refine J.o.mono ?_;intro e w5 h5;obtain⟨u,y,A,c,rfl,F5,k5⟩:=h5);obtain⟨w6,H⟩:∃W,W=w5.alloc (.cells #[I z1,I z2,I z3,I z4,I z5,.slice u z6 y,I z7,I z8,.bool z9,.string z10,.slice A z11 c] 45):=⟨_,rfl⟩;obtain⟨g3,N⟩:∃g,g=w5.heap.size:=⟨_,rfl⟩;have k6:Z (ad [] w5 w6):=bZ (by rw[H];exact(ad.refl [] w5).alloc _);have b3:Z (Blk w6 g3 45 #[I z1,I z2,I z3,I z4,I z5,.slice u z6 y,I z7,I z8,.bool z9,.string z10,.slice A z11 c]):=bZ (by rw[H,N];exact Blk.new w5 45 _);have F6:=bZ (F5.o.keep0 k6.o);have V6:Z (bR w6 (V K) l0):=bZ (xw ((b2.o.keep k5.o (by simp)).keep k6.o (by simp)).cell);rw[<-H,<-N];clear H N;have e3:=b3.o.cell;have l3:=b3.o.lt;go_upto_region 6 with (go_at_call 21;clear e3 l3;refine(VA.o w6 _ K u y A c V6.o F6.o).mono ?_;rintro e w7 ⟨rfl,k7⟩);have b4:=bZ (b3.o.keep k7.o (by simp));have V7:=bZ (V6.o.keep0 k7.o);have F7:=bZ (F6.o.keep0 k7.o);have e3:=b4.o.cell;have l3:=b4.o.lt;have O:=bZ q;clear q;go_upto_region 7 with (go_at_call 22;clear e3 l3;refine(CL.o w7 _ K u y A c V7.o F7.o).mono ?_;intro e w8 h8;obtain⟨h9,k8⟩:=h8;replace h9:=h9.resolve_left (fun h=>absurd h.2 (Nat.not_lt.2 O.o));obtain⟨cA,cc,rfl,a3,hR⟩:=h9);have V8:=bZ (V7.o.keep0 k8.o);generalize cs.length=m at*;have a2:=bZ ((((k1.o.trans k5.o).trans k6.o).trans k7.o).trans k8.o);go_wp2_with (first
  | (go_at_call 23;(with_reducible refine(S.o _ _ cA cc K _ (hR.o.keep0 ((ad.refl _ _).alloc _)) (V8.o.keep0 ((ad.refl _ _).alloc _)) (Blk.new w8 23 _).cell).mono ?_);clear S;rintro e w9 ⟨rfl,k9⟩;have Q:=bZ (((ad.refl [] w8).alloc (.cells #[I 1,I 0,.string ⟨#[]⟩] 23)).trans k9.o);have R9:=bZ (hR.o.keep0 Q.o);have V9:=bZ (V8.o.keep0 Q.o))
  | (go_at_call 23;(with_reducible refine(a0.o _ _ cA cc K _ (R9.o.keep0 ((ad.refl _ _).alloc _)) (V9.o.keep0 ((ad.refl _ _).alloc _)) (Blk.new w9 23 _).cell).mono ?_);rintro e a4 ⟨rfl,a1⟩))
 go_ret;exact⟨by first | rfl | (simp;done),bZ ((a2.o.trans Q.o).trans ((((ad.refl [] w9).alloc _).trans a1.o)))⟩
theorem zk {l:List Vb} {r:List Vl} (h:bU r l=true):∀(v:Nat) (x:Vb),l[v]? =some x->x.nl=false->((r[v]?).getD em).k≠0:=by
 intro v x e g;have a:=dZ h;obtain⟨u,d⟩:∃u,r[v]? =some u:=⟨_,CT (by rw[a];exact(CV.1 e).1)⟩;obtain⟨y,c,b⟩:=d7 h d;rw[e] at c;cases c;rw[d];show u.k≠0;intro f;unfold fj at b;rw[if_pos f,g] at b;simp at b
theorem rI (C:Nat->Prop) (e:E) (w:World) (tb nm:ByteArray) (A:Option Addr) (n c:Nat) (L:Option Addr) (nl cl:Nat) (l:List Vb) (B:Option Addr) (nr cr:Nat) (r:List Vl) (ac:e.rg) (hA:aY w C e A n) (ab:n<=c) (aa:c<=maxLen) (a0:nl=l.length) (X:nl<=cl/\cl<=maxLen) (hV:bR w L l) (b0:nr=r.length) (b2:nr<=cr/\cr<=maxLen) (hB:gI w B r) (ba:∀v∈r,v.s.size<=9223372036854775807):
 Calls Tryz.prog 3 #[exV e tb nm A n c,.slice L nl cl,.slice B nr cr] w (RoP w (.bool true)):=by
  have A5:=bZ (fun W=>yE W);have A6:=bZ (fun W (k:ad [] w W)=>tZ W L cl l nl a0 X (hV.keep0 k));have A7:Z (∀W,ad [] w W->Calls Tryz.prog 7 #[exV e tb nm A n c,.slice L nl cl,I 6] W (RoP W (.bool (ci l 6 e)))):=bZ (fun W k=>ku C L cl l nl a0 6 e W tb nm A n c (by decide) ac (hA.keep0 k) ab aa (hV.keep0 k));have A8:=bZ (fun W (k:ad [] w W)=>vT W B L cr cl r l nr nl b0 a0 b2 X ba (hB.keep0 k) (hV.keep0 k));have ak:Z (kP l=true->ci l 6 e=true->bU r l=true->(∀W,ad [] w W->Calls Tryz.prog 9 #[exV e tb nm A n c,.slice B nr cr] W (RoP W (I (cdE r e))))/\
   (∀W,ad [] w W->Calls Tryz.prog 10 #[exV e tb nm A n c,.slice L nl cl] W (FmP W (fun g=>W.heap.size<=g) (trE l e 0)))/\
   (∀W,ad [] w W->Calls Tryz.prog 11 #[exV e tb nm A n c,.slice L nl cl] W (FmP W (fun g=>W.heap.size<=g) (trE l e 1)))/\
   (∀W,ad [] w W->Calls Tryz.prog 12 #[exV e tb nm A n c,.slice L nl cl] W (FmP W (fun g=>W.heap.size<=g) (trE l e 2)))/\
   (∀W (D:Nat->Prop) tA tc A c,ad [] w W->bQ W D (trE l e 0).1 tA tc A c->Calls Tryz.prog 13 #[fmV (trE l e 0).1 tA tc A c,I (trE l e 0).2,.slice L nl cl,.slice B nr cr,.bool (cdE r e==1)] W (RoP W (.bool true)))/\
   (∀W (D:Nat->Prop) tA tc A c,ad [] w W->bQ W D (trE l e 1).1 tA tc A c->Calls Tryz.prog 13 #[fmV (trE l e 1).1 tA tc A c,I (trE l e 1).2,.slice L nl cl,.slice B nr cr,.bool (cdE r e==0)] W (RoP W (.bool true)))/\
   (∀W (D:Nat->Prop) tA tc A c,ad [] w W->bQ W D (trE l e 2).1 tA tc A c->Calls Tryz.prog 13 #[fmV (trE l e 2).1 tA tc A c,I (trE l e 2).2,.slice L nl cl,.slice B nr cr,.bool (cdE r e !=0)] W (RoP W (.bool true)))):=bZ (fun hd hc hi=>by
   have hr:=bD.of hd hi
   have hl:l.length<=10:=by unfold kP at hd;rw[Bool.and_eq_true,decide_eq_true_eq] at hd;exact hd.2
   have b9:∀(m:Int) (b:Bool),(0<=m/\m<=3)->nG m (cdE r e)=b->∀W (D:Nat->Prop) tA tc A c,ad [] w W->bQ W D (trE l e m).1 tA tc A c->Calls Tryz.prog 13 #[fmV (trE l e m).1 tA tc A c,I (trE l e m).2,.slice L nl cl,.slice B nr cr,.bool b] W (RoP W (.bool true)):=by
    intro m b hm hb W D tA tc A c k hF;obtain⟨h1,h2⟩:=kT hr hc hm (show trE l e m=((trE l e m).1,(trE l e m).2) from rfl);refine uJ D l r W _ tA A tc c _ L nl cl B nr cr b a0 X b0 hl hr (zk hi) ?_ hF (hV.keep0 k) (hB.keep0 k);rcases h1 with h1 | h1
    ·right;obtain⟨h3,h4⟩:=h2 h1;exact⟨h1,h3,jR (d:=6) hl e m hc,by rw[h4,hb]⟩
    exact .inl h1
   refine⟨fun W k=>eS C B cr r l nr b0 hr 6 e W tb nm A n c hc ac (hA.keep0 k) ab aa (hB.keep0 k),fun W k=>jN C r l L nl cl 6 e W tb nm A n c a0 hr hl X hc ac (hA.keep0 k) ab aa (hV.keep0 k),fun W k=>mN C r l L nl cl 6 e W tb nm A n c a0 hr hl X hc ac (hA.keep0 k) ab aa (hV.keep0 k),fun W k=>jO C r l L nl cl 6 e W tb nm A n c a0 hr hl X hc ac (hA.keep0 k) ab aa (hV.keep0 k),b9 0 _ (by decide) rfl,b9 1 _ (by decide) rfl,b9 2 _ (by decide) ?_⟩
   unfold nG
   rw[if_neg (by decide),if_neg (by decide),if_pos rfl]
   by_cases h:cdE r e=0
   ·rw[h];rfl
   ·rw[decide_eq_true h];exact(bne_iff_ne.2 h).symm)
  generalize kP l=dD at*;generalize ci l 6 e=dC at*;generalize bU r l=dI at*;generalize trE l e 0=p at*;generalize trE l e 1=q at*;generalize trE l e 2=s at*;generalize cdE r e=cd at*;clear ac hA ab aa a0 X hV b0 b2 hB ba;unfold exV at*;generalize e.op=xo at*;generalize e.ix=xi at*;generalize e.lit.k=xk at*;generalize e.lit.n=xn at*;generalize e.lit.s=xs at*;obtain⟨W1,a9⟩:∃W,W=w.alloc (.cells #[I xo,.string tb,.string nm,I xi,I xk,I xn,.string xs,.slice A n c] 26):=⟨_,rfl⟩;obtain⟨g1,ao⟩:∃g,g=w.heap.size:=⟨_,rfl⟩;have u:Z (ad [] w W1):=bZ (by rw[a9];exact(ad.refl [] w).alloc _);have y:Z (Blk W1 g1 26 #[I xo,.string tb,.string nm,I xi,I xk,I xn,.string xs,.slice A n c]):=bZ (by rw[a9,ao];exact Blk.new w 26 _);have O:=y.o.cell;have P:=y.o.lt;by_cases an:dD=true/\dC=true/\dI=true
  ·obtain⟨rfl,rfl,rfl⟩:=an;obtain⟨M9,a4,a5,a6,G0,G1,G2⟩:=ak.o rfl rfl rfl;replace M9:=bZ M9;replace a4:=bZ a4;replace a5:=bZ a5;replace a6:=bZ a6;replace G0:=bZ G0;replace G1:=bZ G1;replace G2:=bZ G2;clear ak;unfold FmP at a4 a5 a6;unfold fmV fmL amL at a4 a5 a6 G0 G1 G2;simp only[D3,Dm] at a4 a5 a6 G0 G1 G2;generalize p.1.kd=zp1 at*;generalize p.1.am.kd=zp2 at*;generalize p.1.am.v=zp3 at*;generalize p.1.am.o=zp4 at*;generalize p.1.am.t.con=zp5 at*;generalize p.1.am.t.pts.length=zp6 at*;generalize p.1.am.te.v=zp7 at*;generalize p.1.am.te.kd=zp8 at*;generalize p.1.am.te.ng=zp9 at*;generalize p.1.am.te.s=zp10 at*;generalize p.1.args.length=zp11 at*;generalize p.2=kp at*;generalize q.1.kd=zq1 at*;generalize q.1.am.kd=zq2 at*;generalize q.1.am.v=zq3 at*;generalize q.1.am.o=zq4 at*;generalize q.1.am.t.con=zq5 at*;generalize q.1.am.t.pts.length=zq6 at*;generalize q.1.am.te.v=zq7 at*;generalize q.1.am.te.kd=zq8 at*;generalize q.1.am.te.ng=zq9 at*;generalize q.1.am.te.s=zq10 at*;generalize q.1.args.length=zq11 at*;generalize q.2=kq at*;generalize s.1.kd=zs1 at*;generalize s.1.am.kd=zs2 at*;generalize s.1.am.v=zs3 at*;generalize s.1.am.o=zs4 at*;generalize s.1.am.t.con=zs5 at*;generalize s.1.am.t.pts.length=zs6 at*;generalize s.1.am.te.v=zs7 at*;generalize s.1.am.te.kd=zs8 at*;generalize s.1.am.te.ng=zs9 at*;generalize s.1.am.te.s=zs10 at*;generalize s.1.args.length=zs11 at*;generalize s.2=ks at*;go_enter Tryz.func3,Tryz.ntmps3;go_upto_region 1 with fail;rw[<-a9,<-ao];clear a9 ao;go_upto_region 3 with (first
    | (go_at_call 5;clear O P;refine(A5.o _).mono ?_;rintro e w5 ⟨rfl,f⟩;have z:=bZ (u.o.trans f.o);have J:=bZ (y.o.keep f.o (by simp));clear u y f;have u:=z;have y:=J;clear z J;have O:=y.o.cell;have P:=y.o.lt)
    | (go_at_call 6;clear O P;refine(A6.o _ u.o).mono ?_;rintro e w6 ⟨rfl,f⟩;have z:=bZ (u.o.trans f.o);have J:=bZ (y.o.keep f.o (by simp));clear u y f;have u:=z;have y:=J;clear z J;have O:=y.o.cell;have P:=y.o.lt)
    | (go_at_call 7;clear O P;refine(A7.o _ u.o).mono ?_;rintro e w7 ⟨rfl,f⟩;have z:=bZ (u.o.trans f.o);have J:=bZ (y.o.keep f.o (by simp));clear u y f;have u:=z;have y:=J;clear z J;have O:=y.o.cell;have P:=y.o.lt)
    | (go_at_call 8;clear O P;refine(A8.o _ u.o).mono ?_;rintro e w8 ⟨rfl,f⟩;have z:=bZ (u.o.trans f.o);have J:=bZ (y.o.keep f.o (by simp));clear u y f;have u:=z;have y:=J;clear z J;have O:=y.o.cell;have P:=y.o.lt))
   go_upto_region 4 with (go_at_call 9;clear O P;refine(M9.o _ u.o).mono ?_;rintro e w9 ⟨rfl,f⟩;have z:=bZ (u.o.trans f.o);have J:=bZ (y.o.keep f.o (by simp));clear u y f;have u:=z;have y:=J;clear z J;have O:=y.o.cell;have P:=y.o.lt);go_upto_region 5 with (go_at_call 10;clear O P;refine(a4.o _ u.o).mono ?_;intro e a1 h5;obtain⟨ap,au,Ap,cp,rfl,K,f⟩:=h5;skip;have z:=bZ (u.o.trans f.o);have J:=bZ (y.o.keep f.o (by simp));clear u y f;have u:=z;have y:=J;clear z J;have O:=y.o.cell;have P:=y.o.lt);obtain⟨b3,R⟩:∃W,W=a1.alloc (.cells #[I zp1,I zp2,I zp3,I zp4,I zp5,.slice ap zp6 au,I zp7,I zp8,.bool zp9,.string zp10,.slice Ap zp11 cp] 45):=⟨_,rfl⟩;obtain⟨bb,S⟩:∃g,g=a1.heap.size:=⟨_,rfl⟩;have f:Z (ad [] a1 b3):=bZ (by rw[R];exact(ad.refl [] a1).alloc _);have Q:Z (Blk b3 bb 45 #[I zp1,I zp2,I zp3,I zp4,I zp5,.slice ap zp6 au,I zp7,I zp8,.bool zp9,.string zp10,.slice Ap zp11 cp]):=bZ (by rw[R,S];exact Blk.new a1 45 _);have a:=bZ (K.o.keep0 f.o);clear K;have K:=a;clear a;rw[<-R,<-S];clear R S O P;have z:=bZ (u.o.trans f.o);have J:=bZ (y.o.keep f.o (by simp));clear u y f;have u:=z;have y:=J;clear z J;have O:=y.o.cell;have P:=y.o.lt;go_upto_region 6 with (go_at_call 11;clear O P;refine(a5.o _ u.o).mono ?_;intro e a2 h5;obtain⟨aq,av,Aq,cq,rfl,x,f⟩:=h5;have a:=bZ (Q.o.keep f.o (by simp));clear Q;have Q:=a;clear a;have a:=bZ (K.o.keep0 f.o);clear K;have K:=a;clear a;have z:=bZ (u.o.trans f.o);have J:=bZ (y.o.keep f.o (by simp));clear u y f;have u:=z;have y:=J;clear z J;have O:=y.o.cell;have P:=y.o.lt);obtain⟨b5,R⟩:∃W,W=a2.alloc (.cells #[I zq1,I zq2,I zq3,I zq4,I zq5,.slice aq zq6 av,I zq7,I zq8,.bool zq9,.string zq10,.slice Aq zq11 cq] 45):=⟨_,rfl⟩;obtain⟨bc,S⟩:∃g,g=a2.heap.size:=⟨_,rfl⟩;have f:Z (ad [] a2 b5):=bZ (by rw[R];exact(ad.refl [] a2).alloc _);have i:Z (Blk b5 bc 45 #[I zq1,I zq2,I zq3,I zq4,I zq5,.slice aq zq6 av,I zq7,I zq8,.bool zq9,.string zq10,.slice Aq zq11 cq]):=bZ (by rw[R,S];exact Blk.new a2 45 _);have a:=bZ (Q.o.keep f.o (by simp));clear Q;have Q:=a;clear a;have a:=bZ (K.o.keep0 f.o);clear K;have K:=a;clear a;have a:=bZ (x.o.keep0 f.o);clear x;have x:=a;clear a;rw[<-R,<-S];clear R S O P;have z:=bZ (u.o.trans f.o);have J:=bZ (y.o.keep f.o (by simp));clear u y f;have u:=z;have y:=J;clear z J;have O:=y.o.cell;have P:=y.o.lt;go_upto_region 7 with (go_at_call 12;clear O P;refine(a6.o _ u.o).mono ?_;intro e a3 h5;obtain⟨ar,ax,As,cs,rfl,H,f⟩:=h5;have a:=bZ (Q.o.keep f.o (by simp));clear Q;have Q:=a;clear a;have a:=bZ (K.o.keep0 f.o);clear K;have K:=a;clear a;have a:=bZ (i.o.keep f.o (by simp));clear i;have i:=a;clear a;have a:=bZ (x.o.keep0 f.o);clear x;have x:=a;clear a;have z:=bZ (u.o.trans f.o);have J:=bZ (y.o.keep f.o (by simp));clear u y f;have u:=z;have y:=J;clear z J;have O:=y.o.cell;have P:=y.o.lt);obtain⟨b7,R⟩:∃W,W=a3.alloc (.cells #[I zs1,I zs2,I zs3,I zs4,I zs5,.slice ar zs6 ax,I zs7,I zs8,.bool zs9,.string zs10,.slice As zs11 cs] 45):=⟨_,rfl⟩;obtain⟨bd,S⟩:∃g,g=a3.heap.size:=⟨_,rfl⟩;have f:Z (ad [] a3 b7):=bZ (by rw[R];exact(ad.refl [] a3).alloc _);have j:Z (Blk b7 bd 45 #[I zs1,I zs2,I zs3,I zs4,I zs5,.slice ar zs6 ax,I zs7,I zs8,.bool zs9,.string zs10,.slice As zs11 cs]):=bZ (by rw[R,S];exact Blk.new a3 45 _);have a:=bZ (Q.o.keep f.o (by simp));clear Q;have Q:=a;clear a;have a:=bZ (K.o.keep0 f.o);clear K;have K:=a;clear a;have a:=bZ (i.o.keep f.o (by simp));clear i;have i:=a;clear a;have a:=bZ (x.o.keep0 f.o);clear x;have x:=a;clear a;have a:=bZ (H.o.keep0 f.o);clear H;have H:=a;clear a;rw[<-R,<-S];clear R S O P;have z:=bZ (u.o.trans f.o);have J:=bZ (y.o.keep f.o (by simp));clear u y f;have u:=z;have y:=J;clear z J;have O:=y.o.cell;have P:=y.o.lt;have f0:=Q.o.cell;have Y:=Q.o.lt;have f1:=i.o.cell;have M:=i.o.lt;have f2:=j.o.cell;have N:=j.o.lt;clear O P;have bf:cd=0\/cd=1\/(cd≠0/\cd≠1):=by omega
   rcases bf with h | h | ⟨h,h'⟩
   ·have q1:(cd==1)=false:=by simp[h]
    have q0:(cd==0)=true:=by simp[h]
    have qn:(cd !=0)=false:=by simp[h]
    clear h;rw[q1] at G0;rw[q0] at G1;rw[qn] at G2;go_wp2_with (first
     | (go_at_call 13;(with_reducible refine(G0.o _ _ ap au Ap cp u.o K.o).mono ?_);clear G0;rintro e b4 ⟨rfl,f⟩;have z:=bZ (u.o.trans f.o);clear u;have u:=z;clear z;(try clear f0 Y f1 M f2 N);have a:=bZ (i.o.keep f.o (by simp));clear i;have i:=a;clear a;have a:=bZ (x.o.keep0 f.o);clear x;have x:=a;clear a;have a:=bZ (j.o.keep f.o (by simp));clear j;have j:=a;clear a;have a:=bZ (H.o.keep0 f.o);clear H;have H:=a;clear a;clear f;have f1:=i.o.cell;have M:=i.o.lt;have f2:=j.o.cell;have N:=j.o.lt)
     | (go_at_call 13;(with_reducible refine(G1.o _ _ aq av Aq cq u.o x.o).mono ?_);clear G1;rintro e b6 ⟨rfl,f⟩;have z:=bZ (u.o.trans f.o);clear u;have u:=z;clear z;(try clear f0 Y f1 M f2 N);have a:=bZ (i.o.keep f.o (by simp));clear i;have i:=a;clear a;have a:=bZ (x.o.keep0 f.o);clear x;have x:=a;clear a;have a:=bZ (j.o.keep f.o (by simp));clear j;have j:=a;clear a;have a:=bZ (H.o.keep0 f.o);clear H;have H:=a;clear a;clear f;have f1:=i.o.cell;have M:=i.o.lt;have f2:=j.o.cell;have N:=j.o.lt)
     | (go_at_call 13;(with_reducible refine(G2.o _ _ ar ax As cs u.o H.o).mono ?_);clear G2;rintro e b8 ⟨rfl,f⟩;have z:=bZ (u.o.trans f.o);clear u;have u:=z;clear z;(try clear f0 Y f1 M f2 N);have a:=bZ (i.o.keep f.o (by simp));clear i;have i:=a;clear a;have a:=bZ (x.o.keep0 f.o);clear x;have x:=a;clear a;have a:=bZ (j.o.keep f.o (by simp));clear j;have j:=a;clear a;have a:=bZ (H.o.keep0 f.o);clear H;have H:=a;clear a;clear f;have f1:=i.o.cell;have M:=i.o.lt;have f2:=j.o.cell;have N:=j.o.lt))
    go_ret;exact⟨by first | rfl | (simp;done),u⟩
   ·have q1:(cd==1)=true:=by simp[h]
    have q0:(cd==0)=false:=by simp[h]
    have qn:(cd !=0)=true:=by simp[h]
    clear h;rw[q1] at G0;rw[q0] at G1;rw[qn] at G2;go_wp2_with (first
     | (go_at_call 13;(with_reducible refine(G0.o _ _ ap au Ap cp u.o K.o).mono ?_);clear G0;rintro e b4 ⟨rfl,f⟩;have z:=bZ (u.o.trans f.o);clear u;have u:=z;clear z;(try clear f0 Y f1 M f2 N);have a:=bZ (i.o.keep f.o (by simp));clear i;have i:=a;clear a;have a:=bZ (x.o.keep0 f.o);clear x;have x:=a;clear a;have a:=bZ (j.o.keep f.o (by simp));clear j;have j:=a;clear a;have a:=bZ (H.o.keep0 f.o);clear H;have H:=a;clear a;clear f;have f1:=i.o.cell;have M:=i.o.lt;have f2:=j.o.cell;have N:=j.o.lt)
     | (go_at_call 13;(with_reducible refine(G1.o _ _ aq av Aq cq u.o x.o).mono ?_);clear G1;rintro e b6 ⟨rfl,f⟩;have z:=bZ (u.o.trans f.o);clear u;have u:=z;clear z;(try clear f0 Y f1 M f2 N);have a:=bZ (i.o.keep f.o (by simp));clear i;have i:=a;clear a;have a:=bZ (x.o.keep0 f.o);clear x;have x:=a;clear a;have a:=bZ (j.o.keep f.o (by simp));clear j;have j:=a;clear a;have a:=bZ (H.o.keep0 f.o);clear H;have H:=a;clear a;clear f;have f1:=i.o.cell;have M:=i.o.lt;have f2:=j.o.cell;have N:=j.o.lt)
     | (go_at_call 13;(with_reducible refine(G2.o _ _ ar ax As cs u.o H.o).mono ?_);clear G2;rintro e b8 ⟨rfl,f⟩;have z:=bZ (u.o.trans f.o);clear u;have u:=z;clear z;(try clear f0 Y f1 M f2 N);have a:=bZ (i.o.keep f.o (by simp));clear i;have i:=a;clear a;have a:=bZ (x.o.keep0 f.o);clear x;have x:=a;clear a;have a:=bZ (j.o.keep f.o (by simp));clear j;have j:=a;clear a;have a:=bZ (H.o.keep0 f.o);clear H;have H:=a;clear a;clear f;have f1:=i.o.cell;have M:=i.o.lt;have f2:=j.o.cell;have N:=j.o.lt))
    go_ret;exact⟨by first | rfl | (simp;done),u⟩
   have q1:(cd==1)=false:=by simp[h']
   have q0:(cd==0)=false:=by simp[h]
   have qn:(cd !=0)=true:=by simp[h]
   clear h h';rw[q1] at G0;rw[q0] at G1;rw[qn] at G2;go_wp2_with (first
    | (go_at_call 13;(with_reducible refine(G0.o _ _ ap au Ap cp u.o K.o).mono ?_);clear G0;rintro e b4 ⟨rfl,f⟩;have z:=bZ (u.o.trans f.o);clear u;have u:=z;clear z;(try clear f0 Y f1 M f2 N);have a:=bZ (i.o.keep f.o (by simp));clear i;have i:=a;clear a;have a:=bZ (x.o.keep0 f.o);clear x;have x:=a;clear a;have a:=bZ (j.o.keep f.o (by simp));clear j;have j:=a;clear a;have a:=bZ (H.o.keep0 f.o);clear H;have H:=a;clear a;clear f;have f1:=i.o.cell;have M:=i.o.lt;have f2:=j.o.cell;have N:=j.o.lt)
    | (go_at_call 13;(with_reducible refine(G1.o _ _ aq av Aq cq u.o x.o).mono ?_);clear G1;rintro e b6 ⟨rfl,f⟩;have z:=bZ (u.o.trans f.o);clear u;have u:=z;clear z;(try clear f0 Y f1 M f2 N);have a:=bZ (i.o.keep f.o (by simp));clear i;have i:=a;clear a;have a:=bZ (x.o.keep0 f.o);clear x;have x:=a;clear a;have a:=bZ (j.o.keep f.o (by simp));clear j;have j:=a;clear a;have a:=bZ (H.o.keep0 f.o);clear H;have H:=a;clear a;clear f;have f1:=i.o.cell;have M:=i.o.lt;have f2:=j.o.cell;have N:=j.o.lt)
    | (go_at_call 13;(with_reducible refine(G2.o _ _ ar ax As cs u.o H.o).mono ?_);clear G2;rintro e b8 ⟨rfl,f⟩;have z:=bZ (u.o.trans f.o);clear u;have u:=z;clear z;(try clear f0 Y f1 M f2 N);have a:=bZ (i.o.keep f.o (by simp));clear i;have i:=a;clear a;have a:=bZ (x.o.keep0 f.o);clear x;have x:=a;clear a;have a:=bZ (j.o.keep f.o (by simp));clear j;have j:=a;clear a;have a:=bZ (H.o.keep0 f.o);clear H;have H:=a;clear a;clear f;have f1:=i.o.cell;have M:=i.o.lt;have f2:=j.o.cell;have N:=j.o.lt))
   go_ret;exact⟨by first | rfl | (simp;done),u⟩
  clear ak;have bk:dD=false\/dD=true/\dC=false\/dD=true/\dC=true/\dI=false:=by
   cases dD
   ·exact .inl rfl
   cases dC
   ·exact .inr (.inl ⟨rfl,rfl⟩)
   cases dI
   ·exact .inr (.inr ⟨rfl,rfl,rfl⟩)
   exact absurd ⟨rfl,rfl,rfl⟩ an
  clear an;rcases bk with rfl | ⟨rfl,rfl⟩ | ⟨rfl,rfl,rfl⟩
  all_goals
   go_enter Tryz.func3,Tryz.ntmps3;go_upto_region 1 with fail;rw[<-a9,<-ao];clear a9 ao;go_wp2_with (first
    | (go_at_call 5;clear O P;refine(A5.o _).mono ?_;rintro e w5 ⟨rfl,f⟩;have z:=bZ (u.o.trans f.o);have J:=bZ (y.o.keep f.o (by simp));clear u y f;have u:=z;have y:=J;clear z J;have O:=y.o.cell;have P:=y.o.lt)
    | (go_at_call 6;clear O P;refine(A6.o _ u.o).mono ?_;rintro e w6 ⟨rfl,f⟩;have z:=bZ (u.o.trans f.o);have J:=bZ (y.o.keep f.o (by simp));clear u y f;have u:=z;have y:=J;clear z J;have O:=y.o.cell;have P:=y.o.lt)
    | (go_at_call 7;clear O P;refine(A7.o _ u.o).mono ?_;rintro e w7 ⟨rfl,f⟩;have z:=bZ (u.o.trans f.o);have J:=bZ (y.o.keep f.o (by simp));clear u y f;have u:=z;have y:=J;clear z J;have O:=y.o.cell;have P:=y.o.lt)
    | (go_at_call 8;clear O P;refine(A8.o _ u.o).mono ?_;rintro e w8 ⟨rfl,f⟩;have z:=bZ (u.o.trans f.o);have J:=bZ (y.o.keep f.o (by simp));clear u y f;have u:=z;have y:=J;clear z J;have O:=y.o.cell;have P:=y.o.lt))
   go_ret;exact⟨rfl,u⟩
section
open Go.RowKit Go.ChangeShapes Go.WideShapes Go.Deep
theorem pT:Tryz.prog.cellsOf 2=1:=by kernel_rfl
theorem kF:Tryz.prog.cellsOf 3=1:=by kernel_rfl
theorem yw:Tryz.prog.cellsOf 4=1:=by kernel_rfl
theorem pS:Tryz.prog.cellsOf 9=1:=by kernel_rfl
theorem mB:Tryz.prog.cellsOf 23=3:=by kernel_rfl
theorem wO:Tryz.prog.cellsOf 24=1:=by kernel_rfl
theorem re:Tryz.prog.cellsOf 26=8:=by kernel_rfl
theorem rb:Tryz.prog.cellsOf 67=5:=by kernel_rfl
theorem pf {α β:Type} {R:α->β->Prop}:∀ {l:List α},(∀a∈l,∃b,R a b)->∃k:List β,k.length=l.length/\∀(i:Nat) (b:β),k[i]? =some b->∃a,l[i]? =some a/\R a b
 | [],_=>⟨[],rfl,fun i b h=>by simp at h⟩
 | a::l,h=>by
   obtain⟨b,g⟩:=h a (by simp);obtain⟨k,e,f⟩:=pf (l:=l) (fun x j=>h x (by simp[j]));refine⟨b::k,by simp[e],fun i c d=>?_⟩;rcases i with _ | i
   ·simp at d;subst d;exact⟨a,rfl,g⟩
   exact f i c (by simpa using d)
section
variable {H:Type} {enc:TypeId×Value->H} {w:World} {base:Nat} {spare:Nat->Bool} {held:Bool} {P:Program}
theorem iu {t:TypeId} {fs:Array Field} {a k:Nat} {cs:List Value} {x:DataW H×List MemPlace} (o:P.underlying t=some (.struct fs)) (h:DataW.trod enc P w base spare held a t cs=some x) (i:Nat) {f:Field} (d:fs[i]? =some f) (e:P.cellsOf f.type=k) {cs':List Value} (g:(cs.drop f.offset).take k=cs'):
 ∃n y,n<a/\DataW.trod enc P w base spare held n f.type cs'=some y:=by
  obtain⟨xs,n,l,_,_,m,j⟩:=DataW.trod_struct o h;have c:=j i f d;have b:i<xs.length:=by rw[m];exact(Dy.1 d).1
  rw[e,g,CT b] at c;exact⟨n,_,by omega,c⟩
theorem pC {t:TypeId} {fs:Array Field} {a k:Nat} {cs:List Value} {x:DataW H×List MemPlace} (d:P.underlying t=some (.struct fs)) (b:P.cellsOf t=k) (h:DataW.trod enc P w base spare held a t cs=some x):cs.length=k:=by
 obtain⟨xs,n,_,_,c,_⟩:=DataW.trod_struct d h;rw[c,b]
theorem dG {t:TypeId} {a:Nat} {c:Value} {x:DataW H×List MemPlace} (e:P.underlying t=some (.int .i64)) (h:DataW.trod enc P w base spare held a t [c]=some x):∃n:Int,c=I n/\ -9223372036854775808<=n/\n<9223372036854775808:=by
 obtain⟨n,b,_,d⟩:=DataW.trod_int e h;injection b with b _;simp[Lit.wf,IntKind.min,IntKind.max,IntKind.signed,IntKind.bits] at d;exact⟨n,b,by omega,by omega⟩
theorem tW {R e:TypeId} {k p:Nat} {v:Value} {x:DataW H×List MemPlace} (C:P.underlying R=some (.slice e)) (hk:P.cellsOf e=k) (K:0<k) (h:DataW.trod enc P w base spare held p R [v]=some x) (Q:List Value->Prop)
 (X:∀n cs y,n<p->DataW.trod enc P w base spare held n e cs=some y->Q cs):
 ∃A c m,v=.slice A (List.length m) c/\List.length m<=c/\c<=maxLen/\(∀cs∈m,cs.length=k/\Q cs)/\∀(i:Nat) cs,m[i]? =some cs->∃g l,A=some (U g l)/\g<w.heap.size/\∀j u,cs[j]? =some u->w.cell? (U g (l+i*k+j))=some u:=by
  rcases DataW.trod_slice C h with ⟨d,_⟩ | ⟨a,len,D,J,rest,n,Y,d,_,_,hl,hm,O,hi,_,_⟩
  ·injection d with d _;subst d;exact⟨none,0,[],rfl,C9 _,by simp[maxLen],fun _ h=>(by cases h),fun i cs h=>by simp at h⟩
  injection d with d _;subst d;have L:∀i,i<len->∃cs:List Value,cs.length=k/\Q cs/\∀j,j<k->w.cell? ((a.add (i*k)).add j)=cs[j]?:=by
   intro i b;have N:=hi i b;rw[CT (by omega)] at N;obtain⟨cs',r,ht⟩:=Option.bind_eq_some_iff.1 N;rw[hk] at r;obtain⟨h1,W,o⟩:=World.cells?_some r;exact⟨cs',W,X _ _ _ (by omega) ht,o⟩
  obtain⟨f,s⟩:=choose_lt L;have M:∀i cs,((List.range len).map f)[i]? =some cs->i<len/\cs=f i:=fun i cs q=>by
   have b:i<len:=by
    have:=(CV.1 q).1;simpa using this
   rw[De,List.getElem?_range b] at q;exact⟨b,by simpa using q.symm⟩
  have t:∀cs∈(List.range len).map f,cs.length=k/\Q cs:=fun cs d=>by
   obtain⟨i,q⟩:=DQ d;obtain⟨b,rfl⟩:=M i cs q;exact⟨(s i b).1,(s i b).2.1⟩
  refine⟨some a,D,(List.range len).map f,by simp,by simpa using hl,hm,t,fun i cs q=>?_⟩;obtain⟨b,rfl⟩:=M i cs q;have z:a.spot=none:=by
   obtain⟨e0,_,S⟩:=s 0 (by omega);have B:=S 0 (by omega);rw[CT (by omega)] at B;have:=World.cell?_spot B;simpa [Addr.add] using this
  obtain⟨g,l,sp⟩:=a;dsimp only at z;subst z;have o:∀j u,(f i)[j]? =some u->w.cell? (U g (l+i*k+j))=some u:=fun j u C=>by
   have hj:j<k:=by have:=(CV.1 C).1;rw[(s i b).1] at this;exact this
   have r:=(s i b).2.2 j hj;rw[C] at r;simp only[add_plain] at r;exact r
  refine⟨g,l,rfl,?_,o⟩;have B:(f i)[0]? =some ((f i)[0]'(by rw[(s i b).1];exact K)):=CT _;exact block_lt_of_cell (o 0 _ B)
end
section
variable {H:Type} {enc:TypeId×Value->H} {w:World} {base:Nat} {spare:Nat->Bool} {held:Bool}
theorem tw {n:Nat} (h:n<=maxLen):n<=9223372036854775807:=by unfold maxLen at h;omega
theorem qC {a:Nat} {cs:List Value} {x:DataW H×List MemPlace} (h:DataW.trod enc Tryz.prog w base spare held a 23 cs=some x):∃v:Vl,cs=[I v.k,I v.n,.string v.s]/\v.rg:=by
 have f:=pC Tryz.underlying23 mB h
 match cs,f with
 | [c0,c1,c2],_=>
  obtain⟨_,_,_,c⟩:=iu Tryz.underlying23 h 0 rfl kF (cs':=[c0]) rfl;obtain⟨_,_,_,d⟩:=iu Tryz.underlying23 h 1 rfl pT (cs':=[c1]) rfl;obtain⟨_,_,_,e⟩:=iu Tryz.underlying23 h 2 rfl pS (cs':=[c2]) rfl;obtain⟨k,rfl,_⟩:=dG Tryz.underlying3 c;obtain⟨n,rfl,g⟩:=dG Tryz.underlying2 d;obtain⟨s,b,_,i⟩:=DataW.trod_string Tryz.underlying9 e;injection b with b _;subst b;exact⟨⟨k,n,s⟩,rfl,g,tw i⟩
def XIn (w:World) (cs:List Value):Prop:=∃(e:E) (b a:ByteArray) (A:Option Addr) (n c:Nat),cs=xc e.op e.ix e.lit b a A n c/\e.rg/\aY w (fun _=>True) e A n/\n<=c/\c<=maxLen
theorem vt:∀(f:Nat) {cs:List Value} {x:DataW H×List MemPlace},DataW.trod enc Tryz.prog w base spare held f 26 cs=some x->XIn w cs:=by
 intro f
 induction f using Nat.strongRecOn with
 | _ f ih=>
 intro cs x h;have hl:=pC Tryz.underlying26 re h
 match cs,hl with
 | [c0,c1,c2,c3,c4,c5,c6,c7],_=>
  obtain⟨_,_,_,f0⟩:=iu Tryz.underlying26 h 0 rfl kF (cs':=[c0]) rfl;obtain⟨_,_,_,f1⟩:=iu Tryz.underlying26 h 1 rfl pS (cs':=[c1]) rfl;obtain⟨_,_,_,f2⟩:=iu Tryz.underlying26 h 2 rfl pS (cs':=[c2]) rfl;obtain⟨_,_,_,f3⟩:=iu Tryz.underlying26 h 3 rfl kF (cs':=[c3]) rfl;obtain⟨_,_,_,f4⟩:=iu Tryz.underlying26 h 4 rfl mB (cs':=[c4,c5,c6]) rfl;obtain⟨m5,_,a2,f5⟩:=iu Tryz.underlying26 h 5 rfl wO (cs':=[c7]) rfl;obtain⟨o,rfl,_⟩:=dG Tryz.underlying3 f0;obtain⟨N,P,_⟩:=DataW.trod_string Tryz.underlying9 f1;obtain⟨M,Q,_⟩:=DataW.trod_string Tryz.underlying9 f2;obtain⟨i,rfl,_⟩:=dG Tryz.underlying3 f3;obtain⟨v,R,L⟩:=qC f4;injection P with P _;injection Q with Q _;subst P Q;injection R with R e5;injection e5 with e5 e6;injection e6 with e6 _;subst R e5 e6;obtain⟨A,c,O,rfl,k,K,q,s⟩:=tW Tryz.underlying24 re (by decide) f5 (XIn w) (fun n cs y hn hy=>ih n (by omega) hy)
  match O,k,q,s with
  | [],k,q,s=>exact⟨.z o i v,N,M,A,0,c,rfl,L,⟨rfl,trivial⟩,k,K⟩
  | [a],k,q,s=>
   obtain⟨_,x,p,l,B,m,d,rfl,Y,q2,q3,q4⟩:=q a (by simp);obtain⟨g,C,rfl,_,t⟩:=s 0 _ rfl;exact⟨.a o i v x,N,M,_,1,c,rfl,⟨L,Y⟩,⟨rfl,p,l,B,m,d,⟨fun a S=>by cases S;rfl,dl.mk_ trivial (fun j u D=>by have:=t j u D;simpa using this)⟩,q3,q4,q2⟩,k,K⟩
  | [a,b],k,q,s=>
   obtain⟨_,x,p,l,B,m,d,rfl,Y,q2,q3,q4⟩:=q a (by simp);obtain⟨_,y,a0,X,B2,m2,d2,rfl,p1,p2,p3,p4⟩:=q b (by simp);obtain⟨g,C,rfl,_,t⟩:=s 0 _ rfl;obtain⟨g',a1,hA,_,J⟩:=s 1 _ rfl;cases hA;refine⟨.b o i v x y,N,M,_,2,c,rfl,⟨L,Y,p1⟩,⟨rfl,p,l,B,m,d,a0,X,B2,m2,d2,⟨fun a S=>by cases S;rfl,dl.mk_ trivial (fun j u D=>?_)⟩,q3,q4,q2,p3,p4,p2⟩,k,K⟩;by_cases W:j<8
   ·rw[DC (by simpa [xc] using W)] at D;have:=t j u D;simpa using this
   rw[Dv (by simp[xc];omega)] at D;have:=J _ u D;have e:C+1*8+(j - (xc x.op x.ix x.lit p l B m d).length)=C+j:=by simp[xc];omega
   rw[e] at this;exact this
  | a::b::d::r,k,q,s=>exact⟨.many o i v,N,M,A,_,c,rfl,L,(by simp:3<=(a::b::d::r).length),k,K⟩
theorem vo {i:Nat} {v:Value} {x:DataW H×List MemPlace} (h:DataW.trod enc Tryz.prog w base spare held i 27 [v]=some x):∃L c l,v=.slice L (List.length l) c/\List.length l<=c/\c<=maxLen/\bR w L l:=by
 obtain⟨A,c,r,rfl,P,C,D,J⟩:=tW Tryz.underlying27 rb (by decide) h (fun cs=>∃x:Vb,cs=[I x.ty,I x.low,I x.high,I x.max,.bool x.nl]) (fun n cs y _ hy=>by
  have o:=pC Tryz.underlying67 rb hy
  match cs,o with
  | [c0,c1,c2,c3,c4],_=>
   obtain⟨_,_,_,s⟩:=iu Tryz.underlying67 hy 0 rfl kF (cs':=[c0]) rfl;obtain⟨_,_,_,t⟩:=iu Tryz.underlying67 hy 1 rfl pT (cs':=[c1]) rfl;obtain⟨_,_,_,u⟩:=iu Tryz.underlying67 hy 2 rfl pT (cs':=[c2]) rfl;obtain⟨_,_,_,z⟩:=iu Tryz.underlying67 hy 3 rfl kF (cs':=[c3]) rfl;obtain⟨_,_,_,B⟩:=iu Tryz.underlying67 hy 4 rfl yw (cs':=[c4]) rfl;obtain⟨a,rfl,_⟩:=dG Tryz.underlying3 s;obtain⟨b,rfl,_⟩:=dG Tryz.underlying2 t;obtain⟨d,rfl,_⟩:=dG Tryz.underlying2 u;obtain⟨e,rfl,_⟩:=dG Tryz.underlying3 z;obtain⟨q,k,_⟩:=DataW.trod_bool Tryz.underlying4 B;injection k with k _;subst k;exact⟨⟨a,b,d,e,q⟩,rfl⟩)
 obtain⟨l,o,N⟩:=pf (R:=fun cs (x:Vb)=>cs=[I x.ty,I x.low,I x.high,I x.max,.bool x.nl]) (fun cs M=>(D cs M).2);refine⟨A,c,l,by rw[o],by omega,C,fun j x O=>?_⟩;obtain⟨cs,m,rfl⟩:=N j x O;obtain⟨g,p,K,_,f⟩:=J j _ m;exact⟨g,p,K,f 0 _ rfl,f 1 _ rfl,f 2 _ rfl,f 3 _ rfl,f 4 _ rfl⟩
theorem vq {b:Nat} {v:Value} {x:DataW H×List MemPlace} (h:DataW.trod enc Tryz.prog w base spare held b 29 [v]=some x):∃L c r,v=.slice L (List.length r) c/\List.length r<=c/\c<=maxLen/\gI w L r/\∀v∈r,v.s.size<=9223372036854775807:=by
 obtain⟨A,c,o,rfl,J,p,q,t⟩:=tW Tryz.underlying29 mB (by decide) h (fun cs=>∃v:Vl,cs=[I v.k,I v.n,.string v.s]/\v.rg) (fun n cs y _ hy=>qC hy);obtain⟨l,D,m⟩:=pf (R:=fun cs (v:Vl)=>cs=[I v.k,I v.n,.string v.s]/\v.rg) (fun cs z=>(q cs z).2);refine⟨A,c,l,by rw[D],by omega,p,fun j x e=>?_,fun x e=>?_⟩
 ·obtain⟨cs,d,rfl,_⟩:=m j x e;obtain⟨g,f,u,_,a⟩:=t j _ d;exact⟨g,f,u,a 0 _ rfl,a 1 _ rfl,a 2 _ rfl⟩
 obtain⟨i,C⟩:=DQ e;obtain⟨cs,d,_,B⟩:=m i x C;exact B.2
end
end
namespace topLogicHolds
section
open Go.ChangeShapes Go.WideShapes Go.ChangeAt Go.RowKit
open Go.ChangeMaps (open_string shut_string)
theorem own:ownKnob Tryz.prog.godebug=none:=by kernel_rfl
theorem laidOut:laidOutB Tryz.prog=true:=by kernel_rfl
theorem lifted (os:Os) (d:os.Started) (H:Type) (enc:TypeId×Value->H):
 ReturnsInHanded {} Tryz.checked os 3 .any (Rows.topLogicSpec.pre6 enc Tryz.prog Tryz.f3 Rows.topLogicRow.domain false) (Rows.topLogicSpec.post enc Tryz.prog Tryz.f3 false true false false):=by
  refine returnsInHanded_of_change (C:=Tryz.checked) own d (by kernel_rfl) Tryz.func3
   (ChangeSpec.witness6 (enc:=enc) (C:=Tryz.checked) false ⟨#[],#[.agg #[I 0,.string ⟨#[]⟩,.string ⟨#[]⟩,I 0,I 0,I 0,.string ⟨#[]⟩,.slice none 0 0],.slice none 0 0,.slice none 0 0],[]⟩ 8 (by kernel_rfl) (by kernel_rfl) (by kernel_rfl) (by kernel_rfl)) ?_
  intro W i args ds gs z b hW a3 _;have a:∀(j:Nat) t v,Tryz.f3.params[j]? =some t->args[j]? =some v->Value.okWide Tryz.prog W .any i t v:=b;have L:=hW;obtain⟨p,q,u,hV,rfl,ap,aq⟩:=hW;have hA:DataW.TrodAll enc Tryz.prog W 0 (fun _=>true) true Tryz.f3.params.toList args.toList ds p:=u;rw[Tryz.params3] at hA a;obtain⟨v0,au,d0,ac,p0,q0,M,rfl,rfl,h0,r0⟩:=trodAll_cons hA;obtain⟨v1,av,d1,ak,p1,q1,rfl,rfl,rfl,h1,r1⟩:=trodAll_cons r0;obtain⟨v2,ax,d2,am,p2,q2,rfl,rfl,rfl,h2,r2⟩:=trodAll_cons r1;obtain⟨rfl,rfl,rfl⟩:=trodAll_nil r2;obtain rfl:args=#[v0,v1,v2]:=by cases args;simp_all
  obtain⟨rfl,rfl⟩:=trodVars_none hV;have k0:=h0;have a0:∀x∈p0,x.block<W.heap.size:=by obtain⟨m,w⟩:=k0;exact DataW.trod_lt m _ _ _ w
  have k1:=h1;have a1:∀x∈p1,x.block<W.heap.size:=by obtain⟨m,w⟩:=k1;exact DataW.trod_lt m _ _ _ w
  have k2:=h2;have a2:∀x∈p2,x.block<W.heap.size:=by obtain⟨m,w⟩:=k2;exact DataW.trod_lt m _ _ _ w
  obtain⟨J,P⟩:=h0;obtain⟨e,tb,nm,A,n,c,O,X,K,S,N⟩:=vt J P;have g:=a 0 26 v0 rfl rfl;unfold Value.okWide at g;rw[Tryz.underlying26] at g;obtain⟨ar,y,_,_⟩:=g;subst y;obtain rfl:ar=#[I e.op,.string tb,.string nm,I e.ix,I e.lit.k,I e.lit.n,.string e.lit.s,.slice A n c]:=Array.ext' (by simpa [Value.cells,xc] using O);obtain⟨an,Q⟩:=h1;obtain⟨aa,a6,a4,rfl⟩:=okWide_slice Tryz.underlying27 (a 1 27 v1 rfl rfl);obtain⟨B,cB,l,eT,t1,t2,t3⟩:=vo (by simpa [Value.cells] using Q);simp only[EO] at eT;obtain⟨rfl,rfl,rfl⟩:=eT;obtain⟨ao,R⟩:=h2;obtain⟨ab,a9,a5,rfl⟩:=okWide_slice Tryz.underlying29 (a 2 29 v2 rfl rfl);obtain⟨D,cD,r,eU,s1,s2,s3,s4⟩:=vq (by simpa [Value.cells] using R);simp only[EO] at eU;obtain⟨rfl,rfl,rfl⟩:=eU;clear u b;refine(rI (fun _=>True) e W tb nm A n c _ _ _ l _ _ _ r X K S N rfl ⟨t1,t2⟩ t3 rfl ⟨s1,s2⟩ s3 s4).mono fun ee W' hh=>?_;obtain⟨he,Y⟩:=hh;have kk:=Y.o;have f:=kk.below;subst he;exact⟨_,rfl,_,_,_,[],_,[],L,trodAll_mk1 (shut_bool Tryz.underlying4 _),(trodAll_cons_mk (Below.trod laidOut (by kernel_rfl) (of_decide_eq_true (by kernel_rfl)) k0 f a0) (trodAll_cons_mk (Below.trod laidOut (by kernel_rfl) (of_decide_eq_true (by kernel_rfl)) k1 f a1) (trodAll_cons_mk (Below.trod laidOut (by kernel_rfl) (of_decide_eq_true (by kernel_rfl)) k2 f a2) trodAll_mk0))),rfl,f.frame _,fun h=>by cases h⟩
theorem over:Rows.topLogicRow.holds Tryz.pinned (OpenSpec.ofChange Rows.topLogicSpec):=
 OpenClaim.holds_of_wide 3 Tryz.f3 rfl rfl rfl rfl rfl rfl rfl ⟨rfl,rfl,rfl,rfl,rfl⟩ rfl rfl rfl rfl rfl (by kernel_rfl) Tryz.func3 (by kernel_rfl)
  (of_decide_eq_true (by kernel_rfl)) (by unfold Func.isWrapper;first | (rw[if_pos (by decide+kernel)];kernel_rfl) | (rw[if_neg (by decide+kernel)];exact⟨rfl,rfl⟩))
  (fun b a H enc _=>lifted b a H enc)
theorem proved:Rows.TopLogicSaid:=over
#print axioms proved
end
end topLogicHolds
end Go.Proofs.YtldmkbhgdbafhaaGreat
