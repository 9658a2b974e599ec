import Derived.Test.YtldmkbhgdbafhaaGreatL14
namespace Go.Proofs.YtldmkbhgdbafhaaGreat
open Go.RowKit
set_option linter.unusedSimpArgs false
set_option linter.unusedVariables false
set_option maxRecDepth 100000
set_option maxHeartbeats 64000000
theorem nj {P:Program} {f:FuncId} {args:Array Value} {w:World} {q n:Nat} {v:Value}
 (h:Calls P f args (w.drewN (q+n)) fun e c=>e=.returned v/\w.drewN (q+n)=c):Calls P f args (w.drewN (q+n)) fun e w''=>e=.returned v/\∃m,w''=w.drewN (q+m):=
 h.mono fun _ _ ⟨a,b⟩=>⟨a,n,b.symm⟩
theorem ur (C D:Nat->Prop):∀(a b:T) (w:World) (A:Option Addr) (c:Nat) (B:Option Addr) (d:Nat),a.ok->b.ok->a.pts.length<=1000000->b.pts.length<=1000000->a.wd<=1000000->b.wd<=1000000->TAt w C A a->TAt w D B b->
 Calls Tryz.prog 200 #[tmV a A c,tmV b B d] w (fa w (a.cmp b)):=by
  refine T.ind (fun a ih=>?_);intro b w A c B d X Y au av a2 a3 hA hB;obtain⟨n,hn⟩:∃n,n=a.pts.length:=⟨_,rfl⟩;obtain⟨m,hm⟩:∃m,m=b.pts.length:=⟨_,rfl⟩;obtain⟨k,hk⟩:∃k,k=a.con:=⟨_,rfl⟩;obtain⟨l,hl⟩:∃l,l=b.con:=⟨_,rfl⟩;obtain⟨r,hr⟩:∃r,r=a.cmp b:=⟨_,rfl⟩;have b8:Z (T.cmp (a.dr 0) (b.dr 0)=r):=bZ (by rw[T.dr0,T.dr0,hr]);rw[<-hr];rw[T.ok_iff] at X Y;rw[T.wd_iff] at a2 a3;unfold tmV fa;rw[<-hn,<-hm,<-hk,<-hl];have b2:=bZ hn;have b0:=bZ hm;have a6:Z (∀j,j=min n m->T.cmp (a.dr j) (b.dr j)=r->orI (ai (n:Int) (m:Int)) (ai k l)=r):=bZ (fun j hj h=>by
   rw[<-h,T.cmp_end (by rw[<-hn,<-hm];exact hj),hn,hm,hk,hl])
  rw[<-hn] at au;rw[<-hm] at av;replace X:=bZ X;replace Y:=bZ Y;replace a2:=bZ a2.2;replace a3:=bZ a3.2;replace hA:=bZ hA;replace hB:=bZ hB;replace ih:=bZ ih;have H1:=bZ (fun W a b=>jW W a b);clear hr hn hm hk hl;obtain⟨W0,P⟩:∃W0,W0=(w.alloc (.cells #[I k,.slice A n c] 38)).alloc (.cells #[I l,.slice B m d] 38):=⟨_,rfl⟩;have k0:ad [] w W0:=by rw[P];exact((ad.refl [] w).alloc _).alloc _
  have ba:Blk W0 w.heap.size 38 #[I k,.slice A n c]:=by rw[P];exact(Blk.new w 38 _).alloc _
  have bb:Blk W0 (w.heap.size+1) 38 #[I l,.slice B m d]:=by
   rw[P];have:=Blk.new (w.alloc (.cells #[I k,.slice A n c] 38)) 38 #[I l,.slice B m d];simpa using this
  replace k0:=bZ k0;go_enter Tryz.func200,Tryz.ntmps200;go_wp2_with fail;rw[<-P];obtain⟨ga,ak⟩:∃g,g=w.heap.size:=⟨_,rfl⟩;obtain⟨gb,am⟩:∃g,g=w.heap.size+1:=⟨_,rfl⟩;rw[<-am] at bb ⊢;rw[<-ak] at ba ⊢;clear P ak am;replace ba:=bZ ba;replace bb:=bZ bb;go_loopw [5] (fun i wr=>∃j:Nat,j<=n/\j<=m/\i=I j/\Z (T.cmp (a.dr j) (b.dr j)=r)/\Z (ad [] W0 wr)) (fun i _=>n - (intOf i).toNat)
  case atStart=>exact⟨0,C3 _,C3 _,rfl,b8,bZ (ad.refl _ _)⟩
  obtain⟨j,hj,bq,rfl,H,E⟩:=hrel;obtain⟨L,bc⟩:∃x,x=wr:=⟨_,rfl⟩;subst bc;have xa:=ba.o.keep E.o (by simp);have xb:=bb.o.keep E.o (by simp);by_cases bt:j<n
  ·by_cases bn:j<m
   ·obtain⟨p,hp⟩:=aI (l:=a.pts) (j:=j) (by rw[<-b2.o];omega);obtain⟨q,hq⟩:=aI (l:=b.pts) (j:=j) (by rw[<-b0.o];omega);obtain⟨g,z,oA,on,oc,rfl,hC,hg,c0,c1,c2,c3,c4,b4,b5,aq⟩:=(hA.o.keep0 (k0.o.trans E.o)).get hp;obtain⟨N,f,oB,a5,a4,rfl,hD,bp,e0,e1,e2,e3,e4,ao,ap,a9⟩:=(hB.o.keep0 (k0.o.trans E.o)).get hq;have O:=CW hp;have a0:=CW hq;have bs:(j:Int)<(n:Int):=by omega
    have br:(j:Int)<(m:Int):=by omega
    have wj:IntKind.i64.wrap ((j:Int)+1)=(j:Int)+1:=C0 _ (by omega);have a1:L.cell? (U ga 1)=G (some (U g z)) n c:=xa.cell 1;have b1:L.cell? (U gb 1)=G (some (U N f)) m d:=xb.cell 1;have F:Z (T.cmp (a.dr j) (b.dr j)=orI (orI (kc p q) (ai p.n q.n)) (T.cmp (a.dr (j+1)) (b.dr (j+1)))):=bZ (T.cmp_step hp hq);have CP:Z (∀W,ad [] L W->Calls Tryz.prog 158 #[.agg (ptV p oA on oc).toArray,.agg (ptV q oB a5 a4).toArray] W (fa W (kc p q))):=bZ (fun W hW=>
     mf C D p q W oA oB on oc a5 a4 (X.o p O).2 (Y.o q a0).2 (aq.keep hW (by simp)) (a9.keep hW (by simp)) (fun h2 bo W2 A2 c2 A3 c3 hk hT ar=>by
      have b6:p.of.ok:=by rcases(X.o p O).2 with h | h;rw[h.2.2.2];trivial;exact h.2.2.2.2.2.1
      have b7:q.of.ok:=by rcases(Y.o q a0).2 with h | h;rw[h.2.2.2];trivial;exact h.2.2.2.2.2.1
      exact ih.o p O q.of W2 A2 c2 A3 c3 b6 b7 (aA (a2.o p O)) (aA (a3.o q a0)) (a2.o p O) (a3.o q a0) hT ar))
    unfold ptV fa at CP;have ac:Z (∀W',ad [] L W'->(fun u:World=>(u.cell? (U ga 1)=G (some (U g z)) n c/\u.cell? (U gb 1)=G (some (U N f)) m d)/\(u.cell? (U g (z+j*5))=some (I p.n)/\u.cell? (U g (z+j*5+1))=some (I p.kd)/\u.cell? (U g (z+j*5+2))=some (I p.v)/\u.cell? (U g (z+j*5+3))=some (I p.b)/\u.cell? (U g (z+j*5+4))=G oA on oc)/\u.cell? (U N (f+j*5))=some (I q.n)/\u.cell? (U N (f+j*5+1))=some (I q.kd)/\u.cell? (U N (f+j*5+2))=some (I q.v)/\u.cell? (U N (f+j*5+3))=some (I q.b)/\u.cell? (U N (f+j*5+4))=G oB a5 a4) W'):=bZ (fun W' h=>⟨⟨h.cellEq a1 (by simp),h.cellEq b1 (by simp)⟩,⟨h.cellEq c0 (by simp),h.cellEq c1 (by simp),h.cellEq c2 (by simp),h.cellEq c3 (by simp),h.cellEq c4 (by simp)⟩,h.cellEq e0 (by simp),h.cellEq e1 (by simp),h.cellEq e2 (by simp),h.cellEq e3 (by simp),h.cellEq e4 (by simp)⟩);obtain⟨s,hs⟩:∃s,s=kc p q:=⟨_,rfl⟩;rw[<-hs] at CP F;have aa:=bZ (CP.o _ (ad.refl [] L).drew);clear hp hq O a0 aq a9 b4 b5 ao ap xa xb hC hD hs CP;go_wp2_with fail;clear a1 b1 c0 c1 c2 c3 c4 e0 e1 e2 e3 e4;refine ae (S:=(fun u=>(u.cell? (U ga 1)=G (some (U g z)) n c/\u.cell? (U gb 1)=G (some (U N f)) m d)/\(u.cell? (U g (z+j*5))=some (I p.n)/\u.cell? (U g (z+j*5+1))=some (I p.kd)/\u.cell? (U g (z+j*5+2))=some (I p.v)/\u.cell? (U g (z+j*5+3))=some (I p.b)/\u.cell? (U g (z+j*5+4))=G oA on oc)/\u.cell? (U N (f+j*5))=some (I q.n)/\u.cell? (U N (f+j*5+1))=some (I q.kd)/\u.cell? (U N (f+j*5+2))=some (I q.v)/\u.cell? (U N (f+j*5+3))=some (I q.b)/\u.cell? (U N (f+j*5+4))=G oB a5 a4)) (n:=10) (by kernel_rfl) ?_;have HS:=ac.o L.drew (ad.refl [] L).drew
    try dsimp only at HS
    refine ord [0,1,2,3,4,5,6,7,8,9] ?_
    iterate 10 (refine tq HS ?_;try simp only[PT,Y1,Y2,Y3])
    refine aB ?_;refine J1 10 fun K hK=>?_;dsimp only[Y1,Y2,Y3];go_simp;refine aa.o.mono ?_;rintro e w5 ⟨rfl,k5⟩;replace k5:=bZ ((ad.refl [] L).drew.trans k5.o);refine hK _ _ (.inl (by omega)) ?_;clear hK K
    try simp only[PT,Y1,Y2,Y3]
    refine JQ 11 ?_
    try simp only[PT,Y1,Y2,Y3]
    refine JD ?_;clear HS aa;have ab:=ac.o w5 k5.o
    try dsimp only at ab
    obtain⟨⟨a1,b1⟩,⟨c0,c1,c2,c3,c4⟩,e0,e1,e2,e3,e4⟩:=ab;by_cases hs:s=0
    ·have b9:(s !=0)=false:=by simp[hs]
     replace hs:=bZ hs;by_cases J:p.n=q.n
     ·have R:(p.n !=q.n)=false:=by simp[J]
      have b3:Z (T.cmp (a.dr (j+1)) (b.dr (j+1))=r):=bZ (by rw[<-H.o,F.o,hs.o,J,aT.2 rfl];simp[orI]);replace J:=bZ J;go_wp2_with fail;go_quiet (fail);go_wp2_with fail;go_roundw
      case rel=>exact⟨j+1,by omega,by omega,by go_num,b3,bZ (E.o.trans (k5.o.drewN _))⟩
      case measure=>simp[intOf];omega
     have R:(p.n !=q.n)=true:=by rw[bne_iff_ne];exact J
     have y:Z (ai p.n q.n=r):=bZ (by rw[<-H.o,F.o,hs.o];have:ai p.n q.n≠0:=fun h=>J (aT.1 h);simp[orI,this]);replace J:=bZ J;have C2:Z (∀W,Calls Tryz.prog 199 #[I p.n,I q.n] W fun e u=>e=.returned (I r)/\W=u):=bZ (fun W=>by rw[<-y.o];exact(jW W _ _).mono (fun _ _ h=>⟨h.1,h.2.symm⟩));go_wp2_with fail;go_quiet (fail);go_wp2_with fail;go_quiet (with_reducible exact nj (C2.o _));go_wp2_with fail;go_ret;exact⟨rfl,bZ ((k0.o.trans E.o).trans (by first | exact k5.o.drewN _ | exact(k5.o.drewN _).drewN _))⟩
    have b9:(s !=0)=true:=by rw[bne_iff_ne];exact hs
    have y:Z (s=r):=bZ (by rw[<-H.o,F.o];simp[orI,hs]);clear a1 b1 c0 c1 c2 c3 c4 e0 e1 e2 e3 e4 hs;go_wp2_with fail;go_ret;exact⟨by rw[y.o];rfl,bZ ((k0.o.trans E.o).trans k5.o)⟩
   have ax:¬((j:Int)<(m:Int)):=by omega
   have an:(j:Int)<(n:Int):=by omega
   have bk:L.cell? (U ga 0)=some (I k):=xa.cell 0;have bm:L.cell? (U ga 1)=G A n c:=xa.cell 1;have bd:L.cell? (U gb 0)=some (I l):=xb.cell 0;have bf:L.cell? (U gb 1)=G B m d:=xb.cell 1;have y:=a6.o j (by omega) H.o;have Q:¬((j:Int)<(n:Int)/\(j:Int)<(m:Int)):=by omega
   by_cases t:n=m
   ·have R:((n:Int) !=(m:Int))=false:=by rw[t];simp
    have M:Z (ai k l=r):=bZ (by rw[<-y,t,aT.2 rfl];simp[orI]);replace t:=bZ t;clear xa xb y Q;go_wp2_with (go_at_call 199;refine(H1.o _ _ _).mono ?_;rintro e u ⟨rfl,rfl⟩);go_ret;exact⟨by rw[M.o];rfl,bZ (k0.o.trans E.o)⟩
   have R:((n:Int) !=(m:Int))=true:=by rw[bne_iff_ne];omega
   have M:Z (ai (n:Int) (m:Int)=r):=bZ (by rw[<-y];have:ai (n:Int) (m:Int)≠0:=fun h=>t (by have:=aT.1 h;omega);simp[orI,this]);replace t:=bZ t;clear xa xb y Q;go_wp2_with (go_at_call 199;refine(H1.o _ _ _).mono ?_;rintro e u ⟨rfl,rfl⟩);go_ret;exact⟨by rw[M.o];rfl,bZ (k0.o.trans E.o)⟩
  have an:¬((j:Int)<(n:Int)):=by omega
  have bk:L.cell? (U ga 0)=some (I k):=xa.cell 0;have bm:L.cell? (U ga 1)=G A n c:=xa.cell 1;have bd:L.cell? (U gb 0)=some (I l):=xb.cell 0;have bf:L.cell? (U gb 1)=G B m d:=xb.cell 1;have y:=a6.o j (by omega) H.o;have Q:¬((j:Int)<(n:Int)/\(j:Int)<(m:Int)):=by omega
  by_cases t:n=m
  ·have R:((n:Int) !=(m:Int))=false:=by rw[t];simp
   have M:Z (ai k l=r):=bZ (by rw[<-y,t,aT.2 rfl];simp[orI]);replace t:=bZ t;clear xa xb y Q;go_wp2_with (go_at_call 199;refine(H1.o _ _ _).mono ?_;rintro e u ⟨rfl,rfl⟩);go_ret;exact⟨by rw[M.o];rfl,bZ (k0.o.trans E.o)⟩
  have R:((n:Int) !=(m:Int))=true:=by rw[bne_iff_ne];omega
  have M:Z (ai (n:Int) (m:Int)=r):=bZ (by rw[<-y];have:ai (n:Int) (m:Int)≠0:=fun h=>t (by have:=aT.1 h;omega);simp[orI,this]);replace t:=bZ t;clear xa xb y Q;go_wp2_with (go_at_call 199;refine(H1.o _ _ _).mono ?_;rintro e u ⟨rfl,rfl⟩);go_ret;exact⟨by rw[M.o];rfl,bZ (k0.o.trans E.o)⟩
def bdv (t:T):Int:=if Sm t then (t.B:Int) else 1152921504606846977
structure BdI (t:T) (k:Int) (j:Nat) (s:Nat):Prop where
 con:k.natAbs<=1099511627776
 co:∀p∈t.pts.take j,p.n.natAbs<=1048576
 sum:s=k.natAbs+Bl (t.pts.take j)
 le:s<=1152921504606846976
theorem zM {l:List Pt} {j:Nat}:Bl (l.take j)<=Bl l:=by
 induction l generalizing j with
 | nil=>simp[Bl]
 | cons x l ih=>
  cases j with
  | zero=>simp[Bl]
  | succ j=>simp only[List.take_succ_cons,Bl];have:=ih (j:=j);omega
theorem BdI.step {t:T} {k:Int} {j s:Nat} {p:Pt} (h:BdI t k j s) (b:t.pts[j]? =some p) (c:p.n.natAbs<=1048576) (d:s+p.n.natAbs*p.B<=1152921504606846976):BdI t k (j+1) (s+p.n.natAbs*p.B):=
 ⟨h.con,fun q a=>by
  rw[Dq,b] at a;rcases CX.1 a with a | a
  ·exact h.co q a
  simp at a;subst a;exact c,by rw[mJ b,h.sum];omega,d⟩
theorem BdI.big {t:T} {j s:Nat} {p:Pt} (h:BdI t t.con j s) (d:t.pts[j]? =some p) (e:1152921504606846976<s+p.n.natAbs*p.B):¬Sm t:=fun c=>by
 have a:=c.2.2;rw[T.B_eq] at a;have b:=zM (l:=t.pts) (j:=j+1);rw[mJ d] at b;have:=h.sum;omega
theorem BdI.coef {t:T} {j:Nat} {p:Pt} (c:t.pts[j]? =some p) (b:¬p.n.natAbs<=1048576):¬Sm t:=fun a=>b (a.2.1 p (CW c))
theorem BdI.done {t:T} {s:Nat} (h:BdI t t.con t.pts.length s):Sm t/\s=t.B:=by
 have b:=h.co;have a:=h.sum;rw[List.take_length] at b a;rw[<-T.B_eq] at a;exact⟨⟨h.con,b,by rw[<-a];exact h.le⟩,a⟩
theorem oE (C:Nat->Prop):∀(t:T) (w:World) (A:Option Addr) (c:Nat),t.ok->Md t->t.pts.length<=1000000->t.wd<=1000000->TAt w C A t->Calls Tryz.prog 201 #[tmV t A c] w (RoP w (I (bdv t))):=by
 refine T.ind (fun t ih=>?_);intro w A c an ak b9 a6 hT;obtain⟨n,hn⟩:∃n,n=t.pts.length:=⟨_,rfl⟩;have ba:=bZ hn;obtain⟨k,hk⟩:∃k,k=t.con:=⟨_,rfl⟩;have ax:=bZ hk;have bx:=bZ (hk▸ak.1);obtain⟨r,hr⟩:∃r,r=bdv t:=⟨_,rfl⟩;rw[<-hr];replace hr:=bZ hr;rw[T.ok_iff] at an;rw[T.wd_iff] at a6;replace ih:=bZ ih;replace an:=bZ an;replace ak:=bZ ak.2;replace hT:=bZ hT;replace a6:=bZ a6.2;rw[<-hn] at b9;unfold tmV;rw[<-hn,<-hk];clear hk hn;have HA:=bZ (fun W (a:Int) (h:a.natAbs<=4611686018427387904)=>mb W a h);have HW:=bZ (fun W (a b c:Int)=>cj W a b c);have kb:Z (ad [] w (w.alloc (.cells #[I k,.slice A n c] 38))):=bZ ((ad.refl [] w).alloc _);have bb:Z (Blk (w.alloc (.cells #[I k,.slice A n c] 38)) w.heap.size 38 #[I k,.slice A n c]):=bZ (Blk.new w 38 _);by_cases ac:k.natAbs<=1099511627776
 ·have ab:Z (∀W,Calls Tryz.prog 157 #[I k,I (-1099511627776),I 1099511627776] W fun e d=>e=.returned (.bool true)/\d=W):=bZ (fun W=>by
   have:=cj W k (-1099511627776) 1099511627776;rwa [decide_eq_true (by omega)] at this)
  have h0:Z (BdI t k 0 k.natAbs):=bZ ⟨ac,by simp,by simp[Bl],by omega⟩;have b5:Z (∀W,Calls Tryz.prog 203 #[I k] W fun e d=>e=.returned (I (k.natAbs:Int))/\d=W):=bZ (fun W=>HA.o W k (by have:=bx.o;omega));clear ac;generalize k.natAbs=ka at*;go_enter Tryz.func201,Tryz.ntmps201;go_wp2_with (first | (go_at_call 157;refine(ab.o _).mono ?_;rintro e d ⟨rfl,rfl⟩) | (go_at_call 203;refine(b5.o _).mono ?_;rintro e d ⟨rfl,rfl⟩));obtain⟨gt,av⟩:∃g,g=w.heap.size:=⟨_,rfl⟩;rw[<-av] at bb;rw[<-av];generalize w.alloc (.cells #[I k,.slice A n c] 38)=W0 at*;clear av ab b5;go_loopw [3,4] (fun s i wr=>∃(j S:Nat),j<=n/\i=I j/\s=I (S:Int)/\S<=1152921504606846976/\Z (BdI t k j S)/\Z (ad [] W0 wr)) (fun _ i _=>n - (intOf i).toNat)
  case atStart=>exact⟨0,ka,C3 _,rfl,rfl,h0.o.le,h0,bZ (ad.refl _ _)⟩
  obtain⟨j,S,hj,rfl,rfl,hS,hI,E⟩:=hrel;obtain⟨wo,c8⟩:∃x,x=wr:=⟨_,rfl⟩;subst c8;have z1:wo.cell? (U gt 1)=G A n c:=(bb.o.keep E.o (by simp)).cell 1;have cq:gt<wo.heap.size:=(bb.o.keep E.o (by simp)).lt;by_cases bu:j<n
  ·obtain⟨p,hp⟩:=aI (l:=t.pts) (j:=j) (by rw[<-ba.o];exact bu);obtain⟨g,cr,oA,on,oc,rfl,hC,hg,c0,c1,c2,c3,c4,cm,co,am⟩:=(hT.o.keep0 (kb.o.trans E.o)).get hp;have a2:=CW hp;obtain⟨bc,ap⟩:=an.o p a2;have c6:=ak.o p a2;have wj:IntKind.i64.wrap ((j:Int)+1)=(j:Int)+1:=C0 _ (by omega);have ck:(j:Int)<(n:Int):=by omega
   obtain⟨wb,H⟩:∃x,x=wo.alloc (.cells #[I p.n,I p.kd,I p.v,I p.b,.slice oA on oc] 221):=⟨_,rfl⟩;obtain⟨gp,X⟩:∃g,g=wo.heap.size:=⟨_,rfl⟩;have a3:Z (ad [] wo wb):=bZ (by rw[H];exact(ad.refl [] wo).alloc _);have bp:Z (Blk wb gp 221 #[I p.n,I p.kd,I p.v,I p.b,.slice oA on oc]):=bZ (by rw[H,X];exact Blk.new wo 221 _);obtain⟨D,ao⟩:∃b,b=p.B:=⟨_,rfl⟩;have c5:D<=1152921504606846976:=by
    rw[ao];unfold Pt.B
    split
    ·decide
    split
    ·decide
    rcases ap with h | h
    ·omega
    have h1:=h.2.2.2.2.2.2.1.2.2;have h2:p.of.B/p.b.toNat<=p.of.B/2:=Nat.div_le_div_left (by omega) (by omega);omega
   obtain⟨z,b0⟩:∃m,m=p.n.natAbs:=⟨_,rfl⟩;have ca:0<z:=by omega
   have cb:(0:Int)<(z:Int):=by omega
   have O:Z (∀W,Calls Tryz.prog 203 #[I p.n] W fun e d=>e=.returned (I (z:Int))/\d=W):=bZ (fun W=>by rw[b0];exact HA.o W p.n (by omega));have cl:(p.n !=0)=true:=by rw[bne_iff_ne];exact bc
   have au:Z (BdI t t.con j S):=bZ (by rw[<-ax.o];exact hI.o);have hcut:(z<=1048576/\z*D<=1152921504606846976/\S+z*D<=1152921504606846976/\BdI t k (j+1) (S+z*D))\/(z<=1048576/\z*D<=1152921504606846976/\1152921504606846976<S+z*D/\r=1152921504606846977)\/(z<=1048576/\1152921504606846976<z*D/\r=1152921504606846977)\/(1048576<z/\r=1152921504606846977):=by
    rw[b0,ao];have b1:¬Sm t->r=1152921504606846977:=fun h=>by rw[hr.o];unfold bdv;rw[if_neg h]
    by_cases h1:p.n.natAbs<=1048576
    ·by_cases h2:p.n.natAbs*p.B<=1152921504606846976
     ·by_cases h3:S+p.n.natAbs*p.B<=1152921504606846976
      ·exact .inl ⟨h1,h2,h3,hI.o.step hp h1 h3⟩
      exact .inr (.inl ⟨h1,h2,by omega,b1 (au.o.big hp (by omega))⟩)
     exact .inr (.inr (.inl ⟨h1,by omega,b1 (au.o.big hp (by omega))⟩))
    exact .inr (.inr (.inr ⟨by omega,b1 (BdI.coef hp h1)⟩))
   have F:Z (∀W b,b=decide (z<=1048576)->Calls Tryz.prog 157 #[I p.n,I (-1048576),I 1048576] W fun e d=>e=.returned (.bool b)/\d=W):=bZ (fun W b hb=>by
    have:=cj W p.n (-1048576) 1048576;rwa [show decide (-1048576<=p.n/\p.n<=1048576)=b from by rw[hb];exact decide_eq_decide.2 (by omega)] at this)
   have f:Z (z*D<=1152921504606846976↔¬((1152921504606846976:Int)/(z:Int)<(D:Int))):=bZ (by
    have h:(1152921504606846976:Int)/(z:Int)=((1152921504606846976/z:Nat):Int):=rfl;rw[h];have h2:=Nat.le_div_iff_mul_le (k:=z) (by omega) (x:=D) (y:=1152921504606846976);rw[EJ z D];omega)
   have bm:(p.kd=0/\D=2147483648)\/(p.kd=1/\D=16)\/(p.kd=2/\2<=p.b/\D=p.of.B/p.b.toNat+1/\p.of.B<=1152921504606846976):=by
    rw[ao];unfold Pt.B;rcases ap with h | h
    ·rcases h.1 with h0 | h0
     ·exact .inl ⟨h0,by rw[if_pos h0]⟩
     exact .inr (.inl ⟨h0,by rw[if_neg (by omega),if_pos h0]⟩)
    exact .inr (.inr ⟨h.1,h.2.2.1,by rw[if_neg (by omega),if_neg (by omega)],h.2.2.2.2.2.2.1.2.2⟩)
   have HB:p.kd=2->∀W pA pc,TAt W C pA p.of->Calls Tryz.prog 201 #[tmV p.of pA pc] W (RoP W (I (p.of.B:Int))):=fun h2 W pA pc bo=>by
    have ho:p.of.ok/\Sm p.of:=by
     rcases ap with h | h
     ·omega
     exact⟨h.2.2.2.2.2.1,h.2.2.2.2.2.2.1⟩
    have:=ih.o p a2 W pA pc ho.1 ⟨by have:=ho.2.1;omega,fun q hq=>by have:=ho.2.2.1 q hq;omega⟩ (aA (a6.o p a2)) (a6.o p a2) bo;unfold bdv at this;rwa [if_pos ho.2] at this
   unfold tmV at HB;clear hp a2 ap c6 b0 ao au HW HA bc;rcases bm with ⟨h0,b3⟩ | ⟨h1,b3⟩ | ⟨h2,bq,b2,bf⟩
   ·rw[h0] at H bp;rw[h0] at c1;clear am HB h0;go_wp2_with fail;rw[<-H,<-X];have n0:wb.cell? (U gp 0)=some (I p.n):=bp.o.cell 0;have Y:=a3;rw[show (2147483648:Int)=(D:Int) by omega];clear b3 H X bp a3 c0 c1 c2 c3 c4;rcases hcut with ⟨L,N,q3,q4⟩ | ⟨L,N,q3,rfl⟩ | ⟨L,N,rfl⟩ | ⟨L,rfl⟩
    ·have Q:=f.o.1 N;have u:Z (∀W,Calls Tryz.prog 157 #[I p.n,I (-1048576),I 1048576] W fun e d=>e=.returned (.bool true)/\d=W):=bZ (fun W=>F.o W true (by rw[decide_eq_true L]));replace q4:=bZ q4;obtain⟨M,J⟩:∃M,M=z*D:=⟨_,rfl⟩;have a4:(z:Int)*(D:Int)=(M:Int):=by rw[J];exact(Int.natCast_mul _ _).symm
     rw[<-J] at N q3 q4;have bn:(S:Int)+(M:Int)<=1152921504606846976:=by omega
     have aa:¬((1152921504606846976:Int)<(S:Int)+(M:Int)):=by omega
     have wS:IntKind.i64.wrap ((S:Int)+(M:Int))=(S:Int)+(M:Int):=C0 _ (by omega);have a9:(M:Int)<=1152921504606846976:=by omega
     clear J f;go_wp2_with (first | (go_at_call 157;refine(u.o _).mono ?_;rintro e d ⟨rfl,rfl⟩) | (go_at_call 203;refine(O.o _).mono ?_;rintro e d ⟨rfl,rfl⟩));go_roundw
     case rel=>exact⟨j+1,S+M,by omega,by go_num,by go_num,by omega,q4,bZ (E.o.trans Y.o)⟩
     case measure=>simp[intOf];omega
    ·have Q:=f.o.1 N;have u:Z (∀W,Calls Tryz.prog 157 #[I p.n,I (-1048576),I 1048576] W fun e d=>e=.returned (.bool true)/\d=W):=bZ (fun W=>F.o W true (by rw[decide_eq_true L]));obtain⟨M,J⟩:∃M,M=z*D:=⟨_,rfl⟩;have a4:(z:Int)*(D:Int)=(M:Int):=by rw[J];exact(Int.natCast_mul _ _).symm
     rw[<-J] at N q3;have aa:(1152921504606846976:Int)<(S:Int)+(M:Int):=by omega
     have wS:IntKind.i64.wrap ((S:Int)+(M:Int))=(S:Int)+(M:Int):=C0 _ (by omega);have a9:(M:Int)<=1152921504606846976:=by omega
     clear J f;go_wp2_with (first | (go_at_call 157;refine(u.o _).mono ?_;rintro e d ⟨rfl,rfl⟩) | (go_at_call 203;refine(O.o _).mono ?_;rintro e d ⟨rfl,rfl⟩));go_ret;exact⟨rfl,bZ ((kb.o.trans E.o).trans Y.o)⟩
    ·have Q:(1152921504606846976:Int)/(z:Int)<(D:Int):=by
      rcases Int.lt_or_le ((1152921504606846976:Int)/(z:Int)) (D:Int) with h | h
      ·exact h
      have:=f.o.2 (by omega);omega
     have u:Z (∀W,Calls Tryz.prog 157 #[I p.n,I (-1048576),I 1048576] W fun e d=>e=.returned (.bool true)/\d=W):=bZ (fun W=>F.o W true (by rw[decide_eq_true L]));clear f;go_wp2_with (first | (go_at_call 157;refine(u.o _).mono ?_;rintro e d ⟨rfl,rfl⟩) | (go_at_call 203;refine(O.o _).mono ?_;rintro e d ⟨rfl,rfl⟩));go_ret;exact⟨rfl,bZ ((kb.o.trans E.o).trans Y.o)⟩
    have u:Z (∀W,Calls Tryz.prog 157 #[I p.n,I (-1048576),I 1048576] W fun e d=>e=.returned (.bool false)/\d=W):=bZ (fun W=>F.o W false (by rw[decide_eq_false (by omega)]));clear f;go_wp2_with (go_at_call 157;refine(u.o _).mono ?_;rintro e d ⟨rfl,rfl⟩);go_ret;exact⟨rfl,bZ ((kb.o.trans E.o).trans Y.o)⟩
   ·rw[h1] at H bp;rw[h1] at c1;clear am HB h1;go_wp2_with fail;rw[<-H,<-X];have n0:wb.cell? (U gp 0)=some (I p.n):=bp.o.cell 0;have Y:=a3;rw[show (16:Int)=(D:Int) by omega];clear b3 H X bp a3 c0 c1 c2 c3 c4;rcases hcut with ⟨L,N,q3,q4⟩ | ⟨L,N,q3,rfl⟩ | ⟨L,N,rfl⟩ | ⟨L,rfl⟩
    ·have Q:=f.o.1 N;have u:Z (∀W,Calls Tryz.prog 157 #[I p.n,I (-1048576),I 1048576] W fun e d=>e=.returned (.bool true)/\d=W):=bZ (fun W=>F.o W true (by rw[decide_eq_true L]));replace q4:=bZ q4;obtain⟨M,J⟩:∃M,M=z*D:=⟨_,rfl⟩;have a4:(z:Int)*(D:Int)=(M:Int):=by rw[J];exact(Int.natCast_mul _ _).symm
     rw[<-J] at N q3 q4;have bn:(S:Int)+(M:Int)<=1152921504606846976:=by omega
     have aa:¬((1152921504606846976:Int)<(S:Int)+(M:Int)):=by omega
     have wS:IntKind.i64.wrap ((S:Int)+(M:Int))=(S:Int)+(M:Int):=C0 _ (by omega);have a9:(M:Int)<=1152921504606846976:=by omega
     clear J f;go_wp2_with (first | (go_at_call 157;refine(u.o _).mono ?_;rintro e d ⟨rfl,rfl⟩) | (go_at_call 203;refine(O.o _).mono ?_;rintro e d ⟨rfl,rfl⟩));go_roundw
     case rel=>exact⟨j+1,S+M,by omega,by go_num,by go_num,by omega,q4,bZ (E.o.trans Y.o)⟩
     case measure=>simp[intOf];omega
    ·have Q:=f.o.1 N;have u:Z (∀W,Calls Tryz.prog 157 #[I p.n,I (-1048576),I 1048576] W fun e d=>e=.returned (.bool true)/\d=W):=bZ (fun W=>F.o W true (by rw[decide_eq_true L]));obtain⟨M,J⟩:∃M,M=z*D:=⟨_,rfl⟩;have a4:(z:Int)*(D:Int)=(M:Int):=by rw[J];exact(Int.natCast_mul _ _).symm
     rw[<-J] at N q3;have aa:(1152921504606846976:Int)<(S:Int)+(M:Int):=by omega
     have wS:IntKind.i64.wrap ((S:Int)+(M:Int))=(S:Int)+(M:Int):=C0 _ (by omega);have a9:(M:Int)<=1152921504606846976:=by omega
     clear J f;go_wp2_with (first | (go_at_call 157;refine(u.o _).mono ?_;rintro e d ⟨rfl,rfl⟩) | (go_at_call 203;refine(O.o _).mono ?_;rintro e d ⟨rfl,rfl⟩));go_ret;exact⟨rfl,bZ ((kb.o.trans E.o).trans Y.o)⟩
    ·have Q:(1152921504606846976:Int)/(z:Int)<(D:Int):=by
      rcases Int.lt_or_le ((1152921504606846976:Int)/(z:Int)) (D:Int) with h | h
      ·exact h
      have:=f.o.2 (by omega);omega
     have u:Z (∀W,Calls Tryz.prog 157 #[I p.n,I (-1048576),I 1048576] W fun e d=>e=.returned (.bool true)/\d=W):=bZ (fun W=>F.o W true (by rw[decide_eq_true L]));clear f;go_wp2_with (first | (go_at_call 157;refine(u.o _).mono ?_;rintro e d ⟨rfl,rfl⟩) | (go_at_call 203;refine(O.o _).mono ?_;rintro e d ⟨rfl,rfl⟩));go_ret;exact⟨rfl,bZ ((kb.o.trans E.o).trans Y.o)⟩
    have u:Z (∀W,Calls Tryz.prog 157 #[I p.n,I (-1048576),I 1048576] W fun e d=>e=.returned (.bool false)/\d=W):=bZ (fun W=>F.o W false (by rw[decide_eq_false (by omega)]));clear f;go_wp2_with (go_at_call 157;refine(u.o _).mono ?_;rintro e d ⟨rfl,rfl⟩);go_ret;exact⟨rfl,bZ ((kb.o.trans E.o).trans Y.o)⟩
   obtain⟨rfl,h,o,pA,pc,rfl,cd,a0,a1,bs,bt,b6⟩:=am.2 h2;have R:=a3.o;have HC:=bZ (HB h2 wb.drew pA pc (b6.keep0 R.drew));replace a0:=R.cellEq a0 (by simp);replace a1:=R.cellEq a1 (by simp);have e4:wb.cell? (U gp 4)=G (some (U h o)) 1 oc:=bp.o.cell 4;have e3:wb.cell? (U gp 3)=some (I p.b):=bp.o.cell 3;obtain⟨P,a5⟩:∃m:Nat,p.b=(m:Int):=⟨p.b.toNat,by omega⟩;rw[a5,EH] at b2;obtain⟨oB,bd⟩:∃b,b=p.of.B:=⟨_,rfl⟩;rw[<-bd] at HC bf b2;obtain⟨q,hq⟩:∃q,q=oB/P:=⟨_,rfl⟩;have cc:q<=oB:=by rw[hq];exact Nat.div_le_self _ _
   have c7:(oB:Int)/(P:Int)=(q:Int):=by rw[hq];rfl
   have br:((P:Int)==0)=false:=beq_false_of_ne (by omega);have b7:(P:Int)≠0:=by omega
   have b8:P≠0:=by omega
   have wq:IntKind.i64.wrap (q:Int)=(q:Int):=C0 _ (by omega);have c9:(2:Int)<=(P:Int):=by omega
   have bz:(oB:Int)<=1152921504606846976:=by omega
   have cp:(q:Int)<=1152921504606846976:=by omega
   have aq:(q:Int)+1=(D:Int):=by omega
   have bk:IntKind.i64.wrap ((q:Int)+1)=(D:Int):=by rw[aq];exact C0 _ (by omega)
   rw[a5] at e3;rw[h2] at H bp;rw[a5] at H bp;rw[h2] at c1;rw[a5] at c3;clear am HB h2 b6 b2 bs bt bd bq a5 hq;go_wp2_with fail;rw[<-H,<-X];clear c0 c1 c2 c3 c4 H X;refine ae (S:=(fun d=>(d.cell? (U gp 4)=G (some (U h o)) 1 oc/\d.cell? (U gp 3)=some (I (P:Int)))/\d.cell? (U h o)=some (I p.of.con)/\d.cell? (U h (o+1))=G pA p.of.pts.length pc)) (n:=10) (by kernel_rfl) ?_;have ar:Z (∀W',ad [] wb W'->(fun d=>(d.cell? (U gp 4)=G (some (U h o)) 1 oc/\d.cell? (U gp 3)=some (I (P:Int)))/\d.cell? (U h o)=some (I p.of.con)/\d.cell? (U h (o+1))=G pA p.of.pts.length pc) W'):=bZ (fun W' h=>⟨⟨h.cellEq e4 (by simp),h.cellEq e3 (by simp)⟩,h.cellEq a0 (by simp),h.cellEq a1 (by simp)⟩);have HS:=ar.o wb.drew (ad.refl [] wb).drew
   try dsimp only at HS
   clear e4 e3 a0 a1;refine ord [0,1,2,3,5,6] ?_
   iterate 6 (refine tq HS ?_;try simp only[PT,Y1,Y2,Y3])
   refine aB ?_;refine J1 4 fun K hK=>?_;dsimp only[Y1,Y2,Y3];go_simp;refine HC.o.mono ?_;rintro e w5 ⟨rfl,k5⟩;replace k5:=bZ ((ad.refl [] wb).drew.trans k5.o);replace HS:=ar.o w5 k5.o
   try dsimp only at HS
   refine hK _ _ (.inr HS) ?_;clear hK K
   try simp only[PT,Y1,Y2,Y3]
   refine ord [7,8,9] ?_
   iterate 3 (refine tq HS ?_;try simp only[PT,Y1,Y2,Y3])
   refine aB ?_;refine JD ?_;clear HS ar HC;have n0:=(bp.o.keep k5.o (by simp)).cell 0;have Y:=bZ (R.trans k5.o);clear bp R a3 c7 b8 wq br b7 aq bk;rcases hcut with ⟨L,N,q3,q4⟩ | ⟨L,N,q3,rfl⟩ | ⟨L,N,rfl⟩ | ⟨L,rfl⟩
   ·have Q:=f.o.1 N;have u:Z (∀W,Calls Tryz.prog 157 #[I p.n,I (-1048576),I 1048576] W fun e d=>e=.returned (.bool true)/\d=W):=bZ (fun W=>F.o W true (by rw[decide_eq_true L]));replace q4:=bZ q4;obtain⟨M,J⟩:∃M,M=z*D:=⟨_,rfl⟩;have a4:(z:Int)*(D:Int)=(M:Int):=by rw[J];exact(Int.natCast_mul _ _).symm
    rw[<-J] at N q3 q4;have bn:(S:Int)+(M:Int)<=1152921504606846976:=by omega
    have aa:¬((1152921504606846976:Int)<(S:Int)+(M:Int)):=by omega
    have wS:IntKind.i64.wrap ((S:Int)+(M:Int))=(S:Int)+(M:Int):=C0 _ (by omega);have a9:(M:Int)<=1152921504606846976:=by omega
    clear J f;go_wp2_with (first | (go_at_call 157;refine(u.o _).mono ?_;rintro e d ⟨rfl,rfl⟩) | (go_at_call 203;refine(O.o _).mono ?_;rintro e d ⟨rfl,rfl⟩));go_roundw
    case rel=>exact⟨j+1,S+M,by omega,by go_num,by go_num,by omega,q4,bZ (E.o.trans Y.o)⟩
    case measure=>simp[intOf];omega
   ·have Q:=f.o.1 N;have u:Z (∀W,Calls Tryz.prog 157 #[I p.n,I (-1048576),I 1048576] W fun e d=>e=.returned (.bool true)/\d=W):=bZ (fun W=>F.o W true (by rw[decide_eq_true L]));obtain⟨M,J⟩:∃M,M=z*D:=⟨_,rfl⟩;have a4:(z:Int)*(D:Int)=(M:Int):=by rw[J];exact(Int.natCast_mul _ _).symm
    rw[<-J] at N q3;have aa:(1152921504606846976:Int)<(S:Int)+(M:Int):=by omega
    have wS:IntKind.i64.wrap ((S:Int)+(M:Int))=(S:Int)+(M:Int):=C0 _ (by omega);have a9:(M:Int)<=1152921504606846976:=by omega
    clear J f;go_wp2_with (first | (go_at_call 157;refine(u.o _).mono ?_;rintro e d ⟨rfl,rfl⟩) | (go_at_call 203;refine(O.o _).mono ?_;rintro e d ⟨rfl,rfl⟩));go_ret;exact⟨rfl,bZ ((kb.o.trans E.o).trans Y.o)⟩
   ·have Q:(1152921504606846976:Int)/(z:Int)<(D:Int):=by
     rcases Int.lt_or_le ((1152921504606846976:Int)/(z:Int)) (D:Int) with h | h
     ·exact h
     have:=f.o.2 (by omega);omega
    have u:Z (∀W,Calls Tryz.prog 157 #[I p.n,I (-1048576),I 1048576] W fun e d=>e=.returned (.bool true)/\d=W):=bZ (fun W=>F.o W true (by rw[decide_eq_true L]));clear f;go_wp2_with (first | (go_at_call 157;refine(u.o _).mono ?_;rintro e d ⟨rfl,rfl⟩) | (go_at_call 203;refine(O.o _).mono ?_;rintro e d ⟨rfl,rfl⟩));go_ret;exact⟨rfl,bZ ((kb.o.trans E.o).trans Y.o)⟩
   have u:Z (∀W,Calls Tryz.prog 157 #[I p.n,I (-1048576),I 1048576] W fun e d=>e=.returned (.bool false)/\d=W):=bZ (fun W=>F.o W false (by rw[decide_eq_false (by omega)]));clear f;go_wp2_with (go_at_call 157;refine(u.o _).mono ?_;rintro e d ⟨rfl,rfl⟩);go_ret;exact⟨rfl,bZ ((kb.o.trans E.o).trans Y.o)⟩
  obtain rfl:j=n:=by omega
  have b4:Z ((S:Int)=r):=bZ (by
   have:=BdI.done (t:=t) (s:=S) (by rw[<-ax.o,<-ba.o];exact hI.o);rw[hr.o];unfold bdv;rw[if_pos this.1,this.2])
  go_wp2_with fail;go_ret;exact⟨by rw[<-b4.o];rfl,bZ (kb.o.trans E.o)⟩
 have b4:Z (r=1152921504606846977):=bZ (by rw[hr.o];unfold bdv;rw[if_neg (fun h=>ac (by rw[ax.o];exact h.1))]);have ab:Z (∀W,Calls Tryz.prog 157 #[I k,I (-1099511627776),I 1099511627776] W fun e d=>e=.returned (.bool false)/\d=W):=bZ (fun W=>by
  have:=cj W k (-1099511627776) 1099511627776;rwa [decide_eq_false (by omega)] at this)
 clear ac;go_enter Tryz.func201,Tryz.ntmps201;go_wp2_with (go_at_call 157;refine(ab.o _).mono ?_;rintro e d ⟨rfl,rfl⟩);go_ret;exact⟨by rw[b4.o];rfl,kb⟩
end Go.Proofs.YtldmkbhgdbafhaaGreat
