import Derived.Test.YtldmkbhgdbafhaaGreatL27
namespace Go.Proofs.YtldmkbhgdbafhaaGreat
open Go.RowKit
set_option linter.unusedSimpArgs false
set_option linter.unusedVariables false
set_option maxRecDepth 100000
set_option maxHeartbeats 64000000
section
theorem oG (fi ft:Int->Int) (n:Nat) (xs:List Ax) (x:Ax):axV fi ft n (xs++[x])=gH fi ft n (axV fi ft n xs) x:=by simp[axV,List.foldl_append]
theorem mD (fi ft:Int->Int) (n:Nat) (xs:List Ax):(axV fi ft n xs).length=xs.length:=by
 have:∀(xs:List Ax) (a:List Int),(xs.foldl (gH fi ft n) a).length=a.length+xs.length:=by
  intro xs
  induction xs with
  | nil=>intro a;rfl
  | cons x xs ih=>intro a;rw[List.foldl_cons,ih];simp[gH];omega
 simpa [axV] using this xs []
theorem yg {a b:Int} {M:Nat} (t:1<=b) (h:a.natAbs<=M):(a/b).natAbs<=M/b.toNat+1:=by
 obtain⟨k,rfl⟩:∃k:Nat,(k:Int)=b:=⟨b.toNat,by omega⟩;have i:0<k:=by omega
 rw[show ((k:Int)).toNat=k by simp];have f:=Int.mul_ediv_add_emod a k;have n:=Int.emod_nonneg a (show (k:Int)≠0 by omega);have o:=Int.emod_lt_of_pos a (show (0:Int)<k by omega);generalize a%(k:Int)=r at*;generalize a/(k:Int)=q at*;have e:(q.natAbs - 1)*k<=M:=by
  by_cases j:0<=q
  ·obtain⟨u,rfl⟩:=Int.eq_ofNat_of_zero_le j;have p:(u - 1)*k<=u*k:=Nat.mul_le_mul_right k (by omega);have s:((u*k:Nat):Int)<=a:=by rw[Int.natCast_mul,Int.mul_comm];omega
   have d:(u:Int).natAbs=u:=by simp
   rw[d];omega
  obtain⟨u,m⟩:∃u:Nat,q= -((u:Int)+1):=⟨(-q).toNat - 1,by omega⟩;have d:q.natAbs - 1=u:=by omega
  have g:(k:Int)*q= -((u*k:Nat):Int) - k:=by rw[m,Int.natCast_mul,Int.mul_neg,Int.mul_add,Int.mul_one,Int.mul_comm];omega
  rw[d];rw[g] at f;omega
 have:=(Nat.le_div_iff_mul_le i).2 e;omega
section
variable {r:List Vl} {l:List Vb} {c:Cla}
theorem lV {n:Nat} {xs:List Ax} (g:bD r l) (f:∀(m:Nat) a,(axV (fiR r) (ftR r) n xs)[m]? =some a->∃b,(bV n xs)[m]? =some b/\a.natAbs<=b) (v:Int):(gQ (fiR r) n (axV (fiR r) (ftR r) n xs) v).natAbs<=dR n (bV n xs) v:=by
 unfold gQ dR;by_cases h:v<(n:Int)
 ·rw[if_pos h,if_pos h];exact(gG g v).1
 rw[if_neg h,if_neg h];cases d:(axV (fiR r) (ftR r) n xs)[(v - n).toNat]? with
 | none=>exact C3 _
 | some a=>
  obtain⟨b,e,c⟩:=f _ _ d;rw[e];exact c
theorem qI {n:Nat} {xs:List Ax} {f:Lin} (h:∀v,(gQ (fiR r) n (axV (fiR r) (ftR r) n xs) v).natAbs<=dR n (bV n xs) v):(dN (fiR r) n (axV (fiR r) (ftR r) n xs) f).natAbs<=lbd n (bV n xs) f:=by
 have:=pK (gQ (fiR r) n (axV (fiR r) (ftR r) n xs)) (dR n (bV n xs)) f.cs (fun e _=>h e.1);unfold dN lbd;omega
theorem uB (e:Cla.Ok l c) (g:bD r l):∀i,i<=c.ax.length->∀(m:Nat) a,(axV (fiR r) (ftR r) l.length (c.ax.take i))[m]? =some a->∃b,(bV l.length (c.ax.take i))[m]? =some b/\a.natAbs<=b:=by
 intro i
 induction i with
 | zero=>intro _ m a h;simp[axV] at h
 | succ i d=>
  intro s m a h;have d:=d (by omega);have j:c.ax[i]? =some c.ax[i]:=CT (by omega);rw[Dq,j,Option.toList_some] at h ⊢;rw[oG] at h;rw[lN];unfold gH at h;have o:(axV (fiR r) (ftR r) l.length (c.ax.take i)).length=(bV l.length (c.ax.take i)).length:=by rw[mD,eI]
  by_cases p:m<(axV (fiR r) (ftR r) l.length (c.ax.take i)).length
  ·rw[DC p] at h;rw[DC (by omega)];exact d m a h
  rw[Dv (by omega)] at h;rw[Dv (by omega),<-o];obtain n:m - (axV (fiR r) (ftR r) l.length (c.ax.take i)).length=0:=by
   have:=(CV.1 h).1;simp at this;omega
  rw[n] at h ⊢;refine⟨_,rfl,?_⟩;simp only[D5,Option.some.injEq] at h;rw[<-h];unfold axB;rcases e.ax i _ j with ⟨f,_,_⟩ | ⟨k,_,_,q⟩
  ·rw[if_pos f,if_pos f];exact(gG g _).2
  rw[if_neg (by omega),if_neg (by omega)];exact yg k (qI (lV g d))
theorem ug {n:Nat} {b:List Nat} {f:Lin} (p:n=l.length) (q:bD r l) (a:∀v∈c.nn,(rv r v).k≠0) (m:dw l c.nn b f):∀e∈f.cs,0<=e.1/\e.1<(n:Int)+(b.length:Int)/\(e.1<(n:Int)->(rv r e.1).k=1):=by
 intro e j;obtain⟨_,_,d,g,i⟩:=m.co e j;rw[p];refine⟨d,g,fun h=>?_⟩;obtain⟨s,o⟩:=i h;obtain⟨_,_,u,t,_,w⟩:=eh q s;have:rv r e.1=u:=by unfold rv;rw[t];rfl
 have:=a e.1 o;rw[‹rv r e.1=u›] at this ⊢;omega
end
def AvP (w:World) (vs:List Int) (e:Ending) (a:World):Prop:=∃A c,e=.returned (.tuple #[.slice A vs.length c,.bool true])/\Z (ag a8 a (fun g=>w.heap.size<=g) A vs)/\Z (ad [] w a)
theorem oH (C:Nat->Prop) (l:List Vb) (r:List Vl) (c:Cla) (s:Sv) (w:World) (A:Option Addr) (n cr:Nat) (hn:n=r.length) (hl:l.length<=10) (K:Cla.Ok l c) (T:bD r l) (ab:∀v∈c.nn,(rv r v).k≠0) (t:c.ax.length<=90000000) (hC:er w C c s) (hA:gI w A r):
 Calls Tryz.prog 87 #[.agg (clL c s).toArray,.slice A n cr] w (AvP w (axV (fiR r) (ftR r) n c.ax)):=by
  have q:n=l.length:=hn.trans T.len;have bu:n<=10:=by omega
  obtain⟨xs,d⟩:∃x,x=c.ax:=⟨_,rfl⟩;have VA:Z (∀(j:Nat) (x:Ax),xs[j]? =some x->x.b≠0->∀(W:World) (fA:Option Addr) (fc:Nat) (N:Option Addr) (O:Nat) (D E:Nat->Prop),ad [] w W->ag bh W D fA x.of.cs->ag a8 W E N (axV (fiR r) (ftR r) n (xs.take j))->
   Calls Tryz.prog 88 #[.agg #[I x.of.k,.slice fA x.of.cs.length fc],.slice A n cr,.slice N j O] W (VvP W (dN (fiR r) n (axV (fiR r) (ftR r) n (xs.take j)) x.of))):=bZ (fun j x y hb W fA fc N O D E P hF hV=>by
   have hj:j<xs.length:=(CV.1 y).1
   have hf:dw l c.nn (bV n (xs.take j)) x.of:=by
    rw[d] at y ⊢;rw[q];exact((K.ax j x y).resolve_left (fun h=>hb h.1)).2.2.2
   have b1:(bV n (xs.take j)).length=j:=by rw[eI,CY];omega
   have S:=ug q T ab hf
   rw[b1] at S
   have br:j=(axV (fiR r) (ftR r) n (xs.take j)).length:=by rw[mD,CY];omega
   have a5:=lV (n:=n) (xs:=xs.take j) T (by rw[d,q];exact uB K T j (by rw[<-d];omega))
   exact p8 D E W x.of fA x.of.cs.length fc r A n cr _ N j O (bV n (xs.take j)) rfl (gD hf (by omega) (by rw[b1];rw[<-d] at t;omega)) hn (by omega) br (by rw[<-d] at t;omega)
    (fun e he=>⟨(S e he).1,(S e he).2.1,(S e he).2.2,a5 e.1⟩) (by have:=hf.bd;rwa [<-q] at this) hF hV (hA.keep0 P))
  have OX:Z (∀(j:Nat) x,xs[j]? =some x->(x.b=0/\x.of=⟨0,[]⟩/\∃(k:Nat) (v:Vl),x.x=(k:Int)/\k<n/\r[k]? =some v/\v.k=2/\v.s.size<=16/\ftR r x.x=(v.s.size:Int))\/(1<=x.b/\x.b<=1000/\x.x=0/\(dN (fiR r) n (axV (fiR r) (ftR r) n (xs.take j)) x.of).natAbs<=4611686018427387904)):=bZ (fun j x y=>by
   have hj:j<xs.length:=(CV.1 y).1;have a5:=lV (n:=n) (xs:=xs.take j) T (by rw[d,q];exact uB K T j (by rw[<-d];omega));have aa:=qI (f:=x.of) a5;rcases K.ax j x (by rw[<-d];exact y) with ⟨h1,h2,h3⟩ | ⟨h1,h2,h3,h4⟩
   ·refine .inl ⟨h1,h2,?_⟩;obtain⟨p0,p1,u,hu,_,hk⟩:=eh T h3.1;have bp:=ab _ h3.2;have e:rv r x.x=u:=by unfold rv;rw[hu];rfl
    rw[e] at bp;have e2:ftR r x.x=(u.s.size:Int):=by unfold ftR;rw[hu];rfl
    have e3:=(gG T x.x).2;rw[e2] at e3;exact⟨x.x.toNat,u,by omega,by omega,hu,by omega,by omega,e2⟩
   refine .inr ⟨h1,h2,h3,?_⟩;have:=h4.bd;rw[<-q,<-d] at this;omega)
  have RA:=bZ hC.r2;rw[<-d] at RA t ⊢;have b6:c.ax.length=xs.length:=by rw[d]
  unfold clL;rw[b6];obtain⟨m,hm⟩:∃m,m=xs.length:=⟨_,rfl⟩;rw[<-hm] at t ⊢;have b5:=bZ hm;replace hA:=bZ hA;clear hn hl K T ab hC q d b6 hm;generalize c.nul.length=n0 at*;generalize c.nn.length=n1 at*;generalize c.is.length=n3 at*;generalize c.ts.length=n4 at*;generalize c.sm.length=n5 at*;generalize c.df.length=n6 at*;obtain⟨W1,Q⟩:∃W,W=w.alloc (.cells #[.slice s.A0 n0 s.c0,.slice s.A1 n1 s.c1,.slice s.A2 m s.c2,.slice s.A3 n3 s.c3,.slice s.A4 n4 s.c4,.slice s.A5 n5 s.c5,.slice s.A6 n6 s.c6] 114):=⟨_,rfl⟩;obtain⟨g2,a9⟩:∃g,g=w.heap.size:=⟨_,rfl⟩;have k1:Z (ad [] w W1):=bZ (by rw[Q];exact(ad.refl [] w).alloc _);have b2:Z (Blk W1 g2 114 #[.slice s.A0 n0 s.c0,.slice s.A1 n1 s.c1,.slice s.A2 m s.c2,.slice s.A3 n3 s.c3,.slice s.A4 n4 s.c4,.slice s.A5 n5 s.c5,.slice s.A6 n6 s.c6]):=bZ (by rw[Q,a9];exact Blk.new w 114 _);have bq:Z (w.heap.size<=W1.heap.size):=bZ k1.o.size;generalize s.A2=A2 at*;go_enter Tryz.func87,Tryz.ntmps87;go_upto_region 1 with fail;rw[<-Q,<-a9];clear Q a9;go_wp2_with fail;go_loopw [6,7] (fun s6 s7 wr=>∃(j:Nat) (N:Option Addr) (O:Nat) (a:List Int),j<=m/\s6=.slice N j O/\s7=I (j:Int)/\Z (a.length=j)/\Z (a=axV (fiR r) (ftR r) n (xs.take j))/\Z (af a8 1 2 (fun _=>False) W1.heap.size wr N O a)/\Z (ad [] W1 wr)) (fun _ s7 _=>m - (intOf s7).toNat)
  case atStart=>exact⟨0,none,0,[],C3 _,rfl,rfl,bZ rfl,bZ rfl,bZ af.nil,bZ (ad.refl _ _)⟩
  case round=>
   obtain⟨j,N,O,a,hj,rfl,rfl,i,F,hG,a3⟩:=hrel;obtain⟨wo,bs⟩:∃x,x=wr:=⟨_,rfl⟩;subst bs;have ak:=bZ (k1.o.trans a3.o);have e2:=bZ (b2.o.keep a3.o (by simp));have y2:=e2.o.cell;have bm:=e2.o.lt;by_cases bo:j<m
   ·obtain⟨x,y⟩:∃v,xs[j]? =some v:=⟨_,CT (by rw[<-b5.o];exact bo)⟩;obtain⟨g,ca,rc,a1,aq,hg,hI,B⟩:=(RA.o.keep0 ak.o).get fO (by decide) y;obtain⟨fA,fc,rfl,b3,bx,a6⟩:=rj.1 hI;have x0:=B 0 _ rfl;have x1:=B 1 _ rfl;have x2:=B 2 _ rfl;have x3:=B 3 _ rfl;rw[Fg] at x0;have bz:(j:Int)<(m:Int):=by omega
    have wj:IntKind.i64.wrap ((j:Int)+1)=(j:Int)+1:=C0 _ (by omega);have R:Z (axV (fiR r) (ftR r) n (xs.take (j+1))=a++[if x.b=0 then ftR r x.x else dN (fiR r) n a x.of/x.b]):=bZ (by rw[cN y,oG,<-F.o];rfl);have b8:=OX.o j x y;rw[<-F.o] at b8;subst a1;obtain⟨W2,p⟩:∃W,W=wo.alloc (.cells #[I x.of.k,.slice fA x.of.cs.length fc,I x.b,I x.x] 168):=⟨_,rfl⟩;obtain⟨g7,J⟩:∃g,g=wo.heap.size:=⟨_,rfl⟩;have k2:Z (ad [] wo W2):=bZ (by rw[p];exact(ad.refl [] wo).alloc _);have b7:Z (Blk W2 g7 168 #[I x.of.k,.slice fA x.of.cs.length fc,I x.b,I x.x]):=bZ (by rw[p,J];exact Blk.new wo 168 _);have bk:=bZ (ak.o.trans k2.o);have a2:=bZ (fun (W:World) (P:ad [] W2 W)=>hG.o.keep0 (k2.o.trans P));have ar:=bZ (fun (W:World) (P:ad [] W2 W)=>(a3.o.trans k2.o).trans P);rcases b8 with ⟨a4,ac,k,v,bf,bn,b9,ba,c8,b4⟩ | ⟨av,b0,bc,aa⟩
    ·have H:Z (axV (fiR r) (ftR r) n (xs.take (j+1))=a++[(v.s.size:Int)]):=bZ (by rw[R.o,if_pos a4,b4]);obtain⟨⟨xk,bt⟩,xb,xx⟩:=x;dsimp only at a4 ac bf x0 x1 x2 x3 p b7;obtain⟨rfl,rfl⟩:xk=0/\bt=[]:=by simpa using ac
     subst a4;subst bf;simp only[D6] at x1 p b7;obtain⟨ga,oa,a1,c0,c1,c2⟩:=(hA.o.keep0 bk.o) k v b9;subst a1;rw[ba] at c0;have c7:(k:Int)<(n:Int):=by omega
     obtain⟨z,hz⟩:∃z,z=v.s.size:=⟨_,rfl⟩;clear ac R hI B y aq b3 a6 ba b4 b9 bn;go_upto_region 7 with fail;rw[<-p,<-J];clear p J x0 x1 x2 x3 y2 bm;have p7:=b7.o.cell;have a0:=b7.o.lt;go_wp2_with (at_builtin;refine aw (f:=a8) (W0:=W1) (X:=[]) (by rfl) (.tmp 33) (.tmp 41) 163 rfl 8 _ Tryz.underlying163 qQ rfl (by decide) (L:=a) (v.s.size:Int) ((a2.o _ (ad.refl _ _)).keep0 ((ad.refl [] W2).alloc _)) ((ar.o _ (ad.refl _ _)).alloc _) (by rw[i.o];rfl) (V W2.heap.size) 1 [I (v.s.size:Int)] rfl rfl aF (cU.2 rfl) (by rw[i.o];omega) (by rw[i.o];unfold maxLen;omega) ?_;intro am an w9 G9 K9 q9;rw[i.o]);go_roundw
     case rel=>exact⟨j+1,am,an,a++[(v.s.size:Int)],by omega,by first | rfl | simp,by go_num,bZ (by simp[i.o]),bZ H.o.symm,G9,K9⟩
     case measure=>simp[intOf];omega
    obtain⟨Y,hY⟩:∃Y,Y=dN (fiR r) n a x.of/x.b:=⟨_,rfl⟩;have H:Z (axV (fiR r) (ftR r) n (xs.take (j+1))=a++[Y]):=bZ (by rw[R.o,if_neg (by omega),hY]);have ap:=bZ (fun (W:World) (P:ad [] W2 W)=>VA.o j x y (by omega) W fA fc N O _ _ (bk.o.trans P) ((a6.keep0 k2.o).keep0 P) (by rw[<-F.o];exact((a2.o W P).rows)));rw[<-F.o] at ap;have ao:=bZ (fun W=>lj W (dN (fiR r) n a x.of) x.b aa ⟨av,b0⟩);rw[<-hY] at ao;generalize dN (fiR r) n a x.of=M at*;rw[bc] at b7 p x3;generalize x.of.k=xk at*;generalize x.of.cs.length=xl at*;generalize x.b=bb at*;have c9:(bb==0)=false:=by simp;omega
    clear R hI B y aq b3 a6 bc av b0 aa hY;go_upto_region 10 with fail;rw[<-p,<-J];clear p J x0 x1 x2 x3 y2 bm;have p7:=b7.o.cell;have a0:=b7.o.lt;go_wp2_with (first
     | (go_at_call 88;clear p7 a0;refine(ap.o _ (ad.refl _ _)).mono ?_;rintro e w8 ⟨rfl,k8⟩;have f7:=bZ (b7.o.keep k8.o (by simp));have p7:=f7.o.cell;have a0:=f7.o.lt)
     | (go_at_call 124;clear p7 a0;refine(ao.o _).mono ?_;rintro e w9 ⟨rfl,h9⟩;subst h9)
     | (at_builtin;refine aw (f:=a8) (W0:=W1) (X:=[]) (by rfl) (.tmp 53) (.tmp 58) 163 rfl 8 _ Tryz.underlying163 qQ rfl (by decide) (L:=a) Y ((a2.o _ k8.o).keep0 ((ad.refl [] _).alloc _)) ((ar.o _ k8.o).alloc _) (by rw[i.o];rfl) (V _) 1 [I Y] rfl rfl aF (cU.2 rfl) (by rw[i.o];omega) (by rw[i.o];unfold maxLen;omega) ?_;intro am an w9 G9 K9 q9;rw[i.o]))
    go_roundw
    case rel=>exact⟨j+1,am,an,a++[Y],by omega,by first | rfl | simp,by go_num,bZ (by simp[i.o]),bZ H.o.symm,G9,K9⟩
    case measure=>simp[intOf];omega
   obtain rfl:j=m:=by omega
   have au:Z (a=axV (fiR r) (ftR r) n xs):=bZ (by rw[F.o,C6 (by rw[<-b5.o];exact C9 _)]);go_wp2_with fail;refine bodyPost_ret (v:=.tuple #[.slice N j O,.bool true]) (by simp[results,Tryz.results87,go_sem]) rfl ?_;refine⟨N,O,?_,bZ ?_,ak⟩
   ·rw[<-au.o,i.o]
   rw[<-au.o];exact hG.o.rows.mono (fun g _ h=>by have:=bq.o;(try dsimp only at h);first | omega | exact(h.elim (fun h=>h.elim) (fun h=>Dc this h)))
end
end Go.Proofs.YtldmkbhgdbafhaaGreat
