import Derived.Test.YtldmkbhgdbafhaaGreatL25
namespace Go.Proofs.YtldmkbhgdbafhaaGreat
open Go.RowKit
set_option linter.unusedSimpArgs false
set_option linter.unusedVariables false
set_option maxRecDepth 100000
set_option maxHeartbeats 64000000
theorem qw (C D:Nat->Prop) (l:List Vb) (c:Cla) (s:Sv) (w:World) (ps:List (Int×Int)) (A:Option Addr) (n pc:Nat) (L:Option Addr) (R Y:Nat) (hn:n=ps.length) (r:n<=100000000) (N:R=l.length) (hs:pY l c) (hp:∀e∈ps,e.1<e.2/\txU l c.nn e.1/\txU l c.nn e.2)
 (hA:ag bh w D A ps) (hC:er w C c s) (hV:bR w L l):Calls Tryz.prog 86 #[.slice A n pc,.agg (clL c s).toArray,.slice L R Y] w (RoP w (.bool true)):=by
  have TX:Z (∀W v,ad [] w W->txU l c.nn v->Calls Tryz.prog 82 #[I v,.agg (clL c s).toArray,.slice L R Y] W (RoP W (.bool true))):=bZ (fun W v F hv=>sC C l c s W v L R Y N hs hv (hC.keep0 F) (hV.keep0 F));have a2:=bZ hn;replace hA:=bZ hA;replace hp:=bZ hp;unfold clL at*;generalize c.nul.length=n0 at*;generalize c.nn.length=n1 at*;generalize c.ax.length=n2 at*;generalize c.is.length=n3 at*;generalize c.ts.length=n4 at*;generalize c.sm.length=n5 at*;generalize c.df.length=n6 at*;obtain⟨X,q⟩:∃W,W=w.alloc (.cells #[.slice s.A0 n0 s.c0,.slice s.A1 n1 s.c1,.slice s.A2 n2 s.c2,.slice s.A3 n3 s.c3,.slice s.A4 n4 s.c4,.slice s.A5 n5 s.c5,.slice s.A6 n6 s.c6] 114):=⟨_,rfl⟩;obtain⟨a,t⟩:∃g,g=w.heap.size:=⟨_,rfl⟩;have Q:Z (ad [] w X):=bZ (by rw[q];exact(ad.refl [] w).alloc _);have b4:Z (Blk X a 114 #[.slice s.A0 n0 s.c0,.slice s.A1 n1 s.c1,.slice s.A2 n2 s.c2,.slice s.A3 n3 s.c3,.slice s.A4 n4 s.c4,.slice s.A5 n5 s.c5,.slice s.A6 n6 s.c6]):=bZ (by rw[q,t];exact Blk.new w 114 _);clear hn hC hV hs N;go_enter Tryz.func86,Tryz.ntmps86;go_upto_region 2 with fail;rw[<-q,<-t];clear q t;go_loopw [7] (fun s7 wr=>∃j:Nat,j<=n/\s7=I (j:Int)/\Z (ad [] X wr)) (fun s7 _=>n - (intOf s7).toNat)
  case atStart=>exact⟨0,C3 _,rfl,bZ (ad.refl _ _)⟩
  obtain⟨j,hj,rfl,i⟩:=hrel;obtain⟨E,a3⟩:∃x,x=wr:=⟨_,rfl⟩;subst a3;by_cases a1:j<n
  ·obtain⟨x,hx⟩:∃v,ps[j]? =some v:=⟨_,CT (by rw[<-a2.o];exact a1)⟩;obtain⟨g,k,rc,rfl,a0,hg,hI,z⟩:=(hA.o.keep0 (Q.o.trans i.o)).get aV (by decide) hx;obtain rfl:=eD.1 hI;have T:=z 0 _ rfl;have x1:=z 1 _ rfl;rw[Fg] at T;have a4:(j:Int)<(n:Int):=by omega
   have wj:IntKind.i64.wrap ((j:Int)+1)=(j:Int)+1:=C0 _ (by omega);obtain⟨O,u,y⟩:=hp.o x (CW hx);obtain⟨H,J⟩:=x;dsimp only at T x1 O u y;have TA:=bZ (fun W (F:ad [] E W)=>TX.o W H ((Q.o.trans i.o).trans F) u);have TB:=bZ (fun W (F:ad [] E W)=>TX.o W J ((Q.o.trans i.o).trans F) y);have q0:(J<=H)=False:=by simp;omega
   have a5:decide (J<=H)=false:=by simp;omega
   have p:Z (∀m,ad [] E m->m.cell? (U g (k+j*2))=some (I H)/\m.cell? (U g (k+j*2+1))=some (I J)/\m.cell? (U a 0)=G s.A0 n0 s.c0/\m.cell? (U a 1)=G s.A1 n1 s.c1/\m.cell? (U a 2)=G s.A2 n2 s.c2/\m.cell? (U a 3)=G s.A3 n3 s.c3/\m.cell? (U a 4)=G s.A4 n4 s.c4/\m.cell? (U a 5)=G s.A5 n5 s.c5/\m.cell? (U a 6)=G s.A6 n6 s.c6):=bZ (fun m h=>by
    have r:=(b4.o.keep i.o (by simp)).keep h (by simp);exact⟨h.cellEq T (by simp),h.cellEq x1 (by simp),r.cell 0,r.cell 1,r.cell 2,r.cell 3,r.cell 4,r.cell 5,r.cell 6⟩)
   clear hI z hx a0 O u y T x1;go_upto_region 4 with fail;refine ae (S:=(fun d:World=>d.cell? (U g (k+j*2))=some (I H)/\d.cell? (U g (k+j*2+1))=some (I J)/\d.cell? (U a 0)=G s.A0 n0 s.c0/\d.cell? (U a 1)=G s.A1 n1 s.c1/\d.cell? (U a 2)=G s.A2 n2 s.c2/\d.cell? (U a 3)=G s.A3 n3 s.c3/\d.cell? (U a 4)=G s.A4 n4 s.c4/\d.cell? (U a 5)=G s.A5 n5 s.c5/\d.cell? (U a 6)=G s.A6 n6 s.c6)) (n:=33) (by kernel_rfl) ?_;have f:(fun d:World=>d.cell? (U g (k+j*2))=some (I H)/\d.cell? (U g (k+j*2+1))=some (I J)/\d.cell? (U a 0)=G s.A0 n0 s.c0/\d.cell? (U a 1)=G s.A1 n1 s.c1/\d.cell? (U a 2)=G s.A2 n2 s.c2/\d.cell? (U a 3)=G s.A3 n3 s.c3/\d.cell? (U a 4)=G s.A4 n4 s.c4/\d.cell? (U a 5)=G s.A5 n5 s.c5/\d.cell? (U a 6)=G s.A6 n6 s.c6) E.drew:=p.o _ (ad.refl [] E).drew
   try dsimp only at f
   refine ord [0,1,2,3,4,5,6] ?_
   iterate 7 (refine tq f ?_;try simp only[PT,Y1,Y2,Y3])
   refine aB ?_;refine J1 7 fun K M=>?_;dsimp only[Y1,Y2,Y3];go_simp;refine(TA.o _ (ad.refl [] E).drew).mono ?_;rintro e w5 ⟨rfl,k5⟩;have B:=bZ ((ad.refl [] E).drew.trans k5.o);have b:=p.o w5 B.o
   try dsimp only at b
   refine M _ _ (.inr b) ?_;clear M K f;have f:=b;clear b
   try simp only[PT,Y1,Y2,Y3]
   refine ord [8,9,10,11,12,13,14,15,16] ?_
   iterate 2 (refine tq f ?_;try simp only[PT,Y1,Y2,Y3])
   iterate 7 (first | (refine tu f ?_;try simp only[PT,Y1,Y2,Y3]) | (refine tq f ?_;try simp only[PT,Y1,Y2,Y3]))
   refine aB ?_;refine J1 17 fun K M=>?_;dsimp only[Y1,Y2,Y3];go_simp;refine(TB.o _ B.o).mono ?_;rintro e w6 ⟨rfl,k6⟩;have P:=bZ (B.o.trans k6.o);have b:=p.o w6 P.o
   try dsimp only at b
   refine M _ _ (.inr b) ?_;clear M K f;have f:=b;clear b
   try simp only[PT,Y1,Y2,Y3]
   refine ord [18,19,20,21,22,23,24,25,26,27,28,29,30,31,32] ?_
   first | (refine tu f ?_;try simp only[PT,Y1,Y2,Y3]) | (refine tq f ?_;try simp only[PT,Y1,Y2,Y3])
   iterate 2 (refine tq f ?_;try simp only[PT,Y1,Y2,Y3])
   iterate 11 (first | (refine tu f ?_;try simp only[PT,Y1,Y2,Y3]) | (refine tq f ?_;try simp only[PT,Y1,Y2,Y3]))
   refine tq f ?_;try simp only[PT,Y1,Y2,Y3]
   refine aB ?_;refine JD ?_;clear f p;go_wp2_with fail;go_roundw
   case rel=>exact⟨j+1,by omega,by go_num,bZ (i.o.trans P.o)⟩
   case measure=>simp[intOf];omega
  obtain rfl:j=n:=by omega
  go_wp2_with fail;go_ret;exact⟨rfl,bZ (Q.o.trans i.o)⟩
theorem f9 (g:Int->Nat):∀(a:List (Int×Int)) (e:Int×Int),cI g (a++[e])=cI g a+e.2.natAbs*g e.1
 | [],e=>by simp[cI]
 | x::a,e=>by simp only[D3,cI,f9 g a e];omega
theorem lF (g:Int->Nat) (cs:List (Int×Int)) (j:Nat):cI g (cs.take j)<=cI g cs:=by
 have:∀(a b:List (Int×Int)),cI g (a++b)=cI g a+cI g b:=by
  intro a
  induction a with
  | nil=>intro b;simp[cI]
  | cons x a ih=>intro b;simp only[D3,cI,ih];omega
 have:=this (cs.take j) (cs.drop j);rw[Du] at this;omega
theorem uG {l:List (Int×Int)} (h:kR l) {j:Nat} {a b:Int×Int} (c:l[j]? =some a) (d:l[j+1]? =some b):a.1<b.1:=by
 obtain⟨p,rfl⟩:=CV.1 c;obtain⟨q,rfl⟩:=CV.1 d;exact Ex.1 h j (j+1) p q (by omega)
theorem sg {S P:Nat} (h:S+P<=1152921504606846977):IntKind.i64.wrap ((S:Int)+(P:Int))=((S+P:Nat):Int)/\wrap64 ((S:Int)+(P:Int))=((S+P:Nat):Int)/\((1152921504606846977:Int)<((S+P:Nat):Int))=False/\(1152921504606846977<S+P)=False:=by
 refine⟨?_,?_,eq_false (by omega),eq_false (by omega)⟩
 ·rw[C0 _ (by omega)];exact(Int.natCast_add S P).symm
 rw[IntWalk.wrap64_in _ (by omega)];exact(Int.natCast_add S P).symm
theorem xB {N:Nat}:wrap64 ((1152921504606846977/N:Nat):Int)=((1152921504606846977/N:Nat):Int)/\IntKind.i64.wrap ((1152921504606846977/N:Nat):Int)=((1152921504606846977/N:Nat):Int):=by
 have:=Nat.div_le_self 1152921504606846977 N;generalize 1152921504606846977/N=q at*;exact⟨IntWalk.wrap64_in _ (by omega),C0 _ (by omega)⟩
theorem xU (C D E:Nat->Prop) (l:List Vb) (c:Cla) (s:Sv) (w:World) (f:Lin) (fA:Option Addr) (M fc:Nat) (bs:List Nat) (bA:Option Addr) (bn bc:Nat) (L:Option Addr) (q cl:Nat) (bp:M=f.cs.length) (ek:M<=100000000) (bo:bn=bs.length) (eg:bn<=100000000) (av:q=l.length) (hs:pY l c) (hf:dw l c.nn bs f)
 (hF:ag bh w D fA f.cs) (hB:ag a8 w E bA (bs.map Int.ofNat)) (hC:er w C c s) (hV:bR w L l):
 Calls Tryz.prog 83 #[.agg #[I f.k,.slice fA M fc],.agg (clL c s).toArray,.slice L q cl,.slice bA bn bc] w (RoP w (I (lbd q bs f:Nat))):=by
  have cc:Z (∀W v,ad [] w W->v∈c.nn->Calls Tryz.prog 122 #[.slice s.A1 c.nn.length s.c1,I v] W (RoP W (.bool true))):=bZ (fun W v hW hv=>by
   have:=tO C W c.nn v s.A1 c.nn.length s.c1 rfl (by have:=(j0 hs).2;omega) (hC.r1.keep0 hW);rwa [show decide (v∈c.nn)=true from decide_eq_true hv] at this)
  have WI:Z (∀W (v a b:Int),a<=v->v<=b->Calls Tryz.prog 84 #[I v,I a,I b] W (RoP W (.bool true))):=bZ (fun W v a b h1 h2=>by
   have:=mM W v a b;rwa [show (decide (a<=v) && decide (v<=b))=true by simp[h1,h2]] at this)
  have AB:Z (∀W (v:Int) (m:Nat),v.natAbs=m->m<=4611686018427387904->Calls Tryz.prog 123 #[I v] W (RoP W (I (m:Int)))):=bZ (fun W v m h1 h2=>by
   rw[<-h1];exact yJ W v (by omega))
  have e8:q<=10:=by rw[av];exact hs.l0
  have hk:=hf.k;have bf:Z (∀(j:Nat) (e:Int×Int),f.cs[j]? =some e->e.2≠0/\e.2.natAbs<=1048576/\0<=e.1/\e.1<(q:Int)+(bn:Int)/\(e.1<(q:Int)->aK l e.1 1=true/\e.1∈c.nn)/\f.k.natAbs+cI (dR q bs) (f.cs.take j)+e.2.natAbs*dR q bs e.1<=1152921504606846977):=bZ (fun j e he=>by
   have h1:=hf.co e (CW he);rw[<-av,<-bo] at h1;refine⟨h1.1,h1.2.1,h1.2.2.1,h1.2.2.2.1,h1.2.2.2.2,?_⟩;have h2:=hf.bd;rw[<-av] at h2;unfold lbd at h2;have h3:=lF (dR q bs) f.cs (j+1);rw[Dq,he,Option.toList_some,f9] at h3;omega)
  have b8:=bZ hf.asc;have aa:Z (lbd q bs f=f.k.natAbs+cI (dR q bs) f.cs):=bZ rfl;obtain⟨R,hR⟩:∃R,R=lbd q bs f:=⟨_,rfl⟩;rw[<-hR] at aa ⊢;obtain⟨K,bk⟩:∃K,K=f.k.natAbs:=⟨_,rfl⟩;rw[<-bk] at aa bf hk;have cb:=bZ (fun W=>AB.o W f.k K bk.symm (by omega));have cd:=bZ (fun W=>WI.o W f.k (-1099511627777) 1099511627777 (by omega) (by omega));obtain⟨cs,cp⟩:∃x,x=f.cs:=⟨_,rfl⟩;rw[<-cp] at hF bf b8 aa bp;have ar:=bZ bp;have b9:=bZ bo;replace hF:=bZ hF;replace hB:=bZ hB;have e9:=bZ av;replace hV:=bZ hV;clear bp bo av hf hs hR bk cp hC;unfold clL;generalize f.k=fk at*;generalize c.nn.length=n1 at*;generalize c.nul.length=n0 at*;generalize c.ax.length=n2 at*;generalize c.is.length=n3 at*;generalize c.ts.length=n4 at*;generalize c.sm.length=n5 at*;generalize c.df.length=n6 at*;obtain⟨W1,ao⟩:∃W,W=(w.alloc (.cells #[I fk,.slice fA M fc] 166)).alloc (.cells #[.slice s.A0 n0 s.c0,.slice s.A1 n1 s.c1,.slice s.A2 n2 s.c2,.slice s.A3 n3 s.c3,.slice s.A4 n4 s.c4,.slice s.A5 n5 s.c5,.slice s.A6 n6 s.c6] 114):=⟨_,rfl⟩;obtain⟨g4,bq⟩:∃g,g=w.heap.size:=⟨_,rfl⟩;obtain⟨g5,br⟩:∃g,g=w.heap.size+1:=⟨_,rfl⟩;have k1:Z (ad [] w W1):=bZ (by rw[ao];exact((ad.refl [] w).alloc _).alloc _);have b4:Z (Blk W1 g4 166 #[I fk,.slice fA M fc]):=bZ (by rw[ao,bq];exact(Blk.new w 166 _).alloc _);have b5:Z (Blk W1 g5 114 #[.slice s.A0 n0 s.c0,.slice s.A1 n1 s.c1,.slice s.A2 n2 s.c2,.slice s.A3 n3 s.c3,.slice s.A4 n4 s.c4,.slice s.A5 n5 s.c5,.slice s.A6 n6 s.c6]):=bZ (by
   rw[ao,br];have:=Blk.new (w.alloc (.cells #[I fk,.slice fA M fc] 166)) 114 #[.slice s.A0 n0 s.c0,.slice s.A1 n1 s.c1,.slice s.A2 n2 s.c2,.slice s.A3 n3 s.c3,.slice s.A4 n4 s.c4,.slice s.A5 n5 s.c5,.slice s.A6 n6 s.c6];rwa [Fl] at this)
  go_enter Tryz.func83,Tryz.ntmps83;go_upto_region 1 with fail;rw[<-ao,<-br,<-bq];clear ao bq br;have z4:=b4.o.cell;have ca:=b4.o.lt;go_wp2_with (first | (go_at_call 84;clear z4 ca;refine(cd.o _).mono ?_;rintro e w5 ⟨rfl,k5⟩;have c4:=bZ (b4.o.keep k5.o (by simp));have z4:=c4.o.cell;have ca:=c4.o.lt) | (go_at_call 123;clear z4 ca;refine(cb.o _).mono ?_;rintro e w6 ⟨rfl,k6⟩;have b7:=bZ (k5.o.trans k6.o)));clear c4;have d4:=bZ (b4.o.keep b7.o (by simp));have d5:=bZ (b5.o.keep b7.o (by simp));have F:=bZ (k1.o.trans b7.o);clear k5 k6 b7 b4 b5 k1 cd cb;go_loopw [9,10] (fun s9 c9 wr=>∃(j S:Nat),j<=M/\s9=I (S:Int)/\c9=I (j:Int)/\Z (S=K+cI (dR q bs) (cs.take j))/\Z (ad [] w6 wr)) (fun _ c9 _=>M - (intOf c9).toNat)
  case atStart=>exact⟨0,K,C3 _,rfl,rfl,bZ (by simp[cI]),bZ (ad.refl _ _)⟩
  obtain⟨j,S,hj,rfl,rfl,hS,t⟩:=hrel;obtain⟨wo,dk⟩:∃x,x=wr:=⟨_,rfl⟩;subst dk;have e4:=bZ (d4.o.keep t.o (by simp));have e5:=bZ (d5.o.keep t.o (by simp));have y4:=e4.o.cell;have e6:=e4.o.lt;by_cases d8:j<M
  ·obtain⟨x,hx⟩:∃v,cs[j]? =some v:=⟨_,CT (by rw[<-ar.o];exact d8)⟩;obtain⟨g,H,rc,d3,d0,hg,hI,c7⟩:=(hF.o.keep0 (F.o.trans t.o)).get aV (by decide) hx;subst d3;obtain rfl:=eD.1 hI;have x0:=c7 0 _ rfl;have x1:=c7 1 _ rfl;rw[Fg] at x0;obtain⟨bx,bz,cq,cr,a4,ak⟩:=bf.o j x hx;obtain⟨va,vb⟩:=x;dsimp only at x0 x1 bx bz cq cr a4 ak;rw[<-hS.o] at ak;obtain⟨k,rfl⟩:∃k:Nat,(k:Int)=va:=⟨va.toNat,by omega⟩;have a3:Z (∀i,i+1=j->∃ya:Int,∃yb,wo.cell? (U g (H+i*2))=some (I ya)/\wo.cell? (U g (H+i*2+1))=some (I yb)/\ya<(k:Int)):=bZ (fun i hi=>by
    obtain⟨y,hy⟩:∃v,cs[i]? =some v:=⟨_,CT (by rw[<-ar.o];omega)⟩;obtain⟨g2,ee,ex,he,_,_,d1,ct⟩:=(hF.o.keep0 (F.o.trans t.o)).get aV (by decide) hy;cases he;obtain rfl:=eD.1 d1;have a0:=ct 0 _ rfl;have a1:=ct 1 _ rfl;rw[Fg] at a0;exact⟨y.1,y.2,a0,a1,uG b8.o hy (by rw[hi];exact hx)⟩)
   obtain⟨N,hN⟩:∃N,N=vb.natAbs:=⟨_,rfl⟩;obtain⟨B,b3⟩:∃B,B=dR q bs (k:Int):=⟨_,rfl⟩;rw[<-hN,<-b3] at ak;rw[<-hN] at bz;have ef:1<=N:=by omega
   have b2:=bZ (fun W=>AB.o W vb N hN.symm (by omega));have ck:=bZ (fun W=>WI.o W vb (-1048576) 1048576 (by omega) (by omega));have ac:Z (S+N*B=K+cI (dR q bs) (cs.take (j+1))):=bZ (by rw[Dq,hx,Option.toList_some,f9,hS.o,hN,b3];dsimp only;omega);have cm:N*B<=1152921504606846977:=by omega
   have ba:B<=1152921504606846977/N:=(Nat.le_div_iff_mul_le (by omega)).2 (by rw[EJ];exact cm);have en:(j:Int)<(M:Int):=by omega
   have wj:IntKind.i64.wrap ((j:Int)+1)=(j:Int)+1:=C0 _ (by omega);have q1:((k:Int)<0)=False:=by simp
   have eq:decide ((k:Int)<0)=false:=by simp
   have w2:IntKind.i64.wrap ((q:Int)+(bn:Int))=(q:Int)+(bn:Int):=C0 _ (by omega);have q2:((q:Int)+(bn:Int)<=(k:Int))=False:=by simp;omega
   have es:decide ((q:Int)+(bn:Int)<=(k:Int))=false:=by simp;omega
   have q4:(vb==0)=false:=by simp[bx]
   have qN:((N:Int)==0)=false:=by simp;omega
   have ev:¬(N:Int)=0:=by omega
   have td:Int.tdiv 1152921504606846977 (N:Int)=((1152921504606846977/N:Nat):Int):=by rw[show (1152921504606846977:Int)=((1152921504606846977:Nat):Int) from rfl,Int.ofNat_tdiv]
   have e1:IntKind.i64.wrap (Int.tdiv 1152921504606846977 (N:Int))=((1152921504606846977/N:Nat):Int):=by
    rw[td];exact C0 _ (by have:=Nat.div_le_self 1152921504606846977 N;omega)
   have WQ:=bZ (xB (N:=N));obtain⟨Q,hQ⟩:∃Q,Q=1152921504606846977/N:=⟨_,rfl⟩;rw[<-hQ] at WQ;rw[<-hQ] at ba td e1;have q5:((Q:Int)<(B:Int))=False:=eq_false (by omega);have cx:(Q<B)=False:=eq_false (by omega);obtain⟨P,hP⟩:∃P,P=N*B:=⟨_,rfl⟩;have wm:IntKind.i64.wrap ((N:Int)*(B:Int))=(P:Int):=by rw[<-Int.natCast_mul,<-hP];exact C0 _ (by omega)
   have cy:wrap64 ((N:Int)*(B:Int))=(P:Int):=by rw[<-Int.natCast_mul,<-hP];exact IntWalk.wrap64_in _ (by omega)
   rw[<-hP] at ac ak;obtain⟨wa,e2,q6,dv⟩:=sg (S:=S) (P:=P) ak;obtain⟨T,hT⟩:∃T,T=S+P:=⟨_,rfl⟩;rw[<-hT] at wa e2 ac q6 dv;have e7:k<q+bn:=by omega
   have a9:=bZ b3;clear hI c7 d0 bz cr ak hN b3 ba hQ hP hT cm bx cq hx;obtain⟨W2,b6⟩:∃W,W=wo.alloc (.cells #[I (k:Int),I vb] 215):=⟨_,rfl⟩;obtain⟨z,au⟩:∃g,g=wo.heap.size:=⟨_,rfl⟩;have O:Z (ad [] wo W2):=bZ (by rw[b6];exact(ad.refl [] wo).alloc _);have ab:Z (Blk W2 z 215 #[I (k:Int),I vb]):=bZ (by rw[b6,au];exact Blk.new wo 215 _);go_upto_region 8 with fail;rw[<-b6,<-au];clear b6 au y4 e6 x0 x1;have dy:True:=trivial;by_cases h0:j=0
   ·have dr:decide (0<j)=false:=by simp;omega
    have ds:((0:Int)<(j:Int))=False:=by simp;omega
    clear h0 a3;have a2:Z (∀W',ad [] W2 W'->W'.cell? (U z 0)=some (I (k:Int))/\W'.cell? (U z 1)=some (I vb)/\W'.cell? (U g4 1)=G (some (U g H)) M fc):=bZ (fun W' h=>⟨(ab.o.keep h (by simp)).cell 0,(ab.o.keep h (by simp)).cell 1,((e4.o.keep O.o (by simp)).keep h (by simp)).cell 1⟩);refine ae (S:=(fun Y:World=>Y.cell? (U z 0)=some (I (k:Int))/\Y.cell? (U z 1)=some (I vb)/\Y.cell? (U g4 1)=G (some (U g H)) M fc)) (n:=40) (by kernel_rfl) ?_;have r:(fun Y:World=>Y.cell? (U z 0)=some (I (k:Int))/\Y.cell? (U z 1)=some (I vb)/\Y.cell? (U g4 1)=G (some (U g H)) M fc) W2.drew:=a2.o _ (ad.refl [] W2).drew
    try dsimp only at r
    refine ord [0,1,2,3,4,5,6,7,8,9,10,11,12,13,14,15,16,17,18,19,20,21,22,23,24,25,26,27,28,29,30,31,32,33,34,35,36] ?_
    iterate 4 (refine tq r ?_;try simp only[PT,Y1,Y2,Y3])
    iterate 8 (first | (refine tu r ?_;try simp only[PT,Y1,Y2,Y3]) | (refine tq r ?_;try simp only[PT,Y1,Y2,Y3]))
    iterate 2 (refine tq r ?_;try simp only[PT,Y1,Y2,Y3])
    iterate 14 (first | (refine tu r ?_;try simp only[PT,Y1,Y2,Y3]) | (refine tq r ?_;try simp only[PT,Y1,Y2,Y3]))
    iterate 2 (refine tq r ?_;try simp only[PT,Y1,Y2,Y3])
    iterate 3 (first | (refine tu r ?_;try simp only[PT,Y1,Y2,Y3]) | (refine tq r ?_;try simp only[PT,Y1,Y2,Y3]))
    iterate 2 (refine tq r ?_;try simp only[PT,Y1,Y2,Y3])
    iterate 2 (first | (refine tu r ?_;try simp only[PT,Y1,Y2,Y3]) | (refine tq r ?_;try simp only[PT,Y1,Y2,Y3]))
    refine aB ?_;refine J1 37 fun K hK=>?_;dsimp only[Y1,Y2,Y3];go_simp;refine(ck.o _).mono ?_;rintro e w7 ⟨rfl,k7⟩;have A:=bZ ((ad.refl [] W2).drew.trans k7.o);have J:=a2.o w7 A.o
    try dsimp only at J
    refine hK _ _ (.inr J) ?_;clear hK K r;have r:=J;clear J
    try simp only[PT,Y1,Y2,Y3]
    refine ord [38,39] ?_
    first | (refine tu r ?_;try simp only[PT,Y1,Y2,Y3]) | (refine tq r ?_;try simp only[PT,Y1,Y2,Y3])
    refine tq r ?_;try simp only[PT,Y1,Y2,Y3]
    refine aB ?_;refine JD ?_;clear r a2;have d:=bZ (ab.o.keep A.o (by simp));have f5:=bZ ((e5.o.keep O.o (by simp)).keep A.o (by simp));have kc:=A;by_cases hv:k<q
    ·have bt:((q:Int)<=(k:Int))=False:=eq_false (by omega);have bu:decide ((q:Int)<=(k:Int))=false:=decide_eq_false (by omega);have dc:(q<=k)=False:=eq_false (by omega);obtain⟨ht,hm⟩:=a4 (by omega);obtain⟨_,xv,a5,b0⟩:=cM ht;rw[show ((k:Int)).toNat=k by simp] at a5;obtain⟨gL,cv,bm,t0,_,_,_,_⟩:=hV.o k xv a5;subst bm;rw[b0] at t0;have t7:=(((F.o.trans t.o).trans O.o).trans A.o).cellEq t0 (by simp);have HA:=bZ (fun W hW=>cc.o W (k:Int) hW hm);have b1:=bZ ((F.o.trans t.o).trans O.o);have am:(B:Int)=2147483648:=by rw[a9.o];unfold dR;rw[if_pos (by omega)];rfl
     rw[am] at q5 wm cy;have d6:(k:Int)<(q:Int):=by omega
     clear ht hm a5 b0 t0 hv am a4 cx;have u:=d.o.cell;have p:=d.o.lt;have p5:=f5.o.cell;have c8:=f5.o.lt;obtain⟨wq,a6⟩:=WQ.o;go_wp2_with (first
      | (go_at_call 122;clear u p p5 c8 t7;refine(HA.o _ (b1.o.trans kc.o)).mono ?_;rintro e w8 ⟨rfl,X⟩;have d:=bZ (d.o.keep X.o (by simp));have kc:=bZ (kc.o.trans X.o);have u:=d.o.cell;have p:=d.o.lt)
      | (go_at_call 123;clear u p;refine(b2.o _).mono ?_;rintro e w8 ⟨rfl,X⟩;have d:=bZ (d.o.keep X.o (by simp));have kc:=bZ (kc.o.trans X.o);have u:=d.o.cell;have p:=d.o.lt))
     clear wq a6;go_roundw
     case rel=>exact⟨j+1,T,by omega,by first | rfl | simp,by go_num,ac,bZ ((t.o.trans O.o).trans kc.o)⟩
     case measure=>simp[intOf];omega
    have bt:(q:Int)<=(k:Int):=by omega
    have bu:decide ((q:Int)<=(k:Int))=true:=decide_eq_true (by omega);obtain⟨m,hm⟩:∃m,m=k - q:=⟨_,rfl⟩;have e3:IntKind.i64.wrap ((k:Int) - (q:Int))=(m:Int):=by rw[C0 _ (by omega)];omega
    have ap:bs[m]? =some B:=by
     rw[a9.o];unfold dR;rw[if_neg (by omega),show ((k:Int) - (q:Int)).toNat=m by omega,CT (by rw[<-b9.o];omega)];rfl
    obtain⟨gB,cu,dx,bb,_,_,an,aq⟩:=hB.o.get (j:=m) (x:=(B:Int)) bN (by decide) (by rw[De,ap];rfl);subst bb;obtain rfl:=cU.1 an;have t0:=aq 0 _ rfl;rw[EU,Fg] at t0;have t7:=(((F.o.trans t.o).trans O.o).trans A.o).cellEq t0 (by simp);have d9:(m:Int)<(bn:Int):=by omega
    have b1:=bZ ((F.o.trans t.o).trans O.o);clear hv a4 ap an aq t0 hm;have u:=d.o.cell;have p:=d.o.lt;obtain⟨wq,a6⟩:=WQ.o;go_wp2_with (go_at_call 123;clear u p;(try clear t7);refine(b2.o _).mono ?_;rintro e w8 ⟨rfl,X⟩;have d:=bZ (d.o.keep X.o (by simp));have kc:=bZ (kc.o.trans X.o);have u:=d.o.cell;have p:=d.o.lt);clear wq a6;go_roundw
    case rel=>exact⟨j+1,T,by omega,by first | rfl | simp,by go_num,ac,bZ ((t.o.trans O.o).trans kc.o)⟩
    case measure=>simp[intOf];omega
   obtain⟨i,hi⟩:∃i,i+1=j:=⟨j - 1,by omega⟩;obtain⟨ya,yb,p0,p1,pl⟩:=a3.o i hi;have dr:decide (0<j)=true:=by simp;omega
   have ds:(0:Int)<(j:Int):=by omega
   have q7:((k:Int)<=ya)=False:=by simp;omega
   have eu:decide ((k:Int)<=ya)=false:=by simp;omega
   have wi:IntKind.i64.wrap ((j:Int) - 1)=(i:Int):=by rw[C0 _ (by omega)];omega
   have el:(i:Int)<(M:Int):=by omega
   replace hi:=bZ hi;clear h0 a3 pl;have a2:Z (∀W',ad [] W2 W'->W'.cell? (U z 0)=some (I (k:Int))/\W'.cell? (U z 1)=some (I vb)/\W'.cell? (U g4 1)=G (some (U g H)) M fc/\W'.cell? (U g (H+i*2))=some (I ya)):=bZ (fun W' h=>⟨(ab.o.keep h (by simp)).cell 0,(ab.o.keep h (by simp)).cell 1,((e4.o.keep O.o (by simp)).keep h (by simp)).cell 1,h.cellEq (O.o.cellEq p0 (by simp)) (by simp)⟩);refine ae (S:=(fun Y:World=>Y.cell? (U z 0)=some (I (k:Int))/\Y.cell? (U z 1)=some (I vb)/\Y.cell? (U g4 1)=G (some (U g H)) M fc/\Y.cell? (U g (H+i*2))=some (I ya))) (n:=40) (by kernel_rfl) ?_;have r:(fun Y:World=>Y.cell? (U z 0)=some (I (k:Int))/\Y.cell? (U z 1)=some (I vb)/\Y.cell? (U g4 1)=G (some (U g H)) M fc/\Y.cell? (U g (H+i*2))=some (I ya)) W2.drew:=a2.o _ (ad.refl [] W2).drew
   try dsimp only at r
   refine ord [0,1,2,3,4,5,6,7,8,9,10,11,12,13,14,15,16,17,18,19,20,21,22,23,24,25,26,27,28,29,30,31,32,33,34,35,36] ?_
   iterate 4 (refine tq r ?_;try simp only[PT,Y1,Y2,Y3])
   iterate 8 (first | (refine tu r ?_;try simp only[PT,Y1,Y2,Y3]) | (refine tq r ?_;try simp only[PT,Y1,Y2,Y3]))
   iterate 2 (refine tq r ?_;try simp only[PT,Y1,Y2,Y3])
   iterate 14 (first | (refine tu r ?_;try simp only[PT,Y1,Y2,Y3]) | (refine tq r ?_;try simp only[PT,Y1,Y2,Y3]))
   iterate 2 (refine tq r ?_;try simp only[PT,Y1,Y2,Y3])
   iterate 3 (first | (refine tu r ?_;try simp only[PT,Y1,Y2,Y3]) | (refine tq r ?_;try simp only[PT,Y1,Y2,Y3]))
   iterate 2 (refine tq r ?_;try simp only[PT,Y1,Y2,Y3])
   iterate 2 (first | (refine tu r ?_;try simp only[PT,Y1,Y2,Y3]) | (refine tq r ?_;try simp only[PT,Y1,Y2,Y3]))
   refine aB ?_;refine J1 37 fun K hK=>?_;dsimp only[Y1,Y2,Y3];go_simp;refine(ck.o _).mono ?_;rintro e w7 ⟨rfl,k7⟩;have A:=bZ ((ad.refl [] W2).drew.trans k7.o);have J:=a2.o w7 A.o
   try dsimp only at J
   refine hK _ _ (.inr J) ?_;clear hK K r;have r:=J;clear J
   try simp only[PT,Y1,Y2,Y3]
   refine ord [38,39] ?_
   first | (refine tu r ?_;try simp only[PT,Y1,Y2,Y3]) | (refine tq r ?_;try simp only[PT,Y1,Y2,Y3])
   refine tq r ?_;try simp only[PT,Y1,Y2,Y3]
   refine aB ?_;refine JD ?_;clear r a2;have d:=bZ (ab.o.keep A.o (by simp));have f5:=bZ ((e5.o.keep O.o (by simp)).keep A.o (by simp));have kc:=A;by_cases hv:k<q
   ·have bt:((q:Int)<=(k:Int))=False:=eq_false (by omega);have bu:decide ((q:Int)<=(k:Int))=false:=decide_eq_false (by omega);have dc:(q<=k)=False:=eq_false (by omega);obtain⟨ht,hm⟩:=a4 (by omega);obtain⟨_,xv,a5,b0⟩:=cM ht;rw[show ((k:Int)).toNat=k by simp] at a5;obtain⟨gL,cv,bm,t0,_,_,_,_⟩:=hV.o k xv a5;subst bm;rw[b0] at t0;have t7:=(((F.o.trans t.o).trans O.o).trans A.o).cellEq t0 (by simp);have HA:=bZ (fun W hW=>cc.o W (k:Int) hW hm);have b1:=bZ ((F.o.trans t.o).trans O.o);have am:(B:Int)=2147483648:=by rw[a9.o];unfold dR;rw[if_pos (by omega)];rfl
    rw[am] at q5 wm cy;have d6:(k:Int)<(q:Int):=by omega
    clear ht hm a5 b0 t0 hv am a4 cx;have u:=d.o.cell;have p:=d.o.lt;have p5:=f5.o.cell;have c8:=f5.o.lt;obtain⟨wq,a6⟩:=WQ.o;go_wp2_with (first
     | (go_at_call 122;clear u p p5 c8 t7;refine(HA.o _ (b1.o.trans kc.o)).mono ?_;rintro e w8 ⟨rfl,X⟩;have d:=bZ (d.o.keep X.o (by simp));have kc:=bZ (kc.o.trans X.o);have u:=d.o.cell;have p:=d.o.lt)
     | (go_at_call 123;clear u p;refine(b2.o _).mono ?_;rintro e w8 ⟨rfl,X⟩;have d:=bZ (d.o.keep X.o (by simp));have kc:=bZ (kc.o.trans X.o);have u:=d.o.cell;have p:=d.o.lt))
    clear wq a6;go_roundw
    case rel=>exact⟨j+1,T,by omega,by first | rfl | simp,by go_num,ac,bZ ((t.o.trans O.o).trans kc.o)⟩
    case measure=>simp[intOf];omega
   have bt:(q:Int)<=(k:Int):=by omega
   have bu:decide ((q:Int)<=(k:Int))=true:=decide_eq_true (by omega);obtain⟨m,hm⟩:∃m,m=k - q:=⟨_,rfl⟩;have e3:IntKind.i64.wrap ((k:Int) - (q:Int))=(m:Int):=by rw[C0 _ (by omega)];omega
   have ap:bs[m]? =some B:=by
    rw[a9.o];unfold dR;rw[if_neg (by omega),show ((k:Int) - (q:Int)).toNat=m by omega,CT (by rw[<-b9.o];omega)];rfl
   obtain⟨gB,cu,dx,bb,_,_,an,aq⟩:=hB.o.get (j:=m) (x:=(B:Int)) bN (by decide) (by rw[De,ap];rfl);subst bb;obtain rfl:=cU.1 an;have t0:=aq 0 _ rfl;rw[EU,Fg] at t0;have t7:=(((F.o.trans t.o).trans O.o).trans A.o).cellEq t0 (by simp);have d9:(m:Int)<(bn:Int):=by omega
   have b1:=bZ ((F.o.trans t.o).trans O.o);clear hv a4 ap an aq t0 hm;have u:=d.o.cell;have p:=d.o.lt;obtain⟨wq,a6⟩:=WQ.o;go_wp2_with (go_at_call 123;clear u p;(try clear t7);refine(b2.o _).mono ?_;rintro e w8 ⟨rfl,X⟩;have d:=bZ (d.o.keep X.o (by simp));have kc:=bZ (kc.o.trans X.o);have u:=d.o.cell;have p:=d.o.lt);clear wq a6;go_roundw
   case rel=>exact⟨j+1,T,by omega,by first | rfl | simp,by go_num,ac,bZ ((t.o.trans O.o).trans kc.o)⟩
   case measure=>simp[intOf];omega
  obtain rfl:j=M:=by omega
  have d2:Z ((S:Nat)=R):=bZ (by rw[hS.o,aa.o,C6 (by rw[<-ar.o];exact C9 _)]);go_wp2_with fail;go_ret;rw[<-d2.o];exact⟨rfl,bZ (F.o.trans t.o)⟩
end Go.Proofs.YtldmkbhgdbafhaaGreat
