import Derived.Test.YtldmkbhgdbafhaaGreatL22
namespace Go.Proofs.YtldmkbhgdbafhaaGreat
open Go.RowKit
set_option linter.unusedSimpArgs false
set_option linter.unusedVariables false
set_option maxRecDepth 100000
set_option maxHeartbeats 64000000
theorem tZ (w:World) (L:Option Addr) (E:Nat) (l:List Vb) (c:Nat) (n:c=l.length) (P:c<=E/\E<=maxLen) (O:bR w L l):
 Calls Tryz.prog 6 #[.slice L c E] w (RoP w (.bool (kP l))):=by
  have v:=bZ n;have H:=bZ O;obtain⟨r,C⟩:∃r,r=kP l:=⟨_,rfl⟩;rw[<-C];have W:c<=9223372036854775807:=by have:=P.2;unfold maxLen at this;omega
  have K:Z (∀j x,l[j]? =some x->mw x=false->r=false):=bZ (fun j x f h=>by
   rw[C];unfold kP;rw[pW f h];rfl)
  have A:Z ((∀x∈l,mw x=true)->r=decide (c<=10)):=bZ (fun h=>by
   rw[C];unfold kP;rw[List.all_eq_true.2 h,Bool.true_and,n])
  clear n C O P;go_enter Tryz.func6,Tryz.ntmps6;go_wp2_with fail;go_loopw [3] (fun i wr=>∃j:Nat,j<=c/\i=I j/\Z (∀x∈l.take j,mw x=true)/\Z (ad [] w wr)) (fun i _=>c - (intOf i).toNat)
  case atStart=>exact⟨0,C3 _,rfl,bZ (by simp),bZ (ad.refl _ _)⟩
  obtain⟨j,hj,rfl,D,e⟩:=hrel;obtain⟨wo,N⟩:∃x,x=wr:=⟨_,rfl⟩;subst N;by_cases J:j<c
  ·obtain⟨x,f⟩:=aI (l:=l) (j:=j) (by rw[<-v.o];exact J);obtain⟨g,Y,rfl,x0,x1,x2,x3,x4⟩:=(H.o.keep0 e.o) j x f;have gl:g<wo.heap.size:=block_lt_of_cell x0;have wj:IntKind.i64.wrap ((j:Int)+1)=(j:Int)+1:=C0 _ (by omega);have T:(j:Int)<(c:Int):=by omega
   have b:=bZ (K.o j x f);have z:Z (mw x=true->∀y∈l.take (j+1),mw y=true):=bZ (fun h y p=>by
    rw[Dq,f] at p;rcases CX.1 p with p | p
    ·exact D.o y p
    simp at p;subst p;exact h)
   clear f D;have q:Z (mw x=!(decide (x.ty=1) && (decide (x.low< -2147483648) || decide (2147483647<x.high)) || decide (x.ty=2) && decide (16<x.max) || (!decide (x.ty=1) && !decide (x.ty=2)))):=bZ rfl;obtain⟨k,B,u,X,nb⟩:=x;dsimp only at*;by_cases m:k=1
   ·subst m;by_cases a:B< -2147483648
    ·have s:B< -2147483648:=a;have d:=bZ (b.o (by rw[q.o];simp[a]));go_wp2_with fail;go_ret;exact⟨by rw[d.o];rfl,bZ (e.o.alloc _)⟩
    by_cases t:2147483647<u
    ·have d:=bZ (b.o (by rw[q.o];simp[t]));go_wp2_with fail;go_ret;exact⟨by rw[d.o];rfl,bZ (e.o.alloc _)⟩
    have M:=bZ (z.o (by rw[q.o];simp[a,t]));go_wp2_with fail;go_roundw
    case rel=>exact⟨j+1,by omega,by go_num,M,bZ (e.o.alloc _)⟩
    case measure=>simp[intOf];omega
   have Q:(k==1)=false:=beq_false_of_ne m;have R:(k !=1)=true:=by rw[bne_iff_ne];exact m
   by_cases a:k=2
   ·have S:=bZ a;have s:(k==2)=true:=by rw[a];rfl
    have F:(k !=2)=false:=by rw[a];rfl
    by_cases t:16<X
    ·have d:=bZ (b.o (by rw[q.o];simp[a,t]));clear a m;go_wp2_with fail;go_ret;exact⟨by rw[d.o];rfl,bZ (e.o.alloc _)⟩
    have M:=bZ (z.o (by rw[q.o];simp[a,t]));clear a m;go_wp2_with fail;go_roundw
    case rel=>exact⟨j+1,by omega,by go_num,M,bZ (e.o.alloc _)⟩
    case measure=>simp[intOf];omega
   have s:(k==2)=false:=beq_false_of_ne a;have F:(k !=2)=true:=by rw[bne_iff_ne];exact a
   have d:=bZ (b.o (by rw[q.o];simp[m,a]));clear a m;go_wp2_with fail;go_ret;exact⟨by rw[d.o];rfl,bZ (e.o.alloc _)⟩
  obtain rfl:j=c:=by omega
  have d:=bZ (A.o (fun x f=>D.o x (by rw[C6 (by rw[<-v.o];exact C9 _)];exact f)));clear D;go_wp2_with fail;go_ret;exact⟨by rw[d.o];first | rfl | (simp;omega) | simp,e⟩
theorem xW (w:World) (v:Vl) (x:Vb) (r:v.s.size<=9223372036854775807):
 Calls Tryz.prog 30 #[vV v,.agg #[I x.ty,I x.low,I x.high,I x.max,.bool x.nl]] w (RoP w (.bool (fj v x))):=by
  have l:Z (∀W,Calls Tryz.prog 28 #[.agg #[I v.k,I v.n,.string v.s]] W (RoP W (.bool (vOk v)))):=bZ (fun W=>gP W v r);unfold vV fj;obtain⟨k,n,s⟩:=v;obtain⟨j,f,g,y,z⟩:=x;dsimp only at*;have P:∀a b:Int,decide (a=b)=(a==b):=fun a b=>rfl;generalize vOk ⟨k,n,s⟩=V00 at*;have m:Z (ad [] w ((w.alloc (.cells #[I k,I n,.string s] 23)).alloc (.cells #[I j,I f,I g,I y,.bool z] 67))):=bZ (((ad.refl [] w).alloc _).alloc _);have d:Z (Blk ((w.alloc (.cells #[I k,I n,.string s] 23)).alloc (.cells #[I j,I f,I g,I y,.bool z] 67)) w.heap.size 23 #[I k,I n,.string s]/\Blk ((w.alloc (.cells #[I k,I n,.string s] 23)).alloc (.cells #[I j,I f,I g,I y,.bool z] 67)) (w.heap.size+1) 67 #[I j,I f,I g,I y,.bool z]):=bZ (by
   obtain⟨W,rfl,p,H,N,O⟩:=dX w 23 67 #[I k,I n,.string s] #[I j,I f,I g,I y,.bool z];exact⟨p,H⟩)
  clear r;cases V00
  ·rw[Bool.false_and];go_enter Tryz.func30,Tryz.ntmps30;go_wp2_with (go_at_call 28;refine(l.o _).mono ?_;rintro e q ⟨rfl,c⟩;have i:=bZ (m.o.trans c.o));go_ret;exact⟨rfl,i⟩
  have F:(k=0)\/(k=1/\((j≠1)\/(j=1/\¬f<=n)\/(j=1/\f<=n)))\/((k≠0/\k≠1)/\(j≠2\/j=2)):=by omega
  have M:(s.size:Int)=(s.size:Int):=rfl;rcases F with rfl | ⟨rfl,h | ⟨rfl,h⟩ | ⟨rfl,h⟩⟩ | ⟨⟨C,p⟩,h | rfl⟩
  ·go_enter Tryz.func30,Tryz.ntmps30;go_wp2_with (go_at_call 28;refine(l.o _).mono ?_;rintro e q ⟨rfl,c⟩;have i:=bZ (m.o.trans c.o);have A:=(d.o.1.keep c.o (by simp)).cell;have B:=(d.o.2.keep c.o (by simp)).cell;have t:=(d.o.1.keep c.o (by simp)).lt;have u:=(d.o.2.keep c.o (by simp)).lt);go_ret;exact⟨rfl,i⟩
  ·have J:(j==1)=false:=beq_false_of_ne h;go_enter Tryz.func30,Tryz.ntmps30;go_wp2_with (go_at_call 28;refine(l.o _).mono ?_;rintro e q ⟨rfl,c⟩;have i:=bZ (m.o.trans c.o);have A:=(d.o.1.keep c.o (by simp)).cell;have B:=(d.o.2.keep c.o (by simp)).cell;have t:=(d.o.1.keep c.o (by simp)).lt;have u:=(d.o.2.keep c.o (by simp)).lt);go_ret;exact⟨by simp[h],i⟩
  ·have K:¬n≥f:=h;have L:n<f:=by omega
   go_enter Tryz.func30,Tryz.ntmps30;go_wp2_with (go_at_call 28;refine(l.o _).mono ?_;rintro e q ⟨rfl,c⟩;have i:=bZ (m.o.trans c.o);have A:=(d.o.1.keep c.o (by simp)).cell;have B:=(d.o.2.keep c.o (by simp)).cell;have t:=(d.o.1.keep c.o (by simp)).lt;have u:=(d.o.2.keep c.o (by simp)).lt);go_ret;exact⟨by first | (simp;omega) | simp,i⟩
  ·go_enter Tryz.func30,Tryz.ntmps30;go_wp2_with (go_at_call 28;refine(l.o _).mono ?_;rintro e q ⟨rfl,c⟩;have i:=bZ (m.o.trans c.o);have A:=(d.o.1.keep c.o (by simp)).cell;have B:=(d.o.2.keep c.o (by simp)).cell;have t:=(d.o.1.keep c.o (by simp)).lt;have u:=(d.o.2.keep c.o (by simp)).lt);go_ret;exact⟨by simp[h],i⟩
  ·have D:(k==0)=false:=beq_false_of_ne C;have E:(k==1)=false:=beq_false_of_ne p;have J:(j==2)=false:=beq_false_of_ne h;go_enter Tryz.func30,Tryz.ntmps30;go_wp2_with (go_at_call 28;refine(l.o _).mono ?_;rintro e q ⟨rfl,c⟩;have i:=bZ (m.o.trans c.o);have A:=(d.o.1.keep c.o (by simp)).cell;have B:=(d.o.2.keep c.o (by simp)).cell;have t:=(d.o.1.keep c.o (by simp)).lt;have u:=(d.o.2.keep c.o (by simp)).lt);go_ret;exact⟨by simp[C,p,h],i⟩
  have D:(k==0)=false:=beq_false_of_ne C;have E:(k==1)=false:=beq_false_of_ne p;go_enter Tryz.func30,Tryz.ntmps30;go_wp2_with (go_at_call 28;refine(l.o _).mono ?_;rintro e q ⟨rfl,c⟩;have i:=bZ (m.o.trans c.o);have A:=(d.o.1.keep c.o (by simp)).cell;have B:=(d.o.2.keep c.o (by simp)).cell;have t:=(d.o.1.keep c.o (by simp)).lt;have u:=(d.o.2.keep c.o (by simp)).lt);go_ret;exact⟨by simp[C,p],i⟩
def gI (w:World) (A:Option Addr) (r:List Vl):Prop:=∀(j:Nat) v,r[j]? =some v->∃g off,A=some (U g off)/\w.cell? (U g (off+j*3))=some (I v.k)/\w.cell? (U g (off+j*3+1))=some (I v.n)/\w.cell? (U g (off+j*3+2))=some (.string v.s)
theorem gI.keep0 {w c:World} {A:Option Addr} {r:List Vl} (h:gI w A r) (a:ad [] w c):gI c A r:=fun j v k=>by
 obtain⟨g,b,d,e,f,i⟩:=h j v k;exact⟨g,b,d,a.cellEq e (by simp),a.cellEq f (by simp),a.cellEq i (by simp)⟩
theorem lD:∀ {r:List Vl} {l:List Vb},r.length=l.length->(∀(i:Nat) v x,r[i]? =some v->l[i]? =some x->fj v x=true)->bU r l=true
 | [],[],_,_=>rfl
 | v::r,x::l,h,hf=>by
   simp only[bU,Bool.and_eq_true];exact⟨hf 0 v x rfl rfl,lD (by simpa using h) (fun i v x a b=>hf (i+1) v x (by simpa using a) (by simpa using b))⟩
 | [],x::l,h,_=>by simp at h
 | v::r,[],h,_=>by simp at h
theorem rM {r:List Vl} {l:List Vb} {i:Nat} {v:Vl} {x:Vb} (d:r[i]? =some v) (e:l[i]? =some x) (h:fj v x=false):bU r l=false:=by
 cases c:bU r l
 ·rfl
 obtain⟨y,a,b⟩:=d7 c d;rw[e] at a;cases a;rw[h] at b;cases b
theorem vT (w:World) (A L:Option Addr) (cr cl:Nat) (r:List Vl) (l:List Vb) (n C:Nat) (hn:n=r.length) (N:C=l.length) (hc:n<=cr/\cr<=maxLen) (a5:C<=cl/\cl<=maxLen) (t:∀v∈r,v.s.size<=9223372036854775807) (X:gI w A r) (Y:bR w L l):
 Calls Tryz.prog 8 #[.slice A n cr,.slice L C cl] w (RoP w (.bool (bU r l))):=by
  obtain⟨b,B⟩:∃b,b=bU r l:=⟨_,rfl⟩;rw[<-B];have a9:n<=9223372036854775807:=by have:=hc.2;unfold maxLen at this;omega
  have hF:Z (∀(j:Nat) v x,r[j]? =some v->l[j]? =some x->∀W,Calls Tryz.prog 30 #[.agg #[I v.k,I v.n,.string v.s],.agg #[I x.ty,I x.low,I x.high,I x.max,.bool x.nl]] W (RoP W (.bool (fj v x)))):=bZ (fun j v x f p W=>xW W v x (t v (CW f)));by_cases u:n=C
  ·have a0:((n:Int) !=(C:Int))=false:=by simp[u]
   have a1:Z (∀(j:Nat) v x,r[j]? =some v->l[j]? =some x->fj v x=false->b=false):=bZ (fun j v x f p h=>by rw[B];exact rM f p h);have Q:Z ((∀(i:Nat) v x,r[i]? =some v->l[i]? =some x->fj v x=true)->b=true):=bZ (fun h=>by rw[B];exact lD (by omega) h);have P:=bZ hn;have a2:Z (n=l.length):=bZ (by omega);replace X:=bZ X;replace Y:=bZ Y;subst u;clear B hn N t;go_enter Tryz.func8,Tryz.ntmps8;go_wp2_with fail;go_loopw [5] (fun i wr=>∃j:Nat,j<=n/\i=I j/\Z (∀(i:Nat) v x,i<j->r[i]? =some v->l[i]? =some x->fj v x=true)/\Z (ad [] w wr)) (fun i _=>n - (intOf i).toNat)
   case atStart=>exact⟨0,C3 _,rfl,bZ (fun i v x h=>absurd h (by omega)),bZ (ad.refl _ _)⟩
   obtain⟨j,hj,rfl,hs,J⟩:=hrel;obtain⟨T,a4⟩:∃x,x=wr:=⟨_,rfl⟩;subst a4;by_cases M:j<n
   ·obtain⟨v,f⟩:=aI (l:=r) (j:=j) (by rw[<-P.o];exact M);obtain⟨x,p⟩:=aI (l:=l) (j:=j) (by rw[<-a2.o];exact M);obtain⟨g,d,rfl,c0,c1,c2⟩:=(X.o.keep0 J.o) j v f;obtain⟨m,a,rfl,x0,x1,x2,x3,x4⟩:=(Y.o.keep0 J.o) j x p;have wj:IntKind.i64.wrap ((j:Int)+1)=(j:Int)+1:=C0 _ (by omega);have a6:(j:Int)<(n:Int):=by omega
    have O:=bZ (a1.o j v x f p);have HC:=bZ (hF.o j v x f p T.drew);have a3:Z (fj v x=true->∀(i:Nat) v x,i<j+1->r[i]? =some v->l[i]? =some x->fj v x=true):=bZ (fun h i v' x' H y z=>by
     rcases Nat.lt_or_eq_of_le (Nat.le_of_lt_succ H) with H | rfl
     ·exact hs.o i v' x' H y z
     rw[f] at y;rw[p] at z;cases y;cases z;exact h)
    generalize fj v x=F at*;clear f p hs;obtain⟨k,vn,vs⟩:=v;obtain⟨ty,R,q,mx,nb⟩:=x;dsimp only at*;go_wp2_with fail;refine ae (S:=(fun c=>(c.cell? (U g (d+j*3))=some (I k)/\c.cell? (U g (d+j*3+1))=some (I vn)/\c.cell? (U g (d+j*3+2))=some (.string vs))/\c.cell? (U m (a+j*5))=some (I ty)/\c.cell? (U m (a+j*5+1))=some (I R)/\c.cell? (U m (a+j*5+2))=some (I q)/\c.cell? (U m (a+j*5+3))=some (I mx)/\c.cell? (U m (a+j*5+4))=some (.bool nb))) (n:=8) (by kernel_rfl) ?_;have D:Z (∀W',ad [] T W'->(fun c=>(c.cell? (U g (d+j*3))=some (I k)/\c.cell? (U g (d+j*3+1))=some (I vn)/\c.cell? (U g (d+j*3+2))=some (.string vs))/\c.cell? (U m (a+j*5))=some (I ty)/\c.cell? (U m (a+j*5+1))=some (I R)/\c.cell? (U m (a+j*5+2))=some (I q)/\c.cell? (U m (a+j*5+3))=some (I mx)/\c.cell? (U m (a+j*5+4))=some (.bool nb)) W'):=bZ (fun W' h=>⟨⟨h.cellEq c0 (by simp),h.cellEq c1 (by simp),h.cellEq c2 (by simp)⟩,h.cellEq x0 (by simp),h.cellEq x1 (by simp),h.cellEq x2 (by simp),h.cellEq x3 (by simp),h.cellEq x4 (by simp)⟩);have HS:=D.o T.drew (ad.refl [] T).drew;dsimp only at HS;clear c0 c1 c2 x0 x1 x2 x3 x4;refine ord [0,1,2,3,4,5,6,7] ?_
    iterate 8 (refine tq HS ?_;try simp only[PT,Y1,Y2,Y3])
    refine aB ?_;refine J1 8 fun K hK=>?_;dsimp only[Y1,Y2,Y3];go_simp;refine HC.o.mono ?_;rintro e w5 ⟨rfl,k5⟩;replace k5:=bZ ((ad.refl [] T).drew.trans k5.o);refine hK _ _ (.inl (by omega)) ?_;clear hK K
    try simp only[PT,Y1,Y2,Y3]
    refine JQ 9 ?_
    try simp only[PT,Y1,Y2,Y3]
    refine JD ?_;clear HS HC D;cases F
    ·have E:=bZ (O.o rfl);go_wp2_with fail;go_ret;exact⟨by rw[E.o];rfl,bZ (J.o.trans k5.o)⟩
    have ht:=bZ (a3.o rfl);go_wp2_with fail;go_roundw
    case rel=>exact⟨j+1,by omega,by go_num,ht,bZ (J.o.trans k5.o)⟩
    case measure=>simp[intOf];omega
   obtain rfl:j=n:=by omega
   have E:=bZ (Q.o (fun i v x f p=>hs.o i v x (by rw[P.o];exact(CV.1 f).1) f p));clear hs;go_wp2_with fail;go_ret;exact⟨by rw[E.o];rfl,J⟩
  have a0:((n:Int) !=(C:Int))=true:=by rw[bne_iff_ne];omega
  have E:Z (b=false):=bZ (by
   rw[B];cases H:bU r l
   ·rfl
   exact absurd (dZ H) (by omega))
  have k0:=bZ (ad.refl [] w);clear B hF X Y hn N t u;go_enter Tryz.func8,Tryz.ntmps8;go_wp2_with fail;go_ret;exact⟨by rw[E.o];rfl,k0⟩
theorem lC (w:World) (n:Int):Calls Tryz.prog 54 #[I n] w (RoP w (vV (fG n))):=by
 have e:Z (∀o,ad [] w (w.alloc o)):=bZ (fun o=>(ad.refl [] w).alloc o);have a:=Blk.new w 23 #[I 1,I n,.string ByteArray.empty];have b:=a.cell 0;have c:=a.cell 1;have d:=a.cell 2;unfold vV fG;go_enter Tryz.func54,Tryz.ntmps54;go_wp2_with fail;refine bodyPost_ret (v:=.agg #[I 1,I n,.string ByteArray.empty]) (by simp[results,Tryz.results54,go_sem,b,c,d];rfl) rfl ?_;exact⟨rfl,bZ (e.o _)⟩
theorem za (w:World) (b:Bool):Calls Tryz.prog 31 #[.bool b] w (RoP w (I (if b then 1 else 0))):=by
 have a:=bZ (ad.refl [] w);cases b
 ·go_enter Tryz.func31,Tryz.ntmps31;go_wp2_with fail;go_ret;exact⟨rfl,a⟩
 go_enter Tryz.func31,Tryz.ntmps31;go_wp2_with fail;go_ret;exact⟨rfl,a⟩
theorem wh (w:World) (n b:Int) (s: -9223372036854775808<=n/\n<9223372036854775808) (l:1<=b):Calls Tryz.prog 55 #[I n,I b] w (RoP w (I (n/b))):=by
 have u:(b==0)=false:=beq_false_of_ne (by omega);have p:b≠0:=by omega
 have m:¬b<0:=by omega
 have c:=ir n b l;have t:=Int.natAbs_tdiv_le_natAbs n b;have j:=bZ (ad.refl [] w);have i:0<=n->0<=n.tmod b:=fun h=>Int.tmod_nonneg _ h;have d:n<=0->n.tmod b<=0:=fun h=>by
  have:=Int.tmod_nonneg (a:= -n) b (by omega);rw[Int.neg_tmod] at this;omega
 by_cases f:n.tmod b=0
 ·have g:(n.tmod b !=0)=false:=by simp[f]
  rw[if_neg (by omega)] at c;go_enter Tryz.func55,Tryz.ntmps55;go_wp2_with fail
  all_goals go_ret
  all_goals exact⟨by first | rfl | (rw[c];rfl),j⟩
 have g:(n.tmod b !=0)=true:=by rw[bne_iff_ne];exact f
 by_cases r:n<0
 ·rw[if_pos (by have:=d (by omega);omega)] at c;go_enter Tryz.func55,Tryz.ntmps55;go_wp2_with fail;have o:wrap64 (n.tdiv b - 1)=n.tdiv b - 1:=IntWalk.wrap64_in _ (by
   have e:(n.tdiv b).natAbs<9223372036854775808\/b=1:=by
    by_cases k:b=1
    ·exact .inr k
    left;have:n.natAbs/b.natAbs<9223372036854775808:=by
     have q:n.natAbs/b.natAbs<=n.natAbs/2:=Nat.div_le_div_left (by omega) (by decide);omega
    rwa [Int.natAbs_tdiv]
   rcases e with h | h
   ·omega
   exfalso;apply f;rw[h];exact Int.tmod_one n)
  all_goals go_ret
  all_goals exact⟨congrArg (fun x=>Ending.returned (I x)) o,j⟩
 rw[if_neg (by have:=i (by omega);omega)] at c;go_enter Tryz.func55,Tryz.ntmps55;go_wp2_with fail
 all_goals go_ret
 all_goals exact⟨by first | rfl | (rw[c];rfl),j⟩
theorem lT (n:Int):wrap64 n=w64 n:=by unfold wrap64 w64;omega
theorem dz {w wz:World} {c:Nat} {a b s:Value} (d:w.heap.size<=c) (e:ad [] w wz):ad [] w (((wz.setCell (U c 0) a).setCell (U c 1) b).setCell (U c 2) s):=
 ((e.setCell (p:=(U c 0)) (.inr d) a).setCell (p:=(U c 1)) (.inr d) b).setCell (p:=(U c 2)) (.inr d) s
theorem uR (w:World) (ix b d:Int) (l k e:ByteArray) (A R:Option Addr) (n c p m:Nat):
 Calls Tryz.prog 32 #[.agg #[I 1,.string l,.string k,I ix,I b,I d,.string e,.slice A n c],.slice R p m] w (RoP w (vV ⟨b,d,e⟩)):=by
  obtain⟨W0,a,q,g,f,o⟩:=dX w 26 23 #[I 1,.string l,.string k,I ix,I b,I d,.string e,.slice A n c] #[I b,I d,.string e];have h:=g.cell 0;have i:=g.cell 1;have j:=g.cell 2;unfold vV;replace f:=bZ f;rw[a] at h i j;go_enter Tryz.func32,Tryz.ntmps32;go_wp2_with fail;refine bodyPost_ret (v:=.agg #[I b,I d,.string e]) (by simp[results,Tryz.results32,go_sem,h,i,j]) rfl ?_;rw[<-a];exact⟨rfl,f⟩
theorem uS (w:World) (i u x:Int) (t s y:ByteArray) (A R:Option Addr) (n c b B:Nat) (r:List Vl) (v:Vl) (q:b=r.length) (p:gI w R r) (o:0<=i) (d:r[i.toNat]? =some v):
 Calls Tryz.prog 32 #[.agg #[I 2,.string t,.string s,I i,I u,I x,.string y,.slice A n c],.slice R b B] w (RoP w (vV v)):=by
  obtain⟨j,rfl⟩:=Int.eq_ofNat_of_zero_le o;have K:j<b:=by rw[q];exact(CV.1 d).1
  obtain⟨g,H,rfl,c0,c1,c2⟩:=p j v d;obtain⟨k,z,vs⟩:=v;dsimp only at c0 c1 c2;have J:g<w.heap.size:=block_lt_of_cell c0;have C:g<w.heap.size+1:=by omega
  have D:g<w.heap.size+1+1:=by omega
  obtain⟨W0,a,L,f,e,F⟩:=dX w 26 23 #[I 2,.string t,.string s,I (j:Int),I u,I x,.string y,.slice A n c] #[I k,I z,.string vs];have h:=f.cell 0;have l:=f.cell 1;have m:=f.cell 2;unfold vV;replace e:=bZ e;rw[a] at h l m;have E:(j:Int)<(b:Int):=by omega
  clear q p d o;go_enter Tryz.func32,Tryz.ntmps32;go_wp2_with fail;refine bodyPost_ret (v:=.agg #[I k,I z,.string vs]) (by simp[results,Tryz.results32,go_sem,h,l,m]) rfl ?_;rw[<-a];exact⟨rfl,e⟩
theorem yN (w:World) (o ix uk un xo xi xk xn:Int) (tb nm us tx nx xs:ByteArray) (R B:Option Addr) (g q c nr cr m cx:Nat) (u:Vl) (ho:o=3\/o=9) (hg:g<w.heap.size) (hc:1<=c/\c<=maxLen) (hu:u.s.size<=9223372036854775807)
 (Xx:Z (∀W,ad [] w W->XCl W g q xo xi xk xn tx nx xs B m cx))
 (HX:Z (∀W,ad [] w W->Calls Tryz.prog 32 #[.agg #[I xo,.string tx,.string nx,I xi,I xk,I xn,.string xs,.slice B m cx],.slice R nr cr] W (RoP W (vV u)))):
 Calls Tryz.prog 32 #[.agg #[I o,.string tb,.string nm,I ix,I uk,I un,.string us,.slice (some (U g q)) 1 c],.slice R nr cr] w (RoP w (vV (if u.k=0 then em else if o=3 then fG (w64 (-u.n)) else fG (u.s.size:Int)))):=by
  obtain⟨W0,a,S,T,K,P⟩:=dX w 26 23 #[I o,.string tb,.string nm,I ix,I uk,I un,.string us,.slice (some (U g q)) 1 c] #[I 0,I 0,.string ⟨#[]⟩];obtain⟨gb,b⟩:∃g,g=w.heap.size:=⟨_,rfl⟩;obtain⟨gr,d⟩:∃g,g=w.heap.size+1:=⟨_,rfl⟩;rw[<-d] at T;rw[<-b] at S;have j:Z (w.heap.size<=gr):=bZ (by omega);have H:=bZ S;have N:=bZ T;have l:=bZ K;unfold XCl at Xx;have X0:=Xx.o _ K;rw[a] at X0;obtain⟨X,Y,x2,x3,x4,x5,x6,x7⟩:=X0;have a0:g<w.heap.size+1:=by omega
  have O:g<w.heap.size+1+1:=by omega
  have HI:Z (∀W z,Calls Tryz.prog 54 #[I z] W (RoP W (.agg #[I 1,I z,.string ⟨#[]⟩]))):=bZ (fun W z=>lC W z);have x:=bZ (HX.o _ K);obtain⟨k,i,vs⟩:=u;rw[show vV (if (⟨k,i,vs⟩:Vl).k=0 then em else if o=3 then fG (w64 (-(⟨k,i,vs⟩:Vl).n)) else fG ((⟨k,i,vs⟩:Vl).s.size:Int))=if k=0 then .agg #[I 0,I 0,.string ⟨#[]⟩] else if o=3 then .agg #[I 1,I (w64 (-i)),.string ⟨#[]⟩] else .agg #[I 1,I (vs.size:Int),.string ⟨#[]⟩] by dsimp only;split;rfl;split<;>rfl];unfold vV at x;dsimp only at x hu;clear S T K P HX;by_cases J:k=0
  ·subst J;rw[if_pos rfl];rcases ho with rfl | rfl
   all_goals
    go_enter Tryz.func32,Tryz.ntmps32;go_wp2_with (go_at_call 32;rw[<-a,<-d,<-b];clear a b d X Y x2 x3 x4 x5 x6 x7 O;refine x.o.mono ?_;rintro e L ⟨rfl,f⟩;have F:=bZ (l.o.trans f.o);have c2:=bZ (N.o.keep f.o (by simp));have y:=(H.o.keep f.o (by simp)).cell;have M:=(H.o.keep f.o (by simp)).lt;have z:=c2.o.cell;have r:=c2.o.frozen;have t:=c2.o.lt);have h:=(((c2.o.set_ 0 (I 0)).set_ 1 (I 0)).set_ 2 (.string ⟨#[]⟩)).alloc (.cells #[I 0,I i,.string vs] 23);have A:=h.cell 0;have C:=h.cell 1;have D:=h.cell 2;refine bodyPost_ret (v:=.agg #[I 0,I 0,.string ⟨#[]⟩]) (by simp[results,Tryz.results32,go_sem,A,C,D]) rfl ?_;exact⟨rfl,bZ ((dz j.o F.o).alloc _)⟩
  rw[if_neg J];have a1:(k==0)=false:=beq_false_of_ne J;clear J;rcases ho with rfl | rfl
  ·rw[if_pos rfl];go_enter Tryz.func32,Tryz.ntmps32;go_wp2_with (first | (go_at_call 32;rw[<-a,<-d,<-b];clear a b d X Y x2 x3 x4 x5 x6 x7 O;refine x.o.mono ?_;rintro e L ⟨rfl,f⟩;have F:=bZ (l.o.trans f.o);have c2:=bZ (N.o.keep f.o (by simp));have c1:=bZ (H.o.keep f.o (by simp));have y:=c1.o.cell;have M:=c1.o.lt;have z:=c2.o.cell;have r:=c2.o.frozen;have t:=c2.o.lt) | (go_at_call 54;refine(HI.o _ _).mono ?_;rintro e w6 ⟨rfl,Q⟩;have E:=bZ (((ad.refl [] L).alloc (.cells #[I k,I i,.string vs] 23)).trans Q.o);have p:=bZ (F.o.trans E.o);have c6:=bZ (c2.o.keep E.o (by simp));clear y M z r t;have z:=c6.o.cell;have r:=c6.o.frozen;have t:=c6.o.lt));have h:=((c6.o.set_ 0 (I 1)).set_ 1 (I (wrap64 (-i)))).set_ 2 (.string ⟨#[]⟩);have A:=h.cell 0;have C:=h.cell 1;have D:=h.cell 2;refine bodyPost_ret (v:=.agg #[I 1,I (wrap64 (-i)),.string ⟨#[]⟩]) (by simp[results,Tryz.results32,go_sem,A,C,D]) rfl ?_;exact⟨by rw[lT],bZ (dz j.o p.o)⟩
  rw[if_neg (by decide)];go_enter Tryz.func32,Tryz.ntmps32;go_wp2_with (first | (go_at_call 32;rw[<-a,<-d,<-b];clear a b d X Y x2 x3 x4 x5 x6 x7 O;refine x.o.mono ?_;rintro e L ⟨rfl,f⟩;have F:=bZ (l.o.trans f.o);have c2:=bZ (N.o.keep f.o (by simp));have c1:=bZ (H.o.keep f.o (by simp));have y:=c1.o.cell;have M:=c1.o.lt;have z:=c2.o.cell;have r:=c2.o.frozen;have t:=c2.o.lt) | (go_at_call 54;refine(HI.o _ _).mono ?_;rintro e w6 ⟨rfl,Q⟩;have E:=bZ (((ad.refl [] L).alloc (.cells #[I k,I i,.string vs] 23)).trans Q.o);have p:=bZ (F.o.trans E.o);have c6:=bZ (c2.o.keep E.o (by simp));clear y M z r t;have z:=c6.o.cell;have r:=c6.o.frozen;have t:=c6.o.lt));have h:=((c6.o.set_ 0 (I 1)).set_ 1 (I (vs.size:Int))).set_ 2 (.string ⟨#[]⟩);have A:=h.cell 0;have C:=h.cell 1;have D:=h.cell 2;refine bodyPost_ret (v:=.agg #[I 1,I (vs.size:Int),.string ⟨#[]⟩]) (by simp[results,Tryz.results32,go_sem,A,C,D]) rfl ?_;exact⟨rfl,bZ (dz j.o p.o)⟩
theorem mK (n:Int):IntKind.i64.wrap n=w64 n:=by
 have c:IntKind.i64.bits=64:=rfl;have d:IntKind.i64.signed=true:=rfl;have a:(2:Int)^64=18446744073709551616:=by decide
 have b:(2:Int)^(64 - 1)=9223372036854775808:=by decide
 simp only[IntKind.wrap,c,d,Bool.true_and,decide_eq_true_eq,w64,a,b]
 split<;>omega
def bnV (o a b:Int):Int:=if o=4 then w64 (a+b) else if o=5 then w64 (a - b) else if o=6 then w64 (a*b) else if o=7 then a/b else w64 (a - w64 (b*(a/b)))
theorem yM (w:World) (o ix uk un xo xi xk xn yo yi yk yn L a kb b:Int) (tb nm us tx nx xs ty ny ys Y sb:ByteArray) (R B B':Option Addr) (g a3 c nr cr mx cx my cy:Nat) (ho:4<=o/\o<=8) (hg:g<w.heap.size) (hc:2<=c/\c<=maxLen)
 (ha: -9223372036854775808<=a/\a<9223372036854775808) (hb:(o=7\/o=8)->kb≠0->1<=b)
 (Xx:Z (∀W,ad [] w W->XCl W g a3 xo xi xk xn tx nx xs B mx cx)) (Xy:Z (∀W,ad [] w W->XCl W g (a3+8) yo yi yk yn ty ny ys B' my cy))
 (HX:Z (∀W,ad [] w W->Calls Tryz.prog 32 #[.agg #[I xo,.string tx,.string nx,I xi,I xk,I xn,.string xs,.slice B mx cx],.slice R nr cr] W (RoP W (.agg #[I L,I a,.string Y]))))
 (HY:Z (∀W,ad [] w W->Calls Tryz.prog 32 #[.agg #[I yo,.string ty,.string ny,I yi,I yk,I yn,.string ys,.slice B' my cy],.slice R nr cr] W (RoP W (.agg #[I kb,I b,.string sb])))):
 Calls Tryz.prog 32 #[.agg #[I o,.string tb,.string nm,I ix,I uk,I un,.string us,.slice (some (U g a3)) 2 c],.slice R nr cr] w (RoP w (if L=0 then .agg #[I 0,I 0,.string ⟨#[]⟩] else if kb=0 then .agg #[I 0,I 0,.string ⟨#[]⟩] else .agg #[I 1,I (bnV o a b),.string ⟨#[]⟩])):=by
  obtain⟨W0,j,t1,t2,k0,a9⟩:=dX w 26 23 #[I o,.string tb,.string nm,I ix,I uk,I un,.string us,.slice (some (U g a3)) 2 c] #[I 0,I 0,.string ⟨#[]⟩];obtain⟨gb,k⟩:∃g,g=w.heap.size:=⟨_,rfl⟩;obtain⟨gr,l⟩:∃g,g=w.heap.size+1:=⟨_,rfl⟩;rw[<-l] at t2;rw[<-k] at t1;have N:Z (w.heap.size<=gr):=bZ (by omega);have b1:=bZ t1;have b2:=bZ t2;have O:=bZ k0;unfold XCl at Xx Xy;have X0:=Xx.o _ k0;rw[j] at X0;obtain⟨x0,x1,x2,x3,x4,x5,x6,x7⟩:=X0;have d:g<w.heap.size+1:=by omega
  have r:g<w.heap.size+1+1:=by omega
  have HI:Z (∀W z,Calls Tryz.prog 54 #[I z] W (RoP W (.agg #[I 1,I z,.string ⟨#[]⟩]))):=bZ (fun W z=>lC W z);have T:=bZ (HX.o _ k0);clear t1 t2 k0 a9 HX;by_cases h0:L=0
  ·subst h0;rw[if_pos rfl];clear ha hb;rcases(by omega:o=4\/o=5\/o=6\/o=7\/o=8) with rfl | rfl | rfl | rfl | rfl
   all_goals
    clear ho;go_enter Tryz.func32,Tryz.ntmps32;go_wp2_with (go_at_call 32;rw[<-j,<-l,<-k];clear j k l x0 x1 x2 x3 x4 x5 x6 x7 r d;(with_reducible refine T.o.mono ?_);rintro e f ⟨rfl,s⟩;have t:=bZ (O.o.trans s.o);have c2:=bZ (b2.o.keep s.o (by simp));have c1:=bZ (b1.o.keep s.o (by simp));have y:=c1.o.cell;have C:=c1.o.lt;have z:=c2.o.cell;have m:=c2.o.frozen;have p:=c2.o.lt;obtain⟨e0,e1,e2,e3,e4,e5,e6,e7⟩:=Xy.o _ t.o;have r:g<f.heap.size:=block_lt_of_cell e0;have d:g<f.heap.size+1:=Nat.lt_succ_of_lt r;clear T);have i:=((c2.o.set_ 0 (I 0)).set_ 1 (I 0)).set_ 2 (.string ⟨#[]⟩);have i:=i.alloc (.cells #[I 0,I a,.string Y] 23);have d0:=i.cell 0;have d1:=i.cell 1;have d2:=i.cell 2;refine bodyPost_ret (v:=.agg #[I 0,I 0,.string ⟨#[]⟩]) (by simp[results,Tryz.results32,go_sem,d0,d1,d2]) rfl ?_;exact⟨rfl,bZ ((dz N.o t.o).alloc _)⟩
  rw[if_neg h0];have ak:(L==0)=false:=beq_false_of_ne h0;clear h0;by_cases h1:kb=0
  ·subst h1;rw[if_pos rfl];clear ha hb;rcases(by omega:o=4\/o=5\/o=6\/o=7\/o=8) with rfl | rfl | rfl | rfl | rfl
   all_goals
    clear ho;go_enter Tryz.func32,Tryz.ntmps32;go_wp2_with (go_at_call 32;rw[<-j,<-l,<-k];clear j k l x0 x1 x2 x3 x4 x5 x6 x7 r d;(with_reducible refine T.o.mono ?_);rintro e f ⟨rfl,s⟩;have t:=bZ (O.o.trans s.o);have c2:=bZ (b2.o.keep s.o (by simp));have c1:=bZ (b1.o.keep s.o (by simp));have y:=c1.o.cell;have C:=c1.o.lt;have z:=c2.o.cell;have m:=c2.o.frozen;have p:=c2.o.lt;obtain⟨e0,e1,e2,e3,e4,e5,e6,e7⟩:=Xy.o _ t.o;have r:g<f.heap.size:=block_lt_of_cell e0;have d:g<f.heap.size+1:=Nat.lt_succ_of_lt r;clear T);go_wp2_with (go_at_call 32;(with_reducible refine(HY.o _ (t.o.alloc _)).mono ?_);rintro e J ⟨rfl,H⟩;have u:=bZ (((ad.refl [] f).alloc (.cells #[I L,I a,.string Y] 23)).trans H.o);have A:=bZ (t.o.trans u.o);have c6:=bZ (c2.o.keep u.o (by simp));have F:=bZ (c1.o.keep u.o (by simp));have E:=bZ ((Blk.new f 23 #[I L,I a,.string Y]).keep H.o (by simp));clear y C z m p e0 e1 e2 e3 e4 e5 e6 e7 r d;have y:=F.o.cell;have C:=F.o.lt;have z:=c6.o.cell;have m:=c6.o.frozen;have p:=c6.o.lt;have v:=E.o.cell;have vl:=E.o.lt);have i:=((c6.o.set_ 0 (I 0)).set_ 1 (I 0)).set_ 2 (.string ⟨#[]⟩);have i:=i.alloc (.cells #[I 0,I b,.string sb] 23);have d0:=i.cell 0;have d1:=i.cell 1;have d2:=i.cell 2;refine bodyPost_ret (v:=.agg #[I 0,I 0,.string ⟨#[]⟩]) (by simp[results,Tryz.results32,go_sem,d0,d1,d2]) rfl ?_;exact⟨rfl,bZ ((dz N.o A.o).alloc _)⟩
  rw[if_neg h1];have am:(kb==0)=false:=beq_false_of_ne h1;have M:Z ((o=7\/o=8)->∀W,Calls Tryz.prog 55 #[I a,I b] W (RoP W (I (a/b)))):=bZ (fun h W=>wh W a b ha (hb h h1));clear h1 ha hb;rcases(by omega:o=4\/o=5\/o=6\/o=7\/o=8) with rfl | rfl | rfl | rfl | rfl
  ·clear ho M;have X:bnV 4 a b=wrap64 (a+b):=by rw[lT];rfl
   rw[X];clear X;go_enter Tryz.func32,Tryz.ntmps32;go_wp2_with (go_at_call 32;rw[<-j,<-l,<-k];clear j k l x0 x1 x2 x3 x4 x5 x6 x7 r d;(with_reducible refine T.o.mono ?_);rintro e f ⟨rfl,s⟩;have t:=bZ (O.o.trans s.o);have c2:=bZ (b2.o.keep s.o (by simp));have c1:=bZ (b1.o.keep s.o (by simp));have y:=c1.o.cell;have C:=c1.o.lt;have z:=c2.o.cell;have m:=c2.o.frozen;have p:=c2.o.lt;obtain⟨e0,e1,e2,e3,e4,e5,e6,e7⟩:=Xy.o _ t.o;have r:g<f.heap.size:=block_lt_of_cell e0;have d:g<f.heap.size+1:=Nat.lt_succ_of_lt r;clear T);go_wp2_with (first | (go_at_call 32;(with_reducible refine(HY.o _ (t.o.alloc _)).mono ?_);rintro e J ⟨rfl,H⟩;have u:=bZ (((ad.refl [] f).alloc (.cells #[I L,I a,.string Y] 23)).trans H.o);have A:=bZ (t.o.trans u.o);have c6:=bZ (c2.o.keep u.o (by simp));have F:=bZ (c1.o.keep u.o (by simp));have E:=bZ ((Blk.new f 23 #[I L,I a,.string Y]).keep H.o (by simp));clear y C z m p e0 e1 e2 e3 e4 e5 e6 e7 r d;have y:=F.o.cell;have C:=F.o.lt;have z:=c6.o.cell;have m:=c6.o.frozen;have p:=c6.o.lt;have v:=E.o.cell;have vl:=E.o.lt) | (go_at_call 54;refine(HI.o _ _).mono ?_;rintro e w9 ⟨rfl,k9⟩;have P:=bZ (((ad.refl [] J).alloc (.cells #[I kb,I b,.string sb] 23)).trans k9.o);have Q:=bZ (A.o.trans P.o);have D:=bZ (c6.o.keep P.o (by simp));clear y C z m p v vl;have z:=D.o.cell;have m:=D.o.frozen;have p:=D.o.lt));have i:=((D.o.set_ 0 (I 1)).set_ 1 (I (wrap64 (a+b)))).set_ 2 (.string ⟨#[]⟩);have d0:=i.cell 0;have d1:=i.cell 1;have d2:=i.cell 2;refine bodyPost_ret (v:=.agg #[I 1,I (wrap64 (a+b)),.string ⟨#[]⟩]) (by simp[results,Tryz.results32,go_sem,d0,d1,d2]) rfl ?_;exact⟨rfl,bZ (dz N.o Q.o)⟩
  ·clear ho M;have X:bnV 5 a b=wrap64 (a - b):=by rw[lT];rfl
   rw[X];clear X;go_enter Tryz.func32,Tryz.ntmps32;go_wp2_with (go_at_call 32;rw[<-j,<-l,<-k];clear j k l x0 x1 x2 x3 x4 x5 x6 x7 r d;(with_reducible refine T.o.mono ?_);rintro e f ⟨rfl,s⟩;have t:=bZ (O.o.trans s.o);have c2:=bZ (b2.o.keep s.o (by simp));have c1:=bZ (b1.o.keep s.o (by simp));have y:=c1.o.cell;have C:=c1.o.lt;have z:=c2.o.cell;have m:=c2.o.frozen;have p:=c2.o.lt;obtain⟨e0,e1,e2,e3,e4,e5,e6,e7⟩:=Xy.o _ t.o;have r:g<f.heap.size:=block_lt_of_cell e0;have d:g<f.heap.size+1:=Nat.lt_succ_of_lt r;clear T);go_wp2_with (first | (go_at_call 32;(with_reducible refine(HY.o _ (t.o.alloc _)).mono ?_);rintro e J ⟨rfl,H⟩;have u:=bZ (((ad.refl [] f).alloc (.cells #[I L,I a,.string Y] 23)).trans H.o);have A:=bZ (t.o.trans u.o);have c6:=bZ (c2.o.keep u.o (by simp));have F:=bZ (c1.o.keep u.o (by simp));have E:=bZ ((Blk.new f 23 #[I L,I a,.string Y]).keep H.o (by simp));clear y C z m p e0 e1 e2 e3 e4 e5 e6 e7 r d;have y:=F.o.cell;have C:=F.o.lt;have z:=c6.o.cell;have m:=c6.o.frozen;have p:=c6.o.lt;have v:=E.o.cell;have vl:=E.o.lt) | (go_at_call 54;refine(HI.o _ _).mono ?_;rintro e w9 ⟨rfl,k9⟩;have P:=bZ (((ad.refl [] J).alloc (.cells #[I kb,I b,.string sb] 23)).trans k9.o);have Q:=bZ (A.o.trans P.o);have D:=bZ (c6.o.keep P.o (by simp));clear y C z m p v vl;have z:=D.o.cell;have m:=D.o.frozen;have p:=D.o.lt));have i:=((D.o.set_ 0 (I 1)).set_ 1 (I (wrap64 (a - b)))).set_ 2 (.string ⟨#[]⟩);have d0:=i.cell 0;have d1:=i.cell 1;have d2:=i.cell 2;refine bodyPost_ret (v:=.agg #[I 1,I (wrap64 (a - b)),.string ⟨#[]⟩]) (by simp[results,Tryz.results32,go_sem,d0,d1,d2]) rfl ?_;exact⟨rfl,bZ (dz N.o Q.o)⟩
  ·clear ho M;have X:bnV 6 a b=wrap64 (a*b):=by rw[lT];rfl
   rw[X];clear X;go_enter Tryz.func32,Tryz.ntmps32;go_wp2_with (go_at_call 32;rw[<-j,<-l,<-k];clear j k l x0 x1 x2 x3 x4 x5 x6 x7 r d;(with_reducible refine T.o.mono ?_);rintro e f ⟨rfl,s⟩;have t:=bZ (O.o.trans s.o);have c2:=bZ (b2.o.keep s.o (by simp));have c1:=bZ (b1.o.keep s.o (by simp));have y:=c1.o.cell;have C:=c1.o.lt;have z:=c2.o.cell;have m:=c2.o.frozen;have p:=c2.o.lt;obtain⟨e0,e1,e2,e3,e4,e5,e6,e7⟩:=Xy.o _ t.o;have r:g<f.heap.size:=block_lt_of_cell e0;have d:g<f.heap.size+1:=Nat.lt_succ_of_lt r;clear T);go_wp2_with (first | (go_at_call 32;(with_reducible refine(HY.o _ (t.o.alloc _)).mono ?_);rintro e J ⟨rfl,H⟩;have u:=bZ (((ad.refl [] f).alloc (.cells #[I L,I a,.string Y] 23)).trans H.o);have A:=bZ (t.o.trans u.o);have c6:=bZ (c2.o.keep u.o (by simp));have F:=bZ (c1.o.keep u.o (by simp));have E:=bZ ((Blk.new f 23 #[I L,I a,.string Y]).keep H.o (by simp));clear y C z m p e0 e1 e2 e3 e4 e5 e6 e7 r d;have y:=F.o.cell;have C:=F.o.lt;have z:=c6.o.cell;have m:=c6.o.frozen;have p:=c6.o.lt;have v:=E.o.cell;have vl:=E.o.lt) | (go_at_call 54;refine(HI.o _ _).mono ?_;rintro e w9 ⟨rfl,k9⟩;have P:=bZ (((ad.refl [] J).alloc (.cells #[I kb,I b,.string sb] 23)).trans k9.o);have Q:=bZ (A.o.trans P.o);have D:=bZ (c6.o.keep P.o (by simp));clear y C z m p v vl;have z:=D.o.cell;have m:=D.o.frozen;have p:=D.o.lt));have i:=((D.o.set_ 0 (I 1)).set_ 1 (I (wrap64 (a*b)))).set_ 2 (.string ⟨#[]⟩);have d0:=i.cell 0;have d1:=i.cell 1;have d2:=i.cell 2;refine bodyPost_ret (v:=.agg #[I 1,I (wrap64 (a*b)),.string ⟨#[]⟩]) (by simp[results,Tryz.results32,go_sem,d0,d1,d2]) rfl ?_;exact⟨rfl,bZ (dz N.o Q.o)⟩
  ·clear ho;have X:bnV 7 a b=a/b:=rfl;rw[X];clear X;have H5:=bZ (M.o (.inl rfl));clear M;obtain⟨q,hq⟩:∃q,q=a/b:=⟨_,rfl⟩;rw[<-hq] at H5 ⊢;clear hq;go_enter Tryz.func32,Tryz.ntmps32;go_wp2_with (go_at_call 32;rw[<-j,<-l,<-k];clear j k l x0 x1 x2 x3 x4 x5 x6 x7 r d;(with_reducible refine T.o.mono ?_);rintro e f ⟨rfl,s⟩;have t:=bZ (O.o.trans s.o);have c2:=bZ (b2.o.keep s.o (by simp));have c1:=bZ (b1.o.keep s.o (by simp));have y:=c1.o.cell;have C:=c1.o.lt;have z:=c2.o.cell;have m:=c2.o.frozen;have p:=c2.o.lt;obtain⟨e0,e1,e2,e3,e4,e5,e6,e7⟩:=Xy.o _ t.o;have r:g<f.heap.size:=block_lt_of_cell e0;have d:g<f.heap.size+1:=Nat.lt_succ_of_lt r;clear T);go_wp2_with (first | (go_at_call 32;(with_reducible refine(HY.o _ (t.o.alloc _)).mono ?_);rintro e J ⟨rfl,H⟩;have u:=bZ (((ad.refl [] f).alloc (.cells #[I L,I a,.string Y] 23)).trans H.o);have A:=bZ (t.o.trans u.o);have c6:=bZ (c2.o.keep u.o (by simp));have F:=bZ (c1.o.keep u.o (by simp));have E:=bZ ((Blk.new f 23 #[I L,I a,.string Y]).keep H.o (by simp));clear y C z m p e0 e1 e2 e3 e4 e5 e6 e7 r d;have y:=F.o.cell;have C:=F.o.lt;have z:=c6.o.cell;have m:=c6.o.frozen;have p:=c6.o.lt;have v:=E.o.cell;have vl:=E.o.lt) | (go_at_call 55;refine(H5.o _).mono ?_;rintro e w9 ⟨rfl,k9⟩;have P:=bZ (((ad.refl [] J).alloc (.cells #[I kb,I b,.string sb] 23)).trans k9.o);have Q:=bZ (A.o.trans P.o);have D:=bZ (c6.o.keep P.o (by simp));clear y C z m p v vl;have z:=D.o.cell;have m:=D.o.frozen;have p:=D.o.lt) | (go_at_call 54;refine(HI.o _ _).mono ?_;rintro e an ⟨rfl,a5⟩;have a6:=bZ (Q.o.trans a5.o);have a1:=bZ (D.o.keep a5.o (by simp));clear z m p;have z:=a1.o.cell;have m:=a1.o.frozen;have p:=a1.o.lt));have i:=((a1.o.set_ 0 (I 1)).set_ 1 (I q)).set_ 2 (.string ⟨#[]⟩);have d0:=i.cell 0;have d1:=i.cell 1;have d2:=i.cell 2;refine bodyPost_ret (v:=.agg #[I 1,I q,.string ⟨#[]⟩]) (by simp[results,Tryz.results32,go_sem,d0,d1,d2]) rfl ?_;exact⟨rfl,bZ (dz N.o a6.o)⟩
  clear ho;have X:bnV 8 a b=IntKind.i64.wrap (a - IntKind.i64.wrap (b*(a/b))):=by rw[mK,mK];rfl
  rw[X];clear X;have H5:=bZ (M.o (.inr rfl));clear M;obtain⟨q,hq⟩:∃q,q=a/b:=⟨_,rfl⟩;rw[<-hq] at H5 ⊢;clear hq;go_enter Tryz.func32,Tryz.ntmps32;go_wp2_with (go_at_call 32;rw[<-j,<-l,<-k];clear j k l x0 x1 x2 x3 x4 x5 x6 x7 r d;(with_reducible refine T.o.mono ?_);rintro e f ⟨rfl,s⟩;have t:=bZ (O.o.trans s.o);have c2:=bZ (b2.o.keep s.o (by simp));have c1:=bZ (b1.o.keep s.o (by simp));have y:=c1.o.cell;have C:=c1.o.lt;have z:=c2.o.cell;have m:=c2.o.frozen;have p:=c2.o.lt;obtain⟨e0,e1,e2,e3,e4,e5,e6,e7⟩:=Xy.o _ t.o;have r:g<f.heap.size:=block_lt_of_cell e0;have d:g<f.heap.size+1:=Nat.lt_succ_of_lt r;clear T);go_wp2_with (go_at_call 32;(with_reducible refine(HY.o _ (t.o.alloc _)).mono ?_);rintro e J ⟨rfl,H⟩;have u:=bZ (((ad.refl [] f).alloc (.cells #[I L,I a,.string Y] 23)).trans H.o);have A:=bZ (t.o.trans u.o);have c6:=bZ (c2.o.keep u.o (by simp));have F:=bZ (c1.o.keep u.o (by simp));have E:=bZ ((Blk.new f 23 #[I L,I a,.string Y]).keep H.o (by simp));clear y C z m p e0 e1 e2 e3 e4 e5 e6 e7 r d;have y:=F.o.cell;have C:=F.o.lt;have z:=c6.o.cell;have m:=c6.o.frozen;have p:=c6.o.lt;have v:=E.o.cell;have vl:=E.o.lt);obtain⟨wo,a2⟩:∃x,x=J.alloc (.cells #[I kb,I b,.string sb] 23):=⟨_,rfl⟩;rw[<-a2];have ko:Z (ad [] J wo):=bZ (by rw[a2];exact(ad.refl [] J).alloc _);have bv:Z (Blk wo J.heap.size 23 #[I kb,I b,.string sb]):=bZ (by rw[a2];exact Blk.new J 23 _);have ac:=bZ (A.o.trans ko.o);have co:=bZ (c6.o.keep ko.o (by simp));have p0:=(E.o.keep ko.o (by simp)).cell 1;have p1:=bv.o.cell 1;change wo.cell? (U f.heap.size 1)=some (I a) at p0;change wo.cell? (U J.heap.size 1)=some (I b) at p1;have a4:Z (∀W',ad [] wo W'->(fun w'=>w'.cell? (U f.heap.size 1)=some (I a)/\w'.cell? (U J.heap.size 1)=some (I b)) W'):=bZ (fun W' h=>⟨h.cellEq p0 (by simp),h.cellEq p1 (by simp)⟩);clear y C z m p v vl p0 p1 a2;refine ae (S:=(fun w'=>w'.cell? (U f.heap.size 1)=some (I a)/\w'.cell? (U J.heap.size 1)=some (I b))) (n:=10) (by kernel_rfl) ?_;have HS:=a4.o wo.drew (ad.refl [] wo).drew;dsimp only at HS;refine ord [0,1,2,3,4,5,6,7] ?_
  iterate 8 (refine tq HS ?_;try simp only[PT,Y1,Y2,Y3])
  refine aB ?_;refine J1 8 fun K hK=>?_;dsimp only[Y1,Y2,Y3];go_simp;refine(H5.o _).mono ?_;rintro e w8 ⟨rfl,aa⟩;have P:=bZ ((ad.refl [] wo).drew.trans aa.o);have a0:=a4.o w8 P.o;dsimp only at a0;refine hK _ _ (.inr a0) ?_;clear hK K HS;have HS:=a0;clear a0
  try simp only[PT,Y1,Y2,Y3]
  refine ord [9] ?_;refine tq HS ?_;try simp only[PT,Y1,Y2,Y3]
  refine aB ?_;refine JQ 10 ?_
  try simp only[PT,Y1,Y2,Y3]
  refine J1 11 fun K hK=>?_;dsimp only[Y1,Y2,Y3];go_simp;refine(HI.o _ _).mono ?_;rintro e w9 ⟨rfl,k9⟩;have ab:=bZ ((ac.o.trans P.o).trans k9.o);have c9:=bZ ((co.o.keep P.o (by simp)).keep k9.o (by simp));have z:=c9.o.cell;have m:=c9.o.frozen;have p:=c9.o.lt;refine hK _ _ (.inl (by omega)) ?_;clear hK K
  try simp only[PT,Y1,Y2,Y3]
  refine JQ 12 ?_
  try simp only[PT,Y1,Y2,Y3]
  refine JD ?_;clear HS;go_wp2_with fail;have i:=((c9.o.set_ 0 (I 1)).set_ 1 (I (IntKind.i64.wrap (a - IntKind.i64.wrap (b*q))))).set_ 2 (.string ⟨#[]⟩);have d0:=i.cell 0;have d1:=i.cell 1;have d2:=i.cell 2;refine bodyPost_ret (v:=.agg #[I 1,I (IntKind.i64.wrap (a - IntKind.i64.wrap (b*q))),.string ⟨#[]⟩]) (by simp[results,Tryz.results32,go_sem,d0,d1,d2]) rfl ?_;exact⟨rfl,bZ (dz N.o ab.o)⟩
end Go.Proofs.YtldmkbhgdbafhaaGreat
