import Derived.Laws.Externs
import Derived.Test.YtldmkbhgdbafhaaGreatL03
import Derived.Test.YtldmkbhgdbafhaaGreatL09
namespace Go.Proofs.YtldmkbhgdbafhaaGreat
open Go.RowKit
set_option linter.unusedSimpArgs false
set_option linter.unusedVariables false
set_option maxRecDepth 100000
set_option maxHeartbeats 64000000
def sat (n:Nat):Nat:=if n<=1152921504606846976 then n else 1152921504606846977
theorem jl (w:World) (n:Int) (h: -9223372036854775808<=n/\n<9223372036854775808):Calls Tryz.prog 195 #[I n] w fun e a=>e=.returned (.int .u64 (n.natAbs:Int))/\a=w:=by
 go_enter Tryz.func195,Tryz.ntmps195;go_wp2_with fail
 all_goals
  go_ret;refine⟨congrArg (fun x=>Ending.returned (Value.int .u64 x)) (?_:(_:Int)=_),rfl⟩
  first | (simp only[IntKind.wrap_u64];omega) | omega
theorem uq (w:World) (a b:Int):Calls Tryz.prog 221 #[I a,I b] w fun e f=>e=.returned (I (ai a b))/\f=w:=by
 unfold ai;by_cases c:a<b
 ·rw[if_pos c];go_enter Tryz.func221,Tryz.ntmps221;go_wp2_with go_in
  all_goals (go_ret;exact⟨rfl,rfl⟩)
 rw[if_neg c];by_cases d:b<a
 ·rw[if_pos d];go_enter Tryz.func221,Tryz.ntmps221;go_wp2_with go_in
  all_goals (go_ret;exact⟨rfl,rfl⟩)
 rw[if_neg d];go_enter Tryz.func221,Tryz.ntmps221;go_wp2_with go_in
 all_goals (go_ret;exact⟨rfl,rfl⟩)
theorem uo (w:World) (a b:Int):Calls Tryz.prog 222 #[I a,I b] w fun e f=>e=.returned (I (ai a b))/\f=w:=by
 unfold ai;by_cases c:a<b
 ·rw[if_pos c];go_enter Tryz.func222,Tryz.ntmps222;go_wp2_with go_in
  all_goals (go_ret;exact⟨rfl,rfl⟩)
 rw[if_neg c];by_cases d:b<a
 ·rw[if_pos d];go_enter Tryz.func222,Tryz.ntmps222;go_wp2_with go_in
  all_goals (go_ret;exact⟨rfl,rfl⟩)
 rw[if_neg d];go_enter Tryz.func222,Tryz.ntmps222;go_wp2_with go_in
 all_goals (go_ret;exact⟨rfl,rfl⟩)
theorem zK (x y:Nat) (w:World):(callFunc 228 #[.int .u64 (x:Int),.int .u64 (y:Int),.int .u64 0]).run Tryz.prog w=
 .ok (.value (.tuple #[.int .u64 (((x:Int)+y)%18446744073709551616),.int .u64 (((x:Int)+y)/18446744073709551616)])) w:=by
  rw[run_callFunc_extern Tryz.func228 (by kernel_rfl) (by kernel_rfl) (by kernel_rfl) (e:=add64Entry) (by kernel_rfl),run_add64 x y 0 (by omega) (by omega) (by omega) (by omega)];simp only[Result.andThen]
  congr 5<;>omega
theorem qr (w:World) (a b:Nat) (h:a<=9223372036854775808) (i:b<=9223372036854775807):Calls Tryz.prog 227 #[.int .u64 (a:Int),.int .u64 (b:Int)] w fun e g=>e=.returned (.int .u64 (sat (a+b):Nat))/\g=w:=by
 have c:((a:Int)+b)%18446744073709551616=(a:Int)+b:=by omega
 have d:((a:Int)+b)/18446744073709551616=0:=by omega
 have f:∀w,(callFunc 228 #[.int .u64 (a:Int),.int .u64 (b:Int),.int .u64 0]).run Tryz.prog w=.ok (.value (.tuple #[.int .u64 ((a:Int)+b),.int .u64 0])) w:=fun w=>by rw[zK,c,d]
 clear c d;go_enter Tryz.func227,Tryz.ntmps227;go_wp2_with (simp only[f])
 all_goals
  go_ret;refine⟨?_,rfl⟩;unfold sat
  first
   | (rw[if_pos (by omega)];rfl)
   | (rw[if_neg (by omega)];rfl)
theorem jS (w:World) (a b:Nat) (k:a<=9223372036854775808) (l:b<=9223372036854775808):Calls Tryz.prog 194 #[.int .u64 (a:Int),.int .u64 (b:Int)] w fun e g=>e=.returned (.int .u64 (sat (a*b):Nat))/\g=w:=by
 have c:=Tryz.bits_Mul64 a b (by omega) (by omega);generalize i:a*b=p at*;obtain⟨q,d⟩:∃q,q=p/18446744073709551616:=⟨_,rfl⟩;obtain⟨r,f⟩:∃r,r=p%18446744073709551616:=⟨_,rfl⟩;rw[<-d,<-f] at c;have j:Z (sat p=if q=0/\r<=1152921504606846976 then r else 1152921504606846977):=bZ (by
  unfold sat;by_cases h:p<=1152921504606846976
  ·rw[if_pos h,if_pos (by omega)];omega
  rw[if_neg h,if_neg (by omega)])
 clear d f i;go_enter Tryz.func194,Tryz.ntmps194;go_wp2_with (go_at_call 217;refine(c _).mono ?_;rintro e g ⟨rfl,rfl⟩)
 all_goals
  go_ret;refine⟨?_,rfl⟩;rw[j.o]
  first
   | (rw[if_pos (by omega)];rfl)
   | (rw[if_neg (by omega)];rfl)
def tmV (t:T) (A:Option Addr) (c:Nat):Value:=.agg #[I t.con,.slice A t.pts.length c]
theorem uY (a b:Nat):sat (sat a+sat b)=sat (a+b):=by
 unfold sat;by_cases h:a<=1152921504606846976<;>by_cases k:b<=1152921504606846976<;>simp only[h,k,if_true,if_false]<;>(try rw[if_neg (by omega)])<;>(try rw[if_neg (by omega)])
theorem sI (a:Nat):sat a<=1152921504606846977:=by unfold sat;split<;>omega
def Md (t:T):Prop:=t.con.natAbs<=4611686018427387904/\∀p∈t.pts,p.n.natAbs<=4611686018427387904
def yL (w:World) (t:T) (e:Ending) (a:World):Prop:=e=.returned (.int .u64 (sat t.B:Nat))/\Z (ad [] w a)
theorem mJ {l:List Pt} {j:Nat} {p:Pt} (h:l[j]? =some p):Bl (l.take (j+1))=Bl (l.take j)+p.n.natAbs*p.B:=by
 induction l generalizing j with
 | nil=>simp at h
 | cons x l ih=>
  cases j with
  | zero=>simp at h;subst h;simp[Bl]
  | succ j=>simp only[List.take_succ_cons,Bl];rw[ih (by simpa using h)];omega
theorem cW {α:Type} {l:List α} {j:Nat} {v:α} (h:l[j]? =some v):l.drop j=v::l.drop (j+1):=by
 rw[DP (CV.1 h).1,(CV.1 h).2]
theorem aI {α:Type} {l:List α} {j:Nat} (h:j<l.length):∃x,l[j]? =some x:=⟨l[j],CT h⟩
theorem uv (C:Nat->Prop):∀(t:T) (w:World) (A:Option Addr) (c:Nat),t.ok->Md t->t.pts.length<=1000000->t.wd<=1000000->TAt w C A t->Calls Tryz.prog 225 #[tmV t A c] w (yL w t):=by
 refine T.ind (fun t ih=>?_);intro w A c E D a4 F hT;obtain⟨n,hn⟩:∃n,n=t.pts.length:=⟨_,rfl⟩;have an:=bZ hn;obtain⟨k,hk⟩:∃k,k=t.con:=⟨_,rfl⟩;have a5:=bZ (hk▸D.1);have hb:Z (sat t.B=sat (k.natAbs+Bl (t.pts.take n))):=bZ (by rw[T.B_eq,hn,List.take_length,hk]);unfold yL;rw[hb.o];rw[T.ok_iff] at E;rw[T.wd_iff] at F;replace ih:=bZ ih;replace E:=bZ E;replace D:=bZ D.2;replace hT:=bZ hT;replace F:=bZ F.2;rw[<-hn] at a4;unfold tmV;rw[<-hn,<-hk];clear hb hk hn;have HA:Z (∀W (a:Int),-9223372036854775808<=a/\a<9223372036854775808->Calls Tryz.prog 195 #[I a] W fun e f=>e=.returned (.int .u64 (a.natAbs:Int))/\f=W):=bZ (fun W a ha=>jl W a ha);have a3:Z (-9223372036854775808<=k/\k<9223372036854775808):=bZ (by have:=a5.o;omega);have Y:Z (∀W,Calls Tryz.prog 227 #[.int .u64 (k.natAbs:Int),.int .u64 0] W fun e f=>e=.returned (.int .u64 (sat k.natAbs:Nat))/\f=W):=bZ (fun W=>by
  have:=qr W k.natAbs 0 (by have:=a5.o;omega) (by omega);exact this)
 have kb:Z (ad [] w (w.alloc (.cells #[I k,.slice A n c] 38))):=bZ ((ad.refl [] w).alloc _);go_enter Tryz.func225,Tryz.ntmps225;go_wp2_with (first | (go_at_call 195;refine(HA.o _ _ a3.o).mono ?_;rintro e f ⟨rfl,rfl⟩) | (go_at_call 227;refine(Y.o _).mono ?_;rintro e f ⟨rfl,rfl⟩));clear Y;generalize w.alloc (.cells #[I k,.slice A n c] 38)=W0 at*;go_loopw [3,14] (fun v3 i wr=>∃j:Nat,j<=n/\i=I j/\v3=.int .u64 (sat (k.natAbs+Bl (t.pts.take j)):Nat)/\Z (ad [] w wr)) (fun _ i _=>n - (intOf i).toNat)
 case atStart=>exact⟨0,C3 _,rfl,by simp[Bl],kb⟩
 obtain⟨j,hj,rfl,rfl,P⟩:=hrel;by_cases am:j<n
 ·obtain⟨p,hp⟩:=aI (l:=t.pts) (j:=j) (by rw[<-an.o];exact am);obtain⟨g,b5,oA,on,oc,rfl,hC,hg,c0,c1,c2,c3,c4,b0,b1,Q⟩:=(hT.o.keep0 P.o).get hp;have r:=CW hp;obtain⟨ao,S⟩:=E.o p r;have a6:=D.o p r;obtain⟨s,aq⟩:∃x,x=wr:=⟨_,rfl⟩;subst aq;have wj:IntKind.i64.wrap ((j:Int)+1)=(j:Int)+1:=C0 _ (by omega);have au:(j:Int)<(n:Int):=by omega
  have M:=bZ (fun W=>jl W p.n (by omega));have HE:Z (∀B:Nat,B<=1152921504606846977->sat (p.n.natAbs*B)=sat (p.n.natAbs*p.B)->∀W,Calls Tryz.prog 194 #[.int .u64 (p.n.natAbs:Int),.int .u64 (B:Int)] W (fun e f=>e=.returned (.int .u64 (sat (p.n.natAbs*p.B):Nat))/\f=W)):=bZ (fun B hB he W=>by
   rw[<-he];exact jS W p.n.natAbs B (by omega) (by omega))
  have HF:Z (∀W,Calls Tryz.prog 227 #[.int .u64 (sat (k.natAbs+Bl (t.pts.take j)):Nat),.int .u64 (sat (p.n.natAbs*p.B):Nat)] W (fun e f=>e=.returned (.int .u64 (sat (k.natAbs+Bl (t.pts.take (j+1))):Nat))/\f=W)):=bZ (fun W=>by
   have:=qr W (sat (k.natAbs+Bl (t.pts.take j))) (sat (p.n.natAbs*p.B)) (by have:=sI (k.natAbs+Bl (t.pts.take j));omega) (by have:=sI (p.n.natAbs*p.B);omega);rw[uY] at this;rw[mJ hp,<-Ej];exact this)
  have ab:p.kd=0\/p.kd=1\/p.kd=2:=by rcases S with h | h<;>omega
  have ax:Z (p.n.natAbs≠0):=bZ (by omega);replace a6:=bZ a6;have a9:=bZ S;replace Q:=bZ Q;have a2:=bZ (ih.o p r);have aa:=bZ (F.o p r);obtain⟨S1,z⟩:∃S1,S1=sat (k.natAbs+Bl (t.pts.take (j+1))):=⟨_,rfl⟩;rw[<-z] at HF;replace z:=bZ z;generalize sat (k.natAbs+Bl (t.pts.take j))=S0 at*;have N:∀W,Z (ad [] s W)->∃j':Nat,j'<=n/\I ((j:Int)+1)=I j'/\Value.int .u64 (S1:Int)=.int .u64 (sat (k.natAbs+Bl (t.pts.take j')):Nat)/\Z (ad [] w W):=
   fun W hW=>⟨j+1,by omega,by push_cast;rfl,by rw[z.o],bZ (P.o.trans hW.o)⟩
  clear S ao r;have X:Z (ad [] s (s.alloc (.cells #[I p.n,I p.kd,I p.v,I p.b,.slice oA on oc] 221))):=bZ ((ad.refl [] s).alloc _);rcases ab with H | H | H
  ·have O:=HE.o 2147483648 (by omega) (by rw[show p.B=2147483648 by unfold Pt.B;rw[if_pos H]]);rw[H] at c1 X;generalize sat (p.n.natAbs*p.B)=SB at*;generalize p.n.natAbs=nA at*;go_wp2_with (first | (go_at_call 195;refine(M.o _).mono ?_;rintro e f ⟨rfl,rfl⟩) | (go_at_call 194;refine(O _).mono ?_;rintro e f ⟨rfl,rfl⟩) | (go_at_call 227;refine(HF.o _).mono ?_;rintro e f ⟨rfl,rfl⟩));go_roundw
   case rel=>exact N _ X
   case measure=>simp[intOf];omega
  ·have O:=HE.o 16 (by omega) (by rw[show p.B=16 by unfold Pt.B;rw[if_neg (by omega),if_pos H]]);rw[H] at c1 X;generalize sat (p.n.natAbs*p.B)=SB at*;generalize p.n.natAbs=nA at*;go_wp2_with (first | (go_at_call 195;refine(M.o _).mono ?_;rintro e f ⟨rfl,rfl⟩) | (go_at_call 194;refine(O _).mono ?_;rintro e f ⟨rfl,rfl⟩) | (go_at_call 227;refine(HF.o _).mono ?_;rintro e f ⟨rfl,rfl⟩));go_roundw
   case rel=>exact N _ X
   case measure=>simp[intOf];omega
  obtain⟨ap,h,o,pA,pc,rfl,ar,k0,k1,ac,ak,K⟩:=Q.o.2 H;subst ap;have hh:h<s.heap.size:=block_lt_of_cell k0;obtain⟨q0,q1,q2,q3,q4,q5,q6,q7⟩:p.kd=2/\p.v=0/\2<=p.b/\p.b<=1000/\0<p.of.pts.length/\p.of.ok/\Sm p.of/\Srt p.of.pts:=by
   rcases a9.o with h | h
   ·omega
   exact h
  obtain⟨d,a0⟩:∃m:Nat,p.b=(m:Int):=⟨p.b.toNat,by omega⟩;obtain⟨u,y⟩:∃m,m=p.of.B:=⟨_,rfl⟩;have J:u<=1152921504606846976:=by rw[y];exact q6.2.2
  have a1:u/d+1<=1152921504606846977:=by have:=Nat.div_le_self u d;omega
  have R:p.B=u/d+1:=by unfold Pt.B;rw[if_neg (by omega),if_neg (by omega),<-y,a0,EH]
  obtain⟨q,hq⟩:∃q,q=u/d:=⟨_,rfl⟩;rw[<-hq] at a1 R;have O:∀W,Calls Tryz.prog 194 #[.int .u64 (p.n.natAbs:Int),.int .u64 ((q:Int)+1)] W (fun e f=>e=.returned (.int .u64 (sat (p.n.natAbs*p.B):Nat))/\f=W):=HE.o (q+1) a1 (by rw[R]);replace O:=bZ O;have L:=aa.o;have CB:Z (Calls Tryz.prog 225 #[.agg #[I p.of.con,.slice pA p.of.pts.length pc]] (s.alloc (.cells #[I p.n,I 2,I p.v,I (d:Int),.slice (some (U h o)) 1 oc] 221)) fun e f=>e=.returned (.int .u64 (u:Int))/\
   Z (ad [] s f)/\Z (f.cell? (U s.heap.size 0)=some (I p.n))/\Z (f.cell? (U s.heap.size 3)=some (I (d:Int)))):=bZ (by
   have k:=(ad.refl [] s).alloc (.cells #[I p.n,I 2,I p.v,I (d:Int),.slice (some (U h o)) 1 oc] 221)
   have hb:=Blk.new s 221 #[I p.n,I 2,I p.v,I (d:Int),.slice (some (U h o)) 1 oc]
   refine(a2.o _ pA pc q5 ⟨by have:=q6.1;omega,fun x hx=>by have:=q6.2.1 x hx;omega⟩ (aA L) L (K.keep0 k)).mono (fun e f hp=>?_)
   obtain⟨h1,h2⟩:=hp
   refine⟨by rw[h1,<-y];unfold sat;rw[if_pos J],bZ (k.trans h2.o),?_,?_⟩
   ·exact bZ ((hb.keep h2.o (by simp)).cell 0)
   ·exact bZ ((hb.keep h2.o (by simp)).cell 3))
  rw[H] at c1;rw[a0] at c3;have b6:IntKind.u64.wrap (d:Int)=(d:Int):=EZ _ (by omega);have b2:IntKind.u64.wrap ((u:Int)/(d:Int))=(q:Int):=by
   rw[show (u:Int)/(d:Int)=(q:Int) by rw[hq];rfl,EZ _ ⟨by omega,by omega⟩]
  have b3:IntKind.u64.wrap ((q:Int)+1)=(q:Int)+1:=EZ _ ⟨by omega,by omega⟩;clear hq;have av:(u:Int)<=1152921504606846976:=by omega
  have hz:((d:Int)==0)=false:=beq_false_of_ne (by omega);have b4:(d:Int)≠0:=by omega
  clear y J R K q0 q1 q2 q3 q4 q5 q6 q7 ac ak X;generalize sat (p.n.natAbs*p.B)=SB at*;generalize p.n.natAbs=nA at*;go_wp2_with (first | (go_at_call 195;refine(M.o _).mono ?_;rintro e f ⟨rfl,rfl⟩) | (go_at_call 194;refine(O.o _).mono ?_;rintro e f ⟨rfl,rfl⟩) | (go_at_call 227;refine(HF.o _).mono ?_;rintro e f ⟨rfl,rfl⟩) | (go_at_call 225;refine CB.o.mono ?_;rintro e f ⟨rfl,X,z0,z3⟩;replace z0:=z0.o;replace z3:=z3.o));go_roundw
  case rel=>exact N _ X
  case measure=>simp[intOf];omega
 obtain rfl:j=n:=by omega
 go_wp2_with fail;go_ret;exact⟨rfl,P⟩
theorem mT (C:Nat->Prop) (t:T) (w:World) (A:Option Addr) (c:Nat) (E:t.ok) (d:Md t) (u:t.wd<=1000000) (Y:TAt w C A t):
 Calls Tryz.prog 219 #[tmV t A c] w fun e f=>e=.returned (.bool (decide (Sm t)))/\Z (ad [] w f):=by
  have z:=aA u;obtain⟨n,J⟩:∃n,n=t.pts.length:=⟨_,rfl⟩;obtain⟨k,H⟩:∃k,k=t.con:=⟨_,rfl⟩;obtain⟨r,R⟩:∃r,r=decide (Sm t):=⟨_,rfl⟩;rw[<-R];have L:Z (-9223372036854775808<=k/\k<9223372036854775808):=bZ (by have:=d.1;omega);have HA:Z (∀W,Calls Tryz.prog 195 #[I k] W fun e f=>e=.returned (.int .u64 (k.natAbs:Int))/\f=W):=bZ (fun W=>jl W k L.o);have CB:Z (∀W,ad [] w W->Calls Tryz.prog 225 #[.agg #[I k,.slice A n c]] W fun e f=>e=.returned (.int .u64 (sat t.B:Nat))/\Z (ad [] W f)):=bZ (fun W hW=>by
   have:=uv C t W A c E d z u (Y.keep0 hW);unfold tmV yL at this;rw[<-J,<-H] at this;exact this)
  have N:=bZ J;have M:=bZ d.2;replace Y:=bZ Y;have X:Z (ad [] w (w.alloc (.cells #[I k,.slice A n c] 38))):=bZ ((ad.refl [] w).alloc _);have z0:(w.alloc (.cells #[I k,.slice A n c] 38)).cell? (U w.heap.size 0)=some (I k):=(Blk.new w 38 #[I k,.slice A n c]).cell 0;have z1:(w.alloc (.cells #[I k,.slice A n c] 38)).cell? (U w.heap.size 1)=G A n c:=(Blk.new w 38 #[I k,.slice A n c]).cell 1;unfold tmV;rw[<-J,<-H];by_cases hc:k.natAbs<=1099511627776
  ·have a0:(k.natAbs:Int)<=1099511627776:=by omega
   have s:Z (r=decide ((∀p∈t.pts,p.n.natAbs<=1048576)/\t.B<=1152921504606846976)):=bZ (by rw[R];exact decide_eq_decide.2 ⟨fun h=>⟨h.2.1,h.2.2⟩,fun h=>⟨by rw[<-H];exact hc,h.1,h.2⟩⟩);rw[<-J] at z;clear R J H d E u;go_enter Tryz.func219,Tryz.ntmps219;go_wp2_with (go_at_call 195;refine(HA.o _).mono ?_;rintro e f ⟨rfl,rfl⟩);generalize w.alloc (.cells #[I k,.slice A n c] 38)=W0 at*;clear HA;go_loopw [12] (fun i wr=>∃j:Nat,j<=n/\i=I j/\Z (∀p∈t.pts.take j,p.n.natAbs<=1048576)/\Z (ad [] W0 wr)) (fun i _=>n - (intOf i).toNat)
   case atStart=>exact⟨0,C3 _,rfl,bZ (by simp),bZ (ad.refl _ _)⟩
   case round=>
    obtain⟨j,hj,rfl,y,a⟩:=hrel;obtain⟨wo,a4⟩:∃x,x=wr:=⟨_,rfl⟩;subst a4;by_cases a1:j<n
    ·obtain⟨p,P⟩:=aI (l:=t.pts) (j:=j) (by rw[<-N.o];exact a1);obtain⟨g,aa,oA,on,oc,rfl,hC,hg,c0,c1,c2,c3,c4,a6,a9,O⟩:=(Y.o.keep0 (X.o.trans a.o)).get P;have m:=CW P;have Q:=M.o p m;have K:=bZ (fun W=>jl W p.n (by omega));have wj:IntKind.i64.wrap ((j:Int)+1)=(j:Int)+1:=C0 _ (by omega);have a5:(j:Int)<(n:Int):=by omega
     have ka:Z (ad [] W0 (wo.alloc (.cells #[I p.n,I p.kd,I p.v,I p.b,.slice oA on oc] 221))):=bZ (a.o.alloc _);replace O:=bZ O;clear z0 z1;by_cases hs:p.n.natAbs<=1048576
     ·have a3:(p.n.natAbs:Int)<=1048576:=by omega
      have a2:Z (∀q∈t.pts.take (j+1),q.n.natAbs<=1048576):=bZ (fun q F=>by
       rw[Dq,P] at F;rcases CX.1 F with F | F
       ·exact y.o q F
       simp at F;subst F;exact hs)
      generalize p.n.natAbs=nA at*;clear hs Q m;go_wp2_with (go_at_call 195;refine(K.o _).mono ?_;rintro e f ⟨rfl,rfl⟩);go_roundw
      case rel=>exact⟨j+1,by omega,by go_num,a2,ka⟩
      case measure=>simp[intOf];omega
     have a3:(1048576:Int)<(p.n.natAbs:Int):=by omega
     have hf:Z (r=false):=bZ (by rw[s.o];exact decide_eq_false (fun h=>hs (h.1 p m)));generalize p.n.natAbs=nA at*;clear hs Q m;go_wp2_with (go_at_call 195;refine(K.o _).mono ?_;rintro e f ⟨rfl,rfl⟩);go_ret;exact⟨by rw[hf.o];rfl,bZ (X.o.trans ka.o)⟩
    obtain rfl:j=n:=by omega
    replace z0:=a.o.cellEq z0 (by simp);replace z1:=a.o.cellEq z1 (by simp);have hf:Z (r=decide (t.B<=1152921504606846976)):=bZ (by
     rw[s.o];have:∀p∈t.pts,p.n.natAbs<=1048576:=fun p P=>y.o p (by rw[N.o,List.take_length];exact P);exact decide_eq_decide.2 ⟨fun h=>h.2,fun h=>⟨this,h⟩⟩)
    have S:Z (decide (t.B<=1152921504606846976)=decide (sat t.B<=1152921504606846976)):=bZ (by
     unfold sat;by_cases h:t.B<=1152921504606846976<;>simp[h])
    have D:=CB.o wo (X.o.trans a.o);generalize sat t.B=SB at*;replace D:=bZ D;go_wp2_with (go_at_call 225;refine D.o.mono ?_;rintro e f ⟨rfl,kk⟩);go_ret;refine⟨congrArg (fun b=>Ending.returned (Value.bool b)) (?_:(_:Bool)=_),bZ ((X.o.trans a.o).trans kk.o)⟩;rw[hf.o,S.o];exact decide_eq_decide.2 (by constructor<;>intro h<;>omega)
  have a0:(1099511627776:Int)<(k.natAbs:Int):=by omega
  have s:r=false:=by rw[R];exact decide_eq_false (fun h=>hc (by rw[H];exact h.1))
  subst s;clear R J H d E u hc;go_enter Tryz.func219,Tryz.ntmps219;go_wp2_with (go_at_call 195;refine(HA.o _).mono ?_;rintro e f ⟨rfl,rfl⟩);go_ret;exact⟨rfl,X⟩
def TeP (w:World) (D:Nat->Prop) (r:T×Int) (e:Ending) (a:World):Prop:=
 ∃A c,e=.returned (.tuple #[.agg #[I r.1.con,.slice A r.1.pts.length c],I r.2])/\r.1.pts.length<=c/\c<=maxLen/\Z (TAt a D A r.1)/\Z (ad [] w a)
theorem bH (w:World) (C:Nat->Prop) (A:Option Addr) (k:Int) (a:Pl A):TAt w C A (.c k):=⟨[],⟨a,dl.nil⟩,rfl⟩
theorem oU (w:World) (k:Int) (h: -9223372036854775808<=k/\k<9223372036854775808):
 Calls Tryz.prog 219 #[tmV (.c k) none 0] w fun e b=>e=.returned (.bool (decide (Sm (.c k))))/\Z (ad [] w b):=by
  by_cases d:k.natAbs<=1099511627776
  ·exact mT (fun _=>True) (.c k) w none 0 trivial ⟨by show k.natAbs<=_;omega,fun p i=>by cases i⟩ (by simp[T.wd]) (bH _ _ _ _ (fun a h=>by cases h))
  have f:Z (∀W,Calls Tryz.prog 195 #[I k] W fun e b=>e=.returned (.int .u64 (k.natAbs:Int))/\b=W):=bZ (fun W=>jl W k h);have j:Z (ad [] w (w.alloc (.cells #[I k,.slice none 0 0] 38))):=bZ ((ad.refl [] w).alloc _);have g:(1099511627776:Int)<(k.natAbs:Int):=by omega
  rw[decide_eq_false (fun h:Sm (.c k)=>d h.1)];show Calls Tryz.prog 219 #[.agg #[I k,.slice none 0 0]] w _;clear d h;go_enter Tryz.func219,Tryz.ntmps219;go_wp2_with (go_at_call 195;refine(f.o _).mono ?_;rintro e b ⟨rfl,rfl⟩);go_ret;exact⟨rfl,j⟩
theorem gj (C:Nat->Prop) (t:T) (w:World) (A:Option Addr) (c:Nat) (E:t.pts.length<=c/\c<=maxLen) (D:TAt w C A t) (j:Z (∀W,ad [] w W->Calls Tryz.prog 219 #[tmV t A c] W fun e f=>e=.returned (.bool (decide (Sm t)))/\Z (ad [] W f))):
 Calls Tryz.prog 197 #[tmV t A c] w (TeP w C (al t)):=by
  obtain⟨s,m⟩:∃s,s=decide (Sm t):=⟨_,rfl⟩;rw[<-m] at j;have d:Z (∀W,ad [] w W->TeP w C (al t) (if s then .returned (.tuple #[.agg #[I t.con,.slice A t.pts.length c],I 0]) else .returned (.tuple #[.agg #[I 0,.slice none 0 0],I 3])) W):=bZ (fun W u=>by
   unfold al;by_cases h:Sm t
   ·rw[if_pos h,m,decide_eq_true h];exact⟨A,c,rfl,E.1,E.2,bZ (D.keep0 u),bZ u⟩
   rw[if_neg h,m,decide_eq_false h];exact⟨none,0,rfl,C9 _,by simp[maxLen],bZ (bH _ _ _ _ (fun a h=>by cases h)),bZ u⟩)
  unfold tmV at j ⊢;generalize t.pts.length=n at*;generalize t.con=k at*;have B:Z (Calls Tryz.prog 219 #[.agg #[I k,.slice A n c]] ((w.alloc (.cells #[I k,.slice A n c] 38)).alloc (.cells #[I 0,.slice none 0 0] 38)) fun e f=>e=.returned (.bool s)/\
   Z (ad [] w f)/\Z (Blk f w.heap.size 38 #[I k,.slice A n c])/\Z (Blk f (w.heap.size+1) 38 #[I 0,.slice none 0 0])):=bZ (by
   have F:=((ad.refl [] w).alloc (.cells #[I k,.slice A n c] 38)).alloc (.cells #[I 0,.slice none 0 0] 38)
   have g:=(Blk.new w 38 #[I k,.slice A n c]).alloc (.cells #[I 0,.slice none 0 0] 38)
   have b:=Blk.new (w.alloc (.cells #[I k,.slice A n c] 38)) 38 #[I 0,.slice none 0 0]
   have e:(w.alloc (.cells #[I k,.slice A n c] 38)).heap.size=w.heap.size+1:=by simp
   rw[e] at b
   refine(j.o _ F).mono (fun e f l=>?_)
   exact⟨l.1,bZ (F.trans l.2.o),bZ (g.keep l.2.o (by simp)),bZ (b.keep l.2.o (by simp))⟩)
  clear m D j;cases s
  ·go_enter Tryz.func197,Tryz.ntmps197;go_wp2_with (go_at_call 219;refine B.o.mono ?_;rintro e f ⟨rfl,z,g,b⟩;have J:=g.o.cell 0;have K:=g.o.cell 1;have y:=b.o.cell;have H:=b.o.frozen);have i:=(b.o.set_ 0 (I 0)).set_ 1 (.slice none 0 0);have q:=i.cell 0;have r:=i.cell 1;have x:=bZ ((z.o.setCell (p:=(U (w.heap.size+1) 0)) (.inr (by show w.heap.size<=w.heap.size+1;omega)) (I 0)).setCell (p:=(U (w.heap.size+1) 1)) (.inr (by show w.heap.size<=w.heap.size+1;omega)) (.slice none 0 0));refine bodyPost_ret (v:=.tuple #[.agg #[I 0,.slice none 0 0],I 3]) (by simp[results,Tryz.results197,go_sem,q,r]) rfl ?_;exact d.o _ x.o
  go_enter Tryz.func197,Tryz.ntmps197;go_wp2_with (go_at_call 219;refine B.o.mono ?_;rintro e f ⟨rfl,z,g,b⟩;have J:=g.o.cell 0;have K:=g.o.cell 1;have y:=b.o.cell;have H:=b.o.frozen);have i:=(b.o.set_ 0 (I k)).set_ 1 (.slice A n c);have q:=i.cell 0;have r:=i.cell 1;have x:=bZ ((z.o.setCell (p:=(U (w.heap.size+1) 0)) (.inr (by show w.heap.size<=w.heap.size+1;omega)) (I k)).setCell (p:=(U (w.heap.size+1) 1)) (.inr (by show w.heap.size<=w.heap.size+1;omega)) (.slice A n c));refine bodyPost_ret (v:=.tuple #[.agg #[I k,.slice A n c],I 0]) (by simp[results,Tryz.results197,go_sem,q,r]) rfl ?_;exact d.o _ x.o
theorem eW (C:Nat->Prop) (t:T) (w:World) (A:Option Addr) (c:Nat) (g:t.pts.length<=c/\c<=maxLen) (b:t.ok) (a:Md t) (d:t.wd<=1000000) (e:TAt w C A t):
 Calls Tryz.prog 197 #[tmV t A c] w (TeP w C (al t)):=
 gj C t w A c g e (bZ (fun W f=>mT C t W A c b a d (e.keep0 f)))
theorem iE (w:World) (C:Nat->Prop) (k:Int) (h: -9223372036854775808<=k/\k<9223372036854775808):Calls Tryz.prog 197 #[tmV (.c k) none 0] w (TeP w C (al (.c k))):=
 gj C (.c k) w none 0 ⟨C9 _,by simp[maxLen]⟩ (bH _ _ _ _ (fun a h=>by cases h)) (bZ (fun W _=>oU W k h))
theorem or3 (w:World) (g:Nat) (a b c:Int) (n:w.cell? (U g 0)=some (I a)) (p:w.cell? (U g 1)=some (I b)) (q:w.cell? (U g 2)=some (I c)):
 Calls Tryz.prog 220 #[.slice (V g) 3 3] w fun e m=>e=.returned (I (orI a (orI b c)))/\m=w:=by
  obtain⟨r,d⟩:∃r,r=orI a (orI b c):=⟨_,rfl⟩;rw[<-d];replace d:=bZ d;go_enter Tryz.func220,Tryz.ntmps220;go_wp2_with fail;go_loopw [8] (fun i wr=>∃k:Nat,k<=3/\i=I k/\wr=w/\Z (1<=k->a=0)/\Z (2<=k->b=0)/\Z (3<=k->c=0)) (fun i _=>3 - (intOf i).toNat)
  case atStart=>exact⟨0,by omega,rfl,rfl,bZ (by omega),bZ (by omega),bZ (by omega)⟩
  obtain⟨k,s,rfl,rfl,f,j,l⟩:=hrel;obtain rfl | rfl | rfl | rfl:k=0\/k=1\/k=2\/k=3:=by omega
  ·by_cases h:a=0
   ·subst h;go_wp2_with fail;go_roundw
    case rel=>exact⟨1,by omega,by go_num,by simp,bZ (by simp),bZ (by omega),bZ (by omega)⟩
    case measure=>simp[intOf]<;>omega
   replace d:=bZ (d.o.trans (by unfold orI;rw[if_pos h]:orI a (orI b c)=a));go_wp2_with fail;go_ret;exact⟨by rw[d.o];rfl,rfl⟩
  ·obtain rfl:=f.o (by omega);by_cases h:b=0
   ·subst h;go_wp2_with fail;go_roundw
    case rel=>exact⟨2,by omega,by go_num,by simp,bZ (by simp),bZ (by simp),bZ (by omega)⟩
    case measure=>simp[intOf]<;>omega
   replace d:=bZ (d.o.trans (by unfold orI;simp[h]:orI 0 (orI b c)=b));go_wp2_with fail;go_ret;exact⟨by rw[d.o];rfl,rfl⟩
  ·obtain rfl:=f.o (by omega);obtain rfl:=j.o (by omega);by_cases h:c=0
   ·subst h;go_wp2_with fail;go_roundw
    case rel=>exact⟨3,by omega,by go_num,by simp,bZ (by simp),bZ (by simp),bZ (by simp)⟩
    case measure=>simp[intOf]<;>omega
   replace d:=bZ (d.o.trans (by unfold orI;simp:orI 0 (orI 0 c)=c));go_wp2_with fail;go_ret;exact⟨by rw[d.o];rfl,rfl⟩
  obtain rfl:=f.o (by omega);obtain rfl:=j.o (by omega);obtain rfl:=l.o (by omega);replace d:=bZ (d.o.trans (by unfold orI;simp:orI 0 (orI 0 0)=0));go_wp2_with fail;go_ret;exact⟨by rw[d.o];rfl,rfl⟩
theorem or2 (w:World) (g:Nat) (a b:Int) (l:w.cell? (U g 0)=some (I a)) (m:w.cell? (U g 1)=some (I b)):
 Calls Tryz.prog 220 #[.slice (V g) 2 2] w fun e j=>e=.returned (I (orI a b))/\j=w:=by
  obtain⟨r,c⟩:∃r,r=orI a b:=⟨_,rfl⟩;rw[<-c];replace c:=bZ c;go_enter Tryz.func220,Tryz.ntmps220;go_wp2_with fail;go_loopw [8] (fun i wr=>∃k:Nat,k<=2/\i=I k/\wr=w/\Z (1<=k->a=0)/\Z (2<=k->b=0)) (fun i _=>2 - (intOf i).toNat)
  case atStart=>exact⟨0,by omega,rfl,rfl,bZ (by omega),bZ (by omega)⟩
  obtain⟨k,n,rfl,rfl,d,f⟩:=hrel;obtain rfl | rfl | rfl:k=0\/k=1\/k=2:=by omega
  ·by_cases h:a=0
   ·subst h;go_wp2_with fail;go_roundw
    case rel=>exact⟨1,by omega,by go_num,by simp,bZ (by simp),bZ (by omega)⟩
    case measure=>simp[intOf]<;>omega
   replace c:=bZ (c.o.trans (by unfold orI;rw[if_pos h]:orI a b=a));go_wp2_with fail;go_ret;exact⟨by rw[c.o];rfl,rfl⟩
  ·obtain rfl:=d.o (by omega);by_cases h:b=0
   ·subst h;go_wp2_with fail;go_roundw
    case rel=>exact⟨2,by omega,by go_num,by simp,bZ (by simp),bZ (by simp)⟩
    case measure=>simp[intOf]<;>omega
   replace c:=bZ (c.o.trans (by unfold orI;simp:orI 0 b=b));go_wp2_with fail;go_ret;exact⟨by rw[c.o];rfl,rfl⟩
  obtain rfl:=d.o (by omega);obtain rfl:=f.o (by omega);replace c:=bZ (c.o.trans (by unfold orI;simp:orI 0 0=0));go_wp2_with fail;go_ret;exact⟨by rw[c.o];rfl,rfl⟩
def fa (w:World) (r:Int) (e:Ending) (a:World):Prop:=e=.returned (I r)/\Z (ad [] w a)
theorem qv (C D:Nat->Prop) (p q:Pt) (w:World) (oA oB:Option Addr) (on Q E j:Nat) (hp:p.ok) (hq:q.ok) (ho:bP w C p oA on) (J:bP w D q oB E)
 (HC:p.kd=2->q.kd=2->∀W A c A' c',ad [] w W->TAt W C A p.of->TAt W D A' q.of->Calls Tryz.prog 223 #[tmV p.of A c,tmV q.of A' c'] W (fa W (p.of.cmp q.of))):
 Calls Tryz.prog 198 #[.agg (ptV p oA on Q).toArray,.agg (ptV q oB E j).toArray] w (fa w (kc p q)):=by
  unfold ptV;have H1:=bZ (fun W a b=>uq W a b);have H2:=bZ (fun W a b=>uo W a b);obtain⟨f,H⟩:∃f,f=(w.alloc (.cells #[I p.n,I p.kd,I p.v,I p.b,.slice oA on Q] 221)).alloc (.cells #[I q.n,I q.kd,I q.v,I q.b,.slice oB E j] 221):=⟨_,rfl⟩;have k2:ad [] w f:=by rw[H];exact((ad.refl [] w).alloc _).alloc _
  have L:Blk f w.heap.size 221 #[I p.n,I p.kd,I p.v,I p.b,.slice oA on Q]:=by rw[H];exact(Blk.new w 221 _).alloc _
  have M:Blk f (w.heap.size+1) 221 #[I q.n,I q.kd,I q.v,I q.b,.slice oB E j]:=by
   rw[H];have:=Blk.new (w.alloc (.cells #[I p.n,I p.kd,I p.v,I p.b,.slice oA on Q] 221)) 221 #[I q.n,I q.kd,I q.v,I q.b,.slice oB E j];simpa using this
  obtain⟨c0,N⟩:∃c0,c0=orI (ai p.kd q.kd) (orI (ai p.v q.v) (ai p.b q.b)):=⟨_,rfl⟩;have H3:Calls Tryz.prog 220 #[.slice (V f.heap.size) 3 3] (f.alloc (.cells #[I (ai p.kd q.kd),I (ai p.v q.v),I (ai p.b q.b)] 3)).drew fun e d=>e=.returned (I c0)/\d=(f.alloc (.cells #[I (ai p.kd q.kd),I (ai p.v q.v),I (ai p.b q.b)] 3)).drew:=by
   have T:=Blk.new f 3 #[I (ai p.kd q.kd),I (ai p.v q.v),I (ai p.b q.b)];rw[N];exact or3 _ _ _ _ _ (T.drew.cell 0) (T.drew.cell 1) (T.drew.cell 2)
  have l:Z (kc p q=if orI (ai p.kd q.kd) (orI (ai p.v q.v) (ai p.b q.b))≠0\/p.kd≠2\/q.kd≠2 then orI (ai p.kd q.kd) (orI (ai p.v q.v) (ai p.b q.b)) else p.of.cmp q.of):=bZ (by
   have e:∀x y z u:Int,orI x (orI y (orI z u))=if orI x (orI y z)≠0 then orI x (orI y z) else u:=fun x y z u=>by unfold orI;repeat' split<;>first | rfl | omega
   unfold kc;rw[e];by_cases h:orI (ai p.kd q.kd) (orI (ai p.v q.v) (ai p.b q.b))=0
   ·rw[if_neg (by simpa using h)];have hk:p.kd=q.kd:=aT.1 (mh.1 h).1;by_cases r:p.kd=2
    ·rw[if_neg (by rw[h,<-hk,r];simp)]
    rw[if_pos (.inr (.inl r)),h];have h3:p.of=.c 0:=by rcases hp with h | h;exact h.2.2.2;exact absurd h.1 r
    have h4:q.of=.c 0:=by rcases hq with h | h;exact h.2.2.2;exact absurd h.1 (hk▸r)
    rw[h3,h4];rfl
   rw[if_pos h,if_pos (.inl h)])
  rw[<-N] at l;have O:Z (c0=0->p.kd=q.kd):=bZ (fun h=>aT.1 (mh.1 (N▸h)).1);have aa:=bZ (fun h=>(ho.1 h).1);have ab:=bZ (fun h=>(J.1 h).1);replace ho:=bZ ho;replace J:=bZ J;replace HC:=bZ HC;replace L:=bZ L;replace M:=bZ M;replace k2:=bZ k2;replace H3:=bZ H3;clear N;go_enter Tryz.func198,Tryz.ntmps198;go_wp2_with fail;rw[<-H];obtain⟨k,a6⟩:∃g,g=w.heap.size:=⟨_,rfl⟩;obtain⟨m,a9⟩:∃g,g=w.heap.size+1:=⟨_,rfl⟩;rw[<-a9] at M ⊢;rw[<-a6] at L ⊢;clear H a6 a9;have lp:k<f.heap.size:=L.o.lt;have lq:m<f.heap.size:=M.o.lt;have p1:f.cell? (U k 1)=some (I p.kd):=L.o.cell 1;have p2:f.cell? (U k 2)=some (I p.v):=L.o.cell 2;have p3:f.cell? (U k 3)=some (I p.b):=L.o.cell 3;have p4:f.cell? (U k 4)=G oA on Q:=L.o.cell 4;have q1:f.cell? (U m 1)=some (I q.kd):=M.o.cell 1;have q2:f.cell? (U m 2)=some (I q.v):=M.o.cell 2;have q3:f.cell? (U m 3)=some (I q.b):=M.o.cell 3;have q4:f.cell? (U m 4)=G oB E j:=M.o.cell 4;refine ae (S:=(fun d=>(d.cell? (U k 1)=some (I p.kd)/\d.cell? (U k 2)=some (I p.v)/\d.cell? (U k 3)=some (I p.b))/\d.cell? (U m 1)=some (I q.kd)/\d.cell? (U m 2)=some (I q.v)/\d.cell? (U m 3)=some (I q.b))) (n:=15) (by kernel_rfl) ?_;have R:(fun d:World=>(d.cell? (U k 1)=some (I p.kd)/\d.cell? (U k 2)=some (I p.v)/\d.cell? (U k 3)=some (I p.b))/\d.cell? (U m 1)=some (I q.kd)/\d.cell? (U m 2)=some (I q.v)/\d.cell? (U m 3)=some (I q.b)) f.drew:=⟨⟨p1,p2,p3⟩,q1,q2,q3⟩;dsimp only at R;refine ord [0,1,2,3,5,6,7,8,10,11,12,13] ?_
  iterate 12 (refine tq R ?_;try simp only[PT,Y1,Y2,Y3])
  refine aB ?_;refine J1 4 fun K s=>?_;dsimp only[Y1,Y2,Y3];go_simp;refine(H1.o _ _ _).mono ?_;rintro e d ⟨rfl,rfl⟩;refine s _ _ (.inr R) ?_;clear s K
  try simp only[PT,Y1,Y2,Y3]
  refine J1 9 fun K s=>?_;dsimp only[Y1,Y2,Y3];go_simp;refine(H1.o _ _ _).mono ?_;rintro e d ⟨rfl,rfl⟩;refine s _ _ (.inr R) ?_;clear s K
  try simp only[PT,Y1,Y2,Y3]
  refine J1 14 fun K s=>?_;dsimp only[Y1,Y2,Y3];go_simp;refine(H2.o _ _ _).mono ?_;rintro e d ⟨rfl,rfl⟩;refine s _ _ (.inr R) ?_;clear s K
  try simp only[PT,Y1,Y2,Y3]
  refine JQ 15 ?_
  try simp only[PT,Y1,Y2,Y3]
  refine J1 16 fun K s=>?_;dsimp only[Y1,Y2,Y3];go_simp;refine H3.o.mono ?_;rintro e d ⟨rfl,rfl⟩;refine s _ _ (.inl (by omega)) ?_;clear s K
  try simp only[PT,Y1,Y2,Y3]
  refine JQ 17 ?_
  try simp only[PT,Y1,Y2,Y3]
  refine JD ?_;have i:Z (ad [] w (f.alloc (.cells #[I (ai p.kd q.kd),I (ai p.v q.v),I (ai p.b q.b)] 3))):=bZ (k2.o.alloc _);have a5:=bZ (L.o.alloc (.cells #[I (ai p.kd q.kd),I (ai p.v q.v),I (ai p.b q.b)] 3));have ac:=bZ (M.o.alloc (.cells #[I (ai p.kd q.kd),I (ai p.v q.v),I (ai p.b q.b)] 3));by_cases F:c0=0
  ·have ap:(c0 !=0)=false:=by simp[F]
   have P:=O.o F;by_cases r:p.kd=2
   ·have B:q.kd=2:=by rw[<-P];exact r
    obtain⟨rfl,h,o,pA,pc,rfl,ar,a0,a1,ak,am,a3⟩:=ho.o.2 r;obtain⟨rfl,X,Y,qA,qc,rfl,aq,T,b1,an,ao,a4⟩:=J.o.2 B;have t:=l.o;rw[if_neg (by simp[F,r,B])] at t;replace t:=bZ t;have a2:=bZ (fun W (hW:ad [] w W)=>HC.o r B W pA pc qA qc hW (a3.keep0 hW) (a4.keep0 hW));unfold tmV fa at a2;replace a0:=i.o.cellEq a0 (by simp);replace a1:=i.o.cellEq a1 (by simp);replace T:=i.o.cellEq T (by simp);replace b1:=i.o.cellEq b1 (by simp);have e4:(f.alloc (.cells #[I (ai p.kd q.kd),I (ai p.v q.v),I (ai p.b q.b)] 3)).cell? (U k 4)=G (some (U h o)) 1 Q:=a5.o.cell 4;have f4:(f.alloc (.cells #[I (ai p.kd q.kd),I (ai p.v q.v),I (ai p.b q.b)] 3)).cell? (U m 4)=G (some (U X Y)) 1 j:=ac.o.cell 4;clear HC l O r B P a3 a4 ak am an ao p1 p2 p3 p4 q1 q2 q3 q4 hp hq aa ab ho J;replace F:=bZ F;generalize f.alloc (.cells #[I (ai p.kd q.kd),I (ai p.v q.v),I (ai p.b q.b)] 3)=W3 at*;go_wp2_with fail;refine ae (S:=(fun d=>(d.cell? (U k 4)=G (some (U h o)) 1 Q/\d.cell? (U m 4)=G (some (U X Y)) 1 j)/\(d.cell? (U h o)=some (I p.of.con)/\d.cell? (U h (o+1))=G pA p.of.pts.length pc)/\d.cell? (U X Y)=some (I q.of.con)/\d.cell? (U X (Y+1))=G qA q.of.pts.length qc)) (n:=8) (by kernel_rfl) ?_;have R:(fun d:World=>(d.cell? (U k 4)=G (some (U h o)) 1 Q/\d.cell? (U m 4)=G (some (U X Y)) 1 j)/\(d.cell? (U h o)=some (I p.of.con)/\d.cell? (U h (o+1))=G pA p.of.pts.length pc)/\d.cell? (U X Y)=some (I q.of.con)/\d.cell? (U X (Y+1))=G qA q.of.pts.length qc) W3.drew:=⟨⟨e4,f4⟩,⟨a0,a1⟩,T,b1⟩;dsimp only at R;refine ord [0,1,2,3,4,5,6,7] ?_
    iterate 8 (refine tq R ?_;try simp only[PT,Y1,Y2,Y3])
    refine aB ?_;refine J1 8 fun K s=>?_;dsimp only[Y1,Y2,Y3];go_simp;refine(a2.o _ i.o.drew.drew).mono ?_;rintro e d ⟨rfl,kk⟩;refine s _ _ (.inl (by omega)) ?_;clear s K
    try simp only[PT,Y1,Y2,Y3]
    refine JQ 9 ?_
    try simp only[PT,Y1,Y2,Y3]
    refine JD ?_;go_wp2_with fail;go_ret;exact⟨by rw[t.o];rfl,bZ (i.o.drew.drew.trans kk.o)⟩
   have B:q.kd≠2:=by rw[<-P];exact r
   obtain rfl:=aa.o r;have t:=l.o;rw[if_pos (.inr (.inl r))] at t;replace t:=bZ t;have e4:(f.alloc (.cells #[I (ai p.kd q.kd),I (ai p.v q.v),I (ai p.b q.b)] 3)).cell? (U k 4)=G oA 0 Q:=a5.o.cell 4;clear HC l O r B P p1 p2 p3 p4 q1 q2 q3 q4;replace F:=bZ F;generalize f.alloc (.cells #[I (ai p.kd q.kd),I (ai p.v q.v),I (ai p.b q.b)] 3)=W3 at*;go_wp2_with fail;go_ret;exact⟨by rw[t.o];rfl,bZ i.o.drew⟩
  have ap:(c0 !=0)=true:=by simp[F]
  have t:=l.o;rw[if_pos (.inl F)] at t;replace t:=bZ t;clear HC l O p1 p2 p3 p4 q1 q2 q3 q4;replace F:=bZ F;generalize f.alloc (.cells #[I (ai p.kd q.kd),I (ai p.v q.v),I (ai p.b q.b)] 3)=W3 at*;go_wp2_with fail;go_ret;exact⟨by rw[t.o];rfl,bZ i.o.drew⟩
end Go.Proofs.YtldmkbhgdbafhaaGreat
