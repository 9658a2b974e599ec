/- TopCrash: whatever the schema and the events, the law returns true and the arguments read as they did. No condition. -/
import Derived.ChangeOld
import Derived.ShutString
import Derived.Test.YtmlmfpikncogpaaGreatL49
namespace Go.Proofs.YtmlmfpikncogpaaGreat
open Go.RowKit
set_option linter.unusedSimpArgs false
set_option linter.unusedVariables false
set_option maxRecDepth 100000
set_option maxHeartbeats 16000000
namespace topCrashHolds
section
open Go.ChangeShapes Go.WideShapes Go.ChangeAt Go.RowKit
open Go.ChangeMaps (open_string shut_string)
theorem law_topcrash (w:World) (A:Option Addr) (n c:Nat) (b:List (List Value)) (f:List TD) (k:ou w (fun _=>True) A b f) (l:f.length=n) (r:n<=maxLen) (g:Option Addr) (a:List Ev) (m d:Nat) (p:a.length=m) (q:m<=maxLen) (j:zE w g a) (i:∀v∈a,v.wf):
 Calls Tryz.prog 3 #[.slice A n c,.slice g m d] w fun e w'=>e=.returned (.bool true)/\aa [] w w':=(vL w A n c b f k l r g a m d p q j i).mono (fun _ _ h=>⟨h.1,h.2.o⟩)
theorem own:ownKnob Tryz.prog.godebug=none:=by kernel_rfl
theorem laidOut:laidOutB Tryz.prog=true:=by kernel_rfl
theorem lifted (P:Os) (d:P.Started) (H:Type) (enc:TypeId×Value->H):
 ReturnsInHanded {} Tryz.checked P 3 .any (Rows.topCrashSpec.pre6 enc Tryz.prog Tryz.f3 Rows.topCrashRow.domain false) (Rows.topCrashSpec.post enc Tryz.prog Tryz.f3 false true false false):=by
  refine returnsInHanded_of_change (C:=Tryz.checked) own d (by kernel_rfl) Tryz.func3
   (ChangeSpec.witness6 (enc:=enc) (C:=Tryz.checked) false ⟨#[],#[.slice none 0 0,.slice none 0 0],[]⟩ 8 (by kernel_rfl) (by kernel_rfl) (by kernel_rfl) (by kernel_rfl)) ?_
  intro W base args ds gs i b L M _;have a:∀(j:Nat) t v,Tryz.f3.params[j]? =some t->args[j]? =some v->Value.okWide Tryz.prog W .any base t v:=b;have n:=L;obtain⟨p,q,g,hV,rfl,a6,a7⟩:=L;have K:DataW.TrodAll enc Tryz.prog W 0 (fun _=>true) true Tryz.f3.params.toList args.toList ds p:=g;rw[Tryz.params3] at K a;obtain⟨Q,a8,d0,a2,p0,q0,o,rfl,rfl,F,r0⟩:=trodAll_cons K;obtain⟨R,a9,d1,a3,p1,q1,rfl,rfl,rfl,J,r1⟩:=trodAll_cons r0;obtain⟨rfl,rfl,rfl⟩:=trodAll_nil r1;obtain rfl:args=#[Q,R]:=by cases args;simp_all
  obtain⟨rfl,rfl⟩:=trodVars_none hV;have N:=F;have w:∀x∈p0,x.block<W.heap.size:=by obtain⟨m,u⟩:=N;exact DataW.trod_lt m _ _ _ u
  have O:=J;have y:∀x∈p1,x.block<W.heap.size:=by obtain⟨m,u⟩:=O;exact DataW.trod_lt m _ _ _ u
  obtain⟨a4,r⟩:=F;obtain⟨a0,X,S,rfl⟩:=okWide_slice Tryz.underlying23 (a 0 23 Q rfl rfl);obtain⟨A,c,z,k,D,t1,t2,t3⟩:=xS (by simpa [Value.cells] using r);simp only[EO] at D;obtain⟨rfl,rfl,rfl⟩:=D;obtain⟨a5,s⟩:=J;obtain⟨a1,Y,T,rfl⟩:=okWide_slice Tryz.underlying24 (a 1 24 R rfl rfl);obtain⟨B,c2,l,E,s1,s2,s3⟩:=xV (by simpa [Value.cells] using s);simp only[EO] at E;obtain⟨rfl,rfl,rfl⟩:=E;clear g b;refine(law_topcrash W _ _ _ z k t3 rfl (Dc t1 t2) _ l _ _ rfl s1 s2 s3).mono fun e W' ⟨he,kk⟩=>?_;have f:=kk.below;subst he;exact⟨_,rfl,_,_,_,[],_,[],n,trodAll_mk1 (shut_bool Tryz.underlying4 _),(trodAll_cons_mk (Below.trod laidOut (by kernel_rfl) (of_decide_eq_true (by kernel_rfl)) N f w) (trodAll_cons_mk (Below.trod laidOut (by kernel_rfl) (of_decide_eq_true (by kernel_rfl)) O f y) trodAll_mk0)),rfl,f.frame _,fun h=>by cases h⟩
theorem over:Rows.topCrashRow.holds Tryz.pinned (OpenSpec.ofChange Rows.topCrashSpec):=
 OpenClaim.holds_of_wide 3 Tryz.f3 rfl rfl rfl rfl rfl rfl rfl ⟨rfl,rfl,rfl,rfl,rfl⟩ rfl rfl rfl rfl rfl (by kernel_rfl) Tryz.func3 (by kernel_rfl)
  (of_decide_eq_true (by kernel_rfl)) (by unfold Func.isWrapper;first | (rw[if_pos (by decide+kernel)];kernel_rfl) | (rw[if_neg (by decide+kernel)];exact⟨rfl,rfl⟩))
  (fun b a H enc _=>lifted b a H enc)
theorem proved:Rows.TopCrashSaid:=over
#print axioms proved
end
end topCrashHolds
end Go.Proofs.YtmlmfpikncogpaaGreat
