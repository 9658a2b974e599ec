/- Contracts: the validity of a class, the constructors, membership, the next element. -/
import Derived.Test.YtbinnmcodlejmaaMem
import Derived.Test.YtbinnmcodlejmaaCong1
import Derived.Test.YtbinnmcodlejmaaCong0b
import Derived.Test.YtbinnmcodlejmaaShelf
namespace Go.Proofs.Ytbinnmcodlejmaa
open Go.RowKit
set_option linter.unusedSimpArgs false
set_option linter.unusedVariables false


def valB (r m : Int) : Bool := decide (1 ≤ m) && decide (m ≤ 4611686018427387904) && decide (0 ≤ r) && decide (r < m)
theorem valB_true {r m : Int} (h : Val r m) : valB r m = true := by
  obtain ⟨h1, h2, h3, h4⟩ := h
  simp [valB, h1, h2, h3, h4]
theorem valB_false {r m : Int} (h : ¬ Val r m) : valB r m = false := by
  cases hb : valB r m
  · rfl
  · exact absurd (by simp [valB] at hb; exact ⟨hb.1.1.1, hb.1.1.2, hb.1.2, hb.2⟩) h

theorem val_cases (r m : Int) : (m < 1 ∨ (1 ≤ m ∧ 4611686018427387904 < m) ∨ (1 ≤ m ∧ m ≤ 4611686018427387904 ∧ r < 0) ∨ (1 ≤ m ∧ m ≤ 4611686018427387904 ∧ 0 ≤ r ∧ m ≤ r)) ∨ Val r m := by
  unfold Val; omega

/-- A call that hands back v; nothing that was there has turned. -/
def Gives (v : Value) (w : World) (e : Ending) (w' : World) : Prop := e = .returned v ∧ Keeps [] w w'

/-- A call that hands back v and has boxed a class of type T; it may have drawn. -/
def Box (v : Value) (T : TypeId) (r m : Int) (w : World) (e : Ending) (w' : World) : Prop := e = .returned v ∧ ∃ n, w' = (w.alloc (.cells #[.int .i64 r, .int .i64 m] T)).drewN n
def Box0 (v : Value) (T : TypeId) (r m : Int) (w : World) (e : Ending) (w' : World) : Prop := e = .returned v ∧ w' = w.alloc (.cells #[.int .i64 r, .int .i64 m] T)

set_option maxHeartbeats 400000 in
theorem valid_no (r m : Int) (w : World) (h : ¬ Val r m) :
    Calls Try.prog 37 #[.agg #[.int .i64 r, .int .i64 m]] w (Box0 (.bool false) 24 r m w) := by
  rcases val_cases r m with (h1 | ⟨h1, h2⟩ | ⟨h1, h2, h3⟩ | ⟨h1, h2, h3, h4⟩) | h1
  · go_enter Try.func37, Try.ntmps37
    go_wp2
    go_ret
    exact ⟨rfl, rfl⟩
  · go_enter Try.func37, Try.ntmps37
    go_wp2
    go_ret
    exact ⟨rfl, rfl⟩
  · go_enter Try.func37, Try.ntmps37
    go_wp2
    go_ret
    exact ⟨rfl, rfl⟩
  · have hd : decide (r < m) = false := by simpa using h4
    go_enter Try.func37, Try.ntmps37
    go_wp2
    go_ret
    exact ⟨rfl, rfl⟩
  · exact absurd h1 h

set_option maxHeartbeats 400000 in
theorem valid_yes (r m : Int) (w : World) (h : Val r m) :
    Calls Try.prog 37 #[.agg #[.int .i64 r, .int .i64 m]] w (Box0 (.bool true) 24 r m w) := by
  obtain ⟨h1, h2, h3, h4⟩ := h
  go_enter Try.func37, Try.ntmps37
  go_wp2
  go_ret
  exact ⟨rfl, rfl⟩

set_option maxHeartbeats 400000 in
theorem limit_any (w : World) : Calls Try.prog 36 #[] w fun e w' => e = .returned (.int .i64 4611686018427387904) ∧ w = w' := by
  go_enter Try.func36, Try.ntmps36
  go_wp2
  go_ret
  exact ⟨rfl, rfl⟩

set_option maxHeartbeats 400000 in
theorem rvalid_yes (r m : Int) (w : World) (h : Val r m) :
    Calls Try.prog 18 #[.agg #[.int .i64 r, .int .i64 m]] w (Box (.bool true) 28 r m w) := by
  obtain ⟨h1, h2, h3, h4⟩ := h
  have hd : decide (r < m) = true := by simpa using h4
  go_enter Try.func18, Try.ntmps18
  go_wp2_with fail
  go_quiet ((go_at_call 36; exact quiet_left (limit_any _)))
  go_wp2
  go_ret
  exact ⟨rfl, _, rfl⟩

set_option maxHeartbeats 800000 in
theorem rvalid_no (r m : Int) (w : World) (h : ¬ Val r m) :
    Calls Try.prog 18 #[.agg #[.int .i64 r, .int .i64 m]] w (Box (.bool false) 28 r m w) := by
  rcases val_cases r m with (h1 | ⟨h1, h2⟩ | ⟨h1, h2, h3⟩ | ⟨h1, h2, h3, h4⟩) | h1
  · have hd : decide (1 ≤ m) = false := by simp; omega
    go_enter Try.func18, Try.ntmps18
    go_wp2_with fail
    go_quiet ((go_at_call 36; exact quiet_left (limit_any _)))
    go_wp2
    go_ret
    exact ⟨rfl, _, rfl⟩
  · have hd : decide (m ≤ 4611686018427387904) = false := by simp; omega
    go_enter Try.func18, Try.ntmps18
    go_wp2_with fail
    go_quiet ((go_at_call 36; exact quiet_left (limit_any _)))
    go_wp2
    go_ret
    exact ⟨rfl, _, rfl⟩
  · have hd : decide (0 ≤ r) = false := by simp; omega
    go_enter Try.func18, Try.ntmps18
    go_wp2_with fail
    go_quiet ((go_at_call 36; exact quiet_left (limit_any _)))
    go_wp2
    go_ret
    exact ⟨rfl, _, rfl⟩
  · have hd : decide (r < m) = false := by simp; omega
    go_enter Try.func18, Try.ntmps18
    go_wp2_with fail
    go_quiet ((go_at_call 36; exact quiet_left (limit_any _)))
    go_wp2
    go_ret
    exact ⟨rfl, _, rfl⟩
  · exact absurd h1 h
end Go.Proofs.Ytbinnmcodlejmaa
