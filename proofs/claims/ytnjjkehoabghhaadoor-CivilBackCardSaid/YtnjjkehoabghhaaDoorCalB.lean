/- The walks of Right. -/
import Derived.Test.YtnjjkehoabghhaaDoorCalA
import Derived.Deep.RegionHeld3
import Derived.Deep.DeepMust
namespace Go.Proofs.YtnjjkehoabghhaaDoor
open Go.RowKit

/-- A date as a value. -/
def dv (y m d : Int) : Value := .agg #[.int .i64 y, .int .i64 m, .int .i64 d]

theorem box3 (w : World) (t : TypeId) (y m d : Int) : Blk (w.alloc (.cells #[.int .i64 y, .int .i64 m, .int .i64 d] t)) w.heap.size t #[.int .i64 y, .int .i64 m, .int .i64 d] := Blk.new w t _

set_option maxHeartbeats 1000000 in
theorem right_calls (y m d : Int) (w : World) : Calls Tryd.prog 14 #[.agg #[.int .i64 y, .int .i64 m, .int .i64 d]] w fun e w' => e = .returned (.bool (rightB y m d)) ∧ Below w.heap.size w w' := by
  by_cases h1 : 1900 ≤ y
  case neg =>
    have hr : rightB y m d = false := decide_eq_false (fun h => h1 h.1)
    rw [hr]
    have k1 : decide (1900 ≤ y) = false := decide_eq_false h1
    clear hr
    go_enter Tryd.func14, Tryd.ntmps14
    go_wp2_with fail
    go_quiet (fail)
    go_wp2
    go_ret
    exact ⟨rfl, below_draws ((Below.refl _ _).alloc (Nat.le_refl _) _) _⟩
  by_cases h2 : y ≤ 2299
  case neg =>
    have hr : rightB y m d = false := decide_eq_false (fun h => h2 h.2.1)
    rw [hr]
    have k1 : decide (1900 ≤ y) = true := decide_eq_true h1
    have k2 : decide (y ≤ 2299) = false := decide_eq_false h2
    clear hr
    go_enter Tryd.func14, Tryd.ntmps14
    go_wp2_with fail
    go_quiet (fail)
    go_wp2
    go_ret
    exact ⟨rfl, below_draws ((Below.refl _ _).alloc (Nat.le_refl _) _) _⟩
  by_cases h3 : 1 ≤ d
  case neg =>
    have hr : rightB y m d = false := decide_eq_false (fun h => h3 h.2.2.1)
    rw [hr]
    have k1 : decide (1900 ≤ y) = true := decide_eq_true h1
    have k2 : decide (y ≤ 2299) = true := decide_eq_true h2
    have k3 : decide (1 ≤ d) = false := decide_eq_false h3
    clear hr
    go_enter Tryd.func14, Tryd.ntmps14
    go_wp2_with fail
    go_quiet (fail)
    go_wp2
    go_ret
    exact ⟨rfl, below_draws ((Below.refl _ _).alloc (Nat.le_refl _) _) _⟩
  have hr : rightB y m d = decide (d ≤ lenI y m) := by unfold rightB; simp [h1, h2, h3]
  rw [hr]
  clear hr
  have k1 : decide (1900 ≤ y) = true := decide_eq_true h1
  have k2 : decide (y ≤ 2299) = true := decide_eq_true h2
  have k3 : decide (1 ≤ d) = true := decide_eq_true h3
  have hb0 := box3 w 23 y m d
  have c0 := hb0.cell 0
  have c1 := hb0.cell 1
  have c2 := hb0.cell 2
  have hB0 : Below w.heap.size w (w.alloc (.cells #[.int .i64 y, .int .i64 m, .int .i64 d] 23)).drew := ((Below.refl _ _).alloc (Nat.le_refl _) _).drew
  have hlen := fun W => hide (length_calls y m W)
  generalize lenI y m = L at *
  clear h1 h2 h3
  go_enter Tryd.func14, Tryd.ntmps14
  go_wp2_with fail
  go_region_held3 (fun w' => w'.cell? ⟨w.heap.size, 0, none⟩ = some (.int .i64 y) ∧ w'.cell? ⟨w.heap.size, 1, none⟩ = some (.int .i64 m) ∧ w'.cell? ⟨w.heap.size, 2, none⟩ = some (.int .i64 d) ∧ Below w.heap.size w w') (first | exact ⟨c0, c1, c2, hB0⟩ | exact ⟨(hb.cell (p := ⟨w.heap.size, 0, none⟩) (by simp)).trans c0, (hb.cell (p := ⟨w.heap.size, 1, none⟩) (by simp)).trans c1, (hb.cell (p := ⟨w.heap.size, 2, none⟩) (by simp)).trans c2, hB0.trans (hb.mono (by simp))⟩)
    (first | (go_at_call 18; go_must (refine (unhide (hlen _)).mono ?_); rintro e w1 ⟨rfl, hb⟩))
  go_wp2
  go_ret
  exact ⟨rfl, hB0.trans (hb.mono (by simp))⟩

set_option maxHeartbeats 1000000 in
theorem rright_calls (y m d : Int) (w : World) : Calls Tryd.prog 15 #[.agg #[.int .i64 y, .int .i64 m, .int .i64 d]] w fun e w' => e = .returned (.bool (rightB y m d)) ∧ Below w.heap.size w w' := by
  have hri := right_iff y m d
  by_cases h1 : 1900 ≤ y
  case neg =>
    have hr : rightB y m d = false := by rw [Bool.eq_false_iff]; intro h'; have h := hri.1 h'; exact h1 h.1
    rw [hr]
    have k0 : decide (1900 ≤ y) = false := decide_eq_false h1
    clear hr hri
    go_enter Tryd.func15, Tryd.ntmps15
    go_wp2_with fail
    go_quiet (fail)
    go_wp2
    go_ret
    exact ⟨rfl, below_draws ((Below.refl _ _).alloc (Nat.le_refl _) _) _⟩
  by_cases h2 : y ≤ 2299
  case neg =>
    have hr : rightB y m d = false := by rw [Bool.eq_false_iff]; intro h'; have h := hri.1 h'; exact h2 h.2.1
    rw [hr]
    have k0 : decide (1900 ≤ y) = true := decide_eq_true h1
    have k1 : decide (y ≤ 2299) = false := decide_eq_false h2
    clear hr hri
    go_enter Tryd.func15, Tryd.ntmps15
    go_wp2_with fail
    go_quiet (fail)
    go_wp2
    go_ret
    exact ⟨rfl, below_draws ((Below.refl _ _).alloc (Nat.le_refl _) _) _⟩
  by_cases h3 : 1 ≤ m
  case neg =>
    have hr : rightB y m d = false := by rw [Bool.eq_false_iff]; intro h'; have h := hri.1 h'; exact h3 h.2.2.1
    rw [hr]
    have k0 : decide (1900 ≤ y) = true := decide_eq_true h1
    have k1 : decide (y ≤ 2299) = true := decide_eq_true h2
    have k2 : decide (1 ≤ m) = false := decide_eq_false h3
    clear hr hri
    go_enter Tryd.func15, Tryd.ntmps15
    go_wp2_with fail
    go_quiet (fail)
    go_wp2
    go_ret
    exact ⟨rfl, below_draws ((Below.refl _ _).alloc (Nat.le_refl _) _) _⟩
  by_cases h4 : m ≤ 12
  case neg =>
    have hr : rightB y m d = false := by rw [Bool.eq_false_iff]; intro h'; have h := hri.1 h'; exact h4 h.2.2.2.1
    rw [hr]
    have k0 : decide (1900 ≤ y) = true := decide_eq_true h1
    have k1 : decide (y ≤ 2299) = true := decide_eq_true h2
    have k2 : decide (1 ≤ m) = true := decide_eq_true h3
    have k3 : decide (m ≤ 12) = false := decide_eq_false h4
    clear hr hri
    go_enter Tryd.func15, Tryd.ntmps15
    go_wp2_with fail
    go_quiet (fail)
    go_wp2
    go_ret
    exact ⟨rfl, below_draws ((Below.refl _ _).alloc (Nat.le_refl _) _) _⟩
  by_cases h5 : 1 ≤ d
  case neg =>
    have hr : rightB y m d = false := by rw [Bool.eq_false_iff]; intro h'; have h := hri.1 h'; exact h5 h.2.2.2.2.1
    rw [hr]
    have k0 : decide (1900 ≤ y) = true := decide_eq_true h1
    have k1 : decide (y ≤ 2299) = true := decide_eq_true h2
    have k2 : decide (1 ≤ m) = true := decide_eq_true h3
    have k3 : decide (m ≤ 12) = true := decide_eq_true h4
    have k4 : decide (1 ≤ d) = false := decide_eq_false h5
    clear hr hri
    go_enter Tryd.func15, Tryd.ntmps15
    go_wp2_with fail
    go_quiet (fail)
    go_wp2
    go_ret
    exact ⟨rfl, below_draws ((Below.refl _ _).alloc (Nat.le_refl _) _) _⟩
  have hr : rightB y m d = decide (d ≤ lenI y m) := by unfold rightB; simp [h1, h2, h5]
  rw [hr]
  clear hr hri
  have k0 : decide (1900 ≤ y) = true := decide_eq_true h1
  have k1 : decide (y ≤ 2299) = true := decide_eq_true h2
  have k2 : decide (1 ≤ m) = true := decide_eq_true h3
  have k3 : decide (m ≤ 12) = true := decide_eq_true h4
  have k4 : decide (1 ≤ d) = true := decide_eq_true h5
  have hb0 := box3 w 23 y m d
  have c0 := hb0.cell 0
  have c1 := hb0.cell 1
  have c2 := hb0.cell 2
  have hB0 : Below w.heap.size w (w.alloc (.cells #[.int .i64 y, .int .i64 m, .int .i64 d] 23)).drew := ((Below.refl _ _).alloc (Nat.le_refl _) _).drew
  have hlen := fun W => hide (rlength_calls y m W)
  generalize lenI y m = L at *
  clear h1 h2 h3 h4 h5
  go_enter Tryd.func15, Tryd.ntmps15
  go_wp2_with fail
  go_region_held3 (fun w' => w'.cell? ⟨w.heap.size, 0, none⟩ = some (.int .i64 y) ∧ w'.cell? ⟨w.heap.size, 1, none⟩ = some (.int .i64 m) ∧ w'.cell? ⟨w.heap.size, 2, none⟩ = some (.int .i64 d) ∧ Below w.heap.size w w') (first | exact ⟨c0, c1, c2, hB0⟩)
    (first | (go_at_call 19; go_must (refine (unhide (hlen _)).mono ?_); rintro e w1 ⟨rfl, rfl⟩))
  go_wp2
  go_ret
  exact ⟨rfl, hB0⟩
end Go.Proofs.YtnjjkehoabghhaaDoor
