/- Actual; New of too many; Thirty, both. -/
import Derived.Test.YtehkaiildchmfaaCalI
namespace Go.Proofs.Ytehkaiildchmfaa
open Go.RowKit

def acV (y m d y' m' d' : Int) : Int := if rightB y m d && rightB y' m' d' then numI y' m' d' - numI y m d else 0
def acE (y m d y' m' d' : Int) : Int := if rightB y m d && rightB y' m' d' then 0 else 31

set_option maxHeartbeats 2000000 in
theorem actual_calls (y m d y' m' d' : Int) (w : World) :
    Calls Try.prog 18 #[.agg #[.int .i64 y, .int .i64 m, .int .i64 d], .agg #[.int .i64 y', .int .i64 m', .int .i64 d']] w fun e w' => e = .returned (.tuple #[.int .i64 (acV y m d y' m' d'), .int .i64 (acE y m d y' m' d')]) ∧ Below w.heap.size w w' := by
  have hn1 := fun W => hide (number_calls y m d W)
  have hn2 := fun W => hide (number_calls y' m' d' W)
  unfold acV acE
  have b1 : Blk ((w.alloc (.cells #[.int .i64 y, .int .i64 m, .int .i64 d] 23)).alloc (.cells #[.int .i64 y', .int .i64 m', .int .i64 d'] 23)) w.heap.size 23 #[.int .i64 y, .int .i64 m, .int .i64 d] := (box3 w _ y m d).alloc _
  have b2 : Blk ((w.alloc (.cells #[.int .i64 y, .int .i64 m, .int .i64 d] 23)).alloc (.cells #[.int .i64 y', .int .i64 m', .int .i64 d'] 23)) (w.heap.size + 1) 23 #[.int .i64 y', .int .i64 m', .int .i64 d'] := Blk.of_size (by simp)
  have hb0 := ((Below.refl w.heap.size w).alloc (Nat.le_refl _) (.cells #[.int .i64 y, .int .i64 m, .int .i64 d] 23)).alloc (by simp) (.cells #[.int .i64 y', .int .i64 m', .int .i64 d'] 23)
  cases hr : rightB y m d
  · unfold numR errR at hn1
    rw [hr] at hn1
    clear hr hn2
    go_enter Try.func18, Try.ntmps18
    go_wp2_with fail
    refine (unhide (hn1 _)).mono ?_
    rintro e w1 ⟨rfl, hx1⟩
    have hb1 := hb0.trans (hx1.mono hb0.size)
    go_wp2
    go_ret2
    exact ⟨rfl, hb1⟩
  · have hA := num_range hr
    unfold numR errR at hn1
    rw [hr] at hn1
    cases hr2 : rightB y' m' d'
    · unfold numR errR at hn2
      rw [hr2] at hn2
      clear hr hr2 hA
      generalize numI y m d = A at *
      go_enter Try.func18, Try.ntmps18
      go_wp2_with fail
      refine (unhide (hn1 _)).mono ?_
      rintro e w1 ⟨rfl, hx1⟩
      have hb1 := hb0.trans (hx1.mono hb0.size)
      have b3 := b2.below hx1 b2.lt
      have c0 : w1.cell? ⟨w.heap.size + 1, 0, none⟩ = some (.int .i64 y') := b3.cell 0
      have c1 : w1.cell? ⟨w.heap.size + 1, 1, none⟩ = some (.int .i64 m') := b3.cell 1
      have c2 : w1.cell? ⟨w.heap.size + 1, 2, none⟩ = some (.int .i64 d') := b3.cell 2
      go_wp2_with fail
      refine (unhide (hn2 _)).mono ?_
      rintro e w2 ⟨rfl, hx2⟩
      have hb2 := hb1.trans (hx2.mono hb1.size)
      go_wp2
      go_ret2
      exact ⟨rfl, hb2⟩
    · have hB := num_range hr2
      unfold numR errR at hn2
      rw [hr2] at hn2
      clear hr hr2
      generalize numI y m d = A at *
      generalize numI y' m' d' = B at *
      go_enter Try.func18, Try.ntmps18
      go_wp2_with fail
      refine (unhide (hn1 _)).mono ?_
      rintro e w1 ⟨rfl, hx1⟩
      have hb1 := hb0.trans (hx1.mono hb0.size)
      have b3 := b2.below hx1 b2.lt
      have c0 : w1.cell? ⟨w.heap.size + 1, 0, none⟩ = some (.int .i64 y') := b3.cell 0
      have c1 : w1.cell? ⟨w.heap.size + 1, 1, none⟩ = some (.int .i64 m') := b3.cell 1
      have c2 : w1.cell? ⟨w.heap.size + 1, 2, none⟩ = some (.int .i64 d') := b3.cell 2
      go_wp2_with fail
      refine (unhide (hn2 _)).mono ?_
      rintro e w2 ⟨rfl, hx2⟩
      have hb2 := hb1.trans (hx2.mono hb1.size)
      obtain ⟨A0, A1⟩ := hA
      obtain ⟨B0, B1⟩ := hB
      go_wp2
      go_ret2
      exact ⟨rfl, hb2⟩

theorem new_many (A : Option Addr) (len cap : Nat) (hlen : 512 < len) (w : World) :
    Calls Try.prog 16 #[.slice A len cap] w fun e w' => e = .returned (.tuple #[.pointer none, .int .i64 41]) ∧ w = w' := by
  have hgt : decide (512 < (len : Int)) = true := decide_eq_true (by omega)
  clear hlen
  go_enter Try.func16, Try.ntmps16
  go_wp2
  go_ret2
  exact ⟨rfl, rfl⟩
end Go.Proofs.Ytehkaiildchmfaa
