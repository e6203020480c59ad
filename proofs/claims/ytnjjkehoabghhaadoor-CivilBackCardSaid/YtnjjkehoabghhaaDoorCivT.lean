/- The walk of the document's Text. -/
import Derived.Test.YtnjjkehoabghhaaDoorCivX
namespace Go.Proofs.YtnjjkehoabghhaaDoor
open Go.RowKit

set_option maxHeartbeats 2000000 in
theorem rtext_bad (y m d : Int) (w : World) (hr : rightB y m d = false) :
    Calls Tryd.prog 21 #[.agg #[.int .i64 y, .int .i64 m, .int .i64 d]] w fun e w' => e = .returned (.string ⟨#[]⟩) ∧ Below w.heap.size w w' := by
  have hrc := fun W => hide (rright_calls y m d W)
  rw [hr] at hrc
  have hb0 := (Below.refl w.heap.size w).alloc (Nat.le_refl _) (.cells #[.int .i64 y, .int .i64 m, .int .i64 d] 23)
  clear hr
  go_enter Tryd.func21, Tryd.ntmps21
  go_wp2_with fail
  refine (unhide (hrc _)).mono ?_
  rintro e w1 ⟨rfl, hb1⟩
  have hb2 := hb0.trans (hb1.mono (by simp))
  go_wp2
  go_ret
  exact ⟨rfl, hb2⟩

theorem dig_slice (x : Int) (h0 : 0 ≤ x) (h1 : x ≤ 9) : (⟨#[48, 49, 50, 51, 52, 53, 54, 55, 56, 57]⟩ : ByteArray).extract x.toNat (x + 1).toNat = ⟨#[dig x]⟩ := by
  have : x = 0 ∨ x = 1 ∨ x = 2 ∨ x = 3 ∨ x = 4 ∨ x = 5 ∨ x = 6 ∨ x = 7 ∨ x = 8 ∨ x = 9 := by omega
  rcases this with rfl | rfl | rfl | rfl | rfl | rfl | rfl | rfl | rfl | rfl <;> decide

set_option maxHeartbeats 4000000 in
theorem rtext_good (y m d : Int) (w : World) (hr : rightB y m d = true) :
    Calls Tryd.prog 21 #[.agg #[.int .i64 y, .int .i64 m, .int .i64 d]] w fun e w' => e = .returned (.string ⟨(textL y m d).toArray⟩) ∧ Below w.heap.size w w' := by
  have hrc := fun W => hide (rright_calls y m d W)
  rw [hr] at hrc
  obtain ⟨h1, h2, h3, h4, h5, h6⟩ := (right_iff y m d).1 hr
  have h7 : d ≤ 31 := Int.le_trans h6 (len_bd y m h3 h4).2
  have hbx := SX.new w y m d
  clear hr h6
  go_enter Tryd.func21, Tryd.ntmps21
  go_wp2_with fail
  refine (unhide (hrc _)).mono ?_
  rintro e w1 ⟨rfl, hb1⟩
  have hS0 : SX w y m d w1 := hbx.on hb1
  have a0 := hS0.1
  have a1 := hS0.2.1
  have a2 := hS0.2.2.1
  clear hbx hb1 hrc
  go_wp2
  have b1 : 0 ≤ y / 1000 ∧ y / 1000 ≤ 9 := by omega
  have b2 : 0 ≤ y / 100 % 10 ∧ y / 100 % 10 ≤ 9 := by omega
  have b3 : 0 ≤ y / 10 % 10 ∧ y / 10 % 10 ≤ 9 := by omega
  have b4 : 0 ≤ y % 10 ∧ y % 10 ≤ 9 := by omega
  have b5 : 0 ≤ m / 10 ∧ m / 10 ≤ 9 := by omega
  have b6 : 0 ≤ m % 10 ∧ m % 10 ≤ 9 := by omega
  have b7 : 0 ≤ d / 10 ∧ d / 10 ≤ 9 := by omega
  have b8 : 0 ≤ d % 10 ∧ d % 10 ≤ 9 := by omega
  have hte : Hid (textL y m d = [dig (y / 1000), dig (y / 100 % 10), dig (y / 10 % 10), dig (y % 10), 45, dig (m / 10), dig (m % 10), 45, dig (d / 10), dig (d % 10)]) := hide rfl
  clear h1 h2 h3 h4 h5 h7
  generalize y / 1000 = x1 at *
  generalize y / 100 % 10 = x2 at *
  generalize y / 10 % 10 = x3 at *
  generalize y % 10 = x4 at *
  generalize m / 10 = x5 at *
  generalize m % 10 = x6 at *
  generalize d / 10 = x7 at *
  generalize d % 10 = x8 at *
  have sl1 := dig_slice x1 b1.1 b1.2
  obtain ⟨l1, r1⟩ := b1
  have sl2 := dig_slice x2 b2.1 b2.2
  obtain ⟨l2, r2⟩ := b2
  have sl3 := dig_slice x3 b3.1 b3.2
  obtain ⟨l3, r3⟩ := b3
  have sl4 := dig_slice x4 b4.1 b4.2
  obtain ⟨l4, r4⟩ := b4
  have sl5 := dig_slice x5 b5.1 b5.2
  obtain ⟨l5, r5⟩ := b5
  have sl6 := dig_slice x6 b6.1 b6.2
  obtain ⟨l6, r6⟩ := b6
  have sl7 := dig_slice x7 b7.1 b7.2
  obtain ⟨l7, r7⟩ := b7
  have sl8 := dig_slice x8 b8.1 b8.2
  obtain ⟨l8, r8⟩ := b8
  generalize dig x1 = q1 at *
  generalize dig x2 = q2 at *
  generalize dig x3 = q3 at *
  generalize dig x4 = q4 at *
  generalize dig x5 = q5 at *
  generalize dig x6 = q6 at *
  generalize dig x7 = q7 at *
  generalize dig x8 = q8 at *
  generalize hAr : (#[Value.int .i64 x1, Value.int .i64 x2, Value.int .i64 x3, Value.int .i64 x4, Value.int .i64 x5, Value.int .i64 x6, Value.int .i64 x7, Value.int .i64 x8] : Array Value) = ar
  have ix1 : ∀ W, (Instr.index 48 (.agg ar) (.int .i64 0)).run Tryd.prog W = .ok (.int .i64 x1) W := fun W => run_index_arr (P := Tryd.prog) 48 3 8 ar 0 (.int .i64 x1) (.int .i64) Tryd.underlying48 (by kernel_rfl) Tryd.underlying3 rfl (by decide) (by rw [← hAr]; rfl) W
  have ix2 : ∀ W, (Instr.index 48 (.agg ar) (.int .i64 1)).run Tryd.prog W = .ok (.int .i64 x2) W := fun W => run_index_arr (P := Tryd.prog) 48 3 8 ar 1 (.int .i64 x2) (.int .i64) Tryd.underlying48 (by kernel_rfl) Tryd.underlying3 rfl (by decide) (by rw [← hAr]; rfl) W
  have ix3 : ∀ W, (Instr.index 48 (.agg ar) (.int .i64 2)).run Tryd.prog W = .ok (.int .i64 x3) W := fun W => run_index_arr (P := Tryd.prog) 48 3 8 ar 2 (.int .i64 x3) (.int .i64) Tryd.underlying48 (by kernel_rfl) Tryd.underlying3 rfl (by decide) (by rw [← hAr]; rfl) W
  have ix4 : ∀ W, (Instr.index 48 (.agg ar) (.int .i64 3)).run Tryd.prog W = .ok (.int .i64 x4) W := fun W => run_index_arr (P := Tryd.prog) 48 3 8 ar 3 (.int .i64 x4) (.int .i64) Tryd.underlying48 (by kernel_rfl) Tryd.underlying3 rfl (by decide) (by rw [← hAr]; rfl) W
  have ix5 : ∀ W, (Instr.index 48 (.agg ar) (.int .i64 4)).run Tryd.prog W = .ok (.int .i64 x5) W := fun W => run_index_arr (P := Tryd.prog) 48 3 8 ar 4 (.int .i64 x5) (.int .i64) Tryd.underlying48 (by kernel_rfl) Tryd.underlying3 rfl (by decide) (by rw [← hAr]; rfl) W
  have ix6 : ∀ W, (Instr.index 48 (.agg ar) (.int .i64 5)).run Tryd.prog W = .ok (.int .i64 x6) W := fun W => run_index_arr (P := Tryd.prog) 48 3 8 ar 5 (.int .i64 x6) (.int .i64) Tryd.underlying48 (by kernel_rfl) Tryd.underlying3 rfl (by decide) (by rw [← hAr]; rfl) W
  have ix7 : ∀ W, (Instr.index 48 (.agg ar) (.int .i64 6)).run Tryd.prog W = .ok (.int .i64 x7) W := fun W => run_index_arr (P := Tryd.prog) 48 3 8 ar 6 (.int .i64 x7) (.int .i64) Tryd.underlying48 (by kernel_rfl) Tryd.underlying3 rfl (by decide) (by rw [← hAr]; rfl) W
  have ix8 : ∀ W, (Instr.index 48 (.agg ar) (.int .i64 7)).run Tryd.prog W = .ok (.int .i64 x8) W := fun W => run_index_arr (P := Tryd.prog) 48 3 8 ar 7 (.int .i64 x8) (.int .i64) Tryd.underlying48 (by kernel_rfl) Tryd.underlying3 rfl (by decide) (by rw [← hAr]; rfl) W
  clear hAr
  go_loopw [3, 36] (fun s v wr => wr = w1 ∧ ((v = .int .i64 0 ∧ s = Value.string ⟨#[]⟩) ∨ (v = .int .i64 1 ∧ s = Value.string ⟨#[q1]⟩) ∨ (v = .int .i64 2 ∧ s = Value.string ⟨#[q1, q2]⟩) ∨ (v = .int .i64 3 ∧ s = Value.string ⟨#[q1, q2, q3]⟩) ∨ (v = .int .i64 4 ∧ s = Value.string ⟨#[q1, q2, q3, q4]⟩) ∨ (v = .int .i64 5 ∧ s = Value.string ⟨#[q1, q2, q3, q4, 45, q5]⟩) ∨ (v = .int .i64 6 ∧ s = Value.string ⟨#[q1, q2, q3, q4, 45, q5, q6]⟩) ∨ (v = .int .i64 7 ∧ s = Value.string ⟨#[q1, q2, q3, q4, 45, q5, q6, 45, q7]⟩) ∨ (v = .int .i64 8 ∧ s = Value.string ⟨#[q1, q2, q3, q4, 45, q5, q6, 45, q7, q8]⟩))) (fun _ v _ => (8 - intOf v).toNat)
  case atStart => exact ⟨rfl, Or.inl ⟨rfl, rfl⟩⟩
  case round =>
    obtain ⟨rfl, hrel⟩ := hrel
    rcases hrel with ⟨rfl, rfl⟩ | ⟨rfl, rfl⟩ | ⟨rfl, rfl⟩ | ⟨rfl, rfl⟩ | ⟨rfl, rfl⟩ | ⟨rfl, rfl⟩ | ⟨rfl, rfl⟩ | ⟨rfl, rfl⟩ | ⟨rfl, rfl⟩
    · clear sl2 l2 r2 ix2 sl3 l3 r3 ix3 sl4 l4 r4 ix4 sl5 l5 r5 ix5 sl6 l6 r6 ix6 sl7 l7 r7 ix7 sl8 l8 r8 ix8
      go_wp2
      go_roundw
      case rel => exact ⟨trivial, Or.inr (Or.inl ⟨rfl, congrArg Value.string (by apply ByteArray.ext; simp)⟩)⟩
      case measure => simp [intOf]
    · clear sl1 l1 r1 ix1 sl3 l3 r3 ix3 sl4 l4 r4 ix4 sl5 l5 r5 ix5 sl6 l6 r6 ix6 sl7 l7 r7 ix7 sl8 l8 r8 ix8
      go_wp2
      go_roundw
      case rel => exact ⟨trivial, Or.inr (Or.inr (Or.inl ⟨rfl, congrArg Value.string (by apply ByteArray.ext; simp)⟩))⟩
      case measure => simp [intOf]
    · clear sl1 l1 r1 ix1 sl2 l2 r2 ix2 sl4 l4 r4 ix4 sl5 l5 r5 ix5 sl6 l6 r6 ix6 sl7 l7 r7 ix7 sl8 l8 r8 ix8
      go_wp2
      go_roundw
      case rel => exact ⟨trivial, Or.inr (Or.inr (Or.inr (Or.inl ⟨rfl, congrArg Value.string (by apply ByteArray.ext; simp)⟩)))⟩
      case measure => simp [intOf]
    · clear sl1 l1 r1 ix1 sl2 l2 r2 ix2 sl3 l3 r3 ix3 sl5 l5 r5 ix5 sl6 l6 r6 ix6 sl7 l7 r7 ix7 sl8 l8 r8 ix8
      go_wp2
      go_roundw
      case rel => exact ⟨trivial, Or.inr (Or.inr (Or.inr (Or.inr (Or.inl ⟨rfl, congrArg Value.string (by apply ByteArray.ext; simp)⟩))))⟩
      case measure => simp [intOf]
    · clear sl1 l1 r1 ix1 sl2 l2 r2 ix2 sl3 l3 r3 ix3 sl4 l4 r4 ix4 sl6 l6 r6 ix6 sl7 l7 r7 ix7 sl8 l8 r8 ix8
      go_wp2
      go_roundw
      case rel => exact ⟨trivial, Or.inr (Or.inr (Or.inr (Or.inr (Or.inr (Or.inl ⟨rfl, congrArg Value.string (by apply ByteArray.ext; simp)⟩)))))⟩
      case measure => simp [intOf]
    · clear sl1 l1 r1 ix1 sl2 l2 r2 ix2 sl3 l3 r3 ix3 sl4 l4 r4 ix4 sl5 l5 r5 ix5 sl7 l7 r7 ix7 sl8 l8 r8 ix8
      go_wp2
      go_roundw
      case rel => exact ⟨trivial, Or.inr (Or.inr (Or.inr (Or.inr (Or.inr (Or.inr (Or.inl ⟨rfl, congrArg Value.string (by apply ByteArray.ext; simp)⟩))))))⟩
      case measure => simp [intOf]
    · clear sl1 l1 r1 ix1 sl2 l2 r2 ix2 sl3 l3 r3 ix3 sl4 l4 r4 ix4 sl5 l5 r5 ix5 sl6 l6 r6 ix6 sl8 l8 r8 ix8
      go_wp2
      go_roundw
      case rel => exact ⟨trivial, Or.inr (Or.inr (Or.inr (Or.inr (Or.inr (Or.inr (Or.inr (Or.inl ⟨rfl, congrArg Value.string (by apply ByteArray.ext; simp)⟩)))))))⟩
      case measure => simp [intOf]
    · clear sl1 l1 r1 ix1 sl2 l2 r2 ix2 sl3 l3 r3 ix3 sl4 l4 r4 ix4 sl5 l5 r5 ix5 sl6 l6 r6 ix6 sl7 l7 r7 ix7
      go_wp2
      go_roundw
      case rel => exact ⟨trivial, Or.inr (Or.inr (Or.inr (Or.inr (Or.inr (Or.inr (Or.inr (Or.inr (⟨rfl, congrArg Value.string (by apply ByteArray.ext; simp)⟩))))))))⟩
      case measure => simp [intOf]
    · clear sl1 l1 r1 ix1 sl2 l2 r2 ix2 sl3 l3 r3 ix3 sl4 l4 r4 ix4 sl5 l5 r5 ix5 sl6 l6 r6 ix6 sl7 l7 r7 ix7 sl8 l8 r8 ix8
      go_wp2
      go_ret
      have hfin : Ending.returned (Value.string ⟨#[q1, q2, q3, q4, 45, q5, q6, 45, q7, q8]⟩) = Ending.returned (Value.string ⟨(textL y m d).toArray⟩) := by rw [hte.out]
      exact ⟨hfin, hS0.2.2.2.2⟩
end Go.Proofs.YtnjjkehoabghhaaDoor
