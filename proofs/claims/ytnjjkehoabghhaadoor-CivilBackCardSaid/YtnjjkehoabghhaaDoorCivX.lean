/- The walk of civil.Text. -/
import Derived.Test.YtnjjkehoabghhaaDoorCalD
import Derived.Test.YtnjjkehoabghhaaDoorCivP
namespace Go.Proofs.YtnjjkehoabghhaaDoor
open Go.RowKit

def textL (y m d : Int) : List UInt8 := [dig (y / 1000), dig (y / 100 % 10), dig (y / 10 % 10), dig (y % 10), 45, dig (m / 10), dig (m % 10), 45, dig (d / 10), dig (d % 10)]

/-- What the region of Text holds on to. -/
def SX (w : World) (y m d : Int) (w' : World) : Prop :=
  w'.cell? ⟨w.heap.size, 0, none⟩ = some (.int .i64 y) ∧ w'.cell? ⟨w.heap.size, 1, none⟩ = some (.int .i64 m) ∧ w'.cell? ⟨w.heap.size, 2, none⟩ = some (.int .i64 d) ∧ w.heap.size < w'.heap.size ∧ Below w.heap.size w w'

theorem SX.on {w : World} {y m d : Int} {w1 w2 : World} (h : SX w y m d w1) (hb : Below w1.heap.size w1 w2) : SX w y m d w2 := by
  obtain ⟨h0, h1, h2, h3, h4⟩ := h
  exact ⟨(hb.cell (p := ⟨w.heap.size, 0, none⟩) h3).trans h0, (hb.cell (p := ⟨w.heap.size, 1, none⟩) h3).trans h1, (hb.cell (p := ⟨w.heap.size, 2, none⟩) h3).trans h2, Nat.lt_of_lt_of_le h3 hb.size, h4.trans (hb.mono (Nat.le_of_lt h3))⟩

theorem SX.new (w : World) (y m d : Int) : SX w y m d (w.alloc (.cells #[.int .i64 y, .int .i64 m, .int .i64 d] 23)) := by
  have hb := box3 w 23 y m d
  exact ⟨hb.cell 0, hb.cell 1, hb.cell 2, hb.lt, (Below.refl w.heap.size w).alloc (Nat.le_refl _) _⟩

set_option maxHeartbeats 2000000 in
theorem text_bad (y m d : Int) (w : World) (hr : rightB y m d = false) :
    Calls Tryd.prog 20 #[.agg #[.int .i64 y, .int .i64 m, .int .i64 d]] w fun e w' => e = .returned (.string ⟨#[]⟩) ∧ Below w.heap.size w w' := by
  have hrc := fun W => hide (right_calls y m d W)
  rw [hr] at hrc
  have hb0 := (Below.refl w.heap.size w).alloc (Nat.le_refl _) (.cells #[.int .i64 y, .int .i64 m, .int .i64 d] 23)
  clear hr
  go_enter Tryd.func20, Tryd.ntmps20
  go_wp2_with fail
  refine (unhide (hrc _)).mono ?_
  rintro e w1 ⟨rfl, hb1⟩
  have hb2 := hb0.trans (hb1.mono (by simp))
  go_wp2
  go_ret
  exact ⟨rfl, hb2⟩

set_option maxHeartbeats 4000000 in
theorem text_good (y m d : Int) (w : World) (hT : TabW w) (hr : rightB y m d = true) :
    Calls Tryd.prog 20 #[.agg #[.int .i64 y, .int .i64 m, .int .i64 d]] w fun e w' => e = .returned (.string ⟨(textL y m d).toArray⟩) ∧ Below w.heap.size w w' := by
  have hrc := fun W => hide (right_calls y m d W)
  rw [hr] at hrc
  obtain ⟨h1, h2, h3, h4, h5, h6⟩ := (right_iff y m d).1 hr
  have h7 : d ≤ 31 := Int.le_trans h6 (len_bd y m h3 h4).2
  have hp1 : ∀ W, SX w y m d W → Hid (Calls Tryd.prog 29 #[.int .i64 y, .int .i64 4] W fun e w' => e = .returned (.string ⟨(padL 4 (Lib.itoa y)).toArray⟩) ∧ Below W.heap.size W w') := fun W hS => hide (padded_calls y 4 (by omega) (by omega) (by decide) W (hT.on hS.2.2.2.2))
  have hp2 : ∀ W, SX w y m d W → Hid (Calls Tryd.prog 29 #[.int .i64 m, .int .i64 2] W fun e w' => e = .returned (.string ⟨(padL 2 (Lib.itoa m)).toArray⟩) ∧ Below W.heap.size W w') := fun W hS => hide (padded_calls m 2 (by omega) (by omega) (by decide) W (hT.on hS.2.2.2.2))
  have hp3 : ∀ W, SX w y m d W → Hid (Calls Tryd.prog 29 #[.int .i64 d, .int .i64 2] W fun e w' => e = .returned (.string ⟨(padL 2 (Lib.itoa d)).toArray⟩) ∧ Below W.heap.size W w') := fun W hS => hide (padded_calls d 2 (by omega) (by omega) (by decide) W (hT.on hS.2.2.2.2))
  rw [pad4 y (by omega) (by omega)] at hp1
  rw [pad2 m (by omega) (by omega)] at hp2
  rw [pad2 d (by omega) (by omega)] at hp3
  unfold textL
  generalize dig (y / 1000) = q1 at *
  generalize dig (y / 100 % 10) = q2 at *
  generalize dig (y / 10 % 10) = q3 at *
  generalize dig (y % 10) = q4 at *
  generalize dig (m / 10) = q5 at *
  generalize dig (m % 10) = q6 at *
  generalize dig (d / 10) = q7 at *
  generalize dig (d % 10) = q8 at *
  have hbx : SX w y m d (w.alloc (.cells #[.int .i64 y, .int .i64 m, .int .i64 d] 23)) := by
    have hb := box3 w 23 y m d
    exact ⟨hb.cell 0, hb.cell 1, hb.cell 2, hb.lt, (Below.refl w.heap.size w).alloc (Nat.le_refl _) _⟩
  clear hr h1 h2 h3 h4 h5 h6 h7 hT
  go_enter Tryd.func20, Tryd.ntmps20
  go_wp2_with fail
  refine (unhide (hrc _)).mono ?_
  rintro e w1 ⟨rfl, hb1⟩
  have hS0 : SX w y m d w1 := hbx.on hb1
  have hS0' : SX w y m d w1.drew := ⟨hS0.1, hS0.2.1, hS0.2.2.1, hS0.2.2.2.1, hS0.2.2.2.2.drew⟩
  clear hbx hb1 hrc
  go_wp2_with fail
  go_region_held3 (fun w' => w'.cell? ⟨w.heap.size, 0, none⟩ = some (.int .i64 y) ∧ w'.cell? ⟨w.heap.size, 1, none⟩ = some (.int .i64 m) ∧ w'.cell? ⟨w.heap.size, 2, none⟩ = some (.int .i64 d) ∧ w.heap.size < w'.heap.size ∧ Below w.heap.size w w')
    (first | exact hS3 | exact hS2 | exact hS1 | exact hS0' | exact hS0)
    (first
      | (go_at_call 29; refine (unhide (hp3 _ hS2)).mono ?_; rintro e w4 ⟨rfl, hb4⟩; have hS3 := hS2.on hb4)
      | (go_at_call 29; refine (unhide (hp2 _ hS1)).mono ?_; rintro e w3 ⟨rfl, hb3⟩; have hS2 := hS1.on hb3)
      | (go_at_call 29; refine (unhide (hp1 _ hS0')).mono ?_; rintro e w2 ⟨rfl, hb2⟩; have hS1 := hS0'.on hb2))
  go_wp2
  go_ret
  exact ⟨rfl, hS3.2.2.2.2⟩
end Go.Proofs.YtnjjkehoabghhaaDoor
