/- Thirty, both. -/
import Derived.Test.YtehkaiildchmfaaCalI
namespace Go.Proofs.Ytehkaiildchmfaa
open Go.RowKit

def thA (d : Int) : Int := if d < 30 then d else 30
def thB (d d' : Int) : Int := if d < 30 then d' else if d' < 30 then d' else 30
def thV (y m d y' m' d' : Int) : Int := if rightB y m d && rightB y' m' d' then 360 * (y' - y) + 30 * (m' - m) + thB d d' - thA d else 0
def thE (y m d y' m' d' : Int) : Int := if rightB y m d && rightB y' m' d' then 0 else 31

set_option maxHeartbeats 4000000 in
theorem thirty_calls (y m d y' m' d' : Int) (w : World) :
    Calls Try.prog 15 #[.agg #[.int .i64 y, .int .i64 m, .int .i64 d], .agg #[.int .i64 y', .int .i64 m', .int .i64 d']] w fun e w' => e = .returned (.tuple #[.int .i64 (thV y m d y' m' d'), .int .i64 (thE y m d y' m' d')]) ∧ Below w.heap.size w w' := by
  have hr1 := fun W => hide (right_calls y m d W)
  have hr2 := fun W => hide (right_calls y' m' d' W)
  unfold thV thE
  have b1 : Blk ((w.alloc (.cells #[.int .i64 y, .int .i64 m, .int .i64 d] 23)).alloc (.cells #[.int .i64 y', .int .i64 m', .int .i64 d'] 23)) w.heap.size 23 #[.int .i64 y, .int .i64 m, .int .i64 d] := (box3 w _ y m d).alloc _
  have b2 : Blk ((w.alloc (.cells #[.int .i64 y, .int .i64 m, .int .i64 d] 23)).alloc (.cells #[.int .i64 y', .int .i64 m', .int .i64 d'] 23)) (w.heap.size + 1) 23 #[.int .i64 y', .int .i64 m', .int .i64 d'] := Blk.of_size (by simp)
  have hb0 := ((Below.refl w.heap.size w).alloc (Nat.le_refl _) (.cells #[.int .i64 y, .int .i64 m, .int .i64 d] 23)).alloc (by simp) (.cells #[.int .i64 y', .int .i64 m', .int .i64 d'] 23)
  cases hr : rightB y m d
  · rw [hr] at hr1
    clear hr hr2
    go_enter Try.func15, Try.ntmps15
    go_wp2_with fail
    refine (unhide (hr1 _)).mono ?_
    rintro e w1 ⟨rfl, hx1⟩
    have hb1 := hb0.trans (hx1.mono hb0.size)
    go_wp2
    go_ret2
    exact ⟨rfl, hb1⟩
  · obtain ⟨p1, p2, p3, p4, p5, p6⟩ := (right_iff y m d).1 hr
    have p7 := Int.le_trans p6 (len_bd y m p3 p4).2
    rw [hr] at hr1
    cases hs : rightB y' m' d'
    · rw [hs] at hr2
      clear hr hs p1 p2 p3 p4 p5 p6 p7
      go_enter Try.func15, Try.ntmps15
      go_wp2_with fail
      refine (unhide (hr1 _)).mono ?_
      rintro e w1 ⟨rfl, hx1⟩
      have hb1 := hb0.trans (hx1.mono hb0.size)
      have b3 := b2.below hx1 b2.lt
      have c0 : w1.cell? ⟨w.heap.size + 1, 0, none⟩ = some (.int .i64 y') := b3.cell 0
      have c1 : w1.cell? ⟨w.heap.size + 1, 1, none⟩ = some (.int .i64 m') := b3.cell 1
      have c2 : w1.cell? ⟨w.heap.size + 1, 2, none⟩ = some (.int .i64 d') := b3.cell 2
      go_wp2_with fail
      refine (unhide (hr2 _)).mono ?_
      rintro e w2 ⟨rfl, hx2⟩
      have hb2 := hb1.trans (hx2.mono hb1.size)
      go_wp2
      go_ret2
      exact ⟨rfl, hb2⟩
    · obtain ⟨q1, q2, q3, q4, q5, q6⟩ := (right_iff y' m' d').1 hs
      have q7 := Int.le_trans q6 (len_bd y' m' q3 q4).2
      rw [hs] at hr2
      clear hr hs p6 q6
      have hV : Hid (360 * (y' - y) + 30 * (m' - m) + thB d d' - thA d = 360 * (y' - y) + 30 * (m' - m) + thB d d' - thA d) := hide rfl
      go_enter Try.func15, Try.ntmps15
      go_wp2_with fail
      refine (unhide (hr1 _)).mono ?_
      rintro e w1 ⟨rfl, hx1⟩
      have hb1 := hb0.trans (hx1.mono hb0.size)
      have b3 := b2.below hx1 b2.lt
      have b4 := b1.below hx1 b1.lt
      have c0 : w1.cell? ⟨w.heap.size + 1, 0, none⟩ = some (.int .i64 y') := b3.cell 0
      have c1 : w1.cell? ⟨w.heap.size + 1, 1, none⟩ = some (.int .i64 m') := b3.cell 1
      have c2 : w1.cell? ⟨w.heap.size + 1, 2, none⟩ = some (.int .i64 d') := b3.cell 2
      go_wp2_with fail
      refine (unhide (hr2 _)).mono ?_
      rintro e w2 ⟨rfl, hx2⟩
      have hb2 := hb1.trans (hx2.mono hb1.size)
      have b5 := b3.below hx2 b3.lt
      have b6 := b4.below hx2 b4.lt
      clear c0 c1 c2 hb0 b1 b2 b3 b4 hx1 hx2 hb1
      have c0 : w2.cell? ⟨w.heap.size + 1, 0, none⟩ = some (.int .i64 y') := b5.cell 0
      have c1 : w2.cell? ⟨w.heap.size + 1, 1, none⟩ = some (.int .i64 m') := b5.cell 1
      have c2 : w2.cell? ⟨w.heap.size + 1, 2, none⟩ = some (.int .i64 d') := b5.cell 2
      have a0 : w2.cell? ⟨w.heap.size, 0, none⟩ = some (.int .i64 y) := b6.cell 0
      have a1 : w2.cell? ⟨w.heap.size, 1, none⟩ = some (.int .i64 m) := b6.cell 1
      have a2 : w2.cell? ⟨w.heap.size, 2, none⟩ = some (.int .i64 d) := b6.cell 2
      go_wp2_with fail
      have hdc : d < 30 ∨ d = 30 ∨ d = 31 := by omega
      clear hV
      rcases hdc with hd | rfl | rfl
      · skip
        have k1 : (d == 30) = false := beq_eq_false_iff_ne.2 (by omega)
        have k2 : (if 30 < d then (30 : Int) else d) = d := if_neg (by omega)
        go_region
        go_wp2
        all_goals go_ret2
        all_goals exact ⟨ret_i2 (by unfold thA thB; (repeat' split) <;> omega) rfl, by first | exact hb2 | exact hb2.drew⟩
      · by_cases g : 30 < d'
        · have k2 : (if 30 < d' then (30 : Int) else d') = 30 := if_pos g
          go_region
          go_wp2
          all_goals go_ret2
          all_goals exact ⟨ret_i2 (by unfold thA thB; (repeat' split) <;> omega) rfl, by first | exact hb2 | exact hb2.drew⟩
        · have k2 : (if 30 < d' then (30 : Int) else d') = d' := if_neg g
          go_region
          go_wp2
          all_goals go_ret2
          all_goals exact ⟨ret_i2 (by unfold thA thB; (repeat' split) <;> omega) rfl, by first | exact hb2 | exact hb2.drew⟩
      · by_cases g : 30 < d'
        · have k2 : (if 30 < d' then (30 : Int) else d') = 30 := if_pos g
          go_region
          go_wp2
          all_goals go_ret2
          all_goals exact ⟨ret_i2 (by unfold thA thB; (repeat' split) <;> omega) rfl, by first | exact hb2 | exact hb2.drew⟩
        · have k2 : (if 30 < d' then (30 : Int) else d') = d' := if_neg g
          go_region
          go_wp2
          all_goals go_ret2
          all_goals exact ⟨ret_i2 (by unfold thA thB; (repeat' split) <;> omega) rfl, by first | exact hb2 | exact hb2.drew⟩

set_option maxHeartbeats 4000000 in
theorem rthirty_calls (y m d y' m' d' : Int) (w : World) :
    Calls Try.prog 26 #[.agg #[.int .i64 y, .int .i64 m, .int .i64 d], .agg #[.int .i64 y', .int .i64 m', .int .i64 d']] w fun e w' => e = .returned (.tuple #[.int .i64 (thV y m d y' m' d'), .int .i64 (thE y m d y' m' d')]) ∧ Below w.heap.size w w' := by
  have hr1 := fun W => hide (rright_calls y m d W)
  have hr2 := fun W => hide (rright_calls y' m' d' W)
  unfold thV thE
  have b1 : Blk ((w.alloc (.cells #[.int .i64 y, .int .i64 m, .int .i64 d] 23)).alloc (.cells #[.int .i64 y', .int .i64 m', .int .i64 d'] 23)) w.heap.size 23 #[.int .i64 y, .int .i64 m, .int .i64 d] := (box3 w _ y m d).alloc _
  have b2 : Blk ((w.alloc (.cells #[.int .i64 y, .int .i64 m, .int .i64 d] 23)).alloc (.cells #[.int .i64 y', .int .i64 m', .int .i64 d'] 23)) (w.heap.size + 1) 23 #[.int .i64 y', .int .i64 m', .int .i64 d'] := Blk.of_size (by simp)
  have hb0 := ((Below.refl w.heap.size w).alloc (Nat.le_refl _) (.cells #[.int .i64 y, .int .i64 m, .int .i64 d] 23)).alloc (by simp) (.cells #[.int .i64 y', .int .i64 m', .int .i64 d'] 23)
  cases hr : rightB y m d
  · rw [hr] at hr1
    clear hr hr2
    go_enter Try.func26, Try.ntmps26
    go_wp2_with fail
    refine (unhide (hr1 _)).mono ?_
    rintro e w1 ⟨rfl, hx1⟩
    have hb1 := hb0.trans (hx1.mono hb0.size)
    go_wp2
    go_ret2
    exact ⟨rfl, hb1⟩
  · obtain ⟨p1, p2, p3, p4, p5, p6⟩ := (right_iff y m d).1 hr
    have p7 := Int.le_trans p6 (len_bd y m p3 p4).2
    rw [hr] at hr1
    cases hs : rightB y' m' d'
    · rw [hs] at hr2
      clear hr hs p1 p2 p3 p4 p5 p6 p7
      go_enter Try.func26, Try.ntmps26
      go_wp2_with fail
      refine (unhide (hr1 _)).mono ?_
      rintro e w1 ⟨rfl, hx1⟩
      have hb1 := hb0.trans (hx1.mono hb0.size)
      have b3 := b2.below hx1 b2.lt
      have c0 : w1.cell? ⟨w.heap.size + 1, 0, none⟩ = some (.int .i64 y') := b3.cell 0
      have c1 : w1.cell? ⟨w.heap.size + 1, 1, none⟩ = some (.int .i64 m') := b3.cell 1
      have c2 : w1.cell? ⟨w.heap.size + 1, 2, none⟩ = some (.int .i64 d') := b3.cell 2
      go_wp2_with fail
      refine (unhide (hr2 _)).mono ?_
      rintro e w2 ⟨rfl, hx2⟩
      have hb2 := hb1.trans (hx2.mono hb1.size)
      go_wp2
      go_ret2
      exact ⟨rfl, hb2⟩
    · obtain ⟨q1, q2, q3, q4, q5, q6⟩ := (right_iff y' m' d').1 hs
      have q7 := Int.le_trans q6 (len_bd y' m' q3 q4).2
      rw [hs] at hr2
      clear hr hs p6 q6
      have hV : Hid (360 * (y' - y) + 30 * (m' - m) + thB d d' - thA d = 360 * (y' - y) + 30 * (m' - m) + thB d d' - thA d) := hide rfl
      clear hV
      by_cases h31 : d = 31
      · have k1 : (d == 31) = true := beq_iff_eq.2 h31
        by_cases g31 : d' = 31
        · have k2 : (d' == 31) = true := beq_iff_eq.2 g31
          have ev : 360 * (y' - y) + 30 * (m' - m) + thB d d' - thA d = 360 * y' + 30 * m' + 30 - 360 * y - 30 * m - 30 := by unfold thA thB; (repeat' split) <;> omega
          simp only [Bool.and_self, if_true]
          rw [ev]
          clear ev h31 g31
          go_enter Try.func26, Try.ntmps26
          go_wp2_with fail
          refine (unhide (hr1 _)).mono ?_
          rintro e w1 ⟨rfl, hx1⟩
          have hb1 := hb0.trans (hx1.mono hb0.size)
          have b3 := b2.below hx1 b2.lt
          have b4 := b1.below hx1 b1.lt
          have c0 : w1.cell? ⟨w.heap.size + 1, 0, none⟩ = some (.int .i64 y') := b3.cell 0
          have c1 : w1.cell? ⟨w.heap.size + 1, 1, none⟩ = some (.int .i64 m') := b3.cell 1
          have c2 : w1.cell? ⟨w.heap.size + 1, 2, none⟩ = some (.int .i64 d') := b3.cell 2
          go_wp2_with fail
          refine (unhide (hr2 _)).mono ?_
          rintro e w2 ⟨rfl, hx2⟩
          have hb2 := hb1.trans (hx2.mono hb1.size)
          have b5 := b3.below hx2 b3.lt
          have b6 := b4.below hx2 b4.lt
          clear c0 c1 c2 hb0 b1 b2 b3 b4 hx1 hx2 hb1
          have c0 : w2.cell? ⟨w.heap.size + 1, 0, none⟩ = some (.int .i64 y') := b5.cell 0
          have c1 : w2.cell? ⟨w.heap.size + 1, 1, none⟩ = some (.int .i64 m') := b5.cell 1
          have c2 : w2.cell? ⟨w.heap.size + 1, 2, none⟩ = some (.int .i64 d') := b5.cell 2
          have a0 : w2.cell? ⟨w.heap.size, 0, none⟩ = some (.int .i64 y) := b6.cell 0
          have a1 : w2.cell? ⟨w.heap.size, 1, none⟩ = some (.int .i64 m) := b6.cell 1
          have a2 : w2.cell? ⟨w.heap.size, 2, none⟩ = some (.int .i64 d) := b6.cell 2
          go_wp2_with fail
          go_region
          go_wp2
          go_ret2
          exact ⟨rfl, by first | exact hb2 | exact hb2.drew⟩
        · have k2 : (d' == 31) = false := beq_eq_false_iff_ne.2 g31
          have ev : 360 * (y' - y) + 30 * (m' - m) + thB d d' - thA d = 360 * y' + 30 * m' + d' - 360 * y - 30 * m - 30 := by unfold thA thB; (repeat' split) <;> omega
          simp only [Bool.and_self, if_true]
          rw [ev]
          clear ev h31 g31
          go_enter Try.func26, Try.ntmps26
          go_wp2_with fail
          refine (unhide (hr1 _)).mono ?_
          rintro e w1 ⟨rfl, hx1⟩
          have hb1 := hb0.trans (hx1.mono hb0.size)
          have b3 := b2.below hx1 b2.lt
          have b4 := b1.below hx1 b1.lt
          have c0 : w1.cell? ⟨w.heap.size + 1, 0, none⟩ = some (.int .i64 y') := b3.cell 0
          have c1 : w1.cell? ⟨w.heap.size + 1, 1, none⟩ = some (.int .i64 m') := b3.cell 1
          have c2 : w1.cell? ⟨w.heap.size + 1, 2, none⟩ = some (.int .i64 d') := b3.cell 2
          go_wp2_with fail
          refine (unhide (hr2 _)).mono ?_
          rintro e w2 ⟨rfl, hx2⟩
          have hb2 := hb1.trans (hx2.mono hb1.size)
          have b5 := b3.below hx2 b3.lt
          have b6 := b4.below hx2 b4.lt
          clear c0 c1 c2 hb0 b1 b2 b3 b4 hx1 hx2 hb1
          have c0 : w2.cell? ⟨w.heap.size + 1, 0, none⟩ = some (.int .i64 y') := b5.cell 0
          have c1 : w2.cell? ⟨w.heap.size + 1, 1, none⟩ = some (.int .i64 m') := b5.cell 1
          have c2 : w2.cell? ⟨w.heap.size + 1, 2, none⟩ = some (.int .i64 d') := b5.cell 2
          have a0 : w2.cell? ⟨w.heap.size, 0, none⟩ = some (.int .i64 y) := b6.cell 0
          have a1 : w2.cell? ⟨w.heap.size, 1, none⟩ = some (.int .i64 m) := b6.cell 1
          have a2 : w2.cell? ⟨w.heap.size, 2, none⟩ = some (.int .i64 d) := b6.cell 2
          go_wp2_with fail
          go_region
          go_wp2
          go_ret2
          exact ⟨rfl, by first | exact hb2 | exact hb2.drew⟩
      · have k1 : (d == 31) = false := beq_eq_false_iff_ne.2 h31
        by_cases g31 : d' = 31
        · have k2 : (d' == 31) = true := beq_iff_eq.2 g31
          by_cases h30 : d = 30
          · have k3 : (d == 30) = true := beq_iff_eq.2 h30
            have ev : 360 * (y' - y) + 30 * (m' - m) + thB d d' - thA d = 360 * y' + 30 * m' + 30 - 360 * y - 30 * m - d := by unfold thA thB; (repeat' split) <;> omega
            simp only [Bool.and_self, if_true]
            rw [ev]
            clear ev h31 g31 h30
            go_enter Try.func26, Try.ntmps26
            go_wp2_with fail
            refine (unhide (hr1 _)).mono ?_
            rintro e w1 ⟨rfl, hx1⟩
            have hb1 := hb0.trans (hx1.mono hb0.size)
            have b3 := b2.below hx1 b2.lt
            have b4 := b1.below hx1 b1.lt
            have c0 : w1.cell? ⟨w.heap.size + 1, 0, none⟩ = some (.int .i64 y') := b3.cell 0
            have c1 : w1.cell? ⟨w.heap.size + 1, 1, none⟩ = some (.int .i64 m') := b3.cell 1
            have c2 : w1.cell? ⟨w.heap.size + 1, 2, none⟩ = some (.int .i64 d') := b3.cell 2
            go_wp2_with fail
            refine (unhide (hr2 _)).mono ?_
            rintro e w2 ⟨rfl, hx2⟩
            have hb2 := hb1.trans (hx2.mono hb1.size)
            have b5 := b3.below hx2 b3.lt
            have b6 := b4.below hx2 b4.lt
            clear c0 c1 c2 hb0 b1 b2 b3 b4 hx1 hx2 hb1
            have c0 : w2.cell? ⟨w.heap.size + 1, 0, none⟩ = some (.int .i64 y') := b5.cell 0
            have c1 : w2.cell? ⟨w.heap.size + 1, 1, none⟩ = some (.int .i64 m') := b5.cell 1
            have c2 : w2.cell? ⟨w.heap.size + 1, 2, none⟩ = some (.int .i64 d') := b5.cell 2
            have a0 : w2.cell? ⟨w.heap.size, 0, none⟩ = some (.int .i64 y) := b6.cell 0
            have a1 : w2.cell? ⟨w.heap.size, 1, none⟩ = some (.int .i64 m) := b6.cell 1
            have a2 : w2.cell? ⟨w.heap.size, 2, none⟩ = some (.int .i64 d) := b6.cell 2
            go_wp2_with fail
            go_region
            go_wp2
            go_ret2
            exact ⟨rfl, by first | exact hb2 | exact hb2.drew⟩
          · have k3 : (d == 30) = false := beq_eq_false_iff_ne.2 h30
            have ev : 360 * (y' - y) + 30 * (m' - m) + thB d d' - thA d = 360 * y' + 30 * m' + d' - 360 * y - 30 * m - d := by unfold thA thB; (repeat' split) <;> omega
            simp only [Bool.and_self, if_true]
            rw [ev]
            clear ev h31 g31 h30
            go_enter Try.func26, Try.ntmps26
            go_wp2_with fail
            refine (unhide (hr1 _)).mono ?_
            rintro e w1 ⟨rfl, hx1⟩
            have hb1 := hb0.trans (hx1.mono hb0.size)
            have b3 := b2.below hx1 b2.lt
            have b4 := b1.below hx1 b1.lt
            have c0 : w1.cell? ⟨w.heap.size + 1, 0, none⟩ = some (.int .i64 y') := b3.cell 0
            have c1 : w1.cell? ⟨w.heap.size + 1, 1, none⟩ = some (.int .i64 m') := b3.cell 1
            have c2 : w1.cell? ⟨w.heap.size + 1, 2, none⟩ = some (.int .i64 d') := b3.cell 2
            go_wp2_with fail
            refine (unhide (hr2 _)).mono ?_
            rintro e w2 ⟨rfl, hx2⟩
            have hb2 := hb1.trans (hx2.mono hb1.size)
            have b5 := b3.below hx2 b3.lt
            have b6 := b4.below hx2 b4.lt
            clear c0 c1 c2 hb0 b1 b2 b3 b4 hx1 hx2 hb1
            have c0 : w2.cell? ⟨w.heap.size + 1, 0, none⟩ = some (.int .i64 y') := b5.cell 0
            have c1 : w2.cell? ⟨w.heap.size + 1, 1, none⟩ = some (.int .i64 m') := b5.cell 1
            have c2 : w2.cell? ⟨w.heap.size + 1, 2, none⟩ = some (.int .i64 d') := b5.cell 2
            have a0 : w2.cell? ⟨w.heap.size, 0, none⟩ = some (.int .i64 y) := b6.cell 0
            have a1 : w2.cell? ⟨w.heap.size, 1, none⟩ = some (.int .i64 m) := b6.cell 1
            have a2 : w2.cell? ⟨w.heap.size, 2, none⟩ = some (.int .i64 d) := b6.cell 2
            go_wp2_with fail
            go_region
            go_wp2
            go_ret2
            exact ⟨rfl, by first | exact hb2 | exact hb2.drew⟩
        · have k2 : (d' == 31) = false := beq_eq_false_iff_ne.2 g31
          have ev : 360 * (y' - y) + 30 * (m' - m) + thB d d' - thA d = 360 * y' + 30 * m' + d' - 360 * y - 30 * m - d := by unfold thA thB; (repeat' split) <;> omega
          simp only [Bool.and_self, if_true]
          rw [ev]
          clear ev h31 g31
          go_enter Try.func26, Try.ntmps26
          go_wp2_with fail
          refine (unhide (hr1 _)).mono ?_
          rintro e w1 ⟨rfl, hx1⟩
          have hb1 := hb0.trans (hx1.mono hb0.size)
          have b3 := b2.below hx1 b2.lt
          have b4 := b1.below hx1 b1.lt
          have c0 : w1.cell? ⟨w.heap.size + 1, 0, none⟩ = some (.int .i64 y') := b3.cell 0
          have c1 : w1.cell? ⟨w.heap.size + 1, 1, none⟩ = some (.int .i64 m') := b3.cell 1
          have c2 : w1.cell? ⟨w.heap.size + 1, 2, none⟩ = some (.int .i64 d') := b3.cell 2
          go_wp2_with fail
          refine (unhide (hr2 _)).mono ?_
          rintro e w2 ⟨rfl, hx2⟩
          have hb2 := hb1.trans (hx2.mono hb1.size)
          have b5 := b3.below hx2 b3.lt
          have b6 := b4.below hx2 b4.lt
          clear c0 c1 c2 hb0 b1 b2 b3 b4 hx1 hx2 hb1
          have c0 : w2.cell? ⟨w.heap.size + 1, 0, none⟩ = some (.int .i64 y') := b5.cell 0
          have c1 : w2.cell? ⟨w.heap.size + 1, 1, none⟩ = some (.int .i64 m') := b5.cell 1
          have c2 : w2.cell? ⟨w.heap.size + 1, 2, none⟩ = some (.int .i64 d') := b5.cell 2
          have a0 : w2.cell? ⟨w.heap.size, 0, none⟩ = some (.int .i64 y) := b6.cell 0
          have a1 : w2.cell? ⟨w.heap.size, 1, none⟩ = some (.int .i64 m) := b6.cell 1
          have a2 : w2.cell? ⟨w.heap.size, 2, none⟩ = some (.int .i64 d) := b6.cell 2
          go_wp2_with fail
          go_region
          go_wp2
          go_ret2
          exact ⟨rfl, by first | exact hb2 | exact hb2.drew⟩

end Go.Proofs.Ytehkaiildchmfaa
