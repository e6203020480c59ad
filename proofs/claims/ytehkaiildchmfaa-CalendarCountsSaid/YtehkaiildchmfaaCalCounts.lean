/-
  CalendarCounts: for every input the call returns true.
-/
import Derived.Test.YtehkaiildchmfaaCalJ
import Derived.Test.YtehkaiildchmfaaCalK
import Derived.Test.YtehkaiildchmfaaCalL
namespace Go.Proofs.Ytehkaiildchmfaa.calendarCounts
open Go.ChangeShapes Go.WideShapes Go.ChangeAt Go.RowKit
set_option linter.unusedVariables false

theorem own : ownKnob Try.prog.godebug = none := by kernel_rfl

set_option maxHeartbeats 4000000 in
theorem walk_good (y m d y' m' d' : Int) (r1 : rightB y m d = true) (r2 : rightB y' m' d' = true) (w : World) : Calls Try.prog 8 #[.agg #[.int .i64 y, .int .i64 m, .int .i64 d], .agg #[.int .i64 y', .int .i64 m', .int .i64 d']] w fun e w' => e = .returned (.bool true) ∧ Below w.heap.size w w' := by
  have hal := fun W => hide (alive_calls W)
  have h1 := fun W => hide (actual_calls y m d y' m' d' W)
  have h2 := fun W => hide (thirty_calls y m d y' m' d' W)
  have h3 := fun W => hide (rthirty_calls y m d y' m' d' W)
  have h4 := fun W => hide (rnumber_calls y m d W)
  have h5 := fun W => hide (rnumber_calls y' m' d' W)
  have hA := num_range r1
  have hB := num_range r2
  unfold acV acE at h1
  unfold numR errR at h4 h5
  rw [r1, r2] at h1
  rw [r1] at h4
  rw [r2] at h5
  generalize thV y m d y' m' d' = tv at *
  generalize thE y m d y' m' d' = te at *
  generalize numI y m d = A at *
  generalize numI y' m' d' = B at *
  obtain ⟨A0, A1⟩ := hA
  obtain ⟨B0, B1⟩ := hB
  have p0 : Blk ((w.alloc (.cells #[.int .i64 y, .int .i64 m, .int .i64 d] 23)).alloc (.cells #[.int .i64 y', .int .i64 m', .int .i64 d'] 23)) w.heap.size 23 #[.int .i64 y, .int .i64 m, .int .i64 d] := (box3 w _ y m d).alloc _
  have q0 : Blk ((w.alloc (.cells #[.int .i64 y, .int .i64 m, .int .i64 d] 23)).alloc (.cells #[.int .i64 y', .int .i64 m', .int .i64 d'] 23)) (w.heap.size + 1) 23 #[.int .i64 y', .int .i64 m', .int .i64 d'] := Blk.of_size (by simp)
  have hb0 := ((Below.refl w.heap.size w).alloc (Nat.le_refl _) (.cells #[.int .i64 y, .int .i64 m, .int .i64 d] 23)).alloc (by simp) (.cells #[.int .i64 y', .int .i64 m', .int .i64 d'] 23)
  clear r1 r2
  go_enter Try.func8, Try.ntmps8
  go_wp2_with fail
  refine (unhide (hal _)).mono ?_
  rintro e w1 ⟨rfl, hx1⟩
  have p1 := p0.below hx1 p0.lt
  have q1 := q0.below hx1 q0.lt
  have hb1 := hb0.trans (hx1.mono hb0.size)
  clear p0 q0 hx1 hb0 hal
  have a0 : w1.cell? ⟨w.heap.size, 0, none⟩ = some (.int .i64 y) := p1.cell 0
  have a1 : w1.cell? ⟨w.heap.size, 1, none⟩ = some (.int .i64 m) := p1.cell 1
  have a2 : w1.cell? ⟨w.heap.size, 2, none⟩ = some (.int .i64 d) := p1.cell 2
  have c0 : w1.cell? ⟨w.heap.size + 1, 0, none⟩ = some (.int .i64 y') := q1.cell 0
  have c1 : w1.cell? ⟨w.heap.size + 1, 1, none⟩ = some (.int .i64 m') := q1.cell 1
  have c2 : w1.cell? ⟨w.heap.size + 1, 2, none⟩ = some (.int .i64 d') := q1.cell 2
  go_wp2_with fail
  refine (unhide (h1 _)).mono ?_
  rintro e w2 ⟨rfl, hx2⟩
  have p2 := p1.below hx2 p1.lt
  have q2 := q1.below hx2 q1.lt
  have hb2 := hb1.trans (hx2.mono hb1.size)
  clear p1 q1 hx2 hb1 h1
  clear a0 a1 a2 c0 c1 c2
  have a0 : w2.cell? ⟨w.heap.size, 0, none⟩ = some (.int .i64 y) := p2.cell 0
  have a1 : w2.cell? ⟨w.heap.size, 1, none⟩ = some (.int .i64 m) := p2.cell 1
  have a2 : w2.cell? ⟨w.heap.size, 2, none⟩ = some (.int .i64 d) := p2.cell 2
  have c0 : w2.cell? ⟨w.heap.size + 1, 0, none⟩ = some (.int .i64 y') := q2.cell 0
  have c1 : w2.cell? ⟨w.heap.size + 1, 1, none⟩ = some (.int .i64 m') := q2.cell 1
  have c2 : w2.cell? ⟨w.heap.size + 1, 2, none⟩ = some (.int .i64 d') := q2.cell 2
  go_wp2_with fail
  refine (unhide (h2 _)).mono ?_
  rintro e w3 ⟨rfl, hx3⟩
  have p3 := p2.below hx3 p2.lt
  have q3 := q2.below hx3 q2.lt
  have hb3 := hb2.trans (hx3.mono hb2.size)
  clear p2 q2 hx3 hb2 h2
  clear a0 a1 a2 c0 c1 c2
  have a0 : w3.cell? ⟨w.heap.size, 0, none⟩ = some (.int .i64 y) := p3.cell 0
  have a1 : w3.cell? ⟨w.heap.size, 1, none⟩ = some (.int .i64 m) := p3.cell 1
  have a2 : w3.cell? ⟨w.heap.size, 2, none⟩ = some (.int .i64 d) := p3.cell 2
  have c0 : w3.cell? ⟨w.heap.size + 1, 0, none⟩ = some (.int .i64 y') := q3.cell 0
  have c1 : w3.cell? ⟨w.heap.size + 1, 1, none⟩ = some (.int .i64 m') := q3.cell 1
  have c2 : w3.cell? ⟨w.heap.size + 1, 2, none⟩ = some (.int .i64 d') := q3.cell 2
  go_wp2_with fail
  refine (unhide (h3 _)).mono ?_
  rintro e w4 ⟨rfl, hx4⟩
  have p4 := p3.below hx4 p3.lt
  have q4 := q3.below hx4 q3.lt
  have hb4 := hb3.trans (hx4.mono hb3.size)
  clear p3 q3 hx4 hb3 h3
  clear a0 a1 a2 c0 c1 c2
  have a0 : w4.cell? ⟨w.heap.size, 0, none⟩ = some (.int .i64 y) := p4.cell 0
  have a1 : w4.cell? ⟨w.heap.size, 1, none⟩ = some (.int .i64 m) := p4.cell 1
  have a2 : w4.cell? ⟨w.heap.size, 2, none⟩ = some (.int .i64 d) := p4.cell 2
  have c0 : w4.cell? ⟨w.heap.size + 1, 0, none⟩ = some (.int .i64 y') := q4.cell 0
  have c1 : w4.cell? ⟨w.heap.size + 1, 1, none⟩ = some (.int .i64 m') := q4.cell 1
  have c2 : w4.cell? ⟨w.heap.size + 1, 2, none⟩ = some (.int .i64 d') := q4.cell 2
  go_wp2_with fail
  refine (unhide (h4 _)).mono ?_
  rintro e w5 ⟨rfl, hx5⟩
  have p5 := p4.below hx5 p4.lt
  have q5 := q4.below hx5 q4.lt
  have hb5 := hb4.trans (hx5.mono hb4.size)
  clear p4 q4 hx5 hb4 h4
  clear a0 a1 a2 c0 c1 c2
  have a0 : w5.cell? ⟨w.heap.size, 0, none⟩ = some (.int .i64 y) := p5.cell 0
  have a1 : w5.cell? ⟨w.heap.size, 1, none⟩ = some (.int .i64 m) := p5.cell 1
  have a2 : w5.cell? ⟨w.heap.size, 2, none⟩ = some (.int .i64 d) := p5.cell 2
  have c0 : w5.cell? ⟨w.heap.size + 1, 0, none⟩ = some (.int .i64 y') := q5.cell 0
  have c1 : w5.cell? ⟨w.heap.size + 1, 1, none⟩ = some (.int .i64 m') := q5.cell 1
  have c2 : w5.cell? ⟨w.heap.size + 1, 2, none⟩ = some (.int .i64 d') := q5.cell 2
  go_wp2_with fail
  refine (unhide (h5 _)).mono ?_
  rintro e w6 ⟨rfl, hx6⟩
  have p6 := p5.below hx6 p5.lt
  have q6 := q5.below hx6 q5.lt
  have hb6 := hb5.trans (hx6.mono hb5.size)
  clear p5 q5 hx6 hb5 h5
  clear a0 a1 a2 c0 c1 c2
  go_wp2
  go_ret
  exact ⟨rfl, hb6⟩

set_option maxHeartbeats 4000000 in
theorem walk_bad1 (y m d y' m' d' : Int) (r1 : rightB y m d = false) (w : World) : Calls Try.prog 8 #[.agg #[.int .i64 y, .int .i64 m, .int .i64 d], .agg #[.int .i64 y', .int .i64 m', .int .i64 d']] w fun e w' => e = .returned (.bool true) ∧ Below w.heap.size w w' := by
  have hal := fun W => hide (alive_calls W)
  have h1 := fun W => hide (actual_calls y m d y' m' d' W)
  have h2 := fun W => hide (thirty_calls y m d y' m' d' W)
  have h3 := fun W => hide (rthirty_calls y m d y' m' d' W)
  have h4 := fun W => hide (rnumber_calls y m d W)
  have h5 := fun W => hide (rnumber_calls y' m' d' W)
  unfold acV acE at h1
  unfold numR errR at h4
  rw [r1] at h1 h4
  generalize thV y m d y' m' d' = tv at *
  generalize thE y m d y' m' d' = te at *
  generalize numR y' m' d' = nb at *
  generalize errR y' m' d' = eb at *
  have p0 : Blk ((w.alloc (.cells #[.int .i64 y, .int .i64 m, .int .i64 d] 23)).alloc (.cells #[.int .i64 y', .int .i64 m', .int .i64 d'] 23)) w.heap.size 23 #[.int .i64 y, .int .i64 m, .int .i64 d] := (box3 w _ y m d).alloc _
  have q0 : Blk ((w.alloc (.cells #[.int .i64 y, .int .i64 m, .int .i64 d] 23)).alloc (.cells #[.int .i64 y', .int .i64 m', .int .i64 d'] 23)) (w.heap.size + 1) 23 #[.int .i64 y', .int .i64 m', .int .i64 d'] := Blk.of_size (by simp)
  have hb0 := ((Below.refl w.heap.size w).alloc (Nat.le_refl _) (.cells #[.int .i64 y, .int .i64 m, .int .i64 d] 23)).alloc (by simp) (.cells #[.int .i64 y', .int .i64 m', .int .i64 d'] 23)
  clear r1
  go_enter Try.func8, Try.ntmps8
  go_wp2_with fail
  refine (unhide (hal _)).mono ?_
  rintro e w1 ⟨rfl, hx1⟩
  have p1 := p0.below hx1 p0.lt
  have q1 := q0.below hx1 q0.lt
  have hb1 := hb0.trans (hx1.mono hb0.size)
  clear p0 q0 hx1 hb0 hal
  have a0 : w1.cell? ⟨w.heap.size, 0, none⟩ = some (.int .i64 y) := p1.cell 0
  have a1 : w1.cell? ⟨w.heap.size, 1, none⟩ = some (.int .i64 m) := p1.cell 1
  have a2 : w1.cell? ⟨w.heap.size, 2, none⟩ = some (.int .i64 d) := p1.cell 2
  have c0 : w1.cell? ⟨w.heap.size + 1, 0, none⟩ = some (.int .i64 y') := q1.cell 0
  have c1 : w1.cell? ⟨w.heap.size + 1, 1, none⟩ = some (.int .i64 m') := q1.cell 1
  have c2 : w1.cell? ⟨w.heap.size + 1, 2, none⟩ = some (.int .i64 d') := q1.cell 2
  go_wp2_with fail
  refine (unhide (h1 _)).mono ?_
  rintro e w2 ⟨rfl, hx2⟩
  have p2 := p1.below hx2 p1.lt
  have q2 := q1.below hx2 q1.lt
  have hb2 := hb1.trans (hx2.mono hb1.size)
  clear p1 q1 hx2 hb1 h1
  clear a0 a1 a2 c0 c1 c2
  have a0 : w2.cell? ⟨w.heap.size, 0, none⟩ = some (.int .i64 y) := p2.cell 0
  have a1 : w2.cell? ⟨w.heap.size, 1, none⟩ = some (.int .i64 m) := p2.cell 1
  have a2 : w2.cell? ⟨w.heap.size, 2, none⟩ = some (.int .i64 d) := p2.cell 2
  have c0 : w2.cell? ⟨w.heap.size + 1, 0, none⟩ = some (.int .i64 y') := q2.cell 0
  have c1 : w2.cell? ⟨w.heap.size + 1, 1, none⟩ = some (.int .i64 m') := q2.cell 1
  have c2 : w2.cell? ⟨w.heap.size + 1, 2, none⟩ = some (.int .i64 d') := q2.cell 2
  go_wp2_with fail
  refine (unhide (h2 _)).mono ?_
  rintro e w3 ⟨rfl, hx3⟩
  have p3 := p2.below hx3 p2.lt
  have q3 := q2.below hx3 q2.lt
  have hb3 := hb2.trans (hx3.mono hb2.size)
  clear p2 q2 hx3 hb2 h2
  clear a0 a1 a2 c0 c1 c2
  have a0 : w3.cell? ⟨w.heap.size, 0, none⟩ = some (.int .i64 y) := p3.cell 0
  have a1 : w3.cell? ⟨w.heap.size, 1, none⟩ = some (.int .i64 m) := p3.cell 1
  have a2 : w3.cell? ⟨w.heap.size, 2, none⟩ = some (.int .i64 d) := p3.cell 2
  have c0 : w3.cell? ⟨w.heap.size + 1, 0, none⟩ = some (.int .i64 y') := q3.cell 0
  have c1 : w3.cell? ⟨w.heap.size + 1, 1, none⟩ = some (.int .i64 m') := q3.cell 1
  have c2 : w3.cell? ⟨w.heap.size + 1, 2, none⟩ = some (.int .i64 d') := q3.cell 2
  go_wp2_with fail
  refine (unhide (h3 _)).mono ?_
  rintro e w4 ⟨rfl, hx4⟩
  have p4 := p3.below hx4 p3.lt
  have q4 := q3.below hx4 q3.lt
  have hb4 := hb3.trans (hx4.mono hb3.size)
  clear p3 q3 hx4 hb3 h3
  clear a0 a1 a2 c0 c1 c2
  have a0 : w4.cell? ⟨w.heap.size, 0, none⟩ = some (.int .i64 y) := p4.cell 0
  have a1 : w4.cell? ⟨w.heap.size, 1, none⟩ = some (.int .i64 m) := p4.cell 1
  have a2 : w4.cell? ⟨w.heap.size, 2, none⟩ = some (.int .i64 d) := p4.cell 2
  have c0 : w4.cell? ⟨w.heap.size + 1, 0, none⟩ = some (.int .i64 y') := q4.cell 0
  have c1 : w4.cell? ⟨w.heap.size + 1, 1, none⟩ = some (.int .i64 m') := q4.cell 1
  have c2 : w4.cell? ⟨w.heap.size + 1, 2, none⟩ = some (.int .i64 d') := q4.cell 2
  go_wp2_with fail
  refine (unhide (h4 _)).mono ?_
  rintro e w5 ⟨rfl, hx5⟩
  have p5 := p4.below hx5 p4.lt
  have q5 := q4.below hx5 q4.lt
  have hb5 := hb4.trans (hx5.mono hb4.size)
  clear p4 q4 hx5 hb4 h4
  clear a0 a1 a2 c0 c1 c2
  have a0 : w5.cell? ⟨w.heap.size, 0, none⟩ = some (.int .i64 y) := p5.cell 0
  have a1 : w5.cell? ⟨w.heap.size, 1, none⟩ = some (.int .i64 m) := p5.cell 1
  have a2 : w5.cell? ⟨w.heap.size, 2, none⟩ = some (.int .i64 d) := p5.cell 2
  have c0 : w5.cell? ⟨w.heap.size + 1, 0, none⟩ = some (.int .i64 y') := q5.cell 0
  have c1 : w5.cell? ⟨w.heap.size + 1, 1, none⟩ = some (.int .i64 m') := q5.cell 1
  have c2 : w5.cell? ⟨w.heap.size + 1, 2, none⟩ = some (.int .i64 d') := q5.cell 2
  go_wp2_with fail
  refine (unhide (h5 _)).mono ?_
  rintro e w6 ⟨rfl, hx6⟩
  have p6 := p5.below hx6 p5.lt
  have q6 := q5.below hx6 q5.lt
  have hb6 := hb5.trans (hx6.mono hb5.size)
  clear p5 q5 hx6 hb5 h5
  clear a0 a1 a2 c0 c1 c2
  go_wp2
  go_ret
  exact ⟨rfl, hb6⟩

set_option maxHeartbeats 4000000 in
theorem walk_bad2 (y m d y' m' d' : Int) (r1 : rightB y m d = true) (r2 : rightB y' m' d' = false) (w : World) : Calls Try.prog 8 #[.agg #[.int .i64 y, .int .i64 m, .int .i64 d], .agg #[.int .i64 y', .int .i64 m', .int .i64 d']] w fun e w' => e = .returned (.bool true) ∧ Below w.heap.size w w' := by
  have hal := fun W => hide (alive_calls W)
  have h1 := fun W => hide (actual_calls y m d y' m' d' W)
  have h2 := fun W => hide (thirty_calls y m d y' m' d' W)
  have h3 := fun W => hide (rthirty_calls y m d y' m' d' W)
  have h4 := fun W => hide (rnumber_calls y m d W)
  have h5 := fun W => hide (rnumber_calls y' m' d' W)
  unfold acV acE at h1
  unfold numR errR at h4
  unfold numR errR at h5
  rw [r1, r2] at h1
  rw [r1] at h4
  rw [r2] at h5
  generalize thV y m d y' m' d' = tv at *
  generalize thE y m d y' m' d' = te at *
  generalize numI y m d = A at *
  have p0 : Blk ((w.alloc (.cells #[.int .i64 y, .int .i64 m, .int .i64 d] 23)).alloc (.cells #[.int .i64 y', .int .i64 m', .int .i64 d'] 23)) w.heap.size 23 #[.int .i64 y, .int .i64 m, .int .i64 d] := (box3 w _ y m d).alloc _
  have q0 : Blk ((w.alloc (.cells #[.int .i64 y, .int .i64 m, .int .i64 d] 23)).alloc (.cells #[.int .i64 y', .int .i64 m', .int .i64 d'] 23)) (w.heap.size + 1) 23 #[.int .i64 y', .int .i64 m', .int .i64 d'] := Blk.of_size (by simp)
  have hb0 := ((Below.refl w.heap.size w).alloc (Nat.le_refl _) (.cells #[.int .i64 y, .int .i64 m, .int .i64 d] 23)).alloc (by simp) (.cells #[.int .i64 y', .int .i64 m', .int .i64 d'] 23)
  clear r1 r2
  go_enter Try.func8, Try.ntmps8
  go_wp2_with fail
  refine (unhide (hal _)).mono ?_
  rintro e w1 ⟨rfl, hx1⟩
  have p1 := p0.below hx1 p0.lt
  have q1 := q0.below hx1 q0.lt
  have hb1 := hb0.trans (hx1.mono hb0.size)
  clear p0 q0 hx1 hb0 hal
  have a0 : w1.cell? ⟨w.heap.size, 0, none⟩ = some (.int .i64 y) := p1.cell 0
  have a1 : w1.cell? ⟨w.heap.size, 1, none⟩ = some (.int .i64 m) := p1.cell 1
  have a2 : w1.cell? ⟨w.heap.size, 2, none⟩ = some (.int .i64 d) := p1.cell 2
  have c0 : w1.cell? ⟨w.heap.size + 1, 0, none⟩ = some (.int .i64 y') := q1.cell 0
  have c1 : w1.cell? ⟨w.heap.size + 1, 1, none⟩ = some (.int .i64 m') := q1.cell 1
  have c2 : w1.cell? ⟨w.heap.size + 1, 2, none⟩ = some (.int .i64 d') := q1.cell 2
  go_wp2_with fail
  refine (unhide (h1 _)).mono ?_
  rintro e w2 ⟨rfl, hx2⟩
  have p2 := p1.below hx2 p1.lt
  have q2 := q1.below hx2 q1.lt
  have hb2 := hb1.trans (hx2.mono hb1.size)
  clear p1 q1 hx2 hb1 h1
  clear a0 a1 a2 c0 c1 c2
  have a0 : w2.cell? ⟨w.heap.size, 0, none⟩ = some (.int .i64 y) := p2.cell 0
  have a1 : w2.cell? ⟨w.heap.size, 1, none⟩ = some (.int .i64 m) := p2.cell 1
  have a2 : w2.cell? ⟨w.heap.size, 2, none⟩ = some (.int .i64 d) := p2.cell 2
  have c0 : w2.cell? ⟨w.heap.size + 1, 0, none⟩ = some (.int .i64 y') := q2.cell 0
  have c1 : w2.cell? ⟨w.heap.size + 1, 1, none⟩ = some (.int .i64 m') := q2.cell 1
  have c2 : w2.cell? ⟨w.heap.size + 1, 2, none⟩ = some (.int .i64 d') := q2.cell 2
  go_wp2_with fail
  refine (unhide (h2 _)).mono ?_
  rintro e w3 ⟨rfl, hx3⟩
  have p3 := p2.below hx3 p2.lt
  have q3 := q2.below hx3 q2.lt
  have hb3 := hb2.trans (hx3.mono hb2.size)
  clear p2 q2 hx3 hb2 h2
  clear a0 a1 a2 c0 c1 c2
  have a0 : w3.cell? ⟨w.heap.size, 0, none⟩ = some (.int .i64 y) := p3.cell 0
  have a1 : w3.cell? ⟨w.heap.size, 1, none⟩ = some (.int .i64 m) := p3.cell 1
  have a2 : w3.cell? ⟨w.heap.size, 2, none⟩ = some (.int .i64 d) := p3.cell 2
  have c0 : w3.cell? ⟨w.heap.size + 1, 0, none⟩ = some (.int .i64 y') := q3.cell 0
  have c1 : w3.cell? ⟨w.heap.size + 1, 1, none⟩ = some (.int .i64 m') := q3.cell 1
  have c2 : w3.cell? ⟨w.heap.size + 1, 2, none⟩ = some (.int .i64 d') := q3.cell 2
  go_wp2_with fail
  refine (unhide (h3 _)).mono ?_
  rintro e w4 ⟨rfl, hx4⟩
  have p4 := p3.below hx4 p3.lt
  have q4 := q3.below hx4 q3.lt
  have hb4 := hb3.trans (hx4.mono hb3.size)
  clear p3 q3 hx4 hb3 h3
  clear a0 a1 a2 c0 c1 c2
  have a0 : w4.cell? ⟨w.heap.size, 0, none⟩ = some (.int .i64 y) := p4.cell 0
  have a1 : w4.cell? ⟨w.heap.size, 1, none⟩ = some (.int .i64 m) := p4.cell 1
  have a2 : w4.cell? ⟨w.heap.size, 2, none⟩ = some (.int .i64 d) := p4.cell 2
  have c0 : w4.cell? ⟨w.heap.size + 1, 0, none⟩ = some (.int .i64 y') := q4.cell 0
  have c1 : w4.cell? ⟨w.heap.size + 1, 1, none⟩ = some (.int .i64 m') := q4.cell 1
  have c2 : w4.cell? ⟨w.heap.size + 1, 2, none⟩ = some (.int .i64 d') := q4.cell 2
  go_wp2_with fail
  refine (unhide (h4 _)).mono ?_
  rintro e w5 ⟨rfl, hx5⟩
  have p5 := p4.below hx5 p4.lt
  have q5 := q4.below hx5 q4.lt
  have hb5 := hb4.trans (hx5.mono hb4.size)
  clear p4 q4 hx5 hb4 h4
  clear a0 a1 a2 c0 c1 c2
  have a0 : w5.cell? ⟨w.heap.size, 0, none⟩ = some (.int .i64 y) := p5.cell 0
  have a1 : w5.cell? ⟨w.heap.size, 1, none⟩ = some (.int .i64 m) := p5.cell 1
  have a2 : w5.cell? ⟨w.heap.size, 2, none⟩ = some (.int .i64 d) := p5.cell 2
  have c0 : w5.cell? ⟨w.heap.size + 1, 0, none⟩ = some (.int .i64 y') := q5.cell 0
  have c1 : w5.cell? ⟨w.heap.size + 1, 1, none⟩ = some (.int .i64 m') := q5.cell 1
  have c2 : w5.cell? ⟨w.heap.size + 1, 2, none⟩ = some (.int .i64 d') := q5.cell 2
  go_wp2_with fail
  refine (unhide (h5 _)).mono ?_
  rintro e w6 ⟨rfl, hx6⟩
  have p6 := p5.below hx6 p5.lt
  have q6 := q5.below hx6 q5.lt
  have hb6 := hb5.trans (hx6.mono hb5.size)
  clear p5 q5 hx6 hb5 h5
  clear a0 a1 a2 c0 c1 c2
  go_wp2
  go_ret
  exact ⟨rfl, hb6⟩

theorem walk (y m d y' m' d' : Int) (w : World) : Calls Try.prog 8 #[.agg #[.int .i64 y, .int .i64 m, .int .i64 d], .agg #[.int .i64 y', .int .i64 m', .int .i64 d']] w fun e w' => e = .returned (.bool true) ∧ Below w.heap.size w w' := by
  cases r1 : rightB y m d
  · exact walk_bad1 y m d y' m' d' r1 w
  · cases r2 : rightB y' m' d'
    · exact walk_bad2 y m d y' m' d' r1 r2 w
    · exact walk_good y m d y' m' d' r1 r2 w


set_option maxRecDepth 100000 in
theorem lifted (os : Os) (started : os.Started) (H : Type) (enc : TypeId × Value → H) :
    ReturnsInHanded {} Try.checked os 8 .any (Rows.calendarCountsSpec.pre6 enc Try.prog Try.f8 Rows.calendarCountsRow.domain false) (Rows.calendarCountsSpec.post enc Try.prog Try.f8 false true false false) := by
  refine returnsInHanded_of_change (C := Try.checked) own started (by kernel_rfl) Try.func8
    (ChangeSpec.witness6 (enc := enc) (C := Try.checked) false ⟨#[], #[.agg #[.int .i64 0, .int .i64 0, .int .i64 0], .agg #[.int .i64 0, .int .i64 0, .int .i64 0]], []⟩ 8 (by kernel_rfl) (by kernel_rfl) (by kernel_rfl) (by kernel_rfl)) ?_
  intro W base args ds gs before hval0 hW hcnd _
  have hval : ∀ (j : Nat) t v, Try.f8.params[j]? = some t → args[j]? = some v → Value.okWide Try.prog W .any base t v := hval0
  have hW' := hW
  obtain ⟨p, q, hA0, hV, rfl, hfz, hnd⟩ := hW
  have hA : DataW.TrodAll enc Try.prog W 0 (fun _ => true) true Try.f8.params.toList args.toList ds p := hA0
  rw [Try.params8] at hA hval
  obtain ⟨v0, vs0, d0, ds0, p0, q0, hargs, rfl, rfl, h0, r0⟩ := trodAll_cons hA
  obtain ⟨v1, vs1, d1, ds1, p1, q1, rfl, rfl, rfl, h1, r1⟩ := trodAll_cons r0
  obtain ⟨rfl, rfl, rfl⟩ := trodAll_nil r1
  obtain rfl : args = #[v0, v1] := by cases args; simp_all
  obtain ⟨rfl, rfl⟩ := trodVars_none hV
  obtain ⟨uy, um, ud, rfl, rfl, rfl, hwu⟩ := open_date (hval 0 23 v0 rfl rfl) h0
  obtain ⟨vy, vm, vd, rfl, rfl, rfl, hwv⟩ := open_date (hval 1 23 v1 rfl rfl) h1
  clear hA0 hval0
  simp only [List.append_nil] at hW'
  refine (walk uy um ud vy vm vd W).mono fun e W' ⟨he, bel⟩ => ?_
  subst he
  exact ⟨_, rfl, _, _, _, [], [], [], hW', trodAll_mk1 (shut_bool Try.underlying4 _), (trodAll_cons_mk (shut_date hwu) (trodAll_cons_mk (shut_date hwv) trodAll_mk0)), rfl, bel.frame _, fun h => by cases h⟩

theorem over : Rows.calendarCountsRow.holds Try.pinned (OpenSpec.ofChange Rows.calendarCountsSpec) :=
  OpenClaim.holds_of_wide 8 Try.f8 rfl rfl rfl rfl rfl rfl rfl ⟨rfl, rfl, rfl, rfl, rfl⟩ rfl rfl rfl rfl rfl (by kernel_rfl) Try.func8 (by kernel_rfl)
    (of_decide_eq_true (by kernel_rfl)) (by unfold Func.isWrapper; first | (rw [if_pos (by decide +kernel)]; kernel_rfl) | (rw [if_neg (by decide +kernel)]; exact ⟨rfl, rfl⟩))
    (fun os started H enc _ => lifted os started H enc)

/-- ████ THE STATEMENT ████ -/
theorem proved : Rows.CalendarCountsSaid :=
  over
#print axioms proved
end Go.Proofs.Ytehkaiildchmfaa.calendarCounts
