/-
  CalendarMonths: for every input the call returns true.
-/
import Derived.Test.YtehkaiildchmfaaCalJ
namespace Go.Proofs.Ytehkaiildchmfaa.calendarMonths
open Go.ChangeShapes Go.WideShapes Go.ChangeAt Go.RowKit
set_option linter.unusedVariables false

theorem own : ownKnob Try.prog.godebug = none := by kernel_rfl

set_option maxHeartbeats 4000000 in
theorem walk (y m d n : Int) (w : World) : Calls Try.prog 3 #[.agg #[.int .i64 y, .int .i64 m, .int .i64 d], .int .i64 n] w fun e w' => e = .returned (.bool true) ∧ Below w.heap.size w w' := by
  have hal := fun W => hide (alive_calls W)
  have ha := fun W => hide (months_calls y m d n W)
  have hb := fun W => hide (rmonths_calls y m d n W)
  generalize mrY y m d n = ry at *
  generalize mrM y m d n = rm at *
  generalize mrD y m d n = rd at *
  generalize mrE y m d n = re at *
  have hS0 := SX.new w y m d
  go_enter Try.func3, Try.ntmps3
  go_wp2_with fail
  refine (unhide (hal _)).mono ?_
  rintro e w1 ⟨rfl, hx1⟩
  have hS1 := hS0.on hx1
  have a0 := hS1.1
  have a1 := hS1.2.1
  have a2 := hS1.2.2.1
  clear hal hx1 hS0
  go_wp2_with fail
  refine (unhide (ha _)).mono ?_
  rintro e w2 ⟨rfl, hx2⟩
  have hS2 := hS1.on hx2
  have hA2 := SX.new w2 ry rm rd
  have hS3 := hS2.on hA2.2.2.2.2
  clear a0 a1 a2 hS1 hx2 ha hS2
  have a0 := hS3.1
  have a1 := hS3.2.1
  have a2 := hS3.2.2.1
  go_wp2_with fail
  refine (unhide (hb _)).mono ?_
  rintro e w3 ⟨rfl, hx3⟩
  have hS4 := hS3.on hx3
  have hA4 := hA2.on hx3
  have hC4 := SX.new w3 ry rm rd
  have hS5 := hS4.on hC4.2.2.2.2
  have hA5 := hA4.on hC4.2.2.2.2
  clear a0 a1 a2 hS3 hx3 hb hS4 hA2 hA4
  have a0 := hA5.1
  have a1 := hA5.2.1
  have a2 := hA5.2.2.1
  have c0 := hC4.1
  have c1 := hC4.2.1
  have c2 := hC4.2.2.1
  go_wp2
  go_ret
  exact ⟨rfl, hS5.2.2.2.2⟩


set_option maxRecDepth 100000 in
theorem lifted (os : Os) (started : os.Started) (H : Type) (enc : TypeId × Value → H) :
    ReturnsInHanded {} Try.checked os 3 .any (Rows.calendarMonthsSpec.pre6 enc Try.prog Try.f3 Rows.calendarMonthsRow.domain false) (Rows.calendarMonthsSpec.post enc Try.prog Try.f3 false true false false) := by
  refine returnsInHanded_of_change (C := Try.checked) own started (by kernel_rfl) Try.func3
    (ChangeSpec.witness6 (enc := enc) (C := Try.checked) false ⟨#[], #[.agg #[.int .i64 0, .int .i64 0, .int .i64 0], .int .i64 0], []⟩ 8 (by kernel_rfl) (by kernel_rfl) (by kernel_rfl) (by kernel_rfl)) ?_
  intro W base args ds gs before hval0 hW hcnd _
  have hval : ∀ (j : Nat) t v, Try.f3.params[j]? = some t → args[j]? = some v → Value.okWide Try.prog W .any base t v := hval0
  have hW' := hW
  obtain ⟨p, q, hA0, hV, rfl, hfz, hnd⟩ := hW
  have hA : DataW.TrodAll enc Try.prog W 0 (fun _ => true) true Try.f3.params.toList args.toList ds p := hA0
  rw [Try.params3] at hA hval
  obtain ⟨v0, vs0, d0, ds0, p0, q0, hargs, rfl, rfl, h0, r0⟩ := trodAll_cons hA
  obtain ⟨v1, vs1, d1, ds1, p1, q1, rfl, rfl, rfl, h1, r1⟩ := trodAll_cons r0
  obtain ⟨rfl, rfl, rfl⟩ := trodAll_nil r1
  obtain rfl : args = #[v0, v1] := by cases args; simp_all
  obtain ⟨rfl, rfl⟩ := trodVars_none hV
  obtain ⟨dy, dm, dd, rfl, rfl, rfl, hwd⟩ := open_date (hval 0 23 v0 rfl rfl) h0
  obtain ⟨n, rfl, rfl, rfl, wf1⟩ := open_int Try.underlying3 (hval 1 3 v1 rfl rfl) h1
  clear hA0 hval0
  simp only [List.append_nil] at hW'
  refine (walk dy dm dd n W).mono fun e W' ⟨he, bel⟩ => ?_
  subst he
  exact ⟨_, rfl, _, _, _, [], [], [], hW', trodAll_mk1 (shut_bool Try.underlying4 _), (trodAll_cons_mk (shut_date hwd) (trodAll_cons_mk (shut_int Try.underlying3 wf1) trodAll_mk0)), rfl, bel.frame _, fun h => by cases h⟩

theorem over : Rows.calendarMonthsRow.holds Try.pinned (OpenSpec.ofChange Rows.calendarMonthsSpec) :=
  OpenClaim.holds_of_wide 3 Try.f3 rfl rfl rfl rfl rfl rfl rfl ⟨rfl, rfl, rfl, rfl, rfl⟩ rfl rfl rfl rfl rfl (by kernel_rfl) Try.func3 (by kernel_rfl)
    (of_decide_eq_true (by kernel_rfl)) (by unfold Func.isWrapper; first | (rw [if_pos (by decide +kernel)]; kernel_rfl) | (rw [if_neg (by decide +kernel)]; exact ⟨rfl, rfl⟩))
    (fun os started H enc _ => lifted os started H enc)

/-- ████ THE STATEMENT ████ -/
theorem proved : Rows.CalendarMonthsSaid :=
  over
#print axioms proved
end Go.Proofs.Ytehkaiildchmfaa.calendarMonths
