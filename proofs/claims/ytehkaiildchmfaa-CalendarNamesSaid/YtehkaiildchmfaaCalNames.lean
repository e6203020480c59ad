/-
  CalendarNames: for every input the call returns true.
-/
import Derived.Test.YtehkaiildchmfaaCalJ
import Derived.Test.YtehkaiildchmfaaCalK
import Derived.OwnWalk
namespace Go.Proofs.Ytehkaiildchmfaa.calendarNames
open Go.ChangeShapes Go.WideShapes Go.ChangeAt Go.RowKit
set_option linter.unusedVariables false

theorem own : ownKnob Try.prog.godebug = none := by kernel_rfl

theorem info64 : (Try.prog.info? 2).map (fun i => (i.zero, i.size, i.bytes)) = some (some (.int .i64 0), 1, 8) := by kernel_rfl

set_option maxHeartbeats 4000000 in
theorem walk (w : World) : Calls Try.prog 5 #[] w fun e w' => e = .returned (.bool true) ∧ Below w.heap.size w w' := by
  have hal := fun W => hide (alive_calls W)
  have hm := fun A cap W => hide (new_many A 513 cap (by decide) W)
  have hn := fun W => hide (new_calls none 0 0 [] rfl (by decide) W (fun h => absurd h (by decide)) (fun k h => absurd h (by omega)))
  have hro := fun g W h => hide (roll_calls g [] (-1) W h)
  rw [show seekV [] (-1) 1 = 0 by decide, show seekE [] (-1) 1 = 41 by decide] at hro
  have hac := fun W => hide (actual_calls 0 0 0 2000 1 1 W)
  rw [show acV 0 0 0 2000 1 1 = 0 by decide, show acE 0 0 0 2000 1 1 = 31 by decide] at hac
  obtain ⟨i0, hi, hz0, hz1, hz2⟩ := info_parts info64
  go_enter Try.func5, Try.ntmps5
  go_wp2_with fail
  refine (unhide (hal _)).mono ?_
  rintro e w1 ⟨rfl, hx1⟩
  clear hal
  go_wp2_with (at_make; refine wpList_make_full _ rfl _ _ 39 rfl w1.heap.size 2 i0 (.int .i64 0) 1 Try.underlying39 hi hz0 hz1 .i64 .i64 _ _ 513 rfl rfl rfl rfl (by rw [hz2]; decide) (by decide) (Nat.le_refl _) ?_; intro w2 hown2 hg2)
  have hB1 : Below w.heap.size w w1 := hx1
  have hB2 : Below w.heap.size w w2 := hB1.grown hg2 hB1.size (fun _ h => by cases h)
  clear hx1 hB1 hown2 hg2
  refine (unhide (hm _ _ _)).mono ?_
  rintro e w3 ⟨rfl, rfl⟩
  go_wp2_with fail
  refine (unhide (hn _)).mono ?_
  rintro e w4 ⟨rfl, hD, hx4⟩
  have hB4 := hB2.trans (hx4.mono hB2.size)
  clear hB2 hx4 hn hm
  go_wp2_with fail
  refine (unhide (hro _ _ hD)).mono ?_
  rintro e w5 ⟨rfl, hx5⟩
  have hB5 := hB4.trans (hx5.mono hB4.size)
  clear hB4 hx5 hro hD
  go_wp2_with fail
  refine (unhide (hac _)).mono ?_
  rintro e w6 ⟨rfl, hx6⟩
  have hB6 := hB5.trans (hx6.mono hB5.size)
  go_wp2
  go_ret
  exact ⟨rfl, hB6⟩


set_option maxRecDepth 100000 in
theorem lifted (os : Os) (started : os.Started) (H : Type) (enc : TypeId × Value → H) :
    ReturnsInHanded {} Try.checked os 5 .any (Rows.calendarNamesSpec.pre6 enc Try.prog Try.f5 Rows.calendarNamesRow.domain false) (Rows.calendarNamesSpec.post enc Try.prog Try.f5 false true false false) := by
  refine returnsInHanded_of_change (C := Try.checked) own started (by kernel_rfl) Try.func5
    (ChangeSpec.witness6 (enc := enc) (C := Try.checked) false ⟨#[], #[], []⟩ 8 (by kernel_rfl) (by kernel_rfl) (by kernel_rfl) (by kernel_rfl)) ?_
  intro W base args ds gs before hval0 hW hcnd _
  have hval : ∀ (j : Nat) t v, Try.f5.params[j]? = some t → args[j]? = some v → Value.okWide Try.prog W .any base t v := hval0
  have hW' := hW
  obtain ⟨p, q, hA0, hV, rfl, hfz, hnd⟩ := hW
  have hA : DataW.TrodAll enc Try.prog W 0 (fun _ => true) true Try.f5.params.toList args.toList ds p := hA0
  rw [Try.params5] at hA hval
  obtain ⟨rfl, rfl, rfl⟩ := trodAll_none hA
  obtain ⟨rfl, rfl⟩ := trodVars_none hV
  clear hA0 hval0
  simp only [List.append_nil] at hW'
  refine (walk  W).mono fun e W' ⟨he, bel⟩ => ?_
  subst he
  exact ⟨_, rfl, _, _, _, [], [], [], hW', trodAll_mk1 (shut_bool Try.underlying4 _), trodAll_mk0, rfl, bel.frame _, fun h => by cases h⟩

theorem over : Rows.calendarNamesRow.holds Try.pinned (OpenSpec.ofChange Rows.calendarNamesSpec) :=
  OpenClaim.holds_of_wide 5 Try.f5 rfl rfl rfl rfl rfl rfl rfl ⟨rfl, rfl, rfl, rfl, rfl⟩ rfl rfl rfl rfl rfl (by kernel_rfl) Try.func5 (by kernel_rfl)
    (of_decide_eq_true (by kernel_rfl)) (by unfold Func.isWrapper; first | (rw [if_pos (by decide +kernel)]; kernel_rfl) | (rw [if_neg (by decide +kernel)]; exact ⟨rfl, rfl⟩))
    (fun os started H enc _ => lifted os started H enc)

/-- ████ THE STATEMENT ████ -/
theorem proved : Rows.CalendarNamesSaid :=
  over
#print axioms proved
end Go.Proofs.Ytehkaiildchmfaa.calendarNames
