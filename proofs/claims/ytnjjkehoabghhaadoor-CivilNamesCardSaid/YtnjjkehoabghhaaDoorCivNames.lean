/-
  CivilNames: for every input the call returns true.
-/
import Derived.Test.YtnjjkehoabghhaaDoorCivR
namespace Go.Proofs.YtnjjkehoabghhaaDoor.civilNames
open Go.ChangeShapes Go.WideShapes Go.ChangeAt Go.RowKit
open Go.ChangeMaps (open_string shut_string)
set_option linter.unusedVariables false

theorem own : ownKnob Tryd.prog.godebug = none := by kernel_rfl

set_option maxHeartbeats 4000000 in
theorem walk (w : World) (hT : TabW w) : Calls Tryd.prog 3 #[] w fun e w' => e = .returned (.bool true) ∧ Below w.heap.size w w' := by
  have ha := fun W => hide (of_calls 0 W)
  rw [show ofY 0 = 1900 by decide, show ofM 0 = 1 by decide, show ofD 0 = 1 by decide, show ofE 0 = 0 by decide] at ha
  have hb := fun W => hide (of_calls 146096 W)
  rw [show ofY 146096 = 2299 by decide, show ofM 146096 = 12 by decide, show ofD 146096 = 31 by decide, show ofE 146096 = 0 by decide] at hb
  have hc := fun W => hide (of_calls 146097 W)
  rw [show ofY 146097 = 0 by decide, show ofM 146097 = 0 by decide, show ofD 146097 = 0 by decide, show ofE 146097 = 31 by decide] at hc
  have hd := fun W => hide (of_calls (-1) W)
  rw [show ofY (-1) = 0 by decide, show ofM (-1) = 0 by decide, show ofD (-1) = 0 by decide, show ofE (-1) = 31 by decide] at hd
  have hn := fun W => hide (number_calls 1900 2 29 W)
  rw [show numR 1900 2 29 = 0 by decide, show errR 1900 2 29 = 31 by decide] at hn
  have hal := fun W h => hide (alive_calls W h)
  go_enter Tryd.func3, Tryd.ntmps3
  go_wp2_with fail
  refine (unhide (ha _)).mono ?_
  rintro e w1 ⟨rfl, hb1⟩
  have hA1 : SX w1 1900 1 1 (w1.alloc (.cells #[.int .i64 1900, .int .i64 1, .int .i64 1] 23)) := SX.new w1 1900 1 1
  have hB1 := hb1.trans (hA1.2.2.2.2.mono hb1.size)
  clear ha hb1
  go_wp2_with fail
  refine (unhide (hb _)).mono ?_
  rintro e w2 ⟨rfl, hb2⟩
  have hA2 := hA1.on hb2
  have hB2 := hB1.trans (hb2.mono hB1.size)
  have hC2 : SX w2 2299 12 31 (w2.alloc (.cells #[.int .i64 2299, .int .i64 12, .int .i64 31] 23)) := SX.new w2 2299 12 31
  have hA3 := hA2.on hC2.2.2.2.2
  have hB3 := hB2.trans (hC2.2.2.2.2.mono hB2.size)
  clear hb hb2 hA1 hA2 hB1 hB2
  go_wp2_with fail
  refine (unhide (hc _)).mono ?_
  rintro e w3 ⟨rfl, hb3⟩
  have hA4 := hA3.on hb3
  have hC4 := hC2.on hb3
  have hB4 := hB3.trans (hb3.mono hB3.size)
  have hE := SX.new w3 0 0 0
  have hA5 := hA4.on hE.2.2.2.2
  have hC5 := hC4.on hE.2.2.2.2
  have hB5 := hB4.trans (hE.2.2.2.2.mono hB4.size)
  clear hc hb3 hA3 hC2 hB3 hA4 hC4 hB4 hE
  go_wp2_with fail
  refine (unhide (hd _)).mono ?_
  rintro e w4 ⟨rfl, hb4⟩
  have hA6 := hA5.on hb4
  have hC6 := hC5.on hb4
  have hB6 := hB5.trans (hb4.mono hB5.size)
  have hE := SX.new w4 0 0 0
  have hA7 := hA6.on hE.2.2.2.2
  have hC7 := hC6.on hE.2.2.2.2
  have hB7 := hB6.trans (hE.2.2.2.2.mono hB6.size)
  clear hd hb4 hA5 hC5 hB5 hA6 hC6 hB6 hE
  go_wp2_with fail
  refine (unhide (hn _)).mono ?_
  rintro e w5 ⟨rfl, hb5⟩
  have hA8 := hA7.on hb5
  have hC8 := hC7.on hb5
  have hB8 := hB7.trans (hb5.mono hB7.size)
  clear hn hb5 hA7 hC7 hB7
  go_wp2_with fail
  refine (unhide (hal _ (hT.on hB8))).mono ?_
  rintro e w6 ⟨rfl, hb6⟩
  have hA9 := hA8.on hb6
  have hC9 := hC8.on hb6
  have hB9 := hB8.trans (hb6.mono hB8.size)
  clear hal hb6 hA8 hC8 hB8
  have a0 := hA9.1
  have a1 := hA9.2.1
  have a2 := hA9.2.2.1
  have c0 := hC9.1
  have c1 := hC9.2.1
  have c2 := hC9.2.2.1
  go_wp2
  go_ret
  exact ⟨rfl, hB9⟩


theorem contract (H : Type) (enc : TypeId × Value → H) (W : World) (base : Nat) (args : Array Value) (ds gs : List (DataW H)) (before : List MemPlace)
    (hval : ∀ (j : Nat) t v, Tryd.f3.params[j]? = some t → args[j]? = some v → Value.okWide Tryd.prog W .any base t v)
    (hW : DataW.Whole enc Tryd.prog Tryd.f3.params.toList Rows.civilNamesSpec.vars false W args.toList ds gs before) (hL : laidMetH Tryd.prog Rows.civilNamesRow.laid W) :
    Calls Tryd.prog 3 args W fun e W' => ∃ v, e = .returned v ∧ Rows.civilNamesSpec.post enc Tryd.prog Tryd.f3 false true false false W args v W' := by
  have hW' := hW
  obtain ⟨p, q, hA0, hV, rfl, hfz, hnd⟩ := hW
  have hA : DataW.TrodAll enc Tryd.prog W 0 (fun _ => true) true Tryd.f3.params.toList args.toList ds p := hA0
  rw [Tryd.params3] at hA hval
  obtain ⟨rfl, rfl, rfl⟩ := trodAll_none hA
  obtain ⟨rfl, rfl⟩ := trodVars_none hV
  clear hA0
  simp only [List.append_nil] at hW'
  refine (walk W (table_of hL rfl)).mono fun e W' ⟨he, bel⟩ => ?_
  subst he
  exact ⟨_, rfl, _, _, _, [], [], [], hW', trodAll_mk1 (shut_bool Tryd.underlying4 _), trodAll_mk0, rfl, bel.frame _, fun h => by cases h⟩

theorem laid_met (os : Os) : laidMet Tryd.prog Rows.civilNamesRow.laid ((laidWorld os).forCall (fun _ _ => 0) ⟨#[], #[], []⟩).memory :=
  laidMet_of_run' 8 (by kernel_rfl) (by kernel_rfl)
theorem reads (os : Os) {H : Type} (enc : TypeId × Value → H) : ∃ places, DataW.whole enc Tryd.prog ((laidWorld os).forCall (fun _ _ => 0) ⟨#[], #[], []⟩).memory Tryd.f3.params.toList Rows.civilNamesSpec.vars false (#[] : Array Value).toList 8 = some ([], [], places) :=
  ⟨[], by kernel_rfl⟩

set_option maxRecDepth 100000 in
theorem lifted (os : Os) (started : os.Started) (H : Type) (enc : TypeId × Value → H) (F : Stop.Interp) :
    ReturnsInHanded {} Tryd.checked os 3 .any ((OpenSpec.ofChange Rows.civilNamesSpec).preRow enc Tryd.prog Tryd.f3 Rows.civilNamesRow.domain false Rows.civilNamesRow.laid) (((OpenSpec.ofChange Rows.civilNamesSpec).at F).post enc Tryd.prog Tryd.f3 false true false false) := by
  obtain ⟨places, hx⟩ := reads os enc
  refine returnsInHanded_of_row (C := Tryd.checked) (s := OpenSpec.ofChange Rows.civilNamesSpec) own started (by kernel_rfl) Tryd.func3
    (witness_row_at (enc := enc) (C := Tryd.checked) false (laidWorld os) #[] rfl (by kernel_rfl) (by kernel_rfl) (by kernel_rfl)
      (OpenSpec.preRow_of_cond 8 hx (by kernel_rfl) (fun k hk => by cases hk) (by kernel_rfl) (laid_met os))) ?_
  intro W base args ds gs before hval hW _ _ _ hL _ _
  exact contract H enc W base args ds gs before hval hW hL

theorem said : Rows.CivilNamesSaid :=
  OpenClaim.holds_of_cond 3 Tryd.f3 rfl rfl rfl rfl rfl rfl rfl ⟨rfl, rfl, rfl, rfl, rfl⟩ rfl rfl rfl rfl rfl (by kernel_rfl) Tryd.func3 (by kernel_rfl)
    (of_decide_eq_true (by kernel_rfl)) (by unfold Func.isWrapper; first | (rw [if_pos (by decide +kernel)]; kernel_rfl) | (rw [if_neg (by decide +kernel)]; exact ⟨rfl, rfl⟩))
    (fun os started H enc _ F => by rw [OpenClaim.pre_eq_preRow]; exact lifted os started H enc F)

theorem plain (f : FuncId) (fn : Func) (hf : Tryd.pinned.checked.prog.funcNamed "falsework/falseworklaw03.CivilNames" = some f) (hfn : Tryd.pinned.checked.prog.funcs[f]? = some fn) :
    true = Tryd.pinned.checked.prog.looks [] ∧ ∀ (j : Nat) t, fn.params[j]? = some t → Tryd.pinned.checked.prog.wantsStandIn t = false := by
  obtain rfl : f = 3 := Option.some.inj ((show Tryd.prog.funcNamed "falsework/falseworklaw03.CivilNames" = some 3 by kernel_rfl).symm.trans hf) |>.symm
  obtain rfl : fn = Tryd.f3 := (Option.some.inj (Tryd.func3.symm.trans hfn)).symm
  refine ⟨by kernel_rfl, fun j t ht => ?_⟩
  rw [Tryd.params3] at ht
  simp at ht

/-- ████ THE CARD ████ -/
theorem proved : Rows.CivilNamesCardSaid :=
  Claim7.holds_tied_plain_at .later [] _ _ _ _ said (fun _ h => by cases h) (by kernel_rfl) (fun _ h => by cases h) civilNames_row_tie rfl ⟨rfl, rfl⟩ (by kernel_rfl) rfl plain (by kernel_rfl)
#print axioms proved
end Go.Proofs.YtnjjkehoabghhaaDoor.civilNames
