/-
  CivilTells: for every input the call returns true.
-/
import Derived.Test.YtnjjkehoabghhaaDoorCivR
import Derived.Test.YtnjjkehoabghhaaDoorCivT
import Derived.Test.YtnjjkehoabghhaaDoorCivD
namespace Go.Proofs.YtnjjkehoabghhaaDoor.civilTells
open Go.ChangeShapes Go.WideShapes Go.ChangeAt Go.RowKit
open Go.ChangeMaps (open_string shut_string)
set_option linter.unusedVariables false

theorem own : ownKnob Tryd.prog.godebug = none := by kernel_rfl

theorem text_all (y m d : Int) (w W : World) (hT : TabW w) (hS : SX w y m d W) :
    Calls Tryd.prog 20 #[.agg #[.int .i64 y, .int .i64 m, .int .i64 d]] W fun e w' => e = .returned (.string (if rightB y m d then ⟨(textL y m d).toArray⟩ else ⟨#[]⟩)) ∧ Below W.heap.size W w' := by
  cases h : rightB y m d
  · exact text_bad y m d W h
  · exact text_good y m d W (hT.on hS.2.2.2.2) h
theorem rtext_all (y m d : Int) (W : World) :
    Calls Tryd.prog 21 #[.agg #[.int .i64 y, .int .i64 m, .int .i64 d]] W fun e w' => e = .returned (.string (if rightB y m d then ⟨(textL y m d).toArray⟩ else ⟨#[]⟩)) ∧ Below W.heap.size W w' := by
  cases h : rightB y m d
  · exact rtext_bad y m d W h
  · exact rtext_good y m d W h

set_option maxHeartbeats 8000000 in
theorem walk (y m d : Int) (w : World) (hT : TabW w) : Calls Tryd.prog 4 #[.agg #[.int .i64 y, .int .i64 m, .int .i64 d]] w fun e w' => e = .returned (.bool true) ∧ Below w.heap.size w w' := by
  have hal := fun W h => hide (alive_calls W h)
  have hn1 := fun W => hide (number_calls y m d W)
  have hn2 := fun W => hide (rnumber_calls y m d W)
  have hr1 := fun W (_ : SX w y m d W) => hide (right_calls y m d W)
  have hr2 := fun W (_ : SX w y m d W) => hide (rright_calls y m d W)
  have hp1 := fun W => hide (leap_calls y W)
  have hp2 := fun W => hide (rleap_calls y W)
  have hl1 := fun W (_ : SX w y m d W) => hide (length_calls y m W)
  have hl2 := fun W => hide (rlength_calls y m W)
  have hx1 := fun W (h : SX w y m d W) => hide (text_all y m d w W hT h)
  have hx2 := fun W (_ : SX w y m d W) => hide (rtext_all y m d W)
  generalize (if rightB y m d then (⟨(textL y m d).toArray⟩ : ByteArray) else ⟨#[]⟩) = TX at *
  generalize numR y m d = nu at *
  generalize errR y m d = er at *
  generalize rightB y m d = R at *
  generalize leapB y = LP at *
  generalize lenI y m = LN at *
  have hbx := SX.new w y m d
  go_enter Tryd.func4, Tryd.ntmps4
  go_wp2_with fail
  refine (unhide (hal _ (hT.on hbx.2.2.2.2))).mono ?_
  rintro e w1 ⟨rfl, hb1⟩
  have hS1 := hbx.on hb1
  have a0 := hS1.1
  have a1 := hS1.2.1
  have a2 := hS1.2.2.1
  clear hbx hb1 hal
  go_wp2_with fail
  refine (unhide (hn1 _)).mono ?_
  rintro e w2 ⟨rfl, hb2⟩
  have hS2 := hS1.on hb2
  clear a0 a1 a2 hS1 hb2 hn1
  have a0 := hS2.1
  have a1 := hS2.2.1
  have a2 := hS2.2.2.1
  go_wp2_with fail
  refine (unhide (hn2 _)).mono ?_
  rintro e w3 ⟨rfl, hb3⟩
  have hS := hS2.on hb3
  clear a0 a1 a2 hS2 hb3 hn2
  have hS0 : SX w y m d w3.drew := ⟨hS.1, hS.2.1, hS.2.2.1, hS.2.2.2.1, hS.2.2.2.2.drew⟩
  go_wp2_with fail
  go_region_held3 (fun w' => w'.cell? ⟨w.heap.size, 0, none⟩ = some (.int .i64 y) ∧ w'.cell? ⟨w.heap.size, 1, none⟩ = some (.int .i64 m) ∧ w'.cell? ⟨w.heap.size, 2, none⟩ = some (.int .i64 d) ∧ w.heap.size < w'.heap.size ∧ Below w.heap.size w w')
    (first | exact hS5 | exact hS4 | exact hS3 | exact hS2 | exact hS1 | exact hS0 | exact hS)
    (first
      | (go_at_call 21; refine (unhide (hx2 _ hS4)).mono ?_; rintro e w25 ⟨rfl, hbw25⟩; have hS5 := hS4.on hbw25)
      | (go_at_call 20; refine (unhide (hx1 _ hS3)).mono ?_; rintro e w24 ⟨rfl, hbw24⟩; have hS4 := hS3.on hbw24)
      | (go_at_call 19; refine (unhide (hl2 _)).mono ?_; rintro e w23b ⟨rfl, rfl⟩)
      | (go_at_call 18; refine (unhide (hl1 _ hS2)).mono ?_; rintro e w23 ⟨rfl, hbw23⟩; have hS3 := hS2.on hbw23)
      | (go_at_call 17; refine (unhide (hp2 _)).mono ?_; rintro e w22b ⟨rfl, rfl⟩)
      | (go_at_call 16; refine (unhide (hp1 _)).mono ?_; rintro e w22a ⟨rfl, rfl⟩)
      | (go_at_call 15; refine (unhide (hr2 _ hS1)).mono ?_; rintro e w22 ⟨rfl, hbw22⟩; have hS2 := hS1.on hbw22)
      | (go_at_call 14; refine (unhide (hr1 _ hS0)).mono ?_; rintro e w21 ⟨rfl, hbw21⟩; have hS1 := hS0.on hbw21))
  go_wp2
  go_ret
  exact ⟨rfl, hS5.2.2.2.2⟩


theorem contract (H : Type) (enc : TypeId × Value → H) (W : World) (base : Nat) (args : Array Value) (ds gs : List (DataW H)) (before : List MemPlace)
    (hval : ∀ (j : Nat) t v, Tryd.f4.params[j]? = some t → args[j]? = some v → Value.okWide Tryd.prog W .any base t v)
    (hW : DataW.Whole enc Tryd.prog Tryd.f4.params.toList Rows.civilTellsSpec.vars false W args.toList ds gs before) (hL : laidMetH Tryd.prog Rows.civilTellsRow.laid W) :
    Calls Tryd.prog 4 args W fun e W' => ∃ v, e = .returned v ∧ Rows.civilTellsSpec.post enc Tryd.prog Tryd.f4 false true false false W args v W' := by
  have hW' := hW
  obtain ⟨p, q, hA0, hV, rfl, hfz, hnd⟩ := hW
  have hA : DataW.TrodAll enc Tryd.prog W 0 (fun _ => true) true Tryd.f4.params.toList args.toList ds p := hA0
  rw [Tryd.params4] at hA hval
  obtain ⟨v0, vs0, d0, ds0, p0, q0, hargs, rfl, rfl, h0, r0⟩ := trodAll_cons hA
  obtain ⟨rfl, rfl, rfl⟩ := trodAll_nil r0
  obtain rfl : args = #[v0] := by cases args; simp_all
  obtain ⟨rfl, rfl⟩ := trodVars_none hV
  obtain ⟨dy, dm, dd, rfl, rfl, rfl, hwd⟩ := open_date (hval 0 23 v0 rfl rfl) h0
  clear hA0
  simp only [List.append_nil] at hW'
  refine (walk dy dm dd W (table_of hL rfl)).mono fun e W' ⟨he, bel⟩ => ?_
  subst he
  exact ⟨_, rfl, _, _, _, [], [], [], hW', trodAll_mk1 (shut_bool Tryd.underlying4 _), (trodAll_cons_mk (shut_date hwd) trodAll_mk0), rfl, bel.frame _, fun h => by cases h⟩

theorem laid_met (os : Os) : laidMet Tryd.prog Rows.civilTellsRow.laid ((laidWorld os).forCall (fun _ _ => 0) ⟨#[], #[.agg #[.int .i64 0, .int .i64 0, .int .i64 0]], []⟩).memory :=
  laidMet_of_run' 8 (by kernel_rfl) (by kernel_rfl)
theorem reads (os : Os) {H : Type} (enc : TypeId × Value → H) : ∃ places, DataW.whole enc Tryd.prog ((laidWorld os).forCall (fun _ _ => 0) ⟨#[], #[.agg #[.int .i64 0, .int .i64 0, .int .i64 0]], []⟩).memory Tryd.f4.params.toList Rows.civilTellsSpec.vars false (#[.agg #[.int .i64 0, .int .i64 0, .int .i64 0]] : Array Value).toList 8 = some ([.agg [.lit (.int .i64 0), .lit (.int .i64 0), .lit (.int .i64 0)]], [], places) :=
  ⟨[], by kernel_rfl⟩

set_option maxRecDepth 100000 in
theorem lifted (os : Os) (started : os.Started) (H : Type) (enc : TypeId × Value → H) (F : Stop.Interp) :
    ReturnsInHanded {} Tryd.checked os 4 .any ((OpenSpec.ofChange Rows.civilTellsSpec).preRow enc Tryd.prog Tryd.f4 Rows.civilTellsRow.domain false Rows.civilTellsRow.laid) (((OpenSpec.ofChange Rows.civilTellsSpec).at F).post enc Tryd.prog Tryd.f4 false true false false) := by
  obtain ⟨places, hx⟩ := reads os enc
  refine returnsInHanded_of_row (C := Tryd.checked) (s := OpenSpec.ofChange Rows.civilTellsSpec) own started (by kernel_rfl) Tryd.func4
    (witness_row_at (enc := enc) (C := Tryd.checked) false (laidWorld os) #[.agg #[.int .i64 0, .int .i64 0, .int .i64 0]] rfl (by kernel_rfl) (by kernel_rfl) (by kernel_rfl)
      (OpenSpec.preRow_of_cond 8 hx (by kernel_rfl) (fun k hk => by cases hk) (by kernel_rfl) (laid_met os))) ?_
  intro W base args ds gs before hval hW _ _ _ hL _ _
  exact contract H enc W base args ds gs before hval hW hL

theorem said : Rows.CivilTellsSaid :=
  OpenClaim.holds_of_cond 4 Tryd.f4 rfl rfl rfl rfl rfl rfl rfl ⟨rfl, rfl, rfl, rfl, rfl⟩ rfl rfl rfl rfl rfl (by kernel_rfl) Tryd.func4 (by kernel_rfl)
    (of_decide_eq_true (by kernel_rfl)) (by unfold Func.isWrapper; first | (rw [if_pos (by decide +kernel)]; kernel_rfl) | (rw [if_neg (by decide +kernel)]; exact ⟨rfl, rfl⟩))
    (fun os started H enc _ F => by rw [OpenClaim.pre_eq_preRow]; exact lifted os started H enc F)

theorem plain (f : FuncId) (fn : Func) (hf : Tryd.pinned.checked.prog.funcNamed "falsework/falseworklaw03.CivilTells" = some f) (hfn : Tryd.pinned.checked.prog.funcs[f]? = some fn) :
    true = Tryd.pinned.checked.prog.looks [] ∧ ∀ (j : Nat) t, fn.params[j]? = some t → Tryd.pinned.checked.prog.wantsStandIn t = false := by
  obtain rfl : f = 4 := Option.some.inj ((show Tryd.prog.funcNamed "falsework/falseworklaw03.CivilTells" = some 4 by kernel_rfl).symm.trans hf) |>.symm
  obtain rfl : fn = Tryd.f4 := (Option.some.inj (Tryd.func4.symm.trans hfn)).symm
  refine ⟨by kernel_rfl, fun j t ht => ?_⟩
  rw [Tryd.params4] at ht
  have hm : t = 23 := by simpa using Array.mem_of_getElem? ht
  subst hm
  exact (show Tryd.prog.wantsStandIn 23 = false by kernel_rfl)

/-- ████ THE CARD ████ -/
theorem proved : Rows.CivilTellsCardSaid :=
  Claim7.holds_tied_plain_at .later [] _ _ _ _ said (fun _ h => by cases h) (by kernel_rfl) (fun _ h => by cases h) civilTells_row_tie rfl ⟨rfl, rfl⟩ (by kernel_rfl) rfl plain (by kernel_rfl)
#print axioms proved
end Go.Proofs.YtnjjkehoabghhaaDoor.civilTells
