/-
  CivilWeeks: for every input the call returns true.
-/
import Derived.Test.YtnjjkehoabghhaaDoorCivR
import Derived.Test.YtnjjkehoabghhaaDoorCivM
namespace Go.Proofs.YtnjjkehoabghhaaDoor.civilWeeks
open Go.ChangeShapes Go.WideShapes Go.ChangeAt Go.RowKit
open Go.ChangeMaps (open_string shut_string)
set_option linter.unusedVariables false

theorem own : ownKnob Tryd.prog.godebug = none := by kernel_rfl

theorem num_first (y : Int) (h1 : 1900 ≤ y) (h2 : y ≤ 2299) : numR y 1 1 = dby y ∧ errR y 1 1 = 0 := by
  have hr : rightB y 1 1 = true := (right_iff _ _ _).2 ⟨h1, h2, by omega, by omega, by omega, by have := len_bd y 1 (by omega) (by omega); omega⟩
  have hc := cum_1 y
  unfold numR errR
  rw [hr]
  refine ⟨?_, rfl⟩
  show numI y 1 1 = dby y
  unfold numI
  omega

set_option maxHeartbeats 2000000 in
theorem walk_out (y : Int) (hy : y < 1900 ∨ 2298 < y) (w : World) (hT : TabW w) : Calls Tryd.prog 7 #[.int .i64 y] w fun e w' => e = .returned (.bool true) ∧ Below w.heap.size w w' := by
  have hal := fun W h => hide (alive_calls W h)
  rcases hy with hy | hy
  · have k1 : decide (y < 1900) = true := decide_eq_true hy
    clear hy
    go_enter Tryd.func7, Tryd.ntmps7
    go_wp2_with fail
    refine (unhide (hal _ hT)).mono ?_
    rintro e w0 ⟨rfl, hb0⟩
    clear hal
    go_wp2
    go_ret
    exact ⟨rfl, hb0⟩
  · have k1 : decide (y < 1900) = false := decide_eq_false (by omega)
    have k2 : decide (2298 < y) = true := decide_eq_true hy
    clear hy
    go_enter Tryd.func7, Tryd.ntmps7
    go_wp2_with fail
    refine (unhide (hal _ hT)).mono ?_
    rintro e w0 ⟨rfl, hb0⟩
    clear hal
    go_wp2
    go_ret
    exact ⟨rfl, hb0⟩

set_option maxHeartbeats 4000000 in
theorem walk_plain (y : Int) (y1 : 1900 ≤ y) (y2 : y ≤ 2298) (hl : leapB y = false) (w : World) (hT : TabW w) : Calls Tryd.prog 7 #[.int .i64 y] w fun e w' => e = .returned (.bool true) ∧ Below w.heap.size w w' := by
  have hal := fun W h => hide (alive_calls W h)
  have ha := fun W => hide (number_calls y 1 1 W)
  rw [(num_first y y1 (by omega)).1, (num_first y y1 (by omega)).2] at ha
  have hb := fun W => hide (number_calls (y + 1) 1 1 W)
  rw [(num_first (y + 1) (by omega) (by omega)).1, (num_first (y + 1) (by omega) (by omega)).2] at hb
  have hlp : lp y = 0 := by unfold lp; rw [hl]; rfl
  have hs : dby (y + 1) = dby y + 365 := by have := dby_succ y; omega
  rw [hs] at hb
  have hp := fun W => hide (leap_calls y W)
  rw [hl] at hp
  have hlen := fun k W => hide (length_calls y k W)
  have hsum := fun (k : Int) (h1 : 1 ≤ k) (h2 : k ≤ 12) => cum_succ y k h1 h2
  have h13 : cum y 13 = 365 := by rw [cum_13, hlp]; rfl
  have hlb := fun (k : Int) (h1 : 1 ≤ k) (h2 : k ≤ 12) => len_bd y k h1 h2
  have hA0 : 0 ≤ dby y := by have := dby_mono 1900 y y1; have : dby 1900 = 0 := by decide
                             omega
  have hA1 : dby y ≤ 200000 := by have := dby_mono y 2298 y2; have : dby 2298 = 145367 := by decide
                                  omega
  generalize dby y = A at *
  have hwb := fun W => hide (week_calls (A + 365) W)
  have hwa := fun W => hide (week_calls A W)
  have hwc := fun W => hide (week_calls (A + 146097) W)
  rw [show (A + 146097) % 7 = A % 7 by omega] at hwc
  rw [show (A + 365) % 7 = (A % 7 + 1) % 7 by omega] at hwb
  have hk0 : 0 ≤ A % 7 := by omega
  have hk1 : A % 7 < 7 := by omega
  generalize A % 7 = k7 at *
  have htm : (k7 + 1).tmod 7 = (k7 + 1) % 7 := Int.tmod_eq_emod_of_nonneg (by omega)
  have hTm := hide htm
  have hsub : A + 365 - A = 365 := by omega
  have hSub := hide hsub
  have k1 : decide (y < 1900) = false := decide_eq_false (by omega)
  have k2 : decide (2298 < y) = false := decide_eq_false (by omega)
  have hH13 := hide h13
  have hHs := hide hsum
  have hHl := hide hlb
  clear htm hsub h13 hsum hlb hs hlp hl
  go_enter Tryd.func7, Tryd.ntmps7
  go_wp2_with fail
  refine (unhide (hal _ hT)).mono ?_
  rintro e w0 ⟨rfl, hb0⟩
  clear hal
  go_wp2_with fail
  refine (unhide (ha _)).mono ?_
  rintro e w1 ⟨rfl, hb1⟩
  have hB1 := hb0.trans (hb1.mono hb0.size)
  clear ha hb1 hb0
  go_wp2_with fail
  refine (unhide (hb _)).mono ?_
  rintro e w2 ⟨rfl, hb2⟩
  have hB2 := hB1.trans (hb2.mono hB1.size)
  clear hb hb2 hB1
  go_wp2_with fail
  refine (unhide (hp _)).mono ?_
  rintro e w3 ⟨rfl, rfl⟩
  clear hp
  go_wp2
  go_loopw [8, 9] (fun s v wr => ∃ k S : Int, v = .int .i64 k ∧ s = .int .i64 S ∧ 0 ≤ S ∧ S ≤ 31 * (k - 1) ∧ Hid (S = cum y k) ∧ 1 ≤ k ∧ k ≤ 13 ∧ Below w.heap.size w wr) (fun _ v _ => (13 - intOf v).toNat)
  case atStart => exact ⟨1, 0, rfl, rfl, by omega, by omega, hide (cum_1 y).symm, by omega, by omega, hB2⟩
  case round =>
    clear hB2
    obtain ⟨k, S, rfl, rfl, s0, s1, hS, q1, q2, hB3⟩ := hrel
    by_cases hk : k ≤ 12
    · have hd : decide (k ≤ 12) = true := decide_eq_true hk
      have hl1 := hHl.out k q1 hk
      have hl2 := hHs.out k q1 hk
      have hN : Hid (S + lenI y k = cum y (k + 1)) := hide (by rw [hl2, hS.out])
      have hlk := hlen k
      generalize lenI y k = L at *
      clear hl2 hlen
      go_wp2_with fail
      refine (unhide (hlk _)).mono ?_
      rintro e w4 ⟨rfl, hb4⟩
      have hB4 := hB3.trans (hb4.mono hB3.size)
      go_wp2
      go_roundw
      case rel => exact ⟨k + 1, S + L, rfl, rfl, by omega, by omega, hN, by omega, by omega, hB4⟩
      case measure => simp [intOf]; omega
    · obtain rfl : k = 13 := by omega
      obtain rfl : S = 365 := hS.out.trans hH13.out
      have htm := hTm.out
      have hsub := hSub.out
      clear hlen hHs hHl hH13 hS hk
      go_wp2_with fail
      refine (unhide (hwb _)).mono ?_
      rintro e w5 ⟨rfl, rfl⟩
      go_wp2_with fail
      refine (unhide (hwa _)).mono ?_
      rintro e w6 ⟨rfl, rfl⟩
      go_wp2_with fail
      refine (unhide (hwc _)).mono ?_
      rintro e w7 ⟨rfl, rfl⟩
      go_wp2_with fail
      refine (unhide (hwa _)).mono ?_
      rintro e w8 ⟨rfl, rfl⟩
      go_wp2
      go_ret
      exact ⟨rfl, hB3⟩

set_option maxHeartbeats 4000000 in
theorem walk_leap (y : Int) (y1 : 1900 ≤ y) (y2 : y ≤ 2298) (hl : leapB y = true) (w : World) (hT : TabW w) : Calls Tryd.prog 7 #[.int .i64 y] w fun e w' => e = .returned (.bool true) ∧ Below w.heap.size w w' := by
  have hal := fun W h => hide (alive_calls W h)
  have ha := fun W => hide (number_calls y 1 1 W)
  rw [(num_first y y1 (by omega)).1, (num_first y y1 (by omega)).2] at ha
  have hb := fun W => hide (number_calls (y + 1) 1 1 W)
  rw [(num_first (y + 1) (by omega) (by omega)).1, (num_first (y + 1) (by omega) (by omega)).2] at hb
  have hlp : lp y = 1 := by unfold lp; rw [hl]; rfl
  have hs : dby (y + 1) = dby y + 366 := by have := dby_succ y; omega
  rw [hs] at hb
  have hp := fun W => hide (leap_calls y W)
  rw [hl] at hp
  have hlen := fun k W => hide (length_calls y k W)
  have hsum := fun (k : Int) (h1 : 1 ≤ k) (h2 : k ≤ 12) => cum_succ y k h1 h2
  have h13 : cum y 13 = 366 := by rw [cum_13, hlp]; rfl
  have hlb := fun (k : Int) (h1 : 1 ≤ k) (h2 : k ≤ 12) => len_bd y k h1 h2
  have hA0 : 0 ≤ dby y := by have := dby_mono 1900 y y1; have : dby 1900 = 0 := by decide
                             omega
  have hA1 : dby y ≤ 200000 := by have := dby_mono y 2298 y2; have : dby 2298 = 145367 := by decide
                                  omega
  generalize dby y = A at *
  have hwb := fun W => hide (week_calls (A + 366) W)
  have hwa := fun W => hide (week_calls A W)
  have hwc := fun W => hide (week_calls (A + 146097) W)
  rw [show (A + 146097) % 7 = A % 7 by omega] at hwc
  rw [show (A + 366) % 7 = (A % 7 + 2) % 7 by omega] at hwb
  have hk0 : 0 ≤ A % 7 := by omega
  have hk1 : A % 7 < 7 := by omega
  generalize A % 7 = k7 at *
  have htm : (k7 + 2).tmod 7 = (k7 + 2) % 7 := Int.tmod_eq_emod_of_nonneg (by omega)
  have hTm := hide htm
  have hsub : A + 366 - A = 366 := by omega
  have hSub := hide hsub
  have k1 : decide (y < 1900) = false := decide_eq_false (by omega)
  have k2 : decide (2298 < y) = false := decide_eq_false (by omega)
  have hH13 := hide h13
  have hHs := hide hsum
  have hHl := hide hlb
  clear htm hsub h13 hsum hlb hs hlp hl
  go_enter Tryd.func7, Tryd.ntmps7
  go_wp2_with fail
  refine (unhide (hal _ hT)).mono ?_
  rintro e w0 ⟨rfl, hb0⟩
  clear hal
  go_wp2_with fail
  refine (unhide (ha _)).mono ?_
  rintro e w1 ⟨rfl, hb1⟩
  have hB1 := hb0.trans (hb1.mono hb0.size)
  clear ha hb1 hb0
  go_wp2_with fail
  refine (unhide (hb _)).mono ?_
  rintro e w2 ⟨rfl, hb2⟩
  have hB2 := hB1.trans (hb2.mono hB1.size)
  clear hb hb2 hB1
  go_wp2_with fail
  refine (unhide (hp _)).mono ?_
  rintro e w3 ⟨rfl, rfl⟩
  clear hp
  go_wp2
  go_loopw [8, 9] (fun s v wr => ∃ k S : Int, v = .int .i64 k ∧ s = .int .i64 S ∧ 0 ≤ S ∧ S ≤ 31 * (k - 1) ∧ Hid (S = cum y k) ∧ 1 ≤ k ∧ k ≤ 13 ∧ Below w.heap.size w wr) (fun _ v _ => (13 - intOf v).toNat)
  case atStart => exact ⟨1, 0, rfl, rfl, by omega, by omega, hide (cum_1 y).symm, by omega, by omega, hB2⟩
  case round =>
    clear hB2
    obtain ⟨k, S, rfl, rfl, s0, s1, hS, q1, q2, hB3⟩ := hrel
    by_cases hk : k ≤ 12
    · have hd : decide (k ≤ 12) = true := decide_eq_true hk
      have hl1 := hHl.out k q1 hk
      have hl2 := hHs.out k q1 hk
      have hN : Hid (S + lenI y k = cum y (k + 1)) := hide (by rw [hl2, hS.out])
      have hlk := hlen k
      generalize lenI y k = L at *
      clear hl2 hlen
      go_wp2_with fail
      refine (unhide (hlk _)).mono ?_
      rintro e w4 ⟨rfl, hb4⟩
      have hB4 := hB3.trans (hb4.mono hB3.size)
      go_wp2
      go_roundw
      case rel => exact ⟨k + 1, S + L, rfl, rfl, by omega, by omega, hN, by omega, by omega, hB4⟩
      case measure => simp [intOf]; omega
    · obtain rfl : k = 13 := by omega
      obtain rfl : S = 366 := hS.out.trans hH13.out
      have htm := hTm.out
      have hsub := hSub.out
      clear hlen hHs hHl hH13 hS hk
      go_wp2_with fail
      refine (unhide (hwb _)).mono ?_
      rintro e w5 ⟨rfl, rfl⟩
      go_wp2_with fail
      refine (unhide (hwa _)).mono ?_
      rintro e w6 ⟨rfl, rfl⟩
      go_wp2_with fail
      refine (unhide (hwc _)).mono ?_
      rintro e w7 ⟨rfl, rfl⟩
      go_wp2_with fail
      refine (unhide (hwa _)).mono ?_
      rintro e w8 ⟨rfl, rfl⟩
      go_wp2
      go_ret
      exact ⟨rfl, hB3⟩

theorem walk (y : Int) (w : World) (hT : TabW w) : Calls Tryd.prog 7 #[.int .i64 y] w fun e w' => e = .returned (.bool true) ∧ Below w.heap.size w w' := by
  by_cases h : y < 1900 ∨ 2298 < y
  · exact walk_out y h w hT
  · cases hl : leapB y
    · exact walk_plain y (by omega) (by omega) hl w hT
    · exact walk_leap y (by omega) (by omega) hl w hT


theorem contract (H : Type) (enc : TypeId × Value → H) (W : World) (base : Nat) (args : Array Value) (ds gs : List (DataW H)) (before : List MemPlace)
    (hval : ∀ (j : Nat) t v, Tryd.f7.params[j]? = some t → args[j]? = some v → Value.okWide Tryd.prog W .any base t v)
    (hW : DataW.Whole enc Tryd.prog Tryd.f7.params.toList Rows.civilWeeksSpec.vars false W args.toList ds gs before) (hL : laidMetH Tryd.prog Rows.civilWeeksRow.laid W) :
    Calls Tryd.prog 7 args W fun e W' => ∃ v, e = .returned v ∧ Rows.civilWeeksSpec.post enc Tryd.prog Tryd.f7 false true false false W args v W' := by
  have hW' := hW
  obtain ⟨p, q, hA0, hV, rfl, hfz, hnd⟩ := hW
  have hA : DataW.TrodAll enc Tryd.prog W 0 (fun _ => true) true Tryd.f7.params.toList args.toList ds p := hA0
  rw [Tryd.params7] at hA hval
  obtain ⟨v0, vs0, d0, ds0, p0, q0, hargs, rfl, rfl, h0, r0⟩ := trodAll_cons hA
  obtain ⟨rfl, rfl, rfl⟩ := trodAll_nil r0
  obtain rfl : args = #[v0] := by cases args; simp_all
  obtain ⟨rfl, rfl⟩ := trodVars_none hV
  obtain ⟨y, rfl, rfl, rfl, wf0⟩ := open_int Tryd.underlying3 (hval 0 3 v0 rfl rfl) h0
  clear hA0
  simp only [List.append_nil] at hW'
  refine (walk y W (table_of hL rfl)).mono fun e W' ⟨he, bel⟩ => ?_
  subst he
  exact ⟨_, rfl, _, _, _, [], [], [], hW', trodAll_mk1 (shut_bool Tryd.underlying4 _), (trodAll_cons_mk (shut_int Tryd.underlying3 wf0) trodAll_mk0), rfl, bel.frame _, fun h => by cases h⟩

theorem laid_met (os : Os) : laidMet Tryd.prog Rows.civilWeeksRow.laid ((laidWorld os).forCall (fun _ _ => 0) ⟨#[], #[.int .i64 0], []⟩).memory :=
  laidMet_of_run' 8 (by kernel_rfl) (by kernel_rfl)
theorem reads (os : Os) {H : Type} (enc : TypeId × Value → H) : ∃ places, DataW.whole enc Tryd.prog ((laidWorld os).forCall (fun _ _ => 0) ⟨#[], #[.int .i64 0], []⟩).memory Tryd.f7.params.toList Rows.civilWeeksSpec.vars false (#[.int .i64 0] : Array Value).toList 8 = some ([.lit (.int .i64 0)], [], places) :=
  ⟨[], by kernel_rfl⟩

set_option maxRecDepth 100000 in
theorem lifted (os : Os) (started : os.Started) (H : Type) (enc : TypeId × Value → H) (F : Stop.Interp) :
    ReturnsInHanded {} Tryd.checked os 7 .any ((OpenSpec.ofChange Rows.civilWeeksSpec).preRow enc Tryd.prog Tryd.f7 Rows.civilWeeksRow.domain false Rows.civilWeeksRow.laid) (((OpenSpec.ofChange Rows.civilWeeksSpec).at F).post enc Tryd.prog Tryd.f7 false true false false) := by
  obtain ⟨places, hx⟩ := reads os enc
  refine returnsInHanded_of_row (C := Tryd.checked) (s := OpenSpec.ofChange Rows.civilWeeksSpec) own started (by kernel_rfl) Tryd.func7
    (witness_row_at (enc := enc) (C := Tryd.checked) false (laidWorld os) #[.int .i64 0] rfl (by kernel_rfl) (by kernel_rfl) (by kernel_rfl)
      (OpenSpec.preRow_of_cond 8 hx (by kernel_rfl) (fun k hk => by cases hk) (by kernel_rfl) (laid_met os))) ?_
  intro W base args ds gs before hval hW _ _ _ hL _ _
  exact contract H enc W base args ds gs before hval hW hL

theorem said : Rows.CivilWeeksSaid :=
  OpenClaim.holds_of_cond 7 Tryd.f7 rfl rfl rfl rfl rfl rfl rfl ⟨rfl, rfl, rfl, rfl, rfl⟩ rfl rfl rfl rfl rfl (by kernel_rfl) Tryd.func7 (by kernel_rfl)
    (of_decide_eq_true (by kernel_rfl)) (by unfold Func.isWrapper; first | (rw [if_pos (by decide +kernel)]; kernel_rfl) | (rw [if_neg (by decide +kernel)]; exact ⟨rfl, rfl⟩))
    (fun os started H enc _ F => by rw [OpenClaim.pre_eq_preRow]; exact lifted os started H enc F)

theorem plain (f : FuncId) (fn : Func) (hf : Tryd.pinned.checked.prog.funcNamed "falsework/falseworklaw03.CivilWeeks" = some f) (hfn : Tryd.pinned.checked.prog.funcs[f]? = some fn) :
    true = Tryd.pinned.checked.prog.looks [] ∧ ∀ (j : Nat) t, fn.params[j]? = some t → Tryd.pinned.checked.prog.wantsStandIn t = false := by
  obtain rfl : f = 7 := Option.some.inj ((show Tryd.prog.funcNamed "falsework/falseworklaw03.CivilWeeks" = some 7 by kernel_rfl).symm.trans hf) |>.symm
  obtain rfl : fn = Tryd.f7 := (Option.some.inj (Tryd.func7.symm.trans hfn)).symm
  refine ⟨by kernel_rfl, fun j t ht => ?_⟩
  rw [Tryd.params7] at ht
  have hm : t = 3 := by simpa using Array.mem_of_getElem? ht
  subst hm
  exact (show Tryd.prog.wantsStandIn 3 = false by kernel_rfl)

/-- ████ THE CARD ████ -/
theorem proved : Rows.CivilWeeksCardSaid :=
  Claim7.holds_tied_plain_at .later [] _ _ _ _ said (fun _ h => by cases h) (by kernel_rfl) (fun _ h => by cases h) civilWeeks_row_tie rfl ⟨rfl, rfl⟩ (by kernel_rfl) rfl plain (by kernel_rfl)
#print axioms proved
end Go.Proofs.YtnjjkehoabghhaaDoor.civilWeeks
