/-
  CivilNext: for every input the call returns true.
-/
import Derived.Test.YtnjjkehoabghhaaDoorCivR
import Derived.Test.YtnjjkehoabghhaaDoorCivM
namespace Go.Proofs.YtnjjkehoabghhaaDoor.civilNext
open Go.ChangeShapes Go.WideShapes Go.ChangeAt Go.RowKit
open Go.ChangeMaps (open_string shut_string)
set_option linter.unusedVariables false

theorem own : ownKnob Tryd.prog.godebug = none := by kernel_rfl

set_option maxHeartbeats 2000000 in
theorem walk_out (n : Int) (hn : inB n = false) (w : World) (hT : TabW w) : Calls Tryd.prog 6 #[.int .i64 n] w fun e w' => e = .returned (.bool true) ∧ Below w.heap.size w w' := by
  have hal := fun W h => hide (alive_calls W h)
  have ha := fun W => hide (of_calls n W)
  have her : ofE n = 31 := by unfold ofE; rw [hn]; rfl
  rw [her] at ha
  generalize ofY n = y at *
  generalize ofM n = m at *
  generalize ofD n = d at *
  clear her hn
  go_enter Tryd.func6, Tryd.ntmps6
  go_wp2_with fail
  refine (unhide (hal _ hT)).mono ?_
  rintro e w0 ⟨rfl, hb0⟩
  clear hal
  go_wp2_with fail
  refine (unhide (ha _)).mono ?_
  rintro e w1 ⟨rfl, hb1⟩
  have hA1 := SX.new w1 y m d
  have hB1 := hb0.trans (hb1.mono hb0.size)
  have hB2 := hB1.trans (hA1.2.2.2.2.mono hB1.size)
  go_wp2
  go_ret
  exact ⟨rfl, hB2⟩

set_option maxHeartbeats 2000000 in
theorem walk_last (w : World) (hT : TabW w) : Calls Tryd.prog 6 #[.int .i64 146096] w fun e w' => e = .returned (.bool true) ∧ Below w.heap.size w w' := by
  have hal := fun W h => hide (alive_calls W h)
  have ha := fun W => hide (of_calls 146096 W)
  rw [show ofE 146096 = 0 by decide] at ha
  generalize ofY 146096 = y at *
  generalize ofM 146096 = m at *
  generalize ofD 146096 = d at *
  go_enter Tryd.func6, Tryd.ntmps6
  go_wp2_with fail
  refine (unhide (hal _ hT)).mono ?_
  rintro e w0 ⟨rfl, hb0⟩
  clear hal
  go_wp2_with fail
  refine (unhide (ha _)).mono ?_
  rintro e w1 ⟨rfl, hb1⟩
  have hA1 := SX.new w1 y m d
  have hB1 := hb0.trans (hb1.mono hb0.size)
  have hB2 := hB1.trans (hA1.2.2.2.2.mono hB1.size)
  go_wp2
  go_ret
  exact ⟨rfl, hB2⟩

set_option maxHeartbeats 4000000 in
theorem walk_same (n y m d : Int) (h0 : 0 ≤ n) (h1 : n < 146096) (hr : rightB y m d = true) (hq0 : decide (d < lenI y m) = true) (w : World) (hT : TabW w)
    (ha : ∀ W, Hid (Calls Tryd.prog 10 #[.int .i64 n] W fun e w' => e = .returned (.tuple #[.agg #[.int .i64 y, .int .i64 m, .int .i64 d], .int .i64 0]) ∧ Below W.heap.size W w'))
    (hb : ∀ W, Hid (Calls Tryd.prog 10 #[.int .i64 (n + 1)] W fun e w' => e = .returned (.tuple #[.agg #[.int .i64 y, .int .i64 m, .int .i64 (d + 1)], .int .i64 0]) ∧ Below W.heap.size W w')) : Calls Tryd.prog 6 #[.int .i64 n] w fun e w' => e = .returned (.bool true) ∧ Below w.heap.size w w' := by
  have hal := fun W h => hide (alive_calls W h)
  have hc := fun W => hide (week_calls n W)
  have hd := fun W => hide (week_calls (n + 1) W)
  have hl := fun W => hide (length_calls y m W)
  have hwk := week_next n
  have hk0 : 0 ≤ n % 7 := by omega
  have hk1 : n % 7 < 7 := by omega
  rw [hwk] at hd
  clear hwk
  generalize n % 7 = k at *
  obtain ⟨r1, r2, r3, r4, r5, r6⟩ := (right_iff y m d).1 hr
  have r7 := (len_bd y m r3 r4).2
  have hne : (n == 146096) = false := beq_eq_false_iff_ne.2 (by omega)
  generalize lenI y m = L at *
  have htm : (k + 1).tmod 7 = (k + 1) % 7 := Int.tmod_eq_emod_of_nonneg (by omega)
  clear hr
  go_enter Tryd.func6, Tryd.ntmps6
  go_wp2_with fail
  refine (unhide (hal _ hT)).mono ?_
  rintro e w0 ⟨rfl, hb0⟩
  clear hal
  go_wp2_with fail
  refine (unhide (ha _)).mono ?_
  rintro e w1 ⟨rfl, hb1⟩
  have hA1 := SX.new w1 y m d
  have hB1 := hb0.trans (hb1.mono hb0.size)
  have hB2 := hB1.trans (hA1.2.2.2.2.mono hB1.size)
  clear ha hb1 hb0 hB1
  go_wp2_with fail
  refine (unhide (hb _)).mono ?_
  rintro e w2 ⟨rfl, hb2⟩
  have hA2 := hA1.on hb2
  have hB3 := hB2.trans (hb2.mono hB2.size)
  have hC2 := SX.new w2 y m (d + 1)
  have hA3 := hA2.on hC2.2.2.2.2
  have hB4 := hB3.trans (hC2.2.2.2.2.mono hB3.size)
  clear hb hb2 hA1 hB2 hA2 hB3
  go_wp2_with fail
  refine (unhide (hd _)).mono ?_
  rintro e w3 ⟨rfl, rfl⟩
  go_wp2_with fail
  refine (unhide (hc _)).mono ?_
  rintro e w4 ⟨rfl, rfl⟩
  clear hc hd
  generalize w2.alloc (.cells #[.int .i64 y, .int .i64 m, .int .i64 (d + 1)] 23) = W at *
  have hS0 := hA3
  have hA3' : SX w1 y m d W.drew := ⟨hA3.1, hA3.2.1, hA3.2.2.1, hA3.2.2.2.1, hA3.2.2.2.2.drew⟩
  go_wp2_with fail
  go_region_held3 (fun w' => w'.cell? ⟨w1.heap.size, 0, none⟩ = some (.int .i64 y) ∧ w'.cell? ⟨w1.heap.size, 1, none⟩ = some (.int .i64 m) ∧ w'.cell? ⟨w1.heap.size, 2, none⟩ = some (.int .i64 d) ∧ w1.heap.size < w'.heap.size ∧ Below w1.heap.size w1 w')
    (first | exact hA4 | exact hA3' | exact hA3)
    (first
      | (go_at_call 18; refine (unhide (hl _)).mono ?_; rintro e w5 ⟨rfl, hb5⟩; have hA4 := hA3'.on hb5))
  have hC2' : SX w2 y m (d + 1) W.drew := ⟨hC2.1, hC2.2.1, hC2.2.2.1, hC2.2.2.2.1, hC2.2.2.2.2.drew⟩
  have hC4 := hC2'.on hb5
  have hB5 := hB4.drew.trans (hb5.mono hB4.drew.size)
  have a0 := hA4.1
  have a1 := hA4.2.1
  have a2 := hA4.2.2.1
  have c0 := hC4.1
  have c1 := hC4.2.1
  have c2 := hC4.2.2.1
  clear hA3 hA3' hC2 hC2' hS0 hB4 hb5 hl
  go_wp2
  go_ret
  exact ⟨rfl, hB5⟩

set_option maxHeartbeats 4000000 in
theorem walk_month (n y m d : Int) (h0 : 0 ≤ n) (h1 : n < 146096) (hr : rightB y m d = true) (hq0 : decide (d < lenI y m) = false) (hq1 : decide (m < 12) = true) (w : World) (hT : TabW w)
    (ha : ∀ W, Hid (Calls Tryd.prog 10 #[.int .i64 n] W fun e w' => e = .returned (.tuple #[.agg #[.int .i64 y, .int .i64 m, .int .i64 d], .int .i64 0]) ∧ Below W.heap.size W w'))
    (hb : ∀ W, Hid (Calls Tryd.prog 10 #[.int .i64 (n + 1)] W fun e w' => e = .returned (.tuple #[.agg #[.int .i64 y, .int .i64 (m + 1), .int .i64 1], .int .i64 0]) ∧ Below W.heap.size W w')) : Calls Tryd.prog 6 #[.int .i64 n] w fun e w' => e = .returned (.bool true) ∧ Below w.heap.size w w' := by
  have hal := fun W h => hide (alive_calls W h)
  have hc := fun W => hide (week_calls n W)
  have hd := fun W => hide (week_calls (n + 1) W)
  have hl := fun W => hide (length_calls y m W)
  have hwk := week_next n
  have hk0 : 0 ≤ n % 7 := by omega
  have hk1 : n % 7 < 7 := by omega
  rw [hwk] at hd
  clear hwk
  generalize n % 7 = k at *
  obtain ⟨r1, r2, r3, r4, r5, r6⟩ := (right_iff y m d).1 hr
  have r7 := (len_bd y m r3 r4).2
  have hne : (n == 146096) = false := beq_eq_false_iff_ne.2 (by omega)
  generalize lenI y m = L at *
  have htm : (k + 1).tmod 7 = (k + 1) % 7 := Int.tmod_eq_emod_of_nonneg (by omega)
  clear hr
  go_enter Tryd.func6, Tryd.ntmps6
  go_wp2_with fail
  refine (unhide (hal _ hT)).mono ?_
  rintro e w0 ⟨rfl, hb0⟩
  clear hal
  go_wp2_with fail
  refine (unhide (ha _)).mono ?_
  rintro e w1 ⟨rfl, hb1⟩
  have hA1 := SX.new w1 y m d
  have hB1 := hb0.trans (hb1.mono hb0.size)
  have hB2 := hB1.trans (hA1.2.2.2.2.mono hB1.size)
  clear ha hb1 hb0 hB1
  go_wp2_with fail
  refine (unhide (hb _)).mono ?_
  rintro e w2 ⟨rfl, hb2⟩
  have hA2 := hA1.on hb2
  have hB3 := hB2.trans (hb2.mono hB2.size)
  have hC2 := SX.new w2 y (m + 1) 1
  have hA3 := hA2.on hC2.2.2.2.2
  have hB4 := hB3.trans (hC2.2.2.2.2.mono hB3.size)
  clear hb hb2 hA1 hB2 hA2 hB3
  go_wp2_with fail
  refine (unhide (hd _)).mono ?_
  rintro e w3 ⟨rfl, rfl⟩
  go_wp2_with fail
  refine (unhide (hc _)).mono ?_
  rintro e w4 ⟨rfl, rfl⟩
  clear hc hd
  generalize w2.alloc (.cells #[.int .i64 y, .int .i64 (m + 1), .int .i64 1] 23) = W at *
  have hS0 := hA3
  have hA3' : SX w1 y m d W.drew := ⟨hA3.1, hA3.2.1, hA3.2.2.1, hA3.2.2.2.1, hA3.2.2.2.2.drew⟩
  go_wp2_with fail
  go_region_held3 (fun w' => w'.cell? ⟨w1.heap.size, 0, none⟩ = some (.int .i64 y) ∧ w'.cell? ⟨w1.heap.size, 1, none⟩ = some (.int .i64 m) ∧ w'.cell? ⟨w1.heap.size, 2, none⟩ = some (.int .i64 d) ∧ w1.heap.size < w'.heap.size ∧ Below w1.heap.size w1 w')
    (first | exact hA4 | exact hA3' | exact hA3)
    (first
      | (go_at_call 18; refine (unhide (hl _)).mono ?_; rintro e w5 ⟨rfl, hb5⟩; have hA4 := hA3'.on hb5))
  have hC2' : SX w2 y (m + 1) 1 W.drew := ⟨hC2.1, hC2.2.1, hC2.2.2.1, hC2.2.2.2.1, hC2.2.2.2.2.drew⟩
  have hC4 := hC2'.on hb5
  have hB5 := hB4.drew.trans (hb5.mono hB4.drew.size)
  have a0 := hA4.1
  have a1 := hA4.2.1
  have a2 := hA4.2.2.1
  have c0 := hC4.1
  have c1 := hC4.2.1
  have c2 := hC4.2.2.1
  clear hA3 hA3' hC2 hC2' hS0 hB4 hb5 hl
  go_wp2
  go_ret
  exact ⟨rfl, hB5⟩

set_option maxHeartbeats 4000000 in
theorem walk_year (n y m d : Int) (h0 : 0 ≤ n) (h1 : n < 146096) (hr : rightB y m d = true) (hq0 : decide (d < lenI y m) = false) (hq1 : decide (m < 12) = false) (w : World) (hT : TabW w)
    (ha : ∀ W, Hid (Calls Tryd.prog 10 #[.int .i64 n] W fun e w' => e = .returned (.tuple #[.agg #[.int .i64 y, .int .i64 m, .int .i64 d], .int .i64 0]) ∧ Below W.heap.size W w'))
    (hb : ∀ W, Hid (Calls Tryd.prog 10 #[.int .i64 (n + 1)] W fun e w' => e = .returned (.tuple #[.agg #[.int .i64 (y + 1), .int .i64 1, .int .i64 1], .int .i64 0]) ∧ Below W.heap.size W w')) : Calls Tryd.prog 6 #[.int .i64 n] w fun e w' => e = .returned (.bool true) ∧ Below w.heap.size w w' := by
  have hal := fun W h => hide (alive_calls W h)
  have hc := fun W => hide (week_calls n W)
  have hd := fun W => hide (week_calls (n + 1) W)
  have hl := fun W => hide (length_calls y m W)
  have hwk := week_next n
  have hk0 : 0 ≤ n % 7 := by omega
  have hk1 : n % 7 < 7 := by omega
  rw [hwk] at hd
  clear hwk
  generalize n % 7 = k at *
  obtain ⟨r1, r2, r3, r4, r5, r6⟩ := (right_iff y m d).1 hr
  have r7 := (len_bd y m r3 r4).2
  have hne : (n == 146096) = false := beq_eq_false_iff_ne.2 (by omega)
  generalize lenI y m = L at *
  have htm : (k + 1).tmod 7 = (k + 1) % 7 := Int.tmod_eq_emod_of_nonneg (by omega)
  clear hr
  go_enter Tryd.func6, Tryd.ntmps6
  go_wp2_with fail
  refine (unhide (hal _ hT)).mono ?_
  rintro e w0 ⟨rfl, hb0⟩
  clear hal
  go_wp2_with fail
  refine (unhide (ha _)).mono ?_
  rintro e w1 ⟨rfl, hb1⟩
  have hA1 := SX.new w1 y m d
  have hB1 := hb0.trans (hb1.mono hb0.size)
  have hB2 := hB1.trans (hA1.2.2.2.2.mono hB1.size)
  clear ha hb1 hb0 hB1
  go_wp2_with fail
  refine (unhide (hb _)).mono ?_
  rintro e w2 ⟨rfl, hb2⟩
  have hA2 := hA1.on hb2
  have hB3 := hB2.trans (hb2.mono hB2.size)
  have hC2 := SX.new w2 (y + 1) 1 1
  have hA3 := hA2.on hC2.2.2.2.2
  have hB4 := hB3.trans (hC2.2.2.2.2.mono hB3.size)
  clear hb hb2 hA1 hB2 hA2 hB3
  go_wp2_with fail
  refine (unhide (hd _)).mono ?_
  rintro e w3 ⟨rfl, rfl⟩
  go_wp2_with fail
  refine (unhide (hc _)).mono ?_
  rintro e w4 ⟨rfl, rfl⟩
  clear hc hd
  generalize w2.alloc (.cells #[.int .i64 (y + 1), .int .i64 1, .int .i64 1] 23) = W at *
  have hS0 := hA3
  have hA3' : SX w1 y m d W.drew := ⟨hA3.1, hA3.2.1, hA3.2.2.1, hA3.2.2.2.1, hA3.2.2.2.2.drew⟩
  go_wp2_with fail
  go_region_held3 (fun w' => w'.cell? ⟨w1.heap.size, 0, none⟩ = some (.int .i64 y) ∧ w'.cell? ⟨w1.heap.size, 1, none⟩ = some (.int .i64 m) ∧ w'.cell? ⟨w1.heap.size, 2, none⟩ = some (.int .i64 d) ∧ w1.heap.size < w'.heap.size ∧ Below w1.heap.size w1 w')
    (first | exact hA4 | exact hA3' | exact hA3)
    (first
      | (go_at_call 18; refine (unhide (hl _)).mono ?_; rintro e w5 ⟨rfl, hb5⟩; have hA4 := hA3'.on hb5))
  have hC2' : SX w2 (y + 1) 1 1 W.drew := ⟨hC2.1, hC2.2.1, hC2.2.2.1, hC2.2.2.2.1, hC2.2.2.2.2.drew⟩
  have hC4 := hC2'.on hb5
  have hB5 := hB4.drew.trans (hb5.mono hB4.drew.size)
  have a0 := hA4.1
  have a1 := hA4.2.1
  have a2 := hA4.2.2.1
  have c0 := hC4.1
  have c1 := hC4.2.1
  have c2 := hC4.2.2.1
  clear hA3 hA3' hC2 hC2' hS0 hB4 hb5 hl
  go_wp2
  go_ret
  exact ⟨rfl, hB5⟩

theorem walk (n : Int) (w : World) (hT : TabW w) : Calls Tryd.prog 6 #[.int .i64 n] w fun e w' => e = .returned (.bool true) ∧ Below w.heap.size w w' := by
  cases hn : inB n
  · exact walk_out n hn w hT
  · obtain ⟨h0, h1⟩ := (inB_iff n).1 hn
    by_cases hl : n = 146096
    · subst hl
      exact walk_last w hT
    · have hn1 : inB (n + 1) = true := (inB_iff _).2 (by omega)
      obtain ⟨hr, _⟩ := date_right n h0 h1
      have ha := fun W => hide (of_calls n W)
      have hb := fun W => hide (of_calls (n + 1) W)
      unfold ofY ofM ofD ofE at ha hb
      rw [hn] at ha
      rw [hn1] at hb
      by_cases hd : dD n < lenI (dY n) (dM n)
      · have hx := next_same n h0 (by omega) hd
        rw [hx.1, hx.2.1, hx.2.2] at hb
        exact walk_same n _ _ _ h0 (by omega) hr (decide_eq_true hd) w hT ha hb
      · by_cases hm : dM n < 12
        · have hx := next_month n h0 (by omega) hd hm
          rw [hx.1, hx.2.1, hx.2.2] at hb
          exact walk_month n _ _ _ h0 (by omega) hr (decide_eq_false hd) (decide_eq_true hm) w hT ha hb
        · have hx := next_year n h0 (by omega) hd hm
          rw [hx.1, hx.2.1, hx.2.2] at hb
          exact walk_year n _ _ _ h0 (by omega) hr (decide_eq_false hd) (decide_eq_false hm) w hT ha hb


theorem contract (H : Type) (enc : TypeId × Value → H) (W : World) (base : Nat) (args : Array Value) (ds gs : List (DataW H)) (before : List MemPlace)
    (hval : ∀ (j : Nat) t v, Tryd.f6.params[j]? = some t → args[j]? = some v → Value.okWide Tryd.prog W .any base t v)
    (hW : DataW.Whole enc Tryd.prog Tryd.f6.params.toList Rows.civilNextSpec.vars false W args.toList ds gs before) (hL : laidMetH Tryd.prog Rows.civilNextRow.laid W) :
    Calls Tryd.prog 6 args W fun e W' => ∃ v, e = .returned v ∧ Rows.civilNextSpec.post enc Tryd.prog Tryd.f6 false true false false W args v W' := by
  have hW' := hW
  obtain ⟨p, q, hA0, hV, rfl, hfz, hnd⟩ := hW
  have hA : DataW.TrodAll enc Tryd.prog W 0 (fun _ => true) true Tryd.f6.params.toList args.toList ds p := hA0
  rw [Tryd.params6] at hA hval
  obtain ⟨v0, vs0, d0, ds0, p0, q0, hargs, rfl, rfl, h0, r0⟩ := trodAll_cons hA
  obtain ⟨rfl, rfl, rfl⟩ := trodAll_nil r0
  obtain rfl : args = #[v0] := by cases args; simp_all
  obtain ⟨rfl, rfl⟩ := trodVars_none hV
  obtain ⟨n, rfl, rfl, rfl, wf0⟩ := open_int Tryd.underlying2 (hval 0 2 v0 rfl rfl) h0
  clear hA0
  simp only [List.append_nil] at hW'
  refine (walk n W (table_of hL rfl)).mono fun e W' ⟨he, bel⟩ => ?_
  subst he
  exact ⟨_, rfl, _, _, _, [], [], [], hW', trodAll_mk1 (shut_bool Tryd.underlying4 _), (trodAll_cons_mk (shut_int Tryd.underlying2 wf0) trodAll_mk0), rfl, bel.frame _, fun h => by cases h⟩

theorem laid_met (os : Os) : laidMet Tryd.prog Rows.civilNextRow.laid ((laidWorld os).forCall (fun _ _ => 0) ⟨#[], #[.int .i64 0], []⟩).memory :=
  laidMet_of_run' 8 (by kernel_rfl) (by kernel_rfl)
theorem reads (os : Os) {H : Type} (enc : TypeId × Value → H) : ∃ places, DataW.whole enc Tryd.prog ((laidWorld os).forCall (fun _ _ => 0) ⟨#[], #[.int .i64 0], []⟩).memory Tryd.f6.params.toList Rows.civilNextSpec.vars false (#[.int .i64 0] : Array Value).toList 8 = some ([.lit (.int .i64 0)], [], places) :=
  ⟨[], by kernel_rfl⟩

set_option maxRecDepth 100000 in
theorem lifted (os : Os) (started : os.Started) (H : Type) (enc : TypeId × Value → H) (F : Stop.Interp) :
    ReturnsInHanded {} Tryd.checked os 6 .any ((OpenSpec.ofChange Rows.civilNextSpec).preRow enc Tryd.prog Tryd.f6 Rows.civilNextRow.domain false Rows.civilNextRow.laid) (((OpenSpec.ofChange Rows.civilNextSpec).at F).post enc Tryd.prog Tryd.f6 false true false false) := by
  obtain ⟨places, hx⟩ := reads os enc
  refine returnsInHanded_of_row (C := Tryd.checked) (s := OpenSpec.ofChange Rows.civilNextSpec) own started (by kernel_rfl) Tryd.func6
    (witness_row_at (enc := enc) (C := Tryd.checked) false (laidWorld os) #[.int .i64 0] rfl (by kernel_rfl) (by kernel_rfl) (by kernel_rfl)
      (OpenSpec.preRow_of_cond 8 hx (by kernel_rfl) (fun k hk => by cases hk) (by kernel_rfl) (laid_met os))) ?_
  intro W base args ds gs before hval hW _ _ _ hL _ _
  exact contract H enc W base args ds gs before hval hW hL

theorem said : Rows.CivilNextSaid :=
  OpenClaim.holds_of_cond 6 Tryd.f6 rfl rfl rfl rfl rfl rfl rfl ⟨rfl, rfl, rfl, rfl, rfl⟩ rfl rfl rfl rfl rfl (by kernel_rfl) Tryd.func6 (by kernel_rfl)
    (of_decide_eq_true (by kernel_rfl)) (by unfold Func.isWrapper; first | (rw [if_pos (by decide +kernel)]; kernel_rfl) | (rw [if_neg (by decide +kernel)]; exact ⟨rfl, rfl⟩))
    (fun os started H enc _ F => by rw [OpenClaim.pre_eq_preRow]; exact lifted os started H enc F)

theorem plain (f : FuncId) (fn : Func) (hf : Tryd.pinned.checked.prog.funcNamed "falsework/falseworklaw03.CivilNext" = some f) (hfn : Tryd.pinned.checked.prog.funcs[f]? = some fn) :
    true = Tryd.pinned.checked.prog.looks [] ∧ ∀ (j : Nat) t, fn.params[j]? = some t → Tryd.pinned.checked.prog.wantsStandIn t = false := by
  obtain rfl : f = 6 := Option.some.inj ((show Tryd.prog.funcNamed "falsework/falseworklaw03.CivilNext" = some 6 by kernel_rfl).symm.trans hf) |>.symm
  obtain rfl : fn = Tryd.f6 := (Option.some.inj (Tryd.func6.symm.trans hfn)).symm
  refine ⟨by kernel_rfl, fun j t ht => ?_⟩
  rw [Tryd.params6] at ht
  have hm : t = 2 := by simpa using Array.mem_of_getElem? ht
  subst hm
  exact (show Tryd.prog.wantsStandIn 2 = false by kernel_rfl)

/-- ████ THE CARD ████ -/
theorem proved : Rows.CivilNextCardSaid :=
  Claim7.holds_tied_plain_at .later [] _ _ _ _ said (fun _ h => by cases h) (by kernel_rfl) (fun _ h => by cases h) civilNext_row_tie rfl ⟨rfl, rfl⟩ (by kernel_rfl) rfl plain (by kernel_rfl)
#print axioms proved
end Go.Proofs.YtnjjkehoabghhaaDoor.civilNext
