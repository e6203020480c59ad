/-
  CalendarTwelve: for every input the call returns true.
-/
import Derived.Test.YtehkaiildchmfaaCalJ
import Derived.Test.YtehkaiildchmfaaCalTwA
import Derived.Test.YtehkaiildchmfaaCalTwB
import Derived.Test.YtehkaiildchmfaaCalTwC
namespace Go.Proofs.Ytehkaiildchmfaa.calendarTwelve
open Go.ChangeShapes Go.WideShapes Go.ChangeAt Go.RowKit
set_option linter.unusedVariables false

theorem own : ownKnob Try.prog.godebug = none := by kernel_rfl

theorem tw_idx {y m n : Int} : moY y m n * 12 + moM y m n - 1 = y * 12 + m - 1 + n := by unfold moY moM; omega
theorem tw_mm {y m n : Int} : 1 ≤ moM y m n ∧ moM y m n ≤ 12 := by unfold moM; omega
theorem tw_eq {y m d n k : Int} (h3 : 1 ≤ m) (h4 : m ≤ 12) (h : d = lenI y m ∨ d < 28) :
    moY (moY y m n) (moM y m n) k = moY y m (n + k) ∧ moM (moY y m n) (moM y m n) k = moM y m (n + k) ∧ moD (moY y m n) (moM y m n) (moD y m d n) k = moD y m d (n + k) := by
  have hi := tw_idx (y := y) (m := m) (n := n)
  have e1 : moY (moY y m n) (moM y m n) k = moY y m (n + k) := by
    show (moY y m n * 12 + moM y m n - 1 + k) / 12 = (y * 12 + m - 1 + (n + k)) / 12
    rw [hi, Int.add_assoc]
  have e2 : moM (moY y m n) (moM y m n) k = moM y m (n + k) := by
    show (moY y m n * 12 + moM y m n - 1 + k) % 12 + 1 = (y * 12 + m - 1 + (n + k)) % 12 + 1
    rw [hi, Int.add_assoc]
  refine ⟨e1, e2, ?_⟩
  have eL : moL (moY y m n) (moM y m n) k = moL y m (n + k) := by unfold moL; rw [e1, e2]
  have b0 := (len_bd y m h3 h4).1
  have b1 := (len_bd (moY y m n) (moM y m n) tw_mm.1 tw_mm.2).1
  have b2 := (len_bd (moY y m (n + k)) (moM y m (n + k)) tw_mm.1 tw_mm.2).1
  have eD : ∀ d', moD (moY y m n) (moM y m n) d' k = if d' = lenI (moY y m n) (moM y m n) then moL y m (n + k) else if d' ≤ moL y m (n + k) then d' else moL y m (n + k) := fun d' => by unfold moD; rw [eL]
  rw [eD]
  rcases h with h | h
  · have eA : moD y m d n = lenI (moY y m n) (moM y m n) := by unfold moD; rw [if_pos h]; rfl
    have eB : moD y m d (n + k) = moL y m (n + k) := by unfold moD; rw [if_pos h]
    rw [eA, eB, if_pos rfl]
  · have hne : d ≠ lenI y m := by omega
    have eA : moD y m d n = d := by
      unfold moD
      rw [if_neg hne, if_pos (by unfold moL; omega)]
    have hne' : d ≠ lenI (moY y m n) (moM y m n) := by omega
    rw [eA, if_neg hne']
    unfold moD
    rw [if_neg hne]
theorem tw_day {y m d n : Int} (h3 : 1 ≤ m) (h4 : m ≤ 12) (h : d < 28) : moD y m d n = d := by
  have b0 := (len_bd y m h3 h4).1
  have b1 := (len_bd (moY y m n) (moM y m n) tw_mm.1 tw_mm.2).1
  unfold moD
  rw [if_neg (by omega), if_pos (by unfold moL; omega)]
theorem ok_vals {y m d n : Int} (o : moOk y m d n = true) : mrY y m d n = moY y m n ∧ mrM y m d n = moM y m n ∧ mrD y m d n = moD y m d n ∧ mrE y m d n = 0 ∧ rightB (moY y m n) (moM y m n) (moD y m d n) = true := by
  unfold mrY mrM mrD mrE
  rw [o]
  refine ⟨rfl, rfl, rfl, rfl, ?_⟩
  unfold moOk moB at o
  simp only [Bool.and_eq_true] at o
  exact o.2.2.2
theorem no_val {y m d n : Int} (o : moOk y m d n = false) : mrE y m d n = 31 := by
  unfold mrE
  rw [o]
  rfl
theorem m_ok {y m d n : Int} (o : moOk y m d n = true) (W : World) : Calls Try.prog 11 #[.agg #[.int .i64 y, .int .i64 m, .int .i64 d], .int .i64 n] W fun e w' => e = .returned (.tuple #[.agg #[.int .i64 (moY y m n), .int .i64 (moM y m n), .int .i64 (moD y m d n)], .int .i64 0]) ∧ Below W.heap.size W w' := by
  have h := months_calls y m d n W
  obtain ⟨a, b, c, e, _⟩ := ok_vals o
  rw [a, b, c, e] at h
  exact h
theorem m_no {y m d n : Int} (o : moOk y m d n = false) (W : World) : Calls Try.prog 11 #[.agg #[.int .i64 y, .int .i64 m, .int .i64 d], .int .i64 n] W fun e w' => e = .returned (.tuple #[.agg #[.int .i64 (mrY y m d n), .int .i64 (mrM y m d n), .int .i64 (mrD y m d n)], .int .i64 31]) ∧ Below W.heap.size W w' := by
  have h := months_calls y m d n W
  rw [no_val o] at h
  exact h
theorem th_ok {y m d y' m' d' : Int} (h : rightB y m d = true) (h' : rightB y' m' d' = true) (W : World) : Calls Try.prog 15 #[.agg #[.int .i64 y, .int .i64 m, .int .i64 d], .agg #[.int .i64 y', .int .i64 m', .int .i64 d']] W fun e w' => e = .returned (.tuple #[.int .i64 (360 * (y' - y) + 30 * (m' - m) + thB d d' - thA d), .int .i64 0]) ∧ Below W.heap.size W w' := by
  have h0 := thirty_calls y m d y' m' d' W
  unfold thV thE at h0
  rw [h, h'] at h0
  exact h0

theorem walk (y m d n k : Int) (w : World) : Calls Try.prog 4 #[.agg #[.int .i64 y, .int .i64 m, .int .i64 d], .int .i64 n, .int .i64 k] w fun e w' => e = .returned (.bool true) ∧ Below w.heap.size w w' := by
  cases q1 : decide (n < -2000)
  case true => exact out1 y m d n k q1 w
  cases q2 : decide (2000 < n)
  case true => exact out2 y m d n k q1 q2 w
  cases q3 : decide (k < -2000)
  case true => exact out3 y m d n k q1 q2 q3 w
  cases q4 : decide (2000 < k)
  case true => exact out4 y m d n k q1 q2 q3 q4 w
  cases q5 : rightB y m d
  case false => exact out5 y m d n k q1 q2 q3 q4 q5 w
  have hn0 : -2000 ≤ n := by have := of_decide_eq_false q1; omega
  have hn1 : n ≤ 2000 := by have := of_decide_eq_false q2; omega
  have hk0 : -2000 ≤ k := by have := of_decide_eq_false q3; omega
  have hk1 : k ≤ 2000 := by have := of_decide_eq_false q4; omega
  obtain ⟨r1, r2, r3, r4, r5, r6⟩ := (right_iff y m d).1 q5
  have b0 := (len_bd y m r3 r4).1
  have hl := fun W => hide (rlength_calls y m W)
  cases q6 : decide (28 < d)
  · cases o1 : moOk y m d n
    · exact in1_err1 y m d n k (lenI y m) _ _ _ _ _ _ _ _ _ 0 _ _ 0 hn0 hn1 hk0 hk1 q1 q2 q3 q4 q5 q6 w hl (fun W => hide (m_no o1 W)) (fun W => hide (months_calls _ _ _ _ W)) (fun W => hide (months_calls _ _ _ _ W))
    cases o2 : moOk (moY y m n) (moM y m n) (moD y m d n) k
    · exact in1_err2 y m d n k (lenI y m) _ _ _ _ _ _ _ _ _ 0 0 _ 0 hn0 hn1 hk0 hk1 q1 q2 q3 q4 q5 q6 w hl (fun W => hide (m_ok o1 W)) (fun W => hide (m_no o2 W)) (fun W => hide (months_calls _ _ _ _ W))
    cases o3 : moOk y m d (n + k)
    · exact in1_err3 y m d n k (lenI y m) _ _ _ _ _ _ _ _ _ 0 0 0 0 hn0 hn1 hk0 hk1 q1 q2 q3 q4 q5 q6 w hl (fun W => hide (m_ok o1 W)) (fun W => hide (m_ok o2 W)) (fun W => hide (m_no o3 W))
    have hR := (ok_vals o1).2.2.2.2
    have h6 := of_decide_eq_false q6
    cases q7 : (d == lenI y m)
    · have h7 := beq_eq_false_iff_ne.1 q7
      cases q8 : decide (d < 28)
      · exact in1_ge y m d n k (lenI y m) _ _ _ _ _ _ _ _ _ 0 0 0 _ hn0 hn1 hk0 hk1 q1 q2 q3 q4 q5 q6 q7 q8 (decide_eq_true (by have := of_decide_eq_false q8; omega)) w hl (fun W => hide (m_ok o1 W)) (fun W => hide (m_ok o2 W)) (fun W => hide (m_ok o3 W)) (fun W => hide (th_ok q5 hR W))
      · have h8 := of_decide_eq_true q8
        obtain ⟨eY, eM, eD⟩ := tw_eq (n := n) (k := k) r3 r4 (Or.inr h8)
        refine in1_lt y m d n k (lenI y m) _ _ _ 0 0 0 _ _ _ 0 0 0 0 hn0 hn1 hk0 hk1 q1 q2 q3 q4 q5 q6 q7 q8 (decide_eq_false (by omega)) w hl (fun W => hide (m_ok o1 W)) (fun W => hide ?_) (fun W => hide (m_ok o3 W)) (fun W => hide ?_)
        · have h := m_ok o2 W
          rw [eY, eM, eD] at h
          exact h
        · have h := th_ok q5 hR W
          have eT : 360 * (moY y m n - y) + 30 * (moM y m n - m) + thB d (moD y m d n) - thA d = 30 * n := by
            rw [tw_day r3 r4 h8]
            unfold thB thA
            rw [if_pos (by omega), if_pos (by omega)]
            have hi := tw_idx (y := y) (m := m) (n := n)
            omega
          rw [eT] at h
          exact h
    · have h7 := beq_iff_eq.1 q7
      obtain ⟨eY, eM, eD⟩ := tw_eq (n := n) (k := k) r3 r4 (Or.inl h7)
      refine in1_end y m d n k (lenI y m) _ _ _ 0 0 0 _ _ _ 0 0 0 _ hn0 hn1 hk0 hk1 q1 q2 q3 q4 q5 q6 q7 (decide_eq_true (by omega)) w hl (fun W => hide (m_ok o1 W)) (fun W => hide ?_) (fun W => hide (m_ok o3 W)) (fun W => hide (th_ok q5 hR W))
      have h := m_ok o2 W
      rw [eY, eM, eD] at h
      exact h
  · cases q7 : (d == lenI y m)
    · exact out6 y m d n k q1 q2 q3 q4 q5 q6 q7 w
    cases o1 : moOk y m d n
    · exact in2_err1 y m d n k (lenI y m) _ _ _ _ _ _ _ _ _ 0 _ _ 0 hn0 hn1 hk0 hk1 q1 q2 q3 q4 q5 q6 q7 w hl (fun W => hide (m_no o1 W)) (fun W => hide (months_calls _ _ _ _ W)) (fun W => hide (months_calls _ _ _ _ W))
    cases o2 : moOk (moY y m n) (moM y m n) (moD y m d n) k
    · exact in2_err2 y m d n k (lenI y m) _ _ _ _ _ _ _ _ _ 0 0 _ 0 hn0 hn1 hk0 hk1 q1 q2 q3 q4 q5 q6 q7 w hl (fun W => hide (m_ok o1 W)) (fun W => hide (m_no o2 W)) (fun W => hide (months_calls _ _ _ _ W))
    cases o3 : moOk y m d (n + k)
    · exact in2_err3 y m d n k (lenI y m) _ _ _ _ _ _ _ _ _ 0 0 0 0 hn0 hn1 hk0 hk1 q1 q2 q3 q4 q5 q6 q7 w hl (fun W => hide (m_ok o1 W)) (fun W => hide (m_ok o2 W)) (fun W => hide (m_no o3 W))
    have hR := (ok_vals o1).2.2.2.2
    have h6 := of_decide_eq_true q6
    have h7 := beq_iff_eq.1 q7
    obtain ⟨eY, eM, eD⟩ := tw_eq (n := n) (k := k) r3 r4 (Or.inl h7)
    refine in2_end y m d n k (lenI y m) _ _ _ 0 0 0 _ _ _ 0 0 0 _ hn0 hn1 hk0 hk1 q1 q2 q3 q4 q5 q6 q7 (decide_eq_true (by omega)) w hl (fun W => hide (m_ok o1 W)) (fun W => hide ?_) (fun W => hide (m_ok o3 W)) (fun W => hide (th_ok q5 hR W))
    have h := m_ok o2 W
    rw [eY, eM, eD] at h
    exact h


set_option maxRecDepth 100000 in
theorem lifted (os : Os) (started : os.Started) (H : Type) (enc : TypeId × Value → H) :
    ReturnsInHanded {} Try.checked os 4 .any (Rows.calendarTwelveSpec.pre6 enc Try.prog Try.f4 Rows.calendarTwelveRow.domain false) (Rows.calendarTwelveSpec.post enc Try.prog Try.f4 false true false false) := by
  refine returnsInHanded_of_change (C := Try.checked) own started (by kernel_rfl) Try.func4
    (ChangeSpec.witness6 (enc := enc) (C := Try.checked) false ⟨#[], #[.agg #[.int .i64 0, .int .i64 0, .int .i64 0], .int .i64 0, .int .i64 0], []⟩ 8 (by kernel_rfl) (by kernel_rfl) (by kernel_rfl) (by kernel_rfl)) ?_
  intro W base args ds gs before hval0 hW hcnd _
  have hval : ∀ (j : Nat) t v, Try.f4.params[j]? = some t → args[j]? = some v → Value.okWide Try.prog W .any base t v := hval0
  have hW' := hW
  obtain ⟨p, q, hA0, hV, rfl, hfz, hnd⟩ := hW
  have hA : DataW.TrodAll enc Try.prog W 0 (fun _ => true) true Try.f4.params.toList args.toList ds p := hA0
  rw [Try.params4] at hA hval
  obtain ⟨v0, vs0, d0, ds0, p0, q0, hargs, rfl, rfl, h0, r0⟩ := trodAll_cons hA
  obtain ⟨v1, vs1, d1, ds1, p1, q1, rfl, rfl, rfl, h1, r1⟩ := trodAll_cons r0
  obtain ⟨v2, vs2, d2, ds2, p2, q2, rfl, rfl, rfl, h2, r2⟩ := trodAll_cons r1
  obtain ⟨rfl, rfl, rfl⟩ := trodAll_nil r2
  obtain rfl : args = #[v0, v1, v2] := by cases args; simp_all
  obtain ⟨rfl, rfl⟩ := trodVars_none hV
  obtain ⟨uy, um, ud, rfl, rfl, rfl, hwu⟩ := open_date (hval 0 23 v0 rfl rfl) h0
  obtain ⟨n, rfl, rfl, rfl, wf1⟩ := open_int Try.underlying3 (hval 1 3 v1 rfl rfl) h1
  obtain ⟨k, rfl, rfl, rfl, wf2⟩ := open_int Try.underlying3 (hval 2 3 v2 rfl rfl) h2
  clear hA0 hval0
  simp only [List.append_nil] at hW'
  refine (walk uy um ud n k W).mono fun e W' ⟨he, bel⟩ => ?_
  subst he
  exact ⟨_, rfl, _, _, _, [], [], [], hW', trodAll_mk1 (shut_bool Try.underlying4 _), (trodAll_cons_mk (shut_date hwu) (trodAll_cons_mk (shut_int Try.underlying3 wf1) (trodAll_cons_mk (shut_int Try.underlying3 wf2) trodAll_mk0))), rfl, bel.frame _, fun h => by cases h⟩

theorem over : Rows.calendarTwelveRow.holds Try.pinned (OpenSpec.ofChange Rows.calendarTwelveSpec) :=
  OpenClaim.holds_of_wide 4 Try.f4 rfl rfl rfl rfl rfl rfl rfl ⟨rfl, rfl, rfl, rfl, rfl⟩ rfl rfl rfl rfl rfl (by kernel_rfl) Try.func4 (by kernel_rfl)
    (of_decide_eq_true (by kernel_rfl)) (by unfold Func.isWrapper; first | (rw [if_pos (by decide +kernel)]; kernel_rfl) | (rw [if_neg (by decide +kernel)]; exact ⟨rfl, rfl⟩))
    (fun os started H enc _ => lifted os started H enc)

/-- ████ THE STATEMENT ████ -/
theorem proved : Rows.CalendarTwelveSaid :=
  over
#print axioms proved
end Go.Proofs.Ytehkaiildchmfaa.calendarTwelve
