/- The plain law of the near business days; the walk of Near's law. -/
import Derived.Test.YtehkaiildchmfaaCalP
import Derived.Test.YtehkaiildchmfaaCalQ
namespace Go.Proofs.Ytehkaiildchmfaa.calendarNear
open Go.RowKit
open calendarBetween (i64_of new_rd wf_get)
set_option linter.unusedVariables false

def sumB (f : Int → Int) (m : Int) : Nat → Int
  | 0 => 0
  | k + 1 => sumB f m k + f (m + k)
theorem sumB_le (f g : Int → Int) (m : Int) : ∀ k : Nat, (∀ i : Nat, i < k → f (m + i) ≤ g (m + i)) → sumB f m k ≤ sumB g m k
  | 0, _ => Int.le_refl _
  | k + 1, h => by
    have h1 := sumB_le f g m k (fun i hi => h i (by omega))
    have h2 := h k (by omega)
    simp only [sumB]
    omega
theorem sumB_add (f g : Int → Int) (m : Int) : ∀ k : Nat, sumB (fun x => f x + g x) m k = sumB f m k + sumB g m k
  | 0 => rfl
  | k + 1 => by
    simp only [sumB]
    rw [sumB_add f g m k]
    omega
theorem sumB_one (z m : Int) : ∀ k : Nat, sumB (fun x => if z = x then 1 else 0) m k = if m ≤ z ∧ z < m + k then 1 else 0
  | 0 => by
    simp only [sumB]
    rw [if_neg (by omega)]
  | k + 1 => by
    simp only [sumB]
    rw [sumB_one z m k]
    split <;> split <;> split <;> omega
theorem sumB_nil (m : Int) : ∀ k : Nat, sumB (fun x => cnt [] x) m k = 0
  | 0 => rfl
  | k + 1 => by
    simp only [sumB]
    rw [sumB_nil m k]
    rfl
theorem sumB_cnt (m : Int) (k : Nat) : ∀ zs : List Int, sumB (fun x => cnt zs x) m k ≤ zs.length
  | [] => by rw [sumB_nil]; simp
  | z :: zs => by
    have h1 := sumB_cnt m k zs
    have h2 := sumB_add (fun x => if z = x then 1 else 0) (fun x => cnt zs x) m k
    have h3 := sumB_one z m k
    have h4 : sumB (fun x => cnt (z :: zs) x) m k = sumB (fun x => (if z = x then 1 else 0) + cnt zs x) m k := rfl
    rw [h4, h2, h3]
    simp only [List.length_cons]
    split <;> omega
def wd (x : Int) : Int := if x % 7 < 5 then 1 else 0
def sumW (r : Nat) : Nat → Nat
  | 0 => 0
  | k + 1 => sumW r k + (if (r + k) % 7 < 5 then 1 else 0)
theorem sumW_eq (m : Int) (r : Nat) (h : m % 7 = r) : ∀ k : Nat, sumB wd m k = sumW r k
  | 0 => rfl
  | k + 1 => by
    simp only [sumB, sumW]
    rw [sumW_eq m r h k]
    unfold wd
    by_cases hk : (r + k) % 7 < 5
    · rw [if_pos hk, if_pos (by omega)]
      omega
    · rw [if_neg hk, if_neg (by omega)]
      omega
theorem sumW_22 : ∀ r : Nat, r < 7 → 22 ≤ sumW r 32 := by decide
theorem many_wd (m : Int) : 22 ≤ sumB wd m 32 := by
  have h0 : 0 ≤ m % 7 := by omega
  have h1 : m % 7 < 7 := by omega
  rw [sumW_eq m (m % 7).toNat (by omega) 32]
  have := sumW_22 (m % 7).toNat (by omega)
  omega
theorem pigeon (zs : List Int) (m : Int) (h : ∀ i : Nat, i < 32 → busB zs (m + i) = false) : 22 ≤ zs.length := by
  have h1 := many_wd m
  have h2 := sumB_le wd (fun x => cnt zs x) m 32 (fun i hi => by
    have hb := h i hi
    have hc := cnt_bd zs (m + i)
    unfold wd
    split
    · rename_i hlt
      by_cases hm : (m + (i : Int)) ∈ zs
      · have hne : cnt zs (m + (i : Int)) ≠ 0 := fun h0 => (cnt_zero zs (m + i)).1 h0 hm
        have h9 := hc.1
        clear hc hb h h1
        show (1 : Int) ≤ cnt zs (m + (i : Int))
        generalize cnt zs (m + (i : Int)) = c at *
        omega
      · rw [bus_out hm, decide_eq_true hlt] at hb
        cases hb
    · exact hc.1)
  have h3 := sumB_cnt m 32 zs
  omega
theorem in_mid {x : Int} (h0 : 0 ≤ x) (h1 : x ≤ 146096) : inB x = true := (inB_iff x).2 ⟨h0, h1⟩
theorem err_many {zs : List Int} {n st : Int} (h0 : 100 ≤ n) (h1 : n ≤ 140000) (hst : st = 1 ∨ st = -1) (h : seekE zs n st = 41) : 22 ≤ zs.length := by
  have hi : inB n = true := in_mid (by omega) (by omega)
  unfold seekE at h
  rw [if_pos hi] at h
  cases hr : seekR zs st 32 n with
  | some r =>
    rw [hr] at h
    have h' : (0 : Int) = 41 := h
    omega
  | none =>
    have ha := seekR_none zs st 32 n hr
    rcases hst with rfl | rfl
    · refine pigeon zs n (fun i hi => ?_)
      have := ha i hi
      have e : n + (i : Int) * 1 = n + i := by omega
      rw [e, in_mid (by omega) (by omega), Bool.and_true] at this
      exact this
    · refine pigeon zs (n - 31) (fun i hi => ?_)
      have := ha (31 - i) (by omega)
      have e : n + ((31 - i : Nat) : Int) * (-1) = n - 31 + i := by omega
      rw [e, in_mid (by omega) (by omega), Bool.and_true] at this
      exact this
theorem seek_here {zs : List Int} {n st : Int} (hi : inB n = true) (hb : busB zs n = true) : seekV zs n st = n ∧ seekE zs n st = 0 := by
  have hr : seekR zs st 32 n = some n := by
    rw [seekR, hb, hi]
    rfl
  unfold seekV seekE
  rw [hi, hr]
  exact ⟨rfl, rfl⟩
theorem mod_here {zs : List Int} {n : Int} (hi : inB n = true) (hb : busB zs n = true) : modV zs n = n ∧ modE zs n = 0 := by
  obtain ⟨h1, h2⟩ := seek_here (st := 1) hi hb
  unfold modV modE modB
  rw [hi, h1, h2]
  simp
theorem bet_one {zs : List Int} {n : Int} (hb : busB zs n = true) : betV zs n (n + 1) = 1 := by
  unfold betV
  rw [if_neg (by omega), show (n + 1 - n).toNat = 1 by omega]
  simp [bcnt, hb]
theorem bcnt_none (zs : List Int) (f : Int) : ∀ k : Nat, (∀ i : Nat, i < k → busB zs (f + i) = false) → bcnt zs f k = 0
  | 0, _ => rfl
  | k + 1, h => by
    simp only [bcnt]
    rw [bcnt_none zs f k (fun i hi => h i (by omega)), h k (by omega)]
    rfl
theorem near_not {zs : List Int} {n : Int} (h0 : 100 ≤ n) (h1 : n ≤ 140000) (hb : busB zs n = false) (e1 : seekE zs n 1 = 0) (e2 : seekE zs n (-1) = 0) :
    (n < seekV zs n 1 ∧ seekV zs n 1 ≤ 146096) ∧ (seekV zs n (-1) < n ∧ 0 ≤ seekV zs n (-1)) ∧ busB zs (seekV zs n 1) = true ∧ busB zs (seekV zs n (-1)) = true ∧ betV zs (seekV zs n (-1) + 1) (seekV zs n 1) = 0 ∧
    modE zs n = 0 ∧ (modV zs n = seekV zs n 1 ∨ modV zs n = seekV zs n (-1)) := by
  obtain ⟨hi, a, ha, va⟩ := seek_found e1
  obtain ⟨_, b, hbb, vb⟩ := seek_found e2
  obtain ⟨j, hj, ea, ba, ia, na⟩ := seekR_some _ _ _ _ _ ha
  obtain ⟨j', hj', eb, bb, ib, nb⟩ := seekR_some _ _ _ _ _ hbb
  obtain ⟨a0, a1⟩ := (inB_iff a).1 ia
  obtain ⟨b0, b1⟩ := (inB_iff b).1 ib
  have hjp : 0 < j := by
    rcases Nat.eq_zero_or_pos j with h | h
    · subst h
      have : a = n := by omega
      rw [this, hb] at ba
      cases ba
    · exact h
  have hjp' : 0 < j' := by
    rcases Nat.eq_zero_or_pos j' with h | h
    · subst h
      have : b = n := by omega
      rw [this, hb] at bb
      cases bb
    · exact h
  have hE : modE zs n = 0 := by
    unfold modE
    rw [if_pos hi, e2]
    split <;> rfl
  have hV : modV zs n = a ∨ modV zs n = b := by
    unfold modV
    rw [if_pos hi, va, vb]
    split
    · exact Or.inl rfl
    · exact Or.inr rfl
  rw [va, vb]
  refine ⟨⟨by omega, a1⟩, ⟨by omega, b0⟩, ba, bb, ?_, hE, hV⟩
  unfold betV
  split
  · rfl
  · refine bcnt_none _ _ _ (fun i hik => ?_)
    generalize hx : b + 1 + (i : Int) = x
    have hx1 : b < x := by omega
    have hx2 : x < a := by omega
    by_cases hxn : n ≤ x
    · have := na (x - n).toNat (by omega)
      have e : n + ((x - n).toNat : Int) * 1 = x := by omega
      rw [e, in_mid (by omega) (by omega), Bool.and_true] at this
      exact this
    · have := nb (n - x).toNat (by omega)
      have e : n + ((n - x).toNat : Int) * (-1) = x := by omega
      rw [e, in_mid (by omega) (by omega), Bool.and_true] at this
      exact this

set_option maxHeartbeats 4000000 in
theorem walk_far1 (A : Option Addr) (len cap : Nat) (zs : List Int) (n : Int) (w : World) (hR : Rd w A len zs) (hw : ∀ z ∈ zs, (Lit.int .i64 z).wf = true) (hl : decide (100 < (len : Int)) = true) : Calls Try.prog 9 #[.slice A len cap, .int .i64 n] w fun e w' => e = .returned (.bool true) ∧ Below w.heap.size w w' := by
  have hal := fun W => hide (alive_calls W)
  go_enter Try.func9, Try.ntmps9
  go_wp2_with fail
  refine (unhide (hal _)).mono ?_
  rintro e w1 ⟨rfl, hb1⟩
  go_wp2
  go_ret
  exact ⟨rfl, hb1⟩

set_option maxHeartbeats 4000000 in
theorem walk_far2 (A : Option Addr) (len cap : Nat) (zs : List Int) (n : Int) (w : World) (hR : Rd w A len zs) (hw : ∀ z ∈ zs, (Lit.int .i64 z).wf = true) (hl : decide (100 < (len : Int)) = false) (q1 : decide (n < 100) = true) : Calls Try.prog 9 #[.slice A len cap, .int .i64 n] w fun e w' => e = .returned (.bool true) ∧ Below w.heap.size w w' := by
  have hal := fun W => hide (alive_calls W)
  go_enter Try.func9, Try.ntmps9
  go_wp2_with fail
  refine (unhide (hal _)).mono ?_
  rintro e w1 ⟨rfl, hb1⟩
  go_wp2
  go_ret
  exact ⟨rfl, hb1⟩

set_option maxHeartbeats 4000000 in
theorem walk_far3 (A : Option Addr) (len cap : Nat) (zs : List Int) (n : Int) (w : World) (hR : Rd w A len zs) (hw : ∀ z ∈ zs, (Lit.int .i64 z).wf = true) (hl : decide (100 < (len : Int)) = false) (q1 : decide (n < 100) = false) (q2 : decide (140000 < n) = true) : Calls Try.prog 9 #[.slice A len cap, .int .i64 n] w fun e w' => e = .returned (.bool true) ∧ Below w.heap.size w w' := by
  have hal := fun W => hide (alive_calls W)
  go_enter Try.func9, Try.ntmps9
  go_wp2_with fail
  refine (unhide (hal _)).mono ?_
  rintro e w1 ⟨rfl, hb1⟩
  go_wp2
  go_ret
  exact ⟨rfl, hb1⟩

set_option maxHeartbeats 4000000 in
theorem walk_err1 (A : Option Addr) (len cap : Nat) (zs : List Int) (n : Int) (w : World) (hR : Rd w A len zs) (hw : ∀ z ∈ zs, (Lit.int .i64 z).wf = true) (hl : decide (100 < (len : Int)) = false) (q1 : decide (n < 100) = false) (q2 : decide (140000 < n) = false) (e1 : seekE zs n 1 = 41) (h20 : decide (20 < (len : Int)) = true) : Calls Try.prog 9 #[.slice A len cap, .int .i64 n] w fun e w' => e = .returned (.bool true) ∧ Below w.heap.size w w' := by
  have hal := fun W => hide (alive_calls W)
  have hnew := fun W h => hide (new_rd A len cap zs W h (by have := of_decide_eq_false hl; omega) hw)
  have c1 := fun g W h => hide (roll_calls g zs n W h)
  have c2 := fun g W h => hide (back_calls g zs n W h)
  have c3 := fun g W h => hide (modified_calls g zs n W h)
  rw [e1] at c1
  generalize seekV zs n 1 = r1 at *
  generalize seekE zs n 1 = r2 at *
  generalize seekV zs n (-1) = r3 at *
  generalize seekE zs n (-1) = r4 at *
  generalize modV zs n = r5 at *
  generalize modE zs n = r6 at *
  go_enter Try.func9, Try.ntmps9
  go_wp2_with fail
  refine (unhide (hal _)).mono ?_
  rintro e w1 ⟨rfl, hb1⟩
  clear hal
  go_wp2_with fail
  refine (unhide (hnew _ (hR.on hb1))).mono ?_
  rintro e w2 ⟨rfl, hD, hb2⟩
  have hb3 := hb1.trans (hb2.mono hb1.size)
  clear hnew hb1 hb2 hR
  generalize w1.heap.size + 1 = g at *
  go_wp2_with fail
  refine (unhide (c1 _ _ hD)).mono ?_
  rintro e w3 ⟨rfl, x1⟩
  have hD1 := hD.on x1
  have hb4 := hb3.trans (x1.mono hb3.size)
  clear hD x1 c1 hb3
  go_wp2_with fail
  refine (unhide (c2 _ _ hD1)).mono ?_
  rintro e w4 ⟨rfl, x2⟩
  have hD2 := hD1.on x2
  have hb5 := hb4.trans (x2.mono hb4.size)
  clear hD1 x2 c2 hb4
  go_wp2_with fail
  refine (unhide (c3 _ _ hD2)).mono ?_
  rintro e w5 ⟨rfl, x3⟩
  have hD3 := hD2.on x3
  have hb6 := hb5.trans (x3.mono hb5.size)
  clear hD2 x3 c3 hb5
  go_wp2
  go_ret
  exact ⟨rfl, hb6⟩

set_option maxHeartbeats 4000000 in
theorem walk_err2 (A : Option Addr) (len cap : Nat) (zs : List Int) (n : Int) (w : World) (hR : Rd w A len zs) (hw : ∀ z ∈ zs, (Lit.int .i64 z).wf = true) (hl : decide (100 < (len : Int)) = false) (q1 : decide (n < 100) = false) (q2 : decide (140000 < n) = false) (e1 : seekE zs n 1 = 0) (e2 : seekE zs n (-1) = 41) (h20 : decide (20 < (len : Int)) = true) : Calls Try.prog 9 #[.slice A len cap, .int .i64 n] w fun e w' => e = .returned (.bool true) ∧ Below w.heap.size w w' := by
  have hal := fun W => hide (alive_calls W)
  have hnew := fun W h => hide (new_rd A len cap zs W h (by have := of_decide_eq_false hl; omega) hw)
  have c1 := fun g W h => hide (roll_calls g zs n W h)
  have c2 := fun g W h => hide (back_calls g zs n W h)
  have c3 := fun g W h => hide (modified_calls g zs n W h)
  rw [e1] at c1
  rw [e2] at c2
  generalize seekV zs n 1 = r1 at *
  generalize seekE zs n 1 = r2 at *
  generalize seekV zs n (-1) = r3 at *
  generalize seekE zs n (-1) = r4 at *
  generalize modV zs n = r5 at *
  generalize modE zs n = r6 at *
  go_enter Try.func9, Try.ntmps9
  go_wp2_with fail
  refine (unhide (hal _)).mono ?_
  rintro e w1 ⟨rfl, hb1⟩
  clear hal
  go_wp2_with fail
  refine (unhide (hnew _ (hR.on hb1))).mono ?_
  rintro e w2 ⟨rfl, hD, hb2⟩
  have hb3 := hb1.trans (hb2.mono hb1.size)
  clear hnew hb1 hb2 hR
  generalize w1.heap.size + 1 = g at *
  go_wp2_with fail
  refine (unhide (c1 _ _ hD)).mono ?_
  rintro e w3 ⟨rfl, x1⟩
  have hD1 := hD.on x1
  have hb4 := hb3.trans (x1.mono hb3.size)
  clear hD x1 c1 hb3
  go_wp2_with fail
  refine (unhide (c2 _ _ hD1)).mono ?_
  rintro e w4 ⟨rfl, x2⟩
  have hD2 := hD1.on x2
  have hb5 := hb4.trans (x2.mono hb4.size)
  clear hD1 x2 c2 hb4
  go_wp2_with fail
  refine (unhide (c3 _ _ hD2)).mono ?_
  rintro e w5 ⟨rfl, x3⟩
  have hD3 := hD2.on x3
  have hb6 := hb5.trans (x3.mono hb5.size)
  clear hD2 x3 c3 hb5
  go_wp2
  go_ret
  exact ⟨rfl, hb6⟩

set_option maxHeartbeats 4000000 in
theorem walk_bus (A : Option Addr) (len cap : Nat) (zs : List Int) (n : Int) (w : World) (hR : Rd w A len zs) (hw : ∀ z ∈ zs, (Lit.int .i64 z).wf = true) (hl : decide (100 < (len : Int)) = false) (q1 : decide (n < 100) = false) (q2 : decide (140000 < n) = false) (hb : busB zs n = true) : Calls Try.prog 9 #[.slice A len cap, .int .i64 n] w fun e w' => e = .returned (.bool true) ∧ Below w.heap.size w w' := by
  have n0 : 100 ≤ n := by have := of_decide_eq_false q1; omega
  have n1 : n ≤ 140000 := by have := of_decide_eq_false q2; omega
  have hi := in_mid (x := n) (by omega) (by omega)
  have c4 := fun g W h => hide (business_calls g zs n (by omega) W h)
  have c5 := fun g W h => hide (between_calls g zs n (n + 1) (by omega) (by omega) W h)
  have hal := fun W => hide (alive_calls W)
  have hnew := fun W h => hide (new_rd A len cap zs W h (by have := of_decide_eq_false hl; omega) hw)
  have c1 := fun g W h => hide (roll_calls g zs n W h)
  have c2 := fun g W h => hide (back_calls g zs n W h)
  have c3 := fun g W h => hide (modified_calls g zs n W h)
  rw [hb] at c4
  rw [bet_one hb] at c5
  rw [(seek_here (st := 1) hi hb).1, (seek_here (st := 1) hi hb).2] at c1
  rw [(seek_here (st := -1) hi hb).1, (seek_here (st := -1) hi hb).2] at c2
  rw [(mod_here hi hb).1, (mod_here hi hb).2] at c3
  clear hi hb
  go_enter Try.func9, Try.ntmps9
  go_wp2_with fail
  refine (unhide (hal _)).mono ?_
  rintro e w1 ⟨rfl, hb1⟩
  clear hal
  go_wp2_with fail
  refine (unhide (hnew _ (hR.on hb1))).mono ?_
  rintro e w2 ⟨rfl, hD, hb2⟩
  have hb3 := hb1.trans (hb2.mono hb1.size)
  clear hnew hb1 hb2 hR
  generalize w1.heap.size + 1 = g at *
  go_wp2_with fail
  refine (unhide (c1 _ _ hD)).mono ?_
  rintro e w3 ⟨rfl, x1⟩
  have hD1 := hD.on x1
  have hb4 := hb3.trans (x1.mono hb3.size)
  clear hD x1 c1 hb3
  go_wp2_with fail
  refine (unhide (c2 _ _ hD1)).mono ?_
  rintro e w4 ⟨rfl, x2⟩
  have hD2 := hD1.on x2
  have hb5 := hb4.trans (x2.mono hb4.size)
  clear hD1 x2 c2 hb4
  go_wp2_with fail
  refine (unhide (c3 _ _ hD2)).mono ?_
  rintro e w5 ⟨rfl, x3⟩
  have hD3 := hD2.on x3
  have hb6 := hb5.trans (x3.mono hb5.size)
  clear hD2 x3 c3 hb5
  go_wp2_with fail
  refine (unhide (c4 _ _ hD3)).mono ?_
  rintro e w6 ⟨rfl, rfl⟩
  go_wp2_with fail
  refine (unhide (c5 _ _ hD3)).mono ?_
  rintro e w7 ⟨rfl, rfl⟩
  go_wp2
  go_ret
  exact ⟨rfl, hb6⟩

set_option maxHeartbeats 4000000 in
theorem walk_nota (A : Option Addr) (len cap : Nat) (zs : List Int) (n : Int) (w : World) (hR : Rd w A len zs) (hw : ∀ z ∈ zs, (Lit.int .i64 z).wf = true) (hl : decide (100 < (len : Int)) = false) (q1 : decide (n < 100) = false) (q2 : decide (140000 < n) = false) (hb : busB zs n = false) (e1 : seekE zs n 1 = 0) (e2 : seekE zs n (-1) = 0) (hv : (modV zs n == seekV zs n 1) = true) : Calls Try.prog 9 #[.slice A len cap, .int .i64 n] w fun e w' => e = .returned (.bool true) ∧ Below w.heap.size w w' := by
  have n0 : 100 ≤ n := by have := of_decide_eq_false q1; omega
  have n1 : n ≤ 140000 := by have := of_decide_eq_false q2; omega
  obtain ⟨⟨p0, p1⟩, ⟨p2, p3⟩, p4, p5, p6, p7, _⟩ := near_not n0 n1 hb e1 e2
  have c4 := fun g W h => hide (business_calls g zs n (by omega) W h)
  have c5 := fun g W h => hide (business_calls g zs (seekV zs n 1) (by omega) W h)
  have c6 := fun g W h => hide (business_calls g zs (seekV zs n (-1)) (by omega) W h)
  have c7 := fun g W h => hide (between_calls g zs (seekV zs n (-1) + 1) (seekV zs n 1) (by omega) (by omega) W h)
  have hal := fun W => hide (alive_calls W)
  have hnew := fun W h => hide (new_rd A len cap zs W h (by have := of_decide_eq_false hl; omega) hw)
  have c1 := fun g W h => hide (roll_calls g zs n W h)
  have c2 := fun g W h => hide (back_calls g zs n W h)
  have c3 := fun g W h => hide (modified_calls g zs n W h)
  rw [hb] at c4
  rw [p4] at c5
  rw [p5] at c6
  rw [p6] at c7
  rw [e1] at c1
  rw [e2] at c2
  rw [p7] at c3
  clear hb p4 p5 p6 p7 e1 e2
  generalize seekV zs n 1 = a at *
  generalize seekV zs n (-1) = b at *
  generalize modV zs n = c at *
  have d1 : decide (n < a) = true := decide_eq_true p0
  have d2 : decide (b < n) = true := decide_eq_true p2
  go_enter Try.func9, Try.ntmps9
  go_wp2_with fail
  refine (unhide (hal _)).mono ?_
  rintro e w1 ⟨rfl, hb1⟩
  clear hal
  go_wp2_with fail
  refine (unhide (hnew _ (hR.on hb1))).mono ?_
  rintro e w2 ⟨rfl, hD, hb2⟩
  have hb3 := hb1.trans (hb2.mono hb1.size)
  clear hnew hb1 hb2 hR
  generalize w1.heap.size + 1 = g at *
  go_wp2_with fail
  refine (unhide (c1 _ _ hD)).mono ?_
  rintro e w3 ⟨rfl, x1⟩
  have hD1 := hD.on x1
  have hb4 := hb3.trans (x1.mono hb3.size)
  clear hD x1 c1 hb3
  go_wp2_with fail
  refine (unhide (c2 _ _ hD1)).mono ?_
  rintro e w4 ⟨rfl, x2⟩
  have hD2 := hD1.on x2
  have hb5 := hb4.trans (x2.mono hb4.size)
  clear hD1 x2 c2 hb4
  go_wp2_with fail
  refine (unhide (c3 _ _ hD2)).mono ?_
  rintro e w5 ⟨rfl, x3⟩
  have hD3 := hD2.on x3
  have hb6 := hb5.trans (x3.mono hb5.size)
  clear hD2 x3 c3 hb5
  go_wp2_with fail
  refine (unhide (c4 _ _ hD3)).mono ?_
  rintro e w6 ⟨rfl, rfl⟩
  go_wp2_with fail
  refine (unhide (c5 _ _ hD3)).mono ?_
  rintro e w7 ⟨rfl, rfl⟩
  go_wp2_with fail
  refine (unhide (c6 _ _ hD3)).mono ?_
  rintro e w8 ⟨rfl, rfl⟩
  go_wp2_with fail
  refine (unhide (c7 _ _ hD3)).mono ?_
  rintro e w9 ⟨rfl, rfl⟩
  go_wp2
  go_ret
  exact ⟨rfl, hb6⟩

set_option maxHeartbeats 4000000 in
theorem walk_notb (A : Option Addr) (len cap : Nat) (zs : List Int) (n : Int) (w : World) (hR : Rd w A len zs) (hw : ∀ z ∈ zs, (Lit.int .i64 z).wf = true) (hl : decide (100 < (len : Int)) = false) (q1 : decide (n < 100) = false) (q2 : decide (140000 < n) = false) (hb : busB zs n = false) (e1 : seekE zs n 1 = 0) (e2 : seekE zs n (-1) = 0) (hv : (modV zs n == seekV zs n 1) = false) (hv2 : (modV zs n == seekV zs n (-1)) = true) : Calls Try.prog 9 #[.slice A len cap, .int .i64 n] w fun e w' => e = .returned (.bool true) ∧ Below w.heap.size w w' := by
  have n0 : 100 ≤ n := by have := of_decide_eq_false q1; omega
  have n1 : n ≤ 140000 := by have := of_decide_eq_false q2; omega
  obtain ⟨⟨p0, p1⟩, ⟨p2, p3⟩, p4, p5, p6, p7, _⟩ := near_not n0 n1 hb e1 e2
  have c4 := fun g W h => hide (business_calls g zs n (by omega) W h)
  have c5 := fun g W h => hide (business_calls g zs (seekV zs n 1) (by omega) W h)
  have c6 := fun g W h => hide (business_calls g zs (seekV zs n (-1)) (by omega) W h)
  have c7 := fun g W h => hide (between_calls g zs (seekV zs n (-1) + 1) (seekV zs n 1) (by omega) (by omega) W h)
  have hal := fun W => hide (alive_calls W)
  have hnew := fun W h => hide (new_rd A len cap zs W h (by have := of_decide_eq_false hl; omega) hw)
  have c1 := fun g W h => hide (roll_calls g zs n W h)
  have c2 := fun g W h => hide (back_calls g zs n W h)
  have c3 := fun g W h => hide (modified_calls g zs n W h)
  rw [hb] at c4
  rw [p4] at c5
  rw [p5] at c6
  rw [p6] at c7
  rw [e1] at c1
  rw [e2] at c2
  rw [p7] at c3
  clear hb p4 p5 p6 p7 e1 e2
  generalize seekV zs n 1 = a at *
  generalize seekV zs n (-1) = b at *
  generalize modV zs n = c at *
  have d1 : decide (n < a) = true := decide_eq_true p0
  have d2 : decide (b < n) = true := decide_eq_true p2
  go_enter Try.func9, Try.ntmps9
  go_wp2_with fail
  refine (unhide (hal _)).mono ?_
  rintro e w1 ⟨rfl, hb1⟩
  clear hal
  go_wp2_with fail
  refine (unhide (hnew _ (hR.on hb1))).mono ?_
  rintro e w2 ⟨rfl, hD, hb2⟩
  have hb3 := hb1.trans (hb2.mono hb1.size)
  clear hnew hb1 hb2 hR
  generalize w1.heap.size + 1 = g at *
  go_wp2_with fail
  refine (unhide (c1 _ _ hD)).mono ?_
  rintro e w3 ⟨rfl, x1⟩
  have hD1 := hD.on x1
  have hb4 := hb3.trans (x1.mono hb3.size)
  clear hD x1 c1 hb3
  go_wp2_with fail
  refine (unhide (c2 _ _ hD1)).mono ?_
  rintro e w4 ⟨rfl, x2⟩
  have hD2 := hD1.on x2
  have hb5 := hb4.trans (x2.mono hb4.size)
  clear hD1 x2 c2 hb4
  go_wp2_with fail
  refine (unhide (c3 _ _ hD2)).mono ?_
  rintro e w5 ⟨rfl, x3⟩
  have hD3 := hD2.on x3
  have hb6 := hb5.trans (x3.mono hb5.size)
  clear hD2 x3 c3 hb5
  go_wp2_with fail
  refine (unhide (c4 _ _ hD3)).mono ?_
  rintro e w6 ⟨rfl, rfl⟩
  go_wp2_with fail
  refine (unhide (c5 _ _ hD3)).mono ?_
  rintro e w7 ⟨rfl, rfl⟩
  go_wp2_with fail
  refine (unhide (c6 _ _ hD3)).mono ?_
  rintro e w8 ⟨rfl, rfl⟩
  go_wp2_with fail
  refine (unhide (c7 _ _ hD3)).mono ?_
  rintro e w9 ⟨rfl, rfl⟩
  go_wp2
  go_ret
  exact ⟨rfl, hb6⟩

theorem walk (A : Option Addr) (len cap : Nat) (zs : List Int) (n : Int) (w : World) (hR : Rd w A len zs) (hw : ∀ z ∈ zs, (Lit.int .i64 z).wf = true) : Calls Try.prog 9 #[.slice A len cap, .int .i64 n] w fun e w' => e = .returned (.bool true) ∧ Below w.heap.size w w' := by
  cases hl : decide (100 < (len : Int))
  case true => exact walk_far1 A len cap zs n w hR hw hl
  cases q1 : decide (n < 100)
  case true => exact walk_far2 A len cap zs n w hR hw hl q1
  cases q2 : decide (140000 < n)
  case true => exact walk_far3 A len cap zs n w hR hw hl q1 q2
  have n0 : 100 ≤ n := by have := of_decide_eq_false q1; omega
  have n1 : n ≤ 140000 := by have := of_decide_eq_false q2; omega
  rcases seekE_or zs n 1 with e1 | e1
  · rcases seekE_or zs n (-1) with e2 | e2
    · cases hb : busB zs n
      · cases hv : (modV zs n == seekV zs n 1)
        · obtain ⟨_, _, _, _, _, _, h⟩ := near_not n0 n1 hb e1 e2
          have hv2 : (modV zs n == seekV zs n (-1)) = true := by
            rcases h with h | h
            · rw [h] at hv
              simp at hv
            · exact beq_iff_eq.2 h
          exact walk_notb A len cap zs n w hR hw hl q1 q2 hb e1 e2 hv hv2
        · exact walk_nota A len cap zs n w hR hw hl q1 q2 hb e1 e2 hv
      · exact walk_bus A len cap zs n w hR hw hl q1 q2 hb
    · have := err_many n0 n1 (Or.inr rfl) e2
      have hz := hR.1
      exact walk_err2 A len cap zs n w hR hw hl q1 q2 e1 e2 (decide_eq_true (by omega))
  · have := err_many n0 n1 (Or.inl rfl) e1
    have hz := hR.1
    exact walk_err1 A len cap zs n w hR hw hl q1 q2 e1 (decide_eq_true (by omega))
end Go.Proofs.Ytehkaiildchmfaa.calendarNear
