/- The business days between two numbers; the document's Business, There, Seek. -/
import Derived.Test.YtehkaiildchmfaaCalI
import Derived.Test.YtehkaiildchmfaaCalG
namespace Go.Proofs.Ytehkaiildchmfaa
open Go.RowKit

/-- The slice reads zs. -/
def Rd (w : World) (A : Option Addr) (len : Nat) (zs : List Int) : Prop :=
  zs.length = len ∧ (0 < len → ∃ ad, A = some ad ∧ ad.block < w.heap.size ∧ ∀ k, k < len → w.cell? (ad.add k) = some (.int .i64 (zs.getD k 0)))
theorem Rd.on {w w' : World} {A : Option Addr} {len : Nat} {zs : List Int} (h : Rd w A len zs) (hb : Below w.heap.size w w') : Rd w' A len zs := by
  obtain ⟨h1, h2⟩ := h
  refine ⟨h1, fun h0 => ?_⟩
  obtain ⟨ad, e, hl, hc⟩ := h2 h0
  exact ⟨ad, e, Nat.lt_of_lt_of_le hl hb.size, fun k hk => (hb.cell (p := ad.add k) (by simp only [Addr.add]; split <;> exact hl)).trans (hc k hk)⟩
theorem take_snoc {zs : List Int} {k : Nat} (h : k < zs.length) : zs.take (k + 1) = zs.take k ++ [zs.getD k 0] := by
  rw [List.take_add_one, List.getD_eq_getElem?_getD, List.getElem?_eq_getElem h]
  rfl
theorem bus_in {zs : List Int} {n : Int} (h : n ∈ zs) : busB zs n = false := by
  unfold busB
  rw [decide_eq_false (fun h2 : n ∉ zs => h2 h), Bool.and_false]
theorem bus_out {zs : List Int} {n : Int} (h : n ∉ zs) : busB zs n = decide (n % 7 < 5) := by
  unfold busB
  rw [decide_eq_true h, Bool.and_true]

set_option maxHeartbeats 4000000 in
theorem rbus_calls (A : Option Addr) (len cap : Nat) (zs : List Int) (n : Int) (w : World) (h : Rd w A len zs) (hmax : len ≤ 1000) :
    Calls Try.prog 20 #[.slice A len cap, .int .i64 n] w fun e w' => e = .returned (.bool (busB zs n)) ∧ w = w' := by
  have hwk := fun W => hide (rweek_calls n W)
  obtain ⟨hlen, hr⟩ := h
  obtain ⟨B, hB⟩ : ∃ B, busB zs n = B := ⟨_, rfl⟩
  rw [hB]
  have hQ := hide hB
  clear hB
  go_enter Try.func20, Try.ntmps20
  go_wp2
  go_loopw [9] (fun i wr => ∃ k : Nat, k ≤ len ∧ i = .int .i64 k ∧ Hid (n ∉ zs.take k) ∧ w = wr) (fun i _ => len - (intOf i).toNat)
  case atStart => exact ⟨0, Nat.zero_le _, rfl, hide (by simp), rfl⟩
  case round =>
    obtain ⟨k, hk, rfl, hno, rfl⟩ := hrel
    by_cases hlt : k < len
    · have hd : decide ((k : Int) < (len : Int)) = true := decide_eq_true (by omega)
      obtain ⟨ad, rfl, hab, hcells⟩ := hr (by omega)
      have hcx := hcells k hlt
      have htk := hide (take_snoc (zs := zs) (k := k) (by omega))
      clear hr hcells hwk
      by_cases hz : zs.getD k 0 = n
      · have hq : (zs.getD k 0 == n) = true := beq_iff_eq.2 hz
        obtain rfl : B = false := by
          rw [← hQ.out]
          refine bus_in ?_
          have hm : n ∈ zs.take (k + 1) := by rw [htk.out, hz]; simp
          exact List.mem_of_mem_take hm
        clear hz hQ htk hno
        generalize zs.getD k 0 = z at *
        go_wp2
        go_ret
        exact ⟨rfl, rfl⟩
      · have hq : (zs.getD k 0 == n) = false := beq_eq_false_iff_ne.2 hz
        have hN : Hid (n ∉ zs.take (k + 1)) := hide (by
          rw [htk.out, List.mem_append, List.mem_singleton]
          exact fun h => h.elim hno.out (fun h => hz h.symm))
        clear hz hQ htk hno
        generalize zs.getD k 0 = z at *
        go_wp2
        go_roundw
        case rel => exact ⟨k + 1, by omega, by go_num, hN, trivial⟩
        case measure => simp [intOf]; omega
    · have hd : decide ((k : Int) < (len : Int)) = false := decide_eq_false (by omega)
      obtain rfl : k = len := by omega
      have htk : zs.take k = zs := List.take_of_length_le (by omega)
      have hB := hQ.out
      rw [bus_out (by have := hno.out; rwa [htk] at this)] at hB
      clear htk hQ hno hr
      have hk0 : 0 ≤ n % 7 := by omega
      have hk1 : n % 7 < 7 := by omega
      generalize n % 7 = q at *
      go_wp2_with fail
      refine (unhide (hwk _)).mono ?_
      rintro e w1 ⟨rfl, rfl⟩
      go_wp2
      go_ret
      exact ⟨rfl, rfl⟩

/-- How many business days there are among n, n + 1, .. n + k - 1. -/
def bcnt (zs : List Int) (n : Int) : Nat → Int
  | 0 => 0
  | k + 1 => bcnt zs n k + (if busB zs (n + k) then 1 else 0)
theorem bcnt_bd (zs : List Int) (n : Int) (k : Nat) : 0 ≤ bcnt zs n k ∧ bcnt zs n k ≤ k := by
  induction k with
  | zero => simp [bcnt]
  | succ k ih => simp only [bcnt]; split <;> omega
def betV (zs : List Int) (f t : Int) : Int := if t ≤ f ∨ 100000 < t - f then 0 else bcnt zs f (t - f).toNat

theorem u64_diff {f t : Int} (hf : -9223372036854775808 ≤ f ∧ f ≤ 9223372036854775807) (ht : -9223372036854775808 ≤ t ∧ t ≤ 9223372036854775807) (h : f < t) :
    IntKind.u64.wrap (IntKind.u64.wrap t - IntKind.u64.wrap f) = t - f := by
  simp only [IntKind.wrap, IntKind.bits, IntKind.signed, Bool.false_and]
  simp only [Bool.false_eq_true, if_false]
  omega

set_option maxHeartbeats 4000000 in
theorem between_calls (g : Nat) (zs : List Int) (f t : Int) (hf : -9223372036854775808 ≤ f ∧ f ≤ 9223372036854775807) (ht : -9223372036854775808 ≤ t ∧ t ≤ 9223372036854775807) (w : World) (hd : Days w g zs) :
    Calls Try.prog 19 #[.pointer (some ⟨g, 0, none⟩), .int .i64 f, .int .i64 t] w fun e w' => e = .returned (.int .i64 (betV zs f t)) ∧ w = w' := by
  unfold betV
  by_cases h1 : t ≤ f
  · rw [if_pos (Or.inl h1)]
    have hd1 : decide (t ≤ f) = true := decide_eq_true h1
    clear h1 hf ht hd
    go_enter Try.func19, Try.ntmps19
    go_wp2
    go_ret
    exact ⟨rfl, rfl⟩
  · have hs := u64_diff hf ht (by omega)
    have hd1 : decide (t ≤ f) = false := decide_eq_false h1
    by_cases h2 : 100000 < t - f
    · rw [if_pos (Or.inr h2)]
      have hd2 : decide (100000 < t - f) = true := decide_eq_true h2
      clear h1 h2 hf ht hd
      go_enter Try.func19, Try.ntmps19
      go_wp2
      go_ret
      exact ⟨rfl, rfl⟩
    · rw [if_neg (by omega)]
      have hd2 : decide (100000 < t - f) = false := decide_eq_false h2
      obtain ⟨R, hR⟩ : ∃ R, bcnt zs f (t - f).toNat = R := ⟨_, rfl⟩
      rw [hR]
      have hQ := hide hR
      clear hR
      have hbus := fun (m : Int) (hm : -9223372036854775808 ≤ m ∧ m ≤ 9223372036854775807) W (h : Days W g zs) => hide (business_calls g zs m hm W h)
      go_enter Try.func19, Try.ntmps19
      go_wp2
      clear hs
      go_loopw [7, 8] (fun v i wr => ∃ k : Nat, v = .int .i64 (bcnt zs f k) ∧ i = .int .i64 (f + k) ∧ (k : Int) ≤ t - f ∧ w = wr) (fun _ i _ => (t - intOf i).toNat)
      case atStart => exact ⟨0, rfl, by simp, by omega, rfl⟩
      case round =>
        obtain ⟨k, rfl, rfl, hk, rfl⟩ := hrel
        have hbd := bcnt_bd zs f k
        by_cases hlt : f + k < t
        · have hd3 : decide (f + (k : Int) < t) = true := decide_eq_true hlt
          have hbm := hbus (f + k) (by omega)
          have hst := hide (show bcnt zs f (k + 1) = bcnt zs f k + (if busB zs (f + k) then 1 else 0) from rfl)
          have hm1 : -9223372036854775808 ≤ f + (k : Int) := by omega
          have hm2 : f + (k : Int) < 9223372036854775807 := by omega
          have hme := hide (show (f + (k : Int)) + 1 = f + ((k + 1 : Nat) : Int) by omega)
          have hk2 : ((k + 1 : Nat) : Int) ≤ t - f := by omega
          have hti := hide hlt
          have hk3 : (k : Int) ≤ 100000 := by omega
          clear hbus hQ hlt h1 h2
          obtain ⟨c, hc⟩ : ∃ c, bcnt zs f k = c := ⟨_, rfl⟩
          rw [hc] at hbd hst ⊢
          clear hc
          generalize hmm : f + (k : Int) = m at *
          clear hmm
          cases hq : busB zs m
          · rw [hq] at hbm hst
            have hst2 := hide (show bcnt zs f (k + 1) = c by rw [hst.out]; simp)
            clear hst hq
            go_wp2_with fail
            refine (unhide (hbm _ hd)).mono ?_
            rintro e w2 ⟨rfl, rfl⟩
            go_wp2
            go_roundw
            case rel => exact ⟨k + 1, by rw [hst2.out], by rw [hme.out], hk2, trivial⟩
            case measure => have := hti.out; simp [intOf]; omega
          · rw [hq] at hbm hst
            have hst2 := hide (show bcnt zs f (k + 1) = c + 1 by rw [hst.out]; simp)
            clear hst hq
            have hc0 : 0 ≤ c := hbd.1
            have hc1 : c ≤ 100000 := by omega
            go_wp2_with fail
            refine (unhide (hbm _ hd)).mono ?_
            rintro e w2 ⟨rfl, rfl⟩
            go_wp2
            go_roundw
            case rel => exact ⟨k + 1, by rw [hst2.out], by rw [hme.out], hk2, trivial⟩
            case measure => have := hti.out; simp [intOf]; omega
        · have hd3 : decide (f + (k : Int) < t) = false := decide_eq_false hlt
          have hkn : (t - f).toNat = k := by omega
          have hRc : bcnt zs f k = R := by rw [← hQ.out, hkn]
          rw [hRc]
          clear hQ hbus hkn hRc h1 h2
          generalize f + (k : Int) = m at *
          go_wp2
          go_ret
          exact ⟨rfl, rfl⟩
end Go.Proofs.Ytehkaiildchmfaa
