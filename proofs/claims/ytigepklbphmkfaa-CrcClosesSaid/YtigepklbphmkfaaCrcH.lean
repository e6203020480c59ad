/- The walk of CrcJoins. -/
import Derived.Test.YtigepklbphmkfaaCrcF
namespace Go.Proofs.Ytigepklbphmkfaa
open Go.RowKit

theorem row_reads {w : World} {a : Option Addr} {len cap : Nat} {zs : List Int} (h : (a = none ∧ len = 0 ∧ cap = 0 ∧ zs = []) ∨
    ∃ x, a = some x ∧ len ≤ cap ∧ cap ≤ maxLen ∧ zs.length = cap ∧ (∀ i, i < zs.length → w.cell? (x.add i) = some (.int .u8 (zs.getD i 0))) ∧ ∀ n ∈ zs, (Lit.int .u8 n).wf = true) :
    ∃ bs : List Nat, (∀ x ∈ bs, x < 256) ∧ Reads w w.heap.size 1 a len (enc8 bs) ∧ len ≤ cap := by
  rcases h with ⟨rfl, rfl, rfl, rfl⟩ | ⟨x, rfl, hl, hm, hz, hc, hw⟩
  · exact ⟨[], by simp, Reads.none_, Nat.le_refl _⟩
  · have hb : ∀ n ∈ zs, 0 ≤ n ∧ n < 256 := fun n hn => by
      have := hw n hn
      simp [Lit.wf, IntKind.min, IntKind.max, IntKind.signed, IntKind.bits] at this
      omega
    refine ⟨(zs.take len).map Int.toNat, ?_, ?_, hl⟩
    · intro y hy
      rw [List.mem_map] at hy
      obtain ⟨z, hz', rfl⟩ := hy
      have := hb z (List.mem_of_mem_take hz')
      omega
    · refine ⟨by simp [enc8]; omega, fun h0 => ⟨x, rfl, ?_, fun j u hu => ?_⟩⟩
      · have := block_lt_of_cell (hc 0 (by omega))
        rwa [block_of_add] at this
      · simp only [enc8, List.map_map, List.getElem?_map, Option.map_eq_some_iff] at hu
        obtain ⟨z, hz', rfl⟩ := hu
        have hj : j < len := by
          have := (List.getElem?_eq_some_iff.1 hz').1
          simp at this
          omega
        rw [List.getElem?_take, if_pos hj] at hz'
        rw [hc j (by omega), List.getD_eq_getElem?_getD, hz']
        have := hb z (List.mem_of_getElem? hz')
        simp
        omega

set_option maxHeartbeats 2000000 in
theorem joins_calls (a b c : List Nat) (ha : ∀ x ∈ a, x < 256) (hb : ∀ x ∈ b, x < 256) (hc : ∀ x ∈ c, x < 256) (A B C : Option Addr) (n0 n1 n2 c0 c1 c2 : Nat) (w : World)
    (hA : Reads w w.heap.size 1 A n0 (enc8 a)) (hB : Reads w w.heap.size 1 B n1 (enc8 b)) (hC : Reads w w.heap.size 1 C n2 (enc8 c)) :
    Calls Try.prog 4 #[.slice A n0 c0, .slice B n1 c1, .slice C n2 c2] w fun e w' => e = .returned (.bool true) ∧ Below w.heap.size w w' := by
  by_cases h : n0 ≤ 300 ∧ n1 ≤ 300 ∧ n2 ≤ 300
  case neg =>
    by_cases h0 : 300 < n0
    · go_enter Try.func4, Try.ntmps4
      go_wp2_with fail
      refine (alive_calls _).mono ?_
      rintro e w1 ⟨rfl, hb1⟩
      go_wp2
      go_ret
      exact ⟨rfl, hb1⟩
    · by_cases h1 : 300 < n1
      · go_enter Try.func4, Try.ntmps4
        go_wp2_with fail
        refine (alive_calls _).mono ?_
        rintro e w1 ⟨rfl, hb1⟩
        go_wp2
        go_ret
        exact ⟨rfl, hb1⟩
      · have h2 : 300 < n2 := by omega
        go_enter Try.func4, Try.ntmps4
        go_wp2_with fail
        refine (alive_calls _).mono ?_
        rintro e w1 ⟨rfl, hb1⟩
        go_wp2
        go_ret
        exact ⟨rfl, hb1⟩
  case pos =>
    obtain ⟨h0, h1, h2⟩ := h
    have la : a.length = n0 := by have := hA.1; simpa [enc8] using this
    have lb : b.length = n1 := by have := hB.1; simpa [enc8] using this
    have lc : c.length = n2 := by have := hC.1; simpa [enc8] using this
    have hab : ∀ x ∈ a ++ b, x < 256 := fun x hx => (List.mem_append.1 hx).elim (ha x) (hb x)
    have hbc : ∀ x ∈ b ++ c, x < 256 := fun x hx => (List.mem_append.1 hx).elim (hb x) (hc x)
    have j1 := join_law a b ha hb
    have j2 := join_law (a ++ b) c hab hc
    have j3 := join_law b c hb hc
    have j4 := join_law a (b ++ c) ha hbc
    rw [← List.append_assoc] at j4
    have p1 : addL 4294967295 a < 4294967296 := addL_lt (by omega) ha
    have p2 : addL (addL 4294967295 a) b < 4294967296 := addL_lt p1 hb
    have p3 : addL (addL (addL 4294967295 a) b) c < 4294967296 := addL_lt p2 hc
    have q1 : addL 4294967295 b < 4294967296 := addL_lt (by omega) hb
    have r1 : addL 4294967295 c < 4294967296 := addL_lt (by omega) hc
    have e3 : 4294967295 - addL (addL (addL 4294967295 a) b) c = sumOf (a ++ b ++ c) := by unfold sumOf; rw [addL_append, addL_append]
    rw [lb] at j1
    rw [lc] at j2 j3
    rw [List.length_append, lb, lc] at j4
    have s1 := sumOf_lt a
    have s2 := sumOf_lt b
    have s3 := sumOf_lt c
    have s4 := sumOf_lt (a ++ b)
    have s5 := sumOf_lt (b ++ c)
    have c1' := fun W hR => hide (add_calls 4294967295 (by omega) a ha w.heap.size A n0 c0 W hR (by omega))
    have c2' := fun W hR => hide (add_calls 4294967295 (by omega) b hb w.heap.size B n1 c1 W hR (by omega))
    have c3' := fun W hR => hide (add_calls 4294967295 (by omega) c hc w.heap.size C n2 c2 W hR (by omega))
    have c4' := fun W hR => hide (add_calls _ p1 b hb w.heap.size B n1 c1 W hR (by omega))
    have c5' := fun W hR => hide (add_calls _ p2 c hc w.heap.size C n2 c2 W hR (by omega))
    have d1 := fun W => hide (sum_calls _ p1 W)
    have d2 := fun W => hide (sum_calls _ q1 W)
    have d3 := fun W => hide (sum_calls _ r1 W)
    have d4 := fun W => hide (sum_calls _ p3 W)
    rw [e3] at d4
    have f1 := fun W => hide (join_calls _ _ s1 s2 (n1 : Int) W (by omega))
    have f2 := fun W => hide (join_calls _ _ s4 s3 (n2 : Int) W (by omega))
    have f3 := fun W => hide (join_calls _ _ s2 s3 (n2 : Int) W (by omega))
    have f4 := fun W => hide (join_calls _ _ s1 s5 ((n1 : Int) + (n2 : Int)) W (by omega))
    have f5 := fun W => hide (join_calls _ 0 s1 (by omega) 0 W (by omega))
    have f6 := fun W => hide (join_calls _ 0 s1 (by omega) (-5) W (by omega))
    rw [Int.toNat_natCast, j1] at f1
    rw [Int.toNat_natCast, j2] at f2
    rw [Int.toNat_natCast, j3] at f3
    rw [show ((n1 : Int) + (n2 : Int)).toNat = n1 + n2 by omega, j4] at f4
    rw [show (0 : Int).toNat = 0 from rfl, jl_zero, Nat.xor_zero] at f5
    rw [show (-5 : Int).toNat = 0 from rfl, jl_zero, Nat.xor_zero] at f6
    clear j1 j2 j3 j4 e3 la lb lc hab hbc
    change ∀ W, Hid (Calls _ _ _ _ fun e w' => e = .returned (.int .u32 (sumOf a : Nat)) ∧ _) at d1
    change ∀ W, Hid (Calls _ _ _ _ fun e w' => e = .returned (.int .u32 (sumOf b : Nat)) ∧ _) at d2
    change ∀ W, Hid (Calls _ _ _ _ fun e w' => e = .returned (.int .u32 (sumOf c : Nat)) ∧ _) at d3
    go_enter Try.func4, Try.ntmps4
    go_wp2_with fail
    refine (alive_calls _).mono ?_
    rintro e w1 ⟨rfl, hb1⟩
    have hs1 := hb1.size
    have hA1 := hA.below hb1
    have hB1 := hB.below hb1
    have hC1 := hC.below hb1
    clear hA hB hC
    generalize hg1 : addL 4294967295 a = P1 at *
    generalize hg2 : addL P1 b = P2 at *
    generalize hg3 : addL P2 c = P3 at *
    generalize hg4 : addL 4294967295 b = Q1 at *
    generalize hg5 : addL 4294967295 c = R1 at *
    generalize hg6 : sumOf (a ++ b ++ c) = ALL at *
    generalize hg7 : sumOf (a ++ b) = XY at *
    generalize hg8 : sumOf (b ++ c) = YZ at *
    generalize hg9 : sumOf a = X at *
    generalize hg10 : sumOf b = Y at *
    generalize hg11 : sumOf c = Z at *
    clear hg1 hg2 hg3 hg4 hg5 hg6 hg7 hg8 hg9 hg10 hg11
    go_wp2_with (go_at_call 12; refine (start_calls _).mono ?_; rintro e wx ⟨rfl, rfl⟩)
    refine (unhide (c1' _ hA1)).mono ?_
    rintro e wx ⟨rfl, rfl⟩
    go_wp2_with fail
    refine (unhide (d1 _)).mono ?_
    rintro e wx ⟨rfl, rfl⟩
    go_wp2_with (go_at_call 12; refine (start_calls _).mono ?_; rintro e wx ⟨rfl, rfl⟩)
    refine (unhide (c2' _ hB1)).mono ?_
    rintro e wx ⟨rfl, rfl⟩
    go_wp2_with (go_at_call 12; refine (start_calls _).mono ?_; rintro e wx ⟨rfl, rfl⟩)
    refine (unhide (d2 _)).mono ?_
    rintro e wx ⟨rfl, rfl⟩
    go_wp2_with (go_at_call 12; refine (start_calls _).mono ?_; rintro e wx ⟨rfl, rfl⟩)
    refine (unhide (c3' _ hC1)).mono ?_
    rintro e wx ⟨rfl, rfl⟩
    go_wp2_with (go_at_call 12; refine (start_calls _).mono ?_; rintro e wx ⟨rfl, rfl⟩)
    refine (unhide (d3 _)).mono ?_
    rintro e wx ⟨rfl, rfl⟩
    go_wp2_with (go_at_call 12; refine (start_calls _).mono ?_; rintro e wx ⟨rfl, rfl⟩)
    refine (unhide (c1' _ hA1)).mono ?_
    rintro e wx ⟨rfl, rfl⟩
    go_wp2_with (go_at_call 12; refine (start_calls _).mono ?_; rintro e wx ⟨rfl, rfl⟩)
    refine (unhide (c4' _ hB1)).mono ?_
    rintro e wx ⟨rfl, rfl⟩
    go_wp2_with (go_at_call 12; refine (start_calls _).mono ?_; rintro e wx ⟨rfl, rfl⟩)
    refine (unhide (c5' _ hC1)).mono ?_
    rintro e wx ⟨rfl, rfl⟩
    go_wp2_with (go_at_call 12; refine (start_calls _).mono ?_; rintro e wx ⟨rfl, rfl⟩)
    refine (unhide (d4 _)).mono ?_
    rintro e wx ⟨rfl, rfl⟩
    go_wp2_with fail
    refine (unhide (f1 _)).mono ?_
    rintro e v2 ⟨rfl, hv⟩
    have hb2 := hb1.trans (hv.mono hb1.size)
    clear hv hb1
    go_wp2_with fail
    refine (unhide (f2 _)).mono ?_
    rintro e v3 ⟨rfl, hv⟩
    have hb3 := hb2.trans (hv.mono hb2.size)
    clear hv hb2
    go_wp2_with fail
    refine (unhide (f3 _)).mono ?_
    rintro e v4 ⟨rfl, hv⟩
    have hb4 := hb3.trans (hv.mono hb3.size)
    clear hv hb3
    go_wp2_with fail
    refine (unhide (f4 _)).mono ?_
    rintro e v5 ⟨rfl, hv⟩
    have hb5 := hb4.trans (hv.mono hb4.size)
    clear hv hb4
    go_wp2_with fail
    refine (unhide (f5 _)).mono ?_
    rintro e v6 ⟨rfl, hv⟩
    have hb6 := hb5.trans (hv.mono hb5.size)
    clear hv hb5
    go_wp2_with fail
    refine (unhide (f6 _)).mono ?_
    rintro e v7 ⟨rfl, hv⟩
    have hb7 := hb6.trans (hv.mono hb6.size)
    clear hv hb6
    go_wp2
    go_ret
    exact ⟨rfl, hb7⟩
end Go.Proofs.Ytigepklbphmkfaa
