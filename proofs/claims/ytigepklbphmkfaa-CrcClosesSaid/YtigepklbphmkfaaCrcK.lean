/- The walk of CrcCloses. -/
import Derived.Test.YtigepklbphmkfaaCrcF
import Derived.Test.YtigepklbphmkfaaCrcJ
import Derived.Test.YtigepklbphmkfaaRefD
namespace Go.Proofs.Ytigepklbphmkfaa
open Go.RowKit
set_option linter.unusedSimpArgs false

theorem opn_close (bs : List Nat) : opn (bs ++ tl (sumOf bs)) = true ∧ opl (bs ++ tl (sumOf bs)) = bs := by
  have hl : (bs ++ tl (sumOf bs)).length - 4 = bs.length := by simp [tl]
  have ht : (bs ++ tl (sumOf bs)).take bs.length = bs := by simp
  have h1 : opn (bs ++ tl (sumOf bs)) = true := by
    unfold opn
    rw [hl, ht]
    exact decide_eq_true ⟨by simp [tl], rfl⟩
  refine ⟨h1, ?_⟩
  unfold opl
  rw [h1, hl, ht]
  rfl

theorem ropenR (bs : List Nat) (hbs : ∀ x ∈ bs, x < 256) (A : Option Addr) (n c : Nat) (w : World) (hR : Reads w w.heap.size 1 A n (enc8 bs)) (hn : n ≤ 1000) (hc : n ≤ c) :
    Calls Try.prog 15 #[.slice A n c] w fun e w' => ∃ A' n' c', e = .returned (.tuple #[.slice A' n' c', .bool (opn bs)]) ∧ Reads w' w'.heap.size 1 A' n' (enc8 (opl bs)) ∧ Below w.heap.size w w' := by
  have hl : bs.length = n := by have := hR.1; simpa [enc8] using this
  refine (ropen_calls bs hbs A n c w hR hn hc (opn bs) (by unfold opn Hid; rw [hl])).mono fun e w' ⟨he, hb⟩ => ?_
  have hol : opl bs = if opn bs then bs.take (bs.length - 4) else [] := rfl
  rw [hol]
  cases ho : opn bs
  · exact ⟨none, 0, 0, by rw [he, ho]; rfl, Reads.none_, hb⟩
  · refine ⟨A, n - 4, c, by rw [he, ho]; rfl, ?_, hb⟩
    have := ((hR.take (m := n - 4) (by omega)).below hb).more hb.size
    rw [hl]
    exact this

set_option maxHeartbeats 4000000 in
theorem closes_calls (bs : List Nat) (hbs : ∀ x ∈ bs, x < 256) (A : Option Addr) (n c : Nat) (w : World) (hR : Reads w w.heap.size 1 A n (enc8 bs)) (hc : n ≤ c) :
    Calls Try.prog 6 #[.slice A n c] w fun e w' => e = .returned (.bool true) ∧ Below w.heap.size w w' := by
  by_cases hn : 300 < n
  · go_enter Try.func6, Try.ntmps6
    go_wp2_with fail
    refine (alive_calls _).mono ?_
    rintro e w1 ⟨rfl, hb1⟩
    go_wp2
    go_ret
    exact ⟨rfl, hb1⟩
  · have hd : decide (300 < (n : Int)) = false := by simp; omega
    have hl := hide (show bs.length = n by have := hR.1; simpa [enc8] using this)
    have hm : n + 4 ≤ maxLen := by unfold maxLen; omega
    obtain ⟨i0, hi, hz0, hz1, hz2⟩ := info_parts info5
    have hcl : ∀ x ∈ bs ++ tl (sumOf bs), x < 256 := fun x hx => (List.mem_append.1 hx).elim (hbs x) (tl_lt _ (sumOf_lt _) x)
    have hoc := opn_close bs
    go_enter Try.func6, Try.ntmps6
    go_wp2_with fail
    refine (alive_calls _).mono ?_
    rintro e w1 ⟨rfl, hb1⟩
    have hs1 := hb1.size
    have hown : (w1.alloc (.cells #[] 5)).ownsRow w.heap.size 5 1 (.slice (some ⟨w1.heap.size, 0, none⟩) 0 0) 0 [] :=
      ⟨rfl, Or.inr ⟨w1.heap.size, 0, #[], rfl, hs1, Blk.new w1 5 #[], Nat.le_refl _, by omega, rfl, rfl⟩⟩
    have hR1 := hR.below hb1
    go_wp2_with (at_builtin; refine wpList_append_any _ rfl (.tmp 15) (.tmp 16) 23 rfl w.heap.size 5 i0 (.int .u8 0) 1 1 Try.underlying23 hi hz0 hz1 hz2 rfl (by omega) _ 0 [] rfl hown w.heap.size A n c (enc8 bs) rfl (hR1.alloc hs1 _) (enc8_one _) (by omega) (by omega) (by simp; omega) ?_; intro v2 w2 hown2 hg2 _)
    rw [Nat.zero_add, List.nil_append] at hown2
    have hh : ∀ k, (some w1.heap.size : Option Nat) = some k → w.heap.size ≤ k := fun k h => by injection h; omega
    have hb2 : Below w.heap.size w w2 := (hb1.alloc hs1 (.cells #[] 5)).grown hg2 (by simp; omega) hh
    obtain ⟨A3, c3, rfl, hc3, _, hRO⟩ := own_reads hown2
    have hRB := (hR.below hb2).more hb2.size
    clear hown hown2 hg2 hh hR hR1 hb1 hs1
    refine (openR bs hbs A3 n c3 _ hRO (by omega) hc3).mono ?_
    rintro e w3 ⟨A4, n4, c4, rfl, hRa, hb3⟩
    have hb4 := hb2.trans (hb3.mono hb2.size)
    have hRO3 := (hRO.below hb3).more hb3.size
    have hRB3 := (hRB.below hb3).more hb3.size
    clear hRO hRB hb2 hb3
    go_wp2_with fail
    refine (ropenR bs hbs A n c _ hRB3 (by omega) hc).mono ?_
    rintro e w4 ⟨A5, n5, c5, rfl, hRc, hb3⟩
    have hb5 := hb4.trans (hb3.mono hb4.size)
    have hRO4 := (hRO3.below hb3).more hb3.size
    have hRB4 := (hRB3.below hb3).more hb3.size
    have hRa4 := (hRa.below hb3).more hb3.size
    clear hRO3 hRB3 hRa hb4 hb3
    go_wp2_with fail
    refine (closeR bs hbs A3 n c3 _ hRO4 (by omega)).mono ?_
    rintro e w5 ⟨A6, c6, rfl, hc6, hRd, hb3⟩
    have hb6 := hb5.trans (hb3.mono hb5.size)
    have hRO5 := (hRO4.below hb3).more hb3.size
    have hRB5 := (hRB4.below hb3).more hb3.size
    have hRa5 := (hRa4.below hb3).more hb3.size
    have hRc5 := (hRc.below hb3).more hb3.size
    clear hRO4 hRB4 hRa4 hRc hb5 hb3
    go_wp2_with fail
    have hop := openR (bs ++ tl (sumOf bs)) hcl A6 (n + 4) c6 w5 hRd (by omega) hc6
    rw [hoc.1, hoc.2] at hop
    refine hop.mono ?_
    clear hop hoc
    rintro e w6 ⟨A7, n7, c7, rfl, hRx, hb3⟩
    have hb7 := hb6.trans (hb3.mono hb6.size)
    have hRO6 := (hRO5.below hb3).more hb3.size
    have hRB6 := (hRB5.below hb3).more hb3.size
    have hRa6 := (hRa5.below hb3).more hb3.size
    have hRc6 := (hRc5.below hb3).more hb3.size
    clear hRO5 hRB5 hRa5 hRc5 hRd hb6 hb3
    have hclose := fun W (h : Below w6.heap.size w6 W) => hide (closeR bs hbs A3 n c3 W ((hRO6.below h).more h.size) (by omega))
    have hrclose := fun W (h : Below w6.heap.size w6 W) => hide (rcloseR bs hbs A n c W ((hRB6.below h).more h.size) (by omega))
    generalize hoo : opn bs = t at *
    generalize hol : opl bs = al at *
    generalize hcc : bs ++ tl (sumOf bs) = cl at *
    clear hoo hol hcc hcl
    go_wp2_with fail
    refine wp_region_held_drew (S := fun w' => Below w6.heap.size w6 w') (by kernel_rfl) (Below.refl _ _).drew (fun hHeld => ?_)
    refine wpAnyH_take (i := 0) (oi := { dst := some 34, op := Op.move (Operand.tmp 3), type := 23, pos := "law.go:51", after := #[], guard := none }) (v := ?_) rfl (by kernel_rfl) (by kernel_rfl) (by kernel_rfl) (fun _ _ _ h => h) (Or.inl ⟨by rfl, ?_⟩) (by assumption) ?_
    rotate_left
    · intro wS hSw; (try dsimp only at hSw); go_simp; (try with_reducible rfl)
    try simp only [Act.put, List.setIfInBounds_toArray, List.set_cons_zero, List.set_cons_succ]
    refine wpAnyH_take (i := 3) (oi := { dst := some 37, op := Op.move (Operand.tmp 0), type := 23, pos := "law.go:51", after := #[], guard := none }) (v := ?_) rfl (by kernel_rfl) (by kernel_rfl) (by kernel_rfl) (fun _ _ _ h => h) (Or.inl ⟨by rfl, ?_⟩) (by assumption) ?_
    rotate_left
    · intro wS hSw; (try dsimp only at hSw); go_simp; (try with_reducible rfl)
    try simp only [Act.put, List.setIfInBounds_toArray, List.set_cons_zero, List.set_cons_succ]
    refine wpAnyH_ready (rs := [1]) (by kernel_rfl) (by simp) ?_
    refine AllReadyH.cons (o := { dst := some 35, op := Op.call { callee := Callee.value (Operand.func 16), args := #[Operand.tmp 34], argTypes := #[23] }, type := 23, pos := "law.go:51", after := #[{ on := 0, ground := Ground.data }], guard := none }) rfl (fun K hK => ?_) AllReadyH.nil
    go_simp
    refine (unhide (hclose _ hHeld)).mono ?_; rintro e v1 ⟨A8, c8, rfl, _, hR8, hb8⟩
    refine hK.out _ _ (hHeld.trans (hb8.mono hHeld.size)) (fun hHeld => ?_)
    clear hK K
    try simp only [Act.put, List.setIfInBounds_toArray, List.set_cons_zero, List.set_cons_succ]
    refine wpAnyH_rebase (S' := fun w' => Below v1.heap.size v1 w') (fun w' h => hHeld.trans (h.mono hHeld.size)) _ _ _ _ ?_
    have hH1 : (fun w' => Below v1.heap.size v1 w') v1 := Below.refl _ _
    have hHv1 := hHeld
    clear hHeld
    refine wpAnyH_take (i := 2) (oi := { dst := some 36, op := Op.convert 23 9 (Operand.tmp 35), type := 9, pos := "law.go:51", after := #[{ on := 1, ground := Ground.data }], guard := none }) (v := ?_) rfl (by kernel_rfl) (by kernel_rfl) (by kernel_rfl) (fun _ _ _ h => h) (Or.inl ⟨by rfl, ?_⟩) (by assumption) ?_
    rotate_left
    · intro wS hSw; (try dsimp only at hSw); have hcv := conv_reads (P := Try.prog) Try.underlying23 Try.underlying5 Try.underlying9 c8 (hR8.below hSw); go_simp; (try with_reducible rfl)
    try simp only [Act.put, List.setIfInBounds_toArray, List.set_cons_zero, List.set_cons_succ]
    refine wpAnyH_ready (rs := [4]) (by kernel_rfl) (by simp) ?_
    refine AllReadyH.cons (o := { dst := some 38, op := Op.call { callee := Callee.value (Operand.func 17), args := #[Operand.tmp 37], argTypes := #[23] }, type := 23, pos := "law.go:51", after := #[{ on := 3, ground := Ground.data }, { on := 1, ground := Ground.chain }], guard := none }) rfl (fun K hK => ?_) AllReadyH.nil
    go_simp
    refine (unhide (hrclose _ hHv1)).mono ?_; rintro e v2 ⟨A9, c9, rfl, hR9, hb9⟩
    refine hK.out _ _ hb9 (fun hHeld => ?_)
    clear hK K
    try simp only [Act.put, List.setIfInBounds_toArray, List.set_cons_zero, List.set_cons_succ]
    refine wpAnyH_rebase (S' := fun w' => Below v2.heap.size v2 w') (fun w' h => hHeld.trans (h.mono hHeld.size)) _ _ _ _ ?_
    have hH2 : (fun w' => Below v2.heap.size v2 w') v2 := Below.refl _ _
    have hHv2 := hHv1.trans (hHeld.mono hHv1.size)
    clear hHeld hH1 hHv1 hclose hrclose hR8 hb8 hb9
    refine wpAnyH_take (i := 5) (oi := { dst := some 39, op := Op.convert 23 9 (Operand.tmp 38), type := 9, pos := "law.go:51", after := #[{ on := 4, ground := Ground.data }], guard := none }) (v := ?_) rfl (by kernel_rfl) (by kernel_rfl) (by kernel_rfl) (fun _ _ _ h => h) (Or.inl ⟨by rfl, ?_⟩) (by assumption) ?_
    rotate_left
    · intro wS hSw; (try dsimp only at hSw); have hcv := conv_reads (P := Try.prog) Try.underlying23 Try.underlying5 Try.underlying9 c9 (hR9.below hSw); go_simp; (try with_reducible rfl)
    try simp only [Act.put, List.setIfInBounds_toArray, List.set_cons_zero, List.set_cons_succ]
    refine wpAnyH_take (i := 6) (oi := { dst := some 40, op := Op.binOp BinOp.eql 9 (Operand.tmp 36) (Operand.tmp 39) 9, type := 4, pos := "law.go:51", after := #[{ on := 2, ground := Ground.data }, { on := 5, ground := Ground.data }], guard := none }) (v := ?_) rfl (by kernel_rfl) (by kernel_rfl) (by kernel_rfl) (fun _ _ _ h => h) (Or.inl ⟨by rfl, ?_⟩) (by assumption) ?_
    rotate_left
    · intro wS hSw; (try dsimp only at hSw); go_simp; (try with_reducible rfl)
    try simp only [Act.put, List.setIfInBounds_toArray, List.set_cons_zero, List.set_cons_succ]
    refine wpAnyH_take (i := 7) (oi := { dst := some 41, op := Op.move (Operand.tmp 40), type := 4, pos := "law.go:51", after := #[{ on := 6, ground := Ground.data }, { on := 4, ground := Ground.chain }], guard := none }) (v := ?_) rfl (by kernel_rfl) (by kernel_rfl) (by kernel_rfl) (fun _ _ _ h => h) (Or.inl ⟨by rfl, ?_⟩) (by assumption) ?_
    rotate_left
    · intro wS hSw; (try dsimp only at hSw); go_simp; (try with_reducible rfl)
    try simp only [Act.put, List.setIfInBounds_toArray, List.set_cons_zero, List.set_cons_succ]
    refine wpAnyH_take (i := 8) (oi := { dst := some 42, op := Op.move (Operand.tmp 4), type := 23, pos := "law.go:51", after := #[{ on := 7, ground := Ground.guard }], guard := some (7, true) }) (v := ?_) rfl (by kernel_rfl) (by kernel_rfl) (by kernel_rfl) (fun _ _ _ h => h) (Or.inl ⟨by rfl, ?_⟩) (by assumption) ?_
    rotate_left
    · intro wS hSw; (try dsimp only at hSw); go_simp; (try with_reducible rfl)
    try simp only [Act.put, List.setIfInBounds_toArray, List.set_cons_zero, List.set_cons_succ]
    refine wpAnyH_take (i := 9) (oi := { dst := some 43, op := Op.convert 23 9 (Operand.tmp 42), type := 9, pos := "law.go:51", after := #[{ on := 8, ground := Ground.data }, { on := 7, ground := Ground.guard }], guard := some (7, true) }) (v := ?_) rfl (by kernel_rfl) (by kernel_rfl) (by kernel_rfl) (fun _ _ _ h => h) (Or.inl ⟨by rfl, ?_⟩) (by assumption) ?_
    rotate_left
    · intro wS hSw; (try dsimp only at hSw); have hcv := conv_reads (P := Try.prog) Try.underlying23 Try.underlying5 Try.underlying9 c4 (hRa6.below (hHv2.trans (Below.mono hSw hHv2.size))); go_simp; (try with_reducible rfl)
    try simp only [Act.put, List.setIfInBounds_toArray, List.set_cons_zero, List.set_cons_succ]
    refine wpAnyH_take (i := 10) (oi := { dst := some 44, op := Op.move (Operand.tmp 6), type := 23, pos := "law.go:51", after := #[{ on := 7, ground := Ground.guard }], guard := some (7, true) }) (v := ?_) rfl (by kernel_rfl) (by kernel_rfl) (by kernel_rfl) (fun _ _ _ h => h) (Or.inl ⟨by rfl, ?_⟩) (by assumption) ?_
    rotate_left
    · intro wS hSw; (try dsimp only at hSw); go_simp; (try with_reducible rfl)
    try simp only [Act.put, List.setIfInBounds_toArray, List.set_cons_zero, List.set_cons_succ]
    refine wpAnyH_take (i := 11) (oi := { dst := some 45, op := Op.convert 23 9 (Operand.tmp 44), type := 9, pos := "law.go:51", after := #[{ on := 10, ground := Ground.data }, { on := 7, ground := Ground.guard }], guard := some (7, true) }) (v := ?_) rfl (by kernel_rfl) (by kernel_rfl) (by kernel_rfl) (fun _ _ _ h => h) (Or.inl ⟨by rfl, ?_⟩) (by assumption) ?_
    rotate_left
    · intro wS hSw; (try dsimp only at hSw); have hcv := conv_reads (P := Try.prog) Try.underlying23 Try.underlying5 Try.underlying9 c5 (hRc6.below (hHv2.trans (Below.mono hSw hHv2.size))); go_simp; (try with_reducible rfl)
    try simp only [Act.put, List.setIfInBounds_toArray, List.set_cons_zero, List.set_cons_succ]
    refine wpAnyH_take (i := 12) (oi := { dst := some 46, op := Op.binOp BinOp.eql 9 (Operand.tmp 43) (Operand.tmp 45) 9, type := 4, pos := "law.go:51", after := #[{ on := 9, ground := Ground.data }, { on := 11, ground := Ground.data }, { on := 7, ground := Ground.guard }], guard := some (7, true) }) (v := ?_) rfl (by kernel_rfl) (by kernel_rfl) (by kernel_rfl) (fun _ _ _ h => h) (Or.inl ⟨by rfl, ?_⟩) (by assumption) ?_
    rotate_left
    · intro wS hSw; (try dsimp only at hSw); go_simp; (try with_reducible rfl)
    try simp only [Act.put, List.setIfInBounds_toArray, List.set_cons_zero, List.set_cons_succ]
    refine wpAnyH_take (i := 13) (oi := { dst := some 47, op := Op.pick (Operand.tmp 41) (Operand.tmp 46) (Operand.const (Value.bool false)), type := 4, pos := "law.go:51", after := #[{ on := 7, ground := Ground.data }, { on := 12, ground := Ground.data }], guard := none }) (v := ?_) rfl (by kernel_rfl) (by kernel_rfl) (by kernel_rfl) (fun _ _ _ h => h) (Or.inl ⟨by rfl, ?_⟩) (by assumption) ?_
    rotate_left
    · intro wS hSw; (try dsimp only at hSw); go_simp; (try with_reducible rfl)
    try simp only [Act.put, List.setIfInBounds_toArray, List.set_cons_zero, List.set_cons_succ]
    refine wpAnyH_take (i := 14) (oi := { dst := some 48, op := Op.move (Operand.tmp 47), type := 4, pos := "law.go:51", after := #[{ on := 13, ground := Ground.data }, { on := 7, ground := Ground.chain }], guard := none }) (v := ?_) rfl (by kernel_rfl) (by kernel_rfl) (by kernel_rfl) (fun _ _ _ h => h) (Or.inl ⟨by rfl, ?_⟩) (by assumption) ?_
    rotate_left
    · intro wS hSw; (try dsimp only at hSw); go_simp; (try with_reducible rfl)
    try simp only [Act.put, List.setIfInBounds_toArray, List.set_cons_zero, List.set_cons_succ]
    refine wpAnyH_take (i := 15) (oi := { dst := some 49, op := Op.move (Operand.tmp 5), type := 4, pos := "law.go:51", after := #[{ on := 14, ground := Ground.guard }], guard := some (14, true) }) (v := ?_) rfl (by kernel_rfl) (by kernel_rfl) (by kernel_rfl) (fun _ _ _ h => h) (Or.inl ⟨by rfl, ?_⟩) (by assumption) ?_
    rotate_left
    · intro wS hSw; (try dsimp only at hSw); go_simp; (try with_reducible rfl)
    try simp only [Act.put, List.setIfInBounds_toArray, List.set_cons_zero, List.set_cons_succ]
    refine wpAnyH_take (i := 16) (oi := { dst := some 50, op := Op.move (Operand.tmp 7), type := 4, pos := "law.go:51", after := #[{ on := 14, ground := Ground.guard }], guard := some (14, true) }) (v := ?_) rfl (by kernel_rfl) (by kernel_rfl) (by kernel_rfl) (fun _ _ _ h => h) (Or.inl ⟨by rfl, ?_⟩) (by assumption) ?_
    rotate_left
    · intro wS hSw; (try dsimp only at hSw); go_simp; (try with_reducible rfl)
    try simp only [Act.put, List.setIfInBounds_toArray, List.set_cons_zero, List.set_cons_succ]
    refine wpAnyH_take (i := 17) (oi := { dst := some 51, op := Op.binOp BinOp.eql 4 (Operand.tmp 49) (Operand.tmp 50) 4, type := 4, pos := "law.go:51", after := #[{ on := 15, ground := Ground.data }, { on := 16, ground := Ground.data }, { on := 14, ground := Ground.guard }], guard := some (14, true) }) (v := ?_) rfl (by kernel_rfl) (by kernel_rfl) (by kernel_rfl) (fun _ _ _ h => h) (Or.inl ⟨by rfl, ?_⟩) (by assumption) ?_
    rotate_left
    · intro wS hSw; (try dsimp only at hSw); go_simp; (try with_reducible rfl)
    try simp only [Act.put, List.setIfInBounds_toArray, List.set_cons_zero, List.set_cons_succ]
    refine wpAnyH_take (i := 18) (oi := { dst := some 52, op := Op.pick (Operand.tmp 48) (Operand.tmp 51) (Operand.const (Value.bool false)), type := 4, pos := "law.go:51", after := #[{ on := 14, ground := Ground.data }, { on := 17, ground := Ground.data }], guard := none }) (v := ?_) rfl (by kernel_rfl) (by kernel_rfl) (by kernel_rfl) (fun _ _ _ h => h) (Or.inl ⟨by rfl, ?_⟩) (by assumption) ?_
    rotate_left
    · intro wS hSw; (try dsimp only at hSw); go_simp; (try with_reducible rfl)
    try simp only [Act.put, List.setIfInBounds_toArray, List.set_cons_zero, List.set_cons_succ]
    refine wpAnyH_take (i := 19) (oi := { dst := some 53, op := Op.move (Operand.tmp 52), type := 4, pos := "law.go:51", after := #[{ on := 18, ground := Ground.data }, { on := 14, ground := Ground.chain }], guard := none }) (v := ?_) rfl (by kernel_rfl) (by kernel_rfl) (by kernel_rfl) (fun _ _ _ h => h) (Or.inl ⟨by rfl, ?_⟩) (by assumption) ?_
    rotate_left
    · intro wS hSw; (try dsimp only at hSw); go_simp; (try with_reducible rfl)
    try simp only [Act.put, List.setIfInBounds_toArray, List.set_cons_zero, List.set_cons_succ]
    refine wpAnyH_take (i := 20) (oi := { dst := some 54, op := Op.move (Operand.tmp 9), type := 4, pos := "law.go:51", after := #[{ on := 19, ground := Ground.guard }], guard := some (19, true) }) (v := ?_) rfl (by kernel_rfl) (by kernel_rfl) (by kernel_rfl) (fun _ _ _ h => h) (Or.inl ⟨by rfl, ?_⟩) (by assumption) ?_
    rotate_left
    · intro wS hSw; (try dsimp only at hSw); go_simp; (try with_reducible rfl)
    try simp only [Act.put, List.setIfInBounds_toArray, List.set_cons_zero, List.set_cons_succ]
    refine wpAnyH_take (i := 21) (oi := { dst := some 55, op := Op.pick (Operand.tmp 53) (Operand.tmp 54) (Operand.const (Value.bool false)), type := 4, pos := "law.go:51", after := #[{ on := 19, ground := Ground.data }, { on := 20, ground := Ground.data }], guard := none }) (v := ?_) rfl (by kernel_rfl) (by kernel_rfl) (by kernel_rfl) (fun _ _ _ h => h) (Or.inl ⟨by rfl, ?_⟩) (by assumption) ?_
    rotate_left
    · intro wS hSw; (try dsimp only at hSw); go_simp; (try with_reducible rfl)
    try simp only [Act.put, List.setIfInBounds_toArray, List.set_cons_zero, List.set_cons_succ]
    refine wpAnyH_take (i := 22) (oi := { dst := some 56, op := Op.move (Operand.tmp 55), type := 4, pos := "law.go:51", after := #[{ on := 21, ground := Ground.data }, { on := 19, ground := Ground.chain }], guard := none }) (v := ?_) rfl (by kernel_rfl) (by kernel_rfl) (by kernel_rfl) (fun _ _ _ h => h) (Or.inl ⟨by rfl, ?_⟩) (by assumption) ?_
    rotate_left
    · intro wS hSw; (try dsimp only at hSw); go_simp; (try with_reducible rfl)
    try simp only [Act.put, List.setIfInBounds_toArray, List.set_cons_zero, List.set_cons_succ]
    refine wpAnyH_take (i := 23) (oi := { dst := some 57, op := Op.move (Operand.tmp 8), type := 23, pos := "law.go:51", after := #[{ on := 22, ground := Ground.guard }], guard := some (22, true) }) (v := ?_) rfl (by kernel_rfl) (by kernel_rfl) (by kernel_rfl) (fun _ _ _ h => h) (Or.inl ⟨by rfl, ?_⟩) (by assumption) ?_
    rotate_left
    · intro wS hSw; (try dsimp only at hSw); go_simp; (try with_reducible rfl)
    try simp only [Act.put, List.setIfInBounds_toArray, List.set_cons_zero, List.set_cons_succ]
    refine wpAnyH_take (i := 24) (oi := { dst := some 58, op := Op.convert 23 9 (Operand.tmp 57), type := 9, pos := "law.go:51", after := #[{ on := 23, ground := Ground.data }, { on := 22, ground := Ground.guard }], guard := some (22, true) }) (v := ?_) rfl (by kernel_rfl) (by kernel_rfl) (by kernel_rfl) (fun _ _ _ h => h) (Or.inl ⟨by rfl, ?_⟩) (by assumption) ?_
    rotate_left
    · intro wS hSw; (try dsimp only at hSw); have hcv := conv_reads (P := Try.prog) Try.underlying23 Try.underlying5 Try.underlying9 c7 (hRx.below (hHv2.trans (Below.mono hSw hHv2.size))); go_simp; (try with_reducible rfl)
    try simp only [Act.put, List.setIfInBounds_toArray, List.set_cons_zero, List.set_cons_succ]
    refine wpAnyH_take (i := 25) (oi := { dst := some 59, op := Op.move (Operand.tmp 0), type := 23, pos := "law.go:51", after := #[{ on := 22, ground := Ground.guard }], guard := some (22, true) }) (v := ?_) rfl (by kernel_rfl) (by kernel_rfl) (by kernel_rfl) (fun _ _ _ h => h) (Or.inl ⟨by rfl, ?_⟩) (by assumption) ?_
    rotate_left
    · intro wS hSw; (try dsimp only at hSw); go_simp; (try with_reducible rfl)
    try simp only [Act.put, List.setIfInBounds_toArray, List.set_cons_zero, List.set_cons_succ]
    refine wpAnyH_take (i := 26) (oi := { dst := some 60, op := Op.convert 23 9 (Operand.tmp 59), type := 9, pos := "law.go:51", after := #[{ on := 25, ground := Ground.data }, { on := 22, ground := Ground.guard }], guard := some (22, true) }) (v := ?_) rfl (by kernel_rfl) (by kernel_rfl) (by kernel_rfl) (fun _ _ _ h => h) (Or.inl ⟨by rfl, ?_⟩) (by assumption) ?_
    rotate_left
    · intro wS hSw; (try dsimp only at hSw); have hcv := conv_reads (P := Try.prog) Try.underlying23 Try.underlying5 Try.underlying9 c (hRB6.below (hHv2.trans (Below.mono hSw hHv2.size))); go_simp; (try with_reducible rfl)
    try simp only [Act.put, List.setIfInBounds_toArray, List.set_cons_zero, List.set_cons_succ]
    refine wpAnyH_take (i := 27) (oi := { dst := some 61, op := Op.binOp BinOp.eql 9 (Operand.tmp 58) (Operand.tmp 60) 9, type := 4, pos := "law.go:51", after := #[{ on := 24, ground := Ground.data }, { on := 26, ground := Ground.data }, { on := 22, ground := Ground.guard }], guard := some (22, true) }) (v := ?_) rfl (by kernel_rfl) (by kernel_rfl) (by kernel_rfl) (fun _ _ _ h => h) (Or.inl ⟨by rfl, ?_⟩) (by assumption) ?_
    rotate_left
    · intro wS hSw; (try dsimp only at hSw); go_simp; (try with_reducible rfl)
    try simp only [Act.put, List.setIfInBounds_toArray, List.set_cons_zero, List.set_cons_succ]
    refine wpAnyH_take (i := 28) (oi := { dst := some 62, op := Op.pick (Operand.tmp 56) (Operand.tmp 61) (Operand.const (Value.bool false)), type := 4, pos := "law.go:51", after := #[{ on := 22, ground := Ground.data }, { on := 27, ground := Ground.data }], guard := none }) (v := ?_) rfl (by kernel_rfl) (by kernel_rfl) (by kernel_rfl) (fun _ _ _ h => h) (Or.inl ⟨by rfl, ?_⟩) (by assumption) ?_
    rotate_left
    · intro wS hSw; (try dsimp only at hSw); go_simp; (try with_reducible rfl)
    try simp only [Act.put, List.setIfInBounds_toArray, List.set_cons_zero, List.set_cons_succ]
    refine wpAnyH_take (i := 29) (oi := { dst := some 63, op := Op.move (Operand.tmp 62), type := 4, pos := "law.go:51", after := #[{ on := 28, ground := Ground.data }, { on := 22, ground := Ground.chain }], guard := none }) (v := ?_) rfl (by kernel_rfl) (by kernel_rfl) (by kernel_rfl) (fun _ _ _ h => h) (Or.inl ⟨by rfl, ?_⟩) (by assumption) ?_
    rotate_left
    · intro wS hSw; (try dsimp only at hSw); go_simp; (try with_reducible rfl)
    try simp only [Act.put, List.setIfInBounds_toArray, List.set_cons_zero, List.set_cons_succ]
    refine wpAnyH_take (i := 30) (oi := { dst := some 64, op := Op.move (Operand.tmp 3), type := 23, pos := "law.go:51", after := #[{ on := 29, ground := Ground.guard }], guard := some (29, true) }) (v := ?_) rfl (by kernel_rfl) (by kernel_rfl) (by kernel_rfl) (fun _ _ _ h => h) (Or.inl ⟨by rfl, ?_⟩) (by assumption) ?_
    rotate_left
    · intro wS hSw; (try dsimp only at hSw); go_simp; (try with_reducible rfl)
    try simp only [Act.put, List.setIfInBounds_toArray, List.set_cons_zero, List.set_cons_succ]
    refine wpAnyH_take (i := 31) (oi := { dst := some 65, op := Op.convert 23 9 (Operand.tmp 64), type := 9, pos := "law.go:51", after := #[{ on := 30, ground := Ground.data }, { on := 29, ground := Ground.guard }], guard := some (29, true) }) (v := ?_) rfl (by kernel_rfl) (by kernel_rfl) (by kernel_rfl) (fun _ _ _ h => h) (Or.inl ⟨by rfl, ?_⟩) (by assumption) ?_
    rotate_left
    · intro wS hSw; (try dsimp only at hSw); have hcv := conv_reads (P := Try.prog) Try.underlying23 Try.underlying5 Try.underlying9 c3 (hRO6.below (hHv2.trans (Below.mono hSw hHv2.size))); go_simp; (try with_reducible rfl)
    try simp only [Act.put, List.setIfInBounds_toArray, List.set_cons_zero, List.set_cons_succ]
    refine wpAnyH_take (i := 32) (oi := { dst := some 66, op := Op.move (Operand.tmp 0), type := 23, pos := "law.go:51", after := #[{ on := 29, ground := Ground.guard }], guard := some (29, true) }) (v := ?_) rfl (by kernel_rfl) (by kernel_rfl) (by kernel_rfl) (fun _ _ _ h => h) (Or.inl ⟨by rfl, ?_⟩) (by assumption) ?_
    rotate_left
    · intro wS hSw; (try dsimp only at hSw); go_simp; (try with_reducible rfl)
    try simp only [Act.put, List.setIfInBounds_toArray, List.set_cons_zero, List.set_cons_succ]
    refine wpAnyH_take (i := 33) (oi := { dst := some 67, op := Op.convert 23 9 (Operand.tmp 66), type := 9, pos := "law.go:51", after := #[{ on := 32, ground := Ground.data }, { on := 29, ground := Ground.guard }], guard := some (29, true) }) (v := ?_) rfl (by kernel_rfl) (by kernel_rfl) (by kernel_rfl) (fun _ _ _ h => h) (Or.inl ⟨by rfl, ?_⟩) (by assumption) ?_
    rotate_left
    · intro wS hSw; (try dsimp only at hSw); have hcv := conv_reads (P := Try.prog) Try.underlying23 Try.underlying5 Try.underlying9 c (hRB6.below (hHv2.trans (Below.mono hSw hHv2.size))); go_simp; (try with_reducible rfl)
    try simp only [Act.put, List.setIfInBounds_toArray, List.set_cons_zero, List.set_cons_succ]
    refine wpAnyH_take (i := 34) (oi := { dst := some 68, op := Op.binOp BinOp.eql 9 (Operand.tmp 65) (Operand.tmp 67) 9, type := 4, pos := "law.go:51", after := #[{ on := 31, ground := Ground.data }, { on := 33, ground := Ground.data }, { on := 29, ground := Ground.guard }], guard := some (29, true) }) (v := ?_) rfl (by kernel_rfl) (by kernel_rfl) (by kernel_rfl) (fun _ _ _ h => h) (Or.inl ⟨by rfl, ?_⟩) (by assumption) ?_
    rotate_left
    · intro wS hSw; (try dsimp only at hSw); go_simp; (try with_reducible rfl)
    try simp only [Act.put, List.setIfInBounds_toArray, List.set_cons_zero, List.set_cons_succ]
    refine wpAnyH_take (i := 35) (oi := { dst := some 69, op := Op.pick (Operand.tmp 63) (Operand.tmp 68) (Operand.const (Value.bool false)), type := 4, pos := "law.go:51", after := #[{ on := 29, ground := Ground.data }, { on := 34, ground := Ground.data }], guard := none }) (v := ?_) rfl (by kernel_rfl) (by kernel_rfl) (by kernel_rfl) (fun _ _ _ h => h) (Or.inl ⟨by rfl, ?_⟩) (by assumption) ?_
    rotate_left
    · intro wS hSw; (try dsimp only at hSw); go_simp; (try with_reducible rfl)
    try simp only [Act.put, List.setIfInBounds_toArray, List.set_cons_zero, List.set_cons_succ]
    refine wpAnyH_take (i := 36) (oi := { dst := some 2, op := Op.assign (Operand.tmp 69), type := 4, pos := "law.go:51", after := #[{ on := 35, ground := Ground.data }, { on := 29, ground := Ground.chain }, { on := 0, ground := Ground.phase }, { on := 1, ground := Ground.phase }, { on := 2, ground := Ground.phase }, { on := 3, ground := Ground.phase }, { on := 4, ground := Ground.phase }, { on := 5, ground := Ground.phase }, { on := 6, ground := Ground.phase }, { on := 7, ground := Ground.phase }, { on := 8, ground := Ground.phase }, { on := 9, ground := Ground.phase }, { on := 10, ground := Ground.phase }, { on := 11, ground := Ground.phase }, { on := 12, ground := Ground.phase }, { on := 13, ground := Ground.phase }, { on := 14, ground := Ground.phase }, { on := 15, ground := Ground.phase }, { on := 16, ground := Ground.phase }, { on := 17, ground := Ground.phase }, { on := 18, ground := Ground.phase }, { on := 19, ground := Ground.phase }, { on := 20, ground := Ground.phase }, { on := 21, ground := Ground.phase }, { on := 22, ground := Ground.phase }, { on := 23, ground := Ground.phase }, { on := 24, ground := Ground.phase }, { on := 25, ground := Ground.phase }, { on := 26, ground := Ground.phase }, { on := 27, ground := Ground.phase }, { on := 28, ground := Ground.phase }, { on := 29, ground := Ground.phase }, { on := 30, ground := Ground.phase }, { on := 31, ground := Ground.phase }, { on := 32, ground := Ground.phase }, { on := 33, ground := Ground.phase }, { on := 34, ground := Ground.phase }, { on := 35, ground := Ground.phase }], guard := none }) (v := ?_) rfl (by kernel_rfl) (by kernel_rfl) (by kernel_rfl) (fun _ _ _ h => h) (Or.inl ⟨by rfl, ?_⟩) (by assumption) ?_
    rotate_left
    · intro wS hSw; (try dsimp only at hSw); go_simp; (try with_reducible rfl)
    try simp only [Act.put, List.setIfInBounds_toArray, List.set_cons_zero, List.set_cons_succ]
    refine wpAnyH_done (by kernel_rfl) ?_ _
    have hfin := hb7.trans (hHv2.mono hb7.size)
    clear hH2 hHv2 hR9 hRO6 hRB6 hRa6 hRc6 hRx hb7
    go_wp2
    go_ret
    exact ⟨rfl, hfin⟩
end Go.Proofs.Ytigepklbphmkfaa
