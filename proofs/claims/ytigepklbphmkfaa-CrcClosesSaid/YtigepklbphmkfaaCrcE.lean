/- The walks of package crc: Open. -/
import Derived.Test.YtigepklbphmkfaaCrcE2
import Derived.Test.YtigepklbphmkfaaHeld
import Derived.Deep.RegionHeld3
import Derived.Deep.QuietTactic
import Derived.BigQuiet
import Derived.Deep.RegionWith
namespace Go.Proofs.Ytigepklbphmkfaa
open Go.RowKit
set_option linter.unusedSimpArgs false

set_option maxHeartbeats 400000 in
theorem open_short (A : Option Addr) (n c : Nat) (w : World) (hn : n < 4) :
    Calls Try.prog 14 #[.slice A n c] w fun e w' => e = .returned (.tuple #[.slice none 0 0, .bool false]) ∧ ∃ k, w' = w.drewN k := by
  have hd : decide ((n : Int) - 4 < 0) = true := by simp; omega
  go_enter Try.func14, Try.ntmps14
  go_wp2_with fail
  go_quiet (fail)
  go_wp2
  go_ret2
  exact ⟨rfl, nq, rfl⟩

theorem enc8_4 (y0 y1 y2 y3 : Nat) : (enc8 [y0, y1, y2, y3]).toArray = #[.int .u8 (y0 : Int), .int .u8 (y1 : Int), .int .u8 (y2 : Int), .int .u8 (y3 : Int)] := rfl

set_option maxHeartbeats 2000000 in
theorem open_bad (bs : List Nat) (hbs : ∀ x ∈ bs, x < 256) (A : Addr) (n c : Nat) (w : World) (hn : n ≤ 100000) (hc : n + 4 ≤ c)
    (hR : Reads w w.heap.size 1 (some A) n (enc8 bs)) (x0 x1 x2 x3 : Nat) (hA : A.block < w.heap.size)
    (h0 : w.cell? (A.add n) = some (.int .u8 x0)) (h1 : w.cell? ⟨(A.add n).block, (A.add n).off + 1, none⟩ = some (.int .u8 x1)) (h2 : w.cell? ⟨(A.add n).block, (A.add n).off + 2, none⟩ = some (.int .u8 x2)) (h3 : w.cell? ⟨(A.add n).block, (A.add n).off + 3, none⟩ = some (.int .u8 x3))
    (y0 y1 y2 y3 : Nat) (hy : Hid (tl (sumOf bs) = [y0, y1, y2, y3])) (hne : [y0, y1, y2, y3] ≠ [x0, x1, x2, x3]) :
    Calls Try.prog 14 #[.slice (some A) (n + 4) c] w fun e w' => e = .returned (.tuple #[.slice none 0 0, .bool false]) ∧ Below w.heap.size w w' := by
  have hd : decide ((n : Int) < 0) = false := by simp
  have hsl1 := fun W => slice_h A (n + 4) n c (by omega) W
  have hsl2 := fun W => slice_l A (n + 4) n c (by omega) hc W
  have har := fun a c W => arrayAt44 a c W
  have hnq := fun W => neq44 y0 y1 y2 y3 x0 x1 x2 x3 W
  have hB : (!(((y0 : Int) == (x0 : Int)) && ((y1 : Int) == (x1 : Int)) && ((y2 : Int) == (x2 : Int)) && ((y3 : Int) == (x3 : Int)))) = true := by
    rw [Bool.not_eq_true']
    simp only [Bool.and_eq_false_imp, Bool.and_eq_true, beq_iff_eq, beq_eq_false_iff_ne, Int.natCast_inj]
    rintro ⟨⟨e0, e1⟩, e2⟩ e3
    exact hne (by rw [e0, e1, e2, Int.natCast_inj.1 e3])
  rw [hB] at hnq
  clear hB hne
  have htc := fun W => hide (tail_calls (sumOf bs) (sumOf_lt bs) W)
  rw [hy.out, enc8_4] at htc
  have hbd : (A.add n).block = A.block := block_of_add A n
  generalize A.add n = D at *
  have hDb : D.block < w.heap.size := by omega
  clear hbd
  have ha := addL_lt (r := 4294967295) (l := bs) (by omega) hbs
  go_enter Try.func14, Try.ntmps14
  go_wp2_with fail
  refine wp_region_held_drew (S := fun w' => w'.cell? D = some (.int .u8 x0) ∧ w'.cell? ⟨D.block, D.off + 1, none⟩ = some (.int .u8 x1) ∧ w'.cell? ⟨D.block, D.off + 2, none⟩ = some (.int .u8 x2) ∧ w'.cell? ⟨D.block, D.off + 3, none⟩ = some (.int .u8 x3)) (by kernel_rfl) ⟨h0, h1, h2, h3⟩ (fun hHeld => ?_)
  refine wpAnyH_take (i := 0) (oi := { dst := some 8, op := Op.move (Operand.tmp 4), type := 3, pos := "crc.go:53", after := #[], guard := none }) (v := ?_) rfl (by kernel_rfl) (by kernel_rfl) (by kernel_rfl) (fun _ _ _ h => h) (Or.inl ⟨by rfl, ?_⟩) (by assumption) ?_
  rotate_left
  · intro w hSw; (try dsimp only at hSw); go_simp; (try with_reducible rfl)
  simp only [Act.put, List.setIfInBounds_toArray, List.set_cons_zero, List.set_cons_succ]
  refine wpAnyH_take (i := 1) (oi := { dst := some 9, op := Op.binOp BinOp.lss 3 (Operand.tmp 8) (Operand.const (Value.int IntKind.i64 0)) 3, type := 4, pos := "crc.go:53", after := #[{ on := 0, ground := Ground.data }], guard := none }) (v := ?_) rfl (by kernel_rfl) (by kernel_rfl) (by kernel_rfl) (fun _ _ _ h => h) (Or.inl ⟨by rfl, ?_⟩) (by assumption) ?_
  rotate_left
  · intro w hSw; (try dsimp only at hSw); go_simp; (try with_reducible rfl)
  simp only [Act.put, List.setIfInBounds_toArray, List.set_cons_zero, List.set_cons_succ]
  refine wpAnyH_take (i := 2) (oi := { dst := some 10, op := Op.move (Operand.tmp 9), type := 4, pos := "crc.go:53", after := #[{ on := 1, ground := Ground.data }], guard := none }) (v := ?_) rfl (by kernel_rfl) (by kernel_rfl) (by kernel_rfl) (fun _ _ _ h => h) (Or.inl ⟨by rfl, ?_⟩) (by assumption) ?_
  rotate_left
  · intro w hSw; (try dsimp only at hSw); go_simp; (try with_reducible rfl)
  simp only [Act.put, List.setIfInBounds_toArray, List.set_cons_zero, List.set_cons_succ]
  refine wpAnyH_take (i := 4) (oi := { dst := some 12, op := Op.move (Operand.tmp 0), type := 23, pos := "crc.go:53", after := #[{ on := 2, ground := Ground.guard }], guard := some (2, false) }) (v := ?_) rfl (by kernel_rfl) (by kernel_rfl) (by kernel_rfl) (fun _ _ _ h => h) (Or.inl ⟨by rfl, ?_⟩) (by assumption) ?_
  rotate_left
  · intro w hSw; (try dsimp only at hSw); go_simp; (try with_reducible rfl)
  simp only [Act.put, List.setIfInBounds_toArray, List.set_cons_zero, List.set_cons_succ]
  refine wpAnyH_take (i := 5) (oi := { dst := some 13, op := Op.move (Operand.tmp 4), type := 3, pos := "crc.go:53", after := #[{ on := 2, ground := Ground.guard }], guard := some (2, false) }) (v := ?_) rfl (by kernel_rfl) (by kernel_rfl) (by kernel_rfl) (fun _ _ _ h => h) (Or.inl ⟨by rfl, ?_⟩) (by assumption) ?_
  rotate_left
  · intro w hSw; (try dsimp only at hSw); go_simp; (try with_reducible rfl)
  simp only [Act.put, List.setIfInBounds_toArray, List.set_cons_zero, List.set_cons_succ]
  refine wpAnyH_take (i := 6) (oi := { dst := some 14, op := Op.slice 23 (Operand.tmp 12) none (some (Operand.tmp 13)) none, type := 23, pos := "crc.go:53", after := #[{ on := 4, ground := Ground.data }, { on := 5, ground := Ground.data }, { on := 2, ground := Ground.guard }], guard := some (2, false) }) (v := ?_) rfl (by kernel_rfl) (by kernel_rfl) (by kernel_rfl) (fun _ _ _ h => h) (Or.inl ⟨by rfl, ?_⟩) (by assumption) ?_
  rotate_left
  · intro w hSw; (try dsimp only at hSw); go_simp; (try with_reducible rfl)
  simp only [Act.put, List.setIfInBounds_toArray, List.set_cons_zero, List.set_cons_succ]
  refine wpAnyH_take (i := 12) (oi := { dst := some 20, op := Op.move (Operand.tmp 0), type := 23, pos := "crc.go:53", after := #[{ on := 2, ground := Ground.guard }], guard := some (2, false) }) (v := ?_) rfl (by kernel_rfl) (by kernel_rfl) (by kernel_rfl) (fun _ _ _ h => h) (Or.inl ⟨by rfl, ?_⟩) (by assumption) ?_
  rotate_left
  · intro w hSw; (try dsimp only at hSw); go_simp; (try with_reducible rfl)
  simp only [Act.put, List.setIfInBounds_toArray, List.set_cons_zero, List.set_cons_succ]
  refine wpAnyH_take (i := 13) (oi := { dst := some 21, op := Op.move (Operand.tmp 4), type := 3, pos := "crc.go:53", after := #[{ on := 2, ground := Ground.guard }], guard := some (2, false) }) (v := ?_) rfl (by kernel_rfl) (by kernel_rfl) (by kernel_rfl) (fun _ _ _ h => h) (Or.inl ⟨by rfl, ?_⟩) (by assumption) ?_
  rotate_left
  · intro w hSw; (try dsimp only at hSw); go_simp; (try with_reducible rfl)
  simp only [Act.put, List.setIfInBounds_toArray, List.set_cons_zero, List.set_cons_succ]
  refine wpAnyH_take (i := 14) (oi := { dst := some 22, op := Op.slice 23 (Operand.tmp 20) (some (Operand.tmp 21)) none none, type := 23, pos := "crc.go:53", after := #[{ on := 12, ground := Ground.data }, { on := 13, ground := Ground.data }, { on := 2, ground := Ground.guard }], guard := some (2, false) }) (v := ?_) rfl (by kernel_rfl) (by kernel_rfl) (by kernel_rfl) (fun _ _ _ h => h) (Or.inl ⟨by rfl, ?_⟩) (by assumption) ?_
  rotate_left
  · intro w hSw; (try dsimp only at hSw); go_simp; (try with_reducible rfl)
  simp only [Act.put, List.setIfInBounds_toArray, List.set_cons_zero, List.set_cons_succ]
  refine wpAnyH_take (i := 15) (oi := { dst := some 23, op := Op.sliceToArrayPointer 44 (Operand.tmp 22), type := 0, pos := "crc.go:53", after := #[{ on := 14, ground := Ground.data }, { on := 2, ground := Ground.guard }], guard := some (2, false) }) (v := ?_) rfl (by kernel_rfl) (by kernel_rfl) (by kernel_rfl) (fun _ _ _ h => h) (Or.inl ⟨by rfl, ?_⟩) (by assumption) ?_
  rotate_left
  · intro w hSw; (try dsimp only at hSw); go_simp; (try with_reducible rfl)
  simp only [Act.put, List.setIfInBounds_toArray, List.set_cons_zero, List.set_cons_succ]
  refine wpAnyH_take (i := 16) (oi := { dst := some 24, op := Op.load 44 (Operand.tmp 23), type := 44, pos := "crc.go:53", after := #[{ on := 15, ground := Ground.data }, { on := 2, ground := Ground.guard }], guard := some (2, false) }) (v := ?_) rfl (by kernel_rfl) (by kernel_rfl) (by kernel_rfl) (fun _ _ _ h => h) (Or.inl ⟨by rfl, ?_⟩) (by assumption) ?_
  rotate_left
  · intro w hSw; (try dsimp only at hSw); go_simp; (try with_reducible rfl)
  simp only [Act.put, List.setIfInBounds_toArray, List.set_cons_zero, List.set_cons_succ]
  refine wpAnyH_ready (rs := [3]) (by kernel_rfl) (by simp) ?_
  refine AllReadyH.cons (o := { dst := some 11, op := Op.call { callee := Callee.value (Operand.func 12), args := #[], argTypes := #[] }, type := 26, pos := "crc.go:53", after := #[{ on := 2, ground := Ground.chain }, { on := 2, ground := Ground.guard }], guard := some (2, false) }) rfl (fun K hK => ?_) AllReadyH.nil
  go_simp
  refine (start_calls _).mono ?_; rintro e wx ⟨rfl, rfl⟩
  refine hK.out _ _ ⟨h0, h1, h2, h3⟩ (fun hHeld => ?_)
  clear hK K
  try simp only [Act.put, List.setIfInBounds_toArray, List.set_cons_zero, List.set_cons_succ]
  refine wpAnyH_ready (rs := [7]) (by kernel_rfl) (by simp) ?_
  refine AllReadyH.cons (o := { dst := some 15, op := Op.call { callee := Callee.value (Operand.func 8), args := #[Operand.tmp 11, Operand.tmp 14], argTypes := #[26, 23] }, type := 26, pos := "crc.go:53", after := #[{ on := 3, ground := Ground.data }, { on := 6, ground := Ground.data }, { on := 3, ground := Ground.chain }, { on := 2, ground := Ground.guard }], guard := some (2, false) }) rfl (fun K hK => ?_) AllReadyH.nil
  go_simp
  refine (add_calls 4294967295 (by omega) bs hbs w.heap.size (some A) n c _ hR.drew (by omega)).mono ?_; rintro e wx ⟨rfl, rfl⟩
  refine hK.out _ _ ⟨h0, h1, h2, h3⟩ (fun hHeld => ?_)
  clear hK K
  try simp only [Act.put, List.setIfInBounds_toArray, List.set_cons_zero, List.set_cons_succ]
  refine wpAnyH_ready (rs := [8]) (by kernel_rfl) (by simp) ?_
  refine AllReadyH.cons (o := { dst := some 16, op := Op.call { callee := Callee.value (Operand.func 11), args := #[Operand.tmp 15], argTypes := #[26] }, type := 22, pos := "crc.go:53", after := #[{ on := 7, ground := Ground.data }, { on := 7, ground := Ground.chain }, { on := 2, ground := Ground.guard }], guard := some (2, false) }) rfl (fun K hK => ?_) AllReadyH.nil
  go_simp
  refine (sum_calls _ ha _).mono ?_; rintro e wx ⟨rfl, rfl⟩
  refine hK.out _ _ ⟨h0, h1, h2, h3⟩ (fun hHeld => ?_)
  clear hK K
  try simp only [Act.put, List.setIfInBounds_toArray, List.set_cons_zero, List.set_cons_succ]
  refine wpAnyH_ready (rs := [9]) (by kernel_rfl) (by simp) ?_
  refine AllReadyH.cons (o := { dst := some 17, op := Op.call { callee := Callee.value (Operand.func 23), args := #[Operand.tmp 16], argTypes := #[22] }, type := 23, pos := "crc.go:53", after := #[{ on := 8, ground := Ground.data }, { on := 8, ground := Ground.chain }, { on := 2, ground := Ground.guard }], guard := some (2, false) }) rfl (fun K hK => ?_) AllReadyH.nil
  go_simp
  refine (unhide (htc _)).mono ?_; rintro e wx ⟨rfl, rfl⟩
  refine hK.out _ _ ⟨(World.cell?_alloc_lt _ _ _ hDb).trans h0, (World.cell?_alloc_lt _ _ ⟨D.block, D.off + 1, none⟩ hDb).trans h1, (World.cell?_alloc_lt _ _ ⟨D.block, D.off + 2, none⟩ hDb).trans h2, (World.cell?_alloc_lt _ _ ⟨D.block, D.off + 3, none⟩ hDb).trans h3⟩ (fun hHeld => ?_)
  clear hK K
  try simp only [Act.put, List.setIfInBounds_toArray, List.set_cons_zero, List.set_cons_succ]
  refine wpAnyH_take (i := 10) (oi := { dst := some 18, op := Op.sliceToArrayPointer 44 (Operand.tmp 17), type := 0, pos := "crc.go:53", after := #[{ on := 9, ground := Ground.data }, { on := 2, ground := Ground.guard }], guard := some (2, false) }) (v := ?_) rfl (by kernel_rfl) (by kernel_rfl) (by kernel_rfl) (fun _ _ _ h => h) (Or.inl ⟨by rfl, ?_⟩) (by assumption) ?_
  rotate_left
  · intro w hSw; (try dsimp only at hSw); go_simp; (try with_reducible rfl)
  simp only [Act.put, List.setIfInBounds_toArray, List.set_cons_zero, List.set_cons_succ]
  refine wpAnyH_ready (rs := [11]) (by kernel_rfl) (by simp) ?_
  refine AllReadyH.cons (o := { dst := some 19, op := Op.load 44 (Operand.tmp 18), type := 44, pos := "crc.go:53", after := #[{ on := 10, ground := Ground.data }, { on := 2, ground := Ground.guard }], guard := some (2, false) }) rfl (fun K hK => ?_) AllReadyH.nil
  go_simp
  refine hK.out _ _ hHeld (fun hHeld => ?_)
  clear hK K
  try simp only [Act.put, List.setIfInBounds_toArray, List.set_cons_zero, List.set_cons_succ]
  refine wpAnyH_take (i := 17) (oi := { dst := some 25, op := Op.binOp BinOp.neq 44 (Operand.tmp 19) (Operand.tmp 24) 44, type := 4, pos := "crc.go:53", after := #[{ on := 11, ground := Ground.data }, { on := 16, ground := Ground.data }, { on := 2, ground := Ground.guard }], guard := some (2, false) }) (v := ?_) rfl (by kernel_rfl) (by kernel_rfl) (by kernel_rfl) (fun _ _ _ h => h) (Or.inl ⟨by rfl, ?_⟩) (by assumption) ?_
  rotate_left
  · intro w hSw; (try dsimp only at hSw); go_simp; (try with_reducible rfl)
  simp only [Act.put, List.setIfInBounds_toArray, List.set_cons_zero, List.set_cons_succ]
  refine wpAnyH_take (i := 18) (oi := { dst := some 26, op := Op.pick (Operand.tmp 10) (Operand.const (Value.bool true)) (Operand.tmp 25), type := 4, pos := "crc.go:53", after := #[{ on := 2, ground := Ground.data }, { on := 17, ground := Ground.data }], guard := none }) (v := ?_) rfl (by kernel_rfl) (by kernel_rfl) (by kernel_rfl) (fun _ _ _ h => h) (Or.inl ⟨by rfl, ?_⟩) (by assumption) ?_
  rotate_left
  · intro w hSw; (try dsimp only at hSw); go_simp; (try with_reducible rfl)
  simp only [Act.put, List.setIfInBounds_toArray, List.set_cons_zero, List.set_cons_succ]
  refine wpAnyH_done (by kernel_rfl) ?_ _
  go_wp2
  go_ret2
  exact ⟨rfl, ((Below.refl _ _).alloc (Nat.le_refl _) _).drew⟩

set_option maxHeartbeats 2000000 in
theorem open_good (bs : List Nat) (hbs : ∀ x ∈ bs, x < 256) (A : Addr) (n c : Nat) (w : World) (hn : n ≤ 100000) (hc : n + 4 ≤ c)
    (hR : Reads w w.heap.size 1 (some A) n (enc8 bs)) (x0 x1 x2 x3 : Nat) (hA : A.block < w.heap.size)
    (h0 : w.cell? (A.add n) = some (.int .u8 x0)) (h1 : w.cell? ⟨(A.add n).block, (A.add n).off + 1, none⟩ = some (.int .u8 x1)) (h2 : w.cell? ⟨(A.add n).block, (A.add n).off + 2, none⟩ = some (.int .u8 x2)) (h3 : w.cell? ⟨(A.add n).block, (A.add n).off + 3, none⟩ = some (.int .u8 x3))
    (y0 y1 y2 y3 : Nat) (hy : Hid (tl (sumOf bs) = [y0, y1, y2, y3])) (hne : [y0, y1, y2, y3] = [x0, x1, x2, x3]) :
    Calls Try.prog 14 #[.slice (some A) (n + 4) c] w fun e w' => ∃ v, e = .returned (.tuple #[v, .bool true]) ∧ w'.ownsRow w.heap.size 5 1 v n (enc8 bs) ∧ Below w.heap.size w w' := by
  obtain ⟨i0, hi, hz0, hz1, hz2⟩ := info_parts info5
  have hm : n + 4 ≤ maxLen := by unfold maxLen; omega
  have hd : decide ((n : Int) < 0) = false := by simp
  have hsl1 := fun W => slice_h A (n + 4) n c (by omega) W
  have hsl2 := fun W => slice_l A (n + 4) n c (by omega) hc W
  have har := fun a c W => arrayAt44 a c W
  have hnq := fun W => neq44 y0 y1 y2 y3 x0 x1 x2 x3 W
  have hB : (!(((y0 : Int) == (x0 : Int)) && ((y1 : Int) == (x1 : Int)) && ((y2 : Int) == (x2 : Int)) && ((y3 : Int) == (x3 : Int)))) = false := by
    simp only [List.cons.injEq] at hne
    obtain ⟨rfl, rfl, rfl, rfl, _⟩ := hne
    simp
  rw [hB] at hnq
  clear hB hne
  have htc := fun W => hide (tail_calls (sumOf bs) (sumOf_lt bs) W)
  rw [hy.out, enc8_4] at htc
  have hbd : (A.add n).block = A.block := block_of_add A n
  generalize A.add n = D at *
  have hDb : D.block < w.heap.size := by omega
  clear hbd
  have ha := addL_lt (r := 4294967295) (l := bs) (by omega) hbs
  go_enter Try.func14, Try.ntmps14
  go_wp2_with fail
  refine wp_region_held_drew (S := fun w' => w'.cell? D = some (.int .u8 x0) ∧ w'.cell? ⟨D.block, D.off + 1, none⟩ = some (.int .u8 x1) ∧ w'.cell? ⟨D.block, D.off + 2, none⟩ = some (.int .u8 x2) ∧ w'.cell? ⟨D.block, D.off + 3, none⟩ = some (.int .u8 x3)) (by kernel_rfl) ⟨h0, h1, h2, h3⟩ (fun hHeld => ?_)
  refine wpAnyH_take (i := 0) (oi := { dst := some 8, op := Op.move (Operand.tmp 4), type := 3, pos := "crc.go:53", after := #[], guard := none }) (v := ?_) rfl (by kernel_rfl) (by kernel_rfl) (by kernel_rfl) (fun _ _ _ h => h) (Or.inl ⟨by rfl, ?_⟩) (by assumption) ?_
  rotate_left
  · intro w hSw; (try dsimp only at hSw); go_simp; (try with_reducible rfl)
  simp only [Act.put, List.setIfInBounds_toArray, List.set_cons_zero, List.set_cons_succ]
  refine wpAnyH_take (i := 1) (oi := { dst := some 9, op := Op.binOp BinOp.lss 3 (Operand.tmp 8) (Operand.const (Value.int IntKind.i64 0)) 3, type := 4, pos := "crc.go:53", after := #[{ on := 0, ground := Ground.data }], guard := none }) (v := ?_) rfl (by kernel_rfl) (by kernel_rfl) (by kernel_rfl) (fun _ _ _ h => h) (Or.inl ⟨by rfl, ?_⟩) (by assumption) ?_
  rotate_left
  · intro w hSw; (try dsimp only at hSw); go_simp; (try with_reducible rfl)
  simp only [Act.put, List.setIfInBounds_toArray, List.set_cons_zero, List.set_cons_succ]
  refine wpAnyH_take (i := 2) (oi := { dst := some 10, op := Op.move (Operand.tmp 9), type := 4, pos := "crc.go:53", after := #[{ on := 1, ground := Ground.data }], guard := none }) (v := ?_) rfl (by kernel_rfl) (by kernel_rfl) (by kernel_rfl) (fun _ _ _ h => h) (Or.inl ⟨by rfl, ?_⟩) (by assumption) ?_
  rotate_left
  · intro w hSw; (try dsimp only at hSw); go_simp; (try with_reducible rfl)
  simp only [Act.put, List.setIfInBounds_toArray, List.set_cons_zero, List.set_cons_succ]
  refine wpAnyH_take (i := 4) (oi := { dst := some 12, op := Op.move (Operand.tmp 0), type := 23, pos := "crc.go:53", after := #[{ on := 2, ground := Ground.guard }], guard := some (2, false) }) (v := ?_) rfl (by kernel_rfl) (by kernel_rfl) (by kernel_rfl) (fun _ _ _ h => h) (Or.inl ⟨by rfl, ?_⟩) (by assumption) ?_
  rotate_left
  · intro w hSw; (try dsimp only at hSw); go_simp; (try with_reducible rfl)
  simp only [Act.put, List.setIfInBounds_toArray, List.set_cons_zero, List.set_cons_succ]
  refine wpAnyH_take (i := 5) (oi := { dst := some 13, op := Op.move (Operand.tmp 4), type := 3, pos := "crc.go:53", after := #[{ on := 2, ground := Ground.guard }], guard := some (2, false) }) (v := ?_) rfl (by kernel_rfl) (by kernel_rfl) (by kernel_rfl) (fun _ _ _ h => h) (Or.inl ⟨by rfl, ?_⟩) (by assumption) ?_
  rotate_left
  · intro w hSw; (try dsimp only at hSw); go_simp; (try with_reducible rfl)
  simp only [Act.put, List.setIfInBounds_toArray, List.set_cons_zero, List.set_cons_succ]
  refine wpAnyH_take (i := 6) (oi := { dst := some 14, op := Op.slice 23 (Operand.tmp 12) none (some (Operand.tmp 13)) none, type := 23, pos := "crc.go:53", after := #[{ on := 4, ground := Ground.data }, { on := 5, ground := Ground.data }, { on := 2, ground := Ground.guard }], guard := some (2, false) }) (v := ?_) rfl (by kernel_rfl) (by kernel_rfl) (by kernel_rfl) (fun _ _ _ h => h) (Or.inl ⟨by rfl, ?_⟩) (by assumption) ?_
  rotate_left
  · intro w hSw; (try dsimp only at hSw); go_simp; (try with_reducible rfl)
  simp only [Act.put, List.setIfInBounds_toArray, List.set_cons_zero, List.set_cons_succ]
  refine wpAnyH_take (i := 12) (oi := { dst := some 20, op := Op.move (Operand.tmp 0), type := 23, pos := "crc.go:53", after := #[{ on := 2, ground := Ground.guard }], guard := some (2, false) }) (v := ?_) rfl (by kernel_rfl) (by kernel_rfl) (by kernel_rfl) (fun _ _ _ h => h) (Or.inl ⟨by rfl, ?_⟩) (by assumption) ?_
  rotate_left
  · intro w hSw; (try dsimp only at hSw); go_simp; (try with_reducible rfl)
  simp only [Act.put, List.setIfInBounds_toArray, List.set_cons_zero, List.set_cons_succ]
  refine wpAnyH_take (i := 13) (oi := { dst := some 21, op := Op.move (Operand.tmp 4), type := 3, pos := "crc.go:53", after := #[{ on := 2, ground := Ground.guard }], guard := some (2, false) }) (v := ?_) rfl (by kernel_rfl) (by kernel_rfl) (by kernel_rfl) (fun _ _ _ h => h) (Or.inl ⟨by rfl, ?_⟩) (by assumption) ?_
  rotate_left
  · intro w hSw; (try dsimp only at hSw); go_simp; (try with_reducible rfl)
  simp only [Act.put, List.setIfInBounds_toArray, List.set_cons_zero, List.set_cons_succ]
  refine wpAnyH_take (i := 14) (oi := { dst := some 22, op := Op.slice 23 (Operand.tmp 20) (some (Operand.tmp 21)) none none, type := 23, pos := "crc.go:53", after := #[{ on := 12, ground := Ground.data }, { on := 13, ground := Ground.data }, { on := 2, ground := Ground.guard }], guard := some (2, false) }) (v := ?_) rfl (by kernel_rfl) (by kernel_rfl) (by kernel_rfl) (fun _ _ _ h => h) (Or.inl ⟨by rfl, ?_⟩) (by assumption) ?_
  rotate_left
  · intro w hSw; (try dsimp only at hSw); go_simp; (try with_reducible rfl)
  simp only [Act.put, List.setIfInBounds_toArray, List.set_cons_zero, List.set_cons_succ]
  refine wpAnyH_take (i := 15) (oi := { dst := some 23, op := Op.sliceToArrayPointer 44 (Operand.tmp 22), type := 0, pos := "crc.go:53", after := #[{ on := 14, ground := Ground.data }, { on := 2, ground := Ground.guard }], guard := some (2, false) }) (v := ?_) rfl (by kernel_rfl) (by kernel_rfl) (by kernel_rfl) (fun _ _ _ h => h) (Or.inl ⟨by rfl, ?_⟩) (by assumption) ?_
  rotate_left
  · intro w hSw; (try dsimp only at hSw); go_simp; (try with_reducible rfl)
  simp only [Act.put, List.setIfInBounds_toArray, List.set_cons_zero, List.set_cons_succ]
  refine wpAnyH_take (i := 16) (oi := { dst := some 24, op := Op.load 44 (Operand.tmp 23), type := 44, pos := "crc.go:53", after := #[{ on := 15, ground := Ground.data }, { on := 2, ground := Ground.guard }], guard := some (2, false) }) (v := ?_) rfl (by kernel_rfl) (by kernel_rfl) (by kernel_rfl) (fun _ _ _ h => h) (Or.inl ⟨by rfl, ?_⟩) (by assumption) ?_
  rotate_left
  · intro w hSw; (try dsimp only at hSw); go_simp; (try with_reducible rfl)
  simp only [Act.put, List.setIfInBounds_toArray, List.set_cons_zero, List.set_cons_succ]
  refine wpAnyH_ready (rs := [3]) (by kernel_rfl) (by simp) ?_
  refine AllReadyH.cons (o := { dst := some 11, op := Op.call { callee := Callee.value (Operand.func 12), args := #[], argTypes := #[] }, type := 26, pos := "crc.go:53", after := #[{ on := 2, ground := Ground.chain }, { on := 2, ground := Ground.guard }], guard := some (2, false) }) rfl (fun K hK => ?_) AllReadyH.nil
  go_simp
  refine (start_calls _).mono ?_; rintro e wx ⟨rfl, rfl⟩
  refine hK.out _ _ ⟨h0, h1, h2, h3⟩ (fun hHeld => ?_)
  clear hK K
  try simp only [Act.put, List.setIfInBounds_toArray, List.set_cons_zero, List.set_cons_succ]
  refine wpAnyH_ready (rs := [7]) (by kernel_rfl) (by simp) ?_
  refine AllReadyH.cons (o := { dst := some 15, op := Op.call { callee := Callee.value (Operand.func 8), args := #[Operand.tmp 11, Operand.tmp 14], argTypes := #[26, 23] }, type := 26, pos := "crc.go:53", after := #[{ on := 3, ground := Ground.data }, { on := 6, ground := Ground.data }, { on := 3, ground := Ground.chain }, { on := 2, ground := Ground.guard }], guard := some (2, false) }) rfl (fun K hK => ?_) AllReadyH.nil
  go_simp
  refine (add_calls 4294967295 (by omega) bs hbs w.heap.size (some A) n c _ hR.drew (by omega)).mono ?_; rintro e wx ⟨rfl, rfl⟩
  refine hK.out _ _ ⟨h0, h1, h2, h3⟩ (fun hHeld => ?_)
  clear hK K
  try simp only [Act.put, List.setIfInBounds_toArray, List.set_cons_zero, List.set_cons_succ]
  refine wpAnyH_ready (rs := [8]) (by kernel_rfl) (by simp) ?_
  refine AllReadyH.cons (o := { dst := some 16, op := Op.call { callee := Callee.value (Operand.func 11), args := #[Operand.tmp 15], argTypes := #[26] }, type := 22, pos := "crc.go:53", after := #[{ on := 7, ground := Ground.data }, { on := 7, ground := Ground.chain }, { on := 2, ground := Ground.guard }], guard := some (2, false) }) rfl (fun K hK => ?_) AllReadyH.nil
  go_simp
  refine (sum_calls _ ha _).mono ?_; rintro e wx ⟨rfl, rfl⟩
  refine hK.out _ _ ⟨h0, h1, h2, h3⟩ (fun hHeld => ?_)
  clear hK K
  try simp only [Act.put, List.setIfInBounds_toArray, List.set_cons_zero, List.set_cons_succ]
  refine wpAnyH_ready (rs := [9]) (by kernel_rfl) (by simp) ?_
  refine AllReadyH.cons (o := { dst := some 17, op := Op.call { callee := Callee.value (Operand.func 23), args := #[Operand.tmp 16], argTypes := #[22] }, type := 23, pos := "crc.go:53", after := #[{ on := 8, ground := Ground.data }, { on := 8, ground := Ground.chain }, { on := 2, ground := Ground.guard }], guard := some (2, false) }) rfl (fun K hK => ?_) AllReadyH.nil
  go_simp
  refine (unhide (htc _)).mono ?_; rintro e wx ⟨rfl, rfl⟩
  refine hK.out _ _ ⟨(World.cell?_alloc_lt _ _ _ hDb).trans h0, (World.cell?_alloc_lt _ _ ⟨D.block, D.off + 1, none⟩ hDb).trans h1, (World.cell?_alloc_lt _ _ ⟨D.block, D.off + 2, none⟩ hDb).trans h2, (World.cell?_alloc_lt _ _ ⟨D.block, D.off + 3, none⟩ hDb).trans h3⟩ (fun hHeld => ?_)
  clear hK K
  try simp only [Act.put, List.setIfInBounds_toArray, List.set_cons_zero, List.set_cons_succ]
  refine wpAnyH_take (i := 10) (oi := { dst := some 18, op := Op.sliceToArrayPointer 44 (Operand.tmp 17), type := 0, pos := "crc.go:53", after := #[{ on := 9, ground := Ground.data }, { on := 2, ground := Ground.guard }], guard := some (2, false) }) (v := ?_) rfl (by kernel_rfl) (by kernel_rfl) (by kernel_rfl) (fun _ _ _ h => h) (Or.inl ⟨by rfl, ?_⟩) (by assumption) ?_
  rotate_left
  · intro w hSw; (try dsimp only at hSw); go_simp; (try with_reducible rfl)
  simp only [Act.put, List.setIfInBounds_toArray, List.set_cons_zero, List.set_cons_succ]
  refine wpAnyH_ready (rs := [11]) (by kernel_rfl) (by simp) ?_
  refine AllReadyH.cons (o := { dst := some 19, op := Op.load 44 (Operand.tmp 18), type := 44, pos := "crc.go:53", after := #[{ on := 10, ground := Ground.data }, { on := 2, ground := Ground.guard }], guard := some (2, false) }) rfl (fun K hK => ?_) AllReadyH.nil
  go_simp
  refine hK.out _ _ hHeld (fun hHeld => ?_)
  clear hK K
  try simp only [Act.put, List.setIfInBounds_toArray, List.set_cons_zero, List.set_cons_succ]
  refine wpAnyH_take (i := 17) (oi := { dst := some 25, op := Op.binOp BinOp.neq 44 (Operand.tmp 19) (Operand.tmp 24) 44, type := 4, pos := "crc.go:53", after := #[{ on := 11, ground := Ground.data }, { on := 16, ground := Ground.data }, { on := 2, ground := Ground.guard }], guard := some (2, false) }) (v := ?_) rfl (by kernel_rfl) (by kernel_rfl) (by kernel_rfl) (fun _ _ _ h => h) (Or.inl ⟨by rfl, ?_⟩) (by assumption) ?_
  rotate_left
  · intro w hSw; (try dsimp only at hSw); go_simp; (try with_reducible rfl)
  simp only [Act.put, List.setIfInBounds_toArray, List.set_cons_zero, List.set_cons_succ]
  refine wpAnyH_take (i := 18) (oi := { dst := some 26, op := Op.pick (Operand.tmp 10) (Operand.const (Value.bool true)) (Operand.tmp 25), type := 4, pos := "crc.go:53", after := #[{ on := 2, ground := Ground.data }, { on := 17, ground := Ground.data }], guard := none }) (v := ?_) rfl (by kernel_rfl) (by kernel_rfl) (by kernel_rfl) (fun _ _ _ h => h) (Or.inl ⟨by rfl, ?_⟩) (by assumption) ?_
  rotate_left
  · intro w hSw; (try dsimp only at hSw); go_simp; (try with_reducible rfl)
  simp only [Act.put, List.setIfInBounds_toArray, List.set_cons_zero, List.set_cons_succ]
  refine wpAnyH_done (by kernel_rfl) ?_ _
  have hown : ∀ o, (((w.alloc o).alloc (.cells #[] 5)).drew).ownsRow w.heap.size 5 1 (.slice (some ⟨w.heap.size + 1, 0, none⟩) 0 0) 0 [] := fun o =>
    ⟨rfl, Or.inr ⟨w.heap.size + 1, 0, #[], rfl, by omega, (Blk.of_size (w := w.alloc o) (t := 5) (cs := #[]) (by simp)).drew, Nat.le_refl _, by omega, rfl, rfl⟩⟩
  go_wp2_with (at_builtin; refine wpList_append_any _ rfl (.tmp 27) (.tmp 30) 23 rfl w.heap.size 5 i0 (.int .u8 0) 1 1 Try.underlying23 hi hz0 hz1 hz2 rfl (by omega) _ 0 [] rfl (hown _) w.heap.size (some A) n c (enc8 bs) rfl ((((hR.alloc (Nat.le_refl _) _)).alloc (by simp) _).drew) (enc8_one _) (by omega) (by omega) (by simp; omega) ?_; intro v4 w4 hown4 hg4 _)
  go_ret2
  have h9 : ∀ k, (some (w.heap.size + 1) : Option Nat) = some k → w.heap.size ≤ k := fun k h => by injection h; omega
  refine ⟨v4, rfl, by simpa using hown4, ?_⟩
  exact ((((Below.refl _ _).alloc (Nat.le_refl _) _).alloc (by simp) _).drew).grown hg4 (by simp; omega) (fun k hk => h9 k hk)
end Go.Proofs.Ytigepklbphmkfaa
