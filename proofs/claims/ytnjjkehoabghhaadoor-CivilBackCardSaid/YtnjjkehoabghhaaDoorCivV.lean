/- The walk of the document's Parse. -/
import Derived.Test.YtnjjkehoabghhaaDoorCivU
import Derived.Deep.RegionHeld3
namespace Go.Proofs.YtnjjkehoabghhaaDoor
open Go.RowKit

theorem digV_bd (c : Int) : 0 ≤ digV c ∧ digV c ≤ 100 := by
  unfold digV
  split
  · omega
  · split <;> omega
theorem rtext_any (y m d : Int) (W : World) :
    Calls Tryd.prog 21 #[.agg #[.int .i64 y, .int .i64 m, .int .i64 d]] W fun e w' => e = .returned (.string (txV y m d)) ∧ Below W.heap.size W w' := by
  unfold txV
  cases h : rightB y m d
  · exact rtext_bad y m d W h
  · exact rtext_good y m d W h

set_option maxHeartbeats 8000000 in
theorem rparse_ok (b0 b1 b2 b3 b4 b5 b6 b7 b8 b9 : UInt8) (hR : rightB (1000 * digV (b0.toNat : Int) + 100 * digV (b1.toNat : Int) + 10 * digV (b2.toNat : Int) + digV (b3.toNat : Int)) (10 * digV (b5.toNat : Int) + digV (b6.toNat : Int)) (10 * digV (b8.toNat : Int) + digV (b9.toNat : Int)) = true) (hq : txV (1000 * digV (b0.toNat : Int) + 100 * digV (b1.toNat : Int) + 10 * digV (b2.toNat : Int) + digV (b3.toNat : Int)) (10 * digV (b5.toNat : Int) + digV (b6.toNat : Int)) (10 * digV (b8.toNat : Int) + digV (b9.toNat : Int)) = ⟨#[b0, b1, b2, b3, b4, b5, b6, b7, b8, b9]⟩) (w : World) :
    Calls Tryd.prog 26 #[.string ⟨#[b0, b1, b2, b3, b4, b5, b6, b7, b8, b9]⟩] w fun e w' => e = .returned (.tuple #[.agg #[.int .i64 (1000 * digV (b0.toNat : Int) + 100 * digV (b1.toNat : Int) + 10 * digV (b2.toNat : Int) + digV (b3.toNat : Int)), .int .i64 (10 * digV (b5.toNat : Int) + digV (b6.toNat : Int)), .int .i64 (10 * digV (b8.toNat : Int) + digV (b9.toNat : Int))], .int .i64 0]) ∧ Below w.heap.size w w' := by
  have d0 := fun W => hide (digit_calls (b0.toNat : Int) (by omega) (by have := b0.toNat_lt; omega) W)
  have e0 := digV_bd (b0.toNat : Int)
  have d1 := fun W => hide (digit_calls (b1.toNat : Int) (by omega) (by have := b1.toNat_lt; omega) W)
  have e1 := digV_bd (b1.toNat : Int)
  have d2 := fun W => hide (digit_calls (b2.toNat : Int) (by omega) (by have := b2.toNat_lt; omega) W)
  have e2 := digV_bd (b2.toNat : Int)
  have d3 := fun W => hide (digit_calls (b3.toNat : Int) (by omega) (by have := b3.toNat_lt; omega) W)
  have e3 := digV_bd (b3.toNat : Int)
  have d5 := fun W => hide (digit_calls (b5.toNat : Int) (by omega) (by have := b5.toNat_lt; omega) W)
  have e5 := digV_bd (b5.toNat : Int)
  have d6 := fun W => hide (digit_calls (b6.toNat : Int) (by omega) (by have := b6.toNat_lt; omega) W)
  have e6 := digV_bd (b6.toNat : Int)
  have d8 := fun W => hide (digit_calls (b8.toNat : Int) (by omega) (by have := b8.toNat_lt; omega) W)
  have e8 := digV_bd (b8.toNat : Int)
  have d9 := fun W => hide (digit_calls (b9.toNat : Int) (by omega) (by have := b9.toNat_lt; omega) W)
  have e9 := digV_bd (b9.toNat : Int)
  generalize digV (b0.toNat : Int) = x0 at *
  generalize digV (b1.toNat : Int) = x1 at *
  generalize digV (b2.toNat : Int) = x2 at *
  generalize digV (b3.toNat : Int) = x3 at *
  generalize digV (b5.toNat : Int) = x5 at *
  generalize digV (b6.toNat : Int) = x6 at *
  generalize digV (b8.toNat : Int) = x8 at *
  generalize digV (b9.toNat : Int) = x9 at *
  have hr := fun W => hide (rright_calls (1000 * x0 + 100 * x1 + 10 * x2 + x3) (10 * x5 + x6) (10 * x8 + x9) W)
  have ht := fun W => hide (rtext_any (1000 * x0 + 100 * x1 + 10 * x2 + x3) (10 * x5 + x6) (10 * x8 + x9) W)
  rw [hR] at hr
  clear hR
  rw [hq] at ht
  clear hq
  obtain ⟨e0a, e0b⟩ := e0
  obtain ⟨e1a, e1b⟩ := e1
  obtain ⟨e2a, e2b⟩ := e2
  obtain ⟨e3a, e3b⟩ := e3
  obtain ⟨e5a, e5b⟩ := e5
  obtain ⟨e6a, e6b⟩ := e6
  obtain ⟨e8a, e8b⟩ := e8
  obtain ⟨e9a, e9b⟩ := e9
  have bz0 : Blk ((w.alloc (.cells #[.int .i64 0, .int .i64 0, .int .i64 0] 23)).alloc (.cells #[.int .i64 0, .int .i64 0, .int .i64 0] 23)) w.heap.size 23 #[.int .i64 0, .int .i64 0, .int .i64 0] := (box3 w _ 0 0 0).alloc _
  have bd0 : Blk ((w.alloc (.cells #[.int .i64 0, .int .i64 0, .int .i64 0] 23)).alloc (.cells #[.int .i64 0, .int .i64 0, .int .i64 0] 23)) (w.heap.size + 1) 23 #[.int .i64 0, .int .i64 0, .int .i64 0] := Blk.of_size (by simp)
  have hb0 := ((Below.refl w.heap.size w).alloc (Nat.le_refl _) (.cells #[.int .i64 0, .int .i64 0, .int .i64 0] 23)).alloc (by simp) (.cells #[.int .i64 0, .int .i64 0, .int .i64 0] 23)
  go_enter Tryd.func26, Tryd.ntmps26
  go_wp2_with fail
  generalize (w.alloc (.cells #[.int .i64 0, .int .i64 0, .int .i64 0] 23)).alloc (.cells #[.int .i64 0, .int .i64 0, .int .i64 0] 23) = W0 at *
  have g0 := bd0.drew.frozen 0
  have k0 : W0.drew.cell? ⟨w.heap.size + 1, 0, none⟩ = some (.int .i64 0) := bd0.drew.cell 0
  refine wp_region_held_drew (S := (fun _ => True)) (by kernel_rfl) trivial (fun hHeld => ?_)
  refine wpAnyH_take (i := 0) (oi := { dst := some 10, op := Op.move (Operand.tmp 0), type := 9, pos := "ref.go:121", after := #[], guard := none }) (v := ?_) rfl (by kernel_rfl) (by kernel_rfl) (by kernel_rfl) (fun _ _ _ h => h) (Or.inl ⟨by rfl, ?_⟩) (by assumption) ?_
  rotate_left
  · intro wS hSw; (try dsimp only at hSw); go_simp; (try with_reducible rfl)
  try simp only [Act.put, List.setIfInBounds_toArray, List.set_cons_zero, List.set_cons_succ]
  refine wpAnyH_take (i := 1) (oi := { dst := some 11, op := Op.index 9 (Operand.tmp 10) (Operand.const (Value.int IntKind.i64 0)), type := 5, pos := "ref.go:121", after := #[{ on := 0, ground := Ground.data }], guard := none }) (v := ?_) rfl (by kernel_rfl) (by kernel_rfl) (by kernel_rfl) (fun _ _ _ h => h) (Or.inl ⟨by rfl, ?_⟩) (by assumption) ?_
  rotate_left
  · intro wS hSw; (try dsimp only at hSw); go_simp; (try with_reducible rfl)
  try simp only [Act.put, List.setIfInBounds_toArray, List.set_cons_zero, List.set_cons_succ]
  refine wpAnyH_take (i := 4) (oi := { dst := some 14, op := Op.move (Operand.tmp 0), type := 9, pos := "ref.go:121", after := #[], guard := none }) (v := ?_) rfl (by kernel_rfl) (by kernel_rfl) (by kernel_rfl) (fun _ _ _ h => h) (Or.inl ⟨by rfl, ?_⟩) (by assumption) ?_
  rotate_left
  · intro wS hSw; (try dsimp only at hSw); go_simp; (try with_reducible rfl)
  try simp only [Act.put, List.setIfInBounds_toArray, List.set_cons_zero, List.set_cons_succ]
  refine wpAnyH_take (i := 5) (oi := { dst := some 15, op := Op.index 9 (Operand.tmp 14) (Operand.const (Value.int IntKind.i64 1)), type := 5, pos := "ref.go:121", after := #[{ on := 4, ground := Ground.data }], guard := none }) (v := ?_) rfl (by kernel_rfl) (by kernel_rfl) (by kernel_rfl) (fun _ _ _ h => h) (Or.inl ⟨by rfl, ?_⟩) (by assumption) ?_
  rotate_left
  · intro wS hSw; (try dsimp only at hSw); go_simp; (try with_reducible rfl)
  try simp only [Act.put, List.setIfInBounds_toArray, List.set_cons_zero, List.set_cons_succ]
  refine wpAnyH_take (i := 9) (oi := { dst := some 19, op := Op.move (Operand.tmp 0), type := 9, pos := "ref.go:121", after := #[], guard := none }) (v := ?_) rfl (by kernel_rfl) (by kernel_rfl) (by kernel_rfl) (fun _ _ _ h => h) (Or.inl ⟨by rfl, ?_⟩) (by assumption) ?_
  rotate_left
  · intro wS hSw; (try dsimp only at hSw); go_simp; (try with_reducible rfl)
  try simp only [Act.put, List.setIfInBounds_toArray, List.set_cons_zero, List.set_cons_succ]
  refine wpAnyH_take (i := 10) (oi := { dst := some 20, op := Op.index 9 (Operand.tmp 19) (Operand.const (Value.int IntKind.i64 2)), type := 5, pos := "ref.go:121", after := #[{ on := 9, ground := Ground.data }], guard := none }) (v := ?_) rfl (by kernel_rfl) (by kernel_rfl) (by kernel_rfl) (fun _ _ _ h => h) (Or.inl ⟨by rfl, ?_⟩) (by assumption) ?_
  rotate_left
  · intro wS hSw; (try dsimp only at hSw); go_simp; (try with_reducible rfl)
  try simp only [Act.put, List.setIfInBounds_toArray, List.set_cons_zero, List.set_cons_succ]
  refine wpAnyH_take (i := 14) (oi := { dst := some 24, op := Op.move (Operand.tmp 0), type := 9, pos := "ref.go:121", after := #[], guard := none }) (v := ?_) rfl (by kernel_rfl) (by kernel_rfl) (by kernel_rfl) (fun _ _ _ h => h) (Or.inl ⟨by rfl, ?_⟩) (by assumption) ?_
  rotate_left
  · intro wS hSw; (try dsimp only at hSw); go_simp; (try with_reducible rfl)
  try simp only [Act.put, List.setIfInBounds_toArray, List.set_cons_zero, List.set_cons_succ]
  refine wpAnyH_take (i := 15) (oi := { dst := some 25, op := Op.index 9 (Operand.tmp 24) (Operand.const (Value.int IntKind.i64 3)), type := 5, pos := "ref.go:121", after := #[{ on := 14, ground := Ground.data }], guard := none }) (v := ?_) rfl (by kernel_rfl) (by kernel_rfl) (by kernel_rfl) (fun _ _ _ h => h) (Or.inl ⟨by rfl, ?_⟩) (by assumption) ?_
  rotate_left
  · intro wS hSw; (try dsimp only at hSw); go_simp; (try with_reducible rfl)
  try simp only [Act.put, List.setIfInBounds_toArray, List.set_cons_zero, List.set_cons_succ]
  refine wpAnyH_ready (rs := [2]) (by kernel_rfl) (by simp) ?_
  refine AllReadyH.cons (o := { dst := some 12, op := Op.call { callee := Callee.value (Operand.func 31), args := #[Operand.tmp 11], argTypes := #[5] }, type := 3, pos := "ref.go:121", after := #[{ on := 1, ground := Ground.data }], guard := none }) rfl (fun K hK => ?_) AllReadyH.nil
  go_simp
  refine (unhide (d0 _)).mono ?_; rintro e wx ⟨rfl, rfl⟩
  refine hK.out _ _ trivial (fun hHeld => ?_)
  clear hK K
  try simp only [Act.put, List.setIfInBounds_toArray, List.set_cons_zero, List.set_cons_succ]
  refine wpAnyH_take (i := 3) (oi := { dst := some 13, op := Op.binOp BinOp.mul 3 (Operand.const (Value.int IntKind.i64 1000)) (Operand.tmp 12) 3, type := 3, pos := "ref.go:121", after := #[{ on := 2, ground := Ground.data }], guard := none }) (v := ?_) rfl (by kernel_rfl) (by kernel_rfl) (by kernel_rfl) (fun _ _ _ h => h) (Or.inl ⟨by rfl, ?_⟩) (by assumption) ?_
  rotate_left
  · intro wS hSw; (try dsimp only at hSw); go_simp; (try with_reducible rfl)
  try simp only [Act.put, List.setIfInBounds_toArray, List.set_cons_zero, List.set_cons_succ]
  refine wpAnyH_ready (rs := [6]) (by kernel_rfl) (by simp) ?_
  refine AllReadyH.cons (o := { dst := some 16, op := Op.call { callee := Callee.value (Operand.func 31), args := #[Operand.tmp 15], argTypes := #[5] }, type := 3, pos := "ref.go:121", after := #[{ on := 5, ground := Ground.data }, { on := 2, ground := Ground.chain }], guard := none }) rfl (fun K hK => ?_) AllReadyH.nil
  go_simp
  refine (unhide (d1 _)).mono ?_; rintro e wx ⟨rfl, rfl⟩
  refine hK.out _ _ trivial (fun hHeld => ?_)
  clear hK K
  try simp only [Act.put, List.setIfInBounds_toArray, List.set_cons_zero, List.set_cons_succ]
  refine wpAnyH_take (i := 7) (oi := { dst := some 17, op := Op.binOp BinOp.mul 3 (Operand.const (Value.int IntKind.i64 100)) (Operand.tmp 16) 3, type := 3, pos := "ref.go:121", after := #[{ on := 6, ground := Ground.data }], guard := none }) (v := ?_) rfl (by kernel_rfl) (by kernel_rfl) (by kernel_rfl) (fun _ _ _ h => h) (Or.inl ⟨by rfl, ?_⟩) (by assumption) ?_
  rotate_left
  · intro wS hSw; (try dsimp only at hSw); go_simp; (try with_reducible rfl)
  try simp only [Act.put, List.setIfInBounds_toArray, List.set_cons_zero, List.set_cons_succ]
  refine wpAnyH_take (i := 8) (oi := { dst := some 18, op := Op.binOp BinOp.add 3 (Operand.tmp 13) (Operand.tmp 17) 3, type := 3, pos := "ref.go:121", after := #[{ on := 3, ground := Ground.data }, { on := 7, ground := Ground.data }], guard := none }) (v := ?_) rfl (by kernel_rfl) (by kernel_rfl) (by kernel_rfl) (fun _ _ _ h => h) (Or.inl ⟨by rfl, ?_⟩) (by assumption) ?_
  rotate_left
  · intro wS hSw; (try dsimp only at hSw); go_simp; (try with_reducible rfl)
  try simp only [Act.put, List.setIfInBounds_toArray, List.set_cons_zero, List.set_cons_succ]
  refine wpAnyH_ready (rs := [11]) (by kernel_rfl) (by simp) ?_
  refine AllReadyH.cons (o := { dst := some 21, op := Op.call { callee := Callee.value (Operand.func 31), args := #[Operand.tmp 20], argTypes := #[5] }, type := 3, pos := "ref.go:121", after := #[{ on := 10, ground := Ground.data }, { on := 6, ground := Ground.chain }], guard := none }) rfl (fun K hK => ?_) AllReadyH.nil
  go_simp
  refine (unhide (d2 _)).mono ?_; rintro e wx ⟨rfl, rfl⟩
  refine hK.out _ _ trivial (fun hHeld => ?_)
  clear hK K
  try simp only [Act.put, List.setIfInBounds_toArray, List.set_cons_zero, List.set_cons_succ]
  refine wpAnyH_take (i := 12) (oi := { dst := some 22, op := Op.binOp BinOp.mul 3 (Operand.const (Value.int IntKind.i64 10)) (Operand.tmp 21) 3, type := 3, pos := "ref.go:121", after := #[{ on := 11, ground := Ground.data }], guard := none }) (v := ?_) rfl (by kernel_rfl) (by kernel_rfl) (by kernel_rfl) (fun _ _ _ h => h) (Or.inl ⟨by rfl, ?_⟩) (by assumption) ?_
  rotate_left
  · intro wS hSw; (try dsimp only at hSw); go_simp; (try with_reducible rfl)
  try simp only [Act.put, List.setIfInBounds_toArray, List.set_cons_zero, List.set_cons_succ]
  refine wpAnyH_take (i := 13) (oi := { dst := some 23, op := Op.binOp BinOp.add 3 (Operand.tmp 18) (Operand.tmp 22) 3, type := 3, pos := "ref.go:121", after := #[{ on := 8, ground := Ground.data }, { on := 12, ground := Ground.data }], guard := none }) (v := ?_) rfl (by kernel_rfl) (by kernel_rfl) (by kernel_rfl) (fun _ _ _ h => h) (Or.inl ⟨by rfl, ?_⟩) (by assumption) ?_
  rotate_left
  · intro wS hSw; (try dsimp only at hSw); go_simp; (try with_reducible rfl)
  try simp only [Act.put, List.setIfInBounds_toArray, List.set_cons_zero, List.set_cons_succ]
  refine wpAnyH_ready (rs := [16]) (by kernel_rfl) (by simp) ?_
  refine AllReadyH.cons (o := { dst := some 26, op := Op.call { callee := Callee.value (Operand.func 31), args := #[Operand.tmp 25], argTypes := #[5] }, type := 3, pos := "ref.go:121", after := #[{ on := 15, ground := Ground.data }, { on := 11, ground := Ground.chain }], guard := none }) rfl (fun K hK => ?_) AllReadyH.nil
  go_simp
  refine (unhide (d3 _)).mono ?_; rintro e wx ⟨rfl, rfl⟩
  refine hK.out _ _ trivial (fun hHeld => ?_)
  clear hK K
  try simp only [Act.put, List.setIfInBounds_toArray, List.set_cons_zero, List.set_cons_succ]
  refine wpAnyH_take (i := 17) (oi := { dst := some 27, op := Op.binOp BinOp.add 3 (Operand.tmp 23) (Operand.tmp 26) 3, type := 3, pos := "ref.go:121", after := #[{ on := 13, ground := Ground.data }, { on := 16, ground := Ground.data }], guard := none }) (v := ?_) rfl (by kernel_rfl) (by kernel_rfl) (by kernel_rfl) (fun _ _ _ h => h) (Or.inl ⟨by rfl, ?_⟩) (by assumption) ?_
  rotate_left
  · intro wS hSw; (try dsimp only at hSw); go_simp; (try with_reducible rfl)
  try simp only [Act.put, List.setIfInBounds_toArray, List.set_cons_zero, List.set_cons_succ]
  refine wpAnyH_take (i := 18) (oi := { dst := some 28, op := Op.fieldAddr 23 (Operand.tmp 4) 0, type := 0, pos := "ref.go:121", after := #[{ on := 0, ground := Ground.phase }, { on := 1, ground := Ground.phase }, { on := 2, ground := Ground.phase }, { on := 3, ground := Ground.phase }, { on := 4, ground := Ground.phase }, { on := 5, ground := Ground.phase }, { on := 6, ground := Ground.phase }, { on := 7, ground := Ground.phase }, { on := 8, ground := Ground.phase }, { on := 9, ground := Ground.phase }, { on := 10, ground := Ground.phase }, { on := 11, ground := Ground.phase }, { on := 12, ground := Ground.phase }, { on := 13, ground := Ground.phase }, { on := 14, ground := Ground.phase }, { on := 15, ground := Ground.phase }, { on := 16, ground := Ground.phase }, { on := 17, ground := Ground.phase }], guard := none }) (v := ?_) rfl (by kernel_rfl) (by kernel_rfl) (by kernel_rfl) (fun _ _ _ h => h) (Or.inl ⟨by rfl, ?_⟩) (by assumption) ?_
  rotate_left
  · intro wS hSw; (try dsimp only at hSw); go_simp; (try with_reducible rfl)
  try simp only [Act.put, List.setIfInBounds_toArray, List.set_cons_zero, List.set_cons_succ]
  refine wpAnyH_ready (rs := [19]) (by kernel_rfl) (by simp) ?_
  refine AllReadyH.cons (o := { dst := none, op := Op.store 3 (Operand.tmp 28) (Operand.tmp 27), type := 0, pos := "ref.go:121", after := #[{ on := 18, ground := Ground.data }, { on := 17, ground := Ground.data }, { on := 16, ground := Ground.chain }, { on := 0, ground := Ground.phase }, { on := 1, ground := Ground.phase }, { on := 2, ground := Ground.phase }, { on := 3, ground := Ground.phase }, { on := 4, ground := Ground.phase }, { on := 5, ground := Ground.phase }, { on := 6, ground := Ground.phase }, { on := 7, ground := Ground.phase }, { on := 8, ground := Ground.phase }, { on := 9, ground := Ground.phase }, { on := 10, ground := Ground.phase }, { on := 11, ground := Ground.phase }, { on := 12, ground := Ground.phase }, { on := 13, ground := Ground.phase }, { on := 14, ground := Ground.phase }, { on := 15, ground := Ground.phase }, { on := 16, ground := Ground.phase }, { on := 17, ground := Ground.phase }], guard := none }) rfl (fun K hK => ?_) AllReadyH.nil
  go_simp
  refine hK.out _ _ trivial (fun hHeld => ?_)
  clear hK K
  try simp only [Act.put, List.setIfInBounds_toArray, List.set_cons_zero, List.set_cons_succ]
  refine wpAnyH_done (by kernel_rfl) ?_ _
  simp only [show IntKind.i64.wrap (1000 * x0) = 1000 * x0 from IntWalk.i64_in _ (by omega), show IntKind.i64.wrap (100 * x1) = 100 * x1 from IntWalk.i64_in _ (by omega), show IntKind.i64.wrap (1000 * x0 + 100 * x1) = 1000 * x0 + 100 * x1 from IntWalk.i64_in _ (by omega), show IntKind.i64.wrap (10 * x2) = 10 * x2 from IntWalk.i64_in _ (by omega), show IntKind.i64.wrap (1000 * x0 + 100 * x1 + 10 * x2) = 1000 * x0 + 100 * x1 + 10 * x2 from IntWalk.i64_in _ (by omega), show IntKind.i64.wrap (1000 * x0 + 100 * x1 + 10 * x2 + x3) = 1000 * x0 + 100 * x1 + 10 * x2 + x3 from IntWalk.i64_in _ (by omega)]
  have hb1 := (hb0.setCell (p := ⟨w.heap.size + 1, 0, none⟩) (Nat.le_succ _) (.int .i64 (1000 * x0 + 100 * x1 + 10 * x2 + x3))).drew
  have bd1 : Blk (W0.setCell ⟨w.heap.size + 1, 0, none⟩ (.int .i64 (1000 * x0 + 100 * x1 + 10 * x2 + x3))).drew (w.heap.size + 1) 23 #[.int .i64 (1000 * x0 + 100 * x1 + 10 * x2 + x3), .int .i64 (0), .int .i64 (0)] := (bd0.set_ 0 _).drew
  have bz1 := (bz0.far (p := ⟨w.heap.size + 1, 0, none⟩) (by simp) (.int .i64 (1000 * x0 + 100 * x1 + 10 * x2 + x3))).drew
  generalize (W0.setCell ⟨w.heap.size + 1, 0, none⟩ (.int .i64 (1000 * x0 + 100 * x1 + 10 * x2 + x3))).drew = W1 at *
  clear g0 k0 hb0 bd0 bz0
  clear d0
  clear d1
  clear d2
  clear d3
  have g1 := bd1.drew.frozen 1
  have k1 : W1.drew.cell? ⟨w.heap.size + 1, 1, none⟩ = some (.int .i64 0) := bd1.drew.cell 1
  go_wp2_with fail
  refine wp_region_held_drew (S := (fun _ => True)) (by kernel_rfl) trivial (fun hHeld => ?_)
  refine wpAnyH_take (i := 0) (oi := { dst := some 29, op := Op.move (Operand.tmp 0), type := 9, pos := "ref.go:122", after := #[], guard := none }) (v := ?_) rfl (by kernel_rfl) (by kernel_rfl) (by kernel_rfl) (fun _ _ _ h => h) (Or.inl ⟨by rfl, ?_⟩) (by assumption) ?_
  rotate_left
  · intro wS hSw; (try dsimp only at hSw); go_simp; (try with_reducible rfl)
  try simp only [Act.put, List.setIfInBounds_toArray, List.set_cons_zero, List.set_cons_succ]
  refine wpAnyH_take (i := 1) (oi := { dst := some 30, op := Op.index 9 (Operand.tmp 29) (Operand.const (Value.int IntKind.i64 5)), type := 5, pos := "ref.go:122", after := #[{ on := 0, ground := Ground.data }], guard := none }) (v := ?_) rfl (by kernel_rfl) (by kernel_rfl) (by kernel_rfl) (fun _ _ _ h => h) (Or.inl ⟨by rfl, ?_⟩) (by assumption) ?_
  rotate_left
  · intro wS hSw; (try dsimp only at hSw); go_simp; (try with_reducible rfl)
  try simp only [Act.put, List.setIfInBounds_toArray, List.set_cons_zero, List.set_cons_succ]
  refine wpAnyH_take (i := 4) (oi := { dst := some 33, op := Op.move (Operand.tmp 0), type := 9, pos := "ref.go:122", after := #[], guard := none }) (v := ?_) rfl (by kernel_rfl) (by kernel_rfl) (by kernel_rfl) (fun _ _ _ h => h) (Or.inl ⟨by rfl, ?_⟩) (by assumption) ?_
  rotate_left
  · intro wS hSw; (try dsimp only at hSw); go_simp; (try with_reducible rfl)
  try simp only [Act.put, List.setIfInBounds_toArray, List.set_cons_zero, List.set_cons_succ]
  refine wpAnyH_take (i := 5) (oi := { dst := some 34, op := Op.index 9 (Operand.tmp 33) (Operand.const (Value.int IntKind.i64 6)), type := 5, pos := "ref.go:122", after := #[{ on := 4, ground := Ground.data }], guard := none }) (v := ?_) rfl (by kernel_rfl) (by kernel_rfl) (by kernel_rfl) (fun _ _ _ h => h) (Or.inl ⟨by rfl, ?_⟩) (by assumption) ?_
  rotate_left
  · intro wS hSw; (try dsimp only at hSw); go_simp; (try with_reducible rfl)
  try simp only [Act.put, List.setIfInBounds_toArray, List.set_cons_zero, List.set_cons_succ]
  refine wpAnyH_ready (rs := [2]) (by kernel_rfl) (by simp) ?_
  refine AllReadyH.cons (o := { dst := some 31, op := Op.call { callee := Callee.value (Operand.func 31), args := #[Operand.tmp 30], argTypes := #[5] }, type := 3, pos := "ref.go:122", after := #[{ on := 1, ground := Ground.data }], guard := none }) rfl (fun K hK => ?_) AllReadyH.nil
  go_simp
  refine (unhide (d5 _)).mono ?_; rintro e wx ⟨rfl, rfl⟩
  refine hK.out _ _ trivial (fun hHeld => ?_)
  clear hK K
  try simp only [Act.put, List.setIfInBounds_toArray, List.set_cons_zero, List.set_cons_succ]
  refine wpAnyH_take (i := 3) (oi := { dst := some 32, op := Op.binOp BinOp.mul 3 (Operand.const (Value.int IntKind.i64 10)) (Operand.tmp 31) 3, type := 3, pos := "ref.go:122", after := #[{ on := 2, ground := Ground.data }], guard := none }) (v := ?_) rfl (by kernel_rfl) (by kernel_rfl) (by kernel_rfl) (fun _ _ _ h => h) (Or.inl ⟨by rfl, ?_⟩) (by assumption) ?_
  rotate_left
  · intro wS hSw; (try dsimp only at hSw); go_simp; (try with_reducible rfl)
  try simp only [Act.put, List.setIfInBounds_toArray, List.set_cons_zero, List.set_cons_succ]
  refine wpAnyH_ready (rs := [6]) (by kernel_rfl) (by simp) ?_
  refine AllReadyH.cons (o := { dst := some 35, op := Op.call { callee := Callee.value (Operand.func 31), args := #[Operand.tmp 34], argTypes := #[5] }, type := 3, pos := "ref.go:122", after := #[{ on := 5, ground := Ground.data }, { on := 2, ground := Ground.chain }], guard := none }) rfl (fun K hK => ?_) AllReadyH.nil
  go_simp
  refine (unhide (d6 _)).mono ?_; rintro e wx ⟨rfl, rfl⟩
  refine hK.out _ _ trivial (fun hHeld => ?_)
  clear hK K
  try simp only [Act.put, List.setIfInBounds_toArray, List.set_cons_zero, List.set_cons_succ]
  refine wpAnyH_take (i := 7) (oi := { dst := some 36, op := Op.binOp BinOp.add 3 (Operand.tmp 32) (Operand.tmp 35) 3, type := 3, pos := "ref.go:122", after := #[{ on := 3, ground := Ground.data }, { on := 6, ground := Ground.data }], guard := none }) (v := ?_) rfl (by kernel_rfl) (by kernel_rfl) (by kernel_rfl) (fun _ _ _ h => h) (Or.inl ⟨by rfl, ?_⟩) (by assumption) ?_
  rotate_left
  · intro wS hSw; (try dsimp only at hSw); go_simp; (try with_reducible rfl)
  try simp only [Act.put, List.setIfInBounds_toArray, List.set_cons_zero, List.set_cons_succ]
  refine wpAnyH_take (i := 8) (oi := { dst := some 37, op := Op.fieldAddr 23 (Operand.tmp 4) 1, type := 0, pos := "ref.go:122", after := #[{ on := 0, ground := Ground.phase }, { on := 1, ground := Ground.phase }, { on := 2, ground := Ground.phase }, { on := 3, ground := Ground.phase }, { on := 4, ground := Ground.phase }, { on := 5, ground := Ground.phase }, { on := 6, ground := Ground.phase }, { on := 7, ground := Ground.phase }], guard := none }) (v := ?_) rfl (by kernel_rfl) (by kernel_rfl) (by kernel_rfl) (fun _ _ _ h => h) (Or.inl ⟨by rfl, ?_⟩) (by assumption) ?_
  rotate_left
  · intro wS hSw; (try dsimp only at hSw); go_simp; (try with_reducible rfl)
  try simp only [Act.put, List.setIfInBounds_toArray, List.set_cons_zero, List.set_cons_succ]
  refine wpAnyH_ready (rs := [9]) (by kernel_rfl) (by simp) ?_
  refine AllReadyH.cons (o := { dst := none, op := Op.store 3 (Operand.tmp 37) (Operand.tmp 36), type := 0, pos := "ref.go:122", after := #[{ on := 8, ground := Ground.data }, { on := 7, ground := Ground.data }, { on := 6, ground := Ground.chain }, { on := 0, ground := Ground.phase }, { on := 1, ground := Ground.phase }, { on := 2, ground := Ground.phase }, { on := 3, ground := Ground.phase }, { on := 4, ground := Ground.phase }, { on := 5, ground := Ground.phase }, { on := 6, ground := Ground.phase }, { on := 7, ground := Ground.phase }], guard := none }) rfl (fun K hK => ?_) AllReadyH.nil
  go_simp
  refine hK.out _ _ trivial (fun hHeld => ?_)
  clear hK K
  try simp only [Act.put, List.setIfInBounds_toArray, List.set_cons_zero, List.set_cons_succ]
  refine wpAnyH_done (by kernel_rfl) ?_ _
  simp only [show IntKind.i64.wrap (10 * x5) = 10 * x5 from IntWalk.i64_in _ (by omega), show IntKind.i64.wrap (10 * x5 + x6) = 10 * x5 + x6 from IntWalk.i64_in _ (by omega)]
  have hb2 := (hb1.setCell (p := ⟨w.heap.size + 1, 1, none⟩) (Nat.le_succ _) (.int .i64 (10 * x5 + x6))).drew
  have bd2 : Blk (W1.setCell ⟨w.heap.size + 1, 1, none⟩ (.int .i64 (10 * x5 + x6))).drew (w.heap.size + 1) 23 #[.int .i64 (1000 * x0 + 100 * x1 + 10 * x2 + x3), .int .i64 (10 * x5 + x6), .int .i64 (0)] := (bd1.set_ 1 _).drew
  have bz2 := (bz1.far (p := ⟨w.heap.size + 1, 1, none⟩) (by simp) (.int .i64 (10 * x5 + x6))).drew
  generalize (W1.setCell ⟨w.heap.size + 1, 1, none⟩ (.int .i64 (10 * x5 + x6))).drew = W2 at *
  clear g1 k1 hb1 bd1 bz1
  clear d5
  clear d6
  have g2 := bd2.drew.frozen 2
  have k2 : W2.drew.cell? ⟨w.heap.size + 1, 2, none⟩ = some (.int .i64 0) := bd2.drew.cell 2
  go_wp2_with fail
  refine wp_region_held_drew (S := (fun _ => True)) (by kernel_rfl) trivial (fun hHeld => ?_)
  refine wpAnyH_take (i := 0) (oi := { dst := some 38, op := Op.move (Operand.tmp 0), type := 9, pos := "ref.go:123", after := #[], guard := none }) (v := ?_) rfl (by kernel_rfl) (by kernel_rfl) (by kernel_rfl) (fun _ _ _ h => h) (Or.inl ⟨by rfl, ?_⟩) (by assumption) ?_
  rotate_left
  · intro wS hSw; (try dsimp only at hSw); go_simp; (try with_reducible rfl)
  try simp only [Act.put, List.setIfInBounds_toArray, List.set_cons_zero, List.set_cons_succ]
  refine wpAnyH_take (i := 1) (oi := { dst := some 39, op := Op.index 9 (Operand.tmp 38) (Operand.const (Value.int IntKind.i64 8)), type := 5, pos := "ref.go:123", after := #[{ on := 0, ground := Ground.data }], guard := none }) (v := ?_) rfl (by kernel_rfl) (by kernel_rfl) (by kernel_rfl) (fun _ _ _ h => h) (Or.inl ⟨by rfl, ?_⟩) (by assumption) ?_
  rotate_left
  · intro wS hSw; (try dsimp only at hSw); go_simp; (try with_reducible rfl)
  try simp only [Act.put, List.setIfInBounds_toArray, List.set_cons_zero, List.set_cons_succ]
  refine wpAnyH_take (i := 4) (oi := { dst := some 42, op := Op.move (Operand.tmp 0), type := 9, pos := "ref.go:123", after := #[], guard := none }) (v := ?_) rfl (by kernel_rfl) (by kernel_rfl) (by kernel_rfl) (fun _ _ _ h => h) (Or.inl ⟨by rfl, ?_⟩) (by assumption) ?_
  rotate_left
  · intro wS hSw; (try dsimp only at hSw); go_simp; (try with_reducible rfl)
  try simp only [Act.put, List.setIfInBounds_toArray, List.set_cons_zero, List.set_cons_succ]
  refine wpAnyH_take (i := 5) (oi := { dst := some 43, op := Op.index 9 (Operand.tmp 42) (Operand.const (Value.int IntKind.i64 9)), type := 5, pos := "ref.go:123", after := #[{ on := 4, ground := Ground.data }], guard := none }) (v := ?_) rfl (by kernel_rfl) (by kernel_rfl) (by kernel_rfl) (fun _ _ _ h => h) (Or.inl ⟨by rfl, ?_⟩) (by assumption) ?_
  rotate_left
  · intro wS hSw; (try dsimp only at hSw); go_simp; (try with_reducible rfl)
  try simp only [Act.put, List.setIfInBounds_toArray, List.set_cons_zero, List.set_cons_succ]
  refine wpAnyH_ready (rs := [2]) (by kernel_rfl) (by simp) ?_
  refine AllReadyH.cons (o := { dst := some 40, op := Op.call { callee := Callee.value (Operand.func 31), args := #[Operand.tmp 39], argTypes := #[5] }, type := 3, pos := "ref.go:123", after := #[{ on := 1, ground := Ground.data }], guard := none }) rfl (fun K hK => ?_) AllReadyH.nil
  go_simp
  refine (unhide (d8 _)).mono ?_; rintro e wx ⟨rfl, rfl⟩
  refine hK.out _ _ trivial (fun hHeld => ?_)
  clear hK K
  try simp only [Act.put, List.setIfInBounds_toArray, List.set_cons_zero, List.set_cons_succ]
  refine wpAnyH_take (i := 3) (oi := { dst := some 41, op := Op.binOp BinOp.mul 3 (Operand.const (Value.int IntKind.i64 10)) (Operand.tmp 40) 3, type := 3, pos := "ref.go:123", after := #[{ on := 2, ground := Ground.data }], guard := none }) (v := ?_) rfl (by kernel_rfl) (by kernel_rfl) (by kernel_rfl) (fun _ _ _ h => h) (Or.inl ⟨by rfl, ?_⟩) (by assumption) ?_
  rotate_left
  · intro wS hSw; (try dsimp only at hSw); go_simp; (try with_reducible rfl)
  try simp only [Act.put, List.setIfInBounds_toArray, List.set_cons_zero, List.set_cons_succ]
  refine wpAnyH_ready (rs := [6]) (by kernel_rfl) (by simp) ?_
  refine AllReadyH.cons (o := { dst := some 44, op := Op.call { callee := Callee.value (Operand.func 31), args := #[Operand.tmp 43], argTypes := #[5] }, type := 3, pos := "ref.go:123", after := #[{ on := 5, ground := Ground.data }, { on := 2, ground := Ground.chain }], guard := none }) rfl (fun K hK => ?_) AllReadyH.nil
  go_simp
  refine (unhide (d9 _)).mono ?_; rintro e wx ⟨rfl, rfl⟩
  refine hK.out _ _ trivial (fun hHeld => ?_)
  clear hK K
  try simp only [Act.put, List.setIfInBounds_toArray, List.set_cons_zero, List.set_cons_succ]
  refine wpAnyH_take (i := 7) (oi := { dst := some 45, op := Op.binOp BinOp.add 3 (Operand.tmp 41) (Operand.tmp 44) 3, type := 3, pos := "ref.go:123", after := #[{ on := 3, ground := Ground.data }, { on := 6, ground := Ground.data }], guard := none }) (v := ?_) rfl (by kernel_rfl) (by kernel_rfl) (by kernel_rfl) (fun _ _ _ h => h) (Or.inl ⟨by rfl, ?_⟩) (by assumption) ?_
  rotate_left
  · intro wS hSw; (try dsimp only at hSw); go_simp; (try with_reducible rfl)
  try simp only [Act.put, List.setIfInBounds_toArray, List.set_cons_zero, List.set_cons_succ]
  refine wpAnyH_take (i := 8) (oi := { dst := some 46, op := Op.fieldAddr 23 (Operand.tmp 4) 2, type := 0, pos := "ref.go:123", after := #[{ on := 0, ground := Ground.phase }, { on := 1, ground := Ground.phase }, { on := 2, ground := Ground.phase }, { on := 3, ground := Ground.phase }, { on := 4, ground := Ground.phase }, { on := 5, ground := Ground.phase }, { on := 6, ground := Ground.phase }, { on := 7, ground := Ground.phase }], guard := none }) (v := ?_) rfl (by kernel_rfl) (by kernel_rfl) (by kernel_rfl) (fun _ _ _ h => h) (Or.inl ⟨by rfl, ?_⟩) (by assumption) ?_
  rotate_left
  · intro wS hSw; (try dsimp only at hSw); go_simp; (try with_reducible rfl)
  try simp only [Act.put, List.setIfInBounds_toArray, List.set_cons_zero, List.set_cons_succ]
  refine wpAnyH_ready (rs := [9]) (by kernel_rfl) (by simp) ?_
  refine AllReadyH.cons (o := { dst := none, op := Op.store 3 (Operand.tmp 46) (Operand.tmp 45), type := 0, pos := "ref.go:123", after := #[{ on := 8, ground := Ground.data }, { on := 7, ground := Ground.data }, { on := 6, ground := Ground.chain }, { on := 0, ground := Ground.phase }, { on := 1, ground := Ground.phase }, { on := 2, ground := Ground.phase }, { on := 3, ground := Ground.phase }, { on := 4, ground := Ground.phase }, { on := 5, ground := Ground.phase }, { on := 6, ground := Ground.phase }, { on := 7, ground := Ground.phase }], guard := none }) rfl (fun K hK => ?_) AllReadyH.nil
  go_simp
  refine hK.out _ _ trivial (fun hHeld => ?_)
  clear hK K
  try simp only [Act.put, List.setIfInBounds_toArray, List.set_cons_zero, List.set_cons_succ]
  refine wpAnyH_done (by kernel_rfl) ?_ _
  simp only [show IntKind.i64.wrap (10 * x8) = 10 * x8 from IntWalk.i64_in _ (by omega), show IntKind.i64.wrap (10 * x8 + x9) = 10 * x8 + x9 from IntWalk.i64_in _ (by omega)]
  have hb3 := (hb2.setCell (p := ⟨w.heap.size + 1, 2, none⟩) (Nat.le_succ _) (.int .i64 (10 * x8 + x9))).drew
  have bd3 : Blk (W2.setCell ⟨w.heap.size + 1, 2, none⟩ (.int .i64 (10 * x8 + x9))).drew (w.heap.size + 1) 23 #[.int .i64 (1000 * x0 + 100 * x1 + 10 * x2 + x3), .int .i64 (10 * x5 + x6), .int .i64 (10 * x8 + x9)] := (bd2.set_ 2 _).drew
  have bz3 := (bz2.far (p := ⟨w.heap.size + 1, 2, none⟩) (by simp) (.int .i64 (10 * x8 + x9))).drew
  generalize (W2.setCell ⟨w.heap.size + 1, 2, none⟩ (.int .i64 (10 * x8 + x9))).drew = W3 at *
  clear g2 k2 hb2 bd2 bz2
  clear d8
  clear d9
  have k0 : W3.cell? ⟨w.heap.size + 1, 0, none⟩ = some (.int .i64 (1000 * x0 + 100 * x1 + 10 * x2 + x3)) := bd3.cell 0
  have k1 : W3.cell? ⟨w.heap.size + 1, 1, none⟩ = some (.int .i64 (10 * x5 + x6)) := bd3.cell 1
  have k2 : W3.cell? ⟨w.heap.size + 1, 2, none⟩ = some (.int .i64 (10 * x8 + x9)) := bd3.cell 2
  clear e0a e0b
  clear e1a e1b
  clear e2a e2b
  clear e3a e3b
  clear e5a e5b
  clear e6a e6b
  clear e8a e8b
  clear e9a e9b
  go_wp2_with fail
  refine (unhide (hr _)).mono ?_
  rintro e w4 ⟨rfl, hx4⟩
  have bd4 := bd3.below hx4 bd3.lt
  have bz4 := bz3.below hx4 bz3.lt
  have hb4 := hb3.trans (hx4.mono hb3.size)
  clear k0 k1 k2 hr hx4 bd3 bz3 hb3
  have k0 : w4.cell? ⟨w.heap.size + 1, 0, none⟩ = some (.int .i64 (1000 * x0 + 100 * x1 + 10 * x2 + x3)) := bd4.cell 0
  have k1 : w4.cell? ⟨w.heap.size + 1, 1, none⟩ = some (.int .i64 (10 * x5 + x6)) := bd4.cell 1
  have k2 : w4.cell? ⟨w.heap.size + 1, 2, none⟩ = some (.int .i64 (10 * x8 + x9)) := bd4.cell 2
  go_wp2_with fail
  refine (unhide (ht _)).mono ?_
  rintro e w5 ⟨rfl, hx5⟩
  have bd5 := bd4.below hx5 bd4.lt
  have bz5 := bz4.below hx5 bz4.lt
  have hb5 := hb4.trans (hx5.mono hb4.size)
  clear k0 k1 k2 ht hx5 bd4 bz4 hb4
  have k0 : w5.cell? ⟨w.heap.size + 1, 0, none⟩ = some (.int .i64 (1000 * x0 + 100 * x1 + 10 * x2 + x3)) := bd5.cell 0
  have k1 : w5.cell? ⟨w.heap.size + 1, 1, none⟩ = some (.int .i64 (10 * x5 + x6)) := bd5.cell 1
  have k2 : w5.cell? ⟨w.heap.size + 1, 2, none⟩ = some (.int .i64 (10 * x8 + x9)) := bd5.cell 2
  have a0 : w5.cell? ⟨w.heap.size, 0, none⟩ = some (.int .i64 0) := bz5.cell 0
  have f0 := bz5.frozen 0
  have a1 : w5.cell? ⟨w.heap.size, 1, none⟩ = some (.int .i64 0) := bz5.cell 1
  have f1 := bz5.frozen 1
  have a2 : w5.cell? ⟨w.heap.size, 2, none⟩ = some (.int .i64 0) := bz5.cell 2
  have f2 := bz5.frozen 2
  go_wp2
  refine bodyPost_ret (results_row_tmp rfl _ _ w.heap.size 23 #[_, _, _] (0, 0) _ rfl (Blk.eq_ (((bz5.set_ 0 _).set_ 1 _).set_ 2 _) rfl) Tryd.underlying23 rfl (by kernel_rfl)) rfl ⟨rfl, ?_⟩
  exact ((hb5.setCell (by simp) _).setCell (by simp) _).setCell (by simp) _

set_option maxHeartbeats 8000000 in
theorem rparse_bad (b0 b1 b2 b3 b4 b5 b6 b7 b8 b9 : UInt8) (hR : rightB (1000 * digV (b0.toNat : Int) + 100 * digV (b1.toNat : Int) + 10 * digV (b2.toNat : Int) + digV (b3.toNat : Int)) (10 * digV (b5.toNat : Int) + digV (b6.toNat : Int)) (10 * digV (b8.toNat : Int) + digV (b9.toNat : Int)) = false) (w : World) :
    Calls Tryd.prog 26 #[.string ⟨#[b0, b1, b2, b3, b4, b5, b6, b7, b8, b9]⟩] w fun e w' => e = .returned (.tuple #[.agg #[.int .i64 0, .int .i64 0, .int .i64 0], .int .i64 31]) ∧ Below w.heap.size w w' := by
  have d0 := fun W => hide (digit_calls (b0.toNat : Int) (by omega) (by have := b0.toNat_lt; omega) W)
  have e0 := digV_bd (b0.toNat : Int)
  have d1 := fun W => hide (digit_calls (b1.toNat : Int) (by omega) (by have := b1.toNat_lt; omega) W)
  have e1 := digV_bd (b1.toNat : Int)
  have d2 := fun W => hide (digit_calls (b2.toNat : Int) (by omega) (by have := b2.toNat_lt; omega) W)
  have e2 := digV_bd (b2.toNat : Int)
  have d3 := fun W => hide (digit_calls (b3.toNat : Int) (by omega) (by have := b3.toNat_lt; omega) W)
  have e3 := digV_bd (b3.toNat : Int)
  have d5 := fun W => hide (digit_calls (b5.toNat : Int) (by omega) (by have := b5.toNat_lt; omega) W)
  have e5 := digV_bd (b5.toNat : Int)
  have d6 := fun W => hide (digit_calls (b6.toNat : Int) (by omega) (by have := b6.toNat_lt; omega) W)
  have e6 := digV_bd (b6.toNat : Int)
  have d8 := fun W => hide (digit_calls (b8.toNat : Int) (by omega) (by have := b8.toNat_lt; omega) W)
  have e8 := digV_bd (b8.toNat : Int)
  have d9 := fun W => hide (digit_calls (b9.toNat : Int) (by omega) (by have := b9.toNat_lt; omega) W)
  have e9 := digV_bd (b9.toNat : Int)
  generalize digV (b0.toNat : Int) = x0 at *
  generalize digV (b1.toNat : Int) = x1 at *
  generalize digV (b2.toNat : Int) = x2 at *
  generalize digV (b3.toNat : Int) = x3 at *
  generalize digV (b5.toNat : Int) = x5 at *
  generalize digV (b6.toNat : Int) = x6 at *
  generalize digV (b8.toNat : Int) = x8 at *
  generalize digV (b9.toNat : Int) = x9 at *
  have hr := fun W => hide (rright_calls (1000 * x0 + 100 * x1 + 10 * x2 + x3) (10 * x5 + x6) (10 * x8 + x9) W)
  have ht := fun W => hide (rtext_any (1000 * x0 + 100 * x1 + 10 * x2 + x3) (10 * x5 + x6) (10 * x8 + x9) W)
  rw [hR] at hr
  clear ht hR
  obtain ⟨e0a, e0b⟩ := e0
  obtain ⟨e1a, e1b⟩ := e1
  obtain ⟨e2a, e2b⟩ := e2
  obtain ⟨e3a, e3b⟩ := e3
  obtain ⟨e5a, e5b⟩ := e5
  obtain ⟨e6a, e6b⟩ := e6
  obtain ⟨e8a, e8b⟩ := e8
  obtain ⟨e9a, e9b⟩ := e9
  have bz0 : Blk ((w.alloc (.cells #[.int .i64 0, .int .i64 0, .int .i64 0] 23)).alloc (.cells #[.int .i64 0, .int .i64 0, .int .i64 0] 23)) w.heap.size 23 #[.int .i64 0, .int .i64 0, .int .i64 0] := (box3 w _ 0 0 0).alloc _
  have bd0 : Blk ((w.alloc (.cells #[.int .i64 0, .int .i64 0, .int .i64 0] 23)).alloc (.cells #[.int .i64 0, .int .i64 0, .int .i64 0] 23)) (w.heap.size + 1) 23 #[.int .i64 0, .int .i64 0, .int .i64 0] := Blk.of_size (by simp)
  have hb0 := ((Below.refl w.heap.size w).alloc (Nat.le_refl _) (.cells #[.int .i64 0, .int .i64 0, .int .i64 0] 23)).alloc (by simp) (.cells #[.int .i64 0, .int .i64 0, .int .i64 0] 23)
  go_enter Tryd.func26, Tryd.ntmps26
  go_wp2_with fail
  generalize (w.alloc (.cells #[.int .i64 0, .int .i64 0, .int .i64 0] 23)).alloc (.cells #[.int .i64 0, .int .i64 0, .int .i64 0] 23) = W0 at *
  have g0 := bd0.drew.frozen 0
  have k0 : W0.drew.cell? ⟨w.heap.size + 1, 0, none⟩ = some (.int .i64 0) := bd0.drew.cell 0
  refine wp_region_held_drew (S := (fun _ => True)) (by kernel_rfl) trivial (fun hHeld => ?_)
  refine wpAnyH_take (i := 0) (oi := { dst := some 10, op := Op.move (Operand.tmp 0), type := 9, pos := "ref.go:121", after := #[], guard := none }) (v := ?_) rfl (by kernel_rfl) (by kernel_rfl) (by kernel_rfl) (fun _ _ _ h => h) (Or.inl ⟨by rfl, ?_⟩) (by assumption) ?_
  rotate_left
  · intro wS hSw; (try dsimp only at hSw); go_simp; (try with_reducible rfl)
  try simp only [Act.put, List.setIfInBounds_toArray, List.set_cons_zero, List.set_cons_succ]
  refine wpAnyH_take (i := 1) (oi := { dst := some 11, op := Op.index 9 (Operand.tmp 10) (Operand.const (Value.int IntKind.i64 0)), type := 5, pos := "ref.go:121", after := #[{ on := 0, ground := Ground.data }], guard := none }) (v := ?_) rfl (by kernel_rfl) (by kernel_rfl) (by kernel_rfl) (fun _ _ _ h => h) (Or.inl ⟨by rfl, ?_⟩) (by assumption) ?_
  rotate_left
  · intro wS hSw; (try dsimp only at hSw); go_simp; (try with_reducible rfl)
  try simp only [Act.put, List.setIfInBounds_toArray, List.set_cons_zero, List.set_cons_succ]
  refine wpAnyH_take (i := 4) (oi := { dst := some 14, op := Op.move (Operand.tmp 0), type := 9, pos := "ref.go:121", after := #[], guard := none }) (v := ?_) rfl (by kernel_rfl) (by kernel_rfl) (by kernel_rfl) (fun _ _ _ h => h) (Or.inl ⟨by rfl, ?_⟩) (by assumption) ?_
  rotate_left
  · intro wS hSw; (try dsimp only at hSw); go_simp; (try with_reducible rfl)
  try simp only [Act.put, List.setIfInBounds_toArray, List.set_cons_zero, List.set_cons_succ]
  refine wpAnyH_take (i := 5) (oi := { dst := some 15, op := Op.index 9 (Operand.tmp 14) (Operand.const (Value.int IntKind.i64 1)), type := 5, pos := "ref.go:121", after := #[{ on := 4, ground := Ground.data }], guard := none }) (v := ?_) rfl (by kernel_rfl) (by kernel_rfl) (by kernel_rfl) (fun _ _ _ h => h) (Or.inl ⟨by rfl, ?_⟩) (by assumption) ?_
  rotate_left
  · intro wS hSw; (try dsimp only at hSw); go_simp; (try with_reducible rfl)
  try simp only [Act.put, List.setIfInBounds_toArray, List.set_cons_zero, List.set_cons_succ]
  refine wpAnyH_take (i := 9) (oi := { dst := some 19, op := Op.move (Operand.tmp 0), type := 9, pos := "ref.go:121", after := #[], guard := none }) (v := ?_) rfl (by kernel_rfl) (by kernel_rfl) (by kernel_rfl) (fun _ _ _ h => h) (Or.inl ⟨by rfl, ?_⟩) (by assumption) ?_
  rotate_left
  · intro wS hSw; (try dsimp only at hSw); go_simp; (try with_reducible rfl)
  try simp only [Act.put, List.setIfInBounds_toArray, List.set_cons_zero, List.set_cons_succ]
  refine wpAnyH_take (i := 10) (oi := { dst := some 20, op := Op.index 9 (Operand.tmp 19) (Operand.const (Value.int IntKind.i64 2)), type := 5, pos := "ref.go:121", after := #[{ on := 9, ground := Ground.data }], guard := none }) (v := ?_) rfl (by kernel_rfl) (by kernel_rfl) (by kernel_rfl) (fun _ _ _ h => h) (Or.inl ⟨by rfl, ?_⟩) (by assumption) ?_
  rotate_left
  · intro wS hSw; (try dsimp only at hSw); go_simp; (try with_reducible rfl)
  try simp only [Act.put, List.setIfInBounds_toArray, List.set_cons_zero, List.set_cons_succ]
  refine wpAnyH_take (i := 14) (oi := { dst := some 24, op := Op.move (Operand.tmp 0), type := 9, pos := "ref.go:121", after := #[], guard := none }) (v := ?_) rfl (by kernel_rfl) (by kernel_rfl) (by kernel_rfl) (fun _ _ _ h => h) (Or.inl ⟨by rfl, ?_⟩) (by assumption) ?_
  rotate_left
  · intro wS hSw; (try dsimp only at hSw); go_simp; (try with_reducible rfl)
  try simp only [Act.put, List.setIfInBounds_toArray, List.set_cons_zero, List.set_cons_succ]
  refine wpAnyH_take (i := 15) (oi := { dst := some 25, op := Op.index 9 (Operand.tmp 24) (Operand.const (Value.int IntKind.i64 3)), type := 5, pos := "ref.go:121", after := #[{ on := 14, ground := Ground.data }], guard := none }) (v := ?_) rfl (by kernel_rfl) (by kernel_rfl) (by kernel_rfl) (fun _ _ _ h => h) (Or.inl ⟨by rfl, ?_⟩) (by assumption) ?_
  rotate_left
  · intro wS hSw; (try dsimp only at hSw); go_simp; (try with_reducible rfl)
  try simp only [Act.put, List.setIfInBounds_toArray, List.set_cons_zero, List.set_cons_succ]
  refine wpAnyH_ready (rs := [2]) (by kernel_rfl) (by simp) ?_
  refine AllReadyH.cons (o := { dst := some 12, op := Op.call { callee := Callee.value (Operand.func 31), args := #[Operand.tmp 11], argTypes := #[5] }, type := 3, pos := "ref.go:121", after := #[{ on := 1, ground := Ground.data }], guard := none }) rfl (fun K hK => ?_) AllReadyH.nil
  go_simp
  refine (unhide (d0 _)).mono ?_; rintro e wx ⟨rfl, rfl⟩
  refine hK.out _ _ trivial (fun hHeld => ?_)
  clear hK K
  try simp only [Act.put, List.setIfInBounds_toArray, List.set_cons_zero, List.set_cons_succ]
  refine wpAnyH_take (i := 3) (oi := { dst := some 13, op := Op.binOp BinOp.mul 3 (Operand.const (Value.int IntKind.i64 1000)) (Operand.tmp 12) 3, type := 3, pos := "ref.go:121", after := #[{ on := 2, ground := Ground.data }], guard := none }) (v := ?_) rfl (by kernel_rfl) (by kernel_rfl) (by kernel_rfl) (fun _ _ _ h => h) (Or.inl ⟨by rfl, ?_⟩) (by assumption) ?_
  rotate_left
  · intro wS hSw; (try dsimp only at hSw); go_simp; (try with_reducible rfl)
  try simp only [Act.put, List.setIfInBounds_toArray, List.set_cons_zero, List.set_cons_succ]
  refine wpAnyH_ready (rs := [6]) (by kernel_rfl) (by simp) ?_
  refine AllReadyH.cons (o := { dst := some 16, op := Op.call { callee := Callee.value (Operand.func 31), args := #[Operand.tmp 15], argTypes := #[5] }, type := 3, pos := "ref.go:121", after := #[{ on := 5, ground := Ground.data }, { on := 2, ground := Ground.chain }], guard := none }) rfl (fun K hK => ?_) AllReadyH.nil
  go_simp
  refine (unhide (d1 _)).mono ?_; rintro e wx ⟨rfl, rfl⟩
  refine hK.out _ _ trivial (fun hHeld => ?_)
  clear hK K
  try simp only [Act.put, List.setIfInBounds_toArray, List.set_cons_zero, List.set_cons_succ]
  refine wpAnyH_take (i := 7) (oi := { dst := some 17, op := Op.binOp BinOp.mul 3 (Operand.const (Value.int IntKind.i64 100)) (Operand.tmp 16) 3, type := 3, pos := "ref.go:121", after := #[{ on := 6, ground := Ground.data }], guard := none }) (v := ?_) rfl (by kernel_rfl) (by kernel_rfl) (by kernel_rfl) (fun _ _ _ h => h) (Or.inl ⟨by rfl, ?_⟩) (by assumption) ?_
  rotate_left
  · intro wS hSw; (try dsimp only at hSw); go_simp; (try with_reducible rfl)
  try simp only [Act.put, List.setIfInBounds_toArray, List.set_cons_zero, List.set_cons_succ]
  refine wpAnyH_take (i := 8) (oi := { dst := some 18, op := Op.binOp BinOp.add 3 (Operand.tmp 13) (Operand.tmp 17) 3, type := 3, pos := "ref.go:121", after := #[{ on := 3, ground := Ground.data }, { on := 7, ground := Ground.data }], guard := none }) (v := ?_) rfl (by kernel_rfl) (by kernel_rfl) (by kernel_rfl) (fun _ _ _ h => h) (Or.inl ⟨by rfl, ?_⟩) (by assumption) ?_
  rotate_left
  · intro wS hSw; (try dsimp only at hSw); go_simp; (try with_reducible rfl)
  try simp only [Act.put, List.setIfInBounds_toArray, List.set_cons_zero, List.set_cons_succ]
  refine wpAnyH_ready (rs := [11]) (by kernel_rfl) (by simp) ?_
  refine AllReadyH.cons (o := { dst := some 21, op := Op.call { callee := Callee.value (Operand.func 31), args := #[Operand.tmp 20], argTypes := #[5] }, type := 3, pos := "ref.go:121", after := #[{ on := 10, ground := Ground.data }, { on := 6, ground := Ground.chain }], guard := none }) rfl (fun K hK => ?_) AllReadyH.nil
  go_simp
  refine (unhide (d2 _)).mono ?_; rintro e wx ⟨rfl, rfl⟩
  refine hK.out _ _ trivial (fun hHeld => ?_)
  clear hK K
  try simp only [Act.put, List.setIfInBounds_toArray, List.set_cons_zero, List.set_cons_succ]
  refine wpAnyH_take (i := 12) (oi := { dst := some 22, op := Op.binOp BinOp.mul 3 (Operand.const (Value.int IntKind.i64 10)) (Operand.tmp 21) 3, type := 3, pos := "ref.go:121", after := #[{ on := 11, ground := Ground.data }], guard := none }) (v := ?_) rfl (by kernel_rfl) (by kernel_rfl) (by kernel_rfl) (fun _ _ _ h => h) (Or.inl ⟨by rfl, ?_⟩) (by assumption) ?_
  rotate_left
  · intro wS hSw; (try dsimp only at hSw); go_simp; (try with_reducible rfl)
  try simp only [Act.put, List.setIfInBounds_toArray, List.set_cons_zero, List.set_cons_succ]
  refine wpAnyH_take (i := 13) (oi := { dst := some 23, op := Op.binOp BinOp.add 3 (Operand.tmp 18) (Operand.tmp 22) 3, type := 3, pos := "ref.go:121", after := #[{ on := 8, ground := Ground.data }, { on := 12, ground := Ground.data }], guard := none }) (v := ?_) rfl (by kernel_rfl) (by kernel_rfl) (by kernel_rfl) (fun _ _ _ h => h) (Or.inl ⟨by rfl, ?_⟩) (by assumption) ?_
  rotate_left
  · intro wS hSw; (try dsimp only at hSw); go_simp; (try with_reducible rfl)
  try simp only [Act.put, List.setIfInBounds_toArray, List.set_cons_zero, List.set_cons_succ]
  refine wpAnyH_ready (rs := [16]) (by kernel_rfl) (by simp) ?_
  refine AllReadyH.cons (o := { dst := some 26, op := Op.call { callee := Callee.value (Operand.func 31), args := #[Operand.tmp 25], argTypes := #[5] }, type := 3, pos := "ref.go:121", after := #[{ on := 15, ground := Ground.data }, { on := 11, ground := Ground.chain }], guard := none }) rfl (fun K hK => ?_) AllReadyH.nil
  go_simp
  refine (unhide (d3 _)).mono ?_; rintro e wx ⟨rfl, rfl⟩
  refine hK.out _ _ trivial (fun hHeld => ?_)
  clear hK K
  try simp only [Act.put, List.setIfInBounds_toArray, List.set_cons_zero, List.set_cons_succ]
  refine wpAnyH_take (i := 17) (oi := { dst := some 27, op := Op.binOp BinOp.add 3 (Operand.tmp 23) (Operand.tmp 26) 3, type := 3, pos := "ref.go:121", after := #[{ on := 13, ground := Ground.data }, { on := 16, ground := Ground.data }], guard := none }) (v := ?_) rfl (by kernel_rfl) (by kernel_rfl) (by kernel_rfl) (fun _ _ _ h => h) (Or.inl ⟨by rfl, ?_⟩) (by assumption) ?_
  rotate_left
  · intro wS hSw; (try dsimp only at hSw); go_simp; (try with_reducible rfl)
  try simp only [Act.put, List.setIfInBounds_toArray, List.set_cons_zero, List.set_cons_succ]
  refine wpAnyH_take (i := 18) (oi := { dst := some 28, op := Op.fieldAddr 23 (Operand.tmp 4) 0, type := 0, pos := "ref.go:121", after := #[{ on := 0, ground := Ground.phase }, { on := 1, ground := Ground.phase }, { on := 2, ground := Ground.phase }, { on := 3, ground := Ground.phase }, { on := 4, ground := Ground.phase }, { on := 5, ground := Ground.phase }, { on := 6, ground := Ground.phase }, { on := 7, ground := Ground.phase }, { on := 8, ground := Ground.phase }, { on := 9, ground := Ground.phase }, { on := 10, ground := Ground.phase }, { on := 11, ground := Ground.phase }, { on := 12, ground := Ground.phase }, { on := 13, ground := Ground.phase }, { on := 14, ground := Ground.phase }, { on := 15, ground := Ground.phase }, { on := 16, ground := Ground.phase }, { on := 17, ground := Ground.phase }], guard := none }) (v := ?_) rfl (by kernel_rfl) (by kernel_rfl) (by kernel_rfl) (fun _ _ _ h => h) (Or.inl ⟨by rfl, ?_⟩) (by assumption) ?_
  rotate_left
  · intro wS hSw; (try dsimp only at hSw); go_simp; (try with_reducible rfl)
  try simp only [Act.put, List.setIfInBounds_toArray, List.set_cons_zero, List.set_cons_succ]
  refine wpAnyH_ready (rs := [19]) (by kernel_rfl) (by simp) ?_
  refine AllReadyH.cons (o := { dst := none, op := Op.store 3 (Operand.tmp 28) (Operand.tmp 27), type := 0, pos := "ref.go:121", after := #[{ on := 18, ground := Ground.data }, { on := 17, ground := Ground.data }, { on := 16, ground := Ground.chain }, { on := 0, ground := Ground.phase }, { on := 1, ground := Ground.phase }, { on := 2, ground := Ground.phase }, { on := 3, ground := Ground.phase }, { on := 4, ground := Ground.phase }, { on := 5, ground := Ground.phase }, { on := 6, ground := Ground.phase }, { on := 7, ground := Ground.phase }, { on := 8, ground := Ground.phase }, { on := 9, ground := Ground.phase }, { on := 10, ground := Ground.phase }, { on := 11, ground := Ground.phase }, { on := 12, ground := Ground.phase }, { on := 13, ground := Ground.phase }, { on := 14, ground := Ground.phase }, { on := 15, ground := Ground.phase }, { on := 16, ground := Ground.phase }, { on := 17, ground := Ground.phase }], guard := none }) rfl (fun K hK => ?_) AllReadyH.nil
  go_simp
  refine hK.out _ _ trivial (fun hHeld => ?_)
  clear hK K
  try simp only [Act.put, List.setIfInBounds_toArray, List.set_cons_zero, List.set_cons_succ]
  refine wpAnyH_done (by kernel_rfl) ?_ _
  simp only [show IntKind.i64.wrap (1000 * x0) = 1000 * x0 from IntWalk.i64_in _ (by omega), show IntKind.i64.wrap (100 * x1) = 100 * x1 from IntWalk.i64_in _ (by omega), show IntKind.i64.wrap (1000 * x0 + 100 * x1) = 1000 * x0 + 100 * x1 from IntWalk.i64_in _ (by omega), show IntKind.i64.wrap (10 * x2) = 10 * x2 from IntWalk.i64_in _ (by omega), show IntKind.i64.wrap (1000 * x0 + 100 * x1 + 10 * x2) = 1000 * x0 + 100 * x1 + 10 * x2 from IntWalk.i64_in _ (by omega), show IntKind.i64.wrap (1000 * x0 + 100 * x1 + 10 * x2 + x3) = 1000 * x0 + 100 * x1 + 10 * x2 + x3 from IntWalk.i64_in _ (by omega)]
  have hb1 := (hb0.setCell (p := ⟨w.heap.size + 1, 0, none⟩) (Nat.le_succ _) (.int .i64 (1000 * x0 + 100 * x1 + 10 * x2 + x3))).drew
  have bd1 : Blk (W0.setCell ⟨w.heap.size + 1, 0, none⟩ (.int .i64 (1000 * x0 + 100 * x1 + 10 * x2 + x3))).drew (w.heap.size + 1) 23 #[.int .i64 (1000 * x0 + 100 * x1 + 10 * x2 + x3), .int .i64 (0), .int .i64 (0)] := (bd0.set_ 0 _).drew
  have bz1 := (bz0.far (p := ⟨w.heap.size + 1, 0, none⟩) (by simp) (.int .i64 (1000 * x0 + 100 * x1 + 10 * x2 + x3))).drew
  generalize (W0.setCell ⟨w.heap.size + 1, 0, none⟩ (.int .i64 (1000 * x0 + 100 * x1 + 10 * x2 + x3))).drew = W1 at *
  clear g0 k0 hb0 bd0 bz0
  clear d0
  clear d1
  clear d2
  clear d3
  have g1 := bd1.drew.frozen 1
  have k1 : W1.drew.cell? ⟨w.heap.size + 1, 1, none⟩ = some (.int .i64 0) := bd1.drew.cell 1
  go_wp2_with fail
  refine wp_region_held_drew (S := (fun _ => True)) (by kernel_rfl) trivial (fun hHeld => ?_)
  refine wpAnyH_take (i := 0) (oi := { dst := some 29, op := Op.move (Operand.tmp 0), type := 9, pos := "ref.go:122", after := #[], guard := none }) (v := ?_) rfl (by kernel_rfl) (by kernel_rfl) (by kernel_rfl) (fun _ _ _ h => h) (Or.inl ⟨by rfl, ?_⟩) (by assumption) ?_
  rotate_left
  · intro wS hSw; (try dsimp only at hSw); go_simp; (try with_reducible rfl)
  try simp only [Act.put, List.setIfInBounds_toArray, List.set_cons_zero, List.set_cons_succ]
  refine wpAnyH_take (i := 1) (oi := { dst := some 30, op := Op.index 9 (Operand.tmp 29) (Operand.const (Value.int IntKind.i64 5)), type := 5, pos := "ref.go:122", after := #[{ on := 0, ground := Ground.data }], guard := none }) (v := ?_) rfl (by kernel_rfl) (by kernel_rfl) (by kernel_rfl) (fun _ _ _ h => h) (Or.inl ⟨by rfl, ?_⟩) (by assumption) ?_
  rotate_left
  · intro wS hSw; (try dsimp only at hSw); go_simp; (try with_reducible rfl)
  try simp only [Act.put, List.setIfInBounds_toArray, List.set_cons_zero, List.set_cons_succ]
  refine wpAnyH_take (i := 4) (oi := { dst := some 33, op := Op.move (Operand.tmp 0), type := 9, pos := "ref.go:122", after := #[], guard := none }) (v := ?_) rfl (by kernel_rfl) (by kernel_rfl) (by kernel_rfl) (fun _ _ _ h => h) (Or.inl ⟨by rfl, ?_⟩) (by assumption) ?_
  rotate_left
  · intro wS hSw; (try dsimp only at hSw); go_simp; (try with_reducible rfl)
  try simp only [Act.put, List.setIfInBounds_toArray, List.set_cons_zero, List.set_cons_succ]
  refine wpAnyH_take (i := 5) (oi := { dst := some 34, op := Op.index 9 (Operand.tmp 33) (Operand.const (Value.int IntKind.i64 6)), type := 5, pos := "ref.go:122", after := #[{ on := 4, ground := Ground.data }], guard := none }) (v := ?_) rfl (by kernel_rfl) (by kernel_rfl) (by kernel_rfl) (fun _ _ _ h => h) (Or.inl ⟨by rfl, ?_⟩) (by assumption) ?_
  rotate_left
  · intro wS hSw; (try dsimp only at hSw); go_simp; (try with_reducible rfl)
  try simp only [Act.put, List.setIfInBounds_toArray, List.set_cons_zero, List.set_cons_succ]
  refine wpAnyH_ready (rs := [2]) (by kernel_rfl) (by simp) ?_
  refine AllReadyH.cons (o := { dst := some 31, op := Op.call { callee := Callee.value (Operand.func 31), args := #[Operand.tmp 30], argTypes := #[5] }, type := 3, pos := "ref.go:122", after := #[{ on := 1, ground := Ground.data }], guard := none }) rfl (fun K hK => ?_) AllReadyH.nil
  go_simp
  refine (unhide (d5 _)).mono ?_; rintro e wx ⟨rfl, rfl⟩
  refine hK.out _ _ trivial (fun hHeld => ?_)
  clear hK K
  try simp only [Act.put, List.setIfInBounds_toArray, List.set_cons_zero, List.set_cons_succ]
  refine wpAnyH_take (i := 3) (oi := { dst := some 32, op := Op.binOp BinOp.mul 3 (Operand.const (Value.int IntKind.i64 10)) (Operand.tmp 31) 3, type := 3, pos := "ref.go:122", after := #[{ on := 2, ground := Ground.data }], guard := none }) (v := ?_) rfl (by kernel_rfl) (by kernel_rfl) (by kernel_rfl) (fun _ _ _ h => h) (Or.inl ⟨by rfl, ?_⟩) (by assumption) ?_
  rotate_left
  · intro wS hSw; (try dsimp only at hSw); go_simp; (try with_reducible rfl)
  try simp only [Act.put, List.setIfInBounds_toArray, List.set_cons_zero, List.set_cons_succ]
  refine wpAnyH_ready (rs := [6]) (by kernel_rfl) (by simp) ?_
  refine AllReadyH.cons (o := { dst := some 35, op := Op.call { callee := Callee.value (Operand.func 31), args := #[Operand.tmp 34], argTypes := #[5] }, type := 3, pos := "ref.go:122", after := #[{ on := 5, ground := Ground.data }, { on := 2, ground := Ground.chain }], guard := none }) rfl (fun K hK => ?_) AllReadyH.nil
  go_simp
  refine (unhide (d6 _)).mono ?_; rintro e wx ⟨rfl, rfl⟩
  refine hK.out _ _ trivial (fun hHeld => ?_)
  clear hK K
  try simp only [Act.put, List.setIfInBounds_toArray, List.set_cons_zero, List.set_cons_succ]
  refine wpAnyH_take (i := 7) (oi := { dst := some 36, op := Op.binOp BinOp.add 3 (Operand.tmp 32) (Operand.tmp 35) 3, type := 3, pos := "ref.go:122", after := #[{ on := 3, ground := Ground.data }, { on := 6, ground := Ground.data }], guard := none }) (v := ?_) rfl (by kernel_rfl) (by kernel_rfl) (by kernel_rfl) (fun _ _ _ h => h) (Or.inl ⟨by rfl, ?_⟩) (by assumption) ?_
  rotate_left
  · intro wS hSw; (try dsimp only at hSw); go_simp; (try with_reducible rfl)
  try simp only [Act.put, List.setIfInBounds_toArray, List.set_cons_zero, List.set_cons_succ]
  refine wpAnyH_take (i := 8) (oi := { dst := some 37, op := Op.fieldAddr 23 (Operand.tmp 4) 1, type := 0, pos := "ref.go:122", after := #[{ on := 0, ground := Ground.phase }, { on := 1, ground := Ground.phase }, { on := 2, ground := Ground.phase }, { on := 3, ground := Ground.phase }, { on := 4, ground := Ground.phase }, { on := 5, ground := Ground.phase }, { on := 6, ground := Ground.phase }, { on := 7, ground := Ground.phase }], guard := none }) (v := ?_) rfl (by kernel_rfl) (by kernel_rfl) (by kernel_rfl) (fun _ _ _ h => h) (Or.inl ⟨by rfl, ?_⟩) (by assumption) ?_
  rotate_left
  · intro wS hSw; (try dsimp only at hSw); go_simp; (try with_reducible rfl)
  try simp only [Act.put, List.setIfInBounds_toArray, List.set_cons_zero, List.set_cons_succ]
  refine wpAnyH_ready (rs := [9]) (by kernel_rfl) (by simp) ?_
  refine AllReadyH.cons (o := { dst := none, op := Op.store 3 (Operand.tmp 37) (Operand.tmp 36), type := 0, pos := "ref.go:122", after := #[{ on := 8, ground := Ground.data }, { on := 7, ground := Ground.data }, { on := 6, ground := Ground.chain }, { on := 0, ground := Ground.phase }, { on := 1, ground := Ground.phase }, { on := 2, ground := Ground.phase }, { on := 3, ground := Ground.phase }, { on := 4, ground := Ground.phase }, { on := 5, ground := Ground.phase }, { on := 6, ground := Ground.phase }, { on := 7, ground := Ground.phase }], guard := none }) rfl (fun K hK => ?_) AllReadyH.nil
  go_simp
  refine hK.out _ _ trivial (fun hHeld => ?_)
  clear hK K
  try simp only [Act.put, List.setIfInBounds_toArray, List.set_cons_zero, List.set_cons_succ]
  refine wpAnyH_done (by kernel_rfl) ?_ _
  simp only [show IntKind.i64.wrap (10 * x5) = 10 * x5 from IntWalk.i64_in _ (by omega), show IntKind.i64.wrap (10 * x5 + x6) = 10 * x5 + x6 from IntWalk.i64_in _ (by omega)]
  have hb2 := (hb1.setCell (p := ⟨w.heap.size + 1, 1, none⟩) (Nat.le_succ _) (.int .i64 (10 * x5 + x6))).drew
  have bd2 : Blk (W1.setCell ⟨w.heap.size + 1, 1, none⟩ (.int .i64 (10 * x5 + x6))).drew (w.heap.size + 1) 23 #[.int .i64 (1000 * x0 + 100 * x1 + 10 * x2 + x3), .int .i64 (10 * x5 + x6), .int .i64 (0)] := (bd1.set_ 1 _).drew
  have bz2 := (bz1.far (p := ⟨w.heap.size + 1, 1, none⟩) (by simp) (.int .i64 (10 * x5 + x6))).drew
  generalize (W1.setCell ⟨w.heap.size + 1, 1, none⟩ (.int .i64 (10 * x5 + x6))).drew = W2 at *
  clear g1 k1 hb1 bd1 bz1
  clear d5
  clear d6
  have g2 := bd2.drew.frozen 2
  have k2 : W2.drew.cell? ⟨w.heap.size + 1, 2, none⟩ = some (.int .i64 0) := bd2.drew.cell 2
  go_wp2_with fail
  refine wp_region_held_drew (S := (fun _ => True)) (by kernel_rfl) trivial (fun hHeld => ?_)
  refine wpAnyH_take (i := 0) (oi := { dst := some 38, op := Op.move (Operand.tmp 0), type := 9, pos := "ref.go:123", after := #[], guard := none }) (v := ?_) rfl (by kernel_rfl) (by kernel_rfl) (by kernel_rfl) (fun _ _ _ h => h) (Or.inl ⟨by rfl, ?_⟩) (by assumption) ?_
  rotate_left
  · intro wS hSw; (try dsimp only at hSw); go_simp; (try with_reducible rfl)
  try simp only [Act.put, List.setIfInBounds_toArray, List.set_cons_zero, List.set_cons_succ]
  refine wpAnyH_take (i := 1) (oi := { dst := some 39, op := Op.index 9 (Operand.tmp 38) (Operand.const (Value.int IntKind.i64 8)), type := 5, pos := "ref.go:123", after := #[{ on := 0, ground := Ground.data }], guard := none }) (v := ?_) rfl (by kernel_rfl) (by kernel_rfl) (by kernel_rfl) (fun _ _ _ h => h) (Or.inl ⟨by rfl, ?_⟩) (by assumption) ?_
  rotate_left
  · intro wS hSw; (try dsimp only at hSw); go_simp; (try with_reducible rfl)
  try simp only [Act.put, List.setIfInBounds_toArray, List.set_cons_zero, List.set_cons_succ]
  refine wpAnyH_take (i := 4) (oi := { dst := some 42, op := Op.move (Operand.tmp 0), type := 9, pos := "ref.go:123", after := #[], guard := none }) (v := ?_) rfl (by kernel_rfl) (by kernel_rfl) (by kernel_rfl) (fun _ _ _ h => h) (Or.inl ⟨by rfl, ?_⟩) (by assumption) ?_
  rotate_left
  · intro wS hSw; (try dsimp only at hSw); go_simp; (try with_reducible rfl)
  try simp only [Act.put, List.setIfInBounds_toArray, List.set_cons_zero, List.set_cons_succ]
  refine wpAnyH_take (i := 5) (oi := { dst := some 43, op := Op.index 9 (Operand.tmp 42) (Operand.const (Value.int IntKind.i64 9)), type := 5, pos := "ref.go:123", after := #[{ on := 4, ground := Ground.data }], guard := none }) (v := ?_) rfl (by kernel_rfl) (by kernel_rfl) (by kernel_rfl) (fun _ _ _ h => h) (Or.inl ⟨by rfl, ?_⟩) (by assumption) ?_
  rotate_left
  · intro wS hSw; (try dsimp only at hSw); go_simp; (try with_reducible rfl)
  try simp only [Act.put, List.setIfInBounds_toArray, List.set_cons_zero, List.set_cons_succ]
  refine wpAnyH_ready (rs := [2]) (by kernel_rfl) (by simp) ?_
  refine AllReadyH.cons (o := { dst := some 40, op := Op.call { callee := Callee.value (Operand.func 31), args := #[Operand.tmp 39], argTypes := #[5] }, type := 3, pos := "ref.go:123", after := #[{ on := 1, ground := Ground.data }], guard := none }) rfl (fun K hK => ?_) AllReadyH.nil
  go_simp
  refine (unhide (d8 _)).mono ?_; rintro e wx ⟨rfl, rfl⟩
  refine hK.out _ _ trivial (fun hHeld => ?_)
  clear hK K
  try simp only [Act.put, List.setIfInBounds_toArray, List.set_cons_zero, List.set_cons_succ]
  refine wpAnyH_take (i := 3) (oi := { dst := some 41, op := Op.binOp BinOp.mul 3 (Operand.const (Value.int IntKind.i64 10)) (Operand.tmp 40) 3, type := 3, pos := "ref.go:123", after := #[{ on := 2, ground := Ground.data }], guard := none }) (v := ?_) rfl (by kernel_rfl) (by kernel_rfl) (by kernel_rfl) (fun _ _ _ h => h) (Or.inl ⟨by rfl, ?_⟩) (by assumption) ?_
  rotate_left
  · intro wS hSw; (try dsimp only at hSw); go_simp; (try with_reducible rfl)
  try simp only [Act.put, List.setIfInBounds_toArray, List.set_cons_zero, List.set_cons_succ]
  refine wpAnyH_ready (rs := [6]) (by kernel_rfl) (by simp) ?_
  refine AllReadyH.cons (o := { dst := some 44, op := Op.call { callee := Callee.value (Operand.func 31), args := #[Operand.tmp 43], argTypes := #[5] }, type := 3, pos := "ref.go:123", after := #[{ on := 5, ground := Ground.data }, { on := 2, ground := Ground.chain }], guard := none }) rfl (fun K hK => ?_) AllReadyH.nil
  go_simp
  refine (unhide (d9 _)).mono ?_; rintro e wx ⟨rfl, rfl⟩
  refine hK.out _ _ trivial (fun hHeld => ?_)
  clear hK K
  try simp only [Act.put, List.setIfInBounds_toArray, List.set_cons_zero, List.set_cons_succ]
  refine wpAnyH_take (i := 7) (oi := { dst := some 45, op := Op.binOp BinOp.add 3 (Operand.tmp 41) (Operand.tmp 44) 3, type := 3, pos := "ref.go:123", after := #[{ on := 3, ground := Ground.data }, { on := 6, ground := Ground.data }], guard := none }) (v := ?_) rfl (by kernel_rfl) (by kernel_rfl) (by kernel_rfl) (fun _ _ _ h => h) (Or.inl ⟨by rfl, ?_⟩) (by assumption) ?_
  rotate_left
  · intro wS hSw; (try dsimp only at hSw); go_simp; (try with_reducible rfl)
  try simp only [Act.put, List.setIfInBounds_toArray, List.set_cons_zero, List.set_cons_succ]
  refine wpAnyH_take (i := 8) (oi := { dst := some 46, op := Op.fieldAddr 23 (Operand.tmp 4) 2, type := 0, pos := "ref.go:123", after := #[{ on := 0, ground := Ground.phase }, { on := 1, ground := Ground.phase }, { on := 2, ground := Ground.phase }, { on := 3, ground := Ground.phase }, { on := 4, ground := Ground.phase }, { on := 5, ground := Ground.phase }, { on := 6, ground := Ground.phase }, { on := 7, ground := Ground.phase }], guard := none }) (v := ?_) rfl (by kernel_rfl) (by kernel_rfl) (by kernel_rfl) (fun _ _ _ h => h) (Or.inl ⟨by rfl, ?_⟩) (by assumption) ?_
  rotate_left
  · intro wS hSw; (try dsimp only at hSw); go_simp; (try with_reducible rfl)
  try simp only [Act.put, List.setIfInBounds_toArray, List.set_cons_zero, List.set_cons_succ]
  refine wpAnyH_ready (rs := [9]) (by kernel_rfl) (by simp) ?_
  refine AllReadyH.cons (o := { dst := none, op := Op.store 3 (Operand.tmp 46) (Operand.tmp 45), type := 0, pos := "ref.go:123", after := #[{ on := 8, ground := Ground.data }, { on := 7, ground := Ground.data }, { on := 6, ground := Ground.chain }, { on := 0, ground := Ground.phase }, { on := 1, ground := Ground.phase }, { on := 2, ground := Ground.phase }, { on := 3, ground := Ground.phase }, { on := 4, ground := Ground.phase }, { on := 5, ground := Ground.phase }, { on := 6, ground := Ground.phase }, { on := 7, ground := Ground.phase }], guard := none }) rfl (fun K hK => ?_) AllReadyH.nil
  go_simp
  refine hK.out _ _ trivial (fun hHeld => ?_)
  clear hK K
  try simp only [Act.put, List.setIfInBounds_toArray, List.set_cons_zero, List.set_cons_succ]
  refine wpAnyH_done (by kernel_rfl) ?_ _
  simp only [show IntKind.i64.wrap (10 * x8) = 10 * x8 from IntWalk.i64_in _ (by omega), show IntKind.i64.wrap (10 * x8 + x9) = 10 * x8 + x9 from IntWalk.i64_in _ (by omega)]
  have hb3 := (hb2.setCell (p := ⟨w.heap.size + 1, 2, none⟩) (Nat.le_succ _) (.int .i64 (10 * x8 + x9))).drew
  have bd3 : Blk (W2.setCell ⟨w.heap.size + 1, 2, none⟩ (.int .i64 (10 * x8 + x9))).drew (w.heap.size + 1) 23 #[.int .i64 (1000 * x0 + 100 * x1 + 10 * x2 + x3), .int .i64 (10 * x5 + x6), .int .i64 (10 * x8 + x9)] := (bd2.set_ 2 _).drew
  have bz3 := (bz2.far (p := ⟨w.heap.size + 1, 2, none⟩) (by simp) (.int .i64 (10 * x8 + x9))).drew
  generalize (W2.setCell ⟨w.heap.size + 1, 2, none⟩ (.int .i64 (10 * x8 + x9))).drew = W3 at *
  clear g2 k2 hb2 bd2 bz2
  clear d8
  clear d9
  have k0 : W3.cell? ⟨w.heap.size + 1, 0, none⟩ = some (.int .i64 (1000 * x0 + 100 * x1 + 10 * x2 + x3)) := bd3.cell 0
  have k1 : W3.cell? ⟨w.heap.size + 1, 1, none⟩ = some (.int .i64 (10 * x5 + x6)) := bd3.cell 1
  have k2 : W3.cell? ⟨w.heap.size + 1, 2, none⟩ = some (.int .i64 (10 * x8 + x9)) := bd3.cell 2
  clear e0a e0b
  clear e1a e1b
  clear e2a e2b
  clear e3a e3b
  clear e5a e5b
  clear e6a e6b
  clear e8a e8b
  clear e9a e9b
  go_wp2_with fail
  refine (unhide (hr _)).mono ?_
  rintro e w4 ⟨rfl, hx4⟩
  have bd4 := bd3.below hx4 bd3.lt
  have bz4 := bz3.below hx4 bz3.lt
  have hb4 := hb3.trans (hx4.mono hb3.size)
  clear k0 k1 k2 hr hx4 bd3 bz3 hb3
  have k0 : w4.cell? ⟨w.heap.size + 1, 0, none⟩ = some (.int .i64 (1000 * x0 + 100 * x1 + 10 * x2 + x3)) := bd4.cell 0
  have k1 : w4.cell? ⟨w.heap.size + 1, 1, none⟩ = some (.int .i64 (10 * x5 + x6)) := bd4.cell 1
  have k2 : w4.cell? ⟨w.heap.size + 1, 2, none⟩ = some (.int .i64 (10 * x8 + x9)) := bd4.cell 2
  have a0 : w4.cell? ⟨w.heap.size, 0, none⟩ = some (.int .i64 0) := bz4.cell 0
  have f0 := bz4.frozen 0
  have a1 : w4.cell? ⟨w.heap.size, 1, none⟩ = some (.int .i64 0) := bz4.cell 1
  have f1 := bz4.frozen 1
  have a2 : w4.cell? ⟨w.heap.size, 2, none⟩ = some (.int .i64 0) := bz4.cell 2
  have f2 := bz4.frozen 2
  go_wp2
  refine bodyPost_ret (results_row_tmp rfl _ _ w.heap.size 23 #[_, _, _] (0, 0) _ rfl (Blk.eq_ (((bz4.set_ 0 _).set_ 1 _).set_ 2 _) rfl) Tryd.underlying23 rfl (by kernel_rfl)) rfl ⟨rfl, ?_⟩
  exact ((hb4.setCell (by simp) _).setCell (by simp) _).setCell (by simp) _

set_option maxHeartbeats 8000000 in
theorem rparse_no (b0 b1 b2 b3 b4 b5 b6 b7 b8 b9 : UInt8) (hR : rightB (1000 * digV (b0.toNat : Int) + 100 * digV (b1.toNat : Int) + 10 * digV (b2.toNat : Int) + digV (b3.toNat : Int)) (10 * digV (b5.toNat : Int) + digV (b6.toNat : Int)) (10 * digV (b8.toNat : Int) + digV (b9.toNat : Int)) = true) (hq : txV (1000 * digV (b0.toNat : Int) + 100 * digV (b1.toNat : Int) + 10 * digV (b2.toNat : Int) + digV (b3.toNat : Int)) (10 * digV (b5.toNat : Int) + digV (b6.toNat : Int)) (10 * digV (b8.toNat : Int) + digV (b9.toNat : Int)) ≠ ⟨#[b0, b1, b2, b3, b4, b5, b6, b7, b8, b9]⟩) (w : World) :
    Calls Tryd.prog 26 #[.string ⟨#[b0, b1, b2, b3, b4, b5, b6, b7, b8, b9]⟩] w fun e w' => e = .returned (.tuple #[.agg #[.int .i64 0, .int .i64 0, .int .i64 0], .int .i64 31]) ∧ Below w.heap.size w w' := by
  have d0 := fun W => hide (digit_calls (b0.toNat : Int) (by omega) (by have := b0.toNat_lt; omega) W)
  have e0 := digV_bd (b0.toNat : Int)
  have d1 := fun W => hide (digit_calls (b1.toNat : Int) (by omega) (by have := b1.toNat_lt; omega) W)
  have e1 := digV_bd (b1.toNat : Int)
  have d2 := fun W => hide (digit_calls (b2.toNat : Int) (by omega) (by have := b2.toNat_lt; omega) W)
  have e2 := digV_bd (b2.toNat : Int)
  have d3 := fun W => hide (digit_calls (b3.toNat : Int) (by omega) (by have := b3.toNat_lt; omega) W)
  have e3 := digV_bd (b3.toNat : Int)
  have d5 := fun W => hide (digit_calls (b5.toNat : Int) (by omega) (by have := b5.toNat_lt; omega) W)
  have e5 := digV_bd (b5.toNat : Int)
  have d6 := fun W => hide (digit_calls (b6.toNat : Int) (by omega) (by have := b6.toNat_lt; omega) W)
  have e6 := digV_bd (b6.toNat : Int)
  have d8 := fun W => hide (digit_calls (b8.toNat : Int) (by omega) (by have := b8.toNat_lt; omega) W)
  have e8 := digV_bd (b8.toNat : Int)
  have d9 := fun W => hide (digit_calls (b9.toNat : Int) (by omega) (by have := b9.toNat_lt; omega) W)
  have e9 := digV_bd (b9.toNat : Int)
  generalize digV (b0.toNat : Int) = x0 at *
  generalize digV (b1.toNat : Int) = x1 at *
  generalize digV (b2.toNat : Int) = x2 at *
  generalize digV (b3.toNat : Int) = x3 at *
  generalize digV (b5.toNat : Int) = x5 at *
  generalize digV (b6.toNat : Int) = x6 at *
  generalize digV (b8.toNat : Int) = x8 at *
  generalize digV (b9.toNat : Int) = x9 at *
  have hr := fun W => hide (rright_calls (1000 * x0 + 100 * x1 + 10 * x2 + x3) (10 * x5 + x6) (10 * x8 + x9) W)
  have ht := fun W => hide (rtext_any (1000 * x0 + 100 * x1 + 10 * x2 + x3) (10 * x5 + x6) (10 * x8 + x9) W)
  rw [hR] at hr
  clear hR
  generalize txV (1000 * x0 + 100 * x1 + 10 * x2 + x3) (10 * x5 + x6) (10 * x8 + x9) = TX at *
  have kq : (TX.toList == [b0, b1, b2, b3, b4, b5, b6, b7, b8, b9]) = false := beq_eq_false_iff_ne.2 (fun h => hq (list_inj (h.trans (ByteArray.toList_eq ⟨#[b0, b1, b2, b3, b4, b5, b6, b7, b8, b9]⟩).symm)))
  clear hq
  obtain ⟨e0a, e0b⟩ := e0
  obtain ⟨e1a, e1b⟩ := e1
  obtain ⟨e2a, e2b⟩ := e2
  obtain ⟨e3a, e3b⟩ := e3
  obtain ⟨e5a, e5b⟩ := e5
  obtain ⟨e6a, e6b⟩ := e6
  obtain ⟨e8a, e8b⟩ := e8
  obtain ⟨e9a, e9b⟩ := e9
  have bz0 : Blk ((w.alloc (.cells #[.int .i64 0, .int .i64 0, .int .i64 0] 23)).alloc (.cells #[.int .i64 0, .int .i64 0, .int .i64 0] 23)) w.heap.size 23 #[.int .i64 0, .int .i64 0, .int .i64 0] := (box3 w _ 0 0 0).alloc _
  have bd0 : Blk ((w.alloc (.cells #[.int .i64 0, .int .i64 0, .int .i64 0] 23)).alloc (.cells #[.int .i64 0, .int .i64 0, .int .i64 0] 23)) (w.heap.size + 1) 23 #[.int .i64 0, .int .i64 0, .int .i64 0] := Blk.of_size (by simp)
  have hb0 := ((Below.refl w.heap.size w).alloc (Nat.le_refl _) (.cells #[.int .i64 0, .int .i64 0, .int .i64 0] 23)).alloc (by simp) (.cells #[.int .i64 0, .int .i64 0, .int .i64 0] 23)
  go_enter Tryd.func26, Tryd.ntmps26
  go_wp2_with fail
  generalize (w.alloc (.cells #[.int .i64 0, .int .i64 0, .int .i64 0] 23)).alloc (.cells #[.int .i64 0, .int .i64 0, .int .i64 0] 23) = W0 at *
  have g0 := bd0.drew.frozen 0
  have k0 : W0.drew.cell? ⟨w.heap.size + 1, 0, none⟩ = some (.int .i64 0) := bd0.drew.cell 0
  refine wp_region_held_drew (S := (fun _ => True)) (by kernel_rfl) trivial (fun hHeld => ?_)
  refine wpAnyH_take (i := 0) (oi := { dst := some 10, op := Op.move (Operand.tmp 0), type := 9, pos := "ref.go:121", after := #[], guard := none }) (v := ?_) rfl (by kernel_rfl) (by kernel_rfl) (by kernel_rfl) (fun _ _ _ h => h) (Or.inl ⟨by rfl, ?_⟩) (by assumption) ?_
  rotate_left
  · intro wS hSw; (try dsimp only at hSw); go_simp; (try with_reducible rfl)
  try simp only [Act.put, List.setIfInBounds_toArray, List.set_cons_zero, List.set_cons_succ]
  refine wpAnyH_take (i := 1) (oi := { dst := some 11, op := Op.index 9 (Operand.tmp 10) (Operand.const (Value.int IntKind.i64 0)), type := 5, pos := "ref.go:121", after := #[{ on := 0, ground := Ground.data }], guard := none }) (v := ?_) rfl (by kernel_rfl) (by kernel_rfl) (by kernel_rfl) (fun _ _ _ h => h) (Or.inl ⟨by rfl, ?_⟩) (by assumption) ?_
  rotate_left
  · intro wS hSw; (try dsimp only at hSw); go_simp; (try with_reducible rfl)
  try simp only [Act.put, List.setIfInBounds_toArray, List.set_cons_zero, List.set_cons_succ]
  refine wpAnyH_take (i := 4) (oi := { dst := some 14, op := Op.move (Operand.tmp 0), type := 9, pos := "ref.go:121", after := #[], guard := none }) (v := ?_) rfl (by kernel_rfl) (by kernel_rfl) (by kernel_rfl) (fun _ _ _ h => h) (Or.inl ⟨by rfl, ?_⟩) (by assumption) ?_
  rotate_left
  · intro wS hSw; (try dsimp only at hSw); go_simp; (try with_reducible rfl)
  try simp only [Act.put, List.setIfInBounds_toArray, List.set_cons_zero, List.set_cons_succ]
  refine wpAnyH_take (i := 5) (oi := { dst := some 15, op := Op.index 9 (Operand.tmp 14) (Operand.const (Value.int IntKind.i64 1)), type := 5, pos := "ref.go:121", after := #[{ on := 4, ground := Ground.data }], guard := none }) (v := ?_) rfl (by kernel_rfl) (by kernel_rfl) (by kernel_rfl) (fun _ _ _ h => h) (Or.inl ⟨by rfl, ?_⟩) (by assumption) ?_
  rotate_left
  · intro wS hSw; (try dsimp only at hSw); go_simp; (try with_reducible rfl)
  try simp only [Act.put, List.setIfInBounds_toArray, List.set_cons_zero, List.set_cons_succ]
  refine wpAnyH_take (i := 9) (oi := { dst := some 19, op := Op.move (Operand.tmp 0), type := 9, pos := "ref.go:121", after := #[], guard := none }) (v := ?_) rfl (by kernel_rfl) (by kernel_rfl) (by kernel_rfl) (fun _ _ _ h => h) (Or.inl ⟨by rfl, ?_⟩) (by assumption) ?_
  rotate_left
  · intro wS hSw; (try dsimp only at hSw); go_simp; (try with_reducible rfl)
  try simp only [Act.put, List.setIfInBounds_toArray, List.set_cons_zero, List.set_cons_succ]
  refine wpAnyH_take (i := 10) (oi := { dst := some 20, op := Op.index 9 (Operand.tmp 19) (Operand.const (Value.int IntKind.i64 2)), type := 5, pos := "ref.go:121", after := #[{ on := 9, ground := Ground.data }], guard := none }) (v := ?_) rfl (by kernel_rfl) (by kernel_rfl) (by kernel_rfl) (fun _ _ _ h => h) (Or.inl ⟨by rfl, ?_⟩) (by assumption) ?_
  rotate_left
  · intro wS hSw; (try dsimp only at hSw); go_simp; (try with_reducible rfl)
  try simp only [Act.put, List.setIfInBounds_toArray, List.set_cons_zero, List.set_cons_succ]
  refine wpAnyH_take (i := 14) (oi := { dst := some 24, op := Op.move (Operand.tmp 0), type := 9, pos := "ref.go:121", after := #[], guard := none }) (v := ?_) rfl (by kernel_rfl) (by kernel_rfl) (by kernel_rfl) (fun _ _ _ h => h) (Or.inl ⟨by rfl, ?_⟩) (by assumption) ?_
  rotate_left
  · intro wS hSw; (try dsimp only at hSw); go_simp; (try with_reducible rfl)
  try simp only [Act.put, List.setIfInBounds_toArray, List.set_cons_zero, List.set_cons_succ]
  refine wpAnyH_take (i := 15) (oi := { dst := some 25, op := Op.index 9 (Operand.tmp 24) (Operand.const (Value.int IntKind.i64 3)), type := 5, pos := "ref.go:121", after := #[{ on := 14, ground := Ground.data }], guard := none }) (v := ?_) rfl (by kernel_rfl) (by kernel_rfl) (by kernel_rfl) (fun _ _ _ h => h) (Or.inl ⟨by rfl, ?_⟩) (by assumption) ?_
  rotate_left
  · intro wS hSw; (try dsimp only at hSw); go_simp; (try with_reducible rfl)
  try simp only [Act.put, List.setIfInBounds_toArray, List.set_cons_zero, List.set_cons_succ]
  refine wpAnyH_ready (rs := [2]) (by kernel_rfl) (by simp) ?_
  refine AllReadyH.cons (o := { dst := some 12, op := Op.call { callee := Callee.value (Operand.func 31), args := #[Operand.tmp 11], argTypes := #[5] }, type := 3, pos := "ref.go:121", after := #[{ on := 1, ground := Ground.data }], guard := none }) rfl (fun K hK => ?_) AllReadyH.nil
  go_simp
  refine (unhide (d0 _)).mono ?_; rintro e wx ⟨rfl, rfl⟩
  refine hK.out _ _ trivial (fun hHeld => ?_)
  clear hK K
  try simp only [Act.put, List.setIfInBounds_toArray, List.set_cons_zero, List.set_cons_succ]
  refine wpAnyH_take (i := 3) (oi := { dst := some 13, op := Op.binOp BinOp.mul 3 (Operand.const (Value.int IntKind.i64 1000)) (Operand.tmp 12) 3, type := 3, pos := "ref.go:121", after := #[{ on := 2, ground := Ground.data }], guard := none }) (v := ?_) rfl (by kernel_rfl) (by kernel_rfl) (by kernel_rfl) (fun _ _ _ h => h) (Or.inl ⟨by rfl, ?_⟩) (by assumption) ?_
  rotate_left
  · intro wS hSw; (try dsimp only at hSw); go_simp; (try with_reducible rfl)
  try simp only [Act.put, List.setIfInBounds_toArray, List.set_cons_zero, List.set_cons_succ]
  refine wpAnyH_ready (rs := [6]) (by kernel_rfl) (by simp) ?_
  refine AllReadyH.cons (o := { dst := some 16, op := Op.call { callee := Callee.value (Operand.func 31), args := #[Operand.tmp 15], argTypes := #[5] }, type := 3, pos := "ref.go:121", after := #[{ on := 5, ground := Ground.data }, { on := 2, ground := Ground.chain }], guard := none }) rfl (fun K hK => ?_) AllReadyH.nil
  go_simp
  refine (unhide (d1 _)).mono ?_; rintro e wx ⟨rfl, rfl⟩
  refine hK.out _ _ trivial (fun hHeld => ?_)
  clear hK K
  try simp only [Act.put, List.setIfInBounds_toArray, List.set_cons_zero, List.set_cons_succ]
  refine wpAnyH_take (i := 7) (oi := { dst := some 17, op := Op.binOp BinOp.mul 3 (Operand.const (Value.int IntKind.i64 100)) (Operand.tmp 16) 3, type := 3, pos := "ref.go:121", after := #[{ on := 6, ground := Ground.data }], guard := none }) (v := ?_) rfl (by kernel_rfl) (by kernel_rfl) (by kernel_rfl) (fun _ _ _ h => h) (Or.inl ⟨by rfl, ?_⟩) (by assumption) ?_
  rotate_left
  · intro wS hSw; (try dsimp only at hSw); go_simp; (try with_reducible rfl)
  try simp only [Act.put, List.setIfInBounds_toArray, List.set_cons_zero, List.set_cons_succ]
  refine wpAnyH_take (i := 8) (oi := { dst := some 18, op := Op.binOp BinOp.add 3 (Operand.tmp 13) (Operand.tmp 17) 3, type := 3, pos := "ref.go:121", after := #[{ on := 3, ground := Ground.data }, { on := 7, ground := Ground.data }], guard := none }) (v := ?_) rfl (by kernel_rfl) (by kernel_rfl) (by kernel_rfl) (fun _ _ _ h => h) (Or.inl ⟨by rfl, ?_⟩) (by assumption) ?_
  rotate_left
  · intro wS hSw; (try dsimp only at hSw); go_simp; (try with_reducible rfl)
  try simp only [Act.put, List.setIfInBounds_toArray, List.set_cons_zero, List.set_cons_succ]
  refine wpAnyH_ready (rs := [11]) (by kernel_rfl) (by simp) ?_
  refine AllReadyH.cons (o := { dst := some 21, op := Op.call { callee := Callee.value (Operand.func 31), args := #[Operand.tmp 20], argTypes := #[5] }, type := 3, pos := "ref.go:121", after := #[{ on := 10, ground := Ground.data }, { on := 6, ground := Ground.chain }], guard := none }) rfl (fun K hK => ?_) AllReadyH.nil
  go_simp
  refine (unhide (d2 _)).mono ?_; rintro e wx ⟨rfl, rfl⟩
  refine hK.out _ _ trivial (fun hHeld => ?_)
  clear hK K
  try simp only [Act.put, List.setIfInBounds_toArray, List.set_cons_zero, List.set_cons_succ]
  refine wpAnyH_take (i := 12) (oi := { dst := some 22, op := Op.binOp BinOp.mul 3 (Operand.const (Value.int IntKind.i64 10)) (Operand.tmp 21) 3, type := 3, pos := "ref.go:121", after := #[{ on := 11, ground := Ground.data }], guard := none }) (v := ?_) rfl (by kernel_rfl) (by kernel_rfl) (by kernel_rfl) (fun _ _ _ h => h) (Or.inl ⟨by rfl, ?_⟩) (by assumption) ?_
  rotate_left
  · intro wS hSw; (try dsimp only at hSw); go_simp; (try with_reducible rfl)
  try simp only [Act.put, List.setIfInBounds_toArray, List.set_cons_zero, List.set_cons_succ]
  refine wpAnyH_take (i := 13) (oi := { dst := some 23, op := Op.binOp BinOp.add 3 (Operand.tmp 18) (Operand.tmp 22) 3, type := 3, pos := "ref.go:121", after := #[{ on := 8, ground := Ground.data }, { on := 12, ground := Ground.data }], guard := none }) (v := ?_) rfl (by kernel_rfl) (by kernel_rfl) (by kernel_rfl) (fun _ _ _ h => h) (Or.inl ⟨by rfl, ?_⟩) (by assumption) ?_
  rotate_left
  · intro wS hSw; (try dsimp only at hSw); go_simp; (try with_reducible rfl)
  try simp only [Act.put, List.setIfInBounds_toArray, List.set_cons_zero, List.set_cons_succ]
  refine wpAnyH_ready (rs := [16]) (by kernel_rfl) (by simp) ?_
  refine AllReadyH.cons (o := { dst := some 26, op := Op.call { callee := Callee.value (Operand.func 31), args := #[Operand.tmp 25], argTypes := #[5] }, type := 3, pos := "ref.go:121", after := #[{ on := 15, ground := Ground.data }, { on := 11, ground := Ground.chain }], guard := none }) rfl (fun K hK => ?_) AllReadyH.nil
  go_simp
  refine (unhide (d3 _)).mono ?_; rintro e wx ⟨rfl, rfl⟩
  refine hK.out _ _ trivial (fun hHeld => ?_)
  clear hK K
  try simp only [Act.put, List.setIfInBounds_toArray, List.set_cons_zero, List.set_cons_succ]
  refine wpAnyH_take (i := 17) (oi := { dst := some 27, op := Op.binOp BinOp.add 3 (Operand.tmp 23) (Operand.tmp 26) 3, type := 3, pos := "ref.go:121", after := #[{ on := 13, ground := Ground.data }, { on := 16, ground := Ground.data }], guard := none }) (v := ?_) rfl (by kernel_rfl) (by kernel_rfl) (by kernel_rfl) (fun _ _ _ h => h) (Or.inl ⟨by rfl, ?_⟩) (by assumption) ?_
  rotate_left
  · intro wS hSw; (try dsimp only at hSw); go_simp; (try with_reducible rfl)
  try simp only [Act.put, List.setIfInBounds_toArray, List.set_cons_zero, List.set_cons_succ]
  refine wpAnyH_take (i := 18) (oi := { dst := some 28, op := Op.fieldAddr 23 (Operand.tmp 4) 0, type := 0, pos := "ref.go:121", after := #[{ on := 0, ground := Ground.phase }, { on := 1, ground := Ground.phase }, { on := 2, ground := Ground.phase }, { on := 3, ground := Ground.phase }, { on := 4, ground := Ground.phase }, { on := 5, ground := Ground.phase }, { on := 6, ground := Ground.phase }, { on := 7, ground := Ground.phase }, { on := 8, ground := Ground.phase }, { on := 9, ground := Ground.phase }, { on := 10, ground := Ground.phase }, { on := 11, ground := Ground.phase }, { on := 12, ground := Ground.phase }, { on := 13, ground := Ground.phase }, { on := 14, ground := Ground.phase }, { on := 15, ground := Ground.phase }, { on := 16, ground := Ground.phase }, { on := 17, ground := Ground.phase }], guard := none }) (v := ?_) rfl (by kernel_rfl) (by kernel_rfl) (by kernel_rfl) (fun _ _ _ h => h) (Or.inl ⟨by rfl, ?_⟩) (by assumption) ?_
  rotate_left
  · intro wS hSw; (try dsimp only at hSw); go_simp; (try with_reducible rfl)
  try simp only [Act.put, List.setIfInBounds_toArray, List.set_cons_zero, List.set_cons_succ]
  refine wpAnyH_ready (rs := [19]) (by kernel_rfl) (by simp) ?_
  refine AllReadyH.cons (o := { dst := none, op := Op.store 3 (Operand.tmp 28) (Operand.tmp 27), type := 0, pos := "ref.go:121", after := #[{ on := 18, ground := Ground.data }, { on := 17, ground := Ground.data }, { on := 16, ground := Ground.chain }, { on := 0, ground := Ground.phase }, { on := 1, ground := Ground.phase }, { on := 2, ground := Ground.phase }, { on := 3, ground := Ground.phase }, { on := 4, ground := Ground.phase }, { on := 5, ground := Ground.phase }, { on := 6, ground := Ground.phase }, { on := 7, ground := Ground.phase }, { on := 8, ground := Ground.phase }, { on := 9, ground := Ground.phase }, { on := 10, ground := Ground.phase }, { on := 11, ground := Ground.phase }, { on := 12, ground := Ground.phase }, { on := 13, ground := Ground.phase }, { on := 14, ground := Ground.phase }, { on := 15, ground := Ground.phase }, { on := 16, ground := Ground.phase }, { on := 17, ground := Ground.phase }], guard := none }) rfl (fun K hK => ?_) AllReadyH.nil
  go_simp
  refine hK.out _ _ trivial (fun hHeld => ?_)
  clear hK K
  try simp only [Act.put, List.setIfInBounds_toArray, List.set_cons_zero, List.set_cons_succ]
  refine wpAnyH_done (by kernel_rfl) ?_ _
  simp only [show IntKind.i64.wrap (1000 * x0) = 1000 * x0 from IntWalk.i64_in _ (by omega), show IntKind.i64.wrap (100 * x1) = 100 * x1 from IntWalk.i64_in _ (by omega), show IntKind.i64.wrap (1000 * x0 + 100 * x1) = 1000 * x0 + 100 * x1 from IntWalk.i64_in _ (by omega), show IntKind.i64.wrap (10 * x2) = 10 * x2 from IntWalk.i64_in _ (by omega), show IntKind.i64.wrap (1000 * x0 + 100 * x1 + 10 * x2) = 1000 * x0 + 100 * x1 + 10 * x2 from IntWalk.i64_in _ (by omega), show IntKind.i64.wrap (1000 * x0 + 100 * x1 + 10 * x2 + x3) = 1000 * x0 + 100 * x1 + 10 * x2 + x3 from IntWalk.i64_in _ (by omega)]
  have hb1 := (hb0.setCell (p := ⟨w.heap.size + 1, 0, none⟩) (Nat.le_succ _) (.int .i64 (1000 * x0 + 100 * x1 + 10 * x2 + x3))).drew
  have bd1 : Blk (W0.setCell ⟨w.heap.size + 1, 0, none⟩ (.int .i64 (1000 * x0 + 100 * x1 + 10 * x2 + x3))).drew (w.heap.size + 1) 23 #[.int .i64 (1000 * x0 + 100 * x1 + 10 * x2 + x3), .int .i64 (0), .int .i64 (0)] := (bd0.set_ 0 _).drew
  have bz1 := (bz0.far (p := ⟨w.heap.size + 1, 0, none⟩) (by simp) (.int .i64 (1000 * x0 + 100 * x1 + 10 * x2 + x3))).drew
  generalize (W0.setCell ⟨w.heap.size + 1, 0, none⟩ (.int .i64 (1000 * x0 + 100 * x1 + 10 * x2 + x3))).drew = W1 at *
  clear g0 k0 hb0 bd0 bz0
  clear d0
  clear d1
  clear d2
  clear d3
  have g1 := bd1.drew.frozen 1
  have k1 : W1.drew.cell? ⟨w.heap.size + 1, 1, none⟩ = some (.int .i64 0) := bd1.drew.cell 1
  go_wp2_with fail
  refine wp_region_held_drew (S := (fun _ => True)) (by kernel_rfl) trivial (fun hHeld => ?_)
  refine wpAnyH_take (i := 0) (oi := { dst := some 29, op := Op.move (Operand.tmp 0), type := 9, pos := "ref.go:122", after := #[], guard := none }) (v := ?_) rfl (by kernel_rfl) (by kernel_rfl) (by kernel_rfl) (fun _ _ _ h => h) (Or.inl ⟨by rfl, ?_⟩) (by assumption) ?_
  rotate_left
  · intro wS hSw; (try dsimp only at hSw); go_simp; (try with_reducible rfl)
  try simp only [Act.put, List.setIfInBounds_toArray, List.set_cons_zero, List.set_cons_succ]
  refine wpAnyH_take (i := 1) (oi := { dst := some 30, op := Op.index 9 (Operand.tmp 29) (Operand.const (Value.int IntKind.i64 5)), type := 5, pos := "ref.go:122", after := #[{ on := 0, ground := Ground.data }], guard := none }) (v := ?_) rfl (by kernel_rfl) (by kernel_rfl) (by kernel_rfl) (fun _ _ _ h => h) (Or.inl ⟨by rfl, ?_⟩) (by assumption) ?_
  rotate_left
  · intro wS hSw; (try dsimp only at hSw); go_simp; (try with_reducible rfl)
  try simp only [Act.put, List.setIfInBounds_toArray, List.set_cons_zero, List.set_cons_succ]
  refine wpAnyH_take (i := 4) (oi := { dst := some 33, op := Op.move (Operand.tmp 0), type := 9, pos := "ref.go:122", after := #[], guard := none }) (v := ?_) rfl (by kernel_rfl) (by kernel_rfl) (by kernel_rfl) (fun _ _ _ h => h) (Or.inl ⟨by rfl, ?_⟩) (by assumption) ?_
  rotate_left
  · intro wS hSw; (try dsimp only at hSw); go_simp; (try with_reducible rfl)
  try simp only [Act.put, List.setIfInBounds_toArray, List.set_cons_zero, List.set_cons_succ]
  refine wpAnyH_take (i := 5) (oi := { dst := some 34, op := Op.index 9 (Operand.tmp 33) (Operand.const (Value.int IntKind.i64 6)), type := 5, pos := "ref.go:122", after := #[{ on := 4, ground := Ground.data }], guard := none }) (v := ?_) rfl (by kernel_rfl) (by kernel_rfl) (by kernel_rfl) (fun _ _ _ h => h) (Or.inl ⟨by rfl, ?_⟩) (by assumption) ?_
  rotate_left
  · intro wS hSw; (try dsimp only at hSw); go_simp; (try with_reducible rfl)
  try simp only [Act.put, List.setIfInBounds_toArray, List.set_cons_zero, List.set_cons_succ]
  refine wpAnyH_ready (rs := [2]) (by kernel_rfl) (by simp) ?_
  refine AllReadyH.cons (o := { dst := some 31, op := Op.call { callee := Callee.value (Operand.func 31), args := #[Operand.tmp 30], argTypes := #[5] }, type := 3, pos := "ref.go:122", after := #[{ on := 1, ground := Ground.data }], guard := none }) rfl (fun K hK => ?_) AllReadyH.nil
  go_simp
  refine (unhide (d5 _)).mono ?_; rintro e wx ⟨rfl, rfl⟩
  refine hK.out _ _ trivial (fun hHeld => ?_)
  clear hK K
  try simp only [Act.put, List.setIfInBounds_toArray, List.set_cons_zero, List.set_cons_succ]
  refine wpAnyH_take (i := 3) (oi := { dst := some 32, op := Op.binOp BinOp.mul 3 (Operand.const (Value.int IntKind.i64 10)) (Operand.tmp 31) 3, type := 3, pos := "ref.go:122", after := #[{ on := 2, ground := Ground.data }], guard := none }) (v := ?_) rfl (by kernel_rfl) (by kernel_rfl) (by kernel_rfl) (fun _ _ _ h => h) (Or.inl ⟨by rfl, ?_⟩) (by assumption) ?_
  rotate_left
  · intro wS hSw; (try dsimp only at hSw); go_simp; (try with_reducible rfl)
  try simp only [Act.put, List.setIfInBounds_toArray, List.set_cons_zero, List.set_cons_succ]
  refine wpAnyH_ready (rs := [6]) (by kernel_rfl) (by simp) ?_
  refine AllReadyH.cons (o := { dst := some 35, op := Op.call { callee := Callee.value (Operand.func 31), args := #[Operand.tmp 34], argTypes := #[5] }, type := 3, pos := "ref.go:122", after := #[{ on := 5, ground := Ground.data }, { on := 2, ground := Ground.chain }], guard := none }) rfl (fun K hK => ?_) AllReadyH.nil
  go_simp
  refine (unhide (d6 _)).mono ?_; rintro e wx ⟨rfl, rfl⟩
  refine hK.out _ _ trivial (fun hHeld => ?_)
  clear hK K
  try simp only [Act.put, List.setIfInBounds_toArray, List.set_cons_zero, List.set_cons_succ]
  refine wpAnyH_take (i := 7) (oi := { dst := some 36, op := Op.binOp BinOp.add 3 (Operand.tmp 32) (Operand.tmp 35) 3, type := 3, pos := "ref.go:122", after := #[{ on := 3, ground := Ground.data }, { on := 6, ground := Ground.data }], guard := none }) (v := ?_) rfl (by kernel_rfl) (by kernel_rfl) (by kernel_rfl) (fun _ _ _ h => h) (Or.inl ⟨by rfl, ?_⟩) (by assumption) ?_
  rotate_left
  · intro wS hSw; (try dsimp only at hSw); go_simp; (try with_reducible rfl)
  try simp only [Act.put, List.setIfInBounds_toArray, List.set_cons_zero, List.set_cons_succ]
  refine wpAnyH_take (i := 8) (oi := { dst := some 37, op := Op.fieldAddr 23 (Operand.tmp 4) 1, type := 0, pos := "ref.go:122", after := #[{ on := 0, ground := Ground.phase }, { on := 1, ground := Ground.phase }, { on := 2, ground := Ground.phase }, { on := 3, ground := Ground.phase }, { on := 4, ground := Ground.phase }, { on := 5, ground := Ground.phase }, { on := 6, ground := Ground.phase }, { on := 7, ground := Ground.phase }], guard := none }) (v := ?_) rfl (by kernel_rfl) (by kernel_rfl) (by kernel_rfl) (fun _ _ _ h => h) (Or.inl ⟨by rfl, ?_⟩) (by assumption) ?_
  rotate_left
  · intro wS hSw; (try dsimp only at hSw); go_simp; (try with_reducible rfl)
  try simp only [Act.put, List.setIfInBounds_toArray, List.set_cons_zero, List.set_cons_succ]
  refine wpAnyH_ready (rs := [9]) (by kernel_rfl) (by simp) ?_
  refine AllReadyH.cons (o := { dst := none, op := Op.store 3 (Operand.tmp 37) (Operand.tmp 36), type := 0, pos := "ref.go:122", after := #[{ on := 8, ground := Ground.data }, { on := 7, ground := Ground.data }, { on := 6, ground := Ground.chain }, { on := 0, ground := Ground.phase }, { on := 1, ground := Ground.phase }, { on := 2, ground := Ground.phase }, { on := 3, ground := Ground.phase }, { on := 4, ground := Ground.phase }, { on := 5, ground := Ground.phase }, { on := 6, ground := Ground.phase }, { on := 7, ground := Ground.phase }], guard := none }) rfl (fun K hK => ?_) AllReadyH.nil
  go_simp
  refine hK.out _ _ trivial (fun hHeld => ?_)
  clear hK K
  try simp only [Act.put, List.setIfInBounds_toArray, List.set_cons_zero, List.set_cons_succ]
  refine wpAnyH_done (by kernel_rfl) ?_ _
  simp only [show IntKind.i64.wrap (10 * x5) = 10 * x5 from IntWalk.i64_in _ (by omega), show IntKind.i64.wrap (10 * x5 + x6) = 10 * x5 + x6 from IntWalk.i64_in _ (by omega)]
  have hb2 := (hb1.setCell (p := ⟨w.heap.size + 1, 1, none⟩) (Nat.le_succ _) (.int .i64 (10 * x5 + x6))).drew
  have bd2 : Blk (W1.setCell ⟨w.heap.size + 1, 1, none⟩ (.int .i64 (10 * x5 + x6))).drew (w.heap.size + 1) 23 #[.int .i64 (1000 * x0 + 100 * x1 + 10 * x2 + x3), .int .i64 (10 * x5 + x6), .int .i64 (0)] := (bd1.set_ 1 _).drew
  have bz2 := (bz1.far (p := ⟨w.heap.size + 1, 1, none⟩) (by simp) (.int .i64 (10 * x5 + x6))).drew
  generalize (W1.setCell ⟨w.heap.size + 1, 1, none⟩ (.int .i64 (10 * x5 + x6))).drew = W2 at *
  clear g1 k1 hb1 bd1 bz1
  clear d5
  clear d6
  have g2 := bd2.drew.frozen 2
  have k2 : W2.drew.cell? ⟨w.heap.size + 1, 2, none⟩ = some (.int .i64 0) := bd2.drew.cell 2
  go_wp2_with fail
  refine wp_region_held_drew (S := (fun _ => True)) (by kernel_rfl) trivial (fun hHeld => ?_)
  refine wpAnyH_take (i := 0) (oi := { dst := some 38, op := Op.move (Operand.tmp 0), type := 9, pos := "ref.go:123", after := #[], guard := none }) (v := ?_) rfl (by kernel_rfl) (by kernel_rfl) (by kernel_rfl) (fun _ _ _ h => h) (Or.inl ⟨by rfl, ?_⟩) (by assumption) ?_
  rotate_left
  · intro wS hSw; (try dsimp only at hSw); go_simp; (try with_reducible rfl)
  try simp only [Act.put, List.setIfInBounds_toArray, List.set_cons_zero, List.set_cons_succ]
  refine wpAnyH_take (i := 1) (oi := { dst := some 39, op := Op.index 9 (Operand.tmp 38) (Operand.const (Value.int IntKind.i64 8)), type := 5, pos := "ref.go:123", after := #[{ on := 0, ground := Ground.data }], guard := none }) (v := ?_) rfl (by kernel_rfl) (by kernel_rfl) (by kernel_rfl) (fun _ _ _ h => h) (Or.inl ⟨by rfl, ?_⟩) (by assumption) ?_
  rotate_left
  · intro wS hSw; (try dsimp only at hSw); go_simp; (try with_reducible rfl)
  try simp only [Act.put, List.setIfInBounds_toArray, List.set_cons_zero, List.set_cons_succ]
  refine wpAnyH_take (i := 4) (oi := { dst := some 42, op := Op.move (Operand.tmp 0), type := 9, pos := "ref.go:123", after := #[], guard := none }) (v := ?_) rfl (by kernel_rfl) (by kernel_rfl) (by kernel_rfl) (fun _ _ _ h => h) (Or.inl ⟨by rfl, ?_⟩) (by assumption) ?_
  rotate_left
  · intro wS hSw; (try dsimp only at hSw); go_simp; (try with_reducible rfl)
  try simp only [Act.put, List.setIfInBounds_toArray, List.set_cons_zero, List.set_cons_succ]
  refine wpAnyH_take (i := 5) (oi := { dst := some 43, op := Op.index 9 (Operand.tmp 42) (Operand.const (Value.int IntKind.i64 9)), type := 5, pos := "ref.go:123", after := #[{ on := 4, ground := Ground.data }], guard := none }) (v := ?_) rfl (by kernel_rfl) (by kernel_rfl) (by kernel_rfl) (fun _ _ _ h => h) (Or.inl ⟨by rfl, ?_⟩) (by assumption) ?_
  rotate_left
  · intro wS hSw; (try dsimp only at hSw); go_simp; (try with_reducible rfl)
  try simp only [Act.put, List.setIfInBounds_toArray, List.set_cons_zero, List.set_cons_succ]
  refine wpAnyH_ready (rs := [2]) (by kernel_rfl) (by simp) ?_
  refine AllReadyH.cons (o := { dst := some 40, op := Op.call { callee := Callee.value (Operand.func 31), args := #[Operand.tmp 39], argTypes := #[5] }, type := 3, pos := "ref.go:123", after := #[{ on := 1, ground := Ground.data }], guard := none }) rfl (fun K hK => ?_) AllReadyH.nil
  go_simp
  refine (unhide (d8 _)).mono ?_; rintro e wx ⟨rfl, rfl⟩
  refine hK.out _ _ trivial (fun hHeld => ?_)
  clear hK K
  try simp only [Act.put, List.setIfInBounds_toArray, List.set_cons_zero, List.set_cons_succ]
  refine wpAnyH_take (i := 3) (oi := { dst := some 41, op := Op.binOp BinOp.mul 3 (Operand.const (Value.int IntKind.i64 10)) (Operand.tmp 40) 3, type := 3, pos := "ref.go:123", after := #[{ on := 2, ground := Ground.data }], guard := none }) (v := ?_) rfl (by kernel_rfl) (by kernel_rfl) (by kernel_rfl) (fun _ _ _ h => h) (Or.inl ⟨by rfl, ?_⟩) (by assumption) ?_
  rotate_left
  · intro wS hSw; (try dsimp only at hSw); go_simp; (try with_reducible rfl)
  try simp only [Act.put, List.setIfInBounds_toArray, List.set_cons_zero, List.set_cons_succ]
  refine wpAnyH_ready (rs := [6]) (by kernel_rfl) (by simp) ?_
  refine AllReadyH.cons (o := { dst := some 44, op := Op.call { callee := Callee.value (Operand.func 31), args := #[Operand.tmp 43], argTypes := #[5] }, type := 3, pos := "ref.go:123", after := #[{ on := 5, ground := Ground.data }, { on := 2, ground := Ground.chain }], guard := none }) rfl (fun K hK => ?_) AllReadyH.nil
  go_simp
  refine (unhide (d9 _)).mono ?_; rintro e wx ⟨rfl, rfl⟩
  refine hK.out _ _ trivial (fun hHeld => ?_)
  clear hK K
  try simp only [Act.put, List.setIfInBounds_toArray, List.set_cons_zero, List.set_cons_succ]
  refine wpAnyH_take (i := 7) (oi := { dst := some 45, op := Op.binOp BinOp.add 3 (Operand.tmp 41) (Operand.tmp 44) 3, type := 3, pos := "ref.go:123", after := #[{ on := 3, ground := Ground.data }, { on := 6, ground := Ground.data }], guard := none }) (v := ?_) rfl (by kernel_rfl) (by kernel_rfl) (by kernel_rfl) (fun _ _ _ h => h) (Or.inl ⟨by rfl, ?_⟩) (by assumption) ?_
  rotate_left
  · intro wS hSw; (try dsimp only at hSw); go_simp; (try with_reducible rfl)
  try simp only [Act.put, List.setIfInBounds_toArray, List.set_cons_zero, List.set_cons_succ]
  refine wpAnyH_take (i := 8) (oi := { dst := some 46, op := Op.fieldAddr 23 (Operand.tmp 4) 2, type := 0, pos := "ref.go:123", after := #[{ on := 0, ground := Ground.phase }, { on := 1, ground := Ground.phase }, { on := 2, ground := Ground.phase }, { on := 3, ground := Ground.phase }, { on := 4, ground := Ground.phase }, { on := 5, ground := Ground.phase }, { on := 6, ground := Ground.phase }, { on := 7, ground := Ground.phase }], guard := none }) (v := ?_) rfl (by kernel_rfl) (by kernel_rfl) (by kernel_rfl) (fun _ _ _ h => h) (Or.inl ⟨by rfl, ?_⟩) (by assumption) ?_
  rotate_left
  · intro wS hSw; (try dsimp only at hSw); go_simp; (try with_reducible rfl)
  try simp only [Act.put, List.setIfInBounds_toArray, List.set_cons_zero, List.set_cons_succ]
  refine wpAnyH_ready (rs := [9]) (by kernel_rfl) (by simp) ?_
  refine AllReadyH.cons (o := { dst := none, op := Op.store 3 (Operand.tmp 46) (Operand.tmp 45), type := 0, pos := "ref.go:123", after := #[{ on := 8, ground := Ground.data }, { on := 7, ground := Ground.data }, { on := 6, ground := Ground.chain }, { on := 0, ground := Ground.phase }, { on := 1, ground := Ground.phase }, { on := 2, ground := Ground.phase }, { on := 3, ground := Ground.phase }, { on := 4, ground := Ground.phase }, { on := 5, ground := Ground.phase }, { on := 6, ground := Ground.phase }, { on := 7, ground := Ground.phase }], guard := none }) rfl (fun K hK => ?_) AllReadyH.nil
  go_simp
  refine hK.out _ _ trivial (fun hHeld => ?_)
  clear hK K
  try simp only [Act.put, List.setIfInBounds_toArray, List.set_cons_zero, List.set_cons_succ]
  refine wpAnyH_done (by kernel_rfl) ?_ _
  simp only [show IntKind.i64.wrap (10 * x8) = 10 * x8 from IntWalk.i64_in _ (by omega), show IntKind.i64.wrap (10 * x8 + x9) = 10 * x8 + x9 from IntWalk.i64_in _ (by omega)]
  have hb3 := (hb2.setCell (p := ⟨w.heap.size + 1, 2, none⟩) (Nat.le_succ _) (.int .i64 (10 * x8 + x9))).drew
  have bd3 : Blk (W2.setCell ⟨w.heap.size + 1, 2, none⟩ (.int .i64 (10 * x8 + x9))).drew (w.heap.size + 1) 23 #[.int .i64 (1000 * x0 + 100 * x1 + 10 * x2 + x3), .int .i64 (10 * x5 + x6), .int .i64 (10 * x8 + x9)] := (bd2.set_ 2 _).drew
  have bz3 := (bz2.far (p := ⟨w.heap.size + 1, 2, none⟩) (by simp) (.int .i64 (10 * x8 + x9))).drew
  generalize (W2.setCell ⟨w.heap.size + 1, 2, none⟩ (.int .i64 (10 * x8 + x9))).drew = W3 at *
  clear g2 k2 hb2 bd2 bz2
  clear d8
  clear d9
  have k0 : W3.cell? ⟨w.heap.size + 1, 0, none⟩ = some (.int .i64 (1000 * x0 + 100 * x1 + 10 * x2 + x3)) := bd3.cell 0
  have k1 : W3.cell? ⟨w.heap.size + 1, 1, none⟩ = some (.int .i64 (10 * x5 + x6)) := bd3.cell 1
  have k2 : W3.cell? ⟨w.heap.size + 1, 2, none⟩ = some (.int .i64 (10 * x8 + x9)) := bd3.cell 2
  clear e0a e0b
  clear e1a e1b
  clear e2a e2b
  clear e3a e3b
  clear e5a e5b
  clear e6a e6b
  clear e8a e8b
  clear e9a e9b
  go_wp2_with fail
  refine (unhide (hr _)).mono ?_
  rintro e w4 ⟨rfl, hx4⟩
  have bd4 := bd3.below hx4 bd3.lt
  have bz4 := bz3.below hx4 bz3.lt
  have hb4 := hb3.trans (hx4.mono hb3.size)
  clear k0 k1 k2 hr hx4 bd3 bz3 hb3
  have k0 : w4.cell? ⟨w.heap.size + 1, 0, none⟩ = some (.int .i64 (1000 * x0 + 100 * x1 + 10 * x2 + x3)) := bd4.cell 0
  have k1 : w4.cell? ⟨w.heap.size + 1, 1, none⟩ = some (.int .i64 (10 * x5 + x6)) := bd4.cell 1
  have k2 : w4.cell? ⟨w.heap.size + 1, 2, none⟩ = some (.int .i64 (10 * x8 + x9)) := bd4.cell 2
  go_wp2_with fail
  refine (unhide (ht _)).mono ?_
  rintro e w5 ⟨rfl, hx5⟩
  have bd5 := bd4.below hx5 bd4.lt
  have bz5 := bz4.below hx5 bz4.lt
  have hb5 := hb4.trans (hx5.mono hb4.size)
  clear k0 k1 k2 ht hx5 bd4 bz4 hb4
  have k0 : w5.cell? ⟨w.heap.size + 1, 0, none⟩ = some (.int .i64 (1000 * x0 + 100 * x1 + 10 * x2 + x3)) := bd5.cell 0
  have k1 : w5.cell? ⟨w.heap.size + 1, 1, none⟩ = some (.int .i64 (10 * x5 + x6)) := bd5.cell 1
  have k2 : w5.cell? ⟨w.heap.size + 1, 2, none⟩ = some (.int .i64 (10 * x8 + x9)) := bd5.cell 2
  have a0 : w5.cell? ⟨w.heap.size, 0, none⟩ = some (.int .i64 0) := bz5.cell 0
  have f0 := bz5.frozen 0
  have a1 : w5.cell? ⟨w.heap.size, 1, none⟩ = some (.int .i64 0) := bz5.cell 1
  have f1 := bz5.frozen 1
  have a2 : w5.cell? ⟨w.heap.size, 2, none⟩ = some (.int .i64 0) := bz5.cell 2
  have f2 := bz5.frozen 2
  go_wp2
  refine bodyPost_ret (results_row_tmp rfl _ _ w.heap.size 23 #[_, _, _] (0, 0) _ rfl (Blk.eq_ (((bz5.set_ 0 _).set_ 1 _).set_ 2 _) rfl) Tryd.underlying23 rfl (by kernel_rfl)) rfl ⟨rfl, ?_⟩
  exact ((hb5.setCell (by simp) _).setCell (by simp) _).setCell (by simp) _

end Go.Proofs.YtnjjkehoabghhaaDoor
