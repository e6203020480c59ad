/- The walk of Back's law. -/
import Derived.Test.YtnjjkehoabghhaaDoorCivW
namespace Go.Proofs.YtnjjkehoabghhaaDoor.civilBack
open Go.RowKit
set_option linter.unusedVariables false

theorem of_num {y m d : Int} (h : rightB y m d = true) : ofY (numI y m d) = y ∧ ofM (numI y m d) = m ∧ ofD (numI y m d) = d ∧ ofE (numI y m d) = 0 := by
  have hr := num_range h
  obtain ⟨e1, e2, e3⟩ := date_of h rfl
  have hi : inB (numI y m d) = true := (inB_iff _).2 hr
  unfold ofY ofM ofD ofE
  rw [hi]
  exact ⟨e1.symm, e2.symm, e3.symm, rfl⟩
theorem num_of {n : Int} (h : inB n = true) : numR (ofY n) (ofM n) (ofD n) = n ∧ errR (ofY n) (ofM n) (ofD n) = 0 := by
  obtain ⟨h0, h1⟩ := (inB_iff n).1 h
  obtain ⟨hr, hn⟩ := date_right n h0 h1
  unfold numR errR ofY ofM ofD
  simp only [h, if_true]
  rw [hr, hn]
  exact ⟨rfl, rfl⟩
theorem parse_text {y m d : Int} (h : rightB y m d = true) : prY (txV y m d) = y ∧ prM (txV y m d) = m ∧ prD (txV y m d) = d ∧ prE (txV y m d) = 0 := by
  obtain ⟨e0, e1, e2, e3⟩ := text_reads h rfl
  have ho : okP (txV y m d) = true := decide_eq_true ⟨e0, by rw [e1, e2, e3]⟩
  unfold prY prM prD prE
  rw [ho]
  exact ⟨e1, e2, e3, rfl⟩
theorem text_parse {s : ByteArray} (h : okP s = true) : txV (prY s) (prM s) (prD s) = s := by
  unfold prY prM prD
  rw [h]
  exact (of_decide_eq_true h).2

set_option maxHeartbeats 8000000 in
theorem walkttt (y m d n : Int) (s : ByteArray) (nu k2 e2 y2 m2 d2 y3 m3 d3 : Int) (TX : ByteArray) (w : World) (hT : TabW w) (hE : ErrW w)
    (hN1 : ∀ W, Hid (Calls Tryd.prog 11 #[.agg #[.int .i64 y, .int .i64 m, .int .i64 d]] W fun e w' => e = .returned (.tuple #[.int .i64 nu, .int .i64 0]) ∧ Below W.heap.size W w'))
    (hR1 : ∀ W, Hid (Calls Tryd.prog 14 #[.agg #[.int .i64 y, .int .i64 m, .int .i64 d]] W fun e w' => e = .returned (.bool true) ∧ Below W.heap.size W w'))
    (hO1 : ∀ W, Hid (Calls Tryd.prog 10 #[.int .i64 nu] W fun e w' => e = .returned (.tuple #[.agg #[.int .i64 y, .int .i64 m, .int .i64 d], .int .i64 0]) ∧ Below W.heap.size W w'))
    (hT1 : ∀ W, TabW W → Hid (Calls Tryd.prog 20 #[.agg #[.int .i64 y, .int .i64 m, .int .i64 d]] W fun e w' => e = .returned (.string TX) ∧ Below W.heap.size W w'))
    (hP1 : ∀ W, TabW W → ErrW W → Hid (Calls Tryd.prog 25 #[.string TX] W fun e w' => e = .returned (.tuple #[.agg #[.int .i64 y, .int .i64 m, .int .i64 d], .int .i64 0]) ∧ Below W.heap.size W w'))
    (hO2 : ∀ W, Hid (Calls Tryd.prog 10 #[.int .i64 n] W fun e w' => e = .returned (.tuple #[.agg #[.int .i64 y2, .int .i64 m2, .int .i64 d2], .int .i64 0]) ∧ Below W.heap.size W w'))
    (hN2 : ∀ W, Hid (Calls Tryd.prog 11 #[.agg #[.int .i64 y2, .int .i64 m2, .int .i64 d2]] W fun e w' => e = .returned (.tuple #[.int .i64 n, .int .i64 0]) ∧ Below W.heap.size W w'))
    (hP2 : ∀ W, TabW W → ErrW W → Hid (Calls Tryd.prog 25 #[.string s] W fun e w' => e = .returned (.tuple #[.agg #[.int .i64 y3, .int .i64 m3, .int .i64 d3], .int .i64 0]) ∧ Below W.heap.size W w'))
    (hT2 : ∀ W, TabW W → Hid (Calls Tryd.prog 20 #[.agg #[.int .i64 y3, .int .i64 m3, .int .i64 d3]] W fun e w' => e = .returned (.string s) ∧ Below W.heap.size W w')) : Calls Tryd.prog 9 #[.agg #[.int .i64 y, .int .i64 m, .int .i64 d], .int .i64 n, .string s] w fun e w' => e = .returned (.bool true) ∧ Below w.heap.size w w' := by
  have hpos : 0 < w.heap.size := by
    obtain ⟨ev, h1, h2⟩ := hE
    exact cell_lt h1
  have hal := fun W h => hide (alive_calls W h)
  have hD0 := SX.new w y m d
  have hb0 := hD0.2.2.2.2
  go_enter Tryd.func9, Tryd.ntmps9
  go_wp2_with fail
  refine (unhide (hal _ (hT.on hb0))).mono ?_
  rintro e w1 ⟨rfl, x1⟩
  have hb1 := hb0.trans (x1.mono hb0.size)
  have hD1 := hD0.on x1
  clear hal x1 hb0 hD0
  have chD0 := hD1.1
  have chD1 := hD1.2.1
  have chD2 := hD1.2.2.1
  go_wp2_with fail
  refine (unhide (hN1 _)).mono ?_
  rintro e w2 ⟨rfl, x2⟩
  clear chD0 chD1 chD2
  have hb2 := hb1.trans (x2.mono hb1.size)
  have hD2 := hD1.on x2
  clear hN1 x2 hb1 hD1
  have chD0 := hD2.1
  have chD1 := hD2.2.1
  have chD2 := hD2.2.2.1
  go_wp2_with fail
  refine (unhide (hR1 _)).mono ?_
  rintro e w3 ⟨rfl, x3⟩
  clear chD0 chD1 chD2
  have hb3 := hb2.trans (x3.mono hb2.size)
  have hD3 := hD2.on x3
  clear hR1 x3 hb2 hD2
  have chD0 := hD3.1
  have chD1 := hD3.2.1
  have chD2 := hD3.2.2.1
  go_wp2_with fail
  refine (unhide (hO1 _)).mono ?_
  rintro e w4 ⟨rfl, x4⟩
  clear chD0 chD1 chD2
  have hb4 := hb3.trans (x4.mono hb3.size)
  have hD4 := hD3.on x4
  clear hO1 x4 hb3 hD3
  have hX5 := SX.new w4 y m d
  have hD5 := hD4.on hX5.2.2.2.2
  have hb5 := hb4.trans (hX5.2.2.2.2.mono hb4.size)
  clear hb4 hD4
  have chD0 := hD5.1
  have chD1 := hD5.2.1
  have chD2 := hD5.2.2.1
  go_wp2_with fail
  refine (unhide (hT1 _ (hT.on hb5))).mono ?_
  rintro e w6 ⟨rfl, x6⟩
  clear chD0 chD1 chD2
  have hb6 := hb5.trans (x6.mono hb5.size)
  have hD6 := hD5.on x6
  have hX6 := hX5.on x6
  clear hT1 x6 hb5 hD5 hX5
  go_wp2_with fail
  refine (unhide (hP1 _ (hT.on hb6) (hE.on hb6 hpos))).mono ?_
  rintro e w7 ⟨rfl, x7⟩
  have hb7 := hb6.trans (x7.mono hb6.size)
  have hD7 := hD6.on x7
  have hX7 := hX6.on x7
  clear hP1 x7 hb6 hD6 hX6
  have hY8 := SX.new w7 y m d
  have hD8 := hD7.on hY8.2.2.2.2
  have hX8 := hX7.on hY8.2.2.2.2
  have hb8 := hb7.trans (hY8.2.2.2.2.mono hb7.size)
  clear hb7 hD7 hX7
  have chD0 := hD8.1
  have chD1 := hD8.2.1
  have chD2 := hD8.2.2.1
  have chX0 := hX8.1
  have chX1 := hX8.2.1
  have chX2 := hX8.2.2.1
  have chY0 := hY8.1
  have chY1 := hY8.2.1
  have chY2 := hY8.2.2.1
  go_wp2_with fail
  refine (unhide (hO2 _)).mono ?_
  rintro e w9 ⟨rfl, x9⟩
  clear chD0 chD1 chD2 chX0 chX1 chX2 chY0 chY1 chY2
  have hb9 := hb8.trans (x9.mono hb8.size)
  have hD9 := hD8.on x9
  have hX9 := hX8.on x9
  have hY9 := hY8.on x9
  clear hO2 x9 hb8 hD8 hX8 hY8
  have hZ10 := SX.new w9 y2 m2 d2
  have hD10 := hD9.on hZ10.2.2.2.2
  have hX10 := hX9.on hZ10.2.2.2.2
  have hY10 := hY9.on hZ10.2.2.2.2
  have hb10 := hb9.trans (hZ10.2.2.2.2.mono hb9.size)
  clear hb9 hD9 hX9 hY9
  have chZ0 := hZ10.1
  have chZ1 := hZ10.2.1
  have chZ2 := hZ10.2.2.1
  go_wp2_with fail
  refine (unhide (hN2 _)).mono ?_
  rintro e w11 ⟨rfl, x11⟩
  clear chZ0 chZ1 chZ2
  have hb11 := hb10.trans (x11.mono hb10.size)
  have hD11 := hD10.on x11
  have hX11 := hX10.on x11
  have hY11 := hY10.on x11
  have hZ11 := hZ10.on x11
  clear hN2 x11 hb10 hD10 hX10 hY10 hZ10
  go_wp2_with fail
  refine (unhide (hP2 _ (hT.on hb11) (hE.on hb11 hpos))).mono ?_
  rintro e w12 ⟨rfl, x12⟩
  have hb12 := hb11.trans (x12.mono hb11.size)
  have hD12 := hD11.on x12
  have hX12 := hX11.on x12
  have hY12 := hY11.on x12
  have hZ12 := hZ11.on x12
  clear hP2 x12 hb11 hD11 hX11 hY11 hZ11
  have hU13 := SX.new w12 y3 m3 d3
  have hD13 := hD12.on hU13.2.2.2.2
  have hX13 := hX12.on hU13.2.2.2.2
  have hY13 := hY12.on hU13.2.2.2.2
  have hZ13 := hZ12.on hU13.2.2.2.2
  have hb13 := hb12.trans (hU13.2.2.2.2.mono hb12.size)
  clear hb12 hD12 hX12 hY12 hZ12
  have chU0 := hU13.1
  have chU1 := hU13.2.1
  have chU2 := hU13.2.2.1
  go_wp2_with fail
  refine (unhide (hT2 _ (hT.on hb13))).mono ?_
  rintro e w14 ⟨rfl, x14⟩
  clear chU0 chU1 chU2
  have hb14 := hb13.trans (x14.mono hb13.size)
  have hD14 := hD13.on x14
  have hX14 := hX13.on x14
  have hY14 := hY13.on x14
  have hZ14 := hZ13.on x14
  have hU14 := hU13.on x14
  clear hT2 x14 hb13 hD13 hX13 hY13 hZ13 hU13
  go_wp2
  go_ret
  exact ⟨rfl, hb14⟩

set_option maxHeartbeats 8000000 in
theorem walkttf (y m d n : Int) (s : ByteArray) (nu k2 e2 y2 m2 d2 y3 m3 d3 : Int) (TX : ByteArray) (w : World) (hT : TabW w) (hE : ErrW w)
    (hN1 : ∀ W, Hid (Calls Tryd.prog 11 #[.agg #[.int .i64 y, .int .i64 m, .int .i64 d]] W fun e w' => e = .returned (.tuple #[.int .i64 nu, .int .i64 0]) ∧ Below W.heap.size W w'))
    (hR1 : ∀ W, Hid (Calls Tryd.prog 14 #[.agg #[.int .i64 y, .int .i64 m, .int .i64 d]] W fun e w' => e = .returned (.bool true) ∧ Below W.heap.size W w'))
    (hO1 : ∀ W, Hid (Calls Tryd.prog 10 #[.int .i64 nu] W fun e w' => e = .returned (.tuple #[.agg #[.int .i64 y, .int .i64 m, .int .i64 d], .int .i64 0]) ∧ Below W.heap.size W w'))
    (hT1 : ∀ W, TabW W → Hid (Calls Tryd.prog 20 #[.agg #[.int .i64 y, .int .i64 m, .int .i64 d]] W fun e w' => e = .returned (.string TX) ∧ Below W.heap.size W w'))
    (hP1 : ∀ W, TabW W → ErrW W → Hid (Calls Tryd.prog 25 #[.string TX] W fun e w' => e = .returned (.tuple #[.agg #[.int .i64 y, .int .i64 m, .int .i64 d], .int .i64 0]) ∧ Below W.heap.size W w'))
    (hO2 : ∀ W, Hid (Calls Tryd.prog 10 #[.int .i64 n] W fun e w' => e = .returned (.tuple #[.agg #[.int .i64 y2, .int .i64 m2, .int .i64 d2], .int .i64 0]) ∧ Below W.heap.size W w'))
    (hN2 : ∀ W, Hid (Calls Tryd.prog 11 #[.agg #[.int .i64 y2, .int .i64 m2, .int .i64 d2]] W fun e w' => e = .returned (.tuple #[.int .i64 n, .int .i64 0]) ∧ Below W.heap.size W w'))
    (hP2 : ∀ W, TabW W → ErrW W → Hid (Calls Tryd.prog 25 #[.string s] W fun e w' => e = .returned (.tuple #[.agg #[.int .i64 y3, .int .i64 m3, .int .i64 d3], .int .i64 31]) ∧ Below W.heap.size W w')) : Calls Tryd.prog 9 #[.agg #[.int .i64 y, .int .i64 m, .int .i64 d], .int .i64 n, .string s] w fun e w' => e = .returned (.bool true) ∧ Below w.heap.size w w' := by
  have hpos : 0 < w.heap.size := by
    obtain ⟨ev, h1, h2⟩ := hE
    exact cell_lt h1
  have hal := fun W h => hide (alive_calls W h)
  have hD0 := SX.new w y m d
  have hb0 := hD0.2.2.2.2
  go_enter Tryd.func9, Tryd.ntmps9
  go_wp2_with fail
  refine (unhide (hal _ (hT.on hb0))).mono ?_
  rintro e w1 ⟨rfl, x1⟩
  have hb1 := hb0.trans (x1.mono hb0.size)
  have hD1 := hD0.on x1
  clear hal x1 hb0 hD0
  have chD0 := hD1.1
  have chD1 := hD1.2.1
  have chD2 := hD1.2.2.1
  go_wp2_with fail
  refine (unhide (hN1 _)).mono ?_
  rintro e w2 ⟨rfl, x2⟩
  clear chD0 chD1 chD2
  have hb2 := hb1.trans (x2.mono hb1.size)
  have hD2 := hD1.on x2
  clear hN1 x2 hb1 hD1
  have chD0 := hD2.1
  have chD1 := hD2.2.1
  have chD2 := hD2.2.2.1
  go_wp2_with fail
  refine (unhide (hR1 _)).mono ?_
  rintro e w3 ⟨rfl, x3⟩
  clear chD0 chD1 chD2
  have hb3 := hb2.trans (x3.mono hb2.size)
  have hD3 := hD2.on x3
  clear hR1 x3 hb2 hD2
  have chD0 := hD3.1
  have chD1 := hD3.2.1
  have chD2 := hD3.2.2.1
  go_wp2_with fail
  refine (unhide (hO1 _)).mono ?_
  rintro e w4 ⟨rfl, x4⟩
  clear chD0 chD1 chD2
  have hb4 := hb3.trans (x4.mono hb3.size)
  have hD4 := hD3.on x4
  clear hO1 x4 hb3 hD3
  have hX5 := SX.new w4 y m d
  have hD5 := hD4.on hX5.2.2.2.2
  have hb5 := hb4.trans (hX5.2.2.2.2.mono hb4.size)
  clear hb4 hD4
  have chD0 := hD5.1
  have chD1 := hD5.2.1
  have chD2 := hD5.2.2.1
  go_wp2_with fail
  refine (unhide (hT1 _ (hT.on hb5))).mono ?_
  rintro e w6 ⟨rfl, x6⟩
  clear chD0 chD1 chD2
  have hb6 := hb5.trans (x6.mono hb5.size)
  have hD6 := hD5.on x6
  have hX6 := hX5.on x6
  clear hT1 x6 hb5 hD5 hX5
  go_wp2_with fail
  refine (unhide (hP1 _ (hT.on hb6) (hE.on hb6 hpos))).mono ?_
  rintro e w7 ⟨rfl, x7⟩
  have hb7 := hb6.trans (x7.mono hb6.size)
  have hD7 := hD6.on x7
  have hX7 := hX6.on x7
  clear hP1 x7 hb6 hD6 hX6
  have hY8 := SX.new w7 y m d
  have hD8 := hD7.on hY8.2.2.2.2
  have hX8 := hX7.on hY8.2.2.2.2
  have hb8 := hb7.trans (hY8.2.2.2.2.mono hb7.size)
  clear hb7 hD7 hX7
  have chD0 := hD8.1
  have chD1 := hD8.2.1
  have chD2 := hD8.2.2.1
  have chX0 := hX8.1
  have chX1 := hX8.2.1
  have chX2 := hX8.2.2.1
  have chY0 := hY8.1
  have chY1 := hY8.2.1
  have chY2 := hY8.2.2.1
  go_wp2_with fail
  refine (unhide (hO2 _)).mono ?_
  rintro e w9 ⟨rfl, x9⟩
  clear chD0 chD1 chD2 chX0 chX1 chX2 chY0 chY1 chY2
  have hb9 := hb8.trans (x9.mono hb8.size)
  have hD9 := hD8.on x9
  have hX9 := hX8.on x9
  have hY9 := hY8.on x9
  clear hO2 x9 hb8 hD8 hX8 hY8
  have hZ10 := SX.new w9 y2 m2 d2
  have hD10 := hD9.on hZ10.2.2.2.2
  have hX10 := hX9.on hZ10.2.2.2.2
  have hY10 := hY9.on hZ10.2.2.2.2
  have hb10 := hb9.trans (hZ10.2.2.2.2.mono hb9.size)
  clear hb9 hD9 hX9 hY9
  have chZ0 := hZ10.1
  have chZ1 := hZ10.2.1
  have chZ2 := hZ10.2.2.1
  go_wp2_with fail
  refine (unhide (hN2 _)).mono ?_
  rintro e w11 ⟨rfl, x11⟩
  clear chZ0 chZ1 chZ2
  have hb11 := hb10.trans (x11.mono hb10.size)
  have hD11 := hD10.on x11
  have hX11 := hX10.on x11
  have hY11 := hY10.on x11
  have hZ11 := hZ10.on x11
  clear hN2 x11 hb10 hD10 hX10 hY10 hZ10
  go_wp2_with fail
  refine (unhide (hP2 _ (hT.on hb11) (hE.on hb11 hpos))).mono ?_
  rintro e w12 ⟨rfl, x12⟩
  have hb12 := hb11.trans (x12.mono hb11.size)
  have hD12 := hD11.on x12
  have hX12 := hX11.on x12
  have hY12 := hY11.on x12
  have hZ12 := hZ11.on x12
  clear hP2 x12 hb11 hD11 hX11 hY11 hZ11
  have hU13 := SX.new w12 y3 m3 d3
  have hD13 := hD12.on hU13.2.2.2.2
  have hX13 := hX12.on hU13.2.2.2.2
  have hY13 := hY12.on hU13.2.2.2.2
  have hZ13 := hZ12.on hU13.2.2.2.2
  have hb13 := hb12.trans (hU13.2.2.2.2.mono hb12.size)
  clear hb12 hD12 hX12 hY12 hZ12
  have chU0 := hU13.1
  have chU1 := hU13.2.1
  have chU2 := hU13.2.2.1
  go_wp2
  go_ret
  exact ⟨rfl, hb13⟩

set_option maxHeartbeats 8000000 in
theorem walktft (y m d n : Int) (s : ByteArray) (nu k2 e2 y2 m2 d2 y3 m3 d3 : Int) (TX : ByteArray) (w : World) (hT : TabW w) (hE : ErrW w)
    (hN1 : ∀ W, Hid (Calls Tryd.prog 11 #[.agg #[.int .i64 y, .int .i64 m, .int .i64 d]] W fun e w' => e = .returned (.tuple #[.int .i64 nu, .int .i64 0]) ∧ Below W.heap.size W w'))
    (hR1 : ∀ W, Hid (Calls Tryd.prog 14 #[.agg #[.int .i64 y, .int .i64 m, .int .i64 d]] W fun e w' => e = .returned (.bool true) ∧ Below W.heap.size W w'))
    (hO1 : ∀ W, Hid (Calls Tryd.prog 10 #[.int .i64 nu] W fun e w' => e = .returned (.tuple #[.agg #[.int .i64 y, .int .i64 m, .int .i64 d], .int .i64 0]) ∧ Below W.heap.size W w'))
    (hT1 : ∀ W, TabW W → Hid (Calls Tryd.prog 20 #[.agg #[.int .i64 y, .int .i64 m, .int .i64 d]] W fun e w' => e = .returned (.string TX) ∧ Below W.heap.size W w'))
    (hP1 : ∀ W, TabW W → ErrW W → Hid (Calls Tryd.prog 25 #[.string TX] W fun e w' => e = .returned (.tuple #[.agg #[.int .i64 y, .int .i64 m, .int .i64 d], .int .i64 0]) ∧ Below W.heap.size W w'))
    (hO2 : ∀ W, Hid (Calls Tryd.prog 10 #[.int .i64 n] W fun e w' => e = .returned (.tuple #[.agg #[.int .i64 y2, .int .i64 m2, .int .i64 d2], .int .i64 31]) ∧ Below W.heap.size W w'))
    (hN2 : ∀ W, Hid (Calls Tryd.prog 11 #[.agg #[.int .i64 y2, .int .i64 m2, .int .i64 d2]] W fun e w' => e = .returned (.tuple #[.int .i64 k2, .int .i64 e2]) ∧ Below W.heap.size W w'))
    (hP2 : ∀ W, TabW W → ErrW W → Hid (Calls Tryd.prog 25 #[.string s] W fun e w' => e = .returned (.tuple #[.agg #[.int .i64 y3, .int .i64 m3, .int .i64 d3], .int .i64 0]) ∧ Below W.heap.size W w'))
    (hT2 : ∀ W, TabW W → Hid (Calls Tryd.prog 20 #[.agg #[.int .i64 y3, .int .i64 m3, .int .i64 d3]] W fun e w' => e = .returned (.string s) ∧ Below W.heap.size W w')) : Calls Tryd.prog 9 #[.agg #[.int .i64 y, .int .i64 m, .int .i64 d], .int .i64 n, .string s] w fun e w' => e = .returned (.bool true) ∧ Below w.heap.size w w' := by
  have hpos : 0 < w.heap.size := by
    obtain ⟨ev, h1, h2⟩ := hE
    exact cell_lt h1
  have hal := fun W h => hide (alive_calls W h)
  have hD0 := SX.new w y m d
  have hb0 := hD0.2.2.2.2
  go_enter Tryd.func9, Tryd.ntmps9
  go_wp2_with fail
  refine (unhide (hal _ (hT.on hb0))).mono ?_
  rintro e w1 ⟨rfl, x1⟩
  have hb1 := hb0.trans (x1.mono hb0.size)
  have hD1 := hD0.on x1
  clear hal x1 hb0 hD0
  have chD0 := hD1.1
  have chD1 := hD1.2.1
  have chD2 := hD1.2.2.1
  go_wp2_with fail
  refine (unhide (hN1 _)).mono ?_
  rintro e w2 ⟨rfl, x2⟩
  clear chD0 chD1 chD2
  have hb2 := hb1.trans (x2.mono hb1.size)
  have hD2 := hD1.on x2
  clear hN1 x2 hb1 hD1
  have chD0 := hD2.1
  have chD1 := hD2.2.1
  have chD2 := hD2.2.2.1
  go_wp2_with fail
  refine (unhide (hR1 _)).mono ?_
  rintro e w3 ⟨rfl, x3⟩
  clear chD0 chD1 chD2
  have hb3 := hb2.trans (x3.mono hb2.size)
  have hD3 := hD2.on x3
  clear hR1 x3 hb2 hD2
  have chD0 := hD3.1
  have chD1 := hD3.2.1
  have chD2 := hD3.2.2.1
  go_wp2_with fail
  refine (unhide (hO1 _)).mono ?_
  rintro e w4 ⟨rfl, x4⟩
  clear chD0 chD1 chD2
  have hb4 := hb3.trans (x4.mono hb3.size)
  have hD4 := hD3.on x4
  clear hO1 x4 hb3 hD3
  have hX5 := SX.new w4 y m d
  have hD5 := hD4.on hX5.2.2.2.2
  have hb5 := hb4.trans (hX5.2.2.2.2.mono hb4.size)
  clear hb4 hD4
  have chD0 := hD5.1
  have chD1 := hD5.2.1
  have chD2 := hD5.2.2.1
  go_wp2_with fail
  refine (unhide (hT1 _ (hT.on hb5))).mono ?_
  rintro e w6 ⟨rfl, x6⟩
  clear chD0 chD1 chD2
  have hb6 := hb5.trans (x6.mono hb5.size)
  have hD6 := hD5.on x6
  have hX6 := hX5.on x6
  clear hT1 x6 hb5 hD5 hX5
  go_wp2_with fail
  refine (unhide (hP1 _ (hT.on hb6) (hE.on hb6 hpos))).mono ?_
  rintro e w7 ⟨rfl, x7⟩
  have hb7 := hb6.trans (x7.mono hb6.size)
  have hD7 := hD6.on x7
  have hX7 := hX6.on x7
  clear hP1 x7 hb6 hD6 hX6
  have hY8 := SX.new w7 y m d
  have hD8 := hD7.on hY8.2.2.2.2
  have hX8 := hX7.on hY8.2.2.2.2
  have hb8 := hb7.trans (hY8.2.2.2.2.mono hb7.size)
  clear hb7 hD7 hX7
  have chD0 := hD8.1
  have chD1 := hD8.2.1
  have chD2 := hD8.2.2.1
  have chX0 := hX8.1
  have chX1 := hX8.2.1
  have chX2 := hX8.2.2.1
  have chY0 := hY8.1
  have chY1 := hY8.2.1
  have chY2 := hY8.2.2.1
  go_wp2_with fail
  refine (unhide (hO2 _)).mono ?_
  rintro e w9 ⟨rfl, x9⟩
  clear chD0 chD1 chD2 chX0 chX1 chX2 chY0 chY1 chY2
  have hb9 := hb8.trans (x9.mono hb8.size)
  have hD9 := hD8.on x9
  have hX9 := hX8.on x9
  have hY9 := hY8.on x9
  clear hO2 x9 hb8 hD8 hX8 hY8
  have hZ10 := SX.new w9 y2 m2 d2
  have hD10 := hD9.on hZ10.2.2.2.2
  have hX10 := hX9.on hZ10.2.2.2.2
  have hY10 := hY9.on hZ10.2.2.2.2
  have hb10 := hb9.trans (hZ10.2.2.2.2.mono hb9.size)
  clear hb9 hD9 hX9 hY9
  have chZ0 := hZ10.1
  have chZ1 := hZ10.2.1
  have chZ2 := hZ10.2.2.1
  go_wp2_with fail
  refine (unhide (hN2 _)).mono ?_
  rintro e w11 ⟨rfl, x11⟩
  clear chZ0 chZ1 chZ2
  have hb11 := hb10.trans (x11.mono hb10.size)
  have hD11 := hD10.on x11
  have hX11 := hX10.on x11
  have hY11 := hY10.on x11
  have hZ11 := hZ10.on x11
  clear hN2 x11 hb10 hD10 hX10 hY10 hZ10
  go_wp2_with fail
  refine (unhide (hP2 _ (hT.on hb11) (hE.on hb11 hpos))).mono ?_
  rintro e w12 ⟨rfl, x12⟩
  have hb12 := hb11.trans (x12.mono hb11.size)
  have hD12 := hD11.on x12
  have hX12 := hX11.on x12
  have hY12 := hY11.on x12
  have hZ12 := hZ11.on x12
  clear hP2 x12 hb11 hD11 hX11 hY11 hZ11
  have hU13 := SX.new w12 y3 m3 d3
  have hD13 := hD12.on hU13.2.2.2.2
  have hX13 := hX12.on hU13.2.2.2.2
  have hY13 := hY12.on hU13.2.2.2.2
  have hZ13 := hZ12.on hU13.2.2.2.2
  have hb13 := hb12.trans (hU13.2.2.2.2.mono hb12.size)
  clear hb12 hD12 hX12 hY12 hZ12
  have chU0 := hU13.1
  have chU1 := hU13.2.1
  have chU2 := hU13.2.2.1
  go_wp2_with fail
  refine (unhide (hT2 _ (hT.on hb13))).mono ?_
  rintro e w14 ⟨rfl, x14⟩
  clear chU0 chU1 chU2
  have hb14 := hb13.trans (x14.mono hb13.size)
  have hD14 := hD13.on x14
  have hX14 := hX13.on x14
  have hY14 := hY13.on x14
  have hZ14 := hZ13.on x14
  have hU14 := hU13.on x14
  clear hT2 x14 hb13 hD13 hX13 hY13 hZ13 hU13
  go_wp2
  go_ret
  exact ⟨rfl, hb14⟩

set_option maxHeartbeats 8000000 in
theorem walktff (y m d n : Int) (s : ByteArray) (nu k2 e2 y2 m2 d2 y3 m3 d3 : Int) (TX : ByteArray) (w : World) (hT : TabW w) (hE : ErrW w)
    (hN1 : ∀ W, Hid (Calls Tryd.prog 11 #[.agg #[.int .i64 y, .int .i64 m, .int .i64 d]] W fun e w' => e = .returned (.tuple #[.int .i64 nu, .int .i64 0]) ∧ Below W.heap.size W w'))
    (hR1 : ∀ W, Hid (Calls Tryd.prog 14 #[.agg #[.int .i64 y, .int .i64 m, .int .i64 d]] W fun e w' => e = .returned (.bool true) ∧ Below W.heap.size W w'))
    (hO1 : ∀ W, Hid (Calls Tryd.prog 10 #[.int .i64 nu] W fun e w' => e = .returned (.tuple #[.agg #[.int .i64 y, .int .i64 m, .int .i64 d], .int .i64 0]) ∧ Below W.heap.size W w'))
    (hT1 : ∀ W, TabW W → Hid (Calls Tryd.prog 20 #[.agg #[.int .i64 y, .int .i64 m, .int .i64 d]] W fun e w' => e = .returned (.string TX) ∧ Below W.heap.size W w'))
    (hP1 : ∀ W, TabW W → ErrW W → Hid (Calls Tryd.prog 25 #[.string TX] W fun e w' => e = .returned (.tuple #[.agg #[.int .i64 y, .int .i64 m, .int .i64 d], .int .i64 0]) ∧ Below W.heap.size W w'))
    (hO2 : ∀ W, Hid (Calls Tryd.prog 10 #[.int .i64 n] W fun e w' => e = .returned (.tuple #[.agg #[.int .i64 y2, .int .i64 m2, .int .i64 d2], .int .i64 31]) ∧ Below W.heap.size W w'))
    (hN2 : ∀ W, Hid (Calls Tryd.prog 11 #[.agg #[.int .i64 y2, .int .i64 m2, .int .i64 d2]] W fun e w' => e = .returned (.tuple #[.int .i64 k2, .int .i64 e2]) ∧ Below W.heap.size W w'))
    (hP2 : ∀ W, TabW W → ErrW W → Hid (Calls Tryd.prog 25 #[.string s] W fun e w' => e = .returned (.tuple #[.agg #[.int .i64 y3, .int .i64 m3, .int .i64 d3], .int .i64 31]) ∧ Below W.heap.size W w')) : Calls Tryd.prog 9 #[.agg #[.int .i64 y, .int .i64 m, .int .i64 d], .int .i64 n, .string s] w fun e w' => e = .returned (.bool true) ∧ Below w.heap.size w w' := by
  have hpos : 0 < w.heap.size := by
    obtain ⟨ev, h1, h2⟩ := hE
    exact cell_lt h1
  have hal := fun W h => hide (alive_calls W h)
  have hD0 := SX.new w y m d
  have hb0 := hD0.2.2.2.2
  go_enter Tryd.func9, Tryd.ntmps9
  go_wp2_with fail
  refine (unhide (hal _ (hT.on hb0))).mono ?_
  rintro e w1 ⟨rfl, x1⟩
  have hb1 := hb0.trans (x1.mono hb0.size)
  have hD1 := hD0.on x1
  clear hal x1 hb0 hD0
  have chD0 := hD1.1
  have chD1 := hD1.2.1
  have chD2 := hD1.2.2.1
  go_wp2_with fail
  refine (unhide (hN1 _)).mono ?_
  rintro e w2 ⟨rfl, x2⟩
  clear chD0 chD1 chD2
  have hb2 := hb1.trans (x2.mono hb1.size)
  have hD2 := hD1.on x2
  clear hN1 x2 hb1 hD1
  have chD0 := hD2.1
  have chD1 := hD2.2.1
  have chD2 := hD2.2.2.1
  go_wp2_with fail
  refine (unhide (hR1 _)).mono ?_
  rintro e w3 ⟨rfl, x3⟩
  clear chD0 chD1 chD2
  have hb3 := hb2.trans (x3.mono hb2.size)
  have hD3 := hD2.on x3
  clear hR1 x3 hb2 hD2
  have chD0 := hD3.1
  have chD1 := hD3.2.1
  have chD2 := hD3.2.2.1
  go_wp2_with fail
  refine (unhide (hO1 _)).mono ?_
  rintro e w4 ⟨rfl, x4⟩
  clear chD0 chD1 chD2
  have hb4 := hb3.trans (x4.mono hb3.size)
  have hD4 := hD3.on x4
  clear hO1 x4 hb3 hD3
  have hX5 := SX.new w4 y m d
  have hD5 := hD4.on hX5.2.2.2.2
  have hb5 := hb4.trans (hX5.2.2.2.2.mono hb4.size)
  clear hb4 hD4
  have chD0 := hD5.1
  have chD1 := hD5.2.1
  have chD2 := hD5.2.2.1
  go_wp2_with fail
  refine (unhide (hT1 _ (hT.on hb5))).mono ?_
  rintro e w6 ⟨rfl, x6⟩
  clear chD0 chD1 chD2
  have hb6 := hb5.trans (x6.mono hb5.size)
  have hD6 := hD5.on x6
  have hX6 := hX5.on x6
  clear hT1 x6 hb5 hD5 hX5
  go_wp2_with fail
  refine (unhide (hP1 _ (hT.on hb6) (hE.on hb6 hpos))).mono ?_
  rintro e w7 ⟨rfl, x7⟩
  have hb7 := hb6.trans (x7.mono hb6.size)
  have hD7 := hD6.on x7
  have hX7 := hX6.on x7
  clear hP1 x7 hb6 hD6 hX6
  have hY8 := SX.new w7 y m d
  have hD8 := hD7.on hY8.2.2.2.2
  have hX8 := hX7.on hY8.2.2.2.2
  have hb8 := hb7.trans (hY8.2.2.2.2.mono hb7.size)
  clear hb7 hD7 hX7
  have chD0 := hD8.1
  have chD1 := hD8.2.1
  have chD2 := hD8.2.2.1
  have chX0 := hX8.1
  have chX1 := hX8.2.1
  have chX2 := hX8.2.2.1
  have chY0 := hY8.1
  have chY1 := hY8.2.1
  have chY2 := hY8.2.2.1
  go_wp2_with fail
  refine (unhide (hO2 _)).mono ?_
  rintro e w9 ⟨rfl, x9⟩
  clear chD0 chD1 chD2 chX0 chX1 chX2 chY0 chY1 chY2
  have hb9 := hb8.trans (x9.mono hb8.size)
  have hD9 := hD8.on x9
  have hX9 := hX8.on x9
  have hY9 := hY8.on x9
  clear hO2 x9 hb8 hD8 hX8 hY8
  have hZ10 := SX.new w9 y2 m2 d2
  have hD10 := hD9.on hZ10.2.2.2.2
  have hX10 := hX9.on hZ10.2.2.2.2
  have hY10 := hY9.on hZ10.2.2.2.2
  have hb10 := hb9.trans (hZ10.2.2.2.2.mono hb9.size)
  clear hb9 hD9 hX9 hY9
  have chZ0 := hZ10.1
  have chZ1 := hZ10.2.1
  have chZ2 := hZ10.2.2.1
  go_wp2_with fail
  refine (unhide (hN2 _)).mono ?_
  rintro e w11 ⟨rfl, x11⟩
  clear chZ0 chZ1 chZ2
  have hb11 := hb10.trans (x11.mono hb10.size)
  have hD11 := hD10.on x11
  have hX11 := hX10.on x11
  have hY11 := hY10.on x11
  have hZ11 := hZ10.on x11
  clear hN2 x11 hb10 hD10 hX10 hY10 hZ10
  go_wp2_with fail
  refine (unhide (hP2 _ (hT.on hb11) (hE.on hb11 hpos))).mono ?_
  rintro e w12 ⟨rfl, x12⟩
  have hb12 := hb11.trans (x12.mono hb11.size)
  have hD12 := hD11.on x12
  have hX12 := hX11.on x12
  have hY12 := hY11.on x12
  have hZ12 := hZ11.on x12
  clear hP2 x12 hb11 hD11 hX11 hY11 hZ11
  have hU13 := SX.new w12 y3 m3 d3
  have hD13 := hD12.on hU13.2.2.2.2
  have hX13 := hX12.on hU13.2.2.2.2
  have hY13 := hY12.on hU13.2.2.2.2
  have hZ13 := hZ12.on hU13.2.2.2.2
  have hb13 := hb12.trans (hU13.2.2.2.2.mono hb12.size)
  clear hb12 hD12 hX12 hY12 hZ12
  have chU0 := hU13.1
  have chU1 := hU13.2.1
  have chU2 := hU13.2.2.1
  go_wp2
  go_ret
  exact ⟨rfl, hb13⟩

set_option maxHeartbeats 8000000 in
theorem walkftt (y m d n : Int) (s : ByteArray) (nu k2 e2 y2 m2 d2 y3 m3 d3 : Int) (TX : ByteArray) (w : World) (hT : TabW w) (hE : ErrW w)
    (hN1 : ∀ W, Hid (Calls Tryd.prog 11 #[.agg #[.int .i64 y, .int .i64 m, .int .i64 d]] W fun e w' => e = .returned (.tuple #[.int .i64 nu, .int .i64 31]) ∧ Below W.heap.size W w'))
    (hR1 : ∀ W, Hid (Calls Tryd.prog 14 #[.agg #[.int .i64 y, .int .i64 m, .int .i64 d]] W fun e w' => e = .returned (.bool false) ∧ Below W.heap.size W w'))
    (hO2 : ∀ W, Hid (Calls Tryd.prog 10 #[.int .i64 n] W fun e w' => e = .returned (.tuple #[.agg #[.int .i64 y2, .int .i64 m2, .int .i64 d2], .int .i64 0]) ∧ Below W.heap.size W w'))
    (hN2 : ∀ W, Hid (Calls Tryd.prog 11 #[.agg #[.int .i64 y2, .int .i64 m2, .int .i64 d2]] W fun e w' => e = .returned (.tuple #[.int .i64 n, .int .i64 0]) ∧ Below W.heap.size W w'))
    (hP2 : ∀ W, TabW W → ErrW W → Hid (Calls Tryd.prog 25 #[.string s] W fun e w' => e = .returned (.tuple #[.agg #[.int .i64 y3, .int .i64 m3, .int .i64 d3], .int .i64 0]) ∧ Below W.heap.size W w'))
    (hT2 : ∀ W, TabW W → Hid (Calls Tryd.prog 20 #[.agg #[.int .i64 y3, .int .i64 m3, .int .i64 d3]] W fun e w' => e = .returned (.string s) ∧ Below W.heap.size W w')) : Calls Tryd.prog 9 #[.agg #[.int .i64 y, .int .i64 m, .int .i64 d], .int .i64 n, .string s] w fun e w' => e = .returned (.bool true) ∧ Below w.heap.size w w' := by
  have hpos : 0 < w.heap.size := by
    obtain ⟨ev, h1, h2⟩ := hE
    exact cell_lt h1
  have hal := fun W h => hide (alive_calls W h)
  have hD0 := SX.new w y m d
  have hb0 := hD0.2.2.2.2
  go_enter Tryd.func9, Tryd.ntmps9
  go_wp2_with fail
  refine (unhide (hal _ (hT.on hb0))).mono ?_
  rintro e w1 ⟨rfl, x1⟩
  have hb1 := hb0.trans (x1.mono hb0.size)
  have hD1 := hD0.on x1
  clear hal x1 hb0 hD0
  have chD0 := hD1.1
  have chD1 := hD1.2.1
  have chD2 := hD1.2.2.1
  go_wp2_with fail
  refine (unhide (hN1 _)).mono ?_
  rintro e w2 ⟨rfl, x2⟩
  clear chD0 chD1 chD2
  have hb2 := hb1.trans (x2.mono hb1.size)
  have hD2 := hD1.on x2
  clear hN1 x2 hb1 hD1
  have chD0 := hD2.1
  have chD1 := hD2.2.1
  have chD2 := hD2.2.2.1
  go_wp2_with fail
  refine (unhide (hR1 _)).mono ?_
  rintro e w3 ⟨rfl, x3⟩
  clear chD0 chD1 chD2
  have hb3 := hb2.trans (x3.mono hb2.size)
  have hD3 := hD2.on x3
  clear hR1 x3 hb2 hD2
  have chD0 := hD3.1
  have chD1 := hD3.2.1
  have chD2 := hD3.2.2.1
  go_wp2_with fail
  refine (unhide (hO2 _)).mono ?_
  rintro e w4 ⟨rfl, x4⟩
  clear chD0 chD1 chD2
  have hb4 := hb3.trans (x4.mono hb3.size)
  have hD4 := hD3.on x4
  clear hO2 x4 hb3 hD3
  have hZ5 := SX.new w4 y2 m2 d2
  have hD5 := hD4.on hZ5.2.2.2.2
  have hb5 := hb4.trans (hZ5.2.2.2.2.mono hb4.size)
  clear hb4 hD4
  have chZ0 := hZ5.1
  have chZ1 := hZ5.2.1
  have chZ2 := hZ5.2.2.1
  go_wp2_with fail
  refine (unhide (hN2 _)).mono ?_
  rintro e w6 ⟨rfl, x6⟩
  clear chZ0 chZ1 chZ2
  have hb6 := hb5.trans (x6.mono hb5.size)
  have hD6 := hD5.on x6
  have hZ6 := hZ5.on x6
  clear hN2 x6 hb5 hD5 hZ5
  go_wp2_with fail
  refine (unhide (hP2 _ (hT.on hb6) (hE.on hb6 hpos))).mono ?_
  rintro e w7 ⟨rfl, x7⟩
  have hb7 := hb6.trans (x7.mono hb6.size)
  have hD7 := hD6.on x7
  have hZ7 := hZ6.on x7
  clear hP2 x7 hb6 hD6 hZ6
  have hU8 := SX.new w7 y3 m3 d3
  have hD8 := hD7.on hU8.2.2.2.2
  have hZ8 := hZ7.on hU8.2.2.2.2
  have hb8 := hb7.trans (hU8.2.2.2.2.mono hb7.size)
  clear hb7 hD7 hZ7
  have chU0 := hU8.1
  have chU1 := hU8.2.1
  have chU2 := hU8.2.2.1
  go_wp2_with fail
  refine (unhide (hT2 _ (hT.on hb8))).mono ?_
  rintro e w9 ⟨rfl, x9⟩
  clear chU0 chU1 chU2
  have hb9 := hb8.trans (x9.mono hb8.size)
  have hD9 := hD8.on x9
  have hZ9 := hZ8.on x9
  have hU9 := hU8.on x9
  clear hT2 x9 hb8 hD8 hZ8 hU8
  go_wp2
  go_ret
  exact ⟨rfl, hb9⟩

set_option maxHeartbeats 8000000 in
theorem walkftf (y m d n : Int) (s : ByteArray) (nu k2 e2 y2 m2 d2 y3 m3 d3 : Int) (TX : ByteArray) (w : World) (hT : TabW w) (hE : ErrW w)
    (hN1 : ∀ W, Hid (Calls Tryd.prog 11 #[.agg #[.int .i64 y, .int .i64 m, .int .i64 d]] W fun e w' => e = .returned (.tuple #[.int .i64 nu, .int .i64 31]) ∧ Below W.heap.size W w'))
    (hR1 : ∀ W, Hid (Calls Tryd.prog 14 #[.agg #[.int .i64 y, .int .i64 m, .int .i64 d]] W fun e w' => e = .returned (.bool false) ∧ Below W.heap.size W w'))
    (hO2 : ∀ W, Hid (Calls Tryd.prog 10 #[.int .i64 n] W fun e w' => e = .returned (.tuple #[.agg #[.int .i64 y2, .int .i64 m2, .int .i64 d2], .int .i64 0]) ∧ Below W.heap.size W w'))
    (hN2 : ∀ W, Hid (Calls Tryd.prog 11 #[.agg #[.int .i64 y2, .int .i64 m2, .int .i64 d2]] W fun e w' => e = .returned (.tuple #[.int .i64 n, .int .i64 0]) ∧ Below W.heap.size W w'))
    (hP2 : ∀ W, TabW W → ErrW W → Hid (Calls Tryd.prog 25 #[.string s] W fun e w' => e = .returned (.tuple #[.agg #[.int .i64 y3, .int .i64 m3, .int .i64 d3], .int .i64 31]) ∧ Below W.heap.size W w')) : Calls Tryd.prog 9 #[.agg #[.int .i64 y, .int .i64 m, .int .i64 d], .int .i64 n, .string s] w fun e w' => e = .returned (.bool true) ∧ Below w.heap.size w w' := by
  have hpos : 0 < w.heap.size := by
    obtain ⟨ev, h1, h2⟩ := hE
    exact cell_lt h1
  have hal := fun W h => hide (alive_calls W h)
  have hD0 := SX.new w y m d
  have hb0 := hD0.2.2.2.2
  go_enter Tryd.func9, Tryd.ntmps9
  go_wp2_with fail
  refine (unhide (hal _ (hT.on hb0))).mono ?_
  rintro e w1 ⟨rfl, x1⟩
  have hb1 := hb0.trans (x1.mono hb0.size)
  have hD1 := hD0.on x1
  clear hal x1 hb0 hD0
  have chD0 := hD1.1
  have chD1 := hD1.2.1
  have chD2 := hD1.2.2.1
  go_wp2_with fail
  refine (unhide (hN1 _)).mono ?_
  rintro e w2 ⟨rfl, x2⟩
  clear chD0 chD1 chD2
  have hb2 := hb1.trans (x2.mono hb1.size)
  have hD2 := hD1.on x2
  clear hN1 x2 hb1 hD1
  have chD0 := hD2.1
  have chD1 := hD2.2.1
  have chD2 := hD2.2.2.1
  go_wp2_with fail
  refine (unhide (hR1 _)).mono ?_
  rintro e w3 ⟨rfl, x3⟩
  clear chD0 chD1 chD2
  have hb3 := hb2.trans (x3.mono hb2.size)
  have hD3 := hD2.on x3
  clear hR1 x3 hb2 hD2
  have chD0 := hD3.1
  have chD1 := hD3.2.1
  have chD2 := hD3.2.2.1
  go_wp2_with fail
  refine (unhide (hO2 _)).mono ?_
  rintro e w4 ⟨rfl, x4⟩
  clear chD0 chD1 chD2
  have hb4 := hb3.trans (x4.mono hb3.size)
  have hD4 := hD3.on x4
  clear hO2 x4 hb3 hD3
  have hZ5 := SX.new w4 y2 m2 d2
  have hD5 := hD4.on hZ5.2.2.2.2
  have hb5 := hb4.trans (hZ5.2.2.2.2.mono hb4.size)
  clear hb4 hD4
  have chZ0 := hZ5.1
  have chZ1 := hZ5.2.1
  have chZ2 := hZ5.2.2.1
  go_wp2_with fail
  refine (unhide (hN2 _)).mono ?_
  rintro e w6 ⟨rfl, x6⟩
  clear chZ0 chZ1 chZ2
  have hb6 := hb5.trans (x6.mono hb5.size)
  have hD6 := hD5.on x6
  have hZ6 := hZ5.on x6
  clear hN2 x6 hb5 hD5 hZ5
  go_wp2_with fail
  refine (unhide (hP2 _ (hT.on hb6) (hE.on hb6 hpos))).mono ?_
  rintro e w7 ⟨rfl, x7⟩
  have hb7 := hb6.trans (x7.mono hb6.size)
  have hD7 := hD6.on x7
  have hZ7 := hZ6.on x7
  clear hP2 x7 hb6 hD6 hZ6
  have hU8 := SX.new w7 y3 m3 d3
  have hD8 := hD7.on hU8.2.2.2.2
  have hZ8 := hZ7.on hU8.2.2.2.2
  have hb8 := hb7.trans (hU8.2.2.2.2.mono hb7.size)
  clear hb7 hD7 hZ7
  have chU0 := hU8.1
  have chU1 := hU8.2.1
  have chU2 := hU8.2.2.1
  go_wp2
  go_ret
  exact ⟨rfl, hb8⟩

set_option maxHeartbeats 8000000 in
theorem walkfft (y m d n : Int) (s : ByteArray) (nu k2 e2 y2 m2 d2 y3 m3 d3 : Int) (TX : ByteArray) (w : World) (hT : TabW w) (hE : ErrW w)
    (hN1 : ∀ W, Hid (Calls Tryd.prog 11 #[.agg #[.int .i64 y, .int .i64 m, .int .i64 d]] W fun e w' => e = .returned (.tuple #[.int .i64 nu, .int .i64 31]) ∧ Below W.heap.size W w'))
    (hR1 : ∀ W, Hid (Calls Tryd.prog 14 #[.agg #[.int .i64 y, .int .i64 m, .int .i64 d]] W fun e w' => e = .returned (.bool false) ∧ Below W.heap.size W w'))
    (hO2 : ∀ W, Hid (Calls Tryd.prog 10 #[.int .i64 n] W fun e w' => e = .returned (.tuple #[.agg #[.int .i64 y2, .int .i64 m2, .int .i64 d2], .int .i64 31]) ∧ Below W.heap.size W w'))
    (hN2 : ∀ W, Hid (Calls Tryd.prog 11 #[.agg #[.int .i64 y2, .int .i64 m2, .int .i64 d2]] W fun e w' => e = .returned (.tuple #[.int .i64 k2, .int .i64 e2]) ∧ Below W.heap.size W w'))
    (hP2 : ∀ W, TabW W → ErrW W → Hid (Calls Tryd.prog 25 #[.string s] W fun e w' => e = .returned (.tuple #[.agg #[.int .i64 y3, .int .i64 m3, .int .i64 d3], .int .i64 0]) ∧ Below W.heap.size W w'))
    (hT2 : ∀ W, TabW W → Hid (Calls Tryd.prog 20 #[.agg #[.int .i64 y3, .int .i64 m3, .int .i64 d3]] W fun e w' => e = .returned (.string s) ∧ Below W.heap.size W w')) : Calls Tryd.prog 9 #[.agg #[.int .i64 y, .int .i64 m, .int .i64 d], .int .i64 n, .string s] w fun e w' => e = .returned (.bool true) ∧ Below w.heap.size w w' := by
  have hpos : 0 < w.heap.size := by
    obtain ⟨ev, h1, h2⟩ := hE
    exact cell_lt h1
  have hal := fun W h => hide (alive_calls W h)
  have hD0 := SX.new w y m d
  have hb0 := hD0.2.2.2.2
  go_enter Tryd.func9, Tryd.ntmps9
  go_wp2_with fail
  refine (unhide (hal _ (hT.on hb0))).mono ?_
  rintro e w1 ⟨rfl, x1⟩
  have hb1 := hb0.trans (x1.mono hb0.size)
  have hD1 := hD0.on x1
  clear hal x1 hb0 hD0
  have chD0 := hD1.1
  have chD1 := hD1.2.1
  have chD2 := hD1.2.2.1
  go_wp2_with fail
  refine (unhide (hN1 _)).mono ?_
  rintro e w2 ⟨rfl, x2⟩
  clear chD0 chD1 chD2
  have hb2 := hb1.trans (x2.mono hb1.size)
  have hD2 := hD1.on x2
  clear hN1 x2 hb1 hD1
  have chD0 := hD2.1
  have chD1 := hD2.2.1
  have chD2 := hD2.2.2.1
  go_wp2_with fail
  refine (unhide (hR1 _)).mono ?_
  rintro e w3 ⟨rfl, x3⟩
  clear chD0 chD1 chD2
  have hb3 := hb2.trans (x3.mono hb2.size)
  have hD3 := hD2.on x3
  clear hR1 x3 hb2 hD2
  have chD0 := hD3.1
  have chD1 := hD3.2.1
  have chD2 := hD3.2.2.1
  go_wp2_with fail
  refine (unhide (hO2 _)).mono ?_
  rintro e w4 ⟨rfl, x4⟩
  clear chD0 chD1 chD2
  have hb4 := hb3.trans (x4.mono hb3.size)
  have hD4 := hD3.on x4
  clear hO2 x4 hb3 hD3
  have hZ5 := SX.new w4 y2 m2 d2
  have hD5 := hD4.on hZ5.2.2.2.2
  have hb5 := hb4.trans (hZ5.2.2.2.2.mono hb4.size)
  clear hb4 hD4
  have chZ0 := hZ5.1
  have chZ1 := hZ5.2.1
  have chZ2 := hZ5.2.2.1
  go_wp2_with fail
  refine (unhide (hN2 _)).mono ?_
  rintro e w6 ⟨rfl, x6⟩
  clear chZ0 chZ1 chZ2
  have hb6 := hb5.trans (x6.mono hb5.size)
  have hD6 := hD5.on x6
  have hZ6 := hZ5.on x6
  clear hN2 x6 hb5 hD5 hZ5
  go_wp2_with fail
  refine (unhide (hP2 _ (hT.on hb6) (hE.on hb6 hpos))).mono ?_
  rintro e w7 ⟨rfl, x7⟩
  have hb7 := hb6.trans (x7.mono hb6.size)
  have hD7 := hD6.on x7
  have hZ7 := hZ6.on x7
  clear hP2 x7 hb6 hD6 hZ6
  have hU8 := SX.new w7 y3 m3 d3
  have hD8 := hD7.on hU8.2.2.2.2
  have hZ8 := hZ7.on hU8.2.2.2.2
  have hb8 := hb7.trans (hU8.2.2.2.2.mono hb7.size)
  clear hb7 hD7 hZ7
  have chU0 := hU8.1
  have chU1 := hU8.2.1
  have chU2 := hU8.2.2.1
  go_wp2_with fail
  refine (unhide (hT2 _ (hT.on hb8))).mono ?_
  rintro e w9 ⟨rfl, x9⟩
  clear chU0 chU1 chU2
  have hb9 := hb8.trans (x9.mono hb8.size)
  have hD9 := hD8.on x9
  have hZ9 := hZ8.on x9
  have hU9 := hU8.on x9
  clear hT2 x9 hb8 hD8 hZ8 hU8
  go_wp2
  go_ret
  exact ⟨rfl, hb9⟩

set_option maxHeartbeats 8000000 in
theorem walkfff (y m d n : Int) (s : ByteArray) (nu k2 e2 y2 m2 d2 y3 m3 d3 : Int) (TX : ByteArray) (w : World) (hT : TabW w) (hE : ErrW w)
    (hN1 : ∀ W, Hid (Calls Tryd.prog 11 #[.agg #[.int .i64 y, .int .i64 m, .int .i64 d]] W fun e w' => e = .returned (.tuple #[.int .i64 nu, .int .i64 31]) ∧ Below W.heap.size W w'))
    (hR1 : ∀ W, Hid (Calls Tryd.prog 14 #[.agg #[.int .i64 y, .int .i64 m, .int .i64 d]] W fun e w' => e = .returned (.bool false) ∧ Below W.heap.size W w'))
    (hO2 : ∀ W, Hid (Calls Tryd.prog 10 #[.int .i64 n] W fun e w' => e = .returned (.tuple #[.agg #[.int .i64 y2, .int .i64 m2, .int .i64 d2], .int .i64 31]) ∧ Below W.heap.size W w'))
    (hN2 : ∀ W, Hid (Calls Tryd.prog 11 #[.agg #[.int .i64 y2, .int .i64 m2, .int .i64 d2]] W fun e w' => e = .returned (.tuple #[.int .i64 k2, .int .i64 e2]) ∧ Below W.heap.size W w'))
    (hP2 : ∀ W, TabW W → ErrW W → Hid (Calls Tryd.prog 25 #[.string s] W fun e w' => e = .returned (.tuple #[.agg #[.int .i64 y3, .int .i64 m3, .int .i64 d3], .int .i64 31]) ∧ Below W.heap.size W w')) : Calls Tryd.prog 9 #[.agg #[.int .i64 y, .int .i64 m, .int .i64 d], .int .i64 n, .string s] w fun e w' => e = .returned (.bool true) ∧ Below w.heap.size w w' := by
  have hpos : 0 < w.heap.size := by
    obtain ⟨ev, h1, h2⟩ := hE
    exact cell_lt h1
  have hal := fun W h => hide (alive_calls W h)
  have hD0 := SX.new w y m d
  have hb0 := hD0.2.2.2.2
  go_enter Tryd.func9, Tryd.ntmps9
  go_wp2_with fail
  refine (unhide (hal _ (hT.on hb0))).mono ?_
  rintro e w1 ⟨rfl, x1⟩
  have hb1 := hb0.trans (x1.mono hb0.size)
  have hD1 := hD0.on x1
  clear hal x1 hb0 hD0
  have chD0 := hD1.1
  have chD1 := hD1.2.1
  have chD2 := hD1.2.2.1
  go_wp2_with fail
  refine (unhide (hN1 _)).mono ?_
  rintro e w2 ⟨rfl, x2⟩
  clear chD0 chD1 chD2
  have hb2 := hb1.trans (x2.mono hb1.size)
  have hD2 := hD1.on x2
  clear hN1 x2 hb1 hD1
  have chD0 := hD2.1
  have chD1 := hD2.2.1
  have chD2 := hD2.2.2.1
  go_wp2_with fail
  refine (unhide (hR1 _)).mono ?_
  rintro e w3 ⟨rfl, x3⟩
  clear chD0 chD1 chD2
  have hb3 := hb2.trans (x3.mono hb2.size)
  have hD3 := hD2.on x3
  clear hR1 x3 hb2 hD2
  have chD0 := hD3.1
  have chD1 := hD3.2.1
  have chD2 := hD3.2.2.1
  go_wp2_with fail
  refine (unhide (hO2 _)).mono ?_
  rintro e w4 ⟨rfl, x4⟩
  clear chD0 chD1 chD2
  have hb4 := hb3.trans (x4.mono hb3.size)
  have hD4 := hD3.on x4
  clear hO2 x4 hb3 hD3
  have hZ5 := SX.new w4 y2 m2 d2
  have hD5 := hD4.on hZ5.2.2.2.2
  have hb5 := hb4.trans (hZ5.2.2.2.2.mono hb4.size)
  clear hb4 hD4
  have chZ0 := hZ5.1
  have chZ1 := hZ5.2.1
  have chZ2 := hZ5.2.2.1
  go_wp2_with fail
  refine (unhide (hN2 _)).mono ?_
  rintro e w6 ⟨rfl, x6⟩
  clear chZ0 chZ1 chZ2
  have hb6 := hb5.trans (x6.mono hb5.size)
  have hD6 := hD5.on x6
  have hZ6 := hZ5.on x6
  clear hN2 x6 hb5 hD5 hZ5
  go_wp2_with fail
  refine (unhide (hP2 _ (hT.on hb6) (hE.on hb6 hpos))).mono ?_
  rintro e w7 ⟨rfl, x7⟩
  have hb7 := hb6.trans (x7.mono hb6.size)
  have hD7 := hD6.on x7
  have hZ7 := hZ6.on x7
  clear hP2 x7 hb6 hD6 hZ6
  have hU8 := SX.new w7 y3 m3 d3
  have hD8 := hD7.on hU8.2.2.2.2
  have hZ8 := hZ7.on hU8.2.2.2.2
  have hb8 := hb7.trans (hU8.2.2.2.2.mono hb7.size)
  clear hb7 hD7 hZ7
  have chU0 := hU8.1
  have chU1 := hU8.2.1
  have chU2 := hU8.2.2.1
  go_wp2
  go_ret
  exact ⟨rfl, hb8⟩

theorem walk (y m d n : Int) (s : ByteArray) (w : World) (hT : TabW w) (hE : ErrW w) : Calls Tryd.prog 9 #[.agg #[.int .i64 y, .int .i64 m, .int .i64 d], .int .i64 n, .string s] w fun e w' => e = .returned (.bool true) ∧ Below w.heap.size w w' := by
  have hN1 := fun W => number_calls y m d W
  have hR1 := fun W => right_calls y m d W
  have hO2 := fun W => of_calls n W
  have hN2 := fun W => number_calls (ofY n) (ofM n) (ofD n) W
  have hP2 := fun W h1 h2 => parse_calls s W h1 h2
  have hE2 : ofE n = if inB n then 0 else 31 := rfl
  have hE3 : prE s = if okP s then 0 else 31 := rfl
  rw [hE2] at hO2
  rw [hE3] at hP2
  cases hR : rightB y m d
  · rw [hR] at hR1
    have hE1 : errR y m d = 31 := by unfold errR; rw [hR]; rfl
    rw [hE1] at hN1
    cases hI : inB n
    · rw [hI] at hO2
      cases hO : okP s
      · rw [hO] at hP2
        exact walkfff y m d n s _ _ _ _ _ _ _ _ _ ⟨#[]⟩ w hT hE (fun W => hide (hN1 W)) (fun W => hide (hR1 W)) (fun W => hide (hO2 W)) (fun W => hide (hN2 W)) (fun W h1 h2 => hide (hP2 W h1 h2))
      · rw [hO] at hP2
        have hT2 := fun W h => text_any (prY s) (prM s) (prD s) W h
        rw [text_parse hO] at hT2
        exact walkfft y m d n s _ _ _ _ _ _ _ _ _ ⟨#[]⟩ w hT hE (fun W => hide (hN1 W)) (fun W => hide (hR1 W)) (fun W => hide (hO2 W)) (fun W => hide (hN2 W)) (fun W h1 h2 => hide (hP2 W h1 h2)) (fun W h => hide (hT2 W h))
    · rw [hI] at hO2
      rw [(num_of hI).1, (num_of hI).2] at hN2
      cases hO : okP s
      · rw [hO] at hP2
        exact walkftf y m d n s _ 0 0 _ _ _ _ _ _ ⟨#[]⟩ w hT hE (fun W => hide (hN1 W)) (fun W => hide (hR1 W)) (fun W => hide (hO2 W)) (fun W => hide (hN2 W)) (fun W h1 h2 => hide (hP2 W h1 h2))
      · rw [hO] at hP2
        have hT2 := fun W h => text_any (prY s) (prM s) (prD s) W h
        rw [text_parse hO] at hT2
        exact walkftt y m d n s _ 0 0 _ _ _ _ _ _ ⟨#[]⟩ w hT hE (fun W => hide (hN1 W)) (fun W => hide (hR1 W)) (fun W => hide (hO2 W)) (fun W => hide (hN2 W)) (fun W h1 h2 => hide (hP2 W h1 h2)) (fun W h => hide (hT2 W h))
  · rw [hR] at hR1
    have hE1 : errR y m d = 0 := by unfold errR; rw [hR]; rfl
    have hU1 : numR y m d = numI y m d := by unfold numR; rw [hR]; rfl
    rw [hE1, hU1] at hN1
    have hO1 := fun W => of_calls (numI y m d) W
    rw [(of_num hR).1, (of_num hR).2.1, (of_num hR).2.2.1, (of_num hR).2.2.2] at hO1
    have hT1 := fun W h => text_any y m d W h
    have hP1 := fun W h1 h2 => parse_calls (txV y m d) W h1 h2
    rw [(parse_text hR).1, (parse_text hR).2.1, (parse_text hR).2.2.1, (parse_text hR).2.2.2] at hP1
    cases hI : inB n
    · rw [hI] at hO2
      cases hO : okP s
      · rw [hO] at hP2
        exact walktff y m d n s _ _ _ _ _ _ _ _ _ _ w hT hE (fun W => hide (hN1 W)) (fun W => hide (hR1 W)) (fun W => hide (hO1 W)) (fun W h => hide (hT1 W h)) (fun W h1 h2 => hide (hP1 W h1 h2)) (fun W => hide (hO2 W)) (fun W => hide (hN2 W)) (fun W h1 h2 => hide (hP2 W h1 h2))
      · rw [hO] at hP2
        have hT2 := fun W h => text_any (prY s) (prM s) (prD s) W h
        rw [text_parse hO] at hT2
        exact walktft y m d n s _ _ _ _ _ _ _ _ _ _ w hT hE (fun W => hide (hN1 W)) (fun W => hide (hR1 W)) (fun W => hide (hO1 W)) (fun W h => hide (hT1 W h)) (fun W h1 h2 => hide (hP1 W h1 h2)) (fun W => hide (hO2 W)) (fun W => hide (hN2 W)) (fun W h1 h2 => hide (hP2 W h1 h2)) (fun W h => hide (hT2 W h))
    · rw [hI] at hO2
      rw [(num_of hI).1, (num_of hI).2] at hN2
      cases hO : okP s
      · rw [hO] at hP2
        exact walkttf y m d n s _ 0 0 _ _ _ _ _ _ _ w hT hE (fun W => hide (hN1 W)) (fun W => hide (hR1 W)) (fun W => hide (hO1 W)) (fun W h => hide (hT1 W h)) (fun W h1 h2 => hide (hP1 W h1 h2)) (fun W => hide (hO2 W)) (fun W => hide (hN2 W)) (fun W h1 h2 => hide (hP2 W h1 h2))
      · rw [hO] at hP2
        have hT2 := fun W h => text_any (prY s) (prM s) (prD s) W h
        rw [text_parse hO] at hT2
        exact walkttt y m d n s _ 0 0 _ _ _ _ _ _ _ w hT hE (fun W => hide (hN1 W)) (fun W => hide (hR1 W)) (fun W => hide (hO1 W)) (fun W h => hide (hT1 W h)) (fun W h1 h2 => hide (hP1 W h1 h2)) (fun W => hide (hO2 W)) (fun W => hide (hN2 W)) (fun W h1 h2 => hide (hP2 W h1 h2)) (fun W h => hide (hT2 W h))
end Go.Proofs.YtnjjkehoabghhaaDoor.civilBack
