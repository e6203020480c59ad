/- Parse, whatever the text, both of them. -/
import Derived.Test.YtnjjkehoabghhaaDoorCivV
namespace Go.Proofs.YtnjjkehoabghhaaDoor
open Go.RowKit

theorem ten {s : ByteArray} (h : s.size = 10) : ∃ b0 b1 b2 b3 b4 b5 b6 b7 b8 b9, s = ⟨#[b0, b1, b2, b3, b4, b5, b6, b7, b8, b9]⟩ := by
  obtain ⟨⟨l⟩⟩ := s
  have hl : l.length = 10 := h
  match l, hl with
  | [b0, b1, b2, b3, b4, b5, b6, b7, b8, b9], _ => exact ⟨b0, b1, b2, b3, b4, b5, b6, b7, b8, b9, rfl⟩

theorem right_of_text {y m d : Int} {s : ByteArray} (hs : s.size = 10) (h : txV y m d = s) : rightB y m d = true := by
  cases hr : rightB y m d
  · unfold txV at h
    rw [hr] at h
    subst h
    have h0 : (0 : Nat) = 10 := hs
    omega
  · rfl

theorem digits_back {y m d : Int} {b0 b1 b2 b3 b4 b5 b6 b7 b8 b9 : UInt8} (h : txV y m d = ⟨#[b0, b1, b2, b3, b4, b5, b6, b7, b8, b9]⟩) :
    1000 * digV (b0.toNat : Int) + 100 * digV (b1.toNat : Int) + 10 * digV (b2.toNat : Int) + digV (b3.toNat : Int) = y ∧ 10 * digV (b5.toNat : Int) + digV (b6.toNat : Int) = m ∧ 10 * digV (b8.toNat : Int) + digV (b9.toNat : Int) = d := by
  have hr := right_of_text (s := ⟨#[b0, b1, b2, b3, b4, b5, b6, b7, b8, b9]⟩) rfl h
  obtain ⟨h1, h2, h3, h4, h5, h6⟩ := (right_iff y m d).1 hr
  have h7 := (len_bd y m h3 h4).2
  unfold txV at h
  rw [hr] at h
  have hl : textL y m d = [b0, b1, b2, b3, b4, b5, b6, b7, b8, b9] := congrArg (fun s : ByteArray => s.data.toList) h
  unfold textL at hl
  injection hl with e0 hl
  injection hl with e1 hl
  injection hl with e2 hl
  injection hl with e3 hl
  injection hl with e4 hl
  injection hl with e5 hl
  injection hl with e6 hl
  injection hl with e7 hl
  injection hl with e8 hl
  injection hl with e9 hl
  rw [← e0, ← e1, ← e2, ← e3, ← e5, ← e6, ← e8, ← e9]
  rw [digV_of (y / 1000) (by omega) (by omega), digV_of (y / 100 % 10) (by omega) (by omega), digV_of (y / 10 % 10) (by omega) (by omega), digV_of (y % 10) (by omega) (by omega)]
  rw [digV_of (m / 10) (by omega) (by omega), digV_of (m % 10) (by omega) (by omega), digV_of (d / 10) (by omega) (by omega), digV_of (d % 10) (by omega) (by omega)]
  omega

/-- Is s the text of a date? -/
def okP (s : ByteArray) : Bool := decide (s.size = 10 ∧ txV (pY s) (pM s) (pD s) = s)
def prY (s : ByteArray) : Int := if okP s then pY s else 0
def prM (s : ByteArray) : Int := if okP s then pM s else 0
def prD (s : ByteArray) : Int := if okP s then pD s else 0
def prE (s : ByteArray) : Int := if okP s then 0 else 31

theorem parse_calls (s : ByteArray) (w : World) (hT : TabW w) (hE : ErrW w) :
    Calls Tryd.prog 25 #[.string s] w fun e w' => e = .returned (.tuple #[.agg #[.int .i64 (prY s), .int .i64 (prM s), .int .i64 (prD s)], .int .i64 (prE s)]) ∧ Below w.heap.size w w' := by
  unfold prY prM prD prE
  by_cases hs : s.size = 10
  · by_cases hq : txV (pY s) (pM s) (pD s) = s
    · have ho : okP s = true := decide_eq_true ⟨hs, hq⟩
      rw [ho]
      exact parse_ok s hs hq w hT hE
    · have ho : okP s = false := decide_eq_false (fun h => hq h.2)
      rw [ho]
      exact parse_no s hs hq w hT hE
  · have ho : okP s = false := decide_eq_false (fun h => hs h.1)
    rw [ho]
    exact parse_short s hs w

theorem rparse_short (s : ByteArray) (hs : s.size ≠ 10) (w : World) :
    Calls Tryd.prog 26 #[.string s] w fun e w' => e = .returned (.tuple #[.agg #[.int .i64 0, .int .i64 0, .int .i64 0], .int .i64 31]) ∧ Below w.heap.size w w' := by
  have k1 : ((s.size : Int) == 10) = false := beq_eq_false_iff_ne.2 (by omega)
  have bz : Blk (w.alloc (.cells #[.int .i64 0, .int .i64 0, .int .i64 0] 23)) w.heap.size 23 #[.int .i64 0, .int .i64 0, .int .i64 0] := box3 w _ 0 0 0
  have hb0 := (Below.refl w.heap.size w).alloc (Nat.le_refl _) (.cells #[.int .i64 0, .int .i64 0, .int .i64 0] 23)
  go_enter Tryd.func26, Tryd.ntmps26
  go_wp2
  refine bodyPost_ret (results_row_tmp rfl _ _ w.heap.size 23 #[_, _, _] (0, 0) _ rfl bz Tryd.underlying23 rfl (by kernel_rfl)) rfl ⟨rfl, hb0⟩

theorem rparse_calls (s : ByteArray) (w : World) :
    Calls Tryd.prog 26 #[.string s] w fun e w' => e = .returned (.tuple #[.agg #[.int .i64 (prY s), .int .i64 (prM s), .int .i64 (prD s)], .int .i64 (prE s)]) ∧ Below w.heap.size w w' := by
  unfold prY prM prD prE
  by_cases hs : s.size = 10
  · obtain ⟨b0, b1, b2, b3, b4, b5, b6, b7, b8, b9, rfl⟩ := ten hs
    by_cases hq : txV (1000 * digV (b0.toNat : Int) + 100 * digV (b1.toNat : Int) + 10 * digV (b2.toNat : Int) + digV (b3.toNat : Int)) (10 * digV (b5.toNat : Int) + digV (b6.toNat : Int)) (10 * digV (b8.toNat : Int) + digV (b9.toNat : Int)) = ⟨#[b0, b1, b2, b3, b4, b5, b6, b7, b8, b9]⟩
    · have hr := right_of_text hs hq
      obtain ⟨_, e1, e2, e3⟩ := text_reads hr hq
      have ho : okP ⟨#[b0, b1, b2, b3, b4, b5, b6, b7, b8, b9]⟩ = true := decide_eq_true ⟨hs, by rw [e1, e2, e3]; exact hq⟩
      rw [ho, e1, e2, e3]
      exact rparse_ok b0 b1 b2 b3 b4 b5 b6 b7 b8 b9 hr hq w
    · have ho : okP ⟨#[b0, b1, b2, b3, b4, b5, b6, b7, b8, b9]⟩ = false := decide_eq_false (fun h => by
        obtain ⟨e1, e2, e3⟩ := digits_back h.2
        rw [e1, e2, e3] at hq
        exact hq h.2)
      rw [ho]
      cases hr : rightB (1000 * digV (b0.toNat : Int) + 100 * digV (b1.toNat : Int) + 10 * digV (b2.toNat : Int) + digV (b3.toNat : Int)) (10 * digV (b5.toNat : Int) + digV (b6.toNat : Int)) (10 * digV (b8.toNat : Int) + digV (b9.toNat : Int))
      · exact rparse_bad b0 b1 b2 b3 b4 b5 b6 b7 b8 b9 hr w
      · exact rparse_no b0 b1 b2 b3 b4 b5 b6 b7 b8 b9 hr hq w
  · have ho : okP s = false := decide_eq_false (fun h => hs h.1)
    rw [ho]
    exact rparse_short s hs w
end Go.Proofs.YtnjjkehoabghhaaDoor
