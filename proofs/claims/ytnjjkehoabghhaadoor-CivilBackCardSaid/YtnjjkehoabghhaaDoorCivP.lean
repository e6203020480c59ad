/- The walk of civil.padded. -/
import Derived.Test.YtnjjkehoabghhaaDoorCalA
import Derived.Test.YtnjjkehoabghhaaDoorShelf
import Derived.Lib.AppendIntMem
import Derived.Lib.SmallJoins
namespace Go.Proofs.YtnjjkehoabghhaaDoor
open Go.RowKit

abbrev TabW (w : World) : Prop := Lib.TabIs Tryd.prog w "internal/strconv.uint64pow10" .u64 Lib.pow10Tab

theorem TabW.on {w w' : World} (h : TabW w) (hb : Below w.heap.size w w') : TabW w' := Lib.tabBelow_of_tabIs h w' hb

def padL (width : Nat) (s : List UInt8) : List UInt8 := List.replicate (width - s.length) 48 ++ s

theorem str_app (a b : List UInt8) : Value.string (⟨a.toArray⟩ ++ ⟨b.toArray⟩) = Value.string ⟨(a ++ b).toArray⟩ := congrArg Value.string (by apply ByteArray.ext; simp)

def strLen : Value → Nat
  | .string g => g.data.size
  | _ => 0

theorem pad_step (j : Nat) (s : List UInt8) : (48 :: (List.replicate j 48 ++ s)) = List.replicate (j + 1) 48 ++ s := by
  rw [List.replicate_succ]; rfl

theorem padded_calls (n : Int) (width : Nat) (h0 : -9223372036854775808 ≤ n) (h1 : n ≤ 9223372036854775807) (hw : width ≤ 4) (w : World) (hT : TabW w) :
    Calls Tryd.prog 29 #[.int .i64 n, .int .i64 (width : Int)] w fun e w' => e = .returned (.string ⟨(padL width (Lib.itoa n)).toArray⟩) ∧ Below w.heap.size w w' := by
  have hi := hide (Tryd.strconv_Itoa n h0 h1 w hT)
  generalize hs : Lib.itoa n = s at *
  clear hs
  go_enter Tryd.func29, Tryd.ntmps29
  go_wp2_with fail
  refine (unhide hi).mono ?_
  rintro e w1 ⟨rfl, k, os, hg⟩
  have hb : Below w.heap.size w w1 := by rw [hg]; exact Lib.below_grow _ _ (Nat.le_refl _) _ _
  clear hg hi hT
  go_wp2
  go_loopw [5] (fun v wr => ∃ j : Nat, v = .string ⟨(List.replicate j 48 ++ s).toArray⟩ ∧ j ≤ width - s.length ∧ wr = w1) (fun v _ => width - strLen v)
  case atStart => exact ⟨0, by simp, by omega, rfl⟩
  case round =>
    obtain ⟨j, rfl, hj, rfl⟩ := hrel
    have hjl : ((List.replicate j (48 : UInt8) ++ s).toArray).size = j + s.length := by simp
    have hjs := pad_step j s
    by_cases hlt : j + s.length < width
    · have hd : decide ((j : Int) + (s.length : Int) < (width : Int)) = true := decide_eq_true (by omega)
      go_wp2
      go_roundw
      case rel => exact ⟨j + 1, by rw [← pad_step]; exact str_app [48] _, by omega, trivial⟩
      case measure => simp [strLen]; omega
    · have hd : decide ((j : Int) + (s.length : Int) < (width : Int)) = false := decide_eq_false (by omega)
      have hje : j = width - s.length := by omega
      subst hje
      go_wp2
      go_ret
      exact ⟨rfl, hb⟩

def dig (x : Int) : UInt8 := UInt8.ofNat (48 + x.toNat)

theorem pad2 (n : Int) (h0 : 0 ≤ n) (h1 : n < 100) : padL 2 (Lib.itoa n) = [dig (n / 10), dig (n % 10)] := by
  obtain ⟨u, rfl⟩ := Int.eq_ofNat_of_zero_le h0
  have e1 : ((u : Int) / 10).toNat = u / 10 := by omega
  have e2 : ((u : Int) % 10).toNat = u % 10 := by omega
  unfold Lib.itoa dig
  rw [if_neg (by omega), e1, e2, show ((u : Int)).toNat = u by omega, Lib.decDigits]
  by_cases h : u < 10
  · rw [dif_pos h, show u / 10 = 0 by omega, show u % 10 = u by omega]
    rfl
  · rw [dif_neg h, Lib.decDigits, dif_pos (by omega)]
    rfl

theorem pad4 (n : Int) (h0 : 1000 ≤ n) (h1 : n < 10000) : padL 4 (Lib.itoa n) = [dig (n / 1000), dig (n / 100 % 10), dig (n / 10 % 10), dig (n % 10)] := by
  obtain ⟨u, rfl⟩ := Int.eq_ofNat_of_zero_le (show (0 : Int) ≤ n by omega)
  have e1 : ((u : Int) / 1000).toNat = u / 10 / 10 / 10 := by omega
  have e2 : ((u : Int) / 100 % 10).toNat = u / 10 / 10 % 10 := by omega
  have e3 : ((u : Int) / 10 % 10).toNat = u / 10 % 10 := by omega
  have e4 : ((u : Int) % 10).toNat = u % 10 := by omega
  unfold Lib.itoa dig
  rw [if_neg (by omega), e1, e2, e3, e4, show ((u : Int)).toNat = u by omega, Lib.decDigits, dif_neg (by omega), Lib.decDigits, dif_neg (by omega), Lib.decDigits, dif_neg (by omega), Lib.decDigits, dif_pos (by omega)]
  rfl
end Go.Proofs.YtnjjkehoabghhaaDoor
