/- record.Check, Pieces. -/
import Derived.Test.YtpfbmmeipojodaaGD
import Derived.Test.YtpfbmmeipojodaaGA
namespace Go.Proofs.Ytpfbmmeipojodaa
open Go.RowKit
/-- A frame's value. -/
def frVal (f : Fr) : Value := .agg #[.int .u8 (f.kind.toNat : Int), .int .u64 (f.epoch : Int), .int .u64 (f.seq : Int), .string (str f.pay)]
set_option maxHeartbeats 1000000 in
theorem recCheck_w (kind : UInt8) (epoch seq : Nat) (p : ByteArray) (w : World) :
    Calls Try.prog 42 #[.agg #[.int .u8 (kind.toNat : Int), .int .u64 (epoch : Int), .int .u64 (seq : Int), .string p]] w fun e w' => e = .returned (.int .i64 (frCheck ⟨kind, epoch, seq, p.data.toList⟩)) ∧ Below w.heap.size w w' := by
  have hl : p.data.toList.length = p.size := Array.length_toList
  by_cases hk : kind = 0
  · subst hk
    rw [show frCheck ⟨0, epoch, seq, p.data.toList⟩ = 1 by simp [frCheck]]
    clear hl
    go_enter Try.func42, Try.ntmps42
    go_wp2
    go_ret
    exact ⟨rfl, below_alloc _ _⟩
  · have hk' : ((kind.toNat : Int) == 0) = false := by
      have : kind.toNat ≠ 0 := fun h => hk (UInt8.toNat_inj.1 h)
      simp; omega
    have hk2 : ¬ ((kind.toNat : Int) = 0) := by simpa using hk'
    by_cases hp : 16384 < p.size
    · rw [show frCheck ⟨kind, epoch, seq, p.data.toList⟩ = 3 by simp only [frCheck, hk, if_false, hl, hp, if_true]]
      have hp' : (16384 : Int) < (p.size : Int) := by omega
      clear hl
      go_enter Try.func42, Try.ntmps42
      go_wp2
      go_ret
      exact ⟨rfl, below_alloc _ _⟩
    · rw [show frCheck ⟨kind, epoch, seq, p.data.toList⟩ = 0 by simp only [frCheck, hk, if_false, hl, hp]]
      have hp' : (p.size : Int) ≤ 16384 := by omega
      clear hl
      go_enter Try.func42, Try.ntmps42
      go_wp2
      go_ret
      exact ⟨rfl, below_alloc _ _⟩
set_option maxHeartbeats 1000000 in
theorem pieces_yes (n : Nat) (w : World) (h : n ≤ 16384) :
    Calls Try.prog 57 #[.int .i64 (n : Int)] w fun e w' => e = .returned (.tuple #[.int .i64 (piecesN n : Int), .int .i64 0]) ∧ w = w' := by
  have h1 : (n : Int) ≤ 16384 := by omega
  have h0 : (0 : Int) ≤ (n : Int) := by omega
  have hd : ((n : Int) + 61 - 1) / 61 = (piecesN n : Int) := by unfold piecesN; omega
  have hd2 : Int.tdiv ((n : Int) + 61 - 1) 61 = (piecesN n : Int) := by rw [Int.tdiv_eq_ediv_of_nonneg (by omega)]; exact hd
  have hd3 : ((n : Int) + 60) / 61 = (piecesN n : Int) := by unfold piecesN; omega
  go_enter Try.func57, Try.ntmps57
  go_wp2
  go_ret2
  exact ⟨by simp [*], rfl⟩
set_option maxHeartbeats 1000000 in
theorem pieces_no (n : Int) (w : World) (hn : -9223372036854775808 ≤ n ∧ n ≤ 9223372036854775807) (h : n < 0 ∨ 16384 < n) :
    Calls Try.prog 57 #[.int .i64 n] w fun e w' => e = .returned (.tuple #[.int .i64 0, .int .i64 1]) ∧ w = w' := by
  obtain ⟨lo, hi⟩ := hn
  have h' : n < 0 ∨ 0 ≤ n ∧ 16384 < n := by omega
  clear h
  rcases h' with h | ⟨h0, h⟩
  all_goals
    go_enter Try.func57, Try.ntmps57
    go_wp2
    go_ret2
    exact ⟨rfl, rfl⟩
end Go.Proofs.Ytpfbmmeipojodaa
