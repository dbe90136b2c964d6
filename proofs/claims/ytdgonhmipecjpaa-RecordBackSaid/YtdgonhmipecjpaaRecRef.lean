/- The document's Check, Pieces, padded, Same of chapter 03. -/
import Derived.Test.YtdgonhmipecjpaaRecPlain
import Derived.Test.YtdgonhmipecjpaaInfo
import Derived.BigQuiet
namespace Go.Proofs.Ytdgonhmipecjpaa
open Go.RowKit
set_option maxHeartbeats 1000000 in
theorem refCheck3_w (kind : UInt8) (epoch seq : Nat) (p : ByteArray) (w : World) :
    Calls Try.prog 22 #[.agg #[.int .u8 (kind.toNat : Int), .int .u64 (epoch : Int), .int .u64 (seq : Int), .string p]] w fun e w' => e = .returned (.int .i64 (frCheck ⟨kind, epoch, seq, p.data.toList⟩)) ∧ Below w.heap.size w w' := by
  have hl : p.data.toList.length = p.size := Array.length_toList
  by_cases hk : kind = 0
  · subst hk
    rw [show frCheck ⟨0, epoch, seq, p.data.toList⟩ = 1 by simp [frCheck]]
    clear hl
    go_enter Try.func22, Try.ntmps22
    go_wp2
    go_ret
    exact ⟨rfl, below_alloc _ _⟩
  · have hk' : ((kind.toNat : Int) == 0) = false := by
      have : kind.toNat ≠ 0 := fun h => hk (UInt8.toNat_inj.1 h)
      simp; omega
    have hk2 : ¬ ((kind.toNat : Int) = 0) := by simpa using hk'
    by_cases hp : 16384 < p.size
    · rw [show frCheck ⟨kind, epoch, seq, p.data.toList⟩ = 3 by simp only [frCheck, hk, if_false, hl, hp, if_true]]
      have hp' : (16384 : Int) < (p.size : Int) := by omega
      clear hl
      go_enter Try.func22, Try.ntmps22
      go_wp2
      go_ret
      exact ⟨rfl, below_alloc _ _⟩
    · rw [show frCheck ⟨kind, epoch, seq, p.data.toList⟩ = 0 by simp only [frCheck, hk, if_false, hl, hp]]
      have hp' : (p.size : Int) ≤ 16384 := by omega
      clear hl
      go_enter Try.func22, Try.ntmps22
      go_wp2
      go_ret
      exact ⟨rfl, below_alloc _ _⟩
set_option maxHeartbeats 1000000 in
theorem refPieces_yes (n : Nat) (w : World) (h : n ≤ 16384) :
    Calls Try.prog 18 #[.int .i64 (n : Int)] w fun e w' => e = .returned (.tuple #[.int .i64 (piecesN n : Int), .int .i64 0]) ∧ w = w' := by
  have h1 : (n : Int) ≤ 16384 := by omega
  have h0 : (0 : Int) ≤ (n : Int) := by omega
  go_enter Try.func18, Try.ntmps18
  go_wp2
  go_loop [4] (fun i => ∃ k : Nat, k ≤ piecesN n ∧ i = .int .i64 k) (fun i => piecesN n - (intOf i).toNat)
  case atStart => exact ⟨0, by omega, rfl⟩
  case round =>
    obtain ⟨k, hk, rfl⟩ := hrel
    have hkb : k ≤ 269 := by unfold piecesN at hk; omega
    by_cases hlt : k < piecesN n
    · have hlt2 : (k : Int) * 61 < (n : Int) := by unfold piecesN at hlt; omega
      go_wp2
      go_round
      case rel => exact ⟨k + 1, by omega, by go_num⟩
      case measure => simp [intOf]; omega
    · have hke : k = piecesN n := by omega
      have hge : (n : Int) ≤ (k : Int) * 61 := by unfold piecesN at hlt; omega
      have Hke := hide hke
      clear hke
      go_wp2
      go_ret2
      have hk9 := Hke.out
      subst hk9
      exact ⟨rfl, rfl⟩
set_option maxHeartbeats 1000000 in
theorem refPieces_no (n : Int) (w : World) (hn : -9223372036854775808 ≤ n ∧ n ≤ 9223372036854775807) (h : n < 0 ∨ 16384 < n) :
    Calls Try.prog 18 #[.int .i64 n] w fun e w' => e = .returned (.tuple #[.int .i64 0, .int .i64 1]) ∧ w = w' := by
  obtain ⟨lo, hi⟩ := hn
  have h' : n < 0 ∨ 0 ≤ n ∧ 16384 < n := by omega
  clear h
  rcases h' with h | ⟨h0, h⟩
  all_goals
    go_enter Try.func18, Try.ntmps18
    go_wp2
    go_ret2
    exact ⟨rfl, rfl⟩
set_option maxHeartbeats 1000000 in
theorem refSame3_w (A B : Option Addr) (a b : Nat) (l : List ByteArray) (w : World) (h1 : Texts w A l) (h2 : Texts w B l) (hl : l.length ≤ 140737488351232) :
    Calls Try.prog 20 #[.slice A l.length a, .slice B l.length b] w fun e w' => e = .returned (.bool true) ∧ Below w.heap.size w w' := by
  go_enter Try.func20, Try.ntmps20
  go_wp2
  go_loopw [13] (fun i wr => ∃ k : Nat, k ≤ l.length ∧ i = .int .i64 k ∧ ∃ m, wr = w.drewN m) (fun i _ => l.length - (intOf i).toNat)
  case atStart => exact ⟨0, by omega, rfl, 0, rfl⟩
  case round =>
    obtain ⟨k, hk, rfl, m, rfl⟩ := hrel
    by_cases hlt : k < l.length
    · obtain ⟨b1, o1, rfl, hc⟩ := h1.at_ hlt
      obtain ⟨b2, o2, rfl, hc2⟩ := h2.at_ hlt
      have hi0 : (0 : Int) ≤ (k : Int) := by omega
      have hi1 : (k : Int) < (l.length : Int) := by omega
      go_wp2_with (go_quiet (fail))
      go_roundw
      case rel => exact ⟨k + 1, by omega, by go_num, _, rfl⟩
      case measure => simp [intOf]; omega
    · go_wp2
      go_ret
      exact ⟨rfl, below_drewN (Below.refl _ _) m⟩
end Go.Proofs.Ytdgonhmipecjpaa
