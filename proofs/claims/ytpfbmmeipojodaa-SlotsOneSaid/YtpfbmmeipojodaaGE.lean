/- Several small texts of this proof, one behind the other. -/
import Derived.Test.YtpfbmmeipojodaaGD
import Derived.Test.YtpfbmmeipojodaaGA
import Derived.BigQuiet
import Derived.Test.YtpfbmmeipojodaaRecSector
section
/- The document's Check, Pieces, padded, Same of chapter 03. -/
namespace Go.Proofs.Ytpfbmmeipojodaa
open Go.RowKit
set_option maxHeartbeats 1000000 in
theorem refCheck3_w (kind : UInt8) (epoch seq : Nat) (p : ByteArray) (w : World) :
    Calls Try.prog 60 #[.agg #[.int .u8 (kind.toNat : Int), .int .u64 (epoch : Int), .int .u64 (seq : Int), .string p]] w fun e w' => e = .returned (.int .i64 (frCheck ⟨kind, epoch, seq, p.data.toList⟩)) ∧ Below w.heap.size w w' := by
  have hl : p.data.toList.length = p.size := Array.length_toList
  by_cases hk : kind = 0
  · subst hk
    rw [show frCheck ⟨0, epoch, seq, p.data.toList⟩ = 1 by simp [frCheck]]
    clear hl
    go_enter Try.func60, Try.ntmps60
    go_wp2
    go_ret
    exact ⟨rfl, below_alloc _ _⟩
  · have hk' : ((kind.toNat : Int) == 0) = false := by
      have : kind.toNat ≠ 0 := fun h => hk (UInt8.toNat_inj.1 h)
      simp; omega
    have hk2 : ¬ ((kind.toNat : Int) = 0) := by simpa using hk'
    by_cases hp : 16384 < p.size
    · rw [show frCheck ⟨kind, epoch, seq, p.data.toList⟩ = 3 by simp only [frCheck, hk, if_false, hl, hp, if_true]]
      have hp' : (16384 : Int) < (p.size : Int) := by omega
      clear hl
      go_enter Try.func60, Try.ntmps60
      go_wp2
      go_ret
      exact ⟨rfl, below_alloc _ _⟩
    · rw [show frCheck ⟨kind, epoch, seq, p.data.toList⟩ = 0 by simp only [frCheck, hk, if_false, hl, hp]]
      have hp' : (p.size : Int) ≤ 16384 := by omega
      clear hl
      go_enter Try.func60, Try.ntmps60
      go_wp2
      go_ret
      exact ⟨rfl, below_alloc _ _⟩
set_option maxHeartbeats 1000000 in
theorem refPieces_yes (n : Nat) (w : World) (h : n ≤ 16384) :
    Calls Try.prog 63 #[.int .i64 (n : Int)] w fun e w' => e = .returned (.tuple #[.int .i64 (piecesN n : Int), .int .i64 0]) ∧ w = w' := by
  have h1 : (n : Int) ≤ 16384 := by omega
  have h0 : (0 : Int) ≤ (n : Int) := by omega
  go_enter Try.func63, Try.ntmps63
  go_wp2
  go_loop [4] (fun i => ∃ k : Nat, k ≤ piecesN n ∧ i = .int .i64 k) (fun i => piecesN n - (intOf i).toNat)
  case atStart => exact ⟨0, by omega, rfl⟩
  case round =>
    obtain ⟨k, hk, rfl⟩ := hrel
    have hkb : k ≤ 269 := by unfold piecesN at hk; omega
    by_cases hlt : k < piecesN n
    · have hlt2 : (k : Int) * 61 < (n : Int) := by unfold piecesN at hlt; omega
      go_wp2
      go_round
      case rel => exact ⟨k + 1, by omega, by go_num⟩
      case measure => simp [intOf]; omega
    · have hke : k = piecesN n := by omega
      have hge : (n : Int) ≤ (k : Int) * 61 := by unfold piecesN at hlt; omega
      have Hke := hide hke
      clear hke
      go_wp2
      go_ret2
      have hk9 := Hke.out
      subst hk9
      exact ⟨rfl, rfl⟩
set_option maxHeartbeats 1000000 in
theorem refPieces_no (n : Int) (w : World) (hn : -9223372036854775808 ≤ n ∧ n ≤ 9223372036854775807) (h : n < 0 ∨ 16384 < n) :
    Calls Try.prog 63 #[.int .i64 n] w fun e w' => e = .returned (.tuple #[.int .i64 0, .int .i64 1]) ∧ w = w' := by
  obtain ⟨lo, hi⟩ := hn
  have h' : n < 0 ∨ 0 ≤ n ∧ 16384 < n := by omega
  clear h
  rcases h' with h | ⟨h0, h⟩
  all_goals
    go_enter Try.func63, Try.ntmps63
    go_wp2
    go_ret2
    exact ⟨rfl, rfl⟩
end Go.Proofs.Ytpfbmmeipojodaa
end
section
/- The document's padded of chapter 03. -/
namespace Go.Proofs.Ytpfbmmeipojodaa
open Go.RowKit
theorem made_zeros (n : Nat) : madeCells #[Value.int .u8 0] n = (cellsOf (List.replicate n 0)).toArray := by rw [made_rep]; simp [cellsOf]
set_option maxHeartbeats 1000000 in
set_option maxRecDepth 100000 in
theorem padded_w (s : ByteArray) (w : World) (h : s.size ≤ 64) :
    Calls Try.prog 97 #[.string s] w fun e w' => e = .returned (.string (str (fillL 64 s.data.toList))) ∧ Below w.heap.size w w' := by
  obtain ⟨n, hn⟩ := named (64 - s.size)
  have hsub : (64 : Int) - (s.size : Int) = (n : Int) := by rw [hn.out]; omega
  have hn64 : n ≤ 64 := by rw [hn.out]; omega
  have hmk := run_make_row' (P := Try.prog) 56 5 (.int .u8 0) 1 Try.underlying56 Try.info5 rfl .i64 .i64 n (by omega) (by omega)
  rw [made_zeros] at hmk
  have hcv := fun w => back_cells (P := Try.prog) w 56 9 5 5 (List.replicate n 0) n (by simp) Try.underlying56 Try.underlying5 Try.underlying9 n
  obtain ⟨cs, hcs⟩ := named (cellsOf (List.replicate n 0)).toArray
  obtain ⟨Z, HZ⟩ := named (str (List.replicate n 0))
  rw [← hcs.out] at hmk hcv
  rw [← HZ.out] at hcv
  have hcv' : ∀ (w : World) (g : Nat), g = w.heap.size → (convert 56 9 (.slice (some ⟨g, 0, none⟩) n n)).run Try.prog (w.alloc (.cells cs 5)) = .ok (.string Z) (w.alloc (.cells cs 5)) := fun w g hg => by subst hg; exact hcv w
  have hZ : Z.size ≤ 64 := by rw [HZ.out, str_size, List.length_replicate]; exact hn64
  have hadd : ∀ w', (Op.stringOp .add s Z).run Try.prog w' = .ok (.string (s ++ Z)) w' := fun w' => run_string_add_sum w' s Z (by omega)
  have Hfin : Hid (s ++ Z = str (fillL 64 s.data.toList)) := by
    show _ = _
    rw [HZ.out, fillL, show 64 - s.data.toList.length = n by rw [hn.out]; rfl, ← str_append, str_of]
  obtain ⟨R, HR⟩ := named (str (fillL 64 s.data.toList))
  rw [← HR.out]
  clear hcv
  go_enter Try.func97, Try.ntmps97
  go_wp2
  go_ret
  refine ⟨?_, below_alloc _ _⟩
  rw [HR.out, ← Hfin.out]
  rfl
end Go.Proofs.Ytpfbmmeipojodaa
end
