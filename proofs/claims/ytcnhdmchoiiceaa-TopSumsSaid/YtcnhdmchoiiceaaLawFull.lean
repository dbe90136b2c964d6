/- The law's full: a sector's bytes, all alike. -/
import Derived.Test.YtcnhdmchoiiceaaRefSet
namespace Go.Proofs.Ytcnhdmchoiiceaa
open Go.RowKit
def fullB (b : UInt8) : ByteArray := str (List.replicate 64 b)
theorem fullB_size (b : UInt8) : (fullB b).size = 64 := by simp [fullB, str_size]
def mixed (b : UInt8) (k : Nat) : List UInt8 := List.replicate k b ++ List.replicate (64 - k) 0
theorem mixed_length (b : UInt8) (k : Nat) (h : k ≤ 64) : (mixed b k).length = 64 := by simp [mixed]; omega
theorem mixed_set (b : UInt8) (k : Nat) (h : k < 64) : (cellsOf (mixed b k)).set k (.int .u8 (b.toNat : Int)) = cellsOf (mixed b (k + 1)) := by
  unfold cellsOf mixed
  rw [← List.map_set, List.set_append_right _ _ (by simp)]
  simp only [List.length_replicate, Nat.sub_self]
  rw [show 64 - k = (64 - (k + 1)) + 1 by omega, List.replicate_succ, List.set_cons_zero, List.replicate_succ', List.append_assoc]
  rfl
theorem blk_string {P : Program} {w : World} {g : Nat} {l : List UInt8} {n cap : Nat} {t : TypeId} (src dst e : TypeId) (hn : l.length = n) (hs : P.underlying src = some (.slice e)) (he : P.underlying e = some (.int .u8)) (hd : P.underlying dst = some .string)
    (h : Blk w g (cellsOf l) t) : (convert src dst (.slice (some ⟨g, 0, none⟩) n cap)).run P w = .ok (.string (str l)) w := by
  subst hn
  refine run_convert_bytes_back w src dst e _ cap l hs he hd ?_
  intro j hj
  rw [addr_add, Nat.zero_add, h.cell]
  simp [hj, cellsOf]
set_option maxRecDepth 100000 in
set_option maxHeartbeats 1000000 in
theorem full_w (b : UInt8) (w : World) : Calls Try.prog 39 #[.int .u8 (b.toNat : Int)] w fun e w' => e = .returned (.string (fullB b)) ∧ Below w.heap.size w w' := by
  have hmk := run_make_row' (P := Try.prog) 74 5 (.int .u8 0) 1 Try.underlying74 Try.info5 rfl .i64 .i64 64 (by omega) (by omega)
  rw [show madeCells #[Value.int .u8 0] 64 = (cellsOf (mixed b 0)).toArray by rw [made_rep]; simp [cellsOf, mixed]] at hmk
  obtain ⟨cs, hcs⟩ := named (cellsOf (mixed b 0)).toArray
  rw [← hcs.out] at hmk
  have hmk' : ∀ w, (Instr.makeSlice 74 (.int .i64 64) (.int .i64 64)).run Try.prog w = .ok (.slice (some ⟨w.heap.size, 0, none⟩) 64 64) (w.alloc (.cells cs 5)) := hmk
  clear hmk
  have hK : Blk (w.alloc (.cells cs 5)) w.heap.size (cellsOf (mixed b 0)) 5 := by rw [hcs.out]; exact Blk.new w _ _
  have hb0 := below_alloc w (.cells cs 5)
  obtain ⟨W, HW⟩ := named (w.alloc (.cells cs 5))
  go_enter Try.func39, Try.ntmps39
  go_wp2
  rw [← HW.out] at hK hb0 ⊢
  clear hmk' HW
  go_loopw [8] (fun i wr => ∃ k : Nat, k ≤ 64 ∧ i = .int .i64 k ∧ Blk wr w.heap.size (cellsOf (mixed b k)) 5 ∧ Below w.heap.size w wr) (fun i _ => 64 - (intOf i).toNat)
  case atStart => exact ⟨0, by omega, rfl, hK, hb0⟩
  case round =>
    obtain ⟨k, hk, rfl, hb, hbw⟩ := hrel
    by_cases hlt : k < 64
    · have Hlen : Hid ((mixed b k).length = 64) := mixed_length b k hk
      have hi0 : (0 : Int) ≤ (k : Int) := by omega
      have hi1 : (k : Int) < 64 := by omega
      have hc : wr.cell? ⟨w.heap.size, k, none⟩ = some ((cellsOf (mixed b k))[k]'(by rw [cellsOf_length, Hlen.out]; exact hlt)) := by rw [hb.cell]; exact List.getElem?_eq_getElem _
      have hf := hb.free k
      have hb' := hb.set k (.int .u8 (b.toNat : Int))
      rw [mixed_set b k hlt] at hb'
      go_wp2
      go_roundw
      case rel => exact ⟨k + 1, by omega, by go_num, hb', hbw.setCell (p := ⟨w.heap.size, k, none⟩) (Nat.le_refl _) _⟩
      case measure => simp [intOf]; omega
    · obtain rfl : k = 64 := by omega
      have hcv := blk_string (P := Try.prog) (cap := 64) 74 9 5 (mixed_length b 64 (by omega)) Try.underlying74 Try.underlying5 Try.underlying9 hb
      rw [show str (mixed b 64) = fullB b by simp [mixed, fullB]] at hcv
      go_wp2
      go_ret
      exact ⟨rfl, hbw⟩
end Go.Proofs.Ytcnhdmchoiiceaa
