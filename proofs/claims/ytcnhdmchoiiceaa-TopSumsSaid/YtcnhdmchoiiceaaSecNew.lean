/- The walks of package sector: New. -/
import Derived.Test.YtcnhdmchoiiceaaSecWalks
import Derived.Deep.OwnRows
import Derived.Laws.CopyOwn
namespace Go.Proofs.Ytcnhdmchoiiceaa
open Go.RowKit
theorem mul_one_w (n : Nat) (w : World) (hn : n < 18446744073709551616) :
    Calls Try.prog 57 #[.int .u64 1, .int .u64 (n : Int)] w fun e w' => e = .returned (.tuple #[.int .u64 0, .int .u64 (n : Int)]) ∧ w = w' := by
  refine (Try.bits_Mul 1 n (by decide) hn w).mono ?_
  rintro e w' ⟨rfl, rfl⟩
  refine ⟨?_, rfl⟩
  rw [Nat.one_mul, Nat.div_eq_of_lt hn, Nat.mod_eq_of_lt hn]
  rfl
/-- A row whose first k texts are s, the others empty. -/
def half (s : ByteArray) (n k : Nat) : List Value := List.replicate k (.string s) ++ List.replicate (n - k) (.string ⟨#[]⟩)
theorem half_length (s : ByteArray) (n k : Nat) (h : k ≤ n) : (half s n k).length = n := by simp [half]; omega
theorem half_full (s : ByteArray) (n : Nat) : half s n n = strs (List.replicate n s) := by simp [half, strs]
theorem half_get (s : ByteArray) (n k j : Nat) (v : Value) (h : (List.replicate k (Value.string s))[j]? = some v) : (half s n k)[j]? = some v := by
  have : j < k := by
    rcases Nat.lt_or_ge j k with h' | h'
    · exact h'
    · simp [h'] at h
  rw [half, List.getElem?_append_left (by simpa using this)]; exact h
theorem half_more (s : ByteArray) (n k m : Nat) : (half s n k).take k ++ List.replicate m (Value.string s) ++ (half s n k).drop (k + m) = half s n (k + m) := by
  rw [half, List.take_left' (by simp), List.drop_append, half]
  simp [List.replicate_append_replicate]
  omega
theorem Try.info9 : (Try.prog.info? 9).map (fun i => (i.zero, i.size, i.bytes)) = some (some (.string ⟨#[]⟩), 1, 16) := by kernel_rfl
theorem Try.isize9 : (Try.prog.info? 9).map (·.size) = some 1 := by kernel_rfl
theorem below_setRow {B : Nat} {a w : World} (h : Below B a w) {g : Nat} (hg : B ≤ g) (cs : Array Value) : Below B a (w.setRow g cs) :=
  h.trans ⟨rfl, rfl, rfl, by simp [World.setRow], fun k hk => by simp only [World.setRow, Array.getElem?_modify]; rw [if_neg (by omega)]⟩
theorem made_rep (z : Value) (n : Nat) : madeCells #[z] n = (List.replicate n z).toArray := by
  apply Array.ext_getElem?
  intro i
  by_cases hi : i < n
  · simp [madeCells, hi]
    rw [Nat.mod_one]
    rfl
  · simp [madeCells, hi]
theorem made_half (s : ByteArray) (n : Nat) : madeCells #[Value.string ⟨#[]⟩] n = (half s n 0).toArray := by
  rw [made_rep]; simp [half]
set_option maxRecDepth 100000 in
set_option maxHeartbeats 400000 in
theorem repeat_w (b : Nat) (s : ByteArray) (n : Nat) (w : World) (hn : 1 ≤ n) (hn' : n ≤ 1024) (hc : w.cell? ⟨b, 0, none⟩ = some (.string s)) :
    Calls Try.prog 49 #[.slice (some ⟨b, 0, none⟩) 1 1, .int .i64 (n : Int)] w fun e w' => ∃ v, e = .returned v ∧ w'.ownsRow w.heap.size 9 1 v n (strs (List.replicate n s)) ∧ Below w.heap.size w w' := by
  have hmk := run_make_row' (P := Try.prog) 22 9 (.string ⟨#[]⟩) 16 Try.underlying22 Try.info9 rfl .i64 .i64 n (by omega) (by omega)
  rw [made_half s n] at hmk
  have hcp0 := run_copy_row (P := Try.prog) (w.alloc (.cells (half s n 0).toArray 9)) 22 22 3 9 w.heap.size 0 n n ⟨b, 0, none⟩ 1 1 (half s n 0).toArray 9 [.string s] Try.underlying22 Try.isize9 (heap_alloc_new w _)
    (by show (1 : Nat) = min 1 n; omega) (fun j v hj => by
      match j, hj with
      | 0, hj =>
        simp at hj; subst hj
        have hlt := World.block_lt_of_cell? w _ hc
        simpa [Addr.add] using (World.cell?_alloc_lt w (.cells (half s n 0).toArray 9) ⟨b, 0, none⟩ hlt).trans hc) (by simp [half]; omega) (by intro v hv; simp at hv; subst hv; rfl)
  have e1 : ((half s n 0).toArray.toList.take 0 ++ [Value.string s] ++ (half s n 0).toArray.toList.drop (0 + [Value.string s].length)).toArray = (half s n 1).toArray := by
    have := half_more s n 0 1
    simpa using this
  rw [e1] at hcp0
  clear e1
  obtain ⟨W1, hW1⟩ := named ((w.alloc (.cells (half s n 0).toArray 9)).setRow w.heap.size (half s n 1).toArray)
  rw [← hW1.out] at hcp0
  have hg1 : W1.heap[w.heap.size]? = some (.cells (half s n 1).toArray 9 (0, 0)) := by rw [hW1.out]; exact setRow_heap _ _ _ _ _ _ (heap_alloc_new w _)
  have hb1 : Below w.heap.size w W1 := by
    rw [hW1.out]
    exact below_setRow (below_alloc w _) (Nat.le_refl _) _
  have Hg1 := hide hg1
  clear hg1
  go_enter Try.func49, Try.ntmps49
  go_wp2_with fail
  refine (mul_one_w n _ (by omega)).mono ?_
  rintro e w1 ⟨rfl, rfl⟩
  go_wp2
  clear hmk hcp0
  go_loopw [8] (fun i wr => ∃ k : Nat, 1 ≤ k ∧ k ≤ n ∧ i = .int .i64 k ∧ wr.heap[w.heap.size]? = some (.cells (half s n k).toArray 9 (0, 0)) ∧ Below w.heap.size w wr) (fun i _ => n - (intOf i).toNat)
  case atStart => exact ⟨1, by omega, by omega, rfl, Hg1.out, hb1⟩
  case round =>
    obtain ⟨k, hk1, hk, rfl, hg, hb⟩ := hrel
    have Hg := hide hg
    by_cases hlt : k < n
    · have hcp := run_copy_row (P := Try.prog) wr.drew 22 22 3 9 w.heap.size k (n - k) (n - k) ⟨w.heap.size, 0, none⟩ k n (half s n k).toArray 9 (List.replicate (min k (n - k)) (.string s)) Try.underlying22 Try.isize9 hg
        (by simp) (fun j v hj => by
          rw [addr_add]
          have hj' : (half s n k)[j]? = some v := half_get s n k j v (by
            have hjk : j < k := by
              rcases Nat.lt_or_ge j (min k (n - k)) with h' | h'
              · omega
              · rw [List.getElem?_eq_none (by simpa using h')] at hj; cases hj
            rw [List.getElem?_replicate] at hj ⊢
            rw [if_pos hjk]
            split at hj
            · exact hj
            · cases hj)
          have := cell_of_row wr w.heap.size (0 + j) (half s n k).toArray 9 (0, 0) hg
          exact this.trans (by simpa using hj')) (by rw [List.length_replicate, List.size_toArray, half_length s n k hk]; omega) (by intro v hv; simp at hv; rw [hv.2]; rfl)
      have e1 : ((half s n k).toArray.toList.take k ++ List.replicate (min k (n - k)) (Value.string s) ++ (half s n k).toArray.toList.drop (k + (List.replicate (min k (n - k)) (Value.string s)).length)).toArray = (half s n (k + min k (n - k))).toArray := by
        have := half_more s n k (min k (n - k))
        simpa using this
      rw [e1, List.length_replicate] at hcp
      clear e1 hg
      have hnk : ¬ n = k := by omega
      obtain ⟨m, hm⟩ := named (min k (n - k))
      have hm1 : 1 ≤ m ∧ k + m ≤ n := by rw [hm.out]; omega
      rw [← hm.out] at hcp
      go_wp2
      go_region
      go_wp2
      go_roundw
      case rel => exact ⟨k + m, by omega, by omega, by go_num, setRow_heap _ _ _ _ _ _ (show wr.drew.heap[w.heap.size]? = _ from Hg.out), below_setRow (hb.drew) (Nat.le_refl _) _⟩
      case measure => simp [intOf]; omega
    · obtain rfl : k = n := by omega
      go_wp2
      go_ret
      refine ⟨_, rfl, ⟨by rw [strs_length]; simp, .inr ⟨w.heap.size, k, _, rfl, Nat.le_refl _, Hg.out, Nat.le_refl _, by unfold maxLen; omega, by simp [half_length], ?_⟩⟩, hb⟩
      rw [half_full, Nat.mul_one, List.take_of_length_le (by simp [strs_length])]
theorem Try.info5 : (Try.prog.info? 5).map (fun i => (i.zero, i.size, i.bytes)) = some (some (.int .u8 0), 1, 1) := by kernel_rfl
theorem made_zero : madeCells #[Value.int .u8 0] 64 = (cellsOf (List.replicate 64 0)).toArray := by rw [made_rep]; simp [cellsOf]
set_option maxRecDepth 100000 in
set_option maxHeartbeats 400000 in
theorem new_yes (n : Nat) (w : World) (h1 : 1 ≤ n) (h2 : n ≤ 1024) :
    Calls Try.prog 24 #[.int .i64 (n : Int)] w (DkRet ⟨List.replicate n zero64, [], false, -1⟩ 0 w) := by
  have hmk := run_make_row' (P := Try.prog) 74 5 (.int .u8 0) 1 Try.underlying74 Try.info5 rfl .i64 .i64 64 (by omega) (by omega)
  rw [made_zero] at hmk
  have hcv := fun w => back_cells (P := Try.prog) w 74 9 5 5 (List.replicate 64 0) 64 (by simp) Try.underlying74 Try.underlying5 Try.underlying9 64
  obtain ⟨cs, hcs⟩ := named (cellsOf (List.replicate 64 0)).toArray
  rw [← hcs.out] at hmk hcv
  have hmk' : ∀ w, (Instr.makeSlice 74 (.int .i64 64) (.int .i64 64)).run Try.prog w = .ok (.slice (some ⟨w.heap.size, 0, none⟩) 64 64) (w.alloc (.cells cs 5)) := hmk
  have hcv' : ∀ (w : World) (g : Nat), g = w.heap.size → (convert 74 9 (.slice (some ⟨g, 0, none⟩) 64 64)).run Try.prog (w.alloc (.cells cs 5)) = .ok (.string zero64) (w.alloc (.cells cs 5)) := fun w g hg => by subst hg; exact hcv w
  clear hmk hcv hcs
  go_enter Try.func24, Try.ntmps24
  go_wp2_with fail
  refine (repeat_w _ zero64 n _ h1 h2 (by rw [World.cell?_alloc_at _ _ _ _ (by simp)]; rfl)).mono ?_
  rintro e w1 ⟨v, rfl, hown, hb⟩
  obtain ⟨A, c, rfl, hnc, hcm, hl, hA⟩ := Lies.of_own hown
  have hblk : w1.heap[w.heap.size]? = some (.cells [.slice none 0 0, .slice none 0 0, .bool false, .int .i64 0].toArray 25 (0, 0)) := by
    rw [hb.block _ (by simp; omega)]
    exact (Below.heap_alloc _ _ _ (by simp; omega)).trans ((Below.heap_alloc _ _ _ (by simp)).trans (blk_new w _ _))
  have hc := blk_cell hblk
  have hf := blk_free hblk
  have hsz : w.heap.size < w1.heap.size := by have := hb.size; simp at this; omega
  have hbw : Below w.heap.size w w1 := bt (bt (bt (below_alloc _ _) (below_alloc _ _)) (below_alloc _ _)) hb
  have hA' := hide (fun a (h : A = some a) => show a.block ≠ w.heap.size by have := hA a h; simp at this; omega)
  clear hown hmk' hcv' hb hblk hA
  go_wp2
  refine bodyPost_ret (v := .tuple #[.agg #[.slice A n c, .slice none 0 0, .bool false, .int .i64 (-1)], .int .i64 0]) (by simp [results, Try.results24, go_sem, hc]) rfl ?_
  refine ⟨_, rfl, ⟨A, c, none, 0, by simp, ?_, Lies.nil _ _ _, by simp; omega, by simp, by simp, by simp⟩, ?_⟩
  · have := (((hl.far (p := ⟨w.heap.size, 0, none⟩) hA'.out (.slice A n c)).far (p := ⟨w.heap.size, 1, none⟩) hA'.out (.slice none 0 0)).far (p := ⟨w.heap.size, 2, none⟩) hA'.out (.bool false)).far (p := ⟨w.heap.size, 3, none⟩) hA'.out (.int .i64 (-1))
    simpa [Texts] using this
  · exact (((hbw.setCell (p := ⟨w.heap.size, 0, none⟩) (Nat.le_refl _) _).setCell (p := ⟨w.heap.size, 1, none⟩) (Nat.le_refl _) _).setCell (p := ⟨w.heap.size, 2, none⟩) (Nat.le_refl _) _).setCell (p := ⟨w.heap.size, 3, none⟩) (Nat.le_refl _) _
set_option maxHeartbeats 400000 in
theorem new_no (n : Int) (w : World) (hn : -9223372036854775808 ≤ n ∧ n ≤ 9223372036854775807) (h : ¬ (1 ≤ n ∧ n ≤ 1024)) :
    Calls Try.prog 24 #[.int .i64 n] w (DkRet dk0 1 w) := by
  obtain ⟨h1, h2⟩ := hn
  have h' : n < 1 ∨ 1024 < n := by omega
  clear h
  rcases h' with h' | h'
  all_goals
    go_enter Try.func24, Try.ntmps24
    go_wp2
    refine bodyPost_ret (v := .tuple #[.agg #[.slice none 0 0, .slice none 0 0, .bool false, .int .i64 0], .int .i64 1]) (by simp [results, Try.results24, go_sem]) rfl ?_
    exact ⟨_, rfl, DkIs.zero _, below_alloc _ _⟩
end Go.Proofs.Ytcnhdmchoiiceaa
