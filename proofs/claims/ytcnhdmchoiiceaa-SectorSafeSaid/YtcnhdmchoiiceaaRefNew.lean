/- The document's New. -/
import Derived.Test.YtcnhdmchoiiceaaRefSet
import Derived.Test.YtcnhdmchoiiceaaSecEnd
import Derived.Deep.RegionHeld3
namespace Go.Proofs.Ytcnhdmchoiiceaa
open Go.RowKit
set_option maxHeartbeats 1000000 in
theorem refNew_no (n : Int) (w : World) (hn : -9223372036854775808 ≤ n ∧ n ≤ 9223372036854775807) (h : ¬ (1 ≤ n ∧ n ≤ 1024)) :
    Calls Try.prog 25 #[.int .i64 n] w (DkRet dk0 1 w) := by
  obtain ⟨h1, h2⟩ := hn
  have h' : n < 1 ∨ 1 ≤ n ∧ 1024 < n := by omega
  clear h
  rcases h' with h' | ⟨h', h''⟩
  all_goals
    go_enter Try.func25, Try.ntmps25
    go_wp2
    refine bodyPost_ret (v := .tuple #[.agg #[.slice none 0 0, .slice none 0 0, .bool false, .int .i64 0], .int .i64 1]) (by simp [results, Try.results25, go_sem]) rfl ?_
    exact ⟨_, rfl, DkIs.zero _, below_alloc _ _⟩
/-- A row grown by one, its holder's cell set. -/
theorem grew {w wr w1 w0 : World} {N : Nat} {v u v1 v2 v3 : Value} {l : List Value} {n m : Nat} {xs ys : List Value} (k1 : Blk wr N l 25) (k2 : Blk wr (N + 1) [v, v1, v2, v3] 25) (ho : wr.ownsRow (N + 2) 9 1 v n xs) (hb : Below N w wr)
    (h0 : Below wr.heap.size wr w0) (own : w1.ownsRow (N + 2) 9 1 u m ys) (hg : w0.grownBy w1 v.ownBlock) :
    Blk (w1.setCell ⟨N + 1, 0, none⟩ u) N l 25 ∧ Blk (w1.setCell ⟨N + 1, 0, none⟩ u) (N + 1) [u, v1, v2, v3] 25 ∧ (w1.setCell ⟨N + 1, 0, none⟩ u).ownsRow (N + 2) 9 1 u m ys ∧ Below N w (w1.setCell ⟨N + 1, 0, none⟩ u) := by
  have hlt := k2.lt
  have q1 := k1.below h0
  have q2 := k2.below h0
  have qo := own_below ho h0
  have m1 : Blk w1 N l 25 := (hg.block N q1.lt (Ne.symm (own_blk_ne qo q1 (by decide)))).trans q1
  have m2 : Blk w1 (N + 1) [v, v1, v2, v3] 25 := (hg.block (N + 1) q2.lt (Ne.symm (own_blk_ne qo q2 (by decide)))).trans q2
  have hb1 : Below N w w1 := (hb.trans (h0.mono (by omega))).grown hg (by have := h0.size; omega) (fun k hk => by have := ho.lt k hk; omega)
  exact ⟨m1.far (p := ⟨N + 1, 0, none⟩) (by simp) _, m2.set 0 u, own_far own (p := ⟨N + 1, 0, none⟩) (own_blk_ne own m2 (by decide)) _, hb1.setCell (p := ⟨N + 1, 0, none⟩) (by simp only; omega) _⟩
theorem rep_more (k : Nat) (x : ByteArray) : strs (List.replicate k x) ++ [Value.string x] = strs (List.replicate (k + 1) x) := by
  rw [List.replicate_succ', strs_append]; rfl
set_option maxRecDepth 100000 in
set_option maxHeartbeats 1000000 in
theorem refNew_yes (n : Nat) (w : World) (h1 : 1 ≤ n) (h2 : n ≤ 1024) :
    Calls Try.prog 25 #[.int .i64 (n : Int)] w (DkRet ⟨List.replicate n zero64, [], false, -1⟩ 0 w) := by
  have hmk := run_make_row' (P := Try.prog) 74 5 (.int .u8 0) 1 Try.underlying74 Try.info5 rfl .i64 .i64 64 (by omega) (by omega)
  rw [made_zero] at hmk
  have hcv := fun w => back_cells (P := Try.prog) w 74 9 5 5 (List.replicate 64 0) 64 (by simp) Try.underlying74 Try.underlying5 Try.underlying9 64
  obtain ⟨cs, hcs⟩ := named (cellsOf (List.replicate 64 0)).toArray
  rw [← hcs.out] at hmk hcv
  have hmk' : ∀ w, (Instr.makeSlice 74 (.int .i64 64) (.int .i64 64)).run Try.prog w = .ok (.slice (some ⟨w.heap.size, 0, none⟩) 64 64) (w.alloc (.cells cs 5)) := hmk
  have hcv' : ∀ (w : World) (g : Nat), g = w.heap.size → (convert 74 9 (.slice (some ⟨g, 0, none⟩) 64 64)).run Try.prog (w.alloc (.cells cs 5)) = .ok (.string zero64) (w.alloc (.cells cs 5)) := fun w g hg => by subst hg; exact hcv w
  have hcv2 : ∀ (w : World) (g : Nat), g = w.heap.size → (convert 74 9 (.slice (some ⟨g, 0, none⟩) 64 64)).run Try.prog (w.alloc (.cells cs 5)).drew = .ok (.string zero64) (w.alloc (.cells cs 5)).drew := fun w g hg => by subst hg; exact hcv w.drew
  clear hmk hcv hcs
  obtain ⟨j0, hj, hy0, hy1, hy2⟩ := info_parts Try.info9
  obtain ⟨b0, k1, k2⟩ := two_blk w [.slice none 0 0, .slice none 0 0, .bool false, .int .i64 0] [.slice none 0 0, .slice none 0 0, .bool false, .int .i64 (-1)] 25 25
  go_enter Try.func25, Try.ntmps25
  go_wp2
  obtain ⟨W, HW⟩ := named ((w.alloc (.cells #[.slice none 0 0, .slice none 0 0, .bool false, .int .i64 0] 25)).alloc (.cells #[.slice none 0 0, .slice none 0 0, .bool false, .int .i64 (-1)] 25))
  rw [← HW.out] at b0 k1 k2 ⊢
  clear HW
  go_loopw [5] (fun i wr => ∃ (k : Nat) (v : Value), k ≤ n ∧ i = .int .i64 k ∧ Blk wr w.heap.size [.slice none 0 0, .slice none 0 0, .bool false, .int .i64 0] 25 ∧ Blk wr (w.heap.size + 1) [v, .slice none 0 0, .bool false, .int .i64 (-1)] 25 ∧
      wr.ownsRow (w.heap.size + 2) 9 1 v k (strs (List.replicate k zero64)) ∧ Below w.heap.size w wr) (fun i _ => n - (intOf i).toNat)
  case atStart => exact ⟨0, _, by omega, rfl, k1, k2, World.ownsRow_nil _ _ _ _, b0⟩
  case round =>
    obtain ⟨k, v, hk, rfl, K1, K2, O, hb⟩ := hrel
    clear k1 k2 b0
    by_cases hlt : k < n
    · have hlW := K2.lt
      have e0 := K2.cell 0
      have hb2 : Below wr.heap.size wr (((wr.alloc (.cells cs 5)).alloc (.cells #[.string zero64] 9)).drew) := ((below_alloc wr (.cells cs 5)).alloc (by simp) _).drew
      have K2b := K2.below hb2
      have eX2 : (((wr.alloc (.cells cs 5)).alloc (.cells #[.string zero64] 9)).drew).cell? ⟨w.heap.size + 1, 0, none⟩ = some v := K2b.cell 0
      have fX2 : (((wr.alloc (.cells cs 5)).alloc (.cells #[.string zero64] 9)).drew).frozen? ⟨w.heap.size + 1, 0, none⟩ = false := K2b.free 0
      have hpX := own_blk_ne O K2 (by decide)
      have hnew : (((wr.alloc (.cells cs 5)).alloc (.cells #[.string zero64] 9)).drew).heap[wr.heap.size + 1]? = some (.cells #[.string zero64] 9 (0, 0)) := by
        have := heap_alloc_new (wr.alloc (.cells cs 5)) (.cells #[.string zero64] 9)
        rw [show (wr.alloc (.cells cs 5)).heap.size = wr.heap.size + 1 by simp] at this
        exact this
      go_wp2_with fail
      go_region_law
        ((refine step_append_lies _ (by rfl) _ _ _ (by rfl) (w.heap.size + 2) 9 j0 _ 1 16 Try.underlying22 hj hy0 hy1 hy2 rfl (by omega) v k (strs (List.replicate k zero64)) (by rfl) (((O.alloc _).alloc _).drew)
            ⟨wr.heap.size + 1, 0, none⟩ 1 1 [.string zero64] (by rfl) (by rfl) (World.news_of_block (cs := #[.string zero64]) (t := 9) (fr := (0, 0)) hnew) (by simp [Value.oneCell'])
            (by omega) (by simp only [maxLen]; omega) (by omega) (by simp; omega) (wr.heap.size + 2) (by simp) ?_; intro gg cap w1 hown1 hgrow hat hlt2
          have z1 := (hgrow.frozen_far ⟨w.heap.size + 1, 0, none⟩ (by simp; omega) (Ne.symm hpX)).trans fX2
          have z2 := (hgrow.cell_far ⟨w.heap.size + 1, 0, none⟩ (by simp; omega) (Ne.symm hpX)).trans eX2))
      all_goals
        go_wp2
        go_roundw
        case rel =>
          rw [rep_more] at hown1
          obtain ⟨r1, r2, r3, r4⟩ := grew K1 K2 O hb hb2 hown1 hgrow
          exact ⟨k + 1, _, by omega, by go_num, r1, r2, r3, r4⟩
        case measure => simp [intOf]; omega
    · obtain rfl : k = n := by omega
      obtain ⟨A, c, rfl, _⟩ := Lies.of_own O
      have g0 := K2.cell 0
      have g1 := K2.cell 1
      have g2 := K2.cell 2
      have g3 := K2.cell 3
      have z0 := K1.free 0
      have z1 := K1.free 1
      have z2 := K1.free 2
      have z3 := K1.free 3
      have r0 := K1.cell 0
      have r1 := K1.cell 1
      have r2 := K1.cell 2
      have r3 := K1.cell 3
      go_wp2_with fail
      refine bodyPost_ret (v := .tuple #[.agg #[.slice A k c, .slice none 0 0, .bool false, .int .i64 (-1)], .int .i64 0]) (by simp [results, Try.results25, go_sem, r0, r1, r2, r3]) rfl ?_
      have hO := own_far4 O (own_blk_ne O K1 (by decide)) (.slice A k c) (.slice none 0 0) (.bool false) (.int .i64 (-1))
      obtain ⟨A1, c1, x1, _, _, t1, _⟩ := Lies.of_own hO
      cases x1
      refine ⟨_, rfl, ⟨A, c, none, 0, by simp, ?_, Lies.nil _ _ _, by simp; omega, by simp, by simp, by simp⟩, below4 hb (Nat.le_refl _) (.slice A k c) (.slice none 0 0) (.bool false) (.int .i64 (-1))⟩
      simpa [Texts, set4] using t1
theorem refNew_w (n : Int) (w : World) (hn : -9223372036854775808 ≤ n ∧ n ≤ 9223372036854775807) : Calls Try.prog 25 #[.int .i64 n] w (DkRet (newD n) (newE n) w) := by
  by_cases h : 1 ≤ n ∧ n ≤ 1024
  · have e := refNew_yes n.toNat w (by omega) (by omega)
    rw [show ((n.toNat : Nat) : Int) = n by omega] at e
    simpa [newD, newE, h] using e
  · have e := refNew_no n w hn h
    simpa [newD, newE, h] using e
end Go.Proofs.Ytcnhdmchoiiceaa
