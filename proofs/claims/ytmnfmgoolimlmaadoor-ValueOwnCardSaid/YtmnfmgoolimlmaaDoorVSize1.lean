/- value.size, value.Check at numbers. -/
import Derived.Test.YtmnfmgoolimlmaaDoorVLong
namespace Go.Proofs.YtmnfmgoolimlmaaDoor
set_option linter.unusedSimpArgs false
set_option linter.unusedVariables false
open Go.RowKit
/-- A block's cells and that none is frozen. -/
theorem vcells {w : World} {g k : Nat} {b : Bool} {n : Int} {s t : ByteArray} {N L : Value} {T : TypeId} (h : Blk w g (vRow k b n s t N L) T) :
    w.cell? ⟨g, 0, none⟩ = some (.int .u8 (k : Int)) ∧ w.cell? ⟨g, 1, none⟩ = some (.bool b) ∧ w.cell? ⟨g, 2, none⟩ = some (.int .i64 n) ∧ w.cell? ⟨g, 3, none⟩ = some (.string s) ∧ w.cell? ⟨g, 4, none⟩ = some (.string t) ∧ w.cell? ⟨g, 5, none⟩ = some N ∧ w.cell? ⟨g, 6, none⟩ = some L :=
  ⟨h.cell 0, h.cell 1, h.cell 2, h.cell 3, h.cell 4, h.cell 5, h.cell 6⟩
set_option maxRecDepth 100000 in
set_option maxHeartbeats 1000000 in
theorem sizeNum_w (k : Nat) (n : Int) (w : World) (hk : k < 2) (hn : k = 0 → n = 1) :
    Calls Tryd.prog 47 #[.agg (vRow k false n ⟨#[]⟩ ⟨#[]⟩ (.slice none 0 0) (.slice none 0 0)).toArray] w fun e w' => e = .returned (.tuple #[.int .i64 1, .int .i64 1, .bool (decide (k = 1))]) ∧ Below w.heap.size w w' := by
  have k1 := Blk.new w (vRow k false n ⟨#[]⟩ ⟨#[]⟩ (.slice none 0 0) (.slice none 0 0)) 37
  have b1 := below_alloc w (.cells (vRow k false n ⟨#[]⟩ ⟨#[]⟩ (.slice none 0 0) (.slice none 0 0)).toArray 37)
  have hs1 : (w.alloc (.cells (vRow k false n ⟨#[]⟩ ⟨#[]⟩ (.slice none 0 0) (.slice none 0 0)).toArray 37)).heap.size = w.heap.size + 1 := Array.size_push _
  obtain ⟨W1, HW1⟩ := named (w.alloc (.cells (vRow k false n ⟨#[]⟩ ⟨#[]⟩ (.slice none 0 0) (.slice none 0 0)).toArray 37))
  go_enter Tryd.func47, Tryd.ntmps47
  go_upto_region 1 with (go_quiet (fail))
  rw [← HW1.out] at k1 b1 hs1 ⊢
  clear HW1
  obtain ⟨x0, x1, x2, x3, x4, x5, x6⟩ := vcells k1
  go_upto_region 2 with (go_quiet (fail))
  have k2 := Blk.new W1 (vRow k false 0 ⟨#[]⟩ ⟨#[]⟩ (.slice none 0 0) (.slice none 0 0)) 37
  have b2 := bt b1 (below_alloc W1 (.cells (vRow k false 0 ⟨#[]⟩ ⟨#[]⟩ (.slice none 0 0) (.slice none 0 0)).toArray 37))
  replace k1 := k1.alloc (.cells (vRow k false 0 ⟨#[]⟩ ⟨#[]⟩ (.slice none 0 0) (.slice none 0 0)).toArray 37)
  rw [hs1] at k2
  obtain ⟨W2, HW2⟩ := named (W1.alloc (.cells (vRow k false 0 ⟨#[]⟩ ⟨#[]⟩ (.slice none 0 0) (.slice none 0 0)).toArray 37))
  have HW3 := HW2.out
  unfold vRow at HW3
  rw [← HW3]
  rw [← HW2.out] at k1 k2 b2
  clear HW3 HW2 x0 x1 x2 x3 x4 x5 x6 b1 hs1
  obtain ⟨x0, x1, x2, x3, x4, x5, x6⟩ := vcells k1
  obtain ⟨y0, y1, y2, y3, y4, y5, y6⟩ := vcells k2
  have f2 := k2.free 2
  have f1 := k2.free 1
  rcases (show k = 0 ∨ k = 1 by omega) with rfl | rfl
  · obtain rfl := hn rfl
    have k3 := k2.set 1 (.bool false)
    have k4 := k1.far (p := ⟨w.heap.size + 1, 1, none⟩) (by show w.heap.size ≠ w.heap.size + 1; omega) (.bool false)
    have b3 := b2.setCell (p := ⟨w.heap.size + 1, 1, none⟩) (by show w.heap.size ≤ w.heap.size + 1; omega) (.bool false)
    go_upto_region 15 with (go_quiet (fail))
    clear x0 x1 x2 x3 x4 x5 x6 y0 y1 y2 y3 y4 y5 y6 f1 f2
    obtain ⟨W3, HW3⟩ := named (W2.setCell ⟨w.heap.size + 1, 1, none⟩ (.bool false))
    rw [← HW3.out] at k3 k4 b3 ⊢
    clear HW3
    obtain ⟨x0, x1, x2, x3, x4, x5, x6⟩ := vcells k4
    obtain ⟨y0, y1, y2, y3, y4, y5, y6⟩ := vcells (show Blk W3 _ (vRow 0 false 0 ⟨#[]⟩ ⟨#[]⟩ (.slice none 0 0) (.slice none 0 0)) _ from k3)
    go_wp2_with (first | (at_builtin; fail))
    go_loopw [2, 3, 4, 7] (fun d c o i wr => d = .int .i64 0 ∧ c = .int .i64 0 ∧ o = .bool false ∧ i = .int .i64 0 ∧ wr = W3) (fun _ _ _ _ _ => 0)
    case atStart => exact ⟨rfl, rfl, rfl, rfl, rfl⟩
    case round =>
      obtain ⟨rfl, rfl, rfl, rfl, rfl⟩ := hrel
      go_wp2_with (go_quiet (fail))
      go_ret3
      exact ⟨rfl, b3⟩
  · have k3 := k2.set 2 (.int .i64 n)
    have k4 := k1.far (p := ⟨w.heap.size + 1, 2, none⟩) (by show w.heap.size ≠ w.heap.size + 1; omega) (.int .i64 n)
    have b3 := b2.setCell (p := ⟨w.heap.size + 1, 2, none⟩) (by show w.heap.size ≤ w.heap.size + 1; omega) (.int .i64 n)
    go_upto_region 15 with (go_quiet (fail))
    clear x0 x1 x2 x3 x4 x5 x6 y0 y1 y2 y3 y4 y5 y6 f1 f2
    obtain ⟨W3, HW3⟩ := named (W2.setCell ⟨w.heap.size + 1, 2, none⟩ (.int .i64 n))
    rw [← HW3.out] at k3 k4 b3 ⊢
    clear HW3
    obtain ⟨x0, x1, x2, x3, x4, x5, x6⟩ := vcells k4
    obtain ⟨y0, y1, y2, y3, y4, y5, y6⟩ := vcells (show Blk W3 _ (vRow 1 false n ⟨#[]⟩ ⟨#[]⟩ (.slice none 0 0) (.slice none 0 0)) _ from k3)
    go_wp2_with (first | (at_builtin; fail))
    go_loopw [2, 3, 4, 7] (fun d c o i wr => d = .int .i64 0 ∧ c = .int .i64 0 ∧ o = .bool true ∧ i = .int .i64 0 ∧ wr = W3) (fun _ _ _ _ _ => 0)
    case atStart => exact ⟨rfl, rfl, rfl, rfl, rfl⟩
    case round =>
      obtain ⟨rfl, rfl, rfl, rfl, rfl⟩ := hrel
      go_wp2_with (go_quiet (fail))
      go_ret3
      exact ⟨rfl, b3⟩
def numRow (k : Nat) (n : Int) : List Value := vRow k false n ⟨#[]⟩ ⟨#[]⟩ (.slice none 0 0) (.slice none 0 0)
set_option maxRecDepth 100000 in
set_option maxHeartbeats 1000000 in
theorem checkNum_w (k : Nat) (n : Int) (w : World) (hk : k < 2) (hn : k = 0 → n = 1) :
    Calls Tryd.prog 20 #[.agg (numRow k n).toArray] w fun e w' => e = .returned (.int .i64 (if k = 1 then 0 else 7)) ∧ Below w.heap.size w w' := by
  have k1 := Blk.new w (numRow k n) 37
  have b1 := below_alloc w (.cells (numRow k n).toArray 37)
  have hz := fun W => sizeNum_w k n W hk hn
  rw [show vRow k false n ⟨#[]⟩ ⟨#[]⟩ (.slice none 0 0) (.slice none 0 0) = numRow k n from rfl] at hz
  obtain ⟨r, hr⟩ := named (numRow k n)
  rw [← hr.out] at k1 b1 hz ⊢
  have h7 : r.length = 7 := by rw [hr.out]; rfl
  obtain ⟨W1, HW1⟩ := named (w.alloc (.cells r.toArray 37))
  go_enter Tryd.func20, Tryd.ntmps20
  go_upto_region 1 with (go_quiet (fail))
  rw [← HW1.out] at k1 b1 ⊢
  clear HW1 hr
  go_wp2_with (refine wpList_load_row rfl 37 _ rfl _ rfl 37 r.toArray (0, 0) _ k1 Tryd.underlying37 rfl (kV7 h7) ?_)
  refine (hz _).mono ?_
  rintro e w2 ⟨rfl, hb2⟩
  have b2 := bt b1 hb2
  clear hz k1 b1 hb2
  rcases (show k = 0 ∨ k = 1 by omega) with rfl | rfl
  · go_wp2_with (go_quiet (fail))
    go_ret
    exact ⟨rfl, b2⟩
  · go_wp2_with (go_quiet (fail))
    go_ret
    exact ⟨rfl, b2⟩
set_option maxRecDepth 100000 in
theorem setBad_w (n : Int) (w : World) :
    Calls Tryd.prog 38 #[.agg (longRow n).toArray] w fun e w' => e = .returned (.bool false) ∧ Below w.heap.size w w' := by
  have k1 := Blk.new w (longRow n) 37
  have b1 := below_alloc w (.cells (longRow n).toArray 37)
  have hz := fun W => checkNum_w 1 n W (by decide) (fun h => absurd h (by decide))
  rw [show numRow 1 n = longRow n from rfl] at hz
  obtain ⟨r, hr⟩ := named (longRow n)
  rw [← hr.out] at k1 b1 hz ⊢
  have h7 : r.length = 7 := by rw [hr.out]; rfl
  obtain ⟨W1, HW1⟩ := named (w.alloc (.cells r.toArray 37))
  go_enter Tryd.func38, Tryd.ntmps38
  go_upto_region 1 with (go_quiet (fail))
  rw [← HW1.out] at k1 b1 ⊢
  clear HW1 hr
  go_wp2_with (refine wpList_load_row rfl 37 _ rfl _ rfl 37 r.toArray (0, 0) _ k1 Tryd.underlying37 rfl (kV7 h7) ?_)
  refine (hz _).mono ?_
  rintro e w2 ⟨rfl, hb2⟩
  go_wp2_with (go_quiet (fail))
  go_ret
  exact ⟨rfl, bt b1 hb2⟩
end Go.Proofs.YtmnfmgoolimlmaaDoor
