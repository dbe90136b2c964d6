/- value.size of a set of two numbers. -/
import Derived.Test.YtmnfmgoolimlmaaDoorVSize1
import Derived.Test.YtmnfmgoolimlmaaDoorValType
import Derived.Test.YtmnfmgoolimlmaaDoorFlat
namespace Go.Proofs.YtmnfmgoolimlmaaDoor
set_option linter.unusedSimpArgs false
set_option linter.unusedVariables false
open Go.RowKit
def setRow (b c : Nat) : List Value := vRow 4 false 0 ⟨#[]⟩ ⟨#[]⟩ (.slice none 0 0) (.slice (some ⟨b, 0, none⟩) 2 c)
set_option maxRecDepth 100000 in
set_option maxHeartbeats 4000000 in
theorem sizeSet2_w (x y : Int) (b c : Nat) (w : World) (hxy : x < y) (hcell : ∀ i v, (longRow x ++ longRow y)[i]? = some v → w.cell? ⟨b, i, none⟩ = some v) :
    Calls Tryd.prog 47 #[.agg (setRow b c).toArray] w fun e w' => e = .returned (.tuple #[.int .i64 2, .int .i64 3, .bool true]) ∧ Below w.heap.size w w' := by
  have k1 := Blk.new w (setRow b c) 37
  have b1 := below_alloc w (.cells (setRow b c).toArray 37)
  have hs1 : (w.alloc (.cells (setRow b c).toArray 37)).heap.size = w.heap.size + 1 := Array.size_push _
  obtain ⟨W1, HW1⟩ := named (w.alloc (.cells (setRow b c).toArray 37))
  have hsize : ∀ (n : Int) (W : World), Calls Tryd.prog 47 #[.agg #[.int .u8 1, .bool false, .int .i64 n, .string ⟨#[]⟩, .string ⟨#[]⟩, .slice none 0 0, .slice none 0 0]] W fun e w' => e = .returned (.tuple #[.int .i64 1, .int .i64 1, .bool true]) ∧ Below W.heap.size W w' := fun n W => by
    have h := sizeNum_w 1 n W (by decide) (fun h => absurd h (by decide))
    rw [show decide ((1 : Nat) = 1) = true from rfl] at h
    exact h
  have hcmp : ∀ W, Calls Tryd.prog 34 #[.agg (longRow x).toArray, .agg (longRow y).toArray] W fun e w' => e = .returned (.int .i64 (-1)) ∧ Below W.heap.size W w' := fun W => by
    refine (cmpLong_w x y W).mono ?_
    rintro e w' ⟨rfl, rfl⟩
    exact ⟨by unfold cmpI; rw [if_pos hxy], (box2 W _ _ _).2.2⟩
  go_enter Tryd.func47, Tryd.ntmps47
  go_upto_region 1 with (go_quiet (fail))
  rw [← HW1.out] at k1 b1 hs1 ⊢
  clear HW1
  have y0 : W1.cell? ⟨w.heap.size, 0, none⟩ = some (.int .u8 4) := k1.cell 0
  go_upto_region 2 with (go_quiet (fail))
  have k2 := Blk.new W1 (vRow 4 false 0 ⟨#[]⟩ ⟨#[]⟩ (.slice none 0 0) (.slice none 0 0)) 37
  have b2 := bt b1 (below_alloc W1 (.cells (vRow 4 false 0 ⟨#[]⟩ ⟨#[]⟩ (.slice none 0 0) (.slice none 0 0)).toArray 37))
  replace k1 := k1.alloc (.cells (vRow 4 false 0 ⟨#[]⟩ ⟨#[]⟩ (.slice none 0 0) (.slice none 0 0)).toArray 37)
  rw [hs1] at k2
  obtain ⟨W2, HW2⟩ := named (W1.alloc (.cells (vRow 4 false 0 ⟨#[]⟩ ⟨#[]⟩ (.slice none 0 0) (.slice none 0 0)).toArray 37))
  have HW3 := HW2.out
  unfold vRow at HW3
  have HW4 : W2 = W1.alloc (.cells #[.int .u8 4, .bool false, .int .i64 0, .string ⟨#[]⟩, .string ⟨#[]⟩, .slice none 0 0, .slice none 0 0] 37) := HW3
  rw [← HW4]
  rw [← HW2.out] at k1 k2 b2
  clear HW4 HW3 HW2 y0 b1 hs1
  have hcells : ∀ i v, (longRow x ++ longRow y)[i]? = some v → W2.cell? ⟨b, i, none⟩ = some v := fun i v hi => cell_below (hcell i v hi) (b2.mono (Nat.le_refl _))
  clear hcell
  obtain ⟨x0, x1, x2, x3, x4, x5, x6⟩ := vcells k1
  obtain ⟨y0, y1, y2, y3, y4, y5, y6⟩ := vcells k2
  clear k2
  go_wp2_with (first | (at_builtin; fail))
  clear x0 x1 x2 x3 x4 x5 x6 y0 y1 y2 y3 y4 y5 y6
  go_loopw [2, 3, 4, 7] (fun d n o i wr => ∃ j : Nat, j ≤ 2 ∧ i = .int .i64 j ∧ d = .int .i64 (if j = 0 then 0 else 1) ∧ n = .int .i64 j ∧ o = .bool true ∧ Blk wr w.heap.size (setRow b c) 37 ∧ (∀ i v, (longRow x ++ longRow y)[i]? = some v → wr.cell? ⟨b, i, none⟩ = some v) ∧ Below w.heap.size w wr) (fun _ _ _ i _ => 2 - (intOf i).toNat)
  case atStart => exact ⟨0, by omega, rfl, rfl, rfl, rfl, k1, hcells, b2⟩
  case round =>
    obtain ⟨j, hj, rfl, rfl, rfl, rfl, hk1, hcl, hbw⟩ := hrel
    clear hcells b2 k1
    have x0 : wr.cell? ⟨w.heap.size, 0, none⟩ = some (.int .u8 4) := hk1.cell 0
    have x6 : wr.cell? ⟨w.heap.size, 6, none⟩ = some (.slice (some ⟨b, 0, none⟩) 2 c) := hk1.cell 6
    rcases (show j = 0 ∨ j = 1 ∨ j = 2 by omega) with rfl | rfl | rfl
    · have z0 : wr.cell? ⟨b, 0, none⟩ = some (.int .u8 1) := hcl 0 _ rfl
      have z1 : wr.cell? ⟨b, 1, none⟩ = some (.bool false) := hcl 1 _ rfl
      have z2 : wr.cell? ⟨b, 2, none⟩ = some (.int .i64 x) := hcl 2 _ rfl
      have z3 : wr.cell? ⟨b, 3, none⟩ = some (.string ⟨#[]⟩) := hcl 3 _ rfl
      have z4 : wr.cell? ⟨b, 4, none⟩ = some (.string ⟨#[]⟩) := hcl 4 _ rfl
      have z5 : wr.cell? ⟨b, 5, none⟩ = some (.slice none 0 0) := hcl 5 _ rfl
      have z6 : wr.cell? ⟨b, 6, none⟩ = some (.slice none 0 0) := hcl 6 _ rfl
      go_wp2_with fail
      refine (hsize x _).mono ?_
      rintro e w2 ⟨rfl, hb2⟩
      replace hk1 := hk1.below hb2
      replace hcl : ∀ i v, (longRow x ++ longRow y)[i]? = some v → w2.cell? ⟨b, i, none⟩ = some v := fun i v hi => cell_below (hcl i v hi) hb2
      have hbw2 := bt hbw hb2
      clear z0 z1 z2 z3 z4 z5 z6 x0 x6 hb2 hbw
      have x0 : w2.cell? ⟨w.heap.size, 0, none⟩ = some (.int .u8 4) := hk1.cell 0
      go_wp2_with (go_quiet (fail))
      go_roundw
      case rel => exact ⟨1, by omega, rfl, by first | rfl | (simp; rfl), rfl, rfl, hk1, hcl, hbw2⟩
      case measure => simp [intOf]
    · have z0 : wr.cell? ⟨b, 7, none⟩ = some (.int .u8 1) := hcl 7 _ rfl
      have z1 : wr.cell? ⟨b, 8, none⟩ = some (.bool false) := hcl 8 _ rfl
      have z2 : wr.cell? ⟨b, 9, none⟩ = some (.int .i64 y) := hcl 9 _ rfl
      have z3 : wr.cell? ⟨b, 10, none⟩ = some (.string ⟨#[]⟩) := hcl 10 _ rfl
      have z4 : wr.cell? ⟨b, 11, none⟩ = some (.string ⟨#[]⟩) := hcl 11 _ rfl
      have z5 : wr.cell? ⟨b, 12, none⟩ = some (.slice none 0 0) := hcl 12 _ rfl
      have z6 : wr.cell? ⟨b, 13, none⟩ = some (.slice none 0 0) := hcl 13 _ rfl
      go_wp2_with fail
      refine (hsize y _).mono ?_
      rintro e w2 ⟨rfl, hb2⟩
      have hk2 := hk1.below hb2
      have hcells2 : ∀ i v, (longRow x ++ longRow y)[i]? = some v → w2.cell? ⟨b, i, none⟩ = some v := fun i v hi => cell_below (hcl i v hi) hb2
      have hbw2 := bt hbw hb2
      clear z0 z1 z2 z3 z4 z5 z6 x0 x6 hb2 hbw hk1 hcl
      have x0 : w2.cell? ⟨w.heap.size, 0, none⟩ = some (.int .u8 4) := hk2.cell 0
      go_upto_region 23 with (go_quiet (fail))
      clear x0
      refine region_tail 16 _ (fun u => Blk u w.heap.size (setRow b c) 37 ∧ (∀ i v, (longRow x ++ longRow y)[i]? = some v → u.cell? ⟨b, i, none⟩ = some v) ∧ Below w.heap.size w u) (fun u u' => Below u.heap.size u u')
        (rel [fun v _ => v = .bool true,
          fun v _ => v = .bool true,
          fun v _ => v = .pointer (some ⟨w.heap.size, 6, none⟩),
          fun v _ => v = .slice (some ⟨b, 0, none⟩) 2 c,
          fun v _ => v = .int .i64 1,
          fun v _ => v = .int .i64 0,
          fun v _ => v = .pointer (some ⟨b, 0, none⟩),
          fun v _ => v = .agg (longRow x).toArray,
          fun v _ => v = .pointer (some ⟨w.heap.size, 6, none⟩),
          fun v _ => v = .slice (some ⟨b, 0, none⟩) 2 c,
          fun v _ => v = .int .i64 1,
          fun v _ => v = .pointer (some ⟨b, 7, none⟩),
          fun v _ => v = .agg (longRow y).toArray,
          fun v _ => v = .int .i64 (-1),
          fun v _ => v = .bool true,
          fun v _ => v = .bool true])
        (by kernel_rfl) (by kernel_rfl) (by kernel_rfl) (by decide) (fun v => by simp only [putsV, List.take_succ_cons, List.take_zero, Act.put, List.toList_toArray, List.setIfInBounds_toArray, List.set_cons_zero, List.set_cons_succ, Nat.reduceAdd, Nat.zero_add]; rfl) ?_ ⟨hk2, hcells2, hbw2.drew⟩ ?_ ?_
      · intro j x u u' hb h
        match j with
        | 0 => exact h
        | 1 => exact h
        | 2 => exact h
        | 3 => exact h
        | 4 => exact h
        | 5 => exact h
        | 6 => exact h
        | 7 => exact h
        | 8 => exact h
        | 9 => exact h
        | 10 => exact h
        | 11 => exact h
        | 12 => exact h
        | 13 => exact h
        | 14 => exact h
        | 15 => exact h
        | _ + 16 => trivial
      · refine ⟨?_, ?_, ?_, ?_, ?_, ?_, ?_, ?_, ?_, ?_, ?_, ?_, ?_, ?_, ?_, ?_, trivial⟩
        · intro v u hS hd K' hK
          simp only [waited, List.toList_toArray, Region.binds, rel, List.getD_cons_zero, List.getD_cons_succ, true_imp_iff, and_true] at hd
          simp only [rel, List.getD_cons_zero, List.getD_cons_succ, Act.put, List.setIfInBounds_toArray, List.set_cons_zero, List.set_cons_succ] at hK
          try simp only [hd] at hK
          obtain ⟨hS1, hS2, hS3⟩ := hS
          go_simp
          exact hK.out _ _ ⟨⟨hS1, hS2, hS3⟩, Below.refl _ _, rfl⟩
        · intro v u hS hd K' hK
          simp only [waited, List.toList_toArray, Region.binds, rel, List.getD_cons_zero, List.getD_cons_succ, true_imp_iff, and_true] at hd
          simp only [rel, List.getD_cons_zero, List.getD_cons_succ, Act.put, List.setIfInBounds_toArray, List.set_cons_zero, List.set_cons_succ] at hK
          try simp only [hd] at hK
          obtain ⟨hS1, hS2, hS3⟩ := hS
          go_simp
          exact hK.out _ _ ⟨⟨hS1, hS2, hS3⟩, Below.refl _ _, rfl⟩
        · intro v u hS hd K' hK
          simp only [waited, List.toList_toArray, Region.binds, rel, List.getD_cons_zero, List.getD_cons_succ, true_imp_iff, and_true] at hd
          simp only [rel, List.getD_cons_zero, List.getD_cons_succ, Act.put, List.setIfInBounds_toArray, List.set_cons_zero, List.set_cons_succ] at hK
          try simp only [hd] at hK
          obtain ⟨hS1, hS2, hS3⟩ := hS
          go_simp
          exact hK.out _ _ ⟨⟨hS1, hS2, hS3⟩, Below.refl _ _, rfl⟩
        · intro v u hS hd K' hK
          simp only [waited, List.toList_toArray, Region.binds, rel, List.getD_cons_zero, List.getD_cons_succ, true_imp_iff, and_true] at hd
          simp only [rel, List.getD_cons_zero, List.getD_cons_succ, Act.put, List.setIfInBounds_toArray, List.set_cons_zero, List.set_cons_succ] at hK
          try simp only [hd] at hK
          obtain ⟨hS1, hS2, hS3⟩ := hS
          have x0 : u.cell? ⟨w.heap.size, 6, none⟩ = some (.slice (some ⟨b, 0, none⟩) 2 c) := hS1.cell 6
          go_simp
          exact hK.out _ _ ⟨⟨hS1, hS2, hS3⟩, Below.refl _ _, rfl⟩
        · intro v u hS hd K' hK
          simp only [waited, List.toList_toArray, Region.binds, rel, List.getD_cons_zero, List.getD_cons_succ, true_imp_iff, and_true] at hd
          simp only [rel, List.getD_cons_zero, List.getD_cons_succ, Act.put, List.setIfInBounds_toArray, List.set_cons_zero, List.set_cons_succ] at hK
          try simp only [hd] at hK
          obtain ⟨hS1, hS2, hS3⟩ := hS
          go_simp
          exact hK.out _ _ ⟨⟨hS1, hS2, hS3⟩, Below.refl _ _, rfl⟩
        · intro v u hS hd K' hK
          simp only [waited, List.toList_toArray, Region.binds, rel, List.getD_cons_zero, List.getD_cons_succ, true_imp_iff, and_true] at hd
          simp only [rel, List.getD_cons_zero, List.getD_cons_succ, Act.put, List.setIfInBounds_toArray, List.set_cons_zero, List.set_cons_succ] at hK
          try simp only [hd] at hK
          obtain ⟨hS1, hS2, hS3⟩ := hS
          go_simp
          exact hK.out _ _ ⟨⟨hS1, hS2, hS3⟩, Below.refl _ _, rfl⟩
        · intro v u hS hd K' hK
          simp only [waited, List.toList_toArray, Region.binds, rel, List.getD_cons_zero, List.getD_cons_succ, true_imp_iff, and_true] at hd
          simp only [rel, List.getD_cons_zero, List.getD_cons_succ, Act.put, List.setIfInBounds_toArray, List.set_cons_zero, List.set_cons_succ] at hK
          try simp only [hd] at hK
          obtain ⟨hS1, hS2, hS3⟩ := hS
          go_simp
          exact hK.out _ _ ⟨⟨hS1, hS2, hS3⟩, Below.refl _ _, rfl⟩
        · intro v u hS hd K' hK
          simp only [waited, List.toList_toArray, Region.binds, rel, List.getD_cons_zero, List.getD_cons_succ, true_imp_iff, and_true] at hd
          simp only [rel, List.getD_cons_zero, List.getD_cons_succ, Act.put, List.setIfInBounds_toArray, List.set_cons_zero, List.set_cons_succ] at hK
          try simp only [hd] at hK
          obtain ⟨hS1, hS2, hS3⟩ := hS
          have x0 : u.cell? ⟨b, 0, none⟩ = some (.int .u8 1) := hS2 0 _ rfl
          have x1 : u.cell? ⟨b, 1, none⟩ = some (.bool false) := hS2 1 _ rfl
          have x2 : u.cell? ⟨b, 2, none⟩ = some (.int .i64 x) := hS2 2 _ rfl
          have x3 : u.cell? ⟨b, 3, none⟩ = some (.string ⟨#[]⟩) := hS2 3 _ rfl
          have x4 : u.cell? ⟨b, 4, none⟩ = some (.string ⟨#[]⟩) := hS2 4 _ rfl
          have x5 : u.cell? ⟨b, 5, none⟩ = some (.slice none 0 0) := hS2 5 _ rfl
          have x6 : u.cell? ⟨b, 6, none⟩ = some (.slice none 0 0) := hS2 6 _ rfl
          go_simp
          exact hK.out _ _ ⟨⟨hS1, hS2, hS3⟩, Below.refl _ _, rfl⟩
        · intro v u hS hd K' hK
          simp only [waited, List.toList_toArray, Region.binds, rel, List.getD_cons_zero, List.getD_cons_succ, true_imp_iff, and_true] at hd
          simp only [rel, List.getD_cons_zero, List.getD_cons_succ, Act.put, List.setIfInBounds_toArray, List.set_cons_zero, List.set_cons_succ] at hK
          try simp only [hd] at hK
          obtain ⟨hS1, hS2, hS3⟩ := hS
          go_simp
          exact hK.out _ _ ⟨⟨hS1, hS2, hS3⟩, Below.refl _ _, rfl⟩
        · intro v u hS hd K' hK
          simp only [waited, List.toList_toArray, Region.binds, rel, List.getD_cons_zero, List.getD_cons_succ, true_imp_iff, and_true] at hd
          simp only [rel, List.getD_cons_zero, List.getD_cons_succ, Act.put, List.setIfInBounds_toArray, List.set_cons_zero, List.set_cons_succ] at hK
          try simp only [hd] at hK
          obtain ⟨hS1, hS2, hS3⟩ := hS
          have x0 : u.cell? ⟨w.heap.size, 6, none⟩ = some (.slice (some ⟨b, 0, none⟩) 2 c) := hS1.cell 6
          go_simp
          exact hK.out _ _ ⟨⟨hS1, hS2, hS3⟩, Below.refl _ _, rfl⟩
        · intro v u hS hd K' hK
          simp only [waited, List.toList_toArray, Region.binds, rel, List.getD_cons_zero, List.getD_cons_succ, true_imp_iff, and_true] at hd
          simp only [rel, List.getD_cons_zero, List.getD_cons_succ, Act.put, List.setIfInBounds_toArray, List.set_cons_zero, List.set_cons_succ] at hK
          try simp only [hd] at hK
          obtain ⟨hS1, hS2, hS3⟩ := hS
          go_simp
          exact hK.out _ _ ⟨⟨hS1, hS2, hS3⟩, Below.refl _ _, rfl⟩
        · intro v u hS hd K' hK
          simp only [waited, List.toList_toArray, Region.binds, rel, List.getD_cons_zero, List.getD_cons_succ, true_imp_iff, and_true] at hd
          simp only [rel, List.getD_cons_zero, List.getD_cons_succ, Act.put, List.setIfInBounds_toArray, List.set_cons_zero, List.set_cons_succ] at hK
          try simp only [hd] at hK
          obtain ⟨hS1, hS2, hS3⟩ := hS
          go_simp
          exact hK.out _ _ ⟨⟨hS1, hS2, hS3⟩, Below.refl _ _, rfl⟩
        · intro v u hS hd K' hK
          simp only [waited, List.toList_toArray, Region.binds, rel, List.getD_cons_zero, List.getD_cons_succ, true_imp_iff, and_true] at hd
          simp only [rel, List.getD_cons_zero, List.getD_cons_succ, Act.put, List.setIfInBounds_toArray, List.set_cons_zero, List.set_cons_succ] at hK
          try simp only [hd] at hK
          obtain ⟨hS1, hS2, hS3⟩ := hS
          have x0 : u.cell? ⟨b, 7, none⟩ = some (.int .u8 1) := hS2 7 _ rfl
          have x1 : u.cell? ⟨b, 8, none⟩ = some (.bool false) := hS2 8 _ rfl
          have x2 : u.cell? ⟨b, 9, none⟩ = some (.int .i64 y) := hS2 9 _ rfl
          have x3 : u.cell? ⟨b, 10, none⟩ = some (.string ⟨#[]⟩) := hS2 10 _ rfl
          have x4 : u.cell? ⟨b, 11, none⟩ = some (.string ⟨#[]⟩) := hS2 11 _ rfl
          have x5 : u.cell? ⟨b, 12, none⟩ = some (.slice none 0 0) := hS2 12 _ rfl
          have x6 : u.cell? ⟨b, 13, none⟩ = some (.slice none 0 0) := hS2 13 _ rfl
          go_simp
          exact hK.out _ _ ⟨⟨hS1, hS2, hS3⟩, Below.refl _ _, rfl⟩
        · intro v u hS hd K' hK
          simp only [waited, List.toList_toArray, Region.binds, rel, List.getD_cons_zero, List.getD_cons_succ, true_imp_iff, and_true] at hd
          simp only [rel, List.getD_cons_zero, List.getD_cons_succ, Act.put, List.setIfInBounds_toArray, List.set_cons_zero, List.set_cons_succ] at hK
          try simp only [hd] at hK
          obtain ⟨hS1, hS2, hS3⟩ := hS
          go_simp
          refine (hcmp _).mono ?_
          rintro e w2 ⟨rfl, hb2⟩
          exact hK.out _ _ ⟨⟨hS1.below hb2, fun i v hi => cell_below (hS2 i v hi) hb2, bt hS3 hb2⟩, hb2, rfl⟩
        · intro v u hS hd K' hK
          simp only [waited, List.toList_toArray, Region.binds, rel, List.getD_cons_zero, List.getD_cons_succ, true_imp_iff, and_true] at hd
          simp only [rel, List.getD_cons_zero, List.getD_cons_succ, Act.put, List.setIfInBounds_toArray, List.set_cons_zero, List.set_cons_succ] at hK
          try simp only [hd] at hK
          obtain ⟨hS1, hS2, hS3⟩ := hS
          go_simp
          exact hK.out _ _ ⟨⟨hS1, hS2, hS3⟩, Below.refl _ _, rfl⟩
        · intro v u hS hd K' hK
          simp only [waited, List.toList_toArray, Region.binds, rel, List.getD_cons_zero, List.getD_cons_succ, true_imp_iff, and_true] at hd
          simp only [rel, List.getD_cons_zero, List.getD_cons_succ, Act.put, List.setIfInBounds_toArray, List.set_cons_zero, List.set_cons_succ] at hK
          try simp only [hd] at hK
          obtain ⟨hS1, hS2, hS3⟩ := hS
          go_simp
          exact hK.out _ _ ⟨⟨hS1, hS2, hS3⟩, Below.refl _ _, rfl⟩
      · rintro v u ⟨hS1, hS2, hS3⟩ hR
        simp only [holdAll, List.size_toArray, List.length_cons, List.length_nil, Nat.reduceAdd, rel, List.getD_cons_zero, List.getD_cons_succ] at hR
        simp only [List.toList_toArray, List.drop_succ_cons, List.drop_zero]
        obtain ⟨_, h28⟩ := hR
        simp only [h28]
        clear h28
        refine seqOps_cons fun K hK => ?_
        go_simp
        refine hK.out _ _ (seqOps_nil ?_)
        clear hK
        obtain ⟨hk1, hcells, hbw⟩ : _ ∧ _ ∧ _ := ⟨hS1, hS2, hS3⟩
        have x0 : u.cell? ⟨w.heap.size, 0, none⟩ = some (.int .u8 4) := hk1.cell 0
        go_wp2_with (go_quiet (fail))
        go_roundw
        case rel => exact ⟨2, by omega, rfl, by first | rfl | simp, rfl, rfl, hk1, hcells, hbw⟩
        case measure => simp [intOf]
    · go_wp2_with (go_quiet (fail))
      go_ret3
      exact ⟨rfl, hbw⟩
end Go.Proofs.YtmnfmgoolimlmaaDoor
