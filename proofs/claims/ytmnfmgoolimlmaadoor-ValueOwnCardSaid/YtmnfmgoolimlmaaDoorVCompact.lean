/- slices.CompactFunc at three numbers, the last two alike. -/
import Derived.Test.YtmnfmgoolimlmaaDoorVStable
namespace Go.Proofs.YtmnfmgoolimlmaaDoor
set_option linter.unusedSimpArgs false
set_option linter.unusedVariables false
open Go.RowKit
theorem below_setCells {B : Nat} {a w : World} {g : Nat} (h : Below B a w) (hg : B ≤ g) : ∀ (o : Nat) (zs : List Value), Below B a (w.setCells g o zs) := by
  intro o zs
  induction zs generalizing w o with
  | nil => exact h
  | cons z zs ih => exact ih (h.setCell (p := ⟨g, o, none⟩) hg z) (o + 1)
theorem Blk.setCells {w : World} {g : Nat} {vs : List Value} {t : TypeId} (h : Blk w g vs t) : ∀ (o : Nat) (zs : List Value), ∃ vs' : List Value, Blk (w.setCells g o zs) g vs' t ∧ (∀ i < o, vs'[i]? = vs[i]?) ∧ vs'.length = vs.length := by
  intro o zs
  induction zs generalizing w vs o with
  | nil => exact ⟨vs, h, fun _ _ => rfl, rfl⟩
  | cons z zs ih =>
    obtain ⟨vs', k, h1, h2⟩ := ih (h.set o z) (o + 1)
    refine ⟨vs', k, fun i hi => ?_, by rw [h2, List.length_set]⟩
    rw [h1 i (by omega), List.getElem?_set, if_neg (by omega)]
theorem zeroV : ∀ w, (zeroValue 37).run Tryd.prog w = .ok (.agg zeroRow.toArray) w := fun w => by kernel_rfl
theorem zeroRow_one : ∀ v ∈ zeroRow, v.oneCell' = true := by
  intro v hv
  simp only [zeroRow, vRow, List.mem_cons, List.not_mem_nil, or_false] at hv
  rcases hv with rfl | rfl | rfl | rfl | rfl | rfl | rfl <;> rfl
theorem zeroCells1 : (Builtin.zeroCells (Value.agg zeroRow.toArray).cells 1).toList = zeroRow := by kernel_rfl
theorem run_clear_row (w : World) (ty : TypeId) (b o c : Nat) (hc : ∀ j, j < 7 → (w.cell? ⟨b, o + j, none⟩).isSome = true) (hf : ∀ j, j < 7 → w.frozen? ⟨b, o + j, none⟩ = false) :
    (Builtin.clear_ #[33] ty #[.slice (some ⟨b, o, none⟩) 1 c]).run Tryd.prog w = .ok (.tuple #[]) (w.setCells b o zeroRow) := by
  have hst := run_storeCells_cells (P := Tryd.prog) b o zeroRow 0 w hc hf zeroRow_one
  simp only [Nat.add_zero] at hst
  have h1 := run_underlying (P := Tryd.prog) Tryd.underlying33
  have h2 : (Builtin.zeroCells (Value.agg #[.int .u8 0, .bool false, .int .i64 0, .string ⟨#[]⟩, .string ⟨#[]⟩, .slice none 0 0, .slice none 0 0]).cells 1).toList = zeroRow := zeroCells1
  simp [Builtin.clear_, h1, zeroV, zeroCells1, h2, hst]
theorem isSome_lt {vs : List Value} {j : Nat} (h : j < vs.length) : (vs[j]?).isSome = true := by simp [h]
theorem longCells_pre {x y z : Int} {i : Nat} {v : Value} (h : (longCells [x, y])[i]? = some v) : (longCells [x, y, z])[i]? = some v := by
  have e : longCells [x, y, z] = longCells [x, y] ++ longRow z := by simp [longCells]
  rw [e, List.getElem?_append_left (List.getElem?_eq_some_iff.1 h).1]
  exact h
set_option maxRecDepth 100000 in
theorem eqLong_w (x y : Int) (w : World) :
    Calls Tryd.prog 42 #[.agg (longRow x).toArray, .agg (longRow y).toArray] w fun e w' => e = .returned (.bool (cmpI x y == 0)) ∧ Below w.heap.size w w' := by
  obtain ⟨k1, k2, b1⟩ := box2 w (longRow x) (longRow y) 37
  have hz : ∀ W, Calls Tryd.prog 34 #[.agg (longRow x).toArray, .agg (longRow y).toArray] W fun e w' => e = .returned (.int .i64 (cmpI x y)) ∧ Below W.heap.size W w' := fun W => by
    refine (cmpLong_w x y W).mono ?_
    rintro e w' ⟨rfl, rfl⟩
    exact ⟨rfl, (box2 W _ _ _).2.2⟩
  obtain ⟨c, hc⟩ := named (cmpI x y)
  rw [← hc.out] at hz ⊢
  clear hc
  obtain ⟨r, hr⟩ := named (longRow x)
  obtain ⟨q, hq⟩ := named (longRow y)
  rw [← hr.out, ← hq.out] at k1 k2 b1 hz ⊢
  have hr7 : r.length = 7 := by rw [hr.out]; rfl
  have hq7 : q.length = 7 := by rw [hq.out]; rfl
  obtain ⟨W1, HW1⟩ := named ((w.alloc (.cells r.toArray 37)).alloc (.cells q.toArray 37))
  go_enter Tryd.func42, Tryd.ntmps42
  go_upto_region 1 with (go_quiet (fail))
  rw [← HW1.out] at k1 k2 b1 ⊢
  clear HW1 hr hq
  go_wp2_with (first
    | refine wpList_load_row rfl 37 _ rfl _ rfl 37 r.toArray (0, 0) _ k1 Tryd.underlying37 rfl (kV7 hr7) ?_
    | refine wpList_load_row rfl 37 _ rfl _ rfl 37 q.toArray (0, 0) _ k2 Tryd.underlying37 rfl (kV7 hq7) ?_)
  refine (hz _).mono ?_
  rintro e w2 ⟨rfl, hb2⟩
  go_wp2_with (go_quiet (fail))
  go_ret
  exact ⟨rfl, bt b1 hb2⟩
set_option maxRecDepth 100000 in
set_option maxHeartbeats 4000000 in
theorem compact3_w (x y : Int) (hxy : x < y) (g cap : Nat) (vs : List Value) (w0 w : World) (hg : w0.heap.size ≤ g) (hcap : 3 ≤ cap) (hk : Blk w g vs 37) (hvs : ∀ (i : Nat) (v : Value), (longCells [x, y, y])[i]? = some v → vs[i]? = some v) (hb0 : Below w0.heap.size w0 w) :
    Calls Tryd.prog 41 #[.slice (some ⟨g, 0, none⟩) 3 cap, .func (.func 42) #[] #[]] w fun e w' => e = .returned (.slice (some ⟨g, 0, none⟩) 2 cap) ∧ ∃ vs' : List Value, Blk w' g vs' 37 ∧ (∀ (i : Nat) (v : Value), (longCells [x, y])[i]? = some v → vs'[i]? = some v) ∧ Below w0.heap.size w0 w' := by
  have eg : ∀ args w, (callFunc 42 args).run Tryd.prog w = .ok (.enter 42 args) w := fun _ _ => by kernel_rfl
  have heq1 : ∀ W, Calls Tryd.prog 42 #[.agg (longRow y).toArray, .agg (longRow x).toArray] W fun e w' => e = .returned (.bool false) ∧ Below W.heap.size W w' := fun W => by
    have h := eqLong_w y x W
    rw [show (cmpI y x == 0) = false by unfold cmpI; rw [if_neg (by omega), if_pos hxy]; rfl] at h
    exact h
  have heq2 : ∀ W, Calls Tryd.prog 42 #[.agg (longRow y).toArray, .agg (longRow y).toArray] W fun e w' => e = .returned (.bool true) ∧ Below W.heap.size W w' := fun W => by
    have h := eqLong_w y y W
    rw [show (cmpI y y == 0) = true by unfold cmpI; rw [if_neg (by omega), if_neg (by omega)]; rfl] at h
    exact h
  have hlen : 21 ≤ vs.length := by
    have := (List.getElem?_eq_some_iff.1 (hvs 20 _ rfl)).1
    omega
  go_enter Tryd.func41, Tryd.ntmps41
  go_wp2_with (first | (at_builtin; fail))
  go_loopw [5] (fun i wr => ∃ j : Nat, (j = 1 ∨ j = 2) ∧ i = .int .i64 j ∧ Blk wr g vs 37 ∧ Below w0.heap.size w0 wr) (fun i _ => 2 - (intOf i).toNat)
  case atStart => exact ⟨1, .inl rfl, rfl, hk, hb0⟩
  case round =>
    obtain ⟨j, hj, rfl, hk1, hbw⟩ := hrel
    clear hk
    rcases hj with rfl | rfl
    · go_upto_region 6 with (go_quiet (fail))
      refine region_flat _ (fun u => Blk u g vs 37 ∧ Below w0.heap.size w0 u) (fun u u' => Below u.heap.size u u')
        (rel [fun v _ => v = .func (.func 42) #[] #[],
          fun v _ => v = .slice (some ⟨g, 0, none⟩) 3 cap,
          fun v _ => v = .int .i64 1,
          fun v _ => v = .pointer (some ⟨g, 7, none⟩),
          fun v _ => v = .agg (longRow y).toArray,
          fun v _ => v = .slice (some ⟨g, 0, none⟩) 3 cap,
          fun v _ => v = .int .i64 1,
          fun v _ => v = .int .i64 0,
          fun v _ => v = .pointer (some ⟨g, 0, none⟩),
          fun v _ => v = .agg (longRow x).toArray,
          fun v _ => v = .bool false])
        (by kernel_rfl) (by kernel_rfl) (fun v => by simp only [putsV, Act.put, List.toList_toArray, List.setIfInBounds_toArray, List.set_cons_zero, List.set_cons_succ, Nat.reduceAdd, Nat.zero_add]; rfl) ?_ ⟨hk1, hbw.drew⟩ ?_ ?_
      · intro j x u u' hb h
        match j with
        | 0 => exact h
        | 1 => exact h
        | 2 => exact h
        | 3 => exact h
        | 4 => exact h
        | 5 => exact h
        | 6 => exact h
        | 7 => exact h
        | 8 => exact h
        | 9 => exact h
        | 10 => exact h
        | _ + 11 => trivial
      · refine ⟨?_, ?_, ?_, ?_, ?_, ?_, ?_, ?_, ?_, ?_, ?_, trivial⟩
        · intro v u hS hd K' hK
          simp only [waited, List.toList_toArray, Region.binds, rel, List.getD_cons_zero, List.getD_cons_succ, true_imp_iff, and_true] at hd
          simp only [rel, List.getD_cons_zero, List.getD_cons_succ, Act.put, List.setIfInBounds_toArray, List.set_cons_zero, List.set_cons_succ] at hK
          try simp only [hd] at hK
          obtain ⟨hS1, hS2⟩ := hS
          go_simp
          exact hK.out _ _ ⟨⟨hS1, hS2⟩, Below.refl _ _, rfl⟩
        · intro v u hS hd K' hK
          simp only [waited, List.toList_toArray, Region.binds, rel, List.getD_cons_zero, List.getD_cons_succ, true_imp_iff, and_true] at hd
          simp only [rel, List.getD_cons_zero, List.getD_cons_succ, Act.put, List.setIfInBounds_toArray, List.set_cons_zero, List.set_cons_succ] at hK
          try simp only [hd] at hK
          obtain ⟨hS1, hS2⟩ := hS
          go_simp
          exact hK.out _ _ ⟨⟨hS1, hS2⟩, Below.refl _ _, rfl⟩
        · intro v u hS hd K' hK
          simp only [waited, List.toList_toArray, Region.binds, rel, List.getD_cons_zero, List.getD_cons_succ, true_imp_iff, and_true] at hd
          simp only [rel, List.getD_cons_zero, List.getD_cons_succ, Act.put, List.setIfInBounds_toArray, List.set_cons_zero, List.set_cons_succ] at hK
          try simp only [hd] at hK
          obtain ⟨hS1, hS2⟩ := hS
          go_simp
          exact hK.out _ _ ⟨⟨hS1, hS2⟩, Below.refl _ _, rfl⟩
        · intro v u hS hd K' hK
          simp only [waited, List.toList_toArray, Region.binds, rel, List.getD_cons_zero, List.getD_cons_succ, true_imp_iff, and_true] at hd
          simp only [rel, List.getD_cons_zero, List.getD_cons_succ, Act.put, List.setIfInBounds_toArray, List.set_cons_zero, List.set_cons_succ] at hK
          try simp only [hd] at hK
          obtain ⟨hS1, hS2⟩ := hS
          go_simp
          exact hK.out _ _ ⟨⟨hS1, hS2⟩, Below.refl _ _, rfl⟩
        · intro v u hS hd K' hK
          simp only [waited, List.toList_toArray, Region.binds, rel, List.getD_cons_zero, List.getD_cons_succ, true_imp_iff, and_true] at hd
          simp only [rel, List.getD_cons_zero, List.getD_cons_succ, Act.put, List.setIfInBounds_toArray, List.set_cons_zero, List.set_cons_succ] at hK
          try simp only [hd] at hK
          obtain ⟨hS1, hS2⟩ := hS
          have x0 : u.cell? ⟨g, 7, none⟩ = some (.int .u8 1) := (hS1.cell _).trans (hvs 7 _ rfl)
          have x1 : u.cell? ⟨g, 8, none⟩ = some (.bool false) := (hS1.cell _).trans (hvs 8 _ rfl)
          have x2 : u.cell? ⟨g, 9, none⟩ = some (.int .i64 y) := (hS1.cell _).trans (hvs 9 _ rfl)
          have x3 : u.cell? ⟨g, 10, none⟩ = some (.string ⟨#[]⟩) := (hS1.cell _).trans (hvs 10 _ rfl)
          have x4 : u.cell? ⟨g, 11, none⟩ = some (.string ⟨#[]⟩) := (hS1.cell _).trans (hvs 11 _ rfl)
          have x5 : u.cell? ⟨g, 12, none⟩ = some (.slice none 0 0) := (hS1.cell _).trans (hvs 12 _ rfl)
          have x6 : u.cell? ⟨g, 13, none⟩ = some (.slice none 0 0) := (hS1.cell _).trans (hvs 13 _ rfl)
          go_simp
          exact hK.out _ _ ⟨⟨hS1, hS2⟩, Below.refl _ _, rfl⟩
        · intro v u hS hd K' hK
          simp only [waited, List.toList_toArray, Region.binds, rel, List.getD_cons_zero, List.getD_cons_succ, true_imp_iff, and_true] at hd
          simp only [rel, List.getD_cons_zero, List.getD_cons_succ, Act.put, List.setIfInBounds_toArray, List.set_cons_zero, List.set_cons_succ] at hK
          try simp only [hd] at hK
          obtain ⟨hS1, hS2⟩ := hS
          go_simp
          exact hK.out _ _ ⟨⟨hS1, hS2⟩, Below.refl _ _, rfl⟩
        · intro v u hS hd K' hK
          simp only [waited, List.toList_toArray, Region.binds, rel, List.getD_cons_zero, List.getD_cons_succ, true_imp_iff, and_true] at hd
          simp only [rel, List.getD_cons_zero, List.getD_cons_succ, Act.put, List.setIfInBounds_toArray, List.set_cons_zero, List.set_cons_succ] at hK
          try simp only [hd] at hK
          obtain ⟨hS1, hS2⟩ := hS
          go_simp
          exact hK.out _ _ ⟨⟨hS1, hS2⟩, Below.refl _ _, rfl⟩
        · intro v u hS hd K' hK
          simp only [waited, List.toList_toArray, Region.binds, rel, List.getD_cons_zero, List.getD_cons_succ, true_imp_iff, and_true] at hd
          simp only [rel, List.getD_cons_zero, List.getD_cons_succ, Act.put, List.setIfInBounds_toArray, List.set_cons_zero, List.set_cons_succ] at hK
          try simp only [hd] at hK
          obtain ⟨hS1, hS2⟩ := hS
          go_simp
          exact hK.out _ _ ⟨⟨hS1, hS2⟩, Below.refl _ _, rfl⟩
        · intro v u hS hd K' hK
          simp only [waited, List.toList_toArray, Region.binds, rel, List.getD_cons_zero, List.getD_cons_succ, true_imp_iff, and_true] at hd
          simp only [rel, List.getD_cons_zero, List.getD_cons_succ, Act.put, List.setIfInBounds_toArray, List.set_cons_zero, List.set_cons_succ] at hK
          try simp only [hd] at hK
          obtain ⟨hS1, hS2⟩ := hS
          go_simp
          exact hK.out _ _ ⟨⟨hS1, hS2⟩, Below.refl _ _, rfl⟩
        · intro v u hS hd K' hK
          simp only [waited, List.toList_toArray, Region.binds, rel, List.getD_cons_zero, List.getD_cons_succ, true_imp_iff, and_true] at hd
          simp only [rel, List.getD_cons_zero, List.getD_cons_succ, Act.put, List.setIfInBounds_toArray, List.set_cons_zero, List.set_cons_succ] at hK
          try simp only [hd] at hK
          obtain ⟨hS1, hS2⟩ := hS
          have x0 : u.cell? ⟨g, 0, none⟩ = some (.int .u8 1) := (hS1.cell _).trans (hvs 0 _ rfl)
          have x1 : u.cell? ⟨g, 1, none⟩ = some (.bool false) := (hS1.cell _).trans (hvs 1 _ rfl)
          have x2 : u.cell? ⟨g, 2, none⟩ = some (.int .i64 x) := (hS1.cell _).trans (hvs 2 _ rfl)
          have x3 : u.cell? ⟨g, 3, none⟩ = some (.string ⟨#[]⟩) := (hS1.cell _).trans (hvs 3 _ rfl)
          have x4 : u.cell? ⟨g, 4, none⟩ = some (.string ⟨#[]⟩) := (hS1.cell _).trans (hvs 4 _ rfl)
          have x5 : u.cell? ⟨g, 5, none⟩ = some (.slice none 0 0) := (hS1.cell _).trans (hvs 5 _ rfl)
          have x6 : u.cell? ⟨g, 6, none⟩ = some (.slice none 0 0) := (hS1.cell _).trans (hvs 6 _ rfl)
          go_simp
          exact hK.out _ _ ⟨⟨hS1, hS2⟩, Below.refl _ _, rfl⟩
        · intro v u hS hd K' hK
          simp only [waited, List.toList_toArray, Region.binds, rel, List.getD_cons_zero, List.getD_cons_succ, true_imp_iff, and_true] at hd
          simp only [rel, List.getD_cons_zero, List.getD_cons_succ, Act.put, List.setIfInBounds_toArray, List.set_cons_zero, List.set_cons_succ] at hK
          try simp only [hd] at hK
          obtain ⟨hS1, hS2⟩ := hS
          go_simp
          refine (heq1 _).mono ?_
          rintro e w2 ⟨rfl, hb2⟩
          exact hK.out _ _ ⟨⟨hS1.below hb2, bt hS2 hb2⟩, hb2, rfl⟩
      · rintro v u ⟨hS1, hS2⟩ hR
        simp only [holdAll, List.size_toArray, List.length_cons, List.length_nil, Nat.reduceAdd, rel, List.getD_cons_zero, List.getD_cons_succ] at hR
        obtain ⟨_, h28⟩ := hR
        simp only [h28]
        clear h28
        go_wp2_with (go_quiet (fail))
        go_roundw
        case rel => exact ⟨2, .inr rfl, rfl, hS1, hS2⟩
        case measure => simp [intOf]
    · go_upto_region 6 with (go_quiet (fail))
      refine region_flat _ (fun u => Blk u g vs 37 ∧ Below w0.heap.size w0 u) (fun u u' => Below u.heap.size u u')
        (rel [fun v _ => v = .func (.func 42) #[] #[],
          fun v _ => v = .slice (some ⟨g, 0, none⟩) 3 cap,
          fun v _ => v = .int .i64 2,
          fun v _ => v = .pointer (some ⟨g, 14, none⟩),
          fun v _ => v = .agg (longRow y).toArray,
          fun v _ => v = .slice (some ⟨g, 0, none⟩) 3 cap,
          fun v _ => v = .int .i64 2,
          fun v _ => v = .int .i64 1,
          fun v _ => v = .pointer (some ⟨g, 7, none⟩),
          fun v _ => v = .agg (longRow y).toArray,
          fun v _ => v = .bool true])
        (by kernel_rfl) (by kernel_rfl) (fun v => by simp only [putsV, Act.put, List.toList_toArray, List.setIfInBounds_toArray, List.set_cons_zero, List.set_cons_succ, Nat.reduceAdd, Nat.zero_add]; rfl) ?_ ⟨hk1, hbw.drew⟩ ?_ ?_
      · intro j x u u' hb h
        match j with
        | 0 => exact h
        | 1 => exact h
        | 2 => exact h
        | 3 => exact h
        | 4 => exact h
        | 5 => exact h
        | 6 => exact h
        | 7 => exact h
        | 8 => exact h
        | 9 => exact h
        | 10 => exact h
        | _ + 11 => trivial
      · refine ⟨?_, ?_, ?_, ?_, ?_, ?_, ?_, ?_, ?_, ?_, ?_, trivial⟩
        · intro v u hS hd K' hK
          simp only [waited, List.toList_toArray, Region.binds, rel, List.getD_cons_zero, List.getD_cons_succ, true_imp_iff, and_true] at hd
          simp only [rel, List.getD_cons_zero, List.getD_cons_succ, Act.put, List.setIfInBounds_toArray, List.set_cons_zero, List.set_cons_succ] at hK
          try simp only [hd] at hK
          obtain ⟨hS1, hS2⟩ := hS
          go_simp
          exact hK.out _ _ ⟨⟨hS1, hS2⟩, Below.refl _ _, rfl⟩
        · intro v u hS hd K' hK
          simp only [waited, List.toList_toArray, Region.binds, rel, List.getD_cons_zero, List.getD_cons_succ, true_imp_iff, and_true] at hd
          simp only [rel, List.getD_cons_zero, List.getD_cons_succ, Act.put, List.setIfInBounds_toArray, List.set_cons_zero, List.set_cons_succ] at hK
          try simp only [hd] at hK
          obtain ⟨hS1, hS2⟩ := hS
          go_simp
          exact hK.out _ _ ⟨⟨hS1, hS2⟩, Below.refl _ _, rfl⟩
        · intro v u hS hd K' hK
          simp only [waited, List.toList_toArray, Region.binds, rel, List.getD_cons_zero, List.getD_cons_succ, true_imp_iff, and_true] at hd
          simp only [rel, List.getD_cons_zero, List.getD_cons_succ, Act.put, List.setIfInBounds_toArray, List.set_cons_zero, List.set_cons_succ] at hK
          try simp only [hd] at hK
          obtain ⟨hS1, hS2⟩ := hS
          go_simp
          exact hK.out _ _ ⟨⟨hS1, hS2⟩, Below.refl _ _, rfl⟩
        · intro v u hS hd K' hK
          simp only [waited, List.toList_toArray, Region.binds, rel, List.getD_cons_zero, List.getD_cons_succ, true_imp_iff, and_true] at hd
          simp only [rel, List.getD_cons_zero, List.getD_cons_succ, Act.put, List.setIfInBounds_toArray, List.set_cons_zero, List.set_cons_succ] at hK
          try simp only [hd] at hK
          obtain ⟨hS1, hS2⟩ := hS
          go_simp
          exact hK.out _ _ ⟨⟨hS1, hS2⟩, Below.refl _ _, rfl⟩
        · intro v u hS hd K' hK
          simp only [waited, List.toList_toArray, Region.binds, rel, List.getD_cons_zero, List.getD_cons_succ, true_imp_iff, and_true] at hd
          simp only [rel, List.getD_cons_zero, List.getD_cons_succ, Act.put, List.setIfInBounds_toArray, List.set_cons_zero, List.set_cons_succ] at hK
          try simp only [hd] at hK
          obtain ⟨hS1, hS2⟩ := hS
          have x0 : u.cell? ⟨g, 14, none⟩ = some (.int .u8 1) := (hS1.cell _).trans (hvs 14 _ rfl)
          have x1 : u.cell? ⟨g, 15, none⟩ = some (.bool false) := (hS1.cell _).trans (hvs 15 _ rfl)
          have x2 : u.cell? ⟨g, 16, none⟩ = some (.int .i64 y) := (hS1.cell _).trans (hvs 16 _ rfl)
          have x3 : u.cell? ⟨g, 17, none⟩ = some (.string ⟨#[]⟩) := (hS1.cell _).trans (hvs 17 _ rfl)
          have x4 : u.cell? ⟨g, 18, none⟩ = some (.string ⟨#[]⟩) := (hS1.cell _).trans (hvs 18 _ rfl)
          have x5 : u.cell? ⟨g, 19, none⟩ = some (.slice none 0 0) := (hS1.cell _).trans (hvs 19 _ rfl)
          have x6 : u.cell? ⟨g, 20, none⟩ = some (.slice none 0 0) := (hS1.cell _).trans (hvs 20 _ rfl)
          go_simp
          exact hK.out _ _ ⟨⟨hS1, hS2⟩, Below.refl _ _, rfl⟩
        · intro v u hS hd K' hK
          simp only [waited, List.toList_toArray, Region.binds, rel, List.getD_cons_zero, List.getD_cons_succ, true_imp_iff, and_true] at hd
          simp only [rel, List.getD_cons_zero, List.getD_cons_succ, Act.put, List.setIfInBounds_toArray, List.set_cons_zero, List.set_cons_succ] at hK
          try simp only [hd] at hK
          obtain ⟨hS1, hS2⟩ := hS
          go_simp
          exact hK.out _ _ ⟨⟨hS1, hS2⟩, Below.refl _ _, rfl⟩
        · intro v u hS hd K' hK
          simp only [waited, List.toList_toArray, Region.binds, rel, List.getD_cons_zero, List.getD_cons_succ, true_imp_iff, and_true] at hd
          simp only [rel, List.getD_cons_zero, List.getD_cons_succ, Act.put, List.setIfInBounds_toArray, List.set_cons_zero, List.set_cons_succ] at hK
          try simp only [hd] at hK
          obtain ⟨hS1, hS2⟩ := hS
          go_simp
          exact hK.out _ _ ⟨⟨hS1, hS2⟩, Below.refl _ _, rfl⟩
        · intro v u hS hd K' hK
          simp only [waited, List.toList_toArray, Region.binds, rel, List.getD_cons_zero, List.getD_cons_succ, true_imp_iff, and_true] at hd
          simp only [rel, List.getD_cons_zero, List.getD_cons_succ, Act.put, List.setIfInBounds_toArray, List.set_cons_zero, List.set_cons_succ] at hK
          try simp only [hd] at hK
          obtain ⟨hS1, hS2⟩ := hS
          go_simp
          exact hK.out _ _ ⟨⟨hS1, hS2⟩, Below.refl _ _, rfl⟩
        · intro v u hS hd K' hK
          simp only [waited, List.toList_toArray, Region.binds, rel, List.getD_cons_zero, List.getD_cons_succ, true_imp_iff, and_true] at hd
          simp only [rel, List.getD_cons_zero, List.getD_cons_succ, Act.put, List.setIfInBounds_toArray, List.set_cons_zero, List.set_cons_succ] at hK
          try simp only [hd] at hK
          obtain ⟨hS1, hS2⟩ := hS
          go_simp
          exact hK.out _ _ ⟨⟨hS1, hS2⟩, Below.refl _ _, rfl⟩
        · intro v u hS hd K' hK
          simp only [waited, List.toList_toArray, Region.binds, rel, List.getD_cons_zero, List.getD_cons_succ, true_imp_iff, and_true] at hd
          simp only [rel, List.getD_cons_zero, List.getD_cons_succ, Act.put, List.setIfInBounds_toArray, List.set_cons_zero, List.set_cons_succ] at hK
          try simp only [hd] at hK
          obtain ⟨hS1, hS2⟩ := hS
          have x0 : u.cell? ⟨g, 7, none⟩ = some (.int .u8 1) := (hS1.cell _).trans (hvs 7 _ rfl)
          have x1 : u.cell? ⟨g, 8, none⟩ = some (.bool false) := (hS1.cell _).trans (hvs 8 _ rfl)
          have x2 : u.cell? ⟨g, 9, none⟩ = some (.int .i64 y) := (hS1.cell _).trans (hvs 9 _ rfl)
          have x3 : u.cell? ⟨g, 10, none⟩ = some (.string ⟨#[]⟩) := (hS1.cell _).trans (hvs 10 _ rfl)
          have x4 : u.cell? ⟨g, 11, none⟩ = some (.string ⟨#[]⟩) := (hS1.cell _).trans (hvs 11 _ rfl)
          have x5 : u.cell? ⟨g, 12, none⟩ = some (.slice none 0 0) := (hS1.cell _).trans (hvs 12 _ rfl)
          have x6 : u.cell? ⟨g, 13, none⟩ = some (.slice none 0 0) := (hS1.cell _).trans (hvs 13 _ rfl)
          go_simp
          exact hK.out _ _ ⟨⟨hS1, hS2⟩, Below.refl _ _, rfl⟩
        · intro v u hS hd K' hK
          simp only [waited, List.toList_toArray, Region.binds, rel, List.getD_cons_zero, List.getD_cons_succ, true_imp_iff, and_true] at hd
          simp only [rel, List.getD_cons_zero, List.getD_cons_succ, Act.put, List.setIfInBounds_toArray, List.set_cons_zero, List.set_cons_succ] at hK
          try simp only [hd] at hK
          obtain ⟨hS1, hS2⟩ := hS
          go_simp
          refine (heq2 _).mono ?_
          rintro e w2 ⟨rfl, hb2⟩
          exact hK.out _ _ ⟨⟨hS1.below hb2, bt hS2 hb2⟩, hb2, rfl⟩
      · rintro v u ⟨hS1, hS2⟩ hR
        simp only [holdAll, List.size_toArray, List.length_cons, List.length_nil, Nat.reduceAdd, rel, List.getD_cons_zero, List.getD_cons_succ] at hR
        obtain ⟨_, h28⟩ := hR
        simp only [h28]
        clear h28
        have hc1 : (3 : Int) ≤ (cap : Int) := by omega
        go_wp2_with (first | (at_builtin; fail))
        go_loopw [5, 7] (fun k j wr => k = .int .i64 2 ∧ j = .int .i64 1 ∧ wr = u) (fun _ _ _ => 0)
        case atStart => exact ⟨rfl, rfl, rfl⟩
        case round =>
          obtain ⟨rfl, rfl, rfl⟩ := hrel
          have hcl : ∀ ty, (Builtin.clear_ #[33] ty #[.slice (some ⟨g, 14, none⟩) 1 (cap - 2)]).run Tryd.prog wr = .ok (.tuple #[]) (wr.setCells g 14 zeroRow) := fun ty => run_clear_row wr ty g 14 (cap - 2) (fun j hj => by rw [hS1.cell]; exact isSome_lt (by omega)) (fun j _ => hS1.free _)
          obtain ⟨vs', k', hv', hl'⟩ := hS1.setCells 14 zeroRow
          have hb' := below_setCells hS2 hg 14 zeroRow
          go_wp2_with (go_quiet (fail))
          go_ret
          exact ⟨rfl, vs', k', fun i v hi => (hv' i (by have := (List.getElem?_eq_some_iff.1 hi).1; rw [longCells_len] at this; simpa using this)).trans (hvs i v (longCells_pre hi)), hb'⟩
end Go.Proofs.YtmnfmgoolimlmaaDoor
