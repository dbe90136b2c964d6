/- The walk of saved: a disk with two slots, into which images were saved one by one. -/
import Derived.Test.YtpfbmmeipojodaaSlBox
import Derived.Test.YtpfbmmeipojodaaGM
import Derived.Test.YtpfbmmeipojodaaGI
import Derived.Deep.DeepCutAuto
import Derived.Deep.CutBlock
namespace Go.Proofs.Ytpfbmmeipojodaa
set_option linter.unusedSimpArgs false
set_option linter.unusedVariables false
open Go.RowKit Go.Shelf
open Crc
theorem saved_in (w : World) (size : Int) : ∃ V, Hid (V = ((((((w.alloc (.cells #[.int .i64 0, .int .i64 0] 33)).alloc (.cells #[.int .i64 0, .int .i64 0] 33)).alloc (.cells #[.slice none 0 0, .slice none 0 0, .bool false, .int .i64 0] 28)).alloc (.cells #[.int .u64 0, .string ⟨#[]⟩] 36)).alloc (.cells #[.int .i64 0, .int .i64 size] 33)).alloc (.cells #[.int .i64 size, .int .i64 size] 33))) ∧ Blk V w.heap.size [.int .i64 0, .int .i64 0] 33 ∧ Blk V (w.heap.size + 1) [.int .i64 0, .int .i64 0] 33 ∧ Blk V (w.heap.size + 1 + 1) [.slice none 0 0, .slice none 0 0, .bool false, .int .i64 0] 28 ∧ Blk V (w.heap.size + 1 + 1 + 1) [.int .u64 0, .string ⟨#[]⟩] 36 ∧ Blk V (w.heap.size + 1 + 1 + 1 + 1) [.int .i64 0, .int .i64 size] 33 ∧ Blk V (w.heap.size + 1 + 1 + 1 + 1 + 1) [.int .i64 size, .int .i64 size] 33 ∧ Below w.heap.size w V ∧ V.heap.size = w.heap.size + 1 + 1 + 1 + 1 + 1 + 1 := by
  have k0 := Blk.new w [.int .i64 0, .int .i64 0] 33
  have k1 := Blk.new (w.alloc (.cells #[.int .i64 0, .int .i64 0] 33)) [.int .i64 0, .int .i64 0] 33
  rw [show (w.alloc (.cells #[.int .i64 0, .int .i64 0] 33)).heap.size = w.heap.size + 1 by simp] at k1
  have k2 := Blk.new ((w.alloc (.cells #[.int .i64 0, .int .i64 0] 33)).alloc (.cells #[.int .i64 0, .int .i64 0] 33)) [.slice none 0 0, .slice none 0 0, .bool false, .int .i64 0] 28
  rw [show ((w.alloc (.cells #[.int .i64 0, .int .i64 0] 33)).alloc (.cells #[.int .i64 0, .int .i64 0] 33)).heap.size = w.heap.size + 1 + 1 by simp] at k2
  have k3 := Blk.new (((w.alloc (.cells #[.int .i64 0, .int .i64 0] 33)).alloc (.cells #[.int .i64 0, .int .i64 0] 33)).alloc (.cells #[.slice none 0 0, .slice none 0 0, .bool false, .int .i64 0] 28)) [.int .u64 0, .string ⟨#[]⟩] 36
  rw [show (((w.alloc (.cells #[.int .i64 0, .int .i64 0] 33)).alloc (.cells #[.int .i64 0, .int .i64 0] 33)).alloc (.cells #[.slice none 0 0, .slice none 0 0, .bool false, .int .i64 0] 28)).heap.size = w.heap.size + 1 + 1 + 1 by simp] at k3
  have k4 := Blk.new ((((w.alloc (.cells #[.int .i64 0, .int .i64 0] 33)).alloc (.cells #[.int .i64 0, .int .i64 0] 33)).alloc (.cells #[.slice none 0 0, .slice none 0 0, .bool false, .int .i64 0] 28)).alloc (.cells #[.int .u64 0, .string ⟨#[]⟩] 36)) [.int .i64 0, .int .i64 size] 33
  rw [show ((((w.alloc (.cells #[.int .i64 0, .int .i64 0] 33)).alloc (.cells #[.int .i64 0, .int .i64 0] 33)).alloc (.cells #[.slice none 0 0, .slice none 0 0, .bool false, .int .i64 0] 28)).alloc (.cells #[.int .u64 0, .string ⟨#[]⟩] 36)).heap.size = w.heap.size + 1 + 1 + 1 + 1 by simp] at k4
  have k5 := Blk.new (((((w.alloc (.cells #[.int .i64 0, .int .i64 0] 33)).alloc (.cells #[.int .i64 0, .int .i64 0] 33)).alloc (.cells #[.slice none 0 0, .slice none 0 0, .bool false, .int .i64 0] 28)).alloc (.cells #[.int .u64 0, .string ⟨#[]⟩] 36)).alloc (.cells #[.int .i64 0, .int .i64 size] 33)) [.int .i64 size, .int .i64 size] 33
  rw [show (((((w.alloc (.cells #[.int .i64 0, .int .i64 0] 33)).alloc (.cells #[.int .i64 0, .int .i64 0] 33)).alloc (.cells #[.slice none 0 0, .slice none 0 0, .bool false, .int .i64 0] 28)).alloc (.cells #[.int .u64 0, .string ⟨#[]⟩] 36)).alloc (.cells #[.int .i64 0, .int .i64 size] 33)).heap.size = w.heap.size + 1 + 1 + 1 + 1 + 1 by simp] at k5
  exact ⟨_, hide rfl, (((((k0.alloc _).alloc _).alloc _).alloc _).alloc _), ((((k1.alloc _).alloc _).alloc _).alloc _), (((k2.alloc _).alloc _).alloc _), ((k3.alloc _).alloc _), (k4.alloc _), k5, bt (bt (bt (bt (bt (below_alloc _ _) (below_alloc _ _)) (below_alloc _ _)) (below_alloc _ _)) (below_alloc _ _)) (below_alloc _ _), by simp⟩
set_option maxRecDepth 100000 in
set_option maxHeartbeats 1000000 in
theorem saved_w (size : Int) (A : Option Addr) (ca : Nat) (l : List ByteArray) (w : World) (hsz : -9223372036854775808 ≤ size ∧ size ≤ 9223372036854775807) (hl : Texts w A l) (hll : l.length ≤ 140737488351232) :
    Calls Try.prog 21 #[.int .i64 size, .slice A l.length ca] w fun e w' => (∃ (D : Dk) (x j : Nat) (S : ByteArray) (ok : Bool) (A1 : Option Addr) (c1 : Nat) (B1 : Option Addr) (e1 : Nat), e = .returned (.tuple #[.agg #[.int .i64 0, .int .i64 size], .agg #[.int .i64 size, .int .i64 size], .agg #[.slice A1 D.secs.length c1, .slice B1 D.pend.length e1, .bool D.off, .int .i64 D.fuse], .agg #[.int .u64 (x : Int), .string S], .bool ok]) ∧ Texts w' A1 D.secs ∧ Writes w' B1 D.pend ∧ D.secs.length ≤ 140737488351232 ∧ D.pend.length ≤ 140737488351232 ∧ -9223372036854775808 ≤ D.fuse ∧ D.fuse ≤ 9223372036854775807 ∧
      (ok = true → ∃ n : Nat, size = n ∧ SlOn D n ⟨x, S.data.toList⟩ j ∧ x ≤ l.length ∧ l.length ≤ 100 ∧ D.fuse = -1)) ∧ Below w.heap.size w w' := by
  by_cases hn1 : size < 1
  · clear hl
    obtain ⟨V, HV, k0, k1, k2, k3, kA, kB, hb, hz⟩ := saved_in w size
    go_enter Try.func21, Try.ntmps21
    go_upto_region 2 with fail
    rw [← HV.out]
    clear HV
    go_wp2_with fail
    refine region_flatS _ (fun L u => Blk u (w.heap.size + 1 + 1 + 1 + 1) [.int .i64 0, .int .i64 size] 33 ∧ Blk u (w.heap.size + 1 + 1 + 1 + 1 + 1) [.int .i64 size, .int .i64 size] 33 ∧ Blk u w.heap.size (cond (L 4) [.int .i64 0, .int .i64 size] [.int .i64 0, .int .i64 0]) 33 ∧ Blk u (w.heap.size + 1) (cond (L 5) [.int .i64 size, .int .i64 size] [.int .i64 0, .int .i64 0]) 33 ∧ Blk u (w.heap.size + 1 + 1) (cond (L 6) [.slice none 0 0, .slice none 0 0, .bool false, .int .i64 0] [.slice none 0 0, .slice none 0 0, .bool false, .int .i64 0]) 28 ∧ Blk u (w.heap.size + 1 + 1 + 1) (cond (L 7) [.int .u64 0, .string ⟨#[]⟩] [.int .u64 0, .string ⟨#[]⟩]) 36 ∧ Below w.heap.size w u) (fun _ _ _ => True)
      (fun _ => rel [fun v _ => v = .agg #[.int .i64 0, .int .i64 size],
        fun v _ => v = .agg #[.int .i64 size, .int .i64 size],
        fun v _ => v = .agg #[.slice none 0 0, .slice none 0 0, .bool false, .int .i64 0],
        fun v _ => v = .agg #[.int .u64 0, .string ⟨#[]⟩],
        fun _ _ => True,
        fun _ _ => True,
        fun _ _ => True,
        fun _ _ => True,
        fun v _ => v = .bool false])
      (by kernel_rfl) (by kernel_rfl) (fun v => by simp only [putsV, Act.put, List.toList_toArray, List.setIfInBounds_toArray, List.set_cons_zero, List.set_cons_succ, Nat.reduceAdd, Nat.zero_add]; rfl) ?_ (fun _ _ _ _ _ h => h) ⟨kA.drew, kB.drew, k0.drew, k1.drew, k2.drew, k3.drew, hb.drew⟩ ?_ (fun _ _ _ _ _ _ h => h) (fun L L' u hL h => by rw [← hL 4 (by decide)]; rw [← hL 5 (by decide)]; rw [← hL 6 (by decide)]; rw [← hL 7 (by decide)]; exact h) ?_
    · intro i L j x u u' _ _ _ h
      match j with
      | 0 => exact h
      | 1 => exact h
      | 2 => exact h
      | 3 => exact h
      | 4 => exact h
      | 5 => exact h
      | 6 => exact h
      | 7 => exact h
      | 8 => exact h
      | _ + 9 => trivial
    · refine ⟨?_, ?_, ?_, ?_, ?_, ?_, ?_, ?_, ?_, trivial⟩
      · intro L hL hcl v u hS hd K' hK
        simp only [waited, List.toList_toArray, Region.binds, rel, List.getD_cons_zero, List.getD_cons_succ, true_imp_iff, and_true] at hd
        simp only [rel, List.getD_cons_zero, List.getD_cons_succ, Act.put, List.setIfInBounds_toArray, List.set_cons_zero, List.set_cons_succ] at hK
        try simp only [hd] at hK
        obtain ⟨hA, hB, h0, h1, h2, h3, hb⟩ := hS
        have x0 := hA.cell
        go_simp
        exact hK.out _ _ ⟨⟨hA, hB, h0, h1, h2, h3, hb⟩, trivial, rfl⟩
      · intro L hL hcl v u hS hd K' hK
        simp only [waited, List.toList_toArray, Region.binds, rel, List.getD_cons_zero, List.getD_cons_succ, true_imp_iff, and_true] at hd
        simp only [rel, List.getD_cons_zero, List.getD_cons_succ, Act.put, List.setIfInBounds_toArray, List.set_cons_zero, List.set_cons_succ] at hK
        try simp only [hd] at hK
        obtain ⟨hA, hB, h0, h1, h2, h3, hb⟩ := hS
        have x0 := hB.cell
        go_simp
        exact hK.out _ _ ⟨⟨hA, hB, h0, h1, h2, h3, hb⟩, trivial, rfl⟩
      · intro L hL hcl v u hS hd K' hK
        simp only [waited, List.toList_toArray, Region.binds, rel, List.getD_cons_zero, List.getD_cons_succ, true_imp_iff, and_true] at hd
        simp only [rel, List.getD_cons_zero, List.getD_cons_succ, Act.put, List.setIfInBounds_toArray, List.set_cons_zero, List.set_cons_succ] at hK
        try simp only [hd] at hK
        obtain ⟨hA, hB, h0, h1, h2, h3, hb⟩ := hS
        go_simp
        exact hK.out _ _ ⟨⟨hA, hB, h0, h1, h2, h3, hb⟩, trivial, rfl⟩
      · intro L hL hcl v u hS hd K' hK
        simp only [waited, List.toList_toArray, Region.binds, rel, List.getD_cons_zero, List.getD_cons_succ, true_imp_iff, and_true] at hd
        simp only [rel, List.getD_cons_zero, List.getD_cons_succ, Act.put, List.setIfInBounds_toArray, List.set_cons_zero, List.set_cons_succ] at hK
        try simp only [hd] at hK
        obtain ⟨hA, hB, h0, h1, h2, h3, hb⟩ := hS
        go_simp
        exact hK.out _ _ ⟨⟨hA, hB, h0, h1, h2, h3, hb⟩, trivial, rfl⟩
      · intro L hL hcl v u hS hd K' hK
        simp only [waited, List.toList_toArray, Region.binds, rel, List.getD_cons_zero, List.getD_cons_succ, true_imp_iff, and_true] at hd
        simp only [rel, List.getD_cons_zero, List.getD_cons_succ, Act.put, List.setIfInBounds_toArray, List.set_cons_zero, List.set_cons_succ] at hK
        try simp only [hd] at hK
        obtain ⟨hA, hB, h0, h1, h2, h3, hb⟩ := hS
        have hX : Blk u w.heap.size [.int .i64 0, .int .i64 0] 33 := by have h := h0; rw [hL] at h; exact h
        have x0 := hX.cell 0
        have x1 := hX.cell 1
        have z0 := hX.free 0
        have z1 := hX.free 1
        first | (obtain ⟨e0, _⟩ := hd) | (have e0 := hd)
        try simp only [e0] at hK ⊢
        go_simp
        exact hK.out undef _ ⟨⟨hA.far2 (by omega) (.int .i64 0) (.int .i64 size), hB.far2 (by omega) (.int .i64 0) (.int .i64 size), hX.set2 (.int .i64 0) (.int .i64 size), h1.far2 (by omega) (.int .i64 0) (.int .i64 size), h2.far2 (by omega) (.int .i64 0) (.int .i64 size), h3.far2 (by omega) (.int .i64 0) (.int .i64 size), below2 hb (by omega) (.int .i64 0) (.int .i64 size)⟩, trivial, trivial⟩
      · intro L hL hcl v u hS hd K' hK
        simp only [waited, List.toList_toArray, Region.binds, rel, List.getD_cons_zero, List.getD_cons_succ, true_imp_iff, and_true] at hd
        simp only [rel, List.getD_cons_zero, List.getD_cons_succ, Act.put, List.setIfInBounds_toArray, List.set_cons_zero, List.set_cons_succ] at hK
        try simp only [hd] at hK
        obtain ⟨hA, hB, h0, h1, h2, h3, hb⟩ := hS
        have hX : Blk u (w.heap.size + 1) [.int .i64 0, .int .i64 0] 33 := by have h := h1; rw [hL] at h; exact h
        have x0 := hX.cell 0
        have x1 := hX.cell 1
        have z0 := hX.free 0
        have z1 := hX.free 1
        first | (obtain ⟨e0, _⟩ := hd) | (have e0 := hd)
        try simp only [e0] at hK ⊢
        go_simp
        exact hK.out undef _ ⟨⟨hA.far2 (by omega) (.int .i64 size) (.int .i64 size), hB.far2 (by omega) (.int .i64 size) (.int .i64 size), h0.far2 (by omega) (.int .i64 size) (.int .i64 size), hX.set2 (.int .i64 size) (.int .i64 size), h2.far2 (by omega) (.int .i64 size) (.int .i64 size), h3.far2 (by omega) (.int .i64 size) (.int .i64 size), below2 hb (by omega) (.int .i64 size) (.int .i64 size)⟩, trivial, trivial⟩
      · intro L hL hcl v u hS hd K' hK
        simp only [waited, List.toList_toArray, Region.binds, rel, List.getD_cons_zero, List.getD_cons_succ, true_imp_iff, and_true] at hd
        simp only [rel, List.getD_cons_zero, List.getD_cons_succ, Act.put, List.setIfInBounds_toArray, List.set_cons_zero, List.set_cons_succ] at hK
        try simp only [hd] at hK
        obtain ⟨hA, hB, h0, h1, h2, h3, hb⟩ := hS
        have hX : Blk u (w.heap.size + 1 + 1) [.slice none 0 0, .slice none 0 0, .bool false, .int .i64 0] 28 := by have h := h2; rw [hL] at h; exact h
        have x0 := hX.cell 0
        have x1 := hX.cell 1
        have x2 := hX.cell 2
        have x3 := hX.cell 3
        have z0 := hX.free 0
        have z1 := hX.free 1
        have z2 := hX.free 2
        have z3 := hX.free 3
        first | (obtain ⟨e0, _⟩ := hd) | (have e0 := hd)
        try simp only [e0] at hK ⊢
        go_simp
        exact hK.out undef _ ⟨⟨hA.far4 (by omega) (.slice none 0 0) (.slice none 0 0) (.bool false) (.int .i64 0), hB.far4 (by omega) (.slice none 0 0) (.slice none 0 0) (.bool false) (.int .i64 0), h0.far4 (by omega) (.slice none 0 0) (.slice none 0 0) (.bool false) (.int .i64 0), h1.far4 (by omega) (.slice none 0 0) (.slice none 0 0) (.bool false) (.int .i64 0), hX.set4 (.slice none 0 0) (.slice none 0 0) (.bool false) (.int .i64 0), h3.far4 (by omega) (.slice none 0 0) (.slice none 0 0) (.bool false) (.int .i64 0), below4 hb (by omega) (.slice none 0 0) (.slice none 0 0) (.bool false) (.int .i64 0)⟩, trivial, trivial⟩
      · intro L hL hcl v u hS hd K' hK
        simp only [waited, List.toList_toArray, Region.binds, rel, List.getD_cons_zero, List.getD_cons_succ, true_imp_iff, and_true] at hd
        simp only [rel, List.getD_cons_zero, List.getD_cons_succ, Act.put, List.setIfInBounds_toArray, List.set_cons_zero, List.set_cons_succ] at hK
        try simp only [hd] at hK
        obtain ⟨hA, hB, h0, h1, h2, h3, hb⟩ := hS
        have hX : Blk u (w.heap.size + 1 + 1 + 1) [.int .u64 0, .string ⟨#[]⟩] 36 := by have h := h3; rw [hL] at h; exact h
        have x0 := hX.cell 0
        have x1 := hX.cell 1
        have z0 := hX.free 0
        have z1 := hX.free 1
        first | (obtain ⟨e0, _⟩ := hd) | (have e0 := hd)
        try simp only [e0] at hK ⊢
        go_simp
        exact hK.out undef _ ⟨⟨hA.far2 (by omega) (.int .u64 0) (.string ⟨#[]⟩), hB.far2 (by omega) (.int .u64 0) (.string ⟨#[]⟩), h0.far2 (by omega) (.int .u64 0) (.string ⟨#[]⟩), h1.far2 (by omega) (.int .u64 0) (.string ⟨#[]⟩), h2.far2 (by omega) (.int .u64 0) (.string ⟨#[]⟩), hX.set2 (.int .u64 0) (.string ⟨#[]⟩), below2 hb (by omega) (.int .u64 0) (.string ⟨#[]⟩)⟩, trivial, trivial⟩
      · intro L hL hcl v u hS hd K' hK
        simp only [waited, List.toList_toArray, Region.binds, rel, List.getD_cons_zero, List.getD_cons_succ, true_imp_iff, and_true] at hd
        simp only [rel, List.getD_cons_zero, List.getD_cons_succ, Act.put, List.setIfInBounds_toArray, List.set_cons_zero, List.set_cons_succ] at hK
        try simp only [hd] at hK
        obtain ⟨hA, hB, h0, h1, h2, h3, hb⟩ := hS
        go_simp
        exact hK.out _ _ ⟨⟨hA, hB, h0, h1, h2, h3, hb⟩, trivial, rfl⟩
    · rintro v u ⟨hA, hB, h0, h1, h2, h3, hb⟩ hR
      replace h0 : Blk u w.heap.size [.int .i64 0, .int .i64 size] 33 := h0
      replace h1 : Blk u (w.heap.size + 1) [.int .i64 size, .int .i64 size] 33 := h1
      replace h2 : Blk u (w.heap.size + 1 + 1) [.slice none 0 0, .slice none 0 0, .bool false, .int .i64 0] 28 := h2
      replace h3 : Blk u (w.heap.size + 1 + 1 + 1) [.int .u64 0, .string ⟨#[]⟩] 36 := h3
      simp only [holdAll, List.size_toArray, List.length_cons, List.length_nil, Nat.reduceAdd, rel, List.getD_cons_zero, List.getD_cons_succ] at hR
      obtain ⟨_, h8⟩ := hR
      simp only [h8]
      clear h8
      go_wp2
      have r00 := h0.cell 0
      have r01 := h0.cell 1
      have r10 := h1.cell 0
      have r11 := h1.cell 1
      have r20 := h2.cell 0
      have r21 := h2.cell 1
      have r22 := h2.cell 2
      have r23 := h2.cell 3
      have r30 := h3.cell 0
      have r31 := h3.cell 1
      refine bodyPost_ret (v := .tuple #[.agg #[.int .i64 0, .int .i64 size], .agg #[.int .i64 size, .int .i64 size], .agg #[.slice none 0 0, .slice none 0 0, .bool false, .int .i64 0], .agg #[.int .u64 0, .string ⟨#[]⟩], .bool false]) (by simp [results, Try.results21, go_sem, r00, r01, r10, r11, r20, r21, r22, r23, r30, r31]) rfl ?_
      exact ⟨⟨dk0, 0, 0, ⟨#[]⟩, false, none, 0, none, 0, rfl, Lies.nil _ _ _, Lies.nil _ _ _, by decide, by decide, by decide, by decide, fun h => by cases h⟩, hb⟩
  by_cases hn2 : 512 < size
  · clear hl
    obtain ⟨V, HV, k0, k1, k2, k3, kA, kB, hb, hz⟩ := saved_in w size
    go_enter Try.func21, Try.ntmps21
    go_upto_region 2 with fail
    rw [← HV.out]
    clear HV
    go_wp2_with fail
    refine region_flatS _ (fun L u => Blk u (w.heap.size + 1 + 1 + 1 + 1) [.int .i64 0, .int .i64 size] 33 ∧ Blk u (w.heap.size + 1 + 1 + 1 + 1 + 1) [.int .i64 size, .int .i64 size] 33 ∧ Blk u w.heap.size (cond (L 4) [.int .i64 0, .int .i64 size] [.int .i64 0, .int .i64 0]) 33 ∧ Blk u (w.heap.size + 1) (cond (L 5) [.int .i64 size, .int .i64 size] [.int .i64 0, .int .i64 0]) 33 ∧ Blk u (w.heap.size + 1 + 1) (cond (L 6) [.slice none 0 0, .slice none 0 0, .bool false, .int .i64 0] [.slice none 0 0, .slice none 0 0, .bool false, .int .i64 0]) 28 ∧ Blk u (w.heap.size + 1 + 1 + 1) (cond (L 7) [.int .u64 0, .string ⟨#[]⟩] [.int .u64 0, .string ⟨#[]⟩]) 36 ∧ Below w.heap.size w u) (fun _ _ _ => True)
      (fun _ => rel [fun v _ => v = .agg #[.int .i64 0, .int .i64 size],
        fun v _ => v = .agg #[.int .i64 size, .int .i64 size],
        fun v _ => v = .agg #[.slice none 0 0, .slice none 0 0, .bool false, .int .i64 0],
        fun v _ => v = .agg #[.int .u64 0, .string ⟨#[]⟩],
        fun _ _ => True,
        fun _ _ => True,
        fun _ _ => True,
        fun _ _ => True,
        fun v _ => v = .bool false])
      (by kernel_rfl) (by kernel_rfl) (fun v => by simp only [putsV, Act.put, List.toList_toArray, List.setIfInBounds_toArray, List.set_cons_zero, List.set_cons_succ, Nat.reduceAdd, Nat.zero_add]; rfl) ?_ (fun _ _ _ _ _ h => h) ⟨kA.drew, kB.drew, k0.drew, k1.drew, k2.drew, k3.drew, hb.drew⟩ ?_ (fun _ _ _ _ _ _ h => h) (fun L L' u hL h => by rw [← hL 4 (by decide)]; rw [← hL 5 (by decide)]; rw [← hL 6 (by decide)]; rw [← hL 7 (by decide)]; exact h) ?_
    · intro i L j x u u' _ _ _ h
      match j with
      | 0 => exact h
      | 1 => exact h
      | 2 => exact h
      | 3 => exact h
      | 4 => exact h
      | 5 => exact h
      | 6 => exact h
      | 7 => exact h
      | 8 => exact h
      | _ + 9 => trivial
    · refine ⟨?_, ?_, ?_, ?_, ?_, ?_, ?_, ?_, ?_, trivial⟩
      · intro L hL hcl v u hS hd K' hK
        simp only [waited, List.toList_toArray, Region.binds, rel, List.getD_cons_zero, List.getD_cons_succ, true_imp_iff, and_true] at hd
        simp only [rel, List.getD_cons_zero, List.getD_cons_succ, Act.put, List.setIfInBounds_toArray, List.set_cons_zero, List.set_cons_succ] at hK
        try simp only [hd] at hK
        obtain ⟨hA, hB, h0, h1, h2, h3, hb⟩ := hS
        have x0 := hA.cell
        go_simp
        exact hK.out _ _ ⟨⟨hA, hB, h0, h1, h2, h3, hb⟩, trivial, rfl⟩
      · intro L hL hcl v u hS hd K' hK
        simp only [waited, List.toList_toArray, Region.binds, rel, List.getD_cons_zero, List.getD_cons_succ, true_imp_iff, and_true] at hd
        simp only [rel, List.getD_cons_zero, List.getD_cons_succ, Act.put, List.setIfInBounds_toArray, List.set_cons_zero, List.set_cons_succ] at hK
        try simp only [hd] at hK
        obtain ⟨hA, hB, h0, h1, h2, h3, hb⟩ := hS
        have x0 := hB.cell
        go_simp
        exact hK.out _ _ ⟨⟨hA, hB, h0, h1, h2, h3, hb⟩, trivial, rfl⟩
      · intro L hL hcl v u hS hd K' hK
        simp only [waited, List.toList_toArray, Region.binds, rel, List.getD_cons_zero, List.getD_cons_succ, true_imp_iff, and_true] at hd
        simp only [rel, List.getD_cons_zero, List.getD_cons_succ, Act.put, List.setIfInBounds_toArray, List.set_cons_zero, List.set_cons_succ] at hK
        try simp only [hd] at hK
        obtain ⟨hA, hB, h0, h1, h2, h3, hb⟩ := hS
        go_simp
        exact hK.out _ _ ⟨⟨hA, hB, h0, h1, h2, h3, hb⟩, trivial, rfl⟩
      · intro L hL hcl v u hS hd K' hK
        simp only [waited, List.toList_toArray, Region.binds, rel, List.getD_cons_zero, List.getD_cons_succ, true_imp_iff, and_true] at hd
        simp only [rel, List.getD_cons_zero, List.getD_cons_succ, Act.put, List.setIfInBounds_toArray, List.set_cons_zero, List.set_cons_succ] at hK
        try simp only [hd] at hK
        obtain ⟨hA, hB, h0, h1, h2, h3, hb⟩ := hS
        go_simp
        exact hK.out _ _ ⟨⟨hA, hB, h0, h1, h2, h3, hb⟩, trivial, rfl⟩
      · intro L hL hcl v u hS hd K' hK
        simp only [waited, List.toList_toArray, Region.binds, rel, List.getD_cons_zero, List.getD_cons_succ, true_imp_iff, and_true] at hd
        simp only [rel, List.getD_cons_zero, List.getD_cons_succ, Act.put, List.setIfInBounds_toArray, List.set_cons_zero, List.set_cons_succ] at hK
        try simp only [hd] at hK
        obtain ⟨hA, hB, h0, h1, h2, h3, hb⟩ := hS
        have hX : Blk u w.heap.size [.int .i64 0, .int .i64 0] 33 := by have h := h0; rw [hL] at h; exact h
        have x0 := hX.cell 0
        have x1 := hX.cell 1
        have z0 := hX.free 0
        have z1 := hX.free 1
        first | (obtain ⟨e0, _⟩ := hd) | (have e0 := hd)
        try simp only [e0] at hK ⊢
        go_simp
        exact hK.out undef _ ⟨⟨hA.far2 (by omega) (.int .i64 0) (.int .i64 size), hB.far2 (by omega) (.int .i64 0) (.int .i64 size), hX.set2 (.int .i64 0) (.int .i64 size), h1.far2 (by omega) (.int .i64 0) (.int .i64 size), h2.far2 (by omega) (.int .i64 0) (.int .i64 size), h3.far2 (by omega) (.int .i64 0) (.int .i64 size), below2 hb (by omega) (.int .i64 0) (.int .i64 size)⟩, trivial, trivial⟩
      · intro L hL hcl v u hS hd K' hK
        simp only [waited, List.toList_toArray, Region.binds, rel, List.getD_cons_zero, List.getD_cons_succ, true_imp_iff, and_true] at hd
        simp only [rel, List.getD_cons_zero, List.getD_cons_succ, Act.put, List.setIfInBounds_toArray, List.set_cons_zero, List.set_cons_succ] at hK
        try simp only [hd] at hK
        obtain ⟨hA, hB, h0, h1, h2, h3, hb⟩ := hS
        have hX : Blk u (w.heap.size + 1) [.int .i64 0, .int .i64 0] 33 := by have h := h1; rw [hL] at h; exact h
        have x0 := hX.cell 0
        have x1 := hX.cell 1
        have z0 := hX.free 0
        have z1 := hX.free 1
        first | (obtain ⟨e0, _⟩ := hd) | (have e0 := hd)
        try simp only [e0] at hK ⊢
        go_simp
        exact hK.out undef _ ⟨⟨hA.far2 (by omega) (.int .i64 size) (.int .i64 size), hB.far2 (by omega) (.int .i64 size) (.int .i64 size), h0.far2 (by omega) (.int .i64 size) (.int .i64 size), hX.set2 (.int .i64 size) (.int .i64 size), h2.far2 (by omega) (.int .i64 size) (.int .i64 size), h3.far2 (by omega) (.int .i64 size) (.int .i64 size), below2 hb (by omega) (.int .i64 size) (.int .i64 size)⟩, trivial, trivial⟩
      · intro L hL hcl v u hS hd K' hK
        simp only [waited, List.toList_toArray, Region.binds, rel, List.getD_cons_zero, List.getD_cons_succ, true_imp_iff, and_true] at hd
        simp only [rel, List.getD_cons_zero, List.getD_cons_succ, Act.put, List.setIfInBounds_toArray, List.set_cons_zero, List.set_cons_succ] at hK
        try simp only [hd] at hK
        obtain ⟨hA, hB, h0, h1, h2, h3, hb⟩ := hS
        have hX : Blk u (w.heap.size + 1 + 1) [.slice none 0 0, .slice none 0 0, .bool false, .int .i64 0] 28 := by have h := h2; rw [hL] at h; exact h
        have x0 := hX.cell 0
        have x1 := hX.cell 1
        have x2 := hX.cell 2
        have x3 := hX.cell 3
        have z0 := hX.free 0
        have z1 := hX.free 1
        have z2 := hX.free 2
        have z3 := hX.free 3
        first | (obtain ⟨e0, _⟩ := hd) | (have e0 := hd)
        try simp only [e0] at hK ⊢
        go_simp
        exact hK.out undef _ ⟨⟨hA.far4 (by omega) (.slice none 0 0) (.slice none 0 0) (.bool false) (.int .i64 0), hB.far4 (by omega) (.slice none 0 0) (.slice none 0 0) (.bool false) (.int .i64 0), h0.far4 (by omega) (.slice none 0 0) (.slice none 0 0) (.bool false) (.int .i64 0), h1.far4 (by omega) (.slice none 0 0) (.slice none 0 0) (.bool false) (.int .i64 0), hX.set4 (.slice none 0 0) (.slice none 0 0) (.bool false) (.int .i64 0), h3.far4 (by omega) (.slice none 0 0) (.slice none 0 0) (.bool false) (.int .i64 0), below4 hb (by omega) (.slice none 0 0) (.slice none 0 0) (.bool false) (.int .i64 0)⟩, trivial, trivial⟩
      · intro L hL hcl v u hS hd K' hK
        simp only [waited, List.toList_toArray, Region.binds, rel, List.getD_cons_zero, List.getD_cons_succ, true_imp_iff, and_true] at hd
        simp only [rel, List.getD_cons_zero, List.getD_cons_succ, Act.put, List.setIfInBounds_toArray, List.set_cons_zero, List.set_cons_succ] at hK
        try simp only [hd] at hK
        obtain ⟨hA, hB, h0, h1, h2, h3, hb⟩ := hS
        have hX : Blk u (w.heap.size + 1 + 1 + 1) [.int .u64 0, .string ⟨#[]⟩] 36 := by have h := h3; rw [hL] at h; exact h
        have x0 := hX.cell 0
        have x1 := hX.cell 1
        have z0 := hX.free 0
        have z1 := hX.free 1
        first | (obtain ⟨e0, _⟩ := hd) | (have e0 := hd)
        try simp only [e0] at hK ⊢
        go_simp
        exact hK.out undef _ ⟨⟨hA.far2 (by omega) (.int .u64 0) (.string ⟨#[]⟩), hB.far2 (by omega) (.int .u64 0) (.string ⟨#[]⟩), h0.far2 (by omega) (.int .u64 0) (.string ⟨#[]⟩), h1.far2 (by omega) (.int .u64 0) (.string ⟨#[]⟩), h2.far2 (by omega) (.int .u64 0) (.string ⟨#[]⟩), hX.set2 (.int .u64 0) (.string ⟨#[]⟩), below2 hb (by omega) (.int .u64 0) (.string ⟨#[]⟩)⟩, trivial, trivial⟩
      · intro L hL hcl v u hS hd K' hK
        simp only [waited, List.toList_toArray, Region.binds, rel, List.getD_cons_zero, List.getD_cons_succ, true_imp_iff, and_true] at hd
        simp only [rel, List.getD_cons_zero, List.getD_cons_succ, Act.put, List.setIfInBounds_toArray, List.set_cons_zero, List.set_cons_succ] at hK
        try simp only [hd] at hK
        obtain ⟨hA, hB, h0, h1, h2, h3, hb⟩ := hS
        go_simp
        exact hK.out _ _ ⟨⟨hA, hB, h0, h1, h2, h3, hb⟩, trivial, rfl⟩
    · rintro v u ⟨hA, hB, h0, h1, h2, h3, hb⟩ hR
      replace h0 : Blk u w.heap.size [.int .i64 0, .int .i64 size] 33 := h0
      replace h1 : Blk u (w.heap.size + 1) [.int .i64 size, .int .i64 size] 33 := h1
      replace h2 : Blk u (w.heap.size + 1 + 1) [.slice none 0 0, .slice none 0 0, .bool false, .int .i64 0] 28 := h2
      replace h3 : Blk u (w.heap.size + 1 + 1 + 1) [.int .u64 0, .string ⟨#[]⟩] 36 := h3
      simp only [holdAll, List.size_toArray, List.length_cons, List.length_nil, Nat.reduceAdd, rel, List.getD_cons_zero, List.getD_cons_succ] at hR
      obtain ⟨_, h8⟩ := hR
      simp only [h8]
      clear h8
      go_wp2
      have r00 := h0.cell 0
      have r01 := h0.cell 1
      have r10 := h1.cell 0
      have r11 := h1.cell 1
      have r20 := h2.cell 0
      have r21 := h2.cell 1
      have r22 := h2.cell 2
      have r23 := h2.cell 3
      have r30 := h3.cell 0
      have r31 := h3.cell 1
      refine bodyPost_ret (v := .tuple #[.agg #[.int .i64 0, .int .i64 size], .agg #[.int .i64 size, .int .i64 size], .agg #[.slice none 0 0, .slice none 0 0, .bool false, .int .i64 0], .agg #[.int .u64 0, .string ⟨#[]⟩], .bool false]) (by simp [results, Try.results21, go_sem, r00, r01, r10, r11, r20, r21, r22, r23, r30, r31]) rfl ?_
      exact ⟨⟨dk0, 0, 0, ⟨#[]⟩, false, none, 0, none, 0, rfl, Lies.nil _ _ _, Lies.nil _ _ _, by decide, by decide, by decide, by decide, fun h => by cases h⟩, hb⟩
  by_cases hn3 : 100 < l.length
  · have hn4 : (100 : Int) < (l.length : Int) := by omega
    clear hl
    obtain ⟨V, HV, k0, k1, k2, k3, kA, kB, hb, hz⟩ := saved_in w size
    go_enter Try.func21, Try.ntmps21
    go_upto_region 2 with fail
    rw [← HV.out]
    clear HV
    go_wp2_with fail
    refine region_flatS _ (fun L u => Blk u (w.heap.size + 1 + 1 + 1 + 1) [.int .i64 0, .int .i64 size] 33 ∧ Blk u (w.heap.size + 1 + 1 + 1 + 1 + 1) [.int .i64 size, .int .i64 size] 33 ∧ Blk u w.heap.size (cond (L 4) [.int .i64 0, .int .i64 size] [.int .i64 0, .int .i64 0]) 33 ∧ Blk u (w.heap.size + 1) (cond (L 5) [.int .i64 size, .int .i64 size] [.int .i64 0, .int .i64 0]) 33 ∧ Blk u (w.heap.size + 1 + 1) (cond (L 6) [.slice none 0 0, .slice none 0 0, .bool false, .int .i64 0] [.slice none 0 0, .slice none 0 0, .bool false, .int .i64 0]) 28 ∧ Blk u (w.heap.size + 1 + 1 + 1) (cond (L 7) [.int .u64 0, .string ⟨#[]⟩] [.int .u64 0, .string ⟨#[]⟩]) 36 ∧ Below w.heap.size w u) (fun _ _ _ => True)
      (fun _ => rel [fun v _ => v = .agg #[.int .i64 0, .int .i64 size],
        fun v _ => v = .agg #[.int .i64 size, .int .i64 size],
        fun v _ => v = .agg #[.slice none 0 0, .slice none 0 0, .bool false, .int .i64 0],
        fun v _ => v = .agg #[.int .u64 0, .string ⟨#[]⟩],
        fun _ _ => True,
        fun _ _ => True,
        fun _ _ => True,
        fun _ _ => True,
        fun v _ => v = .bool false])
      (by kernel_rfl) (by kernel_rfl) (fun v => by simp only [putsV, Act.put, List.toList_toArray, List.setIfInBounds_toArray, List.set_cons_zero, List.set_cons_succ, Nat.reduceAdd, Nat.zero_add]; rfl) ?_ (fun _ _ _ _ _ h => h) ⟨kA.drew, kB.drew, k0.drew, k1.drew, k2.drew, k3.drew, hb.drew⟩ ?_ (fun _ _ _ _ _ _ h => h) (fun L L' u hL h => by rw [← hL 4 (by decide)]; rw [← hL 5 (by decide)]; rw [← hL 6 (by decide)]; rw [← hL 7 (by decide)]; exact h) ?_
    · intro i L j x u u' _ _ _ h
      match j with
      | 0 => exact h
      | 1 => exact h
      | 2 => exact h
      | 3 => exact h
      | 4 => exact h
      | 5 => exact h
      | 6 => exact h
      | 7 => exact h
      | 8 => exact h
      | _ + 9 => trivial
    · refine ⟨?_, ?_, ?_, ?_, ?_, ?_, ?_, ?_, ?_, trivial⟩
      · intro L hL hcl v u hS hd K' hK
        simp only [waited, List.toList_toArray, Region.binds, rel, List.getD_cons_zero, List.getD_cons_succ, true_imp_iff, and_true] at hd
        simp only [rel, List.getD_cons_zero, List.getD_cons_succ, Act.put, List.setIfInBounds_toArray, List.set_cons_zero, List.set_cons_succ] at hK
        try simp only [hd] at hK
        obtain ⟨hA, hB, h0, h1, h2, h3, hb⟩ := hS
        have x0 := hA.cell
        go_simp
        exact hK.out _ _ ⟨⟨hA, hB, h0, h1, h2, h3, hb⟩, trivial, rfl⟩
      · intro L hL hcl v u hS hd K' hK
        simp only [waited, List.toList_toArray, Region.binds, rel, List.getD_cons_zero, List.getD_cons_succ, true_imp_iff, and_true] at hd
        simp only [rel, List.getD_cons_zero, List.getD_cons_succ, Act.put, List.setIfInBounds_toArray, List.set_cons_zero, List.set_cons_succ] at hK
        try simp only [hd] at hK
        obtain ⟨hA, hB, h0, h1, h2, h3, hb⟩ := hS
        have x0 := hB.cell
        go_simp
        exact hK.out _ _ ⟨⟨hA, hB, h0, h1, h2, h3, hb⟩, trivial, rfl⟩
      · intro L hL hcl v u hS hd K' hK
        simp only [waited, List.toList_toArray, Region.binds, rel, List.getD_cons_zero, List.getD_cons_succ, true_imp_iff, and_true] at hd
        simp only [rel, List.getD_cons_zero, List.getD_cons_succ, Act.put, List.setIfInBounds_toArray, List.set_cons_zero, List.set_cons_succ] at hK
        try simp only [hd] at hK
        obtain ⟨hA, hB, h0, h1, h2, h3, hb⟩ := hS
        go_simp
        exact hK.out _ _ ⟨⟨hA, hB, h0, h1, h2, h3, hb⟩, trivial, rfl⟩
      · intro L hL hcl v u hS hd K' hK
        simp only [waited, List.toList_toArray, Region.binds, rel, List.getD_cons_zero, List.getD_cons_succ, true_imp_iff, and_true] at hd
        simp only [rel, List.getD_cons_zero, List.getD_cons_succ, Act.put, List.setIfInBounds_toArray, List.set_cons_zero, List.set_cons_succ] at hK
        try simp only [hd] at hK
        obtain ⟨hA, hB, h0, h1, h2, h3, hb⟩ := hS
        go_simp
        exact hK.out _ _ ⟨⟨hA, hB, h0, h1, h2, h3, hb⟩, trivial, rfl⟩
      · intro L hL hcl v u hS hd K' hK
        simp only [waited, List.toList_toArray, Region.binds, rel, List.getD_cons_zero, List.getD_cons_succ, true_imp_iff, and_true] at hd
        simp only [rel, List.getD_cons_zero, List.getD_cons_succ, Act.put, List.setIfInBounds_toArray, List.set_cons_zero, List.set_cons_succ] at hK
        try simp only [hd] at hK
        obtain ⟨hA, hB, h0, h1, h2, h3, hb⟩ := hS
        have hX : Blk u w.heap.size [.int .i64 0, .int .i64 0] 33 := by have h := h0; rw [hL] at h; exact h
        have x0 := hX.cell 0
        have x1 := hX.cell 1
        have z0 := hX.free 0
        have z1 := hX.free 1
        first | (obtain ⟨e0, _⟩ := hd) | (have e0 := hd)
        try simp only [e0] at hK ⊢
        go_simp
        exact hK.out undef _ ⟨⟨hA.far2 (by omega) (.int .i64 0) (.int .i64 size), hB.far2 (by omega) (.int .i64 0) (.int .i64 size), hX.set2 (.int .i64 0) (.int .i64 size), h1.far2 (by omega) (.int .i64 0) (.int .i64 size), h2.far2 (by omega) (.int .i64 0) (.int .i64 size), h3.far2 (by omega) (.int .i64 0) (.int .i64 size), below2 hb (by omega) (.int .i64 0) (.int .i64 size)⟩, trivial, trivial⟩
      · intro L hL hcl v u hS hd K' hK
        simp only [waited, List.toList_toArray, Region.binds, rel, List.getD_cons_zero, List.getD_cons_succ, true_imp_iff, and_true] at hd
        simp only [rel, List.getD_cons_zero, List.getD_cons_succ, Act.put, List.setIfInBounds_toArray, List.set_cons_zero, List.set_cons_succ] at hK
        try simp only [hd] at hK
        obtain ⟨hA, hB, h0, h1, h2, h3, hb⟩ := hS
        have hX : Blk u (w.heap.size + 1) [.int .i64 0, .int .i64 0] 33 := by have h := h1; rw [hL] at h; exact h
        have x0 := hX.cell 0
        have x1 := hX.cell 1
        have z0 := hX.free 0
        have z1 := hX.free 1
        first | (obtain ⟨e0, _⟩ := hd) | (have e0 := hd)
        try simp only [e0] at hK ⊢
        go_simp
        exact hK.out undef _ ⟨⟨hA.far2 (by omega) (.int .i64 size) (.int .i64 size), hB.far2 (by omega) (.int .i64 size) (.int .i64 size), h0.far2 (by omega) (.int .i64 size) (.int .i64 size), hX.set2 (.int .i64 size) (.int .i64 size), h2.far2 (by omega) (.int .i64 size) (.int .i64 size), h3.far2 (by omega) (.int .i64 size) (.int .i64 size), below2 hb (by omega) (.int .i64 size) (.int .i64 size)⟩, trivial, trivial⟩
      · intro L hL hcl v u hS hd K' hK
        simp only [waited, List.toList_toArray, Region.binds, rel, List.getD_cons_zero, List.getD_cons_succ, true_imp_iff, and_true] at hd
        simp only [rel, List.getD_cons_zero, List.getD_cons_succ, Act.put, List.setIfInBounds_toArray, List.set_cons_zero, List.set_cons_succ] at hK
        try simp only [hd] at hK
        obtain ⟨hA, hB, h0, h1, h2, h3, hb⟩ := hS
        have hX : Blk u (w.heap.size + 1 + 1) [.slice none 0 0, .slice none 0 0, .bool false, .int .i64 0] 28 := by have h := h2; rw [hL] at h; exact h
        have x0 := hX.cell 0
        have x1 := hX.cell 1
        have x2 := hX.cell 2
        have x3 := hX.cell 3
        have z0 := hX.free 0
        have z1 := hX.free 1
        have z2 := hX.free 2
        have z3 := hX.free 3
        first | (obtain ⟨e0, _⟩ := hd) | (have e0 := hd)
        try simp only [e0] at hK ⊢
        go_simp
        exact hK.out undef _ ⟨⟨hA.far4 (by omega) (.slice none 0 0) (.slice none 0 0) (.bool false) (.int .i64 0), hB.far4 (by omega) (.slice none 0 0) (.slice none 0 0) (.bool false) (.int .i64 0), h0.far4 (by omega) (.slice none 0 0) (.slice none 0 0) (.bool false) (.int .i64 0), h1.far4 (by omega) (.slice none 0 0) (.slice none 0 0) (.bool false) (.int .i64 0), hX.set4 (.slice none 0 0) (.slice none 0 0) (.bool false) (.int .i64 0), h3.far4 (by omega) (.slice none 0 0) (.slice none 0 0) (.bool false) (.int .i64 0), below4 hb (by omega) (.slice none 0 0) (.slice none 0 0) (.bool false) (.int .i64 0)⟩, trivial, trivial⟩
      · intro L hL hcl v u hS hd K' hK
        simp only [waited, List.toList_toArray, Region.binds, rel, List.getD_cons_zero, List.getD_cons_succ, true_imp_iff, and_true] at hd
        simp only [rel, List.getD_cons_zero, List.getD_cons_succ, Act.put, List.setIfInBounds_toArray, List.set_cons_zero, List.set_cons_succ] at hK
        try simp only [hd] at hK
        obtain ⟨hA, hB, h0, h1, h2, h3, hb⟩ := hS
        have hX : Blk u (w.heap.size + 1 + 1 + 1) [.int .u64 0, .string ⟨#[]⟩] 36 := by have h := h3; rw [hL] at h; exact h
        have x0 := hX.cell 0
        have x1 := hX.cell 1
        have z0 := hX.free 0
        have z1 := hX.free 1
        first | (obtain ⟨e0, _⟩ := hd) | (have e0 := hd)
        try simp only [e0] at hK ⊢
        go_simp
        exact hK.out undef _ ⟨⟨hA.far2 (by omega) (.int .u64 0) (.string ⟨#[]⟩), hB.far2 (by omega) (.int .u64 0) (.string ⟨#[]⟩), h0.far2 (by omega) (.int .u64 0) (.string ⟨#[]⟩), h1.far2 (by omega) (.int .u64 0) (.string ⟨#[]⟩), h2.far2 (by omega) (.int .u64 0) (.string ⟨#[]⟩), hX.set2 (.int .u64 0) (.string ⟨#[]⟩), below2 hb (by omega) (.int .u64 0) (.string ⟨#[]⟩)⟩, trivial, trivial⟩
      · intro L hL hcl v u hS hd K' hK
        simp only [waited, List.toList_toArray, Region.binds, rel, List.getD_cons_zero, List.getD_cons_succ, true_imp_iff, and_true] at hd
        simp only [rel, List.getD_cons_zero, List.getD_cons_succ, Act.put, List.setIfInBounds_toArray, List.set_cons_zero, List.set_cons_succ] at hK
        try simp only [hd] at hK
        obtain ⟨hA, hB, h0, h1, h2, h3, hb⟩ := hS
        go_simp
        exact hK.out _ _ ⟨⟨hA, hB, h0, h1, h2, h3, hb⟩, trivial, rfl⟩
    · rintro v u ⟨hA, hB, h0, h1, h2, h3, hb⟩ hR
      replace h0 : Blk u w.heap.size [.int .i64 0, .int .i64 size] 33 := h0
      replace h1 : Blk u (w.heap.size + 1) [.int .i64 size, .int .i64 size] 33 := h1
      replace h2 : Blk u (w.heap.size + 1 + 1) [.slice none 0 0, .slice none 0 0, .bool false, .int .i64 0] 28 := h2
      replace h3 : Blk u (w.heap.size + 1 + 1 + 1) [.int .u64 0, .string ⟨#[]⟩] 36 := h3
      simp only [holdAll, List.size_toArray, List.length_cons, List.length_nil, Nat.reduceAdd, rel, List.getD_cons_zero, List.getD_cons_succ] at hR
      obtain ⟨_, h8⟩ := hR
      simp only [h8]
      clear h8
      go_wp2
      have r00 := h0.cell 0
      have r01 := h0.cell 1
      have r10 := h1.cell 0
      have r11 := h1.cell 1
      have r20 := h2.cell 0
      have r21 := h2.cell 1
      have r22 := h2.cell 2
      have r23 := h2.cell 3
      have r30 := h3.cell 0
      have r31 := h3.cell 1
      refine bodyPost_ret (v := .tuple #[.agg #[.int .i64 0, .int .i64 size], .agg #[.int .i64 size, .int .i64 size], .agg #[.slice none 0 0, .slice none 0 0, .bool false, .int .i64 0], .agg #[.int .u64 0, .string ⟨#[]⟩], .bool false]) (by simp [results, Try.results21, go_sem, r00, r01, r10, r11, r20, r21, r22, r23, r30, r31]) rfl ?_
      exact ⟨⟨dk0, 0, 0, ⟨#[]⟩, false, none, 0, none, 0, rfl, Lies.nil _ _ _, Lies.nil _ _ _, by decide, by decide, by decide, by decide, fun h => by cases h⟩, hb⟩
  obtain ⟨n, rfl⟩ := Int.eq_ofNat_of_zero_le (show 0 ≤ size by omega)
  have hnn : 1 ≤ n ∧ n ≤ 512 := by omega
  have h100 : l.length ≤ 100 := by omega
  have hn1' : ¬ (n : Int) < 1 := by omega
  have hn2' : ¬ (512 : Int) < (n : Int) := by omega
  have hn3' : ¬ (100 : Int) < (l.length : Int) := by omega
  have hw2 : IntKind.i64.wrap (2 * (n : Int)) = 2 * (n : Int) := by simp [IntKind.wrap, IntKind.bits, IntKind.signed]; omega
  have hS0 := new_slots n hnn.1 (by omega)
  rw [show ((2 * n : Nat) : Int) = 2 * (n : Int) by omega] at hS0
  have hnew := fun W => new_w (2 * (n : Int)) W (by omega)
  have e1 : newE (2 * (n : Int)) = 0 := by simp [newE]; omega
  have hf0 : (newD (2 * (n : Int))).fuse = -1 := by
    rw [show (2 * (n : Int)) = ((2 * n : Nat) : Int) by omega, ((new_of (2 * n : Nat)).1 (by simp [sizeOk]; omega)).1]
  obtain ⟨D0, H0⟩ := named (newD (2 * (n : Int)))
  rw [← H0.out] at hS0 hf0
  simp only [e1, ← H0.out] at hnew
  have HS0 : Hid (SlOn D0 n ⟨0, (⟨#[]⟩ : ByteArray).data.toList⟩ 1 ∧ D0.fuse = -1) := hide ⟨hS0, hf0⟩
  clear H0 e1 hn1 hn2 hn3 hsz hS0 hf0
  obtain ⟨V, HV, k0, k1, k2, k3, kA, kB, hb, hz⟩ := saved_in w (n : Int)
  go_enter Try.func21, Try.ntmps21
  go_upto_region 2 with fail
  rw [← HV.out]
  clear HV
  go_wp2_with fail
  clear hw2 hn1' hn2' hn3'
  refine (hnew _).mono ?_
  rintro e w1 ⟨v1, rfl, ⟨A1, c1, B1, e1, rfl, g1, g2, g3, g4, g5, g6⟩, hb1⟩
  have hN : w.heap.size + 1 + 1 + 1 + 1 + 1 + 1 ≤ w1.heap.size := by have := hb1.size; omega
  have Bd := Box.new w1 ⟨A1, c1, B1, e1, rfl, g1, g2, g3, g4, g5, g6⟩
  have km := Blk.new (w1.alloc (.cells #[.slice A1 D0.secs.length c1, .slice B1 D0.pend.length e1, .bool D0.off, .int .i64 D0.fuse] 28)) [.int .u64 0, .string ⟨#[]⟩] 36
  rw [show (w1.alloc (.cells #[.slice A1 D0.secs.length c1, .slice B1 D0.pend.length e1, .bool D0.off, .int .i64 D0.fuse] 28)).heap.size = w1.heap.size + 1 by simp] at km
  replace Bd := Bd.alloc (.cells #[.int .u64 0, .string ⟨#[]⟩] 36)
  replace k0 := ((k0.below hb1).alloc (.cells #[.slice A1 D0.secs.length c1, .slice B1 D0.pend.length e1, .bool D0.off, .int .i64 D0.fuse] 28)).alloc (.cells #[.int .u64 0, .string ⟨#[]⟩] 36)
  replace k1 := ((k1.below hb1).alloc (.cells #[.slice A1 D0.secs.length c1, .slice B1 D0.pend.length e1, .bool D0.off, .int .i64 D0.fuse] 28)).alloc (.cells #[.int .u64 0, .string ⟨#[]⟩] 36)
  replace k2 := ((k2.below hb1).alloc (.cells #[.slice A1 D0.secs.length c1, .slice B1 D0.pend.length e1, .bool D0.off, .int .i64 D0.fuse] 28)).alloc (.cells #[.int .u64 0, .string ⟨#[]⟩] 36)
  replace k3 := ((k3.below hb1).alloc (.cells #[.slice A1 D0.secs.length c1, .slice B1 D0.pend.length e1, .bool D0.off, .int .i64 D0.fuse] 28)).alloc (.cells #[.int .u64 0, .string ⟨#[]⟩] 36)
  replace kA := ((kA.below hb1).alloc (.cells #[.slice A1 D0.secs.length c1, .slice B1 D0.pend.length e1, .bool D0.off, .int .i64 D0.fuse] 28)).alloc (.cells #[.int .u64 0, .string ⟨#[]⟩] 36)
  replace kB := ((kB.below hb1).alloc (.cells #[.slice A1 D0.secs.length c1, .slice B1 D0.pend.length e1, .bool D0.off, .int .i64 D0.fuse] 28)).alloc (.cells #[.int .u64 0, .string ⟨#[]⟩] 36)
  replace hb := bt (bt (bt hb hb1) (below_alloc w1 (.cells #[.slice A1 D0.secs.length c1, .slice B1 D0.pend.length e1, .bool D0.off, .int .i64 D0.fuse] 28))) (below_alloc _ (.cells #[.int .u64 0, .string ⟨#[]⟩] 36))
  clear hnew hb1 g1 g2 g3 g4 g5 g6 hz
  go_upto_region 7 with fail
  obtain ⟨N, HN⟩ := named w1.heap.size
  obtain ⟨W1, HW1⟩ := named ((w1.alloc (.cells #[.slice A1 D0.secs.length c1, .slice B1 D0.pend.length e1, .bool D0.off, .int .i64 D0.fuse] 28)).alloc (.cells #[.int .u64 0, .string ⟨#[]⟩] 36))
  rw [← HN.out] at Bd km hN ⊢
  rw [← HW1.out] at Bd km k0 k1 k2 k3 kA kB hb ⊢
  clear HN HW1
  go_loopw [48] (fun i wr => ∃ (k : Nat) (D : Dk) (x j : Nat) (S : ByteArray) (A1 : Option Addr) (c1 : Nat) (B1 : Option Addr) (e1 : Nat), k ≤ l.length ∧ i = .int .i64 (k : Int) ∧ x ≤ k ∧ (SlOn D n ⟨x, S.data.toList⟩ j ∧ D.fuse = -1) ∧ Box wr N A1 c1 B1 e1 D ∧ Blk wr (N + 1) [.int .u64 (x : Int), .string S] 36 ∧ Blk wr w.heap.size [.int .i64 0, .int .i64 0] 33 ∧ Blk wr (w.heap.size + 1) [.int .i64 0, .int .i64 0] 33 ∧ Blk wr (w.heap.size + 1 + 1) [.slice none 0 0, .slice none 0 0, .bool false, .int .i64 0] 28 ∧ Blk wr (w.heap.size + 1 + 1 + 1) [.int .u64 0, .string ⟨#[]⟩] 36 ∧ Blk wr (w.heap.size + 1 + 1 + 1 + 1) [.int .i64 0, .int .i64 (n : Int)] 33 ∧ Blk wr (w.heap.size + 1 + 1 + 1 + 1 + 1) [.int .i64 (n : Int), .int .i64 (n : Int)] 33 ∧ Below w.heap.size w wr) (fun i _ => l.length - (intOf i).toNat)
  case atStart => exact ⟨0, D0, 0, 1, ⟨#[]⟩, A1, c1, B1, e1, by omega, rfl, by omega, HS0.out, Bd, km, k0, k1, k2, k3, kA, kB, hb⟩
  case round =>
    clear Bd km k0 k1 k2 k3 kA kB hb HS0
    obtain ⟨k, D, x, j, S, A1, c1, B1, e1, hkl, rfl, hxk, ⟨hL, hfu⟩, Bd, km, k0, k1, k2, k3, kA, kB, hb⟩ := hrel
    have hNlt := Bd.lt
    have hMlt := km.lt
    by_cases hlt : k < l.length
    case neg =>
      obtain rfl : k = l.length := by omega
      have HL := hide hL
      have HFU := hide hfu
      clear hL hfu hl
      go_wp2_with fail
      refine region_flatS _ (fun L u => Box u N A1 c1 B1 e1 D ∧ Blk u (N + 1) [.int .u64 (x : Int), .string S] 36 ∧ Blk u (w.heap.size + 1 + 1 + 1 + 1) [.int .i64 0, .int .i64 (n : Int)] 33 ∧ Blk u (w.heap.size + 1 + 1 + 1 + 1 + 1) [.int .i64 (n : Int), .int .i64 (n : Int)] 33 ∧ Blk u w.heap.size (cond (L 6) [.int .i64 0, .int .i64 (n : Int)] [.int .i64 0, .int .i64 0]) 33 ∧ Blk u (w.heap.size + 1) (cond (L 7) [.int .i64 (n : Int), .int .i64 (n : Int)] [.int .i64 0, .int .i64 0]) 33 ∧ Blk u (w.heap.size + 1 + 1) (cond (L 8) [.slice A1 D.secs.length c1, .slice B1 D.pend.length e1, .bool D.off, .int .i64 D.fuse] [.slice none 0 0, .slice none 0 0, .bool false, .int .i64 0]) 28 ∧ Blk u (w.heap.size + 1 + 1 + 1) (cond (L 9) [.int .u64 (x : Int), .string S] [.int .u64 0, .string ⟨#[]⟩]) 36 ∧ Below w.heap.size w u) (fun _ _ _ => True)
        (fun _ => rel [fun v _ => v = .agg #[.int .i64 0, .int .i64 (n : Int)],
          fun v _ => v = .agg #[.int .i64 (n : Int), .int .i64 (n : Int)],
          fun v _ => v = .agg #[.slice A1 D.secs.length c1, .slice B1 D.pend.length e1, .bool D.off, .int .i64 D.fuse],
          fun v _ => v = .agg #[.int .u64 (x : Int), .string S],
          fun v _ => v = .int .i64 0,
          fun v _ => v = .bool true,
          fun _ _ => True,
          fun _ _ => True,
          fun _ _ => True,
          fun _ _ => True,
          fun v _ => v = .bool true])
        (by kernel_rfl) (by kernel_rfl) (fun v => by simp only [putsV, Act.put, List.toList_toArray, List.setIfInBounds_toArray, List.set_cons_zero, List.set_cons_succ, Nat.reduceAdd, Nat.zero_add]; rfl) ?_ (fun _ _ _ _ _ h => h) ⟨Bd.drew, km.drew, kA.drew, kB.drew, k0.drew, k1.drew, k2.drew, k3.drew, hb.drew⟩ ?_ (fun _ _ _ _ _ _ h => h) (fun L L' u hL h => by rw [← hL 6 (by decide)]; rw [← hL 7 (by decide)]; rw [← hL 8 (by decide)]; rw [← hL 9 (by decide)]; exact h) ?_
      · intro i L j x u u' _ _ _ h
        match j with
        | 0 => exact h
        | 1 => exact h
        | 2 => exact h
        | 3 => exact h
        | 4 => exact h
        | 5 => exact h
        | 6 => exact h
        | 7 => exact h
        | 8 => exact h
        | 9 => exact h
        | 10 => exact h
        | _ + 11 => trivial
      · refine ⟨?_, ?_, ?_, ?_, ?_, ?_, ?_, ?_, ?_, ?_, ?_, trivial⟩
        · intro L hL hcl v u hS hd K' hK
          simp only [waited, List.toList_toArray, Region.binds, rel, List.getD_cons_zero, List.getD_cons_succ, true_imp_iff, and_true] at hd
          simp only [rel, List.getD_cons_zero, List.getD_cons_succ, Act.put, List.setIfInBounds_toArray, List.set_cons_zero, List.set_cons_succ] at hK
          try simp only [hd] at hK
          obtain ⟨hE, hM, hA, hB, h0, h1, h2, h3, hb⟩ := hS
          have x0 := hA.cell
          go_simp
          exact hK.out _ _ ⟨⟨hE, hM, hA, hB, h0, h1, h2, h3, hb⟩, trivial, rfl⟩
        · intro L hL hcl v u hS hd K' hK
          simp only [waited, List.toList_toArray, Region.binds, rel, List.getD_cons_zero, List.getD_cons_succ, true_imp_iff, and_true] at hd
          simp only [rel, List.getD_cons_zero, List.getD_cons_succ, Act.put, List.setIfInBounds_toArray, List.set_cons_zero, List.set_cons_succ] at hK
          try simp only [hd] at hK
          obtain ⟨hE, hM, hA, hB, h0, h1, h2, h3, hb⟩ := hS
          have x0 := hB.cell
          go_simp
          exact hK.out _ _ ⟨⟨hE, hM, hA, hB, h0, h1, h2, h3, hb⟩, trivial, rfl⟩
        · intro L hL hcl v u hS hd K' hK
          simp only [waited, List.toList_toArray, Region.binds, rel, List.getD_cons_zero, List.getD_cons_succ, true_imp_iff, and_true] at hd
          simp only [rel, List.getD_cons_zero, List.getD_cons_succ, Act.put, List.setIfInBounds_toArray, List.set_cons_zero, List.set_cons_succ] at hK
          try simp only [hd] at hK
          obtain ⟨hE, hM, hA, hB, h0, h1, h2, h3, hb⟩ := hS
          have x0 := hE.blk.cell
          go_simp
          exact hK.out _ _ ⟨⟨hE, hM, hA, hB, h0, h1, h2, h3, hb⟩, trivial, rfl⟩
        · intro L hL hcl v u hS hd K' hK
          simp only [waited, List.toList_toArray, Region.binds, rel, List.getD_cons_zero, List.getD_cons_succ, true_imp_iff, and_true] at hd
          simp only [rel, List.getD_cons_zero, List.getD_cons_succ, Act.put, List.setIfInBounds_toArray, List.set_cons_zero, List.set_cons_succ] at hK
          try simp only [hd] at hK
          obtain ⟨hE, hM, hA, hB, h0, h1, h2, h3, hb⟩ := hS
          have x0 := hM.cell
          go_simp
          exact hK.out _ _ ⟨⟨hE, hM, hA, hB, h0, h1, h2, h3, hb⟩, trivial, rfl⟩
        · intro L hL hcl v u hS hd K' hK
          simp only [waited, List.toList_toArray, Region.binds, rel, List.getD_cons_zero, List.getD_cons_succ, true_imp_iff, and_true] at hd
          simp only [rel, List.getD_cons_zero, List.getD_cons_succ, Act.put, List.setIfInBounds_toArray, List.set_cons_zero, List.set_cons_succ] at hK
          try simp only [hd] at hK
          obtain ⟨hE, hM, hA, hB, h0, h1, h2, h3, hb⟩ := hS
          go_simp
          exact hK.out _ _ ⟨⟨hE, hM, hA, hB, h0, h1, h2, h3, hb⟩, trivial, rfl⟩
        · intro L hL hcl v u hS hd K' hK
          simp only [waited, List.toList_toArray, Region.binds, rel, List.getD_cons_zero, List.getD_cons_succ, true_imp_iff, and_true] at hd
          simp only [rel, List.getD_cons_zero, List.getD_cons_succ, Act.put, List.setIfInBounds_toArray, List.set_cons_zero, List.set_cons_succ] at hK
          try simp only [hd] at hK
          obtain ⟨hE, hM, hA, hB, h0, h1, h2, h3, hb⟩ := hS
          go_simp
          exact hK.out _ _ ⟨⟨hE, hM, hA, hB, h0, h1, h2, h3, hb⟩, trivial, rfl⟩
        · intro L hL hcl v u hS hd K' hK
          simp only [waited, List.toList_toArray, Region.binds, rel, List.getD_cons_zero, List.getD_cons_succ, true_imp_iff, and_true] at hd
          simp only [rel, List.getD_cons_zero, List.getD_cons_succ, Act.put, List.setIfInBounds_toArray, List.set_cons_zero, List.set_cons_succ] at hK
          try simp only [hd] at hK
          obtain ⟨hE, hM, hA, hB, h0, h1, h2, h3, hb⟩ := hS
          have hX : Blk u w.heap.size [.int .i64 0, .int .i64 0] 33 := by have h := h0; rw [hL] at h; exact h
          have x0 := hX.cell 0
          have x1 := hX.cell 1
          have z0 := hX.free 0
          have z1 := hX.free 1
          first | (obtain ⟨e0, _⟩ := hd) | (have e0 := hd)
          try simp only [e0] at hK ⊢
          go_simp
          exact hK.out undef _ ⟨⟨hE.reg2 hX (by omega) (.int .i64 0) (.int .i64 (n : Int)), hM.far2 (by omega) (.int .i64 0) (.int .i64 (n : Int)), hA.far2 (by omega) (.int .i64 0) (.int .i64 (n : Int)), hB.far2 (by omega) (.int .i64 0) (.int .i64 (n : Int)), hX.set2 (.int .i64 0) (.int .i64 (n : Int)), h1.far2 (by omega) (.int .i64 0) (.int .i64 (n : Int)), h2.far2 (by omega) (.int .i64 0) (.int .i64 (n : Int)), h3.far2 (by omega) (.int .i64 0) (.int .i64 (n : Int)), below2 hb (by omega) (.int .i64 0) (.int .i64 (n : Int))⟩, trivial, trivial⟩
        · intro L hL hcl v u hS hd K' hK
          simp only [waited, List.toList_toArray, Region.binds, rel, List.getD_cons_zero, List.getD_cons_succ, true_imp_iff, and_true] at hd
          simp only [rel, List.getD_cons_zero, List.getD_cons_succ, Act.put, List.setIfInBounds_toArray, List.set_cons_zero, List.set_cons_succ] at hK
          try simp only [hd] at hK
          obtain ⟨hE, hM, hA, hB, h0, h1, h2, h3, hb⟩ := hS
          have hX : Blk u (w.heap.size + 1) [.int .i64 0, .int .i64 0] 33 := by have h := h1; rw [hL] at h; exact h
          have x0 := hX.cell 0
          have x1 := hX.cell 1
          have z0 := hX.free 0
          have z1 := hX.free 1
          first | (obtain ⟨e0, _⟩ := hd) | (have e0 := hd)
          try simp only [e0] at hK ⊢
          go_simp
          exact hK.out undef _ ⟨⟨hE.reg2 hX (by omega) (.int .i64 (n : Int)) (.int .i64 (n : Int)), hM.far2 (by omega) (.int .i64 (n : Int)) (.int .i64 (n : Int)), hA.far2 (by omega) (.int .i64 (n : Int)) (.int .i64 (n : Int)), hB.far2 (by omega) (.int .i64 (n : Int)) (.int .i64 (n : Int)), h0.far2 (by omega) (.int .i64 (n : Int)) (.int .i64 (n : Int)), hX.set2 (.int .i64 (n : Int)) (.int .i64 (n : Int)), h2.far2 (by omega) (.int .i64 (n : Int)) (.int .i64 (n : Int)), h3.far2 (by omega) (.int .i64 (n : Int)) (.int .i64 (n : Int)), below2 hb (by omega) (.int .i64 (n : Int)) (.int .i64 (n : Int))⟩, trivial, trivial⟩
        · intro L hL hcl v u hS hd K' hK
          simp only [waited, List.toList_toArray, Region.binds, rel, List.getD_cons_zero, List.getD_cons_succ, true_imp_iff, and_true] at hd
          simp only [rel, List.getD_cons_zero, List.getD_cons_succ, Act.put, List.setIfInBounds_toArray, List.set_cons_zero, List.set_cons_succ] at hK
          try simp only [hd] at hK
          obtain ⟨hE, hM, hA, hB, h0, h1, h2, h3, hb⟩ := hS
          have hX : Blk u (w.heap.size + 1 + 1) [.slice none 0 0, .slice none 0 0, .bool false, .int .i64 0] 28 := by have h := h2; rw [hL] at h; exact h
          have x0 := hX.cell 0
          have x1 := hX.cell 1
          have x2 := hX.cell 2
          have x3 := hX.cell 3
          have z0 := hX.free 0
          have z1 := hX.free 1
          have z2 := hX.free 2
          have z3 := hX.free 3
          first | (obtain ⟨e0, _⟩ := hd) | (have e0 := hd)
          try simp only [e0] at hK ⊢
          go_simp
          exact hK.out undef _ ⟨⟨hE.far4 hX (by omega) (.slice A1 D.secs.length c1) (.slice B1 D.pend.length e1) (.bool D.off) (.int .i64 D.fuse), hM.far4 (by omega) (.slice A1 D.secs.length c1) (.slice B1 D.pend.length e1) (.bool D.off) (.int .i64 D.fuse), hA.far4 (by omega) (.slice A1 D.secs.length c1) (.slice B1 D.pend.length e1) (.bool D.off) (.int .i64 D.fuse), hB.far4 (by omega) (.slice A1 D.secs.length c1) (.slice B1 D.pend.length e1) (.bool D.off) (.int .i64 D.fuse), h0.far4 (by omega) (.slice A1 D.secs.length c1) (.slice B1 D.pend.length e1) (.bool D.off) (.int .i64 D.fuse), h1.far4 (by omega) (.slice A1 D.secs.length c1) (.slice B1 D.pend.length e1) (.bool D.off) (.int .i64 D.fuse), hX.set4 (.slice A1 D.secs.length c1) (.slice B1 D.pend.length e1) (.bool D.off) (.int .i64 D.fuse), h3.far4 (by omega) (.slice A1 D.secs.length c1) (.slice B1 D.pend.length e1) (.bool D.off) (.int .i64 D.fuse), below4 hb (by omega) (.slice A1 D.secs.length c1) (.slice B1 D.pend.length e1) (.bool D.off) (.int .i64 D.fuse)⟩, trivial, trivial⟩
        · intro L hL hcl v u hS hd K' hK
          simp only [waited, List.toList_toArray, Region.binds, rel, List.getD_cons_zero, List.getD_cons_succ, true_imp_iff, and_true] at hd
          simp only [rel, List.getD_cons_zero, List.getD_cons_succ, Act.put, List.setIfInBounds_toArray, List.set_cons_zero, List.set_cons_succ] at hK
          try simp only [hd] at hK
          obtain ⟨hE, hM, hA, hB, h0, h1, h2, h3, hb⟩ := hS
          have hX : Blk u (w.heap.size + 1 + 1 + 1) [.int .u64 0, .string ⟨#[]⟩] 36 := by have h := h3; rw [hL] at h; exact h
          have x0 := hX.cell 0
          have x1 := hX.cell 1
          have z0 := hX.free 0
          have z1 := hX.free 1
          first | (obtain ⟨e0, _⟩ := hd) | (have e0 := hd)
          try simp only [e0] at hK ⊢
          go_simp
          exact hK.out undef _ ⟨⟨hE.img HL.out hX (by omega) (.int .u64 (x : Int)) (.string S), hM.far2 (by omega) (.int .u64 (x : Int)) (.string S), hA.far2 (by omega) (.int .u64 (x : Int)) (.string S), hB.far2 (by omega) (.int .u64 (x : Int)) (.string S), h0.far2 (by omega) (.int .u64 (x : Int)) (.string S), h1.far2 (by omega) (.int .u64 (x : Int)) (.string S), h2.far2 (by omega) (.int .u64 (x : Int)) (.string S), hX.set2 (.int .u64 (x : Int)) (.string S), below2 hb (by omega) (.int .u64 (x : Int)) (.string S)⟩, trivial, trivial⟩
        · intro L hL hcl v u hS hd K' hK
          simp only [waited, List.toList_toArray, Region.binds, rel, List.getD_cons_zero, List.getD_cons_succ, true_imp_iff, and_true] at hd
          simp only [rel, List.getD_cons_zero, List.getD_cons_succ, Act.put, List.setIfInBounds_toArray, List.set_cons_zero, List.set_cons_succ] at hK
          try simp only [hd] at hK
          obtain ⟨hE, hM, hA, hB, h0, h1, h2, h3, hb⟩ := hS
          go_simp
          exact hK.out _ _ ⟨⟨hE, hM, hA, hB, h0, h1, h2, h3, hb⟩, trivial, rfl⟩
      · rintro v u ⟨hE, hM, hA, hB, h0, h1, h2, h3, hb⟩ hR
        replace h0 : Blk u w.heap.size [.int .i64 0, .int .i64 (n : Int)] 33 := h0
        replace h1 : Blk u (w.heap.size + 1) [.int .i64 (n : Int), .int .i64 (n : Int)] 33 := h1
        replace h2 : Blk u (w.heap.size + 1 + 1) [.slice A1 D.secs.length c1, .slice B1 D.pend.length e1, .bool D.off, .int .i64 D.fuse] 28 := h2
        replace h3 : Blk u (w.heap.size + 1 + 1 + 1) [.int .u64 (x : Int), .string S] 36 := h3
        simp only [holdAll, List.size_toArray, List.length_cons, List.length_nil, Nat.reduceAdd, rel, List.getD_cons_zero, List.getD_cons_succ] at hR
        obtain ⟨_, h8⟩ := hR
        simp only [h8]
        clear h8
        go_wp2
        have r00 := h0.cell 0
        have r01 := h0.cell 1
        have r10 := h1.cell 0
        have r11 := h1.cell 1
        have r20 := h2.cell 0
        have r21 := h2.cell 1
        have r22 := h2.cell 2
        have r23 := h2.cell 3
        have r30 := h3.cell 0
        have r31 := h3.cell 1
        refine bodyPost_ret (v := .tuple #[.agg #[.int .i64 0, .int .i64 (n : Int)], .agg #[.int .i64 (n : Int), .int .i64 (n : Int)], .agg #[.slice A1 D.secs.length c1, .slice B1 D.pend.length e1, .bool D.off, .int .i64 D.fuse], .agg #[.int .u64 (x : Int), .string S], .bool true]) (by simp [results, Try.results21, go_sem, r00, r01, r10, r11, r20, r21, r22, r23, r30, r31]) rfl ?_
        exact ⟨⟨D, x, j, S, true, A1, c1, B1, e1, rfl, hE.tx, hE.wr, hE.l1, hE.l2, hE.f1, hE.f2, fun _ => ⟨n, rfl, HL.out, by omega, h100, HFU.out⟩⟩, hb⟩
    obtain ⟨pb, po, rfl, hp⟩ := Texts.at_ (Lies.below hl hb) hlt
    obtain ⟨p, HP⟩ := named l[k]
    rw [← HP.out] at hp
    have hlt' : (k : Int) < (l.length : Int) := by omega
    have hk0 : (0 : Int) ≤ (k : Int) := by omega
    obtain ⟨q, HQ⟩ := named (k + 1)
    have hwk : IntKind.u64.wrap (k : Int) = (k : Int) := wrap_u64_nat _ (by omega)
    have hsq : (k : Int) + 1 = (q : Int) := by rw [HQ.out]; omega
    have hwq : IntKind.u64.wrap (q : Int) = (q : Int) := wrap_u64_nat _ (by rw [HQ.out]; omega)
    have hst := hL.step (x := ⟨q, p.data.toList⟩) [] (by show x < q; rw [HQ.out]; omega) (by show q < 18446744073709551616; rw [HQ.out]; omega)
    have hsv := fun W v hv => slSave_w D (n := n) (by omega) q p W v hv
    obtain ⟨D5, HD5⟩ := named (saveR D 0 n n n ⟨q, p.data.toList⟩).1
    obtain ⟨E5, HE5⟩ := named (saveR D 0 n n n ⟨q, p.data.toList⟩).2
    rw [← HD5.out, ← HE5.out] at hst
    simp only [← HD5.out, ← HE5.out] at hsv
    have hst' : (E5 = 0 ∧ SlOn D5 n ⟨q, p.data.toList⟩ (1 - j) ∧ D5.fuse = -1) ∨ ((E5 = 17 ∨ E5 = 3) ∧ D5 = D) := by
      rcases hst with ⟨a, b, _, c⟩ | ⟨_, a, _⟩ | h
      · exact .inl ⟨a, b, c hfu⟩
      · exact absurd hfu a
      · exact .inr h
    have HST := hide hst'
    have HL := hide hL
    have HFU := hide hfu
    clear HD5 HE5 hst hst' hL hfu HP
    have kf := Blk.new wr [.int .u64 (q : Int), .string p] 36
    have hFN : wr.heap.size ≠ N := by omega
    have hFM : wr.heap.size ≠ N + 1 := by omega
    have hFw : w.heap.size + 1 + 1 + 1 + 1 + 1 + 1 ≤ wr.heap.size := by omega
    replace Bd := Bd.alloc (.cells #[.int .u64 (q : Int), .string p] 36)
    replace km := km.alloc (.cells #[.int .u64 (q : Int), .string p] 36)
    replace k0 := k0.alloc (.cells #[.int .u64 (q : Int), .string p] 36)
    replace k1 := k1.alloc (.cells #[.int .u64 (q : Int), .string p] 36)
    replace k2 := k2.alloc (.cells #[.int .u64 (q : Int), .string p] 36)
    replace k3 := k3.alloc (.cells #[.int .u64 (q : Int), .string p] 36)
    replace kA := kA.alloc (.cells #[.int .u64 (q : Int), .string p] 36)
    replace kB := kB.alloc (.cells #[.int .u64 (q : Int), .string p] 36)
    replace hb := bt hb (below_alloc _ (.cells #[.int .u64 (q : Int), .string p] 36))
    go_upto_region 10 with fail
    clear hp hsq hwq hwk hk0 hlt'
    obtain ⟨F, HF⟩ := named wr.heap.size
    obtain ⟨W2, HW2⟩ := named (wr.alloc (.cells #[.int .u64 (q : Int), .string p] 36))
    rw [← HF.out] at kf hFN hFM hFw hNlt hMlt ⊢
    rw [← HW2.out] at kf Bd km k0 k1 k2 k3 kA kB hb ⊢
    clear HF HW2
    have bN := Bd.blk
    have xd := Bd.blk.cell
    have xa := kA.cell
    have xb := kB.cell
    have xf := kf.cell
    go_wp2_with fail
    clear xd xa xb xf
    refine (hsv _ _ Bd.is).mono ?_
    rintro e w5 ⟨v5, rfl, ⟨A5, c5, B5, e5, rfl, g1, g2, g3, g4, g5, g6⟩, hb5⟩
    have Be := Box.new w5 ⟨A5, c5, B5, e5, rfl, g1, g2, g3, g4, g5, g6⟩
    have hEF : F < w5.heap.size := by have h1 := hb5.size; have h2 := kf.lt; omega
    replace bN := (bN.below hb5).alloc (.cells #[.slice A5 D5.secs.length c5, .slice B5 D5.pend.length e5, .bool D5.off, .int .i64 D5.fuse] 28)
    replace Bd := (Bd.below hb5).alloc (.cells #[.slice A5 D5.secs.length c5, .slice B5 D5.pend.length e5, .bool D5.off, .int .i64 D5.fuse] 28)
    replace kf := (kf.below hb5).alloc (.cells #[.slice A5 D5.secs.length c5, .slice B5 D5.pend.length e5, .bool D5.off, .int .i64 D5.fuse] 28)
    replace km := (km.below hb5).alloc (.cells #[.slice A5 D5.secs.length c5, .slice B5 D5.pend.length e5, .bool D5.off, .int .i64 D5.fuse] 28)
    replace k0 := (k0.below hb5).alloc (.cells #[.slice A5 D5.secs.length c5, .slice B5 D5.pend.length e5, .bool D5.off, .int .i64 D5.fuse] 28)
    replace k1 := (k1.below hb5).alloc (.cells #[.slice A5 D5.secs.length c5, .slice B5 D5.pend.length e5, .bool D5.off, .int .i64 D5.fuse] 28)
    replace k2 := (k2.below hb5).alloc (.cells #[.slice A5 D5.secs.length c5, .slice B5 D5.pend.length e5, .bool D5.off, .int .i64 D5.fuse] 28)
    replace k3 := (k3.below hb5).alloc (.cells #[.slice A5 D5.secs.length c5, .slice B5 D5.pend.length e5, .bool D5.off, .int .i64 D5.fuse] 28)
    replace kA := (kA.below hb5).alloc (.cells #[.slice A5 D5.secs.length c5, .slice B5 D5.pend.length e5, .bool D5.off, .int .i64 D5.fuse] 28)
    replace kB := (kB.below hb5).alloc (.cells #[.slice A5 D5.secs.length c5, .slice B5 D5.pend.length e5, .bool D5.off, .int .i64 D5.fuse] 28)
    replace hb := bt (bt hb hb5) (below_alloc w5 (.cells #[.slice A5 D5.secs.length c5, .slice B5 D5.pend.length e5, .bool D5.off, .int .i64 D5.fuse] 28))
    clear hsv hb5 g1 g2 g3 g4 g5 g6
    go_upto_region 11 with fail
    obtain ⟨E, HEb⟩ := named w5.heap.size
    obtain ⟨W5, HW5⟩ := named (w5.alloc (.cells #[.slice A5 D5.secs.length c5, .slice B5 D5.pend.length e5, .bool D5.off, .int .i64 D5.fuse] 28))
    rw [← HEb.out] at Be hEF ⊢
    rw [← HW5.out] at bN Be Bd kf km k0 k1 k2 k3 kA kB hb ⊢
    clear HEb HW5
    rcases HST.out with ⟨hE, hL5, hf5⟩ | ⟨hE, hD⟩
    · subst hE
      have HL5 := hide hL5
      have HF5 := hide hf5
      clear HST hL5 hf5 HL HFU
      go_wp2_with fail
      refine region_flatS _ (fun L u => Box u E A5 c5 B5 e5 D5 ∧ Blk u F [.int .u64 (q : Int), .string p] 36 ∧ Blk u N (cond (L 2) [.slice A5 D5.secs.length c5, .slice B5 D5.pend.length e5, .bool D5.off, .int .i64 D5.fuse] [.slice A1 D.secs.length c1, .slice B1 D.pend.length e1, .bool D.off, .int .i64 D.fuse]) 28 ∧ Blk u (N + 1) (cond (L 3) [.int .u64 (q : Int), .string p] [.int .u64 (x : Int), .string S]) 36 ∧ Blk u w.heap.size [.int .i64 0, .int .i64 0] 33 ∧ Blk u (w.heap.size + 1) [.int .i64 0, .int .i64 0] 33 ∧ Blk u (w.heap.size + 1 + 1) [.slice none 0 0, .slice none 0 0, .bool false, .int .i64 0] 28 ∧ Blk u (w.heap.size + 1 + 1 + 1) [.int .u64 0, .string ⟨#[]⟩] 36 ∧ Blk u (w.heap.size + 1 + 1 + 1 + 1) [.int .i64 0, .int .i64 (n : Int)] 33 ∧ Blk u (w.heap.size + 1 + 1 + 1 + 1 + 1) [.int .i64 (n : Int), .int .i64 (n : Int)] 33 ∧ Below w.heap.size w u) (fun _ _ _ => True)
        (fun _ => rel [fun v _ => v = .agg #[.slice A5 D5.secs.length c5, .slice B5 D5.pend.length e5, .bool D5.off, .int .i64 D5.fuse],
          fun v _ => v = .agg #[.int .u64 (q : Int), .string p],
          fun _ _ => True,
          fun _ _ => True])
        (by kernel_rfl) (by kernel_rfl) (fun v => by simp only [putsV, Act.put, List.toList_toArray, List.setIfInBounds_toArray, List.set_cons_zero, List.set_cons_succ, Nat.reduceAdd, Nat.zero_add]; rfl) ?_ (fun _ _ _ _ _ h => h) ⟨Be.drew, kf.drew, bN.drew, km.drew, k0.drew, k1.drew, k2.drew, k3.drew, kA.drew, kB.drew, hb.drew⟩ ?_ (fun _ _ _ _ _ _ h => h) (fun L L' u hL h => by rw [← hL 2 (by decide)]; rw [← hL 3 (by decide)]; exact h) ?_
      · intro i L j x u u' _ _ _ h
        match j with
        | 0 => exact h
        | 1 => exact h
        | 2 => exact h
        | 3 => exact h
        | _ + 4 => trivial
      · refine ⟨?_, ?_, ?_, ?_, trivial⟩
        · intro L hL hcl v u hS hd K' hK
          simp only [waited, List.toList_toArray, Region.binds, rel, List.getD_cons_zero, List.getD_cons_succ, true_imp_iff, and_true] at hd
          simp only [rel, List.getD_cons_zero, List.getD_cons_succ, Act.put, List.setIfInBounds_toArray, List.set_cons_zero, List.set_cons_succ] at hK
          try simp only [hd] at hK
          obtain ⟨hE, hF, hN, hM, h0, h1, h2, h3, hA, hB, hb⟩ := hS
          have x0 := hE.blk.cell
          go_simp
          exact hK.out _ _ ⟨⟨hE, hF, hN, hM, h0, h1, h2, h3, hA, hB, hb⟩, trivial, rfl⟩
        · intro L hL hcl v u hS hd K' hK
          simp only [waited, List.toList_toArray, Region.binds, rel, List.getD_cons_zero, List.getD_cons_succ, true_imp_iff, and_true] at hd
          simp only [rel, List.getD_cons_zero, List.getD_cons_succ, Act.put, List.setIfInBounds_toArray, List.set_cons_zero, List.set_cons_succ] at hK
          try simp only [hd] at hK
          obtain ⟨hE, hF, hN, hM, h0, h1, h2, h3, hA, hB, hb⟩ := hS
          have x0 := hF.cell
          go_simp
          exact hK.out _ _ ⟨⟨hE, hF, hN, hM, h0, h1, h2, h3, hA, hB, hb⟩, trivial, rfl⟩
        · intro L hL hcl v u hS hd K' hK
          simp only [waited, List.toList_toArray, Region.binds, rel, List.getD_cons_zero, List.getD_cons_succ, true_imp_iff, and_true] at hd
          simp only [rel, List.getD_cons_zero, List.getD_cons_succ, Act.put, List.setIfInBounds_toArray, List.set_cons_zero, List.set_cons_succ] at hK
          try simp only [hd] at hK
          obtain ⟨hE, hF, hN, hM, h0, h1, h2, h3, hA, hB, hb⟩ := hS
          have hX : Blk u N [.slice A1 D.secs.length c1, .slice B1 D.pend.length e1, .bool D.off, .int .i64 D.fuse] 28 := by have h := hN; rw [hL] at h; exact h
          have x0 := hX.cell 0
          have x1 := hX.cell 1
          have x2 := hX.cell 2
          have x3 := hX.cell 3
          have z0 := hX.free 0
          have z1 := hX.free 1
          have z2 := hX.free 2
          have z3 := hX.free 3
          first | (obtain ⟨e0, _⟩ := hd) | (have e0 := hd)
          try simp only [e0] at hK ⊢
          go_simp
          exact hK.out undef _ ⟨⟨hE.far4 hX (by omega) (.slice A5 D5.secs.length c5) (.slice B5 D5.pend.length e5) (.bool D5.off) (.int .i64 D5.fuse), hF.far4 (by omega) (.slice A5 D5.secs.length c5) (.slice B5 D5.pend.length e5) (.bool D5.off) (.int .i64 D5.fuse), hX.set4 (.slice A5 D5.secs.length c5) (.slice B5 D5.pend.length e5) (.bool D5.off) (.int .i64 D5.fuse), hM.far4 (by omega) (.slice A5 D5.secs.length c5) (.slice B5 D5.pend.length e5) (.bool D5.off) (.int .i64 D5.fuse), h0.far4 (by omega) (.slice A5 D5.secs.length c5) (.slice B5 D5.pend.length e5) (.bool D5.off) (.int .i64 D5.fuse), h1.far4 (by omega) (.slice A5 D5.secs.length c5) (.slice B5 D5.pend.length e5) (.bool D5.off) (.int .i64 D5.fuse), h2.far4 (by omega) (.slice A5 D5.secs.length c5) (.slice B5 D5.pend.length e5) (.bool D5.off) (.int .i64 D5.fuse), h3.far4 (by omega) (.slice A5 D5.secs.length c5) (.slice B5 D5.pend.length e5) (.bool D5.off) (.int .i64 D5.fuse), hA.far4 (by omega) (.slice A5 D5.secs.length c5) (.slice B5 D5.pend.length e5) (.bool D5.off) (.int .i64 D5.fuse), hB.far4 (by omega) (.slice A5 D5.secs.length c5) (.slice B5 D5.pend.length e5) (.bool D5.off) (.int .i64 D5.fuse), below4 hb (by omega) (.slice A5 D5.secs.length c5) (.slice B5 D5.pend.length e5) (.bool D5.off) (.int .i64 D5.fuse)⟩, trivial, trivial⟩
        · intro L hL hcl v u hS hd K' hK
          simp only [waited, List.toList_toArray, Region.binds, rel, List.getD_cons_zero, List.getD_cons_succ, true_imp_iff, and_true] at hd
          simp only [rel, List.getD_cons_zero, List.getD_cons_succ, Act.put, List.setIfInBounds_toArray, List.set_cons_zero, List.set_cons_succ] at hK
          try simp only [hd] at hK
          obtain ⟨hE, hF, hN, hM, h0, h1, h2, h3, hA, hB, hb⟩ := hS
          have hX : Blk u (N + 1) [.int .u64 (x : Int), .string S] 36 := by have h := hM; rw [hL] at h; exact h
          have x0 := hX.cell 0
          have x1 := hX.cell 1
          have z0 := hX.free 0
          have z1 := hX.free 1
          first | (obtain ⟨e0, _⟩ := hd) | (have e0 := hd)
          try simp only [e0] at hK ⊢
          go_simp
          exact hK.out undef _ ⟨⟨hE.img HL5.out hX (by omega) (.int .u64 (q : Int)) (.string p), hF.far2 (by omega) (.int .u64 (q : Int)) (.string p), hN.far2 (by omega) (.int .u64 (q : Int)) (.string p), hX.set2 (.int .u64 (q : Int)) (.string p), h0.far2 (by omega) (.int .u64 (q : Int)) (.string p), h1.far2 (by omega) (.int .u64 (q : Int)) (.string p), h2.far2 (by omega) (.int .u64 (q : Int)) (.string p), h3.far2 (by omega) (.int .u64 (q : Int)) (.string p), hA.far2 (by omega) (.int .u64 (q : Int)) (.string p), hB.far2 (by omega) (.int .u64 (q : Int)) (.string p), below2 hb (by omega) (.int .u64 (q : Int)) (.string p)⟩, trivial, trivial⟩
      · rintro v u ⟨hE, hF, hN, hM, h0, h1, h2, h3, hA, hB, hb⟩ hR
        replace hN : Blk u N [.slice A5 D5.secs.length c5, .slice B5 D5.pend.length e5, .bool D5.off, .int .i64 D5.fuse] 28 := hN
        replace hM : Blk u (N + 1) [.int .u64 (q : Int), .string p] 36 := hM
        simp only [holdAll, List.size_toArray, List.length_cons, List.length_nil, Nat.reduceAdd, rel, List.getD_cons_zero, List.getD_cons_succ] at hR
        have hBox := hE.at_ hN
        clear hR
        go_wp2
        go_roundw
        case rel => exact ⟨k + 1, D5, q, 1 - j, p, A5, c5, B5, e5, by omega, by first | rfl | go_num, by rw [HQ.out]; omega, ⟨HL5.out, HF5.out⟩, hBox, hM, h0, h1, h2, h3, hA, hB, hb⟩
        case measure => simp [intOf]; omega
    · subst hD
      rcases hE with rfl | rfl
      · clear HST
        go_wp2
        go_roundw
        case rel => exact ⟨k + 1, D5, x, j, S, A1, c1, B1, e1, by omega, by first | rfl | go_num, by omega, ⟨HL.out, HFU.out⟩, Bd, km, k0, k1, k2, k3, kA, kB, hb⟩
        case measure => simp [intOf]; omega
      · clear HST
        go_wp2
        go_roundw
        case rel => exact ⟨k + 1, D5, x, j, S, A1, c1, B1, e1, by omega, by first | rfl | go_num, by omega, ⟨HL.out, HFU.out⟩, Bd, km, k0, k1, k2, k3, kA, kB, hb⟩
        case measure => simp [intOf]; omega
end Go.Proofs.Ytpfbmmeipojodaa
