/- lictorref19.WriteAsk of a query. -/
import Derived.Test.YtiodfbbgbnbdpaaRefWA
import Derived.Test.YtiodfbbgbnbdpaaGD
namespace Go.Proofs.Ytiodfbbgbnbdpaa
set_option linter.unusedSimpArgs false
set_option linter.unusedVariables false
open Go.RowKit
open Crc
theorem seven_cell {w : World} {g : Nat} {s1 s2 s3 s4 s5 s6 s7 : ByteArray} {T : TypeId} (h : Blk w g [.string s1, .string s2, .string s3, .string s4, .string s5, .string s6, .string s7] T) (j : Nat) (hj : j < 7) : w.cell? ⟨g, j, none⟩ = some (.string ([s1, s2, s3, s4, s5, s6, s7].getD j e0)) := by
  rw [h.cell]
  match j, hj with
  | 0, _ | 1, _ | 2, _ | 3, _ | 4, _ | 5, _ | 6, _ => rfl
theorem longs_of (l : List ByteArray) (j : Nat) (hj : j < l.length) (h : decide (2048 < (l.getD j e0).size) = true) : longs l = true := by
  rw [List.getD_eq_getElem?_getD, List.getElem?_eq_getElem hj] at h
  exact List.any_eq_true.2 ⟨l[j], List.getElem_mem hj, h⟩
set_option maxRecDepth 100000 in
set_option maxHeartbeats 2000000 in
theorem refWA_5 (an : Nat) (ac : UInt8) (ai ax au aw : ByteArray) (av : Nat) (s1 s2 s3 s4 s5 s6 s7 : ByteArray) (F : List UInt8 × Int) (q : Bool) (w : World) (lg : Bool) (hlg : lg = longs [s1, s2, s3, s4, s5, s6, s7])
    (hq : ∀ W : World, (binOp .neq 30 (.agg #[.int .u8 5, .int .u64 (an : Int), .int .u8 (ac.toNat : Int), .string ai, .string ax, .string au, .string aw, .int .u64 (av : Int), .string s1, .string s2, .string s3, .string s4, .string s5, .string s6, .string s7]) (.agg #[.int .u8 5, .int .u64 0, .int .u8 0, .string ⟨#[]⟩, .string ⟨#[]⟩, .string ⟨#[]⟩, .string ⟨#[]⟩, .int .u64 0, .string s1, .string s2, .string s3, .string s4, .string s5, .string s6, .string s7])).run Try.prog W = .ok (.bool q) W) (HF : Hid ((lg = true → F = ([], 14)) ∧ (lg = false → q = true → F = ([], 14)) ∧ (lg = false → q = false → F = ([5] ++ txts [s1, s2, s3, s4, s5, s6, s7], 0)))) :
    Calls Try.prog 10 #[.agg #[.int .u8 5, .int .u64 (an : Int), .int .u8 (ac.toNat : Int), .string ai, .string ax, .string au, .string aw, .int .u64 (av : Int), .string s1, .string s2, .string s3, .string s4, .string s5, .string s6, .string s7]] w fun e w' => e = .returned (.tuple #[.string (str F.1), .int .i64 F.2]) ∧ Below w.heap.size w w' := by
  have kA := ((Blk.new w [.int .u8 5, .int .u64 (an : Int), .int .u8 (ac.toNat : Int), .string ai, .string ax, .string au, .string aw, .int .u64 (av : Int), .string s1, .string s2, .string s3, .string s4, .string s5, .string s6, .string s7] 30).alloc (.cells #[.int .u8 5] 5)).alloc (.cells #[.int .u8 5, .int .u64 0, .int .u8 0, .string ⟨#[]⟩, .string ⟨#[]⟩, .string ⟨#[]⟩, .string ⟨#[]⟩, .int .u64 0, .string ⟨#[]⟩, .string ⟨#[]⟩, .string ⟨#[]⟩, .string ⟨#[]⟩, .string ⟨#[]⟩, .string ⟨#[]⟩, .string ⟨#[]⟩] 30)
  have hcv := blk_string' (k := 5) (Blk.new (w.alloc (.cells #[.int .u8 5, .int .u64 (an : Int), .int .u8 (ac.toNat : Int), .string ai, .string ax, .string au, .string aw, .int .u64 (av : Int), .string s1, .string s2, .string s3, .string s4, .string s5, .string s6, .string s7] 30)) [.int .u8 5] 5)
  rw [show (w.alloc (.cells #[.int .u8 5, .int .u64 (an : Int), .int .u8 (ac.toNat : Int), .string ai, .string ax, .string au, .string aw, .int .u64 (av : Int), .string s1, .string s2, .string s3, .string s4, .string s5, .string s6, .string s7] 30)).heap.size = w.heap.size + 1 by simp] at hcv
  have kB := Blk.new ((w.alloc (.cells #[.int .u8 5, .int .u64 (an : Int), .int .u8 (ac.toNat : Int), .string ai, .string ax, .string au, .string aw, .int .u64 (av : Int), .string s1, .string s2, .string s3, .string s4, .string s5, .string s6, .string s7] 30)).alloc (.cells #[.int .u8 5] 5)) [.int .u8 5, .int .u64 0, .int .u8 0, .string ⟨#[]⟩, .string ⟨#[]⟩, .string ⟨#[]⟩, .string ⟨#[]⟩, .int .u64 0, .string ⟨#[]⟩, .string ⟨#[]⟩, .string ⟨#[]⟩, .string ⟨#[]⟩, .string ⟨#[]⟩, .string ⟨#[]⟩, .string ⟨#[]⟩] 30
  rw [show ((w.alloc (.cells #[.int .u8 5, .int .u64 (an : Int), .int .u8 (ac.toNat : Int), .string ai, .string ax, .string au, .string aw, .int .u64 (av : Int), .string s1, .string s2, .string s3, .string s4, .string s5, .string s6, .string s7] 30)).alloc (.cells #[.int .u8 5] 5)).heap.size = w.heap.size + 1 + 1 by simp] at kB
  have hb := bt (bt (below_alloc w (.cells #[.int .u8 5, .int .u64 (an : Int), .int .u8 (ac.toNat : Int), .string ai, .string ax, .string au, .string aw, .int .u64 (av : Int), .string s1, .string s2, .string s3, .string s4, .string s5, .string s6, .string s7] 30)) (below_alloc _ (.cells #[.int .u8 5] 5))) (below_alloc _ (.cells #[.int .u8 5, .int .u64 0, .int .u8 0, .string ⟨#[]⟩, .string ⟨#[]⟩, .string ⟨#[]⟩, .string ⟨#[]⟩, .int .u64 0, .string ⟨#[]⟩, .string ⟨#[]⟩, .string ⟨#[]⟩, .string ⟨#[]⟩, .string ⟨#[]⟩, .string ⟨#[]⟩, .string ⟨#[]⟩] 30))
  have xA := kA.cell
  go_enter Try.func10, Try.ntmps10
  go_upto_region 3 with fail
  obtain ⟨w1, hw1⟩ := named (((w.alloc (.cells #[.int .u8 5, .int .u64 (an : Int), .int .u8 (ac.toNat : Int), .string ai, .string ax, .string au, .string aw, .int .u64 (av : Int), .string s1, .string s2, .string s3, .string s4, .string s5, .string s6, .string s7] 30)).alloc (.cells #[.int .u8 5] 5)).alloc (.cells #[.int .u8 5, .int .u64 0, .int .u8 0, .string ⟨#[]⟩, .string ⟨#[]⟩, .string ⟨#[]⟩, .string ⟨#[]⟩, .int .u64 0, .string ⟨#[]⟩, .string ⟨#[]⟩, .string ⟨#[]⟩, .string ⟨#[]⟩, .string ⟨#[]⟩, .string ⟨#[]⟩, .string ⟨#[]⟩] 30))
  rw [← hw1.out] at kA kB hb ⊢
  clear hw1 xA hcv
  have hG : ∀ j, j < 7 → decide (2048 < ([s1, s2, s3, s4, s5, s6, s7].getD j e0).size) = true → lg = true := fun j hj h => hlg.trans (longs_of [s1, s2, s3, s4, s5, s6, s7] j hj h)
  have HG := hide hG
  have HLG := hide hlg
  obtain ⟨F0, HF0⟩ := named ([5] ++ txts [s1, s2, s3, s4, s5, s6, s7])
  clear hG hlg
  obtain ⟨U, hU⟩ := named (str [(5 : UInt8)])
  have HU : Hid (U.size ≤ 9 + 0 * 2052 ∧ U = str [5]) := ⟨by rw [hU.out]; decide, hU.out⟩
  rw [← hU.out]
  clear hU
  have xA := kA.cell
  go_wp2_with fail
  clear xA
  refine region_flatS _ (fun L u => Blk u w.heap.size [.int .u8 5, .int .u64 (an : Int), .int .u8 (ac.toNat : Int), .string ai, .string ax, .string au, .string aw, .int .u64 (av : Int), .string s1, .string s2, .string s3, .string s4, .string s5, .string s6, .string s7] 30 ∧ Blk u (w.heap.size + 1 + 1) [.int .u8 5, .int .u64 0, .int .u8 0, .string ⟨#[]⟩, .string ⟨#[]⟩, .string ⟨#[]⟩, .string ⟨#[]⟩, .int .u64 0, cond (L 9) (.string s1) (.string ⟨#[]⟩), cond (L 9) (.string s2) (.string ⟨#[]⟩), cond (L 11) (.string s3) (.string ⟨#[]⟩), cond (L 11) (.string s4) (.string ⟨#[]⟩), cond (L 13) (.string s5) (.string ⟨#[]⟩), cond (L 13) (.string s6) (.string ⟨#[]⟩), cond (L 15) (.string s7) (.string ⟨#[]⟩)] 30 ∧ Below w.heap.size w u) (fun _ _ _ => True)
    (fun _ => rel [fun v _ => v = .pointer (some ⟨w.heap.size, 8, none⟩),
      fun v _ => v = .agg #[.string s1, .string s2],
      fun v _ => v = .pointer (some ⟨w.heap.size, 10, none⟩),
      fun v _ => v = .agg #[.string s3, .string s4],
      fun v _ => v = .pointer (some ⟨w.heap.size, 12, none⟩),
      fun v _ => v = .agg #[.string s5, .string s6],
      fun v _ => v = .pointer (some ⟨w.heap.size, 14, none⟩),
      fun v _ => v = .string s7,
      fun v _ => v = .pointer (some ⟨w.heap.size + 1 + 1, 8, none⟩),
      fun _ _ => True,
      fun v _ => v = .pointer (some ⟨w.heap.size + 1 + 1, 10, none⟩),
      fun _ _ => True,
      fun v _ => v = .pointer (some ⟨w.heap.size + 1 + 1, 12, none⟩),
      fun _ _ => True,
      fun v _ => v = .pointer (some ⟨w.heap.size + 1 + 1, 14, none⟩),
      fun _ _ => True])
    (by kernel_rfl) (by kernel_rfl) (fun v => by simp only [putsV, Act.put, List.toList_toArray, List.setIfInBounds_toArray, List.set_cons_zero, List.set_cons_succ, Nat.reduceAdd, Nat.zero_add]; rfl) ?_ (fun _ _ _ _ _ h => h) ⟨kA, kB, hb.drew⟩ ?_ (fun _ _ _ _ _ _ h => h) (fun L L' u hL h => by rw [← hL 9 (by decide)]; rw [← hL 11 (by decide)]; rw [← hL 13 (by decide)]; rw [← hL 15 (by decide)]; exact h) ?_
  · intro i L j x u u' _ _ hG h
    match j with
    | 0 => exact h
    | 1 => exact h
    | 2 => exact h
    | 3 => exact h
    | 4 => exact h
    | 5 => exact h
    | 6 => exact h
    | 7 => exact h
    | 8 => exact h
    | 9 => exact h
    | 10 => exact h
    | 11 => exact h
    | 12 => exact h
    | 13 => exact h
    | 14 => exact h
    | 15 => exact h
    | _ + 16 => trivial
  · refine ⟨?_, ?_, ?_, ?_, ?_, ?_, ?_, ?_, ?_, ?_, ?_, ?_, ?_, ?_, ?_, ?_, trivial⟩
    · intro L hL hcl v u hS hd K' hK
      simp only [waited, List.toList_toArray, Region.binds, rel, List.getD_cons_zero, List.getD_cons_succ, true_imp_iff, and_true] at hd
      simp only [rel, List.getD_cons_zero, List.getD_cons_succ, Act.put, List.setIfInBounds_toArray, List.set_cons_zero, List.set_cons_succ] at hK
      try simp only [hd] at hK
      go_simp
      exact hK.out _ _ ⟨hS, trivial, rfl⟩
    · intro L hL hcl v u hS hd K' hK
      simp only [waited, List.toList_toArray, Region.binds, rel, List.getD_cons_zero, List.getD_cons_succ, true_imp_iff, and_true] at hd
      simp only [rel, List.getD_cons_zero, List.getD_cons_succ, Act.put, List.setIfInBounds_toArray, List.set_cons_zero, List.set_cons_succ] at hK
      try simp only [hd] at hK
      have x0 := hS.1.cell
      go_simp
      exact hK.out _ _ ⟨hS, trivial, rfl⟩
    · intro L hL hcl v u hS hd K' hK
      simp only [waited, List.toList_toArray, Region.binds, rel, List.getD_cons_zero, List.getD_cons_succ, true_imp_iff, and_true] at hd
      simp only [rel, List.getD_cons_zero, List.getD_cons_succ, Act.put, List.setIfInBounds_toArray, List.set_cons_zero, List.set_cons_succ] at hK
      try simp only [hd] at hK
      go_simp
      exact hK.out _ _ ⟨hS, trivial, rfl⟩
    · intro L hL hcl v u hS hd K' hK
      simp only [waited, List.toList_toArray, Region.binds, rel, List.getD_cons_zero, List.getD_cons_succ, true_imp_iff, and_true] at hd
      simp only [rel, List.getD_cons_zero, List.getD_cons_succ, Act.put, List.setIfInBounds_toArray, List.set_cons_zero, List.set_cons_succ] at hK
      try simp only [hd] at hK
      have x0 := hS.1.cell
      go_simp
      exact hK.out _ _ ⟨hS, trivial, rfl⟩
    · intro L hL hcl v u hS hd K' hK
      simp only [waited, List.toList_toArray, Region.binds, rel, List.getD_cons_zero, List.getD_cons_succ, true_imp_iff, and_true] at hd
      simp only [rel, List.getD_cons_zero, List.getD_cons_succ, Act.put, List.setIfInBounds_toArray, List.set_cons_zero, List.set_cons_succ] at hK
      try simp only [hd] at hK
      go_simp
      exact hK.out _ _ ⟨hS, trivial, rfl⟩
    · intro L hL hcl v u hS hd K' hK
      simp only [waited, List.toList_toArray, Region.binds, rel, List.getD_cons_zero, List.getD_cons_succ, true_imp_iff, and_true] at hd
      simp only [rel, List.getD_cons_zero, List.getD_cons_succ, Act.put, List.setIfInBounds_toArray, List.set_cons_zero, List.set_cons_succ] at hK
      try simp only [hd] at hK
      have x0 := hS.1.cell
      go_simp
      exact hK.out _ _ ⟨hS, trivial, rfl⟩
    · intro L hL hcl v u hS hd K' hK
      simp only [waited, List.toList_toArray, Region.binds, rel, List.getD_cons_zero, List.getD_cons_succ, true_imp_iff, and_true] at hd
      simp only [rel, List.getD_cons_zero, List.getD_cons_succ, Act.put, List.setIfInBounds_toArray, List.set_cons_zero, List.set_cons_succ] at hK
      try simp only [hd] at hK
      go_simp
      exact hK.out _ _ ⟨hS, trivial, rfl⟩
    · intro L hL hcl v u hS hd K' hK
      simp only [waited, List.toList_toArray, Region.binds, rel, List.getD_cons_zero, List.getD_cons_succ, true_imp_iff, and_true] at hd
      simp only [rel, List.getD_cons_zero, List.getD_cons_succ, Act.put, List.setIfInBounds_toArray, List.set_cons_zero, List.set_cons_succ] at hK
      try simp only [hd] at hK
      have x0 := hS.1.cell
      go_simp
      exact hK.out _ _ ⟨hS, trivial, rfl⟩
    · intro L hL hcl v u hS hd K' hK
      simp only [waited, List.toList_toArray, Region.binds, rel, List.getD_cons_zero, List.getD_cons_succ, true_imp_iff, and_true] at hd
      simp only [rel, List.getD_cons_zero, List.getD_cons_succ, Act.put, List.setIfInBounds_toArray, List.set_cons_zero, List.set_cons_succ] at hK
      try simp only [hd] at hK
      go_simp
      exact hK.out _ _ ⟨hS, trivial, rfl⟩
    · intro L hL hcl v u hS hd K' hK
      simp only [waited, List.toList_toArray, Region.binds, rel, List.getD_cons_zero, List.getD_cons_succ, true_imp_iff, and_true] at hd
      simp only [rel, List.getD_cons_zero, List.getD_cons_succ, Act.put, List.setIfInBounds_toArray, List.set_cons_zero, List.set_cons_succ] at hK
      try simp only [hd] at hK
      have h1 := hS.2.1
      have x8 := h1.cell 8
      have x9 := h1.cell 9
      have f8 := h1.free 8
      have f9 := h1.free 9
      first | (obtain ⟨e0', _⟩ := hd) | (have e0' := hd)
      try simp only [e0'] at hK ⊢
      go_simp
      exact hK.out undef _ ⟨⟨((hS.1.far (p := ⟨w.heap.size + 1 + 1, 8, none⟩) (by show w.heap.size ≠ w.heap.size + 1 + 1; omega) (.string s1)).far (p := ⟨w.heap.size + 1 + 1, 9, none⟩) (by show w.heap.size ≠ w.heap.size + 1 + 1; omega) (.string s2)), ((hS.2.1.set 8 (.string s1)).set 9 (.string s2)), ((hS.2.2.setCell (p := ⟨w.heap.size + 1 + 1, 8, none⟩) (by show w.heap.size ≤ w.heap.size + 1 + 1; omega) (.string s1)).setCell (p := ⟨w.heap.size + 1 + 1, 9, none⟩) (by show w.heap.size ≤ w.heap.size + 1 + 1; omega) (.string s2))⟩, trivial, trivial⟩
    · intro L hL hcl v u hS hd K' hK
      simp only [waited, List.toList_toArray, Region.binds, rel, List.getD_cons_zero, List.getD_cons_succ, true_imp_iff, and_true] at hd
      simp only [rel, List.getD_cons_zero, List.getD_cons_succ, Act.put, List.setIfInBounds_toArray, List.set_cons_zero, List.set_cons_succ] at hK
      try simp only [hd] at hK
      go_simp
      exact hK.out _ _ ⟨hS, trivial, rfl⟩
    · intro L hL hcl v u hS hd K' hK
      simp only [waited, List.toList_toArray, Region.binds, rel, List.getD_cons_zero, List.getD_cons_succ, true_imp_iff, and_true] at hd
      simp only [rel, List.getD_cons_zero, List.getD_cons_succ, Act.put, List.setIfInBounds_toArray, List.set_cons_zero, List.set_cons_succ] at hK
      try simp only [hd] at hK
      have h1 := hS.2.1
      have x10 := h1.cell 10
      have x11 := h1.cell 11
      have f10 := h1.free 10
      have f11 := h1.free 11
      first | (obtain ⟨e0', _⟩ := hd) | (have e0' := hd)
      try simp only [e0'] at hK ⊢
      go_simp
      exact hK.out undef _ ⟨⟨((hS.1.far (p := ⟨w.heap.size + 1 + 1, 10, none⟩) (by show w.heap.size ≠ w.heap.size + 1 + 1; omega) (.string s3)).far (p := ⟨w.heap.size + 1 + 1, 11, none⟩) (by show w.heap.size ≠ w.heap.size + 1 + 1; omega) (.string s4)), ((hS.2.1.set 10 (.string s3)).set 11 (.string s4)), ((hS.2.2.setCell (p := ⟨w.heap.size + 1 + 1, 10, none⟩) (by show w.heap.size ≤ w.heap.size + 1 + 1; omega) (.string s3)).setCell (p := ⟨w.heap.size + 1 + 1, 11, none⟩) (by show w.heap.size ≤ w.heap.size + 1 + 1; omega) (.string s4))⟩, trivial, trivial⟩
    · intro L hL hcl v u hS hd K' hK
      simp only [waited, List.toList_toArray, Region.binds, rel, List.getD_cons_zero, List.getD_cons_succ, true_imp_iff, and_true] at hd
      simp only [rel, List.getD_cons_zero, List.getD_cons_succ, Act.put, List.setIfInBounds_toArray, List.set_cons_zero, List.set_cons_succ] at hK
      try simp only [hd] at hK
      go_simp
      exact hK.out _ _ ⟨hS, trivial, rfl⟩
    · intro L hL hcl v u hS hd K' hK
      simp only [waited, List.toList_toArray, Region.binds, rel, List.getD_cons_zero, List.getD_cons_succ, true_imp_iff, and_true] at hd
      simp only [rel, List.getD_cons_zero, List.getD_cons_succ, Act.put, List.setIfInBounds_toArray, List.set_cons_zero, List.set_cons_succ] at hK
      try simp only [hd] at hK
      have h1 := hS.2.1
      have x12 := h1.cell 12
      have x13 := h1.cell 13
      have f12 := h1.free 12
      have f13 := h1.free 13
      first | (obtain ⟨e0', _⟩ := hd) | (have e0' := hd)
      try simp only [e0'] at hK ⊢
      go_simp
      exact hK.out undef _ ⟨⟨((hS.1.far (p := ⟨w.heap.size + 1 + 1, 12, none⟩) (by show w.heap.size ≠ w.heap.size + 1 + 1; omega) (.string s5)).far (p := ⟨w.heap.size + 1 + 1, 13, none⟩) (by show w.heap.size ≠ w.heap.size + 1 + 1; omega) (.string s6)), ((hS.2.1.set 12 (.string s5)).set 13 (.string s6)), ((hS.2.2.setCell (p := ⟨w.heap.size + 1 + 1, 12, none⟩) (by show w.heap.size ≤ w.heap.size + 1 + 1; omega) (.string s5)).setCell (p := ⟨w.heap.size + 1 + 1, 13, none⟩) (by show w.heap.size ≤ w.heap.size + 1 + 1; omega) (.string s6))⟩, trivial, trivial⟩
    · intro L hL hcl v u hS hd K' hK
      simp only [waited, List.toList_toArray, Region.binds, rel, List.getD_cons_zero, List.getD_cons_succ, true_imp_iff, and_true] at hd
      simp only [rel, List.getD_cons_zero, List.getD_cons_succ, Act.put, List.setIfInBounds_toArray, List.set_cons_zero, List.set_cons_succ] at hK
      try simp only [hd] at hK
      go_simp
      exact hK.out _ _ ⟨hS, trivial, rfl⟩
    · intro L hL hcl v u hS hd K' hK
      simp only [waited, List.toList_toArray, Region.binds, rel, List.getD_cons_zero, List.getD_cons_succ, true_imp_iff, and_true] at hd
      simp only [rel, List.getD_cons_zero, List.getD_cons_succ, Act.put, List.setIfInBounds_toArray, List.set_cons_zero, List.set_cons_succ] at hK
      try simp only [hd] at hK
      have h1 := hS.2.1
      have x14 := h1.cell 14
      have f14 := h1.free 14
      first | (obtain ⟨e0', _⟩ := hd) | (have e0' := hd)
      try simp only [e0'] at hK ⊢
      go_simp
      exact hK.out undef _ ⟨⟨(hS.1.far (p := ⟨w.heap.size + 1 + 1, 14, none⟩) (by show w.heap.size ≠ w.heap.size + 1 + 1; omega) (.string s7)), (hS.2.1.set 14 (.string s7)), (hS.2.2.setCell (p := ⟨w.heap.size + 1 + 1, 14, none⟩) (by show w.heap.size ≤ w.heap.size + 1 + 1; omega) (.string s7))⟩, trivial, trivial⟩
  · rintro v u hS hR
    simp only [holdAll, List.size_toArray, List.length_cons, List.length_nil, Nat.reduceAdd, rel, List.getD_cons_zero, List.getD_cons_succ] at hR
    have kA5 := hS.1
    have kB5 : Blk u (w.heap.size + 1 + 1) [.int .u8 5, .int .u64 0, .int .u8 0, .string ⟨#[]⟩, .string ⟨#[]⟩, .string ⟨#[]⟩, .string ⟨#[]⟩, .int .u64 0, .string s1, .string s2, .string s3, .string s4, .string s5, .string s6, .string s7] 30 := hS.2.1
    have hb5 := hS.2.2
    clear hS hR
    obtain ⟨w5, hw5⟩ := named u
    rw [← hw5.out] at kA5 kB5 hb5 ⊢
    clear hw5
    have xA := kA5.cell
    have kT := Blk.new w5 [.string s1, .string s2, .string s3, .string s4, .string s5, .string s6, .string s7] 9
    have kA6 := kA5.alloc (.cells #[.string s1, .string s2, .string s3, .string s4, .string s5, .string s6, .string s7] 9)
    have kB6 := kB5.alloc (.cells #[.string s1, .string s2, .string s3, .string s4, .string s5, .string s6, .string s7] 9)
    have hb6 := bt hb5 (below_alloc w5 (.cells #[.string s1, .string s2, .string s3, .string s4, .string s5, .string s6, .string s7] 9))
    clear kA5 kB5 hb5
    go_upto_region 25 with fail
    go_loopw [4, 106] (fun s i wr => ∃ (j : Nat) (T : ByteArray), j ≤ 7 ∧ i = .int .i64 (j : Int) ∧ s = .string T ∧ Hid (T.size ≤ 9 + j * 2052 ∧ T = str ([5] ++ txts ([s1, s2, s3, s4, s5, s6, s7].take j)) ∧ longs ([s1, s2, s3, s4, s5, s6, s7].take j) = false) ∧ Below (w5.alloc (.cells #[.string s1, .string s2, .string s3, .string s4, .string s5, .string s6, .string s7] 9)).heap.size (w5.alloc (.cells #[.string s1, .string s2, .string s3, .string s4, .string s5, .string s6, .string s7] 9)) wr) (fun _ i _ => 7 - (intOf i).toNat)
    case atStart => exact ⟨0, U, by omega, rfl, rfl, ⟨HU.out.1, by rw [HU.out.2]; simp [txts], rfl⟩, Below.refl _ _⟩
    case round =>
      obtain ⟨j, T, hj7, rfl, rfl, hTT, hbr⟩ := hrel
      have kA7 := kA6.below hbr
      have kB7 := kB6.below hbr
      have kT7 := kT.below hbr
      have hb7 := hb6.trans (hbr.mono (by have := hb6.size; omega))
      have hbr9 := hbr
      clear kA6 kB6 kT hb6 hbr
      by_cases hj : j < 7
      · have hgj := HG.out j hj
        obtain ⟨t, ht⟩ := named ([s1, s2, s3, s4, s5, s6, s7].getD j e0)
        have xt := seven_cell kT7 j hj
        rw [← ht.out] at xt
        have hsu := txts_succ [s1, s2, s3, s4, s5, s6, s7] (j := j) (by simpa using hj)
        rw [← ht.out] at hsu hgj
        clear ht
        have HSU := hide hsu
        have HGJ := hide hgj
        have d1 := long_cast t
        obtain ⟨b1, hb1⟩ := named (decide (2048 < t.size))
        rw [← hb1.out] at d1
        clear hsu hgj
        cases b1 with
        | true =>
          go_wp2
          go_ret2
          exact ⟨by rw [HF.out.1 (HGJ.out hb1.out.symm)]; rfl, hb7⟩
        | false =>
          have hz : t.size ≤ 2048 := by have := hb1.out.symm; simpa using this
          have htx := refText_w t
          have hts := txt_size t
          obtain ⟨T1, hT1⟩ := named (str (txt t))
          simp only [← hT1.out] at htx hts
          obtain ⟨R, hR⟩ := named (T ++ T1)
          have hadd : ∀ W : World, (Op.stringOp .add T T1).run Try.prog W = .ok (.string R) W := fun W => by rw [hR.out]; exact run_string_add_sum W _ _ (by have := hTT.out.1; omega)
          have hres : Hid (R.size ≤ 9 + (j + 1) * 2052 ∧ R = str ([5] ++ txts ([s1, s2, s3, s4, s5, s6, s7].take (j + 1))) ∧ longs ([s1, s2, s3, s4, s5, s6, s7].take (j + 1)) = false) := by
            refine ⟨by rw [hR.out, ByteArray.size_append]; have := hTT.out.1; omega, ?_, ?_⟩
            · rw [hR.out, hT1.out, hTT.out.2.1, HSU.out.1, str_append, List.append_assoc]
            · rw [HSU.out.2, hTT.out.2.2, ← hb1.out]; rfl
          have htx2 := fun W => htx W (by omega)
          clear hR hT1 hTT HSU HGJ hts htx hb1 hz
          go_wp2_with fail
          refine (htx2 _).mono ?_
          rintro e w8 ⟨rfl, hb8⟩
          have kA8 := kA7.below hb8
          clear htx2 xt
          go_wp2
          go_roundw
          case rel => exact ⟨j + 1, R, by omega, by first | rfl | go_num, rfl, hres, bt hbr9 hb8⟩
          case measure => simp [intOf]; omega
      · obtain rfl : j = 7 := by omega
        rw [show ((7 : Nat) : Int) = 7 from rfl]
        have hl7 : lg = false := by rw [HLG.out]; exact hTT.out.2.2
        have hT7 : Hid (T = str F0) := by rw [HF0.out]; exact hTT.out.2.1
        clear hTT hj HG
        have xA := kA7.cell
        have xB := kB7.cell
        cases q with
        | true =>
          go_wp2
          go_ret2
          exact ⟨by rw [HF.out.2.1 hl7 (by simp)]; rfl, hb7⟩
        | false =>
          go_wp2
          go_ret2
          exact ⟨by rw [HF.out.2.2 hl7 (by simp), hT7.out, HF0.out]; rfl, hb7⟩
set_option maxRecDepth 100000 in
set_option maxHeartbeats 2000000 in
theorem refWA_6 (an : Nat) (ac : UInt8) (ai ax au aw : ByteArray) (av : Nat) (s1 s2 s3 s4 s5 s6 s7 : ByteArray) (F : List UInt8 × Int) (q : Bool) (w : World) (lg : Bool) (hlg : lg = longs [s1, s2, s3, s4, s5, s6, s7]) (hv : av < 18446744073709551616)
    (hq : ∀ W : World, (binOp .neq 30 (.agg #[.int .u8 6, .int .u64 (an : Int), .int .u8 (ac.toNat : Int), .string ai, .string ax, .string au, .string aw, .int .u64 (av : Int), .string s1, .string s2, .string s3, .string s4, .string s5, .string s6, .string s7]) (.agg #[.int .u8 6, .int .u64 0, .int .u8 0, .string ⟨#[]⟩, .string ⟨#[]⟩, .string ⟨#[]⟩, .string ⟨#[]⟩, .int .u64 (av : Int), .string s1, .string s2, .string s3, .string s4, .string s5, .string s6, .string s7])).run Try.prog W = .ok (.bool q) W) (HF : Hid ((lg = true → F = ([], 14)) ∧ (lg = false → q = true → F = ([], 14)) ∧ (lg = false → q = false → F = ((6 :: putL av 8) ++ txts [s1, s2, s3, s4, s5, s6, s7], 0)))) :
    Calls Try.prog 10 #[.agg #[.int .u8 6, .int .u64 (an : Int), .int .u8 (ac.toNat : Int), .string ai, .string ax, .string au, .string aw, .int .u64 (av : Int), .string s1, .string s2, .string s3, .string s4, .string s5, .string s6, .string s7]] w fun e w' => e = .returned (.tuple #[.string (str F.1), .int .i64 F.2]) ∧ Below w.heap.size w w' := by
  have kA := ((Blk.new w [.int .u8 6, .int .u64 (an : Int), .int .u8 (ac.toNat : Int), .string ai, .string ax, .string au, .string aw, .int .u64 (av : Int), .string s1, .string s2, .string s3, .string s4, .string s5, .string s6, .string s7] 30).alloc (.cells #[.int .u8 6] 5)).alloc (.cells #[.int .u8 6, .int .u64 0, .int .u8 0, .string ⟨#[]⟩, .string ⟨#[]⟩, .string ⟨#[]⟩, .string ⟨#[]⟩, .int .u64 0, .string ⟨#[]⟩, .string ⟨#[]⟩, .string ⟨#[]⟩, .string ⟨#[]⟩, .string ⟨#[]⟩, .string ⟨#[]⟩, .string ⟨#[]⟩] 30)
  have hcv := blk_string' (k := 6) (Blk.new (w.alloc (.cells #[.int .u8 6, .int .u64 (an : Int), .int .u8 (ac.toNat : Int), .string ai, .string ax, .string au, .string aw, .int .u64 (av : Int), .string s1, .string s2, .string s3, .string s4, .string s5, .string s6, .string s7] 30)) [.int .u8 6] 5)
  rw [show (w.alloc (.cells #[.int .u8 6, .int .u64 (an : Int), .int .u8 (ac.toNat : Int), .string ai, .string ax, .string au, .string aw, .int .u64 (av : Int), .string s1, .string s2, .string s3, .string s4, .string s5, .string s6, .string s7] 30)).heap.size = w.heap.size + 1 by simp] at hcv
  have kB := Blk.new ((w.alloc (.cells #[.int .u8 6, .int .u64 (an : Int), .int .u8 (ac.toNat : Int), .string ai, .string ax, .string au, .string aw, .int .u64 (av : Int), .string s1, .string s2, .string s3, .string s4, .string s5, .string s6, .string s7] 30)).alloc (.cells #[.int .u8 6] 5)) [.int .u8 6, .int .u64 0, .int .u8 0, .string ⟨#[]⟩, .string ⟨#[]⟩, .string ⟨#[]⟩, .string ⟨#[]⟩, .int .u64 0, .string ⟨#[]⟩, .string ⟨#[]⟩, .string ⟨#[]⟩, .string ⟨#[]⟩, .string ⟨#[]⟩, .string ⟨#[]⟩, .string ⟨#[]⟩] 30
  rw [show ((w.alloc (.cells #[.int .u8 6, .int .u64 (an : Int), .int .u8 (ac.toNat : Int), .string ai, .string ax, .string au, .string aw, .int .u64 (av : Int), .string s1, .string s2, .string s3, .string s4, .string s5, .string s6, .string s7] 30)).alloc (.cells #[.int .u8 6] 5)).heap.size = w.heap.size + 1 + 1 by simp] at kB
  have hb := bt (bt (below_alloc w (.cells #[.int .u8 6, .int .u64 (an : Int), .int .u8 (ac.toNat : Int), .string ai, .string ax, .string au, .string aw, .int .u64 (av : Int), .string s1, .string s2, .string s3, .string s4, .string s5, .string s6, .string s7] 30)) (below_alloc _ (.cells #[.int .u8 6] 5))) (below_alloc _ (.cells #[.int .u8 6, .int .u64 0, .int .u8 0, .string ⟨#[]⟩, .string ⟨#[]⟩, .string ⟨#[]⟩, .string ⟨#[]⟩, .int .u64 0, .string ⟨#[]⟩, .string ⟨#[]⟩, .string ⟨#[]⟩, .string ⟨#[]⟩, .string ⟨#[]⟩, .string ⟨#[]⟩, .string ⟨#[]⟩] 30))
  have xA := kA.cell
  go_enter Try.func10, Try.ntmps10
  go_upto_region 3 with fail
  obtain ⟨w1, hw1⟩ := named (((w.alloc (.cells #[.int .u8 6, .int .u64 (an : Int), .int .u8 (ac.toNat : Int), .string ai, .string ax, .string au, .string aw, .int .u64 (av : Int), .string s1, .string s2, .string s3, .string s4, .string s5, .string s6, .string s7] 30)).alloc (.cells #[.int .u8 6] 5)).alloc (.cells #[.int .u8 6, .int .u64 0, .int .u8 0, .string ⟨#[]⟩, .string ⟨#[]⟩, .string ⟨#[]⟩, .string ⟨#[]⟩, .int .u64 0, .string ⟨#[]⟩, .string ⟨#[]⟩, .string ⟨#[]⟩, .string ⟨#[]⟩, .string ⟨#[]⟩, .string ⟨#[]⟩, .string ⟨#[]⟩] 30))
  rw [← hw1.out] at kA kB hb ⊢
  clear hw1 xA hcv
  have hG : ∀ j, j < 7 → decide (2048 < ([s1, s2, s3, s4, s5, s6, s7].getD j e0).size) = true → lg = true := fun j hj h => hlg.trans (longs_of [s1, s2, s3, s4, s5, s6, s7] j hj h)
  have HG := hide hG
  have HLG := hide hlg
  obtain ⟨F0, HF0⟩ := named ((6 :: putL av 8) ++ txts [s1, s2, s3, s4, s5, s6, s7])
  clear hG hlg
  have hp := fun W => refput64_w av W hv
  obtain ⟨U0, hU0⟩ := named (str [(6 : UInt8)])
  obtain ⟨T1, hT1⟩ := named (str (putL av 8))
  obtain ⟨U, hU⟩ := named (U0 ++ T1)
  have HU : Hid (U.size ≤ 9 + 0 * 2052 ∧ U = str (6 :: putL av 8)) := by
    have e : U = str (6 :: putL av 8) := by rw [hU.out, hU0.out, hT1.out, str_append]; rfl
    exact ⟨by rw [e, str_size, List.length_cons, putL_length]; decide, e⟩
  have hadd : ∀ W : World, (Op.stringOp .add U0 T1).run Try.prog W = .ok (.string U) W := fun W => by
    rw [hU.out]
    refine run_string_add_sum W _ _ ?_
    rw [hU0.out, hT1.out, str_size, str_size, putL_length]
    decide
  simp only [← hT1.out] at hp
  rw [← hU0.out]
  clear hU0 hT1 hU
  have xA := kA.cell
  have kB2 := kB.set 7 (.int .u64 (av : Int))
  have kA2 := kA.far (p := ⟨w.heap.size + 1 + 1, 7, none⟩) (by show w.heap.size ≠ w.heap.size + 1 + 1; omega) (.int .u64 (av : Int))
  have hb2 := hb.setCell (p := ⟨w.heap.size + 1 + 1, 7, none⟩) (by show w.heap.size ≤ w.heap.size + 1 + 1; omega) (.int .u64 (av : Int))
  have xB := kB.cell
  have fB := kB.free
  go_upto_region 22 with fail
  obtain ⟨w2, hw2⟩ := named (w1.setCell ⟨w.heap.size + 1 + 1, 7, none⟩ (.int .u64 (av : Int)))
  rw [← hw2.out] at kA2 kB2 hb2 ⊢
  clear hw2 xA xB fB kA kB hb
  have xA := kA2.cell
  go_wp2_with fail
  refine (hp _).mono ?_
  rintro e w3 ⟨rfl, hb3⟩
  have kA3 := kA2.below hb3
  have kB3 := kB2.below hb3
  have hb4 := bt hb2 hb3
  clear xA hp kA2 kB2 hb2 hb3
  have xA := kA3.cell
  go_wp2_with fail
  clear xA hadd
  refine region_flatS _ (fun L u => Blk u w.heap.size [.int .u8 6, .int .u64 (an : Int), .int .u8 (ac.toNat : Int), .string ai, .string ax, .string au, .string aw, .int .u64 (av : Int), .string s1, .string s2, .string s3, .string s4, .string s5, .string s6, .string s7] 30 ∧ Blk u (w.heap.size + 1 + 1) [.int .u8 6, .int .u64 0, .int .u8 0, .string ⟨#[]⟩, .string ⟨#[]⟩, .string ⟨#[]⟩, .string ⟨#[]⟩, .int .u64 (av : Int), cond (L 9) (.string s1) (.string ⟨#[]⟩), cond (L 9) (.string s2) (.string ⟨#[]⟩), cond (L 11) (.string s3) (.string ⟨#[]⟩), cond (L 11) (.string s4) (.string ⟨#[]⟩), cond (L 13) (.string s5) (.string ⟨#[]⟩), cond (L 13) (.string s6) (.string ⟨#[]⟩), cond (L 15) (.string s7) (.string ⟨#[]⟩)] 30 ∧ Below w.heap.size w u) (fun _ _ _ => True)
    (fun _ => rel [fun v _ => v = .pointer (some ⟨w.heap.size, 8, none⟩),
      fun v _ => v = .agg #[.string s1, .string s2],
      fun v _ => v = .pointer (some ⟨w.heap.size, 10, none⟩),
      fun v _ => v = .agg #[.string s3, .string s4],
      fun v _ => v = .pointer (some ⟨w.heap.size, 12, none⟩),
      fun v _ => v = .agg #[.string s5, .string s6],
      fun v _ => v = .pointer (some ⟨w.heap.size, 14, none⟩),
      fun v _ => v = .string s7,
      fun v _ => v = .pointer (some ⟨w.heap.size + 1 + 1, 8, none⟩),
      fun _ _ => True,
      fun v _ => v = .pointer (some ⟨w.heap.size + 1 + 1, 10, none⟩),
      fun _ _ => True,
      fun v _ => v = .pointer (some ⟨w.heap.size + 1 + 1, 12, none⟩),
      fun _ _ => True,
      fun v _ => v = .pointer (some ⟨w.heap.size + 1 + 1, 14, none⟩),
      fun _ _ => True])
    (by kernel_rfl) (by kernel_rfl) (fun v => by simp only [putsV, Act.put, List.toList_toArray, List.setIfInBounds_toArray, List.set_cons_zero, List.set_cons_succ, Nat.reduceAdd, Nat.zero_add]; rfl) ?_ (fun _ _ _ _ _ h => h) ⟨kA3, kB3, hb4.drew⟩ ?_ (fun _ _ _ _ _ _ h => h) (fun L L' u hL h => by rw [← hL 9 (by decide)]; rw [← hL 11 (by decide)]; rw [← hL 13 (by decide)]; rw [← hL 15 (by decide)]; exact h) ?_
  · intro i L j x u u' _ _ hG h
    match j with
    | 0 => exact h
    | 1 => exact h
    | 2 => exact h
    | 3 => exact h
    | 4 => exact h
    | 5 => exact h
    | 6 => exact h
    | 7 => exact h
    | 8 => exact h
    | 9 => exact h
    | 10 => exact h
    | 11 => exact h
    | 12 => exact h
    | 13 => exact h
    | 14 => exact h
    | 15 => exact h
    | _ + 16 => trivial
  · refine ⟨?_, ?_, ?_, ?_, ?_, ?_, ?_, ?_, ?_, ?_, ?_, ?_, ?_, ?_, ?_, ?_, trivial⟩
    · intro L hL hcl v u hS hd K' hK
      simp only [waited, List.toList_toArray, Region.binds, rel, List.getD_cons_zero, List.getD_cons_succ, true_imp_iff, and_true] at hd
      simp only [rel, List.getD_cons_zero, List.getD_cons_succ, Act.put, List.setIfInBounds_toArray, List.set_cons_zero, List.set_cons_succ] at hK
      try simp only [hd] at hK
      go_simp
      exact hK.out _ _ ⟨hS, trivial, rfl⟩
    · intro L hL hcl v u hS hd K' hK
      simp only [waited, List.toList_toArray, Region.binds, rel, List.getD_cons_zero, List.getD_cons_succ, true_imp_iff, and_true] at hd
      simp only [rel, List.getD_cons_zero, List.getD_cons_succ, Act.put, List.setIfInBounds_toArray, List.set_cons_zero, List.set_cons_succ] at hK
      try simp only [hd] at hK
      have x0 := hS.1.cell
      go_simp
      exact hK.out _ _ ⟨hS, trivial, rfl⟩
    · intro L hL hcl v u hS hd K' hK
      simp only [waited, List.toList_toArray, Region.binds, rel, List.getD_cons_zero, List.getD_cons_succ, true_imp_iff, and_true] at hd
      simp only [rel, List.getD_cons_zero, List.getD_cons_succ, Act.put, List.setIfInBounds_toArray, List.set_cons_zero, List.set_cons_succ] at hK
      try simp only [hd] at hK
      go_simp
      exact hK.out _ _ ⟨hS, trivial, rfl⟩
    · intro L hL hcl v u hS hd K' hK
      simp only [waited, List.toList_toArray, Region.binds, rel, List.getD_cons_zero, List.getD_cons_succ, true_imp_iff, and_true] at hd
      simp only [rel, List.getD_cons_zero, List.getD_cons_succ, Act.put, List.setIfInBounds_toArray, List.set_cons_zero, List.set_cons_succ] at hK
      try simp only [hd] at hK
      have x0 := hS.1.cell
      go_simp
      exact hK.out _ _ ⟨hS, trivial, rfl⟩
    · intro L hL hcl v u hS hd K' hK
      simp only [waited, List.toList_toArray, Region.binds, rel, List.getD_cons_zero, List.getD_cons_succ, true_imp_iff, and_true] at hd
      simp only [rel, List.getD_cons_zero, List.getD_cons_succ, Act.put, List.setIfInBounds_toArray, List.set_cons_zero, List.set_cons_succ] at hK
      try simp only [hd] at hK
      go_simp
      exact hK.out _ _ ⟨hS, trivial, rfl⟩
    · intro L hL hcl v u hS hd K' hK
      simp only [waited, List.toList_toArray, Region.binds, rel, List.getD_cons_zero, List.getD_cons_succ, true_imp_iff, and_true] at hd
      simp only [rel, List.getD_cons_zero, List.getD_cons_succ, Act.put, List.setIfInBounds_toArray, List.set_cons_zero, List.set_cons_succ] at hK
      try simp only [hd] at hK
      have x0 := hS.1.cell
      go_simp
      exact hK.out _ _ ⟨hS, trivial, rfl⟩
    · intro L hL hcl v u hS hd K' hK
      simp only [waited, List.toList_toArray, Region.binds, rel, List.getD_cons_zero, List.getD_cons_succ, true_imp_iff, and_true] at hd
      simp only [rel, List.getD_cons_zero, List.getD_cons_succ, Act.put, List.setIfInBounds_toArray, List.set_cons_zero, List.set_cons_succ] at hK
      try simp only [hd] at hK
      go_simp
      exact hK.out _ _ ⟨hS, trivial, rfl⟩
    · intro L hL hcl v u hS hd K' hK
      simp only [waited, List.toList_toArray, Region.binds, rel, List.getD_cons_zero, List.getD_cons_succ, true_imp_iff, and_true] at hd
      simp only [rel, List.getD_cons_zero, List.getD_cons_succ, Act.put, List.setIfInBounds_toArray, List.set_cons_zero, List.set_cons_succ] at hK
      try simp only [hd] at hK
      have x0 := hS.1.cell
      go_simp
      exact hK.out _ _ ⟨hS, trivial, rfl⟩
    · intro L hL hcl v u hS hd K' hK
      simp only [waited, List.toList_toArray, Region.binds, rel, List.getD_cons_zero, List.getD_cons_succ, true_imp_iff, and_true] at hd
      simp only [rel, List.getD_cons_zero, List.getD_cons_succ, Act.put, List.setIfInBounds_toArray, List.set_cons_zero, List.set_cons_succ] at hK
      try simp only [hd] at hK
      go_simp
      exact hK.out _ _ ⟨hS, trivial, rfl⟩
    · intro L hL hcl v u hS hd K' hK
      simp only [waited, List.toList_toArray, Region.binds, rel, List.getD_cons_zero, List.getD_cons_succ, true_imp_iff, and_true] at hd
      simp only [rel, List.getD_cons_zero, List.getD_cons_succ, Act.put, List.setIfInBounds_toArray, List.set_cons_zero, List.set_cons_succ] at hK
      try simp only [hd] at hK
      have h1 := hS.2.1
      have x8 := h1.cell 8
      have x9 := h1.cell 9
      have f8 := h1.free 8
      have f9 := h1.free 9
      first | (obtain ⟨e0', _⟩ := hd) | (have e0' := hd)
      try simp only [e0'] at hK ⊢
      go_simp
      exact hK.out undef _ ⟨⟨((hS.1.far (p := ⟨w.heap.size + 1 + 1, 8, none⟩) (by show w.heap.size ≠ w.heap.size + 1 + 1; omega) (.string s1)).far (p := ⟨w.heap.size + 1 + 1, 9, none⟩) (by show w.heap.size ≠ w.heap.size + 1 + 1; omega) (.string s2)), ((hS.2.1.set 8 (.string s1)).set 9 (.string s2)), ((hS.2.2.setCell (p := ⟨w.heap.size + 1 + 1, 8, none⟩) (by show w.heap.size ≤ w.heap.size + 1 + 1; omega) (.string s1)).setCell (p := ⟨w.heap.size + 1 + 1, 9, none⟩) (by show w.heap.size ≤ w.heap.size + 1 + 1; omega) (.string s2))⟩, trivial, trivial⟩
    · intro L hL hcl v u hS hd K' hK
      simp only [waited, List.toList_toArray, Region.binds, rel, List.getD_cons_zero, List.getD_cons_succ, true_imp_iff, and_true] at hd
      simp only [rel, List.getD_cons_zero, List.getD_cons_succ, Act.put, List.setIfInBounds_toArray, List.set_cons_zero, List.set_cons_succ] at hK
      try simp only [hd] at hK
      go_simp
      exact hK.out _ _ ⟨hS, trivial, rfl⟩
    · intro L hL hcl v u hS hd K' hK
      simp only [waited, List.toList_toArray, Region.binds, rel, List.getD_cons_zero, List.getD_cons_succ, true_imp_iff, and_true] at hd
      simp only [rel, List.getD_cons_zero, List.getD_cons_succ, Act.put, List.setIfInBounds_toArray, List.set_cons_zero, List.set_cons_succ] at hK
      try simp only [hd] at hK
      have h1 := hS.2.1
      have x10 := h1.cell 10
      have x11 := h1.cell 11
      have f10 := h1.free 10
      have f11 := h1.free 11
      first | (obtain ⟨e0', _⟩ := hd) | (have e0' := hd)
      try simp only [e0'] at hK ⊢
      go_simp
      exact hK.out undef _ ⟨⟨((hS.1.far (p := ⟨w.heap.size + 1 + 1, 10, none⟩) (by show w.heap.size ≠ w.heap.size + 1 + 1; omega) (.string s3)).far (p := ⟨w.heap.size + 1 + 1, 11, none⟩) (by show w.heap.size ≠ w.heap.size + 1 + 1; omega) (.string s4)), ((hS.2.1.set 10 (.string s3)).set 11 (.string s4)), ((hS.2.2.setCell (p := ⟨w.heap.size + 1 + 1, 10, none⟩) (by show w.heap.size ≤ w.heap.size + 1 + 1; omega) (.string s3)).setCell (p := ⟨w.heap.size + 1 + 1, 11, none⟩) (by show w.heap.size ≤ w.heap.size + 1 + 1; omega) (.string s4))⟩, trivial, trivial⟩
    · intro L hL hcl v u hS hd K' hK
      simp only [waited, List.toList_toArray, Region.binds, rel, List.getD_cons_zero, List.getD_cons_succ, true_imp_iff, and_true] at hd
      simp only [rel, List.getD_cons_zero, List.getD_cons_succ, Act.put, List.setIfInBounds_toArray, List.set_cons_zero, List.set_cons_succ] at hK
      try simp only [hd] at hK
      go_simp
      exact hK.out _ _ ⟨hS, trivial, rfl⟩
    · intro L hL hcl v u hS hd K' hK
      simp only [waited, List.toList_toArray, Region.binds, rel, List.getD_cons_zero, List.getD_cons_succ, true_imp_iff, and_true] at hd
      simp only [rel, List.getD_cons_zero, List.getD_cons_succ, Act.put, List.setIfInBounds_toArray, List.set_cons_zero, List.set_cons_succ] at hK
      try simp only [hd] at hK
      have h1 := hS.2.1
      have x12 := h1.cell 12
      have x13 := h1.cell 13
      have f12 := h1.free 12
      have f13 := h1.free 13
      first | (obtain ⟨e0', _⟩ := hd) | (have e0' := hd)
      try simp only [e0'] at hK ⊢
      go_simp
      exact hK.out undef _ ⟨⟨((hS.1.far (p := ⟨w.heap.size + 1 + 1, 12, none⟩) (by show w.heap.size ≠ w.heap.size + 1 + 1; omega) (.string s5)).far (p := ⟨w.heap.size + 1 + 1, 13, none⟩) (by show w.heap.size ≠ w.heap.size + 1 + 1; omega) (.string s6)), ((hS.2.1.set 12 (.string s5)).set 13 (.string s6)), ((hS.2.2.setCell (p := ⟨w.heap.size + 1 + 1, 12, none⟩) (by show w.heap.size ≤ w.heap.size + 1 + 1; omega) (.string s5)).setCell (p := ⟨w.heap.size + 1 + 1, 13, none⟩) (by show w.heap.size ≤ w.heap.size + 1 + 1; omega) (.string s6))⟩, trivial, trivial⟩
    · intro L hL hcl v u hS hd K' hK
      simp only [waited, List.toList_toArray, Region.binds, rel, List.getD_cons_zero, List.getD_cons_succ, true_imp_iff, and_true] at hd
      simp only [rel, List.getD_cons_zero, List.getD_cons_succ, Act.put, List.setIfInBounds_toArray, List.set_cons_zero, List.set_cons_succ] at hK
      try simp only [hd] at hK
      go_simp
      exact hK.out _ _ ⟨hS, trivial, rfl⟩
    · intro L hL hcl v u hS hd K' hK
      simp only [waited, List.toList_toArray, Region.binds, rel, List.getD_cons_zero, List.getD_cons_succ, true_imp_iff, and_true] at hd
      simp only [rel, List.getD_cons_zero, List.getD_cons_succ, Act.put, List.setIfInBounds_toArray, List.set_cons_zero, List.set_cons_succ] at hK
      try simp only [hd] at hK
      have h1 := hS.2.1
      have x14 := h1.cell 14
      have f14 := h1.free 14
      first | (obtain ⟨e0', _⟩ := hd) | (have e0' := hd)
      try simp only [e0'] at hK ⊢
      go_simp
      exact hK.out undef _ ⟨⟨(hS.1.far (p := ⟨w.heap.size + 1 + 1, 14, none⟩) (by show w.heap.size ≠ w.heap.size + 1 + 1; omega) (.string s7)), (hS.2.1.set 14 (.string s7)), (hS.2.2.setCell (p := ⟨w.heap.size + 1 + 1, 14, none⟩) (by show w.heap.size ≤ w.heap.size + 1 + 1; omega) (.string s7))⟩, trivial, trivial⟩
  · rintro v u hS hR
    simp only [holdAll, List.size_toArray, List.length_cons, List.length_nil, Nat.reduceAdd, rel, List.getD_cons_zero, List.getD_cons_succ] at hR
    have kA5 := hS.1
    have kB5 : Blk u (w.heap.size + 1 + 1) [.int .u8 6, .int .u64 0, .int .u8 0, .string ⟨#[]⟩, .string ⟨#[]⟩, .string ⟨#[]⟩, .string ⟨#[]⟩, .int .u64 (av : Int), .string s1, .string s2, .string s3, .string s4, .string s5, .string s6, .string s7] 30 := hS.2.1
    have hb5 := hS.2.2
    clear hS hR
    obtain ⟨w5, hw5⟩ := named u
    rw [← hw5.out] at kA5 kB5 hb5 ⊢
    clear hw5
    have xA := kA5.cell
    have kT := Blk.new w5 [.string s1, .string s2, .string s3, .string s4, .string s5, .string s6, .string s7] 9
    have kA6 := kA5.alloc (.cells #[.string s1, .string s2, .string s3, .string s4, .string s5, .string s6, .string s7] 9)
    have kB6 := kB5.alloc (.cells #[.string s1, .string s2, .string s3, .string s4, .string s5, .string s6, .string s7] 9)
    have hb6 := bt hb5 (below_alloc w5 (.cells #[.string s1, .string s2, .string s3, .string s4, .string s5, .string s6, .string s7] 9))
    clear kA5 kB5 hb5
    go_upto_region 25 with fail
    go_loopw [4, 106] (fun s i wr => ∃ (j : Nat) (T : ByteArray), j ≤ 7 ∧ i = .int .i64 (j : Int) ∧ s = .string T ∧ Hid (T.size ≤ 9 + j * 2052 ∧ T = str ((6 :: putL av 8) ++ txts ([s1, s2, s3, s4, s5, s6, s7].take j)) ∧ longs ([s1, s2, s3, s4, s5, s6, s7].take j) = false) ∧ Below (w5.alloc (.cells #[.string s1, .string s2, .string s3, .string s4, .string s5, .string s6, .string s7] 9)).heap.size (w5.alloc (.cells #[.string s1, .string s2, .string s3, .string s4, .string s5, .string s6, .string s7] 9)) wr) (fun _ i _ => 7 - (intOf i).toNat)
    case atStart => exact ⟨0, U, by omega, rfl, rfl, ⟨HU.out.1, by rw [HU.out.2]; simp [txts], rfl⟩, Below.refl _ _⟩
    case round =>
      obtain ⟨j, T, hj7, rfl, rfl, hTT, hbr⟩ := hrel
      have kA7 := kA6.below hbr
      have kB7 := kB6.below hbr
      have kT7 := kT.below hbr
      have hb7 := hb6.trans (hbr.mono (by have := hb6.size; omega))
      have hbr9 := hbr
      clear kA6 kB6 kT hb6 hbr
      by_cases hj : j < 7
      · have hgj := HG.out j hj
        obtain ⟨t, ht⟩ := named ([s1, s2, s3, s4, s5, s6, s7].getD j e0)
        have xt := seven_cell kT7 j hj
        rw [← ht.out] at xt
        have hsu := txts_succ [s1, s2, s3, s4, s5, s6, s7] (j := j) (by simpa using hj)
        rw [← ht.out] at hsu hgj
        clear ht
        have HSU := hide hsu
        have HGJ := hide hgj
        have d1 := long_cast t
        obtain ⟨b1, hb1⟩ := named (decide (2048 < t.size))
        rw [← hb1.out] at d1
        clear hsu hgj
        cases b1 with
        | true =>
          go_wp2
          go_ret2
          exact ⟨by rw [HF.out.1 (HGJ.out hb1.out.symm)]; rfl, hb7⟩
        | false =>
          have hz : t.size ≤ 2048 := by have := hb1.out.symm; simpa using this
          have htx := refText_w t
          have hts := txt_size t
          obtain ⟨T1, hT1⟩ := named (str (txt t))
          simp only [← hT1.out] at htx hts
          obtain ⟨R, hR⟩ := named (T ++ T1)
          have hadd : ∀ W : World, (Op.stringOp .add T T1).run Try.prog W = .ok (.string R) W := fun W => by rw [hR.out]; exact run_string_add_sum W _ _ (by have := hTT.out.1; omega)
          have hres : Hid (R.size ≤ 9 + (j + 1) * 2052 ∧ R = str ((6 :: putL av 8) ++ txts ([s1, s2, s3, s4, s5, s6, s7].take (j + 1))) ∧ longs ([s1, s2, s3, s4, s5, s6, s7].take (j + 1)) = false) := by
            refine ⟨by rw [hR.out, ByteArray.size_append]; have := hTT.out.1; omega, ?_, ?_⟩
            · rw [hR.out, hT1.out, hTT.out.2.1, HSU.out.1, str_append, List.append_assoc]
            · rw [HSU.out.2, hTT.out.2.2, ← hb1.out]; rfl
          have htx2 := fun W => htx W (by omega)
          clear hR hT1 hTT HSU HGJ hts htx hb1 hz
          go_wp2_with fail
          refine (htx2 _).mono ?_
          rintro e w8 ⟨rfl, hb8⟩
          have kA8 := kA7.below hb8
          clear htx2 xt
          go_wp2
          go_roundw
          case rel => exact ⟨j + 1, R, by omega, by first | rfl | go_num, rfl, hres, bt hbr9 hb8⟩
          case measure => simp [intOf]; omega
      · obtain rfl : j = 7 := by omega
        rw [show ((7 : Nat) : Int) = 7 from rfl]
        have hl7 : lg = false := by rw [HLG.out]; exact hTT.out.2.2
        have hT7 : Hid (T = str F0) := by rw [HF0.out]; exact hTT.out.2.1
        clear hTT hj HG
        have xA := kA7.cell
        have xB := kB7.cell
        cases q with
        | true =>
          go_wp2
          go_ret2
          exact ⟨by rw [HF.out.2.1 hl7 (by simp)]; rfl, hb7⟩
        | false =>
          go_wp2
          go_ret2
          exact ⟨by rw [HF.out.2.2 hl7 (by simp), hT7.out, HF0.out]; rfl, hb7⟩
end Go.Proofs.Ytiodfbbgbnbdpaa
