/- change.right, change.texts. -/
import Derived.Test.YtiodfbbgbnbdpaaGC
import Derived.Test.YtiodfbbgbnbdpaaGD
import Derived.Deep.DeepCutAuto
namespace Go.Proofs.Ytiodfbbgbnbdpaa
set_option linter.unusedSimpArgs false
set_option linter.unusedVariables false
open Go.RowKit
open Crc
set_option maxRecDepth 100000 in
set_option maxHeartbeats 600000 in
theorem right_1 (id tx ut ui : ByteArray) (w : World) :
    Calls Try.prog 78 #[.agg #[.int .u8 1, .string id, .string tx, .string ut, .string ui]] w fun e w' => e = .returned (.bool (decide ((⟨1, id, tx, ut, ui⟩ : Chg) = ⟨1, ⟨#[]⟩, tx, ⟨#[]⟩, ⟨#[]⟩⟩))) ∧ Below w.heap.size w w' := by
  have heq : ∀ W : World, (binOp .eql 28 (.agg #[.int .u8 1, .string id, .string tx, .string ut, .string ui]) (.agg #[.int .u8 1, .string ⟨#[]⟩, .string tx, .string ⟨#[]⟩, .string ⟨#[]⟩])).run Try.prog W = .ok (.bool (decide ((⟨1, id, tx, ut, ui⟩ : Chg) = ⟨1, ⟨#[]⟩, tx, ⟨#[]⟩, ⟨#[]⟩⟩))) W := fun W => ch_eq ⟨1, id, tx, ut, ui⟩ ⟨1, ⟨#[]⟩, tx, ⟨#[]⟩, ⟨#[]⟩⟩ W
  obtain ⟨R, hR⟩ := named (decide ((⟨1, id, tx, ut, ui⟩ : Chg) = ⟨1, ⟨#[]⟩, tx, ⟨#[]⟩, ⟨#[]⟩⟩))
  simp only [← hR.out] at heq ⊢
  clear hR
  have k0 := (Blk.new w [.int .u8 1, .string id, .string tx, .string ut, .string ui] 28).alloc (.cells #[.int .u8 1, .string ⟨#[]⟩, .string ⟨#[]⟩, .string ⟨#[]⟩, .string ⟨#[]⟩] 28)
  have k1 := Blk.new (w.alloc (.cells #[.int .u8 1, .string id, .string tx, .string ut, .string ui] 28)) [.int .u8 1, .string ⟨#[]⟩, .string ⟨#[]⟩, .string ⟨#[]⟩, .string ⟨#[]⟩] 28
  rw [show (w.alloc (.cells #[.int .u8 1, .string id, .string tx, .string ut, .string ui] 28)).heap.size = w.heap.size + 1 by simp] at k1
  have hb := bt (below_alloc w (.cells #[.int .u8 1, .string id, .string tx, .string ut, .string ui] 28)) (below_alloc _ (.cells #[.int .u8 1, .string ⟨#[]⟩, .string ⟨#[]⟩, .string ⟨#[]⟩, .string ⟨#[]⟩] 28))
  go_enter Try.func78, Try.ntmps78
  have x0 := k0.cell
  have x1 := k1.cell
  have f1 := k1.free
  have k0' := (Blk.new w [.int .u8 1, .string id, .string tx, .string ut, .string ui] 28).alloc (.cells #[.int .u8 1, .string ⟨#[]⟩, .string tx, .string ⟨#[]⟩, .string ⟨#[]⟩] 28)
  have k1' := Blk.new (w.alloc (.cells #[.int .u8 1, .string id, .string tx, .string ut, .string ui] 28)) [.int .u8 1, .string ⟨#[]⟩, .string tx, .string ⟨#[]⟩, .string ⟨#[]⟩] 28
  rw [show (w.alloc (.cells #[.int .u8 1, .string id, .string tx, .string ut, .string ui] 28)).heap.size = w.heap.size + 1 by simp] at k1'
  have hb' := bt (below_alloc w (.cells #[.int .u8 1, .string id, .string tx, .string ut, .string ui] 28)) (below_alloc _ (.cells #[.int .u8 1, .string ⟨#[]⟩, .string tx, .string ⟨#[]⟩, .string ⟨#[]⟩] 28))
  go_upto_region 13 with fail
  obtain ⟨W, HW⟩ := named ((w.alloc (.cells #[.int .u8 1, .string id, .string tx, .string ut, .string ui] 28)).alloc (.cells #[.int .u8 1, .string ⟨#[]⟩, .string tx, .string ⟨#[]⟩, .string ⟨#[]⟩] 28))
  rw [← HW.out] at hb' ⊢
  have x0' : ∀ i, W.cell? ⟨w.heap.size, i, none⟩ = [.int .u8 1, .string id, .string tx, .string ut, .string ui][i]? := by rw [HW.out]; exact k0'.cell
  have x1' : ∀ i, W.cell? ⟨w.heap.size + 1, i, none⟩ = [.int .u8 1, .string ⟨#[]⟩, .string tx, .string ⟨#[]⟩, .string ⟨#[]⟩][i]? := by rw [HW.out]; exact k1'.cell
  clear HW x0 x1 f1 k0 k1 hb k0' k1'
  go_wp2
  go_ret
  exact ⟨rfl, hb'⟩
set_option maxRecDepth 100000 in
set_option maxHeartbeats 600000 in
theorem right_2 (id tx ut ui : ByteArray) (w : World) :
    Calls Try.prog 78 #[.agg #[.int .u8 2, .string id, .string tx, .string ut, .string ui]] w fun e w' => e = .returned (.bool (decide ((⟨2, id, tx, ut, ui⟩ : Chg) = ⟨2, id, tx, ⟨#[]⟩, ⟨#[]⟩⟩))) ∧ Below w.heap.size w w' := by
  have heq : ∀ W : World, (binOp .eql 28 (.agg #[.int .u8 2, .string id, .string tx, .string ut, .string ui]) (.agg #[.int .u8 2, .string id, .string tx, .string ⟨#[]⟩, .string ⟨#[]⟩])).run Try.prog W = .ok (.bool (decide ((⟨2, id, tx, ut, ui⟩ : Chg) = ⟨2, id, tx, ⟨#[]⟩, ⟨#[]⟩⟩))) W := fun W => ch_eq ⟨2, id, tx, ut, ui⟩ ⟨2, id, tx, ⟨#[]⟩, ⟨#[]⟩⟩ W
  obtain ⟨R, hR⟩ := named (decide ((⟨2, id, tx, ut, ui⟩ : Chg) = ⟨2, id, tx, ⟨#[]⟩, ⟨#[]⟩⟩))
  simp only [← hR.out] at heq ⊢
  clear hR
  have k0 := (Blk.new w [.int .u8 2, .string id, .string tx, .string ut, .string ui] 28).alloc (.cells #[.int .u8 2, .string ⟨#[]⟩, .string ⟨#[]⟩, .string ⟨#[]⟩, .string ⟨#[]⟩] 28)
  have k1 := Blk.new (w.alloc (.cells #[.int .u8 2, .string id, .string tx, .string ut, .string ui] 28)) [.int .u8 2, .string ⟨#[]⟩, .string ⟨#[]⟩, .string ⟨#[]⟩, .string ⟨#[]⟩] 28
  rw [show (w.alloc (.cells #[.int .u8 2, .string id, .string tx, .string ut, .string ui] 28)).heap.size = w.heap.size + 1 by simp] at k1
  have hb := bt (below_alloc w (.cells #[.int .u8 2, .string id, .string tx, .string ut, .string ui] 28)) (below_alloc _ (.cells #[.int .u8 2, .string ⟨#[]⟩, .string ⟨#[]⟩, .string ⟨#[]⟩, .string ⟨#[]⟩] 28))
  go_enter Try.func78, Try.ntmps78
  have xa := k0.cell
  have xb := k1.cell
  go_upto_region 8 with fail
  clear xa xb
  obtain ⟨W, HW⟩ := named ((w.alloc (.cells #[.int .u8 2, .string id, .string tx, .string ut, .string ui] 28)).alloc (.cells #[.int .u8 2, .string ⟨#[]⟩, .string ⟨#[]⟩, .string ⟨#[]⟩, .string ⟨#[]⟩] 28))
  rw [← HW.out] at k0 k1 hb ⊢
  clear HW
  go_wp2_with fail
  refine region_flatS _ (fun L u => Blk u w.heap.size [.int .u8 2, .string id, .string tx, .string ut, .string ui] 28 ∧ Blk u (w.heap.size + 1) [.int .u8 2, .string (cond (L 5) id ⟨#[]⟩), .string (cond (L 7) tx ⟨#[]⟩), .string ⟨#[]⟩, .string ⟨#[]⟩] 28 ∧ Below w.heap.size w u) (fun _ _ _ => True)
    (fun _ => rel [fun v _ => v = .pointer (some ⟨w.heap.size, 1, none⟩),
      fun v _ => v = .string id,
      fun v _ => v = .pointer (some ⟨w.heap.size, 2, none⟩),
      fun v _ => v = .string tx,
      fun v _ => v = .pointer (some ⟨w.heap.size + 1, 1, none⟩),
      fun _ _ => True,
      fun v _ => v = .pointer (some ⟨w.heap.size + 1, 2, none⟩),
      fun _ _ => True])
    (by kernel_rfl) (by kernel_rfl) (fun v => by simp only [putsV, Act.put, List.toList_toArray, List.setIfInBounds_toArray, List.set_cons_zero, List.set_cons_succ, Nat.reduceAdd, Nat.zero_add]; rfl) ?_ (fun _ _ _ _ _ h => h) ⟨k0, k1, hb.drew⟩ ?_ (fun _ _ _ _ _ _ h => h) (fun L L' u hL h => by rw [← hL 5 (by decide)]; rw [← hL 7 (by decide)]; exact h) ?_
  · intro i L j x u u' _ _ _ h
    match j with
    | 0 => exact h
    | 1 => exact h
    | 2 => exact h
    | 3 => exact h
    | 4 => exact h
    | 5 => exact h
    | 6 => exact h
    | 7 => exact h
    | _ + 8 => trivial
  · refine ⟨?_, ?_, ?_, ?_, ?_, ?_, ?_, ?_, trivial⟩
    · intro L hL hcl v u hS hd K' hK
      simp only [waited, List.toList_toArray, Region.binds, rel, List.getD_cons_zero, List.getD_cons_succ, true_imp_iff, and_true] at hd
      simp only [rel, List.getD_cons_zero, List.getD_cons_succ, Act.put, List.setIfInBounds_toArray, List.set_cons_zero, List.set_cons_succ] at hK
      try simp only [hd] at hK
      go_simp
      exact hK.out _ _ ⟨hS, trivial, rfl⟩
    · intro L hL hcl v u hS hd K' hK
      simp only [waited, List.toList_toArray, Region.binds, rel, List.getD_cons_zero, List.getD_cons_succ, true_imp_iff, and_true] at hd
      simp only [rel, List.getD_cons_zero, List.getD_cons_succ, Act.put, List.setIfInBounds_toArray, List.set_cons_zero, List.set_cons_succ] at hK
      try simp only [hd] at hK
      have x0 := hS.1.cell
      go_simp
      exact hK.out _ _ ⟨hS, trivial, rfl⟩
    · intro L hL hcl v u hS hd K' hK
      simp only [waited, List.toList_toArray, Region.binds, rel, List.getD_cons_zero, List.getD_cons_succ, true_imp_iff, and_true] at hd
      simp only [rel, List.getD_cons_zero, List.getD_cons_succ, Act.put, List.setIfInBounds_toArray, List.set_cons_zero, List.set_cons_succ] at hK
      try simp only [hd] at hK
      go_simp
      exact hK.out _ _ ⟨hS, trivial, rfl⟩
    · intro L hL hcl v u hS hd K' hK
      simp only [waited, List.toList_toArray, Region.binds, rel, List.getD_cons_zero, List.getD_cons_succ, true_imp_iff, and_true] at hd
      simp only [rel, List.getD_cons_zero, List.getD_cons_succ, Act.put, List.setIfInBounds_toArray, List.set_cons_zero, List.set_cons_succ] at hK
      try simp only [hd] at hK
      have x0 := hS.1.cell
      go_simp
      exact hK.out _ _ ⟨hS, trivial, rfl⟩
    · intro L hL hcl v u hS hd K' hK
      simp only [waited, List.toList_toArray, Region.binds, rel, List.getD_cons_zero, List.getD_cons_succ, true_imp_iff, and_true] at hd
      simp only [rel, List.getD_cons_zero, List.getD_cons_succ, Act.put, List.setIfInBounds_toArray, List.set_cons_zero, List.set_cons_succ] at hK
      try simp only [hd] at hK
      go_simp
      exact hK.out _ _ ⟨hS, trivial, rfl⟩
    · intro L hL hcl v u hS hd K' hK
      simp only [waited, List.toList_toArray, Region.binds, rel, List.getD_cons_zero, List.getD_cons_succ, true_imp_iff, and_true] at hd
      simp only [rel, List.getD_cons_zero, List.getD_cons_succ, Act.put, List.setIfInBounds_toArray, List.set_cons_zero, List.set_cons_succ] at hK
      try simp only [hd] at hK
      have h1 := hS.2.1
      have x1 := h1.cell
      have f1 := h1.free
      first | (obtain ⟨e0', _⟩ := hd) | (have e0' := hd)
      try simp only [e0'] at hK ⊢
      go_simp
      have h2 := h1.set 1 (.string id)
      exact hK.out undef _ ⟨⟨hS.1.far (p := ⟨w.heap.size + 1, 1, none⟩) (by show w.heap.size ≠ w.heap.size + 1; omega) _, h2, hS.2.2.setCell (p := ⟨w.heap.size + 1, 1, none⟩) (by show w.heap.size ≤ w.heap.size + 1; omega) _⟩, trivial, trivial⟩
    · intro L hL hcl v u hS hd K' hK
      simp only [waited, List.toList_toArray, Region.binds, rel, List.getD_cons_zero, List.getD_cons_succ, true_imp_iff, and_true] at hd
      simp only [rel, List.getD_cons_zero, List.getD_cons_succ, Act.put, List.setIfInBounds_toArray, List.set_cons_zero, List.set_cons_succ] at hK
      try simp only [hd] at hK
      go_simp
      exact hK.out _ _ ⟨hS, trivial, rfl⟩
    · intro L hL hcl v u hS hd K' hK
      simp only [waited, List.toList_toArray, Region.binds, rel, List.getD_cons_zero, List.getD_cons_succ, true_imp_iff, and_true] at hd
      simp only [rel, List.getD_cons_zero, List.getD_cons_succ, Act.put, List.setIfInBounds_toArray, List.set_cons_zero, List.set_cons_succ] at hK
      try simp only [hd] at hK
      have h1 := hS.2.1
      have x1 := h1.cell
      have f1 := h1.free
      first | (obtain ⟨e0', _⟩ := hd) | (have e0' := hd)
      try simp only [e0'] at hK ⊢
      go_simp
      have h2 := h1.set 2 (.string tx)
      exact hK.out undef _ ⟨⟨hS.1.far (p := ⟨w.heap.size + 1, 2, none⟩) (by show w.heap.size ≠ w.heap.size + 1; omega) _, h2, hS.2.2.setCell (p := ⟨w.heap.size + 1, 2, none⟩) (by show w.heap.size ≤ w.heap.size + 1; omega) _⟩, trivial, trivial⟩
  · rintro v u hS hR
    simp only [holdAll, List.size_toArray, List.length_cons, List.length_nil, Nat.reduceAdd, rel, List.getD_cons_zero, List.getD_cons_succ] at hR
    have k0 := hS.1
    have k1 : Blk u (w.heap.size + 1) [.int .u8 2, .string id, .string tx, .string ⟨#[]⟩, .string ⟨#[]⟩] 28 := hS.2.1
    have hb := hS.2.2
    have x0 := k0.cell
    have x1 := k1.cell
    clear hS hR k0 k1
    go_wp2
    go_ret
    exact ⟨rfl, hb⟩
set_option maxRecDepth 100000 in
set_option maxHeartbeats 600000 in
theorem right_3 (id tx ut ui : ByteArray) (w : World) :
    Calls Try.prog 78 #[.agg #[.int .u8 3, .string id, .string tx, .string ut, .string ui]] w fun e w' => e = .returned (.bool (decide ((⟨3, id, tx, ut, ui⟩ : Chg) = ⟨3, id, ⟨#[]⟩, ⟨#[]⟩, ⟨#[]⟩⟩))) ∧ Below w.heap.size w w' := by
  have heq : ∀ W : World, (binOp .eql 28 (.agg #[.int .u8 3, .string id, .string tx, .string ut, .string ui]) (.agg #[.int .u8 3, .string id, .string ⟨#[]⟩, .string ⟨#[]⟩, .string ⟨#[]⟩])).run Try.prog W = .ok (.bool (decide ((⟨3, id, tx, ut, ui⟩ : Chg) = ⟨3, id, ⟨#[]⟩, ⟨#[]⟩, ⟨#[]⟩⟩))) W := fun W => ch_eq ⟨3, id, tx, ut, ui⟩ ⟨3, id, ⟨#[]⟩, ⟨#[]⟩, ⟨#[]⟩⟩ W
  obtain ⟨R, hR⟩ := named (decide ((⟨3, id, tx, ut, ui⟩ : Chg) = ⟨3, id, ⟨#[]⟩, ⟨#[]⟩, ⟨#[]⟩⟩))
  simp only [← hR.out] at heq ⊢
  clear hR
  have k0 := (Blk.new w [.int .u8 3, .string id, .string tx, .string ut, .string ui] 28).alloc (.cells #[.int .u8 3, .string ⟨#[]⟩, .string ⟨#[]⟩, .string ⟨#[]⟩, .string ⟨#[]⟩] 28)
  have k1 := Blk.new (w.alloc (.cells #[.int .u8 3, .string id, .string tx, .string ut, .string ui] 28)) [.int .u8 3, .string ⟨#[]⟩, .string ⟨#[]⟩, .string ⟨#[]⟩, .string ⟨#[]⟩] 28
  rw [show (w.alloc (.cells #[.int .u8 3, .string id, .string tx, .string ut, .string ui] 28)).heap.size = w.heap.size + 1 by simp] at k1
  have hb := bt (below_alloc w (.cells #[.int .u8 3, .string id, .string tx, .string ut, .string ui] 28)) (below_alloc _ (.cells #[.int .u8 3, .string ⟨#[]⟩, .string ⟨#[]⟩, .string ⟨#[]⟩, .string ⟨#[]⟩] 28))
  go_enter Try.func78, Try.ntmps78
  have x0 := k0.cell
  have x1 := k1.cell
  have f1 := k1.free
  have k0' := (Blk.new w [.int .u8 3, .string id, .string tx, .string ut, .string ui] 28).alloc (.cells #[.int .u8 3, .string id, .string ⟨#[]⟩, .string ⟨#[]⟩, .string ⟨#[]⟩] 28)
  have k1' := Blk.new (w.alloc (.cells #[.int .u8 3, .string id, .string tx, .string ut, .string ui] 28)) [.int .u8 3, .string id, .string ⟨#[]⟩, .string ⟨#[]⟩, .string ⟨#[]⟩] 28
  rw [show (w.alloc (.cells #[.int .u8 3, .string id, .string tx, .string ut, .string ui] 28)).heap.size = w.heap.size + 1 by simp] at k1'
  have hb' := bt (below_alloc w (.cells #[.int .u8 3, .string id, .string tx, .string ut, .string ui] 28)) (below_alloc _ (.cells #[.int .u8 3, .string id, .string ⟨#[]⟩, .string ⟨#[]⟩, .string ⟨#[]⟩] 28))
  go_upto_region 13 with fail
  obtain ⟨W, HW⟩ := named ((w.alloc (.cells #[.int .u8 3, .string id, .string tx, .string ut, .string ui] 28)).alloc (.cells #[.int .u8 3, .string id, .string ⟨#[]⟩, .string ⟨#[]⟩, .string ⟨#[]⟩] 28))
  rw [← HW.out] at hb' ⊢
  have x0' : ∀ i, W.cell? ⟨w.heap.size, i, none⟩ = [.int .u8 3, .string id, .string tx, .string ut, .string ui][i]? := by rw [HW.out]; exact k0'.cell
  have x1' : ∀ i, W.cell? ⟨w.heap.size + 1, i, none⟩ = [.int .u8 3, .string id, .string ⟨#[]⟩, .string ⟨#[]⟩, .string ⟨#[]⟩][i]? := by rw [HW.out]; exact k1'.cell
  clear HW x0 x1 f1 k0 k1 hb k0' k1'
  go_wp2
  go_ret
  exact ⟨rfl, hb'⟩
set_option maxRecDepth 100000 in
set_option maxHeartbeats 600000 in
theorem right_4 (id tx ut ui : ByteArray) (w : World) :
    Calls Try.prog 78 #[.agg #[.int .u8 4, .string id, .string tx, .string ut, .string ui]] w fun e w' => e = .returned (.bool (decide ((⟨4, id, tx, ut, ui⟩ : Chg) = ⟨4, ⟨#[]⟩, tx, ⟨#[]⟩, ⟨#[]⟩⟩))) ∧ Below w.heap.size w w' := by
  have heq : ∀ W : World, (binOp .eql 28 (.agg #[.int .u8 4, .string id, .string tx, .string ut, .string ui]) (.agg #[.int .u8 4, .string ⟨#[]⟩, .string tx, .string ⟨#[]⟩, .string ⟨#[]⟩])).run Try.prog W = .ok (.bool (decide ((⟨4, id, tx, ut, ui⟩ : Chg) = ⟨4, ⟨#[]⟩, tx, ⟨#[]⟩, ⟨#[]⟩⟩))) W := fun W => ch_eq ⟨4, id, tx, ut, ui⟩ ⟨4, ⟨#[]⟩, tx, ⟨#[]⟩, ⟨#[]⟩⟩ W
  obtain ⟨R, hR⟩ := named (decide ((⟨4, id, tx, ut, ui⟩ : Chg) = ⟨4, ⟨#[]⟩, tx, ⟨#[]⟩, ⟨#[]⟩⟩))
  simp only [← hR.out] at heq ⊢
  clear hR
  have k0 := (Blk.new w [.int .u8 4, .string id, .string tx, .string ut, .string ui] 28).alloc (.cells #[.int .u8 4, .string ⟨#[]⟩, .string ⟨#[]⟩, .string ⟨#[]⟩, .string ⟨#[]⟩] 28)
  have k1 := Blk.new (w.alloc (.cells #[.int .u8 4, .string id, .string tx, .string ut, .string ui] 28)) [.int .u8 4, .string ⟨#[]⟩, .string ⟨#[]⟩, .string ⟨#[]⟩, .string ⟨#[]⟩] 28
  rw [show (w.alloc (.cells #[.int .u8 4, .string id, .string tx, .string ut, .string ui] 28)).heap.size = w.heap.size + 1 by simp] at k1
  have hb := bt (below_alloc w (.cells #[.int .u8 4, .string id, .string tx, .string ut, .string ui] 28)) (below_alloc _ (.cells #[.int .u8 4, .string ⟨#[]⟩, .string ⟨#[]⟩, .string ⟨#[]⟩, .string ⟨#[]⟩] 28))
  go_enter Try.func78, Try.ntmps78
  have x0 := k0.cell
  have x1 := k1.cell
  have f1 := k1.free
  have k0' := (Blk.new w [.int .u8 4, .string id, .string tx, .string ut, .string ui] 28).alloc (.cells #[.int .u8 4, .string ⟨#[]⟩, .string tx, .string ⟨#[]⟩, .string ⟨#[]⟩] 28)
  have k1' := Blk.new (w.alloc (.cells #[.int .u8 4, .string id, .string tx, .string ut, .string ui] 28)) [.int .u8 4, .string ⟨#[]⟩, .string tx, .string ⟨#[]⟩, .string ⟨#[]⟩] 28
  rw [show (w.alloc (.cells #[.int .u8 4, .string id, .string tx, .string ut, .string ui] 28)).heap.size = w.heap.size + 1 by simp] at k1'
  have hb' := bt (below_alloc w (.cells #[.int .u8 4, .string id, .string tx, .string ut, .string ui] 28)) (below_alloc _ (.cells #[.int .u8 4, .string ⟨#[]⟩, .string tx, .string ⟨#[]⟩, .string ⟨#[]⟩] 28))
  go_upto_region 13 with fail
  obtain ⟨W, HW⟩ := named ((w.alloc (.cells #[.int .u8 4, .string id, .string tx, .string ut, .string ui] 28)).alloc (.cells #[.int .u8 4, .string ⟨#[]⟩, .string tx, .string ⟨#[]⟩, .string ⟨#[]⟩] 28))
  rw [← HW.out] at hb' ⊢
  have x0' : ∀ i, W.cell? ⟨w.heap.size, i, none⟩ = [.int .u8 4, .string id, .string tx, .string ut, .string ui][i]? := by rw [HW.out]; exact k0'.cell
  have x1' : ∀ i, W.cell? ⟨w.heap.size + 1, i, none⟩ = [.int .u8 4, .string ⟨#[]⟩, .string tx, .string ⟨#[]⟩, .string ⟨#[]⟩][i]? := by rw [HW.out]; exact k1'.cell
  clear HW x0 x1 f1 k0 k1 hb k0' k1'
  go_wp2
  go_ret
  exact ⟨rfl, hb'⟩
set_option maxRecDepth 100000 in
set_option maxHeartbeats 600000 in
theorem right_5 (id tx ut ui : ByteArray) (w : World) :
    Calls Try.prog 78 #[.agg #[.int .u8 5, .string id, .string tx, .string ut, .string ui]] w fun e w' => e = .returned (.bool (decide ((⟨5, id, tx, ut, ui⟩ : Chg) = ⟨5, ⟨#[]⟩, ⟨#[]⟩, ut, ui⟩))) ∧ Below w.heap.size w w' := by
  have heq : ∀ W : World, (binOp .eql 28 (.agg #[.int .u8 5, .string id, .string tx, .string ut, .string ui]) (.agg #[.int .u8 5, .string ⟨#[]⟩, .string ⟨#[]⟩, .string ut, .string ui])).run Try.prog W = .ok (.bool (decide ((⟨5, id, tx, ut, ui⟩ : Chg) = ⟨5, ⟨#[]⟩, ⟨#[]⟩, ut, ui⟩))) W := fun W => ch_eq ⟨5, id, tx, ut, ui⟩ ⟨5, ⟨#[]⟩, ⟨#[]⟩, ut, ui⟩ W
  obtain ⟨R, hR⟩ := named (decide ((⟨5, id, tx, ut, ui⟩ : Chg) = ⟨5, ⟨#[]⟩, ⟨#[]⟩, ut, ui⟩))
  simp only [← hR.out] at heq ⊢
  clear hR
  have k0 := (Blk.new w [.int .u8 5, .string id, .string tx, .string ut, .string ui] 28).alloc (.cells #[.int .u8 5, .string ⟨#[]⟩, .string ⟨#[]⟩, .string ⟨#[]⟩, .string ⟨#[]⟩] 28)
  have k1 := Blk.new (w.alloc (.cells #[.int .u8 5, .string id, .string tx, .string ut, .string ui] 28)) [.int .u8 5, .string ⟨#[]⟩, .string ⟨#[]⟩, .string ⟨#[]⟩, .string ⟨#[]⟩] 28
  rw [show (w.alloc (.cells #[.int .u8 5, .string id, .string tx, .string ut, .string ui] 28)).heap.size = w.heap.size + 1 by simp] at k1
  have hb := bt (below_alloc w (.cells #[.int .u8 5, .string id, .string tx, .string ut, .string ui] 28)) (below_alloc _ (.cells #[.int .u8 5, .string ⟨#[]⟩, .string ⟨#[]⟩, .string ⟨#[]⟩, .string ⟨#[]⟩] 28))
  go_enter Try.func78, Try.ntmps78
  have x0 := k0.cell
  have x1 := k1.cell
  have f1 := k1.free
  have k0' := (Blk.new w [.int .u8 5, .string id, .string tx, .string ut, .string ui] 28).alloc (.cells #[.int .u8 5, .string ⟨#[]⟩, .string ⟨#[]⟩, .string ut, .string ui] 28)
  have k1' := Blk.new (w.alloc (.cells #[.int .u8 5, .string id, .string tx, .string ut, .string ui] 28)) [.int .u8 5, .string ⟨#[]⟩, .string ⟨#[]⟩, .string ut, .string ui] 28
  rw [show (w.alloc (.cells #[.int .u8 5, .string id, .string tx, .string ut, .string ui] 28)).heap.size = w.heap.size + 1 by simp] at k1'
  have hb' := bt (below_alloc w (.cells #[.int .u8 5, .string id, .string tx, .string ut, .string ui] 28)) (below_alloc _ (.cells #[.int .u8 5, .string ⟨#[]⟩, .string ⟨#[]⟩, .string ut, .string ui] 28))
  go_upto_region 13 with fail
  obtain ⟨W, HW⟩ := named ((w.alloc (.cells #[.int .u8 5, .string id, .string tx, .string ut, .string ui] 28)).alloc (.cells #[.int .u8 5, .string ⟨#[]⟩, .string ⟨#[]⟩, .string ut, .string ui] 28))
  rw [← HW.out] at hb' ⊢
  have x0' : ∀ i, W.cell? ⟨w.heap.size, i, none⟩ = [.int .u8 5, .string id, .string tx, .string ut, .string ui][i]? := by rw [HW.out]; exact k0'.cell
  have x1' : ∀ i, W.cell? ⟨w.heap.size + 1, i, none⟩ = [.int .u8 5, .string ⟨#[]⟩, .string ⟨#[]⟩, .string ut, .string ui][i]? := by rw [HW.out]; exact k1'.cell
  clear HW x0 x1 f1 k0 k1 hb k0' k1'
  go_wp2
  go_ret
  exact ⟨rfl, hb'⟩
set_option maxRecDepth 100000 in
set_option maxHeartbeats 600000 in
theorem right_no (k : UInt8) (id tx ut ui : ByteArray) (w : World) (h : ¬ (1 ≤ k.toNat ∧ k.toNat ≤ 5)) :
    Calls Try.prog 78 #[.agg #[.int .u8 (k.toNat : Int), .string id, .string tx, .string ut, .string ui]] w fun e w' => e = .returned (.bool false) ∧ Below w.heap.size w w' := by
  have t1 : ((k.toNat : Int) == 1) = false := by simp; omega
  have t2 : ((k.toNat : Int) == 2) = false := by simp; omega
  have t3 : ((k.toNat : Int) == 3) = false := by simp; omega
  have t4 : ((k.toNat : Int) == 4) = false := by simp; omega
  have t5 : ((k.toNat : Int) == 5) = false := by simp; omega
  have k0 := (Blk.new w [.int .u8 (k.toNat : Int), .string id, .string tx, .string ut, .string ui] 28).alloc (.cells #[.int .u8 (k.toNat : Int), .string ⟨#[]⟩, .string ⟨#[]⟩, .string ⟨#[]⟩, .string ⟨#[]⟩] 28)
  have hb := bt (below_alloc w (.cells #[.int .u8 (k.toNat : Int), .string id, .string tx, .string ut, .string ui] 28)) (below_alloc _ (.cells #[.int .u8 (k.toNat : Int), .string ⟨#[]⟩, .string ⟨#[]⟩, .string ⟨#[]⟩, .string ⟨#[]⟩] 28))
  have x0 := k0.cell
  clear h
  go_enter Try.func78, Try.ntmps78
  go_wp2
  go_ret
  exact ⟨rfl, hb⟩
theorem right_w (c : Chg) (w : World) : Calls Try.prog 78 #[.agg (chCells c).toArray] w fun e w' => e = .returned (.bool (chRight c)) ∧ Below w.heap.size w w' := by
  obtain ⟨k, id, tx, ut, ui⟩ := c
  by_cases h : 1 ≤ k.toNat ∧ k.toNat ≤ 5
  · have hk : k = 1 ∨ k = 2 ∨ k = 3 ∨ k = 4 ∨ k = 5 := by
      have : k.toNat = 1 ∨ k.toNat = 2 ∨ k.toNat = 3 ∨ k.toNat = 4 ∨ k.toNat = 5 := by omega
      rcases this with h | h | h | h | h
      · exact .inl (UInt8.toNat_inj.1 h)
      · exact .inr (.inl (UInt8.toNat_inj.1 h))
      · exact .inr (.inr (.inl (UInt8.toNat_inj.1 h)))
      · exact .inr (.inr (.inr (.inl (UInt8.toNat_inj.1 h))))
      · exact .inr (.inr (.inr (.inr (UInt8.toNat_inj.1 h))))
    rcases hk with rfl | rfl | rfl | rfl | rfl
    · exact right_1 id tx ut ui w
    · exact right_2 id tx ut ui w
    · exact right_3 id tx ut ui w
    · exact right_4 id tx ut ui w
    · exact right_5 id tx ut ui w
  · have : chRight ⟨k, id, tx, ut, ui⟩ = false := by simp [chRight]; omega
    rw [this]
    exact right_no k id tx ut ui w h
end Go.Proofs.Ytiodfbbgbnbdpaa
