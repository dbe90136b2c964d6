/- wire.walk at the reader: a query. -/
import Derived.Test.YtiodfbbgbnbdpaaRWalk
namespace Go.Proofs.Ytiodfbbgbnbdpaa
set_option linter.unusedSimpArgs false
set_option linter.unusedVariables false
open Go.RowKit
open Crc
theorem ptr7 {w : World} {G A : Nat} {t : TypeId} (h : Blk w G [.pointer (some ⟨A, 8, none⟩), .pointer (some ⟨A, 9, none⟩), .pointer (some ⟨A, 10, none⟩), .pointer (some ⟨A, 11, none⟩), .pointer (some ⟨A, 12, none⟩), .pointer (some ⟨A, 13, none⟩), .pointer (some ⟨A, 14, none⟩)] t) {j : Nat} (hj : j < 7) : w.cell? ⟨G, j, none⟩ = some (.pointer (some ⟨A, 8 + j, none⟩)) := by
  rw [h.cell]
  match j, hj with
  | 0, _ => rfl
  | 1, _ => rfl
  | 2, _ => rfl
  | 3, _ => rfl
  | 4, _ => rfl
  | 5, _ => rfl
  | 6, _ => rfl
  | _ + 7, h => omega
theorem fill7 (pre : List Value) (hp : pre.length = 8) (a : List ByteArray) (m : Nat) : (pre ++ strs (a ++ List.replicate (m + 1) e0))[8 + a.length]? = some (.string e0) := by
  rw [← hp, List.getElem?_append_right (by omega), Nat.add_sub_cancel_left, strs_append, List.getElem?_append_right (by rw [strs_length]; exact Nat.le_refl _), strs_length, Nat.sub_self]
  simp [strs, List.replicate_succ]
section
variable {B g A n vr : Nat} {c : Chg} {x : Lf} {w : World}
set_option maxRecDepth 100000 in
set_option maxHeartbeats 1000000 in
theorem rwalk_5 (hg : B ≤ g) (hA : B ≤ A) (hne : A ≠ g) (h : Lb w g x) (hx : x.l.length ≤ 140737488351232) (ha : Blk w A (askCells ⟨5, n, c, vr, List.replicate 7 e0⟩) 30) :
    Calls Try.prog 20 #[.iface 68 (.pointer (some ⟨g, 0, none⟩)), .pointer (some ⟨A, 0, none⟩)] w fun e w' => e = .returned (.tuple #[]) ∧ Lb w' g (walkR ⟨5, n, c, vr, List.replicate 7 e0⟩ x).2 ∧ Blk w' A (askCells (walkR ⟨5, n, c, vr, List.replicate 7 e0⟩ x).1) 30 ∧ Kp2 B g A w w' := by
  have xa : w.cell? ⟨A, 0, none⟩ = some (.int .u8 5) := by rw [ha.cell]; rfl
  have h1 := h
  have ha1 := ha
  have k1 := Kp2.refl B g A w
  have hx1 := hx
  go_enter Try.func20, Try.ntmps20
  go_wp2_with fail
  clear xa
  refine region_flatS _ (fun L u => Hid (u = cond (L 27) (w.drew.alloc (.cells #[.pointer (some ⟨A, 8, none⟩), .pointer (some ⟨A, 9, none⟩), .pointer (some ⟨A, 10, none⟩), .pointer (some ⟨A, 11, none⟩), .pointer (some ⟨A, 12, none⟩), .pointer (some ⟨A, 13, none⟩), .pointer (some ⟨A, 14, none⟩)] 97)) w.drew)) (fun _ _ _ => True)
    (fun _ => rel [fun v _ => v = .pointer (some ⟨A, 0, none⟩),
      fun v _ => v = .pointer (some ⟨A, 0, none⟩),
      fun v _ => v = .pointer (some ⟨A, 8, none⟩),
      fun v _ => v = .pointer (some ⟨A, 8, none⟩),
      fun v _ => v = .pointer (some ⟨A, 0, none⟩),
      fun v _ => v = .pointer (some ⟨A, 0, none⟩),
      fun v _ => v = .pointer (some ⟨A, 8, none⟩),
      fun v _ => v = .pointer (some ⟨A, 9, none⟩),
      fun v _ => v = .pointer (some ⟨A, 0, none⟩),
      fun v _ => v = .pointer (some ⟨A, 0, none⟩),
      fun v _ => v = .pointer (some ⟨A, 10, none⟩),
      fun v _ => v = .pointer (some ⟨A, 10, none⟩),
      fun v _ => v = .pointer (some ⟨A, 0, none⟩),
      fun v _ => v = .pointer (some ⟨A, 0, none⟩),
      fun v _ => v = .pointer (some ⟨A, 10, none⟩),
      fun v _ => v = .pointer (some ⟨A, 11, none⟩),
      fun v _ => v = .pointer (some ⟨A, 0, none⟩),
      fun v _ => v = .pointer (some ⟨A, 0, none⟩),
      fun v _ => v = .pointer (some ⟨A, 12, none⟩),
      fun v _ => v = .pointer (some ⟨A, 12, none⟩),
      fun v _ => v = .pointer (some ⟨A, 0, none⟩),
      fun v _ => v = .pointer (some ⟨A, 0, none⟩),
      fun v _ => v = .pointer (some ⟨A, 12, none⟩),
      fun v _ => v = .pointer (some ⟨A, 13, none⟩),
      fun v _ => v = .pointer (some ⟨A, 0, none⟩),
      fun v _ => v = .pointer (some ⟨A, 0, none⟩),
      fun v _ => v = .pointer (some ⟨A, 14, none⟩),
      fun v _ => v = .slice (some ⟨w.heap.size, 0, none⟩) 7 7,
      fun v _ => v = .int .i64 7,
      fun v _ => v = .int .i64 0])
    (by kernel_rfl) (by kernel_rfl) (fun v => by simp only [putsV, Act.put, List.toList_toArray, List.setIfInBounds_toArray, List.set_cons_zero, List.set_cons_succ, Nat.reduceAdd, Nat.zero_add]; rfl) ?_ (fun _ _ _ _ _ h => h) (hide rfl) ?_ (fun _ _ _ _ _ _ h => h) (fun L L' u hL h => by rw [← hL 27 (by decide)]; exact h) ?_
  · intro i L j x u u' _ _ _ h
    match j with
    | 0 => exact h
    | 1 => exact h
    | 2 => exact h
    | 3 => exact h
    | 4 => exact h
    | 5 => exact h
    | 6 => exact h
    | 7 => exact h
    | 8 => exact h
    | 9 => exact h
    | 10 => exact h
    | 11 => exact h
    | 12 => exact h
    | 13 => exact h
    | 14 => exact h
    | 15 => exact h
    | 16 => exact h
    | 17 => exact h
    | 18 => exact h
    | 19 => exact h
    | 20 => exact h
    | 21 => exact h
    | 22 => exact h
    | 23 => exact h
    | 24 => exact h
    | 25 => exact h
    | 26 => exact h
    | 27 => exact h
    | 28 => exact h
    | 29 => exact h
    | _ + 30 => trivial
  · refine ⟨?_, ?_, ?_, ?_, ?_, ?_, ?_, ?_, ?_, ?_, ?_, ?_, ?_, ?_, ?_, ?_, ?_, ?_, ?_, ?_, ?_, ?_, ?_, ?_, ?_, ?_, ?_, ?_, ?_, ?_, trivial⟩
    · intro L hL hcl v u hS hd K' hK
      simp only [waited, List.toList_toArray, Region.binds, rel, List.getD_cons_zero, List.getD_cons_succ, true_imp_iff, and_true] at hd
      simp only [rel, List.getD_cons_zero, List.getD_cons_succ, Act.put, List.setIfInBounds_toArray, List.set_cons_zero, List.set_cons_succ] at hK
      try simp only [hd] at hK
      go_simp
      exact hK.out _ _ ⟨hS, trivial, rfl⟩
    · intro L hL hcl v u hS hd K' hK
      simp only [waited, List.toList_toArray, Region.binds, rel, List.getD_cons_zero, List.getD_cons_succ, true_imp_iff, and_true] at hd
      simp only [rel, List.getD_cons_zero, List.getD_cons_succ, Act.put, List.setIfInBounds_toArray, List.set_cons_zero, List.set_cons_succ] at hK
      try simp only [hd] at hK
      go_simp
      exact hK.out _ _ ⟨hS, trivial, rfl⟩
    · intro L hL hcl v u hS hd K' hK
      simp only [waited, List.toList_toArray, Region.binds, rel, List.getD_cons_zero, List.getD_cons_succ, true_imp_iff, and_true] at hd
      simp only [rel, List.getD_cons_zero, List.getD_cons_succ, Act.put, List.setIfInBounds_toArray, List.set_cons_zero, List.set_cons_succ] at hK
      try simp only [hd] at hK
      go_simp
      exact hK.out _ _ ⟨hS, trivial, rfl⟩
    · intro L hL hcl v u hS hd K' hK
      simp only [waited, List.toList_toArray, Region.binds, rel, List.getD_cons_zero, List.getD_cons_succ, true_imp_iff, and_true] at hd
      simp only [rel, List.getD_cons_zero, List.getD_cons_succ, Act.put, List.setIfInBounds_toArray, List.set_cons_zero, List.set_cons_succ] at hK
      try simp only [hd] at hK
      go_simp
      exact hK.out _ _ ⟨hS, trivial, rfl⟩
    · intro L hL hcl v u hS hd K' hK
      simp only [waited, List.toList_toArray, Region.binds, rel, List.getD_cons_zero, List.getD_cons_succ, true_imp_iff, and_true] at hd
      simp only [rel, List.getD_cons_zero, List.getD_cons_succ, Act.put, List.setIfInBounds_toArray, List.set_cons_zero, List.set_cons_succ] at hK
      try simp only [hd] at hK
      go_simp
      exact hK.out _ _ ⟨hS, trivial, rfl⟩
    · intro L hL hcl v u hS hd K' hK
      simp only [waited, List.toList_toArray, Region.binds, rel, List.getD_cons_zero, List.getD_cons_succ, true_imp_iff, and_true] at hd
      simp only [rel, List.getD_cons_zero, List.getD_cons_succ, Act.put, List.setIfInBounds_toArray, List.set_cons_zero, List.set_cons_succ] at hK
      try simp only [hd] at hK
      go_simp
      exact hK.out _ _ ⟨hS, trivial, rfl⟩
    · intro L hL hcl v u hS hd K' hK
      simp only [waited, List.toList_toArray, Region.binds, rel, List.getD_cons_zero, List.getD_cons_succ, true_imp_iff, and_true] at hd
      simp only [rel, List.getD_cons_zero, List.getD_cons_succ, Act.put, List.setIfInBounds_toArray, List.set_cons_zero, List.set_cons_succ] at hK
      try simp only [hd] at hK
      go_simp
      exact hK.out _ _ ⟨hS, trivial, rfl⟩
    · intro L hL hcl v u hS hd K' hK
      simp only [waited, List.toList_toArray, Region.binds, rel, List.getD_cons_zero, List.getD_cons_succ, true_imp_iff, and_true] at hd
      simp only [rel, List.getD_cons_zero, List.getD_cons_succ, Act.put, List.setIfInBounds_toArray, List.set_cons_zero, List.set_cons_succ] at hK
      try simp only [hd] at hK
      go_simp
      exact hK.out _ _ ⟨hS, trivial, rfl⟩
    · intro L hL hcl v u hS hd K' hK
      simp only [waited, List.toList_toArray, Region.binds, rel, List.getD_cons_zero, List.getD_cons_succ, true_imp_iff, and_true] at hd
      simp only [rel, List.getD_cons_zero, List.getD_cons_succ, Act.put, List.setIfInBounds_toArray, List.set_cons_zero, List.set_cons_succ] at hK
      try simp only [hd] at hK
      go_simp
      exact hK.out _ _ ⟨hS, trivial, rfl⟩
    · intro L hL hcl v u hS hd K' hK
      simp only [waited, List.toList_toArray, Region.binds, rel, List.getD_cons_zero, List.getD_cons_succ, true_imp_iff, and_true] at hd
      simp only [rel, List.getD_cons_zero, List.getD_cons_succ, Act.put, List.setIfInBounds_toArray, List.set_cons_zero, List.set_cons_succ] at hK
      try simp only [hd] at hK
      go_simp
      exact hK.out _ _ ⟨hS, trivial, rfl⟩
    · intro L hL hcl v u hS hd K' hK
      simp only [waited, List.toList_toArray, Region.binds, rel, List.getD_cons_zero, List.getD_cons_succ, true_imp_iff, and_true] at hd
      simp only [rel, List.getD_cons_zero, List.getD_cons_succ, Act.put, List.setIfInBounds_toArray, List.set_cons_zero, List.set_cons_succ] at hK
      try simp only [hd] at hK
      go_simp
      exact hK.out _ _ ⟨hS, trivial, rfl⟩
    · intro L hL hcl v u hS hd K' hK
      simp only [waited, List.toList_toArray, Region.binds, rel, List.getD_cons_zero, List.getD_cons_succ, true_imp_iff, and_true] at hd
      simp only [rel, List.getD_cons_zero, List.getD_cons_succ, Act.put, List.setIfInBounds_toArray, List.set_cons_zero, List.set_cons_succ] at hK
      try simp only [hd] at hK
      go_simp
      exact hK.out _ _ ⟨hS, trivial, rfl⟩
    · intro L hL hcl v u hS hd K' hK
      simp only [waited, List.toList_toArray, Region.binds, rel, List.getD_cons_zero, List.getD_cons_succ, true_imp_iff, and_true] at hd
      simp only [rel, List.getD_cons_zero, List.getD_cons_succ, Act.put, List.setIfInBounds_toArray, List.set_cons_zero, List.set_cons_succ] at hK
      try simp only [hd] at hK
      go_simp
      exact hK.out _ _ ⟨hS, trivial, rfl⟩
    · intro L hL hcl v u hS hd K' hK
      simp only [waited, List.toList_toArray, Region.binds, rel, List.getD_cons_zero, List.getD_cons_succ, true_imp_iff, and_true] at hd
      simp only [rel, List.getD_cons_zero, List.getD_cons_succ, Act.put, List.setIfInBounds_toArray, List.set_cons_zero, List.set_cons_succ] at hK
      try simp only [hd] at hK
      go_simp
      exact hK.out _ _ ⟨hS, trivial, rfl⟩
    · intro L hL hcl v u hS hd K' hK
      simp only [waited, List.toList_toArray, Region.binds, rel, List.getD_cons_zero, List.getD_cons_succ, true_imp_iff, and_true] at hd
      simp only [rel, List.getD_cons_zero, List.getD_cons_succ, Act.put, List.setIfInBounds_toArray, List.set_cons_zero, List.set_cons_succ] at hK
      try simp only [hd] at hK
      go_simp
      exact hK.out _ _ ⟨hS, trivial, rfl⟩
    · intro L hL hcl v u hS hd K' hK
      simp only [waited, List.toList_toArray, Region.binds, rel, List.getD_cons_zero, List.getD_cons_succ, true_imp_iff, and_true] at hd
      simp only [rel, List.getD_cons_zero, List.getD_cons_succ, Act.put, List.setIfInBounds_toArray, List.set_cons_zero, List.set_cons_succ] at hK
      try simp only [hd] at hK
      go_simp
      exact hK.out _ _ ⟨hS, trivial, rfl⟩
    · intro L hL hcl v u hS hd K' hK
      simp only [waited, List.toList_toArray, Region.binds, rel, List.getD_cons_zero, List.getD_cons_succ, true_imp_iff, and_true] at hd
      simp only [rel, List.getD_cons_zero, List.getD_cons_succ, Act.put, List.setIfInBounds_toArray, List.set_cons_zero, List.set_cons_succ] at hK
      try simp only [hd] at hK
      go_simp
      exact hK.out _ _ ⟨hS, trivial, rfl⟩
    · intro L hL hcl v u hS hd K' hK
      simp only [waited, List.toList_toArray, Region.binds, rel, List.getD_cons_zero, List.getD_cons_succ, true_imp_iff, and_true] at hd
      simp only [rel, List.getD_cons_zero, List.getD_cons_succ, Act.put, List.setIfInBounds_toArray, List.set_cons_zero, List.set_cons_succ] at hK
      try simp only [hd] at hK
      go_simp
      exact hK.out _ _ ⟨hS, trivial, rfl⟩
    · intro L hL hcl v u hS hd K' hK
      simp only [waited, List.toList_toArray, Region.binds, rel, List.getD_cons_zero, List.getD_cons_succ, true_imp_iff, and_true] at hd
      simp only [rel, List.getD_cons_zero, List.getD_cons_succ, Act.put, List.setIfInBounds_toArray, List.set_cons_zero, List.set_cons_succ] at hK
      try simp only [hd] at hK
      go_simp
      exact hK.out _ _ ⟨hS, trivial, rfl⟩
    · intro L hL hcl v u hS hd K' hK
      simp only [waited, List.toList_toArray, Region.binds, rel, List.getD_cons_zero, List.getD_cons_succ, true_imp_iff, and_true] at hd
      simp only [rel, List.getD_cons_zero, List.getD_cons_succ, Act.put, List.setIfInBounds_toArray, List.set_cons_zero, List.set_cons_succ] at hK
      try simp only [hd] at hK
      go_simp
      exact hK.out _ _ ⟨hS, trivial, rfl⟩
    · intro L hL hcl v u hS hd K' hK
      simp only [waited, List.toList_toArray, Region.binds, rel, List.getD_cons_zero, List.getD_cons_succ, true_imp_iff, and_true] at hd
      simp only [rel, List.getD_cons_zero, List.getD_cons_succ, Act.put, List.setIfInBounds_toArray, List.set_cons_zero, List.set_cons_succ] at hK
      try simp only [hd] at hK
      go_simp
      exact hK.out _ _ ⟨hS, trivial, rfl⟩
    · intro L hL hcl v u hS hd K' hK
      simp only [waited, List.toList_toArray, Region.binds, rel, List.getD_cons_zero, List.getD_cons_succ, true_imp_iff, and_true] at hd
      simp only [rel, List.getD_cons_zero, List.getD_cons_succ, Act.put, List.setIfInBounds_toArray, List.set_cons_zero, List.set_cons_succ] at hK
      try simp only [hd] at hK
      go_simp
      exact hK.out _ _ ⟨hS, trivial, rfl⟩
    · intro L hL hcl v u hS hd K' hK
      simp only [waited, List.toList_toArray, Region.binds, rel, List.getD_cons_zero, List.getD_cons_succ, true_imp_iff, and_true] at hd
      simp only [rel, List.getD_cons_zero, List.getD_cons_succ, Act.put, List.setIfInBounds_toArray, List.set_cons_zero, List.set_cons_succ] at hK
      try simp only [hd] at hK
      go_simp
      exact hK.out _ _ ⟨hS, trivial, rfl⟩
    · intro L hL hcl v u hS hd K' hK
      simp only [waited, List.toList_toArray, Region.binds, rel, List.getD_cons_zero, List.getD_cons_succ, true_imp_iff, and_true] at hd
      simp only [rel, List.getD_cons_zero, List.getD_cons_succ, Act.put, List.setIfInBounds_toArray, List.set_cons_zero, List.set_cons_succ] at hK
      try simp only [hd] at hK
      go_simp
      exact hK.out _ _ ⟨hS, trivial, rfl⟩
    · intro L hL hcl v u hS hd K' hK
      simp only [waited, List.toList_toArray, Region.binds, rel, List.getD_cons_zero, List.getD_cons_succ, true_imp_iff, and_true] at hd
      simp only [rel, List.getD_cons_zero, List.getD_cons_succ, Act.put, List.setIfInBounds_toArray, List.set_cons_zero, List.set_cons_succ] at hK
      try simp only [hd] at hK
      go_simp
      exact hK.out _ _ ⟨hS, trivial, rfl⟩
    · intro L hL hcl v u hS hd K' hK
      simp only [waited, List.toList_toArray, Region.binds, rel, List.getD_cons_zero, List.getD_cons_succ, true_imp_iff, and_true] at hd
      simp only [rel, List.getD_cons_zero, List.getD_cons_succ, Act.put, List.setIfInBounds_toArray, List.set_cons_zero, List.set_cons_succ] at hK
      try simp only [hd] at hK
      go_simp
      exact hK.out _ _ ⟨hS, trivial, rfl⟩
    · intro L hL hcl v u hS hd K' hK
      simp only [waited, List.toList_toArray, Region.binds, rel, List.getD_cons_zero, List.getD_cons_succ, true_imp_iff, and_true] at hd
      simp only [rel, List.getD_cons_zero, List.getD_cons_succ, Act.put, List.setIfInBounds_toArray, List.set_cons_zero, List.set_cons_succ] at hK
      try simp only [hd] at hK
      go_simp
      exact hK.out _ _ ⟨hS, trivial, rfl⟩
    · intro L hL hcl v u hS hd K' hK
      simp only [waited, List.toList_toArray, Region.binds, rel, List.getD_cons_zero, List.getD_cons_succ, true_imp_iff, and_true] at hd
      simp only [rel, List.getD_cons_zero, List.getD_cons_succ, Act.put, List.setIfInBounds_toArray, List.set_cons_zero, List.set_cons_succ] at hK
      try simp only [hd] at hK
      rw [hL] at hS
      have hS' : u = w.drew := hS.out
      clear hS
      subst hS'
      go_simp
      exact hK.out _ _ ⟨(hide rfl : Hid (w.drew.alloc (.cells #[.pointer (some ⟨A, 8, none⟩), .pointer (some ⟨A, 9, none⟩), .pointer (some ⟨A, 10, none⟩), .pointer (some ⟨A, 11, none⟩), .pointer (some ⟨A, 12, none⟩), .pointer (some ⟨A, 13, none⟩), .pointer (some ⟨A, 14, none⟩)] 97) = w.drew.alloc (.cells #[.pointer (some ⟨A, 8, none⟩), .pointer (some ⟨A, 9, none⟩), .pointer (some ⟨A, 10, none⟩), .pointer (some ⟨A, 11, none⟩), .pointer (some ⟨A, 12, none⟩), .pointer (some ⟨A, 13, none⟩), .pointer (some ⟨A, 14, none⟩)] 97))), trivial, rfl⟩
    · intro L hL hcl v u hS hd K' hK
      simp only [waited, List.toList_toArray, Region.binds, rel, List.getD_cons_zero, List.getD_cons_succ, true_imp_iff, and_true] at hd
      simp only [rel, List.getD_cons_zero, List.getD_cons_succ, Act.put, List.setIfInBounds_toArray, List.set_cons_zero, List.set_cons_succ] at hK
      try simp only [hd] at hK
      go_simp
      exact hK.out _ _ ⟨hS, trivial, rfl⟩
    · intro L hL hcl v u hS hd K' hK
      simp only [waited, List.toList_toArray, Region.binds, rel, List.getD_cons_zero, List.getD_cons_succ, true_imp_iff, and_true] at hd
      simp only [rel, List.getD_cons_zero, List.getD_cons_succ, Act.put, List.setIfInBounds_toArray, List.set_cons_zero, List.set_cons_succ] at hK
      try simp only [hd] at hK
      go_simp
      exact hK.out _ _ ⟨hS, trivial, rfl⟩
  · rintro v u hS hR
    simp only [holdAll, List.size_toArray, List.length_cons, List.length_nil, Nat.reduceAdd, rel, List.getD_cons_zero, List.getD_cons_succ] at hR
    obtain ⟨⟨⟨-, h27⟩, h28⟩, h29⟩ := hR
    simp only [h27, h28, h29]
    clear h27 h28 h29
    have hu : u = w.drew.alloc (.cells #[.pointer (some ⟨A, 8, none⟩), .pointer (some ⟨A, 9, none⟩), .pointer (some ⟨A, 10, none⟩), .pointer (some ⟨A, 11, none⟩), .pointer (some ⟨A, 12, none⟩), .pointer (some ⟨A, 13, none⟩), .pointer (some ⟨A, 14, none⟩)] 97) := hS.out
    clear hS
    have hbu : Below w.heap.size w (w.drew.alloc (.cells #[.pointer (some ⟨A, 8, none⟩), .pointer (some ⟨A, 9, none⟩), .pointer (some ⟨A, 10, none⟩), .pointer (some ⟨A, 11, none⟩), .pointer (some ⟨A, 12, none⟩), .pointer (some ⟨A, 13, none⟩), .pointer (some ⟨A, 14, none⟩)] 97)) := (Below.refl _ _).drew.alloc (Nat.le_refl _) _
    have hG : Blk (w.drew.alloc (.cells #[.pointer (some ⟨A, 8, none⟩), .pointer (some ⟨A, 9, none⟩), .pointer (some ⟨A, 10, none⟩), .pointer (some ⟨A, 11, none⟩), .pointer (some ⟨A, 12, none⟩), .pointer (some ⟨A, 13, none⟩), .pointer (some ⟨A, 14, none⟩)] 97)) w.heap.size [.pointer (some ⟨A, 8, none⟩), .pointer (some ⟨A, 9, none⟩), .pointer (some ⟨A, 10, none⟩), .pointer (some ⟨A, 11, none⟩), .pointer (some ⟨A, 12, none⟩), .pointer (some ⟨A, 13, none⟩), .pointer (some ⟨A, 14, none⟩)] 97 := Blk.new w.drew _ _
    rw [← hu] at hbu hG
    clear hu
    have hGA : w.heap.size ≠ A := by have := ha1.lt; omega
    have hGg : w.heap.size ≠ g := by have := Blk.lt h1; omega
    have h2 : Lb u g (x) := Blk.below h1 hbu
    have ha2 : Blk u A (askCells (⟨5, n, c, vr, List.replicate 7 e0⟩ : Ask)) 30 := ha1.below hbu
    have k2 : Kp2 B g A w u := k1.trans (Kp2.of hbu (by have := ha1.lt; omega))
    obtain ⟨G, hGn⟩ := named w.heap.size
    rw [← hGn.out] at hG hGA hGg ⊢
    clear hGn h1 ha1 k1 hbu
    go_upto_region 16 with fail
    go_loopw [90] (fun i wr => ∃ j : Nat, j ≤ 7 ∧ i = .int .i64 (j : Int) ∧ Lb wr g (textsL j (x)).2 ∧ Blk wr A (askHead (⟨5, n, c, vr, List.replicate 7 e0⟩ : Ask) ++ strs ((textsL j (x)).1 ++ List.replicate (7 - j) e0)) 30 ∧ Blk wr G [.pointer (some ⟨A, 8, none⟩), .pointer (some ⟨A, 9, none⟩), .pointer (some ⟨A, 10, none⟩), .pointer (some ⟨A, 11, none⟩), .pointer (some ⟨A, 12, none⟩), .pointer (some ⟨A, 13, none⟩), .pointer (some ⟨A, 14, none⟩)] 97 ∧ Kp2 B g A w wr) (fun i _ => 7 - (intOf i).toNat)
    case atStart => exact ⟨0, by omega, rfl, h2, ha2, hG, k2⟩
    case round =>
      clear h2 ha2 hG k2
      obtain ⟨j, hj7, rfl, hy, hAj, hGj, hk⟩ := hrel
      have htl := textsL_length j (x)
      by_cases hj : j < 7
      · have hj' : (j : Int) < 7 := by omega
        have hj0 : (0 : Int) ≤ (j : Int) := by omega
        have hcj := ptr7 hGj hj
        have hll := textsL_len j (x)
        obtain ⟨m, hm9⟩ : ∃ m, 7 - j = m + 1 := ⟨6 - j, by omega⟩
        rw [hm9] at hAj
        have hfa := fill7 (askHead (⟨5, n, c, vr, List.replicate 7 e0⟩ : Ask)) rfl (textsL j (x)).1 m
        have hfs := strs_fill (askHead (⟨5, n, c, vr, List.replicate 7 e0⟩ : Ask)) (textsL j (x)).1 m (str (textL (textsL j (x)).2).1)
        rw [htl] at hfa hfs
        have htx := rtext_w (o := 8 + j) hg hA hne hy (by omega) hAj hfa
        rw [show 8 + j = (askHead (⟨5, n, c, vr, List.replicate 7 e0⟩ : Ask)).length + j from rfl, hfs] at htx
        rw [show (askHead (⟨5, n, c, vr, List.replicate 7 e0⟩ : Ask)).length + j = 8 + j from rfl] at htx
        have hm := rm_text
        clear hfa hfs htl hll
        go_wp2_with fail
        refine htx.mono ?_
        rintro e w6 ⟨rfl, hy6, hA6, hk6⟩
        have hG6 := hGj.kp2 hk6 hGg hGA
        have hk7 := hk.trans hk6
        clear htx hcj
        go_wp2
        go_roundw
        case rel =>
          refine ⟨j + 1, by omega, by first | rfl | go_num, hy6, ?_, hG6, hk7⟩
          rw [show 7 - (j + 1) = m by omega]
          exact hA6
        case measure => simp [intOf]; omega
      · obtain rfl : j = 7 := by omega
        rw [Nat.sub_self, List.replicate_zero, List.append_nil] at hAj
        clear htl hGj
        go_wp2
        go_end0
        exact ⟨rfl, hy, hAj, hk⟩
set_option maxRecDepth 100000 in
set_option maxHeartbeats 1000000 in
theorem rwalk_6 (hg : B ≤ g) (hA : B ≤ A) (hne : A ≠ g) (h : Lb w g x) (hx : x.l.length ≤ 140737488351232) (ha : Blk w A (askCells ⟨6, n, c, vr, List.replicate 7 e0⟩) 30) :
    Calls Try.prog 20 #[.iface 68 (.pointer (some ⟨g, 0, none⟩)), .pointer (some ⟨A, 0, none⟩)] w fun e w' => e = .returned (.tuple #[]) ∧ Lb w' g (walkR ⟨6, n, c, vr, List.replicate 7 e0⟩ x).2 ∧ Blk w' A (askCells (walkR ⟨6, n, c, vr, List.replicate 7 e0⟩ x).1) 30 ∧ Kp2 B g A w w' := by
  have xa : w.cell? ⟨A, 0, none⟩ = some (.int .u8 6) := by rw [ha.cell]; rfl
  go_enter Try.func20, Try.ntmps20
  go_wp2_with fail
  refine region_flatS _ (fun L u => Lb u g (cond (L 7) ((longL x).2) (x)) ∧ Blk u A (askCells (cond (L 7) ((withV (⟨6, n, c, vr, List.replicate 7 e0⟩ : Ask) (longL x).1)) ((⟨6, n, c, vr, List.replicate 7 e0⟩ : Ask)))) 30 ∧ Kp2 B g A w u) (fun _ _ _ => True)
    (fun _ => rel [fun v _ => v = .iface 68 (.pointer (some ⟨g, 0, none⟩)),
      fun v _ => v = .pointer (some ⟨A, 0, none⟩),
      fun v _ => v = .pointer (some ⟨A, 0, none⟩),
      fun v _ => v = .pointer (some ⟨A, 7, none⟩),
      fun v _ => v = .func (Fn.method "lictor/wire.long") #[.iface 68 (.pointer (some ⟨g, 0, none⟩))] #[],
      fun v _ => v = .func (Fn.method "lictor/wire.long") #[.iface 68 (.pointer (some ⟨g, 0, none⟩))] #[],
      fun v _ => v = .iface 68 (.pointer (some ⟨g, 0, none⟩)),
      fun _ _ => True])
    (by kernel_rfl) (by kernel_rfl) (fun v => by simp only [putsV, Act.put, List.toList_toArray, List.setIfInBounds_toArray, List.set_cons_zero, List.set_cons_succ, Nat.reduceAdd, Nat.zero_add]; rfl) ?_ (fun _ _ _ _ _ h => h) ⟨h, ha, (Kp2.refl _ _ _ _).drew⟩ ?_ (fun _ _ _ _ _ _ h => h) (fun L L' u hL h => by rw [← hL 7 (by decide)]; exact h) ?_
  · intro i L j x u u' _ _ _ h
    match j with
    | 0 => exact h
    | 1 => exact h
    | 2 => exact h
    | 3 => exact h
    | 4 => exact h
    | 5 => exact h
    | 6 => exact h
    | 7 => exact h
    | _ + 8 => trivial
  · refine ⟨?_, ?_, ?_, ?_, ?_, ?_, ?_, ?_, trivial⟩
    · intro L hL hcl v u hS hd K' hK
      simp only [waited, List.toList_toArray, Region.binds, rel, List.getD_cons_zero, List.getD_cons_succ, true_imp_iff, and_true] at hd
      simp only [rel, List.getD_cons_zero, List.getD_cons_succ, Act.put, List.setIfInBounds_toArray, List.set_cons_zero, List.set_cons_succ] at hK
      try simp only [hd] at hK
      have hmf := make_func
      have hm := rm_long
      go_simp
      exact hK.out _ _ ⟨hS, trivial, rfl⟩
    · intro L hL hcl v u hS hd K' hK
      simp only [waited, List.toList_toArray, Region.binds, rel, List.getD_cons_zero, List.getD_cons_succ, true_imp_iff, and_true] at hd
      simp only [rel, List.getD_cons_zero, List.getD_cons_succ, Act.put, List.setIfInBounds_toArray, List.set_cons_zero, List.set_cons_succ] at hK
      try simp only [hd] at hK
      have hmf := make_func
      have hm := rm_long
      go_simp
      exact hK.out _ _ ⟨hS, trivial, rfl⟩
    · intro L hL hcl v u hS hd K' hK
      simp only [waited, List.toList_toArray, Region.binds, rel, List.getD_cons_zero, List.getD_cons_succ, true_imp_iff, and_true] at hd
      simp only [rel, List.getD_cons_zero, List.getD_cons_succ, Act.put, List.setIfInBounds_toArray, List.set_cons_zero, List.set_cons_succ] at hK
      try simp only [hd] at hK
      have hmf := make_func
      have hm := rm_long
      go_simp
      exact hK.out _ _ ⟨hS, trivial, rfl⟩
    · intro L hL hcl v u hS hd K' hK
      simp only [waited, List.toList_toArray, Region.binds, rel, List.getD_cons_zero, List.getD_cons_succ, true_imp_iff, and_true] at hd
      simp only [rel, List.getD_cons_zero, List.getD_cons_succ, Act.put, List.setIfInBounds_toArray, List.set_cons_zero, List.set_cons_succ] at hK
      try simp only [hd] at hK
      have hmf := make_func
      have hm := rm_long
      go_simp
      exact hK.out _ _ ⟨hS, trivial, rfl⟩
    · intro L hL hcl v u hS hd K' hK
      simp only [waited, List.toList_toArray, Region.binds, rel, List.getD_cons_zero, List.getD_cons_succ, true_imp_iff, and_true] at hd
      simp only [rel, List.getD_cons_zero, List.getD_cons_succ, Act.put, List.setIfInBounds_toArray, List.set_cons_zero, List.set_cons_succ] at hK
      try simp only [hd] at hK
      have hmf := make_func
      have hm := rm_long
      go_simp
      exact hK.out _ _ ⟨hS, trivial, rfl⟩
    · intro L hL hcl v u hS hd K' hK
      simp only [waited, List.toList_toArray, Region.binds, rel, List.getD_cons_zero, List.getD_cons_succ, true_imp_iff, and_true] at hd
      simp only [rel, List.getD_cons_zero, List.getD_cons_succ, Act.put, List.setIfInBounds_toArray, List.set_cons_zero, List.set_cons_succ] at hK
      try simp only [hd] at hK
      have hmf := make_func
      have hm := rm_long
      go_simp
      exact hK.out _ _ ⟨hS, trivial, rfl⟩
    · intro L hL hcl v u hS hd K' hK
      simp only [waited, List.toList_toArray, Region.binds, rel, List.getD_cons_zero, List.getD_cons_succ, true_imp_iff, and_true] at hd
      simp only [rel, List.getD_cons_zero, List.getD_cons_succ, Act.put, List.setIfInBounds_toArray, List.set_cons_zero, List.set_cons_succ] at hK
      try simp only [hd] at hK
      have hmf := make_func
      have hm := rm_long
      go_simp
      exact hK.out _ _ ⟨hS, trivial, rfl⟩
    · intro L hL hcl v u hS hd K' hK
      simp only [waited, List.toList_toArray, Region.binds, rel, List.getD_cons_zero, List.getD_cons_succ, true_imp_iff, and_true] at hd
      simp only [rel, List.getD_cons_zero, List.getD_cons_succ, Act.put, List.setIfInBounds_toArray, List.set_cons_zero, List.set_cons_succ] at hK
      try simp only [hd] at hK
      have hmf := make_func
      have hm := rm_long
      obtain ⟨q1, q2, q3⟩ := hS
      rw [hL] at q1 q2
      have q1' : Lb u g (x) := q1
      have q2' : Blk u A (askCells ((⟨6, n, c, vr, List.replicate 7 e0⟩ : Ask))) 30 := q2
      go_simp
      refine (rlong_w (o := 7) hg hA hne q1' hx q2' rfl).mono ?_
      rintro e w2 ⟨rfl, h2, h3, h4⟩
      exact hK.out _ _ ⟨⟨h2, h3, q3.trans h4⟩, trivial, trivial⟩
  · rintro v u hS hR
    simp only [holdAll, List.size_toArray, List.length_cons, List.length_nil, Nat.reduceAdd, rel, List.getD_cons_zero, List.getD_cons_succ] at hR
    clear hR xa
    obtain ⟨q1, q2, q3⟩ := hS
    obtain ⟨u1, hu1⟩ := named u
    rw [← hu1.out] at q1 q2 q3 ⊢
    clear hu1
    have h1 : Lb u1 g (longL x).2 := q1
    have ha1 : Blk u1 A (askCells (withV (⟨6, n, c, vr, List.replicate 7 e0⟩ : Ask) (longL x).1)) 30 := q2
    have k1 : Kp2 B g A w u1 := q3
    have hx1 := Nat.le_trans (longL_len x) hx
    clear q1 q2 q3
    go_wp2_with fail
    refine region_flatS _ (fun L u => Hid (u = cond (L 27) (u1.drew.alloc (.cells #[.pointer (some ⟨A, 8, none⟩), .pointer (some ⟨A, 9, none⟩), .pointer (some ⟨A, 10, none⟩), .pointer (some ⟨A, 11, none⟩), .pointer (some ⟨A, 12, none⟩), .pointer (some ⟨A, 13, none⟩), .pointer (some ⟨A, 14, none⟩)] 97)) u1.drew)) (fun _ _ _ => True)
      (fun _ => rel [fun v _ => v = .pointer (some ⟨A, 0, none⟩),
        fun v _ => v = .pointer (some ⟨A, 0, none⟩),
        fun v _ => v = .pointer (some ⟨A, 8, none⟩),
        fun v _ => v = .pointer (some ⟨A, 8, none⟩),
        fun v _ => v = .pointer (some ⟨A, 0, none⟩),
        fun v _ => v = .pointer (some ⟨A, 0, none⟩),
        fun v _ => v = .pointer (some ⟨A, 8, none⟩),
        fun v _ => v = .pointer (some ⟨A, 9, none⟩),
        fun v _ => v = .pointer (some ⟨A, 0, none⟩),
        fun v _ => v = .pointer (some ⟨A, 0, none⟩),
        fun v _ => v = .pointer (some ⟨A, 10, none⟩),
        fun v _ => v = .pointer (some ⟨A, 10, none⟩),
        fun v _ => v = .pointer (some ⟨A, 0, none⟩),
        fun v _ => v = .pointer (some ⟨A, 0, none⟩),
        fun v _ => v = .pointer (some ⟨A, 10, none⟩),
        fun v _ => v = .pointer (some ⟨A, 11, none⟩),
        fun v _ => v = .pointer (some ⟨A, 0, none⟩),
        fun v _ => v = .pointer (some ⟨A, 0, none⟩),
        fun v _ => v = .pointer (some ⟨A, 12, none⟩),
        fun v _ => v = .pointer (some ⟨A, 12, none⟩),
        fun v _ => v = .pointer (some ⟨A, 0, none⟩),
        fun v _ => v = .pointer (some ⟨A, 0, none⟩),
        fun v _ => v = .pointer (some ⟨A, 12, none⟩),
        fun v _ => v = .pointer (some ⟨A, 13, none⟩),
        fun v _ => v = .pointer (some ⟨A, 0, none⟩),
        fun v _ => v = .pointer (some ⟨A, 0, none⟩),
        fun v _ => v = .pointer (some ⟨A, 14, none⟩),
        fun v _ => v = .slice (some ⟨u1.heap.size, 0, none⟩) 7 7,
        fun v _ => v = .int .i64 7,
        fun v _ => v = .int .i64 0])
      (by kernel_rfl) (by kernel_rfl) (fun v => by simp only [putsV, Act.put, List.toList_toArray, List.setIfInBounds_toArray, List.set_cons_zero, List.set_cons_succ, Nat.reduceAdd, Nat.zero_add]; rfl) ?_ (fun _ _ _ _ _ h => h) (hide rfl) ?_ (fun _ _ _ _ _ _ h => h) (fun L L' u hL h => by rw [← hL 27 (by decide)]; exact h) ?_
    · intro i L j x u u' _ _ _ h
      match j with
      | 0 => exact h
      | 1 => exact h
      | 2 => exact h
      | 3 => exact h
      | 4 => exact h
      | 5 => exact h
      | 6 => exact h
      | 7 => exact h
      | 8 => exact h
      | 9 => exact h
      | 10 => exact h
      | 11 => exact h
      | 12 => exact h
      | 13 => exact h
      | 14 => exact h
      | 15 => exact h
      | 16 => exact h
      | 17 => exact h
      | 18 => exact h
      | 19 => exact h
      | 20 => exact h
      | 21 => exact h
      | 22 => exact h
      | 23 => exact h
      | 24 => exact h
      | 25 => exact h
      | 26 => exact h
      | 27 => exact h
      | 28 => exact h
      | 29 => exact h
      | _ + 30 => trivial
    · refine ⟨?_, ?_, ?_, ?_, ?_, ?_, ?_, ?_, ?_, ?_, ?_, ?_, ?_, ?_, ?_, ?_, ?_, ?_, ?_, ?_, ?_, ?_, ?_, ?_, ?_, ?_, ?_, ?_, ?_, ?_, trivial⟩
      · intro L hL hcl v u hS hd K' hK
        simp only [waited, List.toList_toArray, Region.binds, rel, List.getD_cons_zero, List.getD_cons_succ, true_imp_iff, and_true] at hd
        simp only [rel, List.getD_cons_zero, List.getD_cons_succ, Act.put, List.setIfInBounds_toArray, List.set_cons_zero, List.set_cons_succ] at hK
        try simp only [hd] at hK
        go_simp
        exact hK.out _ _ ⟨hS, trivial, rfl⟩
      · intro L hL hcl v u hS hd K' hK
        simp only [waited, List.toList_toArray, Region.binds, rel, List.getD_cons_zero, List.getD_cons_succ, true_imp_iff, and_true] at hd
        simp only [rel, List.getD_cons_zero, List.getD_cons_succ, Act.put, List.setIfInBounds_toArray, List.set_cons_zero, List.set_cons_succ] at hK
        try simp only [hd] at hK
        go_simp
        exact hK.out _ _ ⟨hS, trivial, rfl⟩
      · intro L hL hcl v u hS hd K' hK
        simp only [waited, List.toList_toArray, Region.binds, rel, List.getD_cons_zero, List.getD_cons_succ, true_imp_iff, and_true] at hd
        simp only [rel, List.getD_cons_zero, List.getD_cons_succ, Act.put, List.setIfInBounds_toArray, List.set_cons_zero, List.set_cons_succ] at hK
        try simp only [hd] at hK
        go_simp
        exact hK.out _ _ ⟨hS, trivial, rfl⟩
      · intro L hL hcl v u hS hd K' hK
        simp only [waited, List.toList_toArray, Region.binds, rel, List.getD_cons_zero, List.getD_cons_succ, true_imp_iff, and_true] at hd
        simp only [rel, List.getD_cons_zero, List.getD_cons_succ, Act.put, List.setIfInBounds_toArray, List.set_cons_zero, List.set_cons_succ] at hK
        try simp only [hd] at hK
        go_simp
        exact hK.out _ _ ⟨hS, trivial, rfl⟩
      · intro L hL hcl v u hS hd K' hK
        simp only [waited, List.toList_toArray, Region.binds, rel, List.getD_cons_zero, List.getD_cons_succ, true_imp_iff, and_true] at hd
        simp only [rel, List.getD_cons_zero, List.getD_cons_succ, Act.put, List.setIfInBounds_toArray, List.set_cons_zero, List.set_cons_succ] at hK
        try simp only [hd] at hK
        go_simp
        exact hK.out _ _ ⟨hS, trivial, rfl⟩
      · intro L hL hcl v u hS hd K' hK
        simp only [waited, List.toList_toArray, Region.binds, rel, List.getD_cons_zero, List.getD_cons_succ, true_imp_iff, and_true] at hd
        simp only [rel, List.getD_cons_zero, List.getD_cons_succ, Act.put, List.setIfInBounds_toArray, List.set_cons_zero, List.set_cons_succ] at hK
        try simp only [hd] at hK
        go_simp
        exact hK.out _ _ ⟨hS, trivial, rfl⟩
      · intro L hL hcl v u hS hd K' hK
        simp only [waited, List.toList_toArray, Region.binds, rel, List.getD_cons_zero, List.getD_cons_succ, true_imp_iff, and_true] at hd
        simp only [rel, List.getD_cons_zero, List.getD_cons_succ, Act.put, List.setIfInBounds_toArray, List.set_cons_zero, List.set_cons_succ] at hK
        try simp only [hd] at hK
        go_simp
        exact hK.out _ _ ⟨hS, trivial, rfl⟩
      · intro L hL hcl v u hS hd K' hK
        simp only [waited, List.toList_toArray, Region.binds, rel, List.getD_cons_zero, List.getD_cons_succ, true_imp_iff, and_true] at hd
        simp only [rel, List.getD_cons_zero, List.getD_cons_succ, Act.put, List.setIfInBounds_toArray, List.set_cons_zero, List.set_cons_succ] at hK
        try simp only [hd] at hK
        go_simp
        exact hK.out _ _ ⟨hS, trivial, rfl⟩
      · intro L hL hcl v u hS hd K' hK
        simp only [waited, List.toList_toArray, Region.binds, rel, List.getD_cons_zero, List.getD_cons_succ, true_imp_iff, and_true] at hd
        simp only [rel, List.getD_cons_zero, List.getD_cons_succ, Act.put, List.setIfInBounds_toArray, List.set_cons_zero, List.set_cons_succ] at hK
        try simp only [hd] at hK
        go_simp
        exact hK.out _ _ ⟨hS, trivial, rfl⟩
      · intro L hL hcl v u hS hd K' hK
        simp only [waited, List.toList_toArray, Region.binds, rel, List.getD_cons_zero, List.getD_cons_succ, true_imp_iff, and_true] at hd
        simp only [rel, List.getD_cons_zero, List.getD_cons_succ, Act.put, List.setIfInBounds_toArray, List.set_cons_zero, List.set_cons_succ] at hK
        try simp only [hd] at hK
        go_simp
        exact hK.out _ _ ⟨hS, trivial, rfl⟩
      · intro L hL hcl v u hS hd K' hK
        simp only [waited, List.toList_toArray, Region.binds, rel, List.getD_cons_zero, List.getD_cons_succ, true_imp_iff, and_true] at hd
        simp only [rel, List.getD_cons_zero, List.getD_cons_succ, Act.put, List.setIfInBounds_toArray, List.set_cons_zero, List.set_cons_succ] at hK
        try simp only [hd] at hK
        go_simp
        exact hK.out _ _ ⟨hS, trivial, rfl⟩
      · intro L hL hcl v u hS hd K' hK
        simp only [waited, List.toList_toArray, Region.binds, rel, List.getD_cons_zero, List.getD_cons_succ, true_imp_iff, and_true] at hd
        simp only [rel, List.getD_cons_zero, List.getD_cons_succ, Act.put, List.setIfInBounds_toArray, List.set_cons_zero, List.set_cons_succ] at hK
        try simp only [hd] at hK
        go_simp
        exact hK.out _ _ ⟨hS, trivial, rfl⟩
      · intro L hL hcl v u hS hd K' hK
        simp only [waited, List.toList_toArray, Region.binds, rel, List.getD_cons_zero, List.getD_cons_succ, true_imp_iff, and_true] at hd
        simp only [rel, List.getD_cons_zero, List.getD_cons_succ, Act.put, List.setIfInBounds_toArray, List.set_cons_zero, List.set_cons_succ] at hK
        try simp only [hd] at hK
        go_simp
        exact hK.out _ _ ⟨hS, trivial, rfl⟩
      · intro L hL hcl v u hS hd K' hK
        simp only [waited, List.toList_toArray, Region.binds, rel, List.getD_cons_zero, List.getD_cons_succ, true_imp_iff, and_true] at hd
        simp only [rel, List.getD_cons_zero, List.getD_cons_succ, Act.put, List.setIfInBounds_toArray, List.set_cons_zero, List.set_cons_succ] at hK
        try simp only [hd] at hK
        go_simp
        exact hK.out _ _ ⟨hS, trivial, rfl⟩
      · intro L hL hcl v u hS hd K' hK
        simp only [waited, List.toList_toArray, Region.binds, rel, List.getD_cons_zero, List.getD_cons_succ, true_imp_iff, and_true] at hd
        simp only [rel, List.getD_cons_zero, List.getD_cons_succ, Act.put, List.setIfInBounds_toArray, List.set_cons_zero, List.set_cons_succ] at hK
        try simp only [hd] at hK
        go_simp
        exact hK.out _ _ ⟨hS, trivial, rfl⟩
      · intro L hL hcl v u hS hd K' hK
        simp only [waited, List.toList_toArray, Region.binds, rel, List.getD_cons_zero, List.getD_cons_succ, true_imp_iff, and_true] at hd
        simp only [rel, List.getD_cons_zero, List.getD_cons_succ, Act.put, List.setIfInBounds_toArray, List.set_cons_zero, List.set_cons_succ] at hK
        try simp only [hd] at hK
        go_simp
        exact hK.out _ _ ⟨hS, trivial, rfl⟩
      · intro L hL hcl v u hS hd K' hK
        simp only [waited, List.toList_toArray, Region.binds, rel, List.getD_cons_zero, List.getD_cons_succ, true_imp_iff, and_true] at hd
        simp only [rel, List.getD_cons_zero, List.getD_cons_succ, Act.put, List.setIfInBounds_toArray, List.set_cons_zero, List.set_cons_succ] at hK
        try simp only [hd] at hK
        go_simp
        exact hK.out _ _ ⟨hS, trivial, rfl⟩
      · intro L hL hcl v u hS hd K' hK
        simp only [waited, List.toList_toArray, Region.binds, rel, List.getD_cons_zero, List.getD_cons_succ, true_imp_iff, and_true] at hd
        simp only [rel, List.getD_cons_zero, List.getD_cons_succ, Act.put, List.setIfInBounds_toArray, List.set_cons_zero, List.set_cons_succ] at hK
        try simp only [hd] at hK
        go_simp
        exact hK.out _ _ ⟨hS, trivial, rfl⟩
      · intro L hL hcl v u hS hd K' hK
        simp only [waited, List.toList_toArray, Region.binds, rel, List.getD_cons_zero, List.getD_cons_succ, true_imp_iff, and_true] at hd
        simp only [rel, List.getD_cons_zero, List.getD_cons_succ, Act.put, List.setIfInBounds_toArray, List.set_cons_zero, List.set_cons_succ] at hK
        try simp only [hd] at hK
        go_simp
        exact hK.out _ _ ⟨hS, trivial, rfl⟩
      · intro L hL hcl v u hS hd K' hK
        simp only [waited, List.toList_toArray, Region.binds, rel, List.getD_cons_zero, List.getD_cons_succ, true_imp_iff, and_true] at hd
        simp only [rel, List.getD_cons_zero, List.getD_cons_succ, Act.put, List.setIfInBounds_toArray, List.set_cons_zero, List.set_cons_succ] at hK
        try simp only [hd] at hK
        go_simp
        exact hK.out _ _ ⟨hS, trivial, rfl⟩
      · intro L hL hcl v u hS hd K' hK
        simp only [waited, List.toList_toArray, Region.binds, rel, List.getD_cons_zero, List.getD_cons_succ, true_imp_iff, and_true] at hd
        simp only [rel, List.getD_cons_zero, List.getD_cons_succ, Act.put, List.setIfInBounds_toArray, List.set_cons_zero, List.set_cons_succ] at hK
        try simp only [hd] at hK
        go_simp
        exact hK.out _ _ ⟨hS, trivial, rfl⟩
      · intro L hL hcl v u hS hd K' hK
        simp only [waited, List.toList_toArray, Region.binds, rel, List.getD_cons_zero, List.getD_cons_succ, true_imp_iff, and_true] at hd
        simp only [rel, List.getD_cons_zero, List.getD_cons_succ, Act.put, List.setIfInBounds_toArray, List.set_cons_zero, List.set_cons_succ] at hK
        try simp only [hd] at hK
        go_simp
        exact hK.out _ _ ⟨hS, trivial, rfl⟩
      · intro L hL hcl v u hS hd K' hK
        simp only [waited, List.toList_toArray, Region.binds, rel, List.getD_cons_zero, List.getD_cons_succ, true_imp_iff, and_true] at hd
        simp only [rel, List.getD_cons_zero, List.getD_cons_succ, Act.put, List.setIfInBounds_toArray, List.set_cons_zero, List.set_cons_succ] at hK
        try simp only [hd] at hK
        go_simp
        exact hK.out _ _ ⟨hS, trivial, rfl⟩
      · intro L hL hcl v u hS hd K' hK
        simp only [waited, List.toList_toArray, Region.binds, rel, List.getD_cons_zero, List.getD_cons_succ, true_imp_iff, and_true] at hd
        simp only [rel, List.getD_cons_zero, List.getD_cons_succ, Act.put, List.setIfInBounds_toArray, List.set_cons_zero, List.set_cons_succ] at hK
        try simp only [hd] at hK
        go_simp
        exact hK.out _ _ ⟨hS, trivial, rfl⟩
      · intro L hL hcl v u hS hd K' hK
        simp only [waited, List.toList_toArray, Region.binds, rel, List.getD_cons_zero, List.getD_cons_succ, true_imp_iff, and_true] at hd
        simp only [rel, List.getD_cons_zero, List.getD_cons_succ, Act.put, List.setIfInBounds_toArray, List.set_cons_zero, List.set_cons_succ] at hK
        try simp only [hd] at hK
        go_simp
        exact hK.out _ _ ⟨hS, trivial, rfl⟩
      · intro L hL hcl v u hS hd K' hK
        simp only [waited, List.toList_toArray, Region.binds, rel, List.getD_cons_zero, List.getD_cons_succ, true_imp_iff, and_true] at hd
        simp only [rel, List.getD_cons_zero, List.getD_cons_succ, Act.put, List.setIfInBounds_toArray, List.set_cons_zero, List.set_cons_succ] at hK
        try simp only [hd] at hK
        go_simp
        exact hK.out _ _ ⟨hS, trivial, rfl⟩
      · intro L hL hcl v u hS hd K' hK
        simp only [waited, List.toList_toArray, Region.binds, rel, List.getD_cons_zero, List.getD_cons_succ, true_imp_iff, and_true] at hd
        simp only [rel, List.getD_cons_zero, List.getD_cons_succ, Act.put, List.setIfInBounds_toArray, List.set_cons_zero, List.set_cons_succ] at hK
        try simp only [hd] at hK
        go_simp
        exact hK.out _ _ ⟨hS, trivial, rfl⟩
      · intro L hL hcl v u hS hd K' hK
        simp only [waited, List.toList_toArray, Region.binds, rel, List.getD_cons_zero, List.getD_cons_succ, true_imp_iff, and_true] at hd
        simp only [rel, List.getD_cons_zero, List.getD_cons_succ, Act.put, List.setIfInBounds_toArray, List.set_cons_zero, List.set_cons_succ] at hK
        try simp only [hd] at hK
        rw [hL] at hS
        have hS' : u = u1.drew := hS.out
        clear hS
        subst hS'
        go_simp
        exact hK.out _ _ ⟨(hide rfl : Hid (u1.drew.alloc (.cells #[.pointer (some ⟨A, 8, none⟩), .pointer (some ⟨A, 9, none⟩), .pointer (some ⟨A, 10, none⟩), .pointer (some ⟨A, 11, none⟩), .pointer (some ⟨A, 12, none⟩), .pointer (some ⟨A, 13, none⟩), .pointer (some ⟨A, 14, none⟩)] 97) = u1.drew.alloc (.cells #[.pointer (some ⟨A, 8, none⟩), .pointer (some ⟨A, 9, none⟩), .pointer (some ⟨A, 10, none⟩), .pointer (some ⟨A, 11, none⟩), .pointer (some ⟨A, 12, none⟩), .pointer (some ⟨A, 13, none⟩), .pointer (some ⟨A, 14, none⟩)] 97))), trivial, rfl⟩
      · intro L hL hcl v u hS hd K' hK
        simp only [waited, List.toList_toArray, Region.binds, rel, List.getD_cons_zero, List.getD_cons_succ, true_imp_iff, and_true] at hd
        simp only [rel, List.getD_cons_zero, List.getD_cons_succ, Act.put, List.setIfInBounds_toArray, List.set_cons_zero, List.set_cons_succ] at hK
        try simp only [hd] at hK
        go_simp
        exact hK.out _ _ ⟨hS, trivial, rfl⟩
      · intro L hL hcl v u hS hd K' hK
        simp only [waited, List.toList_toArray, Region.binds, rel, List.getD_cons_zero, List.getD_cons_succ, true_imp_iff, and_true] at hd
        simp only [rel, List.getD_cons_zero, List.getD_cons_succ, Act.put, List.setIfInBounds_toArray, List.set_cons_zero, List.set_cons_succ] at hK
        try simp only [hd] at hK
        go_simp
        exact hK.out _ _ ⟨hS, trivial, rfl⟩
    · rintro v u hS hR
      simp only [holdAll, List.size_toArray, List.length_cons, List.length_nil, Nat.reduceAdd, rel, List.getD_cons_zero, List.getD_cons_succ] at hR
      obtain ⟨⟨⟨-, h27⟩, h28⟩, h29⟩ := hR
      simp only [h27, h28, h29]
      clear h27 h28 h29
      have hu : u = u1.drew.alloc (.cells #[.pointer (some ⟨A, 8, none⟩), .pointer (some ⟨A, 9, none⟩), .pointer (some ⟨A, 10, none⟩), .pointer (some ⟨A, 11, none⟩), .pointer (some ⟨A, 12, none⟩), .pointer (some ⟨A, 13, none⟩), .pointer (some ⟨A, 14, none⟩)] 97) := hS.out
      clear hS
      have hbu : Below u1.heap.size u1 (u1.drew.alloc (.cells #[.pointer (some ⟨A, 8, none⟩), .pointer (some ⟨A, 9, none⟩), .pointer (some ⟨A, 10, none⟩), .pointer (some ⟨A, 11, none⟩), .pointer (some ⟨A, 12, none⟩), .pointer (some ⟨A, 13, none⟩), .pointer (some ⟨A, 14, none⟩)] 97)) := (Below.refl _ _).drew.alloc (Nat.le_refl _) _
      have hG : Blk (u1.drew.alloc (.cells #[.pointer (some ⟨A, 8, none⟩), .pointer (some ⟨A, 9, none⟩), .pointer (some ⟨A, 10, none⟩), .pointer (some ⟨A, 11, none⟩), .pointer (some ⟨A, 12, none⟩), .pointer (some ⟨A, 13, none⟩), .pointer (some ⟨A, 14, none⟩)] 97)) u1.heap.size [.pointer (some ⟨A, 8, none⟩), .pointer (some ⟨A, 9, none⟩), .pointer (some ⟨A, 10, none⟩), .pointer (some ⟨A, 11, none⟩), .pointer (some ⟨A, 12, none⟩), .pointer (some ⟨A, 13, none⟩), .pointer (some ⟨A, 14, none⟩)] 97 := Blk.new u1.drew _ _
      rw [← hu] at hbu hG
      clear hu
      have hGA : u1.heap.size ≠ A := by have := ha1.lt; omega
      have hGg : u1.heap.size ≠ g := by have := Blk.lt h1; omega
      have h2 : Lb u g ((longL x).2) := Blk.below h1 hbu
      have ha2 : Blk u A (askCells (withV (⟨6, n, c, vr, List.replicate 7 e0⟩ : Ask) (longL x).1)) 30 := ha1.below hbu
      have k2 : Kp2 B g A w u := k1.trans (Kp2.of hbu (by have := ha1.lt; omega))
      obtain ⟨G, hGn⟩ := named u1.heap.size
      rw [← hGn.out] at hG hGA hGg ⊢
      clear hGn h1 ha1 k1 hbu
      go_upto_region 16 with fail
      go_loopw [90] (fun i wr => ∃ j : Nat, j ≤ 7 ∧ i = .int .i64 (j : Int) ∧ Lb wr g (textsL j ((longL x).2)).2 ∧ Blk wr A (askHead (withV (⟨6, n, c, vr, List.replicate 7 e0⟩ : Ask) (longL x).1) ++ strs ((textsL j ((longL x).2)).1 ++ List.replicate (7 - j) e0)) 30 ∧ Blk wr G [.pointer (some ⟨A, 8, none⟩), .pointer (some ⟨A, 9, none⟩), .pointer (some ⟨A, 10, none⟩), .pointer (some ⟨A, 11, none⟩), .pointer (some ⟨A, 12, none⟩), .pointer (some ⟨A, 13, none⟩), .pointer (some ⟨A, 14, none⟩)] 97 ∧ Kp2 B g A w wr) (fun i _ => 7 - (intOf i).toNat)
      case atStart => exact ⟨0, by omega, rfl, h2, ha2, hG, k2⟩
      case round =>
        clear h2 ha2 hG k2
        obtain ⟨j, hj7, rfl, hy, hAj, hGj, hk⟩ := hrel
        have htl := textsL_length j ((longL x).2)
        by_cases hj : j < 7
        · have hj' : (j : Int) < 7 := by omega
          have hj0 : (0 : Int) ≤ (j : Int) := by omega
          have hcj := ptr7 hGj hj
          have hll := textsL_len j ((longL x).2)
          obtain ⟨m, hm9⟩ : ∃ m, 7 - j = m + 1 := ⟨6 - j, by omega⟩
          rw [hm9] at hAj
          have hfa := fill7 (askHead (withV (⟨6, n, c, vr, List.replicate 7 e0⟩ : Ask) (longL x).1)) rfl (textsL j ((longL x).2)).1 m
          have hfs := strs_fill (askHead (withV (⟨6, n, c, vr, List.replicate 7 e0⟩ : Ask) (longL x).1)) (textsL j ((longL x).2)).1 m (str (textL (textsL j ((longL x).2)).2).1)
          rw [htl] at hfa hfs
          have htx := rtext_w (o := 8 + j) hg hA hne hy (by omega) hAj hfa
          rw [show 8 + j = (askHead (withV (⟨6, n, c, vr, List.replicate 7 e0⟩ : Ask) (longL x).1)).length + j from rfl, hfs] at htx
          rw [show (askHead (withV (⟨6, n, c, vr, List.replicate 7 e0⟩ : Ask) (longL x).1)).length + j = 8 + j from rfl] at htx
          have hm := rm_text
          clear hfa hfs htl hll
          go_wp2_with fail
          refine htx.mono ?_
          rintro e w6 ⟨rfl, hy6, hA6, hk6⟩
          have hG6 := hGj.kp2 hk6 hGg hGA
          have hk7 := hk.trans hk6
          clear htx hcj
          go_wp2
          go_roundw
          case rel =>
            refine ⟨j + 1, by omega, by first | rfl | go_num, hy6, ?_, hG6, hk7⟩
            rw [show 7 - (j + 1) = m by omega]
            exact hA6
          case measure => simp [intOf]; omega
        · obtain rfl : j = 7 := by omega
          rw [Nat.sub_self, List.replicate_zero, List.append_nil] at hAj
          clear htl hGj
          go_wp2
          go_end0
          exact ⟨rfl, hy, hAj, hk⟩
end
end Go.Proofs.Ytiodfbbgbnbdpaa
