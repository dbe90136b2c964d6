/- wire.walk at the writer: a query. -/
import Derived.Test.YtiodfbbgbnbdpaaWWalk
import Derived.Test.YtiodfbbgbnbdpaaRWalk2
namespace Go.Proofs.Ytiodfbbgbnbdpaa
set_option linter.unusedSimpArgs false
set_option linter.unusedVariables false
open Go.RowKit
open Crc
theorem txts_succ (l : List ByteArray) {j : Nat} (hj : j < l.length) : txts (l.take (j + 1)) = txts (l.take j) ++ txt (l.getD j e0) ∧ longs (l.take (j + 1)) = (longs (l.take j) || decide (2048 < (l.getD j e0).size)) := by
  have hg : l.getD j e0 = l[j] := by rw [List.getD_eq_getElem?_getD, List.getElem?_eq_getElem hj]; rfl
  rw [hg, List.take_succ_eq_append_getElem hj]
  constructor
  · unfold txts
    rw [List.flatMap_append]
    simp only [List.flatMap_cons, List.flatMap_nil, List.append_nil]
  · unfold longs
    rw [List.any_append]
    simp only [List.any_cons, List.any_nil, Bool.or_false]
theorem txts_len (l : List ByteArray) (M : Nat) (h : ∀ t ∈ l, t.size < M) : (txts l).length ≤ l.length * (M + 4) := by
  induction l with
  | nil => simp [txts]
  | cons t l ih =>
    have h1 := h t (by simp)
    have h2 := ih fun x hx => h x (by simp [hx])
    simp only [txts, List.flatMap_cons, List.length_append, txt_length, List.length_cons] at h2 ⊢
    rw [Nat.succ_mul]
    omega
theorem ask_text {w : World} {A : Nat} {a : Ask} (h : Blk w A (askCells a) 30) (ht : a.ts.length = 7) {j : Nat} (hj : j < 7) : w.cell? ⟨A, 8 + j, none⟩ = some (.string (a.ts.getD j e0)) := by
  rw [h.cell, askCells, show 8 + j = (askHead a).length + j from rfl, List.getElem?_append_right (by omega), Nat.add_sub_cancel_left, strs, List.getElem?_map, List.getD_eq_getElem?_getD, List.getElem?_eq_getElem (by omega)]
  rfl
section
variable {B g A n vr : Nat} {P : Nat → Prop} {bs : List UInt8} {bad : Bool} {c : Chg} {ts : List ByteArray} {w : World}
set_option maxRecDepth 100000 in
set_option maxHeartbeats 1000000 in
theorem wwalk_5 (h : Wr B g P bs bad w) (hA : P A) (ha : Blk w A (askCells ⟨5, n, c, vr, ts⟩) 30) (ht : ts.length = 7) (hsz : ∀ t ∈ ts, t.size < 16777216) (h1 : 1 ≤ bs.length) (hb : bs.length ≤ 100) :
    Calls Try.prog 20 #[.iface 53 (.pointer (some ⟨g, 0, none⟩)), .pointer (some ⟨A, 0, none⟩)] w fun e w' => e = .returned (.tuple #[]) ∧ Wr B g P (bs ++ (encW ⟨5, n, c, vr, ts⟩).1) (bad || (encW ⟨5, n, c, vr, ts⟩).2) w' ∧ KP B P w w' := by
  have xa : w.cell? ⟨A, 0, none⟩ = some (.int .u8 5) := by rw [ha.cell]; rfl
  have he : encW ⟨5, n, c, vr, ts⟩ = (txts ts, longs ts) := rfl
  rw [he]
  have q1 := h
  have q2 := KP.refl B P w
  go_enter Try.func20, Try.ntmps20
  go_wp2_with fail
  clear xa
  refine region_flatS _ (fun L u => Hid (u = cond (L 27) (w.drew.alloc (.cells #[.pointer (some ⟨A, 8, none⟩), .pointer (some ⟨A, 9, none⟩), .pointer (some ⟨A, 10, none⟩), .pointer (some ⟨A, 11, none⟩), .pointer (some ⟨A, 12, none⟩), .pointer (some ⟨A, 13, none⟩), .pointer (some ⟨A, 14, none⟩)] 97)) w.drew)) (fun _ _ _ => True)
    (fun _ => rel [fun v _ => v = .pointer (some ⟨A, 0, none⟩),
      fun v _ => v = .pointer (some ⟨A, 0, none⟩),
      fun v _ => v = .pointer (some ⟨A, 8, none⟩),
      fun v _ => v = .pointer (some ⟨A, 8, none⟩),
      fun v _ => v = .pointer (some ⟨A, 0, none⟩),
      fun v _ => v = .pointer (some ⟨A, 0, none⟩),
      fun v _ => v = .pointer (some ⟨A, 8, none⟩),
      fun v _ => v = .pointer (some ⟨A, 9, none⟩),
      fun v _ => v = .pointer (some ⟨A, 0, none⟩),
      fun v _ => v = .pointer (some ⟨A, 0, none⟩),
      fun v _ => v = .pointer (some ⟨A, 10, none⟩),
      fun v _ => v = .pointer (some ⟨A, 10, none⟩),
      fun v _ => v = .pointer (some ⟨A, 0, none⟩),
      fun v _ => v = .pointer (some ⟨A, 0, none⟩),
      fun v _ => v = .pointer (some ⟨A, 10, none⟩),
      fun v _ => v = .pointer (some ⟨A, 11, none⟩),
      fun v _ => v = .pointer (some ⟨A, 0, none⟩),
      fun v _ => v = .pointer (some ⟨A, 0, none⟩),
      fun v _ => v = .pointer (some ⟨A, 12, none⟩),
      fun v _ => v = .pointer (some ⟨A, 12, none⟩),
      fun v _ => v = .pointer (some ⟨A, 0, none⟩),
      fun v _ => v = .pointer (some ⟨A, 0, none⟩),
      fun v _ => v = .pointer (some ⟨A, 12, none⟩),
      fun v _ => v = .pointer (some ⟨A, 13, none⟩),
      fun v _ => v = .pointer (some ⟨A, 0, none⟩),
      fun v _ => v = .pointer (some ⟨A, 0, none⟩),
      fun v _ => v = .pointer (some ⟨A, 14, none⟩),
      fun v _ => v = .slice (some ⟨w.heap.size, 0, none⟩) 7 7,
      fun v _ => v = .int .i64 7,
      fun v _ => v = .int .i64 0])
    (by kernel_rfl) (by kernel_rfl) (fun v => by simp only [putsV, Act.put, List.toList_toArray, List.setIfInBounds_toArray, List.set_cons_zero, List.set_cons_succ, Nat.reduceAdd, Nat.zero_add]; rfl) ?_ (fun _ _ _ _ _ h => h) (hide rfl) ?_ (fun _ _ _ _ _ _ h => h) (fun L L' u hL h => by rw [← hL 27 (by decide)]; exact h) ?_
  · intro i L j x u u' _ _ _ h
    match j with
    | 0 => exact h
    | 1 => exact h
    | 2 => exact h
    | 3 => exact h
    | 4 => exact h
    | 5 => exact h
    | 6 => exact h
    | 7 => exact h
    | 8 => exact h
    | 9 => exact h
    | 10 => exact h
    | 11 => exact h
    | 12 => exact h
    | 13 => exact h
    | 14 => exact h
    | 15 => exact h
    | 16 => exact h
    | 17 => exact h
    | 18 => exact h
    | 19 => exact h
    | 20 => exact h
    | 21 => exact h
    | 22 => exact h
    | 23 => exact h
    | 24 => exact h
    | 25 => exact h
    | 26 => exact h
    | 27 => exact h
    | 28 => exact h
    | 29 => exact h
    | _ + 30 => trivial
  · refine ⟨?_, ?_, ?_, ?_, ?_, ?_, ?_, ?_, ?_, ?_, ?_, ?_, ?_, ?_, ?_, ?_, ?_, ?_, ?_, ?_, ?_, ?_, ?_, ?_, ?_, ?_, ?_, ?_, ?_, ?_, trivial⟩
    · intro L hL hcl v u hS hd K' hK
      simp only [waited, List.toList_toArray, Region.binds, rel, List.getD_cons_zero, List.getD_cons_succ, true_imp_iff, and_true] at hd
      simp only [rel, List.getD_cons_zero, List.getD_cons_succ, Act.put, List.setIfInBounds_toArray, List.set_cons_zero, List.set_cons_succ] at hK
      try simp only [hd] at hK
      go_simp
      exact hK.out _ _ ⟨hS, trivial, rfl⟩
    · intro L hL hcl v u hS hd K' hK
      simp only [waited, List.toList_toArray, Region.binds, rel, List.getD_cons_zero, List.getD_cons_succ, true_imp_iff, and_true] at hd
      simp only [rel, List.getD_cons_zero, List.getD_cons_succ, Act.put, List.setIfInBounds_toArray, List.set_cons_zero, List.set_cons_succ] at hK
      try simp only [hd] at hK
      go_simp
      exact hK.out _ _ ⟨hS, trivial, rfl⟩
    · intro L hL hcl v u hS hd K' hK
      simp only [waited, List.toList_toArray, Region.binds, rel, List.getD_cons_zero, List.getD_cons_succ, true_imp_iff, and_true] at hd
      simp only [rel, List.getD_cons_zero, List.getD_cons_succ, Act.put, List.setIfInBounds_toArray, List.set_cons_zero, List.set_cons_succ] at hK
      try simp only [hd] at hK
      go_simp
      exact hK.out _ _ ⟨hS, trivial, rfl⟩
    · intro L hL hcl v u hS hd K' hK
      simp only [waited, List.toList_toArray, Region.binds, rel, List.getD_cons_zero, List.getD_cons_succ, true_imp_iff, and_true] at hd
      simp only [rel, List.getD_cons_zero, List.getD_cons_succ, Act.put, List.setIfInBounds_toArray, List.set_cons_zero, List.set_cons_succ] at hK
      try simp only [hd] at hK
      go_simp
      exact hK.out _ _ ⟨hS, trivial, rfl⟩
    · intro L hL hcl v u hS hd K' hK
      simp only [waited, List.toList_toArray, Region.binds, rel, List.getD_cons_zero, List.getD_cons_succ, true_imp_iff, and_true] at hd
      simp only [rel, List.getD_cons_zero, List.getD_cons_succ, Act.put, List.setIfInBounds_toArray, List.set_cons_zero, List.set_cons_succ] at hK
      try simp only [hd] at hK
      go_simp
      exact hK.out _ _ ⟨hS, trivial, rfl⟩
    · intro L hL hcl v u hS hd K' hK
      simp only [waited, List.toList_toArray, Region.binds, rel, List.getD_cons_zero, List.getD_cons_succ, true_imp_iff, and_true] at hd
      simp only [rel, List.getD_cons_zero, List.getD_cons_succ, Act.put, List.setIfInBounds_toArray, List.set_cons_zero, List.set_cons_succ] at hK
      try simp only [hd] at hK
      go_simp
      exact hK.out _ _ ⟨hS, trivial, rfl⟩
    · intro L hL hcl v u hS hd K' hK
      simp only [waited, List.toList_toArray, Region.binds, rel, List.getD_cons_zero, List.getD_cons_succ, true_imp_iff, and_true] at hd
      simp only [rel, List.getD_cons_zero, List.getD_cons_succ, Act.put, List.setIfInBounds_toArray, List.set_cons_zero, List.set_cons_succ] at hK
      try simp only [hd] at hK
      go_simp
      exact hK.out _ _ ⟨hS, trivial, rfl⟩
    · intro L hL hcl v u hS hd K' hK
      simp only [waited, List.toList_toArray, Region.binds, rel, List.getD_cons_zero, List.getD_cons_succ, true_imp_iff, and_true] at hd
      simp only [rel, List.getD_cons_zero, List.getD_cons_succ, Act.put, List.setIfInBounds_toArray, List.set_cons_zero, List.set_cons_succ] at hK
      try simp only [hd] at hK
      go_simp
      exact hK.out _ _ ⟨hS, trivial, rfl⟩
    · intro L hL hcl v u hS hd K' hK
      simp only [waited, List.toList_toArray, Region.binds, rel, List.getD_cons_zero, List.getD_cons_succ, true_imp_iff, and_true] at hd
      simp only [rel, List.getD_cons_zero, List.getD_cons_succ, Act.put, List.setIfInBounds_toArray, List.set_cons_zero, List.set_cons_succ] at hK
      try simp only [hd] at hK
      go_simp
      exact hK.out _ _ ⟨hS, trivial, rfl⟩
    · intro L hL hcl v u hS hd K' hK
      simp only [waited, List.toList_toArray, Region.binds, rel, List.getD_cons_zero, List.getD_cons_succ, true_imp_iff, and_true] at hd
      simp only [rel, List.getD_cons_zero, List.getD_cons_succ, Act.put, List.setIfInBounds_toArray, List.set_cons_zero, List.set_cons_succ] at hK
      try simp only [hd] at hK
      go_simp
      exact hK.out _ _ ⟨hS, trivial, rfl⟩
    · intro L hL hcl v u hS hd K' hK
      simp only [waited, List.toList_toArray, Region.binds, rel, List.getD_cons_zero, List.getD_cons_succ, true_imp_iff, and_true] at hd
      simp only [rel, List.getD_cons_zero, List.getD_cons_succ, Act.put, List.setIfInBounds_toArray, List.set_cons_zero, List.set_cons_succ] at hK
      try simp only [hd] at hK
      go_simp
      exact hK.out _ _ ⟨hS, trivial, rfl⟩
    · intro L hL hcl v u hS hd K' hK
      simp only [waited, List.toList_toArray, Region.binds, rel, List.getD_cons_zero, List.getD_cons_succ, true_imp_iff, and_true] at hd
      simp only [rel, List.getD_cons_zero, List.getD_cons_succ, Act.put, List.setIfInBounds_toArray, List.set_cons_zero, List.set_cons_succ] at hK
      try simp only [hd] at hK
      go_simp
      exact hK.out _ _ ⟨hS, trivial, rfl⟩
    · intro L hL hcl v u hS hd K' hK
      simp only [waited, List.toList_toArray, Region.binds, rel, List.getD_cons_zero, List.getD_cons_succ, true_imp_iff, and_true] at hd
      simp only [rel, List.getD_cons_zero, List.getD_cons_succ, Act.put, List.setIfInBounds_toArray, List.set_cons_zero, List.set_cons_succ] at hK
      try simp only [hd] at hK
      go_simp
      exact hK.out _ _ ⟨hS, trivial, rfl⟩
    · intro L hL hcl v u hS hd K' hK
      simp only [waited, List.toList_toArray, Region.binds, rel, List.getD_cons_zero, List.getD_cons_succ, true_imp_iff, and_true] at hd
      simp only [rel, List.getD_cons_zero, List.getD_cons_succ, Act.put, List.setIfInBounds_toArray, List.set_cons_zero, List.set_cons_succ] at hK
      try simp only [hd] at hK
      go_simp
      exact hK.out _ _ ⟨hS, trivial, rfl⟩
    · intro L hL hcl v u hS hd K' hK
      simp only [waited, List.toList_toArray, Region.binds, rel, List.getD_cons_zero, List.getD_cons_succ, true_imp_iff, and_true] at hd
      simp only [rel, List.getD_cons_zero, List.getD_cons_succ, Act.put, List.setIfInBounds_toArray, List.set_cons_zero, List.set_cons_succ] at hK
      try simp only [hd] at hK
      go_simp
      exact hK.out _ _ ⟨hS, trivial, rfl⟩
    · intro L hL hcl v u hS hd K' hK
      simp only [waited, List.toList_toArray, Region.binds, rel, List.getD_cons_zero, List.getD_cons_succ, true_imp_iff, and_true] at hd
      simp only [rel, List.getD_cons_zero, List.getD_cons_succ, Act.put, List.setIfInBounds_toArray, List.set_cons_zero, List.set_cons_succ] at hK
      try simp only [hd] at hK
      go_simp
      exact hK.out _ _ ⟨hS, trivial, rfl⟩
    · intro L hL hcl v u hS hd K' hK
      simp only [waited, List.toList_toArray, Region.binds, rel, List.getD_cons_zero, List.getD_cons_succ, true_imp_iff, and_true] at hd
      simp only [rel, List.getD_cons_zero, List.getD_cons_succ, Act.put, List.setIfInBounds_toArray, List.set_cons_zero, List.set_cons_succ] at hK
      try simp only [hd] at hK
      go_simp
      exact hK.out _ _ ⟨hS, trivial, rfl⟩
    · intro L hL hcl v u hS hd K' hK
      simp only [waited, List.toList_toArray, Region.binds, rel, List.getD_cons_zero, List.getD_cons_succ, true_imp_iff, and_true] at hd
      simp only [rel, List.getD_cons_zero, List.getD_cons_succ, Act.put, List.setIfInBounds_toArray, List.set_cons_zero, List.set_cons_succ] at hK
      try simp only [hd] at hK
      go_simp
      exact hK.out _ _ ⟨hS, trivial, rfl⟩
    · intro L hL hcl v u hS hd K' hK
      simp only [waited, List.toList_toArray, Region.binds, rel, List.getD_cons_zero, List.getD_cons_succ, true_imp_iff, and_true] at hd
      simp only [rel, List.getD_cons_zero, List.getD_cons_succ, Act.put, List.setIfInBounds_toArray, List.set_cons_zero, List.set_cons_succ] at hK
      try simp only [hd] at hK
      go_simp
      exact hK.out _ _ ⟨hS, trivial, rfl⟩
    · intro L hL hcl v u hS hd K' hK
      simp only [waited, List.toList_toArray, Region.binds, rel, List.getD_cons_zero, List.getD_cons_succ, true_imp_iff, and_true] at hd
      simp only [rel, List.getD_cons_zero, List.getD_cons_succ, Act.put, List.setIfInBounds_toArray, List.set_cons_zero, List.set_cons_succ] at hK
      try simp only [hd] at hK
      go_simp
      exact hK.out _ _ ⟨hS, trivial, rfl⟩
    · intro L hL hcl v u hS hd K' hK
      simp only [waited, List.toList_toArray, Region.binds, rel, List.getD_cons_zero, List.getD_cons_succ, true_imp_iff, and_true] at hd
      simp only [rel, List.getD_cons_zero, List.getD_cons_succ, Act.put, List.setIfInBounds_toArray, List.set_cons_zero, List.set_cons_succ] at hK
      try simp only [hd] at hK
      go_simp
      exact hK.out _ _ ⟨hS, trivial, rfl⟩
    · intro L hL hcl v u hS hd K' hK
      simp only [waited, List.toList_toArray, Region.binds, rel, List.getD_cons_zero, List.getD_cons_succ, true_imp_iff, and_true] at hd
      simp only [rel, List.getD_cons_zero, List.getD_cons_succ, Act.put, List.setIfInBounds_toArray, List.set_cons_zero, List.set_cons_succ] at hK
      try simp only [hd] at hK
      go_simp
      exact hK.out _ _ ⟨hS, trivial, rfl⟩
    · intro L hL hcl v u hS hd K' hK
      simp only [waited, List.toList_toArray, Region.binds, rel, List.getD_cons_zero, List.getD_cons_succ, true_imp_iff, and_true] at hd
      simp only [rel, List.getD_cons_zero, List.getD_cons_succ, Act.put, List.setIfInBounds_toArray, List.set_cons_zero, List.set_cons_succ] at hK
      try simp only [hd] at hK
      go_simp
      exact hK.out _ _ ⟨hS, trivial, rfl⟩
    · intro L hL hcl v u hS hd K' hK
      simp only [waited, List.toList_toArray, Region.binds, rel, List.getD_cons_zero, List.getD_cons_succ, true_imp_iff, and_true] at hd
      simp only [rel, List.getD_cons_zero, List.getD_cons_succ, Act.put, List.setIfInBounds_toArray, List.set_cons_zero, List.set_cons_succ] at hK
      try simp only [hd] at hK
      go_simp
      exact hK.out _ _ ⟨hS, trivial, rfl⟩
    · intro L hL hcl v u hS hd K' hK
      simp only [waited, List.toList_toArray, Region.binds, rel, List.getD_cons_zero, List.getD_cons_succ, true_imp_iff, and_true] at hd
      simp only [rel, List.getD_cons_zero, List.getD_cons_succ, Act.put, List.setIfInBounds_toArray, List.set_cons_zero, List.set_cons_succ] at hK
      try simp only [hd] at hK
      go_simp
      exact hK.out _ _ ⟨hS, trivial, rfl⟩
    · intro L hL hcl v u hS hd K' hK
      simp only [waited, List.toList_toArray, Region.binds, rel, List.getD_cons_zero, List.getD_cons_succ, true_imp_iff, and_true] at hd
      simp only [rel, List.getD_cons_zero, List.getD_cons_succ, Act.put, List.setIfInBounds_toArray, List.set_cons_zero, List.set_cons_succ] at hK
      try simp only [hd] at hK
      go_simp
      exact hK.out _ _ ⟨hS, trivial, rfl⟩
    · intro L hL hcl v u hS hd K' hK
      simp only [waited, List.toList_toArray, Region.binds, rel, List.getD_cons_zero, List.getD_cons_succ, true_imp_iff, and_true] at hd
      simp only [rel, List.getD_cons_zero, List.getD_cons_succ, Act.put, List.setIfInBounds_toArray, List.set_cons_zero, List.set_cons_succ] at hK
      try simp only [hd] at hK
      go_simp
      exact hK.out _ _ ⟨hS, trivial, rfl⟩
    · intro L hL hcl v u hS hd K' hK
      simp only [waited, List.toList_toArray, Region.binds, rel, List.getD_cons_zero, List.getD_cons_succ, true_imp_iff, and_true] at hd
      simp only [rel, List.getD_cons_zero, List.getD_cons_succ, Act.put, List.setIfInBounds_toArray, List.set_cons_zero, List.set_cons_succ] at hK
      try simp only [hd] at hK
      rw [hL] at hS
      have hS' : u = w.drew := hS.out
      clear hS
      subst hS'
      go_simp
      exact hK.out _ _ ⟨(hide rfl : Hid (w.drew.alloc (.cells #[.pointer (some ⟨A, 8, none⟩), .pointer (some ⟨A, 9, none⟩), .pointer (some ⟨A, 10, none⟩), .pointer (some ⟨A, 11, none⟩), .pointer (some ⟨A, 12, none⟩), .pointer (some ⟨A, 13, none⟩), .pointer (some ⟨A, 14, none⟩)] 97) = w.drew.alloc (.cells #[.pointer (some ⟨A, 8, none⟩), .pointer (some ⟨A, 9, none⟩), .pointer (some ⟨A, 10, none⟩), .pointer (some ⟨A, 11, none⟩), .pointer (some ⟨A, 12, none⟩), .pointer (some ⟨A, 13, none⟩), .pointer (some ⟨A, 14, none⟩)] 97))), trivial, rfl⟩
    · intro L hL hcl v u hS hd K' hK
      simp only [waited, List.toList_toArray, Region.binds, rel, List.getD_cons_zero, List.getD_cons_succ, true_imp_iff, and_true] at hd
      simp only [rel, List.getD_cons_zero, List.getD_cons_succ, Act.put, List.setIfInBounds_toArray, List.set_cons_zero, List.set_cons_succ] at hK
      try simp only [hd] at hK
      go_simp
      exact hK.out _ _ ⟨hS, trivial, rfl⟩
    · intro L hL hcl v u hS hd K' hK
      simp only [waited, List.toList_toArray, Region.binds, rel, List.getD_cons_zero, List.getD_cons_succ, true_imp_iff, and_true] at hd
      simp only [rel, List.getD_cons_zero, List.getD_cons_succ, Act.put, List.setIfInBounds_toArray, List.set_cons_zero, List.set_cons_succ] at hK
      try simp only [hd] at hK
      go_simp
      exact hK.out _ _ ⟨hS, trivial, rfl⟩
  · rintro v u hS hR
    simp only [holdAll, List.size_toArray, List.length_cons, List.length_nil, Nat.reduceAdd, rel, List.getD_cons_zero, List.getD_cons_succ] at hR
    obtain ⟨⟨⟨-, h27⟩, h28⟩, h29⟩ := hR
    simp only [h27, h28, h29]
    clear h27 h28 h29
    have hu : u = w.drew.alloc (.cells #[.pointer (some ⟨A, 8, none⟩), .pointer (some ⟨A, 9, none⟩), .pointer (some ⟨A, 10, none⟩), .pointer (some ⟨A, 11, none⟩), .pointer (some ⟨A, 12, none⟩), .pointer (some ⟨A, 13, none⟩), .pointer (some ⟨A, 14, none⟩)] 97) := hS.out
    clear hS
    have hbu : Below w.heap.size w (w.drew.alloc (.cells #[.pointer (some ⟨A, 8, none⟩), .pointer (some ⟨A, 9, none⟩), .pointer (some ⟨A, 10, none⟩), .pointer (some ⟨A, 11, none⟩), .pointer (some ⟨A, 12, none⟩), .pointer (some ⟨A, 13, none⟩), .pointer (some ⟨A, 14, none⟩)] 97)) := (Below.refl _ _).drew.alloc (Nat.le_refl _) _
    have hG : Blk (w.drew.alloc (.cells #[.pointer (some ⟨A, 8, none⟩), .pointer (some ⟨A, 9, none⟩), .pointer (some ⟨A, 10, none⟩), .pointer (some ⟨A, 11, none⟩), .pointer (some ⟨A, 12, none⟩), .pointer (some ⟨A, 13, none⟩), .pointer (some ⟨A, 14, none⟩)] 97)) w.heap.size [.pointer (some ⟨A, 8, none⟩), .pointer (some ⟨A, 9, none⟩), .pointer (some ⟨A, 10, none⟩), .pointer (some ⟨A, 11, none⟩), .pointer (some ⟨A, 12, none⟩), .pointer (some ⟨A, 13, none⟩), .pointer (some ⟨A, 14, none⟩)] 97 := Blk.new w.drew _ _
    rw [← hu] at hbu hG
    clear hu
    have hn := BuT.add q1 hbu (Nat.le_refl _) hG.lt (small_blk hG (by decide))
    have k2 : KP B P w u := q2.trans (KP.of hbu q1.isP.2 q1.isP.1)
    have ha2 := ha.kP k2 hA
    obtain ⟨G, hGn⟩ := named w.heap.size
    rw [← hGn.out] at hG hn ⊢
    clear hGn q1 q2 hbu
    have hn2 : Wr B g (fun i => P i ∨ i = G) (bs ++ txts (ts.take 0)) (bad || longs (ts.take 0)) u := by simp only [List.take_zero, txts, longs, List.flatMap_nil, List.any_nil, List.append_nil, Bool.or_false]; exact hn
    clear hn
    have ht7 : ts.take 7 = ts := List.take_of_length_le (by omega)
    have hbl : (bs).length ≤ 200 := by first | (rw [List.length_append, putL_length]; omega) | omega
    go_upto_region 16 with fail
    go_loopw [90] (fun i wr => ∃ j : Nat, j ≤ 7 ∧ i = .int .i64 (j : Int) ∧ Wr B g (fun i => P i ∨ i = G) (bs ++ txts (ts.take j)) (bad || longs (ts.take j)) wr ∧ Blk wr A (askCells ⟨5, n, c, vr, ts⟩) 30 ∧ Blk wr G [.pointer (some ⟨A, 8, none⟩), .pointer (some ⟨A, 9, none⟩), .pointer (some ⟨A, 10, none⟩), .pointer (some ⟨A, 11, none⟩), .pointer (some ⟨A, 12, none⟩), .pointer (some ⟨A, 13, none⟩), .pointer (some ⟨A, 14, none⟩)] 97 ∧ KP B P w wr) (fun i _ => 7 - (intOf i).toNat)
    case atStart => exact ⟨0, by omega, rfl, hn2, ha2, hG, k2⟩
    case round =>
      clear hn2 ha2 hG k2
      obtain ⟨j, hj7, rfl, hy, hAj, hGj, hk⟩ := hrel
      by_cases hj : j < 7
      · have hj' : (j : Int) < 7 := by omega
        have hj0 : (0 : Int) ≤ (j : Int) := by omega
        have hcj := ptr7 hGj hj
        have hct := ask_text hAj ht hj
        have hsu := txts_succ ts (j := j) (by omega)
        have hsz1 : (ts.getD j e0).size < 16777216 := by
          have hm : ts.getD j e0 ∈ ts := by rw [List.getD_eq_getElem?_getD, List.getElem?_eq_getElem (by omega : j < ts.length)]; exact List.getElem_mem _
          exact hsz _ hm
        have hlen := txts_len (ts.take j) 16777216 (fun t htt => hsz t (List.mem_of_mem_take htt))
        have hlj : (ts.take j).length ≤ 7 := by rw [List.length_take]; omega
        have htx := wtext_w B g A (8 + j) (fun i => P i ∨ i = G) (bs ++ txts (ts.take j)) (bad || longs (ts.take j)) (ts.getD j e0) _ hy (.inl hA) hct (by omega) (by rw [List.length_append]; have : (ts.take j).length * (16777216 + 4) ≤ 7 * (16777216 + 4) := Nat.mul_le_mul_right _ hlj; omega)
        rw [List.append_assoc, ← hsu.1, Bool.or_assoc, ← hsu.2] at htx
        have hm := wm_text
        clear hct hsu hsz1 hlen hlj
        go_wp2_with fail
        refine htx.mono ?_
        rintro e w6 ⟨rfl, hy6, hk6⟩
        have hG6 := hGj.kP hk6 (.inr rfl)
        have hA6 := hAj.kP hk6 (.inl hA)
        have hk7 := hk.trans (hk6.weak fun i hi => .inl hi)
        clear htx hcj
        go_wp2
        go_roundw
        case rel => exact ⟨j + 1, by omega, by first | rfl | go_num, hy6, hA6, hG6, hk7⟩
        case measure => simp [intOf]; omega
      · obtain rfl : j = 7 := by omega
        rw [ht7] at hy
        have hz : Wr B g P (bs ++ txts ts) (bad || longs ts) wr := BuT.weak hy fun i hi => .inl hi
        clear hGj hj hy hAj
        go_wp2
        go_end0
        exact ⟨rfl, by first | exact hz | (rw [← List.append_assoc]; exact hz), hk⟩
set_option maxRecDepth 100000 in
set_option maxHeartbeats 1000000 in
theorem wwalk_6 (h : Wr B g P bs bad w) (hA : P A) (ha : Blk w A (askCells ⟨6, n, c, vr, ts⟩) 30) (ht : ts.length = 7) (hsz : ∀ t ∈ ts, t.size < 16777216) (h1 : 1 ≤ bs.length) (hb : bs.length ≤ 100) :
    Calls Try.prog 20 #[.iface 53 (.pointer (some ⟨g, 0, none⟩)), .pointer (some ⟨A, 0, none⟩)] w fun e w' => e = .returned (.tuple #[]) ∧ Wr B g P (bs ++ (encW ⟨6, n, c, vr, ts⟩).1) (bad || (encW ⟨6, n, c, vr, ts⟩).2) w' ∧ KP B P w w' := by
  have xa : w.cell? ⟨A, 0, none⟩ = some (.int .u8 6) := by rw [ha.cell]; rfl
  have xn : w.cell? ⟨A, 7, none⟩ = some (.int .u64 (vr : Int)) := by rw [ha.cell]; rfl
  have he : encW ⟨6, n, c, vr, ts⟩ = (putL vr 8 ++ txts ts, longs ts) := rfl
  rw [he]
  have h0 : Wr B g P bs bad w.drew := h
  go_enter Try.func20, Try.ntmps20
  go_wp2_with fail
  refine region_flatS _ (fun L u => Wr B g P (cond (L 7) (bs ++ putL vr 8) bs) bad u ∧ KP B P w u) (fun _ _ _ => True)
    (fun _ => rel [fun v _ => v = .iface 53 (.pointer (some ⟨g, 0, none⟩)),
      fun v _ => v = .pointer (some ⟨A, 0, none⟩),
      fun v _ => v = .pointer (some ⟨A, 0, none⟩),
      fun v _ => v = .pointer (some ⟨A, 7, none⟩),
      fun v _ => v = .func (Fn.method "lictor/wire.long") #[.iface 53 (.pointer (some ⟨g, 0, none⟩))] #[],
      fun v _ => v = .func (Fn.method "lictor/wire.long") #[.iface 53 (.pointer (some ⟨g, 0, none⟩))] #[],
      fun v _ => v = .iface 53 (.pointer (some ⟨g, 0, none⟩)),
      fun _ _ => True])
    (by kernel_rfl) (by kernel_rfl) (fun v => by simp only [putsV, Act.put, List.toList_toArray, List.setIfInBounds_toArray, List.set_cons_zero, List.set_cons_succ, Nat.reduceAdd, Nat.zero_add]; rfl) ?_ (fun _ _ _ _ _ h => h) ⟨h0, (KP.refl _ _ _).drew⟩ ?_ (fun _ _ _ _ _ _ h => h) (fun L L' u hL h => by rw [← hL 7 (by decide)]; exact h) ?_
  · intro i L j x u u' _ _ _ h
    match j with
    | 0 => exact h
    | 1 => exact h
    | 2 => exact h
    | 3 => exact h
    | 4 => exact h
    | 5 => exact h
    | 6 => exact h
    | 7 => exact h
    | _ + 8 => trivial
  · refine ⟨?_, ?_, ?_, ?_, ?_, ?_, ?_, ?_, trivial⟩
    · intro L hL hcl v u hS hd K' hK
      simp only [waited, List.toList_toArray, Region.binds, rel, List.getD_cons_zero, List.getD_cons_succ, true_imp_iff, and_true] at hd
      simp only [rel, List.getD_cons_zero, List.getD_cons_succ, Act.put, List.setIfInBounds_toArray, List.set_cons_zero, List.set_cons_succ] at hK
      try simp only [hd] at hK
      have hmf := make_func
      have hm := wm_long
      go_simp
      exact hK.out _ _ ⟨hS, trivial, rfl⟩
    · intro L hL hcl v u hS hd K' hK
      simp only [waited, List.toList_toArray, Region.binds, rel, List.getD_cons_zero, List.getD_cons_succ, true_imp_iff, and_true] at hd
      simp only [rel, List.getD_cons_zero, List.getD_cons_succ, Act.put, List.setIfInBounds_toArray, List.set_cons_zero, List.set_cons_succ] at hK
      try simp only [hd] at hK
      have hmf := make_func
      have hm := wm_long
      go_simp
      exact hK.out _ _ ⟨hS, trivial, rfl⟩
    · intro L hL hcl v u hS hd K' hK
      simp only [waited, List.toList_toArray, Region.binds, rel, List.getD_cons_zero, List.getD_cons_succ, true_imp_iff, and_true] at hd
      simp only [rel, List.getD_cons_zero, List.getD_cons_succ, Act.put, List.setIfInBounds_toArray, List.set_cons_zero, List.set_cons_succ] at hK
      try simp only [hd] at hK
      have hmf := make_func
      have hm := wm_long
      go_simp
      exact hK.out _ _ ⟨hS, trivial, rfl⟩
    · intro L hL hcl v u hS hd K' hK
      simp only [waited, List.toList_toArray, Region.binds, rel, List.getD_cons_zero, List.getD_cons_succ, true_imp_iff, and_true] at hd
      simp only [rel, List.getD_cons_zero, List.getD_cons_succ, Act.put, List.setIfInBounds_toArray, List.set_cons_zero, List.set_cons_succ] at hK
      try simp only [hd] at hK
      have hmf := make_func
      have hm := wm_long
      go_simp
      exact hK.out _ _ ⟨hS, trivial, rfl⟩
    · intro L hL hcl v u hS hd K' hK
      simp only [waited, List.toList_toArray, Region.binds, rel, List.getD_cons_zero, List.getD_cons_succ, true_imp_iff, and_true] at hd
      simp only [rel, List.getD_cons_zero, List.getD_cons_succ, Act.put, List.setIfInBounds_toArray, List.set_cons_zero, List.set_cons_succ] at hK
      try simp only [hd] at hK
      have hmf := make_func
      have hm := wm_long
      go_simp
      exact hK.out _ _ ⟨hS, trivial, rfl⟩
    · intro L hL hcl v u hS hd K' hK
      simp only [waited, List.toList_toArray, Region.binds, rel, List.getD_cons_zero, List.getD_cons_succ, true_imp_iff, and_true] at hd
      simp only [rel, List.getD_cons_zero, List.getD_cons_succ, Act.put, List.setIfInBounds_toArray, List.set_cons_zero, List.set_cons_succ] at hK
      try simp only [hd] at hK
      have hmf := make_func
      have hm := wm_long
      go_simp
      exact hK.out _ _ ⟨hS, trivial, rfl⟩
    · intro L hL hcl v u hS hd K' hK
      simp only [waited, List.toList_toArray, Region.binds, rel, List.getD_cons_zero, List.getD_cons_succ, true_imp_iff, and_true] at hd
      simp only [rel, List.getD_cons_zero, List.getD_cons_succ, Act.put, List.setIfInBounds_toArray, List.set_cons_zero, List.set_cons_succ] at hK
      try simp only [hd] at hK
      have hmf := make_func
      have hm := wm_long
      go_simp
      exact hK.out _ _ ⟨hS, trivial, rfl⟩
    · intro L hL hcl v u hS hd K' hK
      simp only [waited, List.toList_toArray, Region.binds, rel, List.getD_cons_zero, List.getD_cons_succ, true_imp_iff, and_true] at hd
      simp only [rel, List.getD_cons_zero, List.getD_cons_succ, Act.put, List.setIfInBounds_toArray, List.set_cons_zero, List.set_cons_succ] at hK
      try simp only [hd] at hK
      have hmf := make_func
      have hm := wm_long
      obtain ⟨q1, q2⟩ := hS
      rw [hL] at q1
      have q1' : Wr B g P (bs) bad u := q1
      go_simp
      refine (wlong_w B g A 7 P (bs) bad vr u q1' hA ((q2.cell hA).trans xn) (by omega)).mono ?_
      rintro e w2 ⟨rfl, h2, h3⟩
      exact hK.out _ _ ⟨⟨h2, q2.trans h3⟩, trivial, trivial⟩
  · rintro v u hS hR
    simp only [holdAll, List.size_toArray, List.length_cons, List.length_nil, Nat.reduceAdd, rel, List.getD_cons_zero, List.getD_cons_succ] at hR
    clear hR xa xn
    obtain ⟨q1, q2⟩ := hS
    obtain ⟨u1, hu1⟩ := named u
    rw [← hu1.out] at q1 q2 ⊢
    clear hu1
    replace q1 : Wr B g P (bs ++ putL vr 8) bad u1 := q1
    go_wp2_with fail
    refine region_flatS _ (fun L u => Hid (u = cond (L 27) (u1.drew.alloc (.cells #[.pointer (some ⟨A, 8, none⟩), .pointer (some ⟨A, 9, none⟩), .pointer (some ⟨A, 10, none⟩), .pointer (some ⟨A, 11, none⟩), .pointer (some ⟨A, 12, none⟩), .pointer (some ⟨A, 13, none⟩), .pointer (some ⟨A, 14, none⟩)] 97)) u1.drew)) (fun _ _ _ => True)
      (fun _ => rel [fun v _ => v = .pointer (some ⟨A, 0, none⟩),
        fun v _ => v = .pointer (some ⟨A, 0, none⟩),
        fun v _ => v = .pointer (some ⟨A, 8, none⟩),
        fun v _ => v = .pointer (some ⟨A, 8, none⟩),
        fun v _ => v = .pointer (some ⟨A, 0, none⟩),
        fun v _ => v = .pointer (some ⟨A, 0, none⟩),
        fun v _ => v = .pointer (some ⟨A, 8, none⟩),
        fun v _ => v = .pointer (some ⟨A, 9, none⟩),
        fun v _ => v = .pointer (some ⟨A, 0, none⟩),
        fun v _ => v = .pointer (some ⟨A, 0, none⟩),
        fun v _ => v = .pointer (some ⟨A, 10, none⟩),
        fun v _ => v = .pointer (some ⟨A, 10, none⟩),
        fun v _ => v = .pointer (some ⟨A, 0, none⟩),
        fun v _ => v = .pointer (some ⟨A, 0, none⟩),
        fun v _ => v = .pointer (some ⟨A, 10, none⟩),
        fun v _ => v = .pointer (some ⟨A, 11, none⟩),
        fun v _ => v = .pointer (some ⟨A, 0, none⟩),
        fun v _ => v = .pointer (some ⟨A, 0, none⟩),
        fun v _ => v = .pointer (some ⟨A, 12, none⟩),
        fun v _ => v = .pointer (some ⟨A, 12, none⟩),
        fun v _ => v = .pointer (some ⟨A, 0, none⟩),
        fun v _ => v = .pointer (some ⟨A, 0, none⟩),
        fun v _ => v = .pointer (some ⟨A, 12, none⟩),
        fun v _ => v = .pointer (some ⟨A, 13, none⟩),
        fun v _ => v = .pointer (some ⟨A, 0, none⟩),
        fun v _ => v = .pointer (some ⟨A, 0, none⟩),
        fun v _ => v = .pointer (some ⟨A, 14, none⟩),
        fun v _ => v = .slice (some ⟨u1.heap.size, 0, none⟩) 7 7,
        fun v _ => v = .int .i64 7,
        fun v _ => v = .int .i64 0])
      (by kernel_rfl) (by kernel_rfl) (fun v => by simp only [putsV, Act.put, List.toList_toArray, List.setIfInBounds_toArray, List.set_cons_zero, List.set_cons_succ, Nat.reduceAdd, Nat.zero_add]; rfl) ?_ (fun _ _ _ _ _ h => h) (hide rfl) ?_ (fun _ _ _ _ _ _ h => h) (fun L L' u hL h => by rw [← hL 27 (by decide)]; exact h) ?_
    · intro i L j x u u' _ _ _ h
      match j with
      | 0 => exact h
      | 1 => exact h
      | 2 => exact h
      | 3 => exact h
      | 4 => exact h
      | 5 => exact h
      | 6 => exact h
      | 7 => exact h
      | 8 => exact h
      | 9 => exact h
      | 10 => exact h
      | 11 => exact h
      | 12 => exact h
      | 13 => exact h
      | 14 => exact h
      | 15 => exact h
      | 16 => exact h
      | 17 => exact h
      | 18 => exact h
      | 19 => exact h
      | 20 => exact h
      | 21 => exact h
      | 22 => exact h
      | 23 => exact h
      | 24 => exact h
      | 25 => exact h
      | 26 => exact h
      | 27 => exact h
      | 28 => exact h
      | 29 => exact h
      | _ + 30 => trivial
    · refine ⟨?_, ?_, ?_, ?_, ?_, ?_, ?_, ?_, ?_, ?_, ?_, ?_, ?_, ?_, ?_, ?_, ?_, ?_, ?_, ?_, ?_, ?_, ?_, ?_, ?_, ?_, ?_, ?_, ?_, ?_, trivial⟩
      · intro L hL hcl v u hS hd K' hK
        simp only [waited, List.toList_toArray, Region.binds, rel, List.getD_cons_zero, List.getD_cons_succ, true_imp_iff, and_true] at hd
        simp only [rel, List.getD_cons_zero, List.getD_cons_succ, Act.put, List.setIfInBounds_toArray, List.set_cons_zero, List.set_cons_succ] at hK
        try simp only [hd] at hK
        go_simp
        exact hK.out _ _ ⟨hS, trivial, rfl⟩
      · intro L hL hcl v u hS hd K' hK
        simp only [waited, List.toList_toArray, Region.binds, rel, List.getD_cons_zero, List.getD_cons_succ, true_imp_iff, and_true] at hd
        simp only [rel, List.getD_cons_zero, List.getD_cons_succ, Act.put, List.setIfInBounds_toArray, List.set_cons_zero, List.set_cons_succ] at hK
        try simp only [hd] at hK
        go_simp
        exact hK.out _ _ ⟨hS, trivial, rfl⟩
      · intro L hL hcl v u hS hd K' hK
        simp only [waited, List.toList_toArray, Region.binds, rel, List.getD_cons_zero, List.getD_cons_succ, true_imp_iff, and_true] at hd
        simp only [rel, List.getD_cons_zero, List.getD_cons_succ, Act.put, List.setIfInBounds_toArray, List.set_cons_zero, List.set_cons_succ] at hK
        try simp only [hd] at hK
        go_simp
        exact hK.out _ _ ⟨hS, trivial, rfl⟩
      · intro L hL hcl v u hS hd K' hK
        simp only [waited, List.toList_toArray, Region.binds, rel, List.getD_cons_zero, List.getD_cons_succ, true_imp_iff, and_true] at hd
        simp only [rel, List.getD_cons_zero, List.getD_cons_succ, Act.put, List.setIfInBounds_toArray, List.set_cons_zero, List.set_cons_succ] at hK
        try simp only [hd] at hK
        go_simp
        exact hK.out _ _ ⟨hS, trivial, rfl⟩
      · intro L hL hcl v u hS hd K' hK
        simp only [waited, List.toList_toArray, Region.binds, rel, List.getD_cons_zero, List.getD_cons_succ, true_imp_iff, and_true] at hd
        simp only [rel, List.getD_cons_zero, List.getD_cons_succ, Act.put, List.setIfInBounds_toArray, List.set_cons_zero, List.set_cons_succ] at hK
        try simp only [hd] at hK
        go_simp
        exact hK.out _ _ ⟨hS, trivial, rfl⟩
      · intro L hL hcl v u hS hd K' hK
        simp only [waited, List.toList_toArray, Region.binds, rel, List.getD_cons_zero, List.getD_cons_succ, true_imp_iff, and_true] at hd
        simp only [rel, List.getD_cons_zero, List.getD_cons_succ, Act.put, List.setIfInBounds_toArray, List.set_cons_zero, List.set_cons_succ] at hK
        try simp only [hd] at hK
        go_simp
        exact hK.out _ _ ⟨hS, trivial, rfl⟩
      · intro L hL hcl v u hS hd K' hK
        simp only [waited, List.toList_toArray, Region.binds, rel, List.getD_cons_zero, List.getD_cons_succ, true_imp_iff, and_true] at hd
        simp only [rel, List.getD_cons_zero, List.getD_cons_succ, Act.put, List.setIfInBounds_toArray, List.set_cons_zero, List.set_cons_succ] at hK
        try simp only [hd] at hK
        go_simp
        exact hK.out _ _ ⟨hS, trivial, rfl⟩
      · intro L hL hcl v u hS hd K' hK
        simp only [waited, List.toList_toArray, Region.binds, rel, List.getD_cons_zero, List.getD_cons_succ, true_imp_iff, and_true] at hd
        simp only [rel, List.getD_cons_zero, List.getD_cons_succ, Act.put, List.setIfInBounds_toArray, List.set_cons_zero, List.set_cons_succ] at hK
        try simp only [hd] at hK
        go_simp
        exact hK.out _ _ ⟨hS, trivial, rfl⟩
      · intro L hL hcl v u hS hd K' hK
        simp only [waited, List.toList_toArray, Region.binds, rel, List.getD_cons_zero, List.getD_cons_succ, true_imp_iff, and_true] at hd
        simp only [rel, List.getD_cons_zero, List.getD_cons_succ, Act.put, List.setIfInBounds_toArray, List.set_cons_zero, List.set_cons_succ] at hK
        try simp only [hd] at hK
        go_simp
        exact hK.out _ _ ⟨hS, trivial, rfl⟩
      · intro L hL hcl v u hS hd K' hK
        simp only [waited, List.toList_toArray, Region.binds, rel, List.getD_cons_zero, List.getD_cons_succ, true_imp_iff, and_true] at hd
        simp only [rel, List.getD_cons_zero, List.getD_cons_succ, Act.put, List.setIfInBounds_toArray, List.set_cons_zero, List.set_cons_succ] at hK
        try simp only [hd] at hK
        go_simp
        exact hK.out _ _ ⟨hS, trivial, rfl⟩
      · intro L hL hcl v u hS hd K' hK
        simp only [waited, List.toList_toArray, Region.binds, rel, List.getD_cons_zero, List.getD_cons_succ, true_imp_iff, and_true] at hd
        simp only [rel, List.getD_cons_zero, List.getD_cons_succ, Act.put, List.setIfInBounds_toArray, List.set_cons_zero, List.set_cons_succ] at hK
        try simp only [hd] at hK
        go_simp
        exact hK.out _ _ ⟨hS, trivial, rfl⟩
      · intro L hL hcl v u hS hd K' hK
        simp only [waited, List.toList_toArray, Region.binds, rel, List.getD_cons_zero, List.getD_cons_succ, true_imp_iff, and_true] at hd
        simp only [rel, List.getD_cons_zero, List.getD_cons_succ, Act.put, List.setIfInBounds_toArray, List.set_cons_zero, List.set_cons_succ] at hK
        try simp only [hd] at hK
        go_simp
        exact hK.out _ _ ⟨hS, trivial, rfl⟩
      · intro L hL hcl v u hS hd K' hK
        simp only [waited, List.toList_toArray, Region.binds, rel, List.getD_cons_zero, List.getD_cons_succ, true_imp_iff, and_true] at hd
        simp only [rel, List.getD_cons_zero, List.getD_cons_succ, Act.put, List.setIfInBounds_toArray, List.set_cons_zero, List.set_cons_succ] at hK
        try simp only [hd] at hK
        go_simp
        exact hK.out _ _ ⟨hS, trivial, rfl⟩
      · intro L hL hcl v u hS hd K' hK
        simp only [waited, List.toList_toArray, Region.binds, rel, List.getD_cons_zero, List.getD_cons_succ, true_imp_iff, and_true] at hd
        simp only [rel, List.getD_cons_zero, List.getD_cons_succ, Act.put, List.setIfInBounds_toArray, List.set_cons_zero, List.set_cons_succ] at hK
        try simp only [hd] at hK
        go_simp
        exact hK.out _ _ ⟨hS, trivial, rfl⟩
      · intro L hL hcl v u hS hd K' hK
        simp only [waited, List.toList_toArray, Region.binds, rel, List.getD_cons_zero, List.getD_cons_succ, true_imp_iff, and_true] at hd
        simp only [rel, List.getD_cons_zero, List.getD_cons_succ, Act.put, List.setIfInBounds_toArray, List.set_cons_zero, List.set_cons_succ] at hK
        try simp only [hd] at hK
        go_simp
        exact hK.out _ _ ⟨hS, trivial, rfl⟩
      · intro L hL hcl v u hS hd K' hK
        simp only [waited, List.toList_toArray, Region.binds, rel, List.getD_cons_zero, List.getD_cons_succ, true_imp_iff, and_true] at hd
        simp only [rel, List.getD_cons_zero, List.getD_cons_succ, Act.put, List.setIfInBounds_toArray, List.set_cons_zero, List.set_cons_succ] at hK
        try simp only [hd] at hK
        go_simp
        exact hK.out _ _ ⟨hS, trivial, rfl⟩
      · intro L hL hcl v u hS hd K' hK
        simp only [waited, List.toList_toArray, Region.binds, rel, List.getD_cons_zero, List.getD_cons_succ, true_imp_iff, and_true] at hd
        simp only [rel, List.getD_cons_zero, List.getD_cons_succ, Act.put, List.setIfInBounds_toArray, List.set_cons_zero, List.set_cons_succ] at hK
        try simp only [hd] at hK
        go_simp
        exact hK.out _ _ ⟨hS, trivial, rfl⟩
      · intro L hL hcl v u hS hd K' hK
        simp only [waited, List.toList_toArray, Region.binds, rel, List.getD_cons_zero, List.getD_cons_succ, true_imp_iff, and_true] at hd
        simp only [rel, List.getD_cons_zero, List.getD_cons_succ, Act.put, List.setIfInBounds_toArray, List.set_cons_zero, List.set_cons_succ] at hK
        try simp only [hd] at hK
        go_simp
        exact hK.out _ _ ⟨hS, trivial, rfl⟩
      · intro L hL hcl v u hS hd K' hK
        simp only [waited, List.toList_toArray, Region.binds, rel, List.getD_cons_zero, List.getD_cons_succ, true_imp_iff, and_true] at hd
        simp only [rel, List.getD_cons_zero, List.getD_cons_succ, Act.put, List.setIfInBounds_toArray, List.set_cons_zero, List.set_cons_succ] at hK
        try simp only [hd] at hK
        go_simp
        exact hK.out _ _ ⟨hS, trivial, rfl⟩
      · intro L hL hcl v u hS hd K' hK
        simp only [waited, List.toList_toArray, Region.binds, rel, List.getD_cons_zero, List.getD_cons_succ, true_imp_iff, and_true] at hd
        simp only [rel, List.getD_cons_zero, List.getD_cons_succ, Act.put, List.setIfInBounds_toArray, List.set_cons_zero, List.set_cons_succ] at hK
        try simp only [hd] at hK
        go_simp
        exact hK.out _ _ ⟨hS, trivial, rfl⟩
      · intro L hL hcl v u hS hd K' hK
        simp only [waited, List.toList_toArray, Region.binds, rel, List.getD_cons_zero, List.getD_cons_succ, true_imp_iff, and_true] at hd
        simp only [rel, List.getD_cons_zero, List.getD_cons_succ, Act.put, List.setIfInBounds_toArray, List.set_cons_zero, List.set_cons_succ] at hK
        try simp only [hd] at hK
        go_simp
        exact hK.out _ _ ⟨hS, trivial, rfl⟩
      · intro L hL hcl v u hS hd K' hK
        simp only [waited, List.toList_toArray, Region.binds, rel, List.getD_cons_zero, List.getD_cons_succ, true_imp_iff, and_true] at hd
        simp only [rel, List.getD_cons_zero, List.getD_cons_succ, Act.put, List.setIfInBounds_toArray, List.set_cons_zero, List.set_cons_succ] at hK
        try simp only [hd] at hK
        go_simp
        exact hK.out _ _ ⟨hS, trivial, rfl⟩
      · intro L hL hcl v u hS hd K' hK
        simp only [waited, List.toList_toArray, Region.binds, rel, List.getD_cons_zero, List.getD_cons_succ, true_imp_iff, and_true] at hd
        simp only [rel, List.getD_cons_zero, List.getD_cons_succ, Act.put, List.setIfInBounds_toArray, List.set_cons_zero, List.set_cons_succ] at hK
        try simp only [hd] at hK
        go_simp
        exact hK.out _ _ ⟨hS, trivial, rfl⟩
      · intro L hL hcl v u hS hd K' hK
        simp only [waited, List.toList_toArray, Region.binds, rel, List.getD_cons_zero, List.getD_cons_succ, true_imp_iff, and_true] at hd
        simp only [rel, List.getD_cons_zero, List.getD_cons_succ, Act.put, List.setIfInBounds_toArray, List.set_cons_zero, List.set_cons_succ] at hK
        try simp only [hd] at hK
        go_simp
        exact hK.out _ _ ⟨hS, trivial, rfl⟩
      · intro L hL hcl v u hS hd K' hK
        simp only [waited, List.toList_toArray, Region.binds, rel, List.getD_cons_zero, List.getD_cons_succ, true_imp_iff, and_true] at hd
        simp only [rel, List.getD_cons_zero, List.getD_cons_succ, Act.put, List.setIfInBounds_toArray, List.set_cons_zero, List.set_cons_succ] at hK
        try simp only [hd] at hK
        go_simp
        exact hK.out _ _ ⟨hS, trivial, rfl⟩
      · intro L hL hcl v u hS hd K' hK
        simp only [waited, List.toList_toArray, Region.binds, rel, List.getD_cons_zero, List.getD_cons_succ, true_imp_iff, and_true] at hd
        simp only [rel, List.getD_cons_zero, List.getD_cons_succ, Act.put, List.setIfInBounds_toArray, List.set_cons_zero, List.set_cons_succ] at hK
        try simp only [hd] at hK
        go_simp
        exact hK.out _ _ ⟨hS, trivial, rfl⟩
      · intro L hL hcl v u hS hd K' hK
        simp only [waited, List.toList_toArray, Region.binds, rel, List.getD_cons_zero, List.getD_cons_succ, true_imp_iff, and_true] at hd
        simp only [rel, List.getD_cons_zero, List.getD_cons_succ, Act.put, List.setIfInBounds_toArray, List.set_cons_zero, List.set_cons_succ] at hK
        try simp only [hd] at hK
        go_simp
        exact hK.out _ _ ⟨hS, trivial, rfl⟩
      · intro L hL hcl v u hS hd K' hK
        simp only [waited, List.toList_toArray, Region.binds, rel, List.getD_cons_zero, List.getD_cons_succ, true_imp_iff, and_true] at hd
        simp only [rel, List.getD_cons_zero, List.getD_cons_succ, Act.put, List.setIfInBounds_toArray, List.set_cons_zero, List.set_cons_succ] at hK
        try simp only [hd] at hK
        rw [hL] at hS
        have hS' : u = u1.drew := hS.out
        clear hS
        subst hS'
        go_simp
        exact hK.out _ _ ⟨(hide rfl : Hid (u1.drew.alloc (.cells #[.pointer (some ⟨A, 8, none⟩), .pointer (some ⟨A, 9, none⟩), .pointer (some ⟨A, 10, none⟩), .pointer (some ⟨A, 11, none⟩), .pointer (some ⟨A, 12, none⟩), .pointer (some ⟨A, 13, none⟩), .pointer (some ⟨A, 14, none⟩)] 97) = u1.drew.alloc (.cells #[.pointer (some ⟨A, 8, none⟩), .pointer (some ⟨A, 9, none⟩), .pointer (some ⟨A, 10, none⟩), .pointer (some ⟨A, 11, none⟩), .pointer (some ⟨A, 12, none⟩), .pointer (some ⟨A, 13, none⟩), .pointer (some ⟨A, 14, none⟩)] 97))), trivial, rfl⟩
      · intro L hL hcl v u hS hd K' hK
        simp only [waited, List.toList_toArray, Region.binds, rel, List.getD_cons_zero, List.getD_cons_succ, true_imp_iff, and_true] at hd
        simp only [rel, List.getD_cons_zero, List.getD_cons_succ, Act.put, List.setIfInBounds_toArray, List.set_cons_zero, List.set_cons_succ] at hK
        try simp only [hd] at hK
        go_simp
        exact hK.out _ _ ⟨hS, trivial, rfl⟩
      · intro L hL hcl v u hS hd K' hK
        simp only [waited, List.toList_toArray, Region.binds, rel, List.getD_cons_zero, List.getD_cons_succ, true_imp_iff, and_true] at hd
        simp only [rel, List.getD_cons_zero, List.getD_cons_succ, Act.put, List.setIfInBounds_toArray, List.set_cons_zero, List.set_cons_succ] at hK
        try simp only [hd] at hK
        go_simp
        exact hK.out _ _ ⟨hS, trivial, rfl⟩
    · rintro v u hS hR
      simp only [holdAll, List.size_toArray, List.length_cons, List.length_nil, Nat.reduceAdd, rel, List.getD_cons_zero, List.getD_cons_succ] at hR
      obtain ⟨⟨⟨-, h27⟩, h28⟩, h29⟩ := hR
      simp only [h27, h28, h29]
      clear h27 h28 h29
      have hu : u = u1.drew.alloc (.cells #[.pointer (some ⟨A, 8, none⟩), .pointer (some ⟨A, 9, none⟩), .pointer (some ⟨A, 10, none⟩), .pointer (some ⟨A, 11, none⟩), .pointer (some ⟨A, 12, none⟩), .pointer (some ⟨A, 13, none⟩), .pointer (some ⟨A, 14, none⟩)] 97) := hS.out
      clear hS
      have hbu : Below u1.heap.size u1 (u1.drew.alloc (.cells #[.pointer (some ⟨A, 8, none⟩), .pointer (some ⟨A, 9, none⟩), .pointer (some ⟨A, 10, none⟩), .pointer (some ⟨A, 11, none⟩), .pointer (some ⟨A, 12, none⟩), .pointer (some ⟨A, 13, none⟩), .pointer (some ⟨A, 14, none⟩)] 97)) := (Below.refl _ _).drew.alloc (Nat.le_refl _) _
      have hG : Blk (u1.drew.alloc (.cells #[.pointer (some ⟨A, 8, none⟩), .pointer (some ⟨A, 9, none⟩), .pointer (some ⟨A, 10, none⟩), .pointer (some ⟨A, 11, none⟩), .pointer (some ⟨A, 12, none⟩), .pointer (some ⟨A, 13, none⟩), .pointer (some ⟨A, 14, none⟩)] 97)) u1.heap.size [.pointer (some ⟨A, 8, none⟩), .pointer (some ⟨A, 9, none⟩), .pointer (some ⟨A, 10, none⟩), .pointer (some ⟨A, 11, none⟩), .pointer (some ⟨A, 12, none⟩), .pointer (some ⟨A, 13, none⟩), .pointer (some ⟨A, 14, none⟩)] 97 := Blk.new u1.drew _ _
      rw [← hu] at hbu hG
      clear hu
      have hn := BuT.add q1 hbu (Nat.le_refl _) hG.lt (small_blk hG (by decide))
      have k2 : KP B P w u := q2.trans (KP.of hbu q1.isP.2 q1.isP.1)
      have ha2 := ha.kP k2 hA
      obtain ⟨G, hGn⟩ := named u1.heap.size
      rw [← hGn.out] at hG hn ⊢
      clear hGn q1 q2 hbu
      have hn2 : Wr B g (fun i => P i ∨ i = G) (bs ++ putL vr 8 ++ txts (ts.take 0)) (bad || longs (ts.take 0)) u := by simp only [List.take_zero, txts, longs, List.flatMap_nil, List.any_nil, List.append_nil, Bool.or_false]; exact hn
      clear hn
      have ht7 : ts.take 7 = ts := List.take_of_length_le (by omega)
      have hbl : (bs ++ putL vr 8).length ≤ 200 := by first | (rw [List.length_append, putL_length]; omega) | omega
      go_upto_region 16 with fail
      go_loopw [90] (fun i wr => ∃ j : Nat, j ≤ 7 ∧ i = .int .i64 (j : Int) ∧ Wr B g (fun i => P i ∨ i = G) (bs ++ putL vr 8 ++ txts (ts.take j)) (bad || longs (ts.take j)) wr ∧ Blk wr A (askCells ⟨6, n, c, vr, ts⟩) 30 ∧ Blk wr G [.pointer (some ⟨A, 8, none⟩), .pointer (some ⟨A, 9, none⟩), .pointer (some ⟨A, 10, none⟩), .pointer (some ⟨A, 11, none⟩), .pointer (some ⟨A, 12, none⟩), .pointer (some ⟨A, 13, none⟩), .pointer (some ⟨A, 14, none⟩)] 97 ∧ KP B P w wr) (fun i _ => 7 - (intOf i).toNat)
      case atStart => exact ⟨0, by omega, rfl, hn2, ha2, hG, k2⟩
      case round =>
        clear hn2 ha2 hG k2
        obtain ⟨j, hj7, rfl, hy, hAj, hGj, hk⟩ := hrel
        by_cases hj : j < 7
        · have hj' : (j : Int) < 7 := by omega
          have hj0 : (0 : Int) ≤ (j : Int) := by omega
          have hcj := ptr7 hGj hj
          have hct := ask_text hAj ht hj
          have hsu := txts_succ ts (j := j) (by omega)
          have hsz1 : (ts.getD j e0).size < 16777216 := by
            have hm : ts.getD j e0 ∈ ts := by rw [List.getD_eq_getElem?_getD, List.getElem?_eq_getElem (by omega : j < ts.length)]; exact List.getElem_mem _
            exact hsz _ hm
          have hlen := txts_len (ts.take j) 16777216 (fun t htt => hsz t (List.mem_of_mem_take htt))
          have hlj : (ts.take j).length ≤ 7 := by rw [List.length_take]; omega
          have htx := wtext_w B g A (8 + j) (fun i => P i ∨ i = G) (bs ++ putL vr 8 ++ txts (ts.take j)) (bad || longs (ts.take j)) (ts.getD j e0) _ hy (.inl hA) hct (by omega) (by rw [List.length_append]; have : (ts.take j).length * (16777216 + 4) ≤ 7 * (16777216 + 4) := Nat.mul_le_mul_right _ hlj; omega)
          rw [List.append_assoc, ← hsu.1, Bool.or_assoc, ← hsu.2] at htx
          have hm := wm_text
          clear hct hsu hsz1 hlen hlj
          go_wp2_with fail
          refine htx.mono ?_
          rintro e w6 ⟨rfl, hy6, hk6⟩
          have hG6 := hGj.kP hk6 (.inr rfl)
          have hA6 := hAj.kP hk6 (.inl hA)
          have hk7 := hk.trans (hk6.weak fun i hi => .inl hi)
          clear htx hcj
          go_wp2
          go_roundw
          case rel => exact ⟨j + 1, by omega, by first | rfl | go_num, hy6, hA6, hG6, hk7⟩
          case measure => simp [intOf]; omega
        · obtain rfl : j = 7 := by omega
          rw [ht7] at hy
          have hz : Wr B g P (bs ++ putL vr 8 ++ txts ts) (bad || longs ts) wr := BuT.weak hy fun i hi => .inl hi
          clear hGj hj hy hAj
          go_wp2
          go_end0
          exact ⟨rfl, by first | exact hz | (rw [← List.append_assoc]; exact hz), hk⟩
end
theorem wwalk_w {B g A : Nat} {P : Nat → Prop} {bs : List UInt8} {bad : Bool} {a : Ask} {w : World} (h : Wr B g P bs bad w) (hA : P A) (ha : Blk w A (askCells a) 30) (ht : a.ts.length = 7) (hsz : ∀ t ∈ a.ts, t.size < 16777216) (h1 : 1 ≤ bs.length) (hb : bs.length ≤ 100) :
    Calls Try.prog 20 #[.iface 53 (.pointer (some ⟨g, 0, none⟩)), .pointer (some ⟨A, 0, none⟩)] w fun e w' => e = .returned (.tuple #[]) ∧ Wr B g P (bs ++ (encW a).1) (bad || (encW a).2) w' ∧ KP B P w w' := by
  obtain ⟨k, n, c, vr, ts⟩ := a
  by_cases hk : 1 ≤ k.toNat ∧ k.toNat ≤ 8
  · have : k = 1 ∨ k = 2 ∨ k = 3 ∨ k = 4 ∨ k = 5 ∨ k = 6 ∨ k = 7 ∨ k = 8 := by
      have : k.toNat = 1 ∨ k.toNat = 2 ∨ k.toNat = 3 ∨ k.toNat = 4 ∨ k.toNat = 5 ∨ k.toNat = 6 ∨ k.toNat = 7 ∨ k.toNat = 8 := by omega
      rcases this with h | h | h | h | h | h | h | h <;> simp [← UInt8.toNat_inj, h]
    rcases this with rfl | rfl | rfl | rfl | rfl | rfl | rfl | rfl
    · exact wwalk_1 h hA ha ht hsz h1 hb
    · exact wwalk_2 h hA ha ht hsz h1 hb
    · exact wwalk_3 h hA ha ht hsz h1 hb
    · exact wwalk_4 h hA ha ht hsz h1 hb
    · exact wwalk_5 h hA ha ht hsz h1 hb
    · exact wwalk_6 h hA ha ht hsz h1 hb
    · exact wwalk_7 h hA ha ht hsz h1 hb
    · exact wwalk_8 h hA ha ht hsz h1 hb
  · have hw : encW ⟨k, n, c, vr, ts⟩ = ([], true) := by
      have hn : ∀ j : UInt8, 1 ≤ j.toNat ∧ j.toNat ≤ 8 → k ≠ j := fun j hj e => hk (e ▸ hj)
      unfold encW
      simp only [hn 1 (by decide), hn 2 (by decide), hn 3 (by decide), hn 4 (by decide), hn 5 (by decide), hn 6 (by decide), hn 7 (by decide), hn 8 (by decide), or_self, if_false]
    rw [hw]
    simp only [List.append_nil, Bool.or_true]
    exact wwalk_no k hk h ha
end Go.Proofs.Ytiodfbbgbnbdpaa
