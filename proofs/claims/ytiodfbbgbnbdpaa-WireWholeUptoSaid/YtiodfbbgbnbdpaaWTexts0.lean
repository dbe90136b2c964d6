/- wire.texts at the writer, of no texts. -/
import Derived.Test.YtiodfbbgbnbdpaaWWalk2
namespace Go.Proofs.Ytiodfbbgbnbdpaa
set_option linter.unusedSimpArgs false
set_option linter.unusedVariables false
open Go.RowKit
open Crc
theorem wm_byte (g : Nat) (W : World) : (method 92 53 (.pointer (some ⟨g, 0, none⟩)) "lictor/wire.byte").run Try.prog W = .ok (19, .pointer (some ⟨g, 0, none⟩)) W := by kernel_rfl
theorem small_one (w : World) (x : Value) : Small (w.alloc (.cells #[x] 5)) w.heap.size := fun cs fz hc => by
  rw [show (w.alloc (.cells #[x] 5)).heap[w.heap.size]? = some (.cells #[x] 5) from heap_alloc_new w _] at hc
  injection hc with hc
  injection hc with e1
  subst e1
  simp
set_option maxRecDepth 100000 in
set_option maxHeartbeats 1000000 in
theorem wtexts0_w {B g A o : Nat} {P : Nat → Prop} {bs : List UInt8} {bad : Bool} {w : World} (h : Wr B g P bs bad w) (hA : P A) (hc : w.cell? ⟨A, o, none⟩ = some (.slice none 0 0)) (hb : bs.length ≤ 1000) :
    Calls Try.prog 42 #[.iface 53 (.pointer (some ⟨g, 0, none⟩)), .pointer (some ⟨A, o, none⟩)] w fun e w' => e = .returned (.tuple #[]) ∧ Wr B g P (bs ++ [0]) bad w' ∧ KP B P w w' := by
  have hal := below_alloc w (.cells #[.int .u8 0] 5)
  have h1 : Wr B g (fun i => P i ∨ i = w.heap.size) bs bad (w.alloc (.cells #[.int .u8 0] 5)) := BuT.add h hal (Nat.le_refl _) (by simp) (small_one w _)
  have hK := Blk.new w [.int .u8 0] 5
  have k1 := KP.of (P := P) hal h.isP.2 h.isP.1
  have c1 := (k1.cell (o := o) hA).trans hc
  have hm := wm_byte
  have hmin : min (0 : Int) 255 = 0 := by decide
  have hmin2 : min (0 : Int) 0 = 0 := by decide
  go_enter Try.func42, Try.ntmps42
  go_upto_region 3 with fail
  obtain ⟨K, hKn⟩ := named w.heap.size
  obtain ⟨w1, hw1⟩ := named (w.alloc (.cells #[.int .u8 0] 5))
  rw [← hKn.out] at h1 hK ⊢
  rw [← hw1.out] at h1 hK k1 c1 ⊢
  clear hKn hw1 hal h
  have hby := wbyte_w B g K 0 _ bs bad 0 w1 h1 (.inr rfl) (by rw [hK.cell]; rfl) (by omega)
  go_wp2_with fail
  refine hby.mono ?_
  rintro e w2 ⟨rfl, h2, k2⟩
  have hK2 := hK.kP k2 (.inr rfl)
  have c2 := (k2.cell (o := o) (.inl hA)).trans c1
  have k3 := k1.trans (k2.weak fun i hi => .inl hi)
  have xK := hK2.cell
  have h3 : Wr B g P (bs ++ [0]) bad w2 := BuT.weak h2 fun i hi => .inl hi
  clear hby h1 hK k1 c1 h2 k2 hK2
  go_wp2_with fail
  refine region_flatS _ (fun L u => Hid (u = w2.drew) ∧ u.cell? ⟨A, o, none⟩ = some (.slice none 0 0) ∧ ∀ i, u.cell? ⟨K, i, none⟩ = [Value.int .u8 0][i]?) (fun _ _ _ => True)
    (fun _ => rel [fun v _ => v = .pointer (some ⟨A, o, none⟩),
      fun v _ => v = .pointer (some ⟨A, o, none⟩),
      fun v _ => v = .slice none 0 0,
      fun v _ => v = .int .i64 0,
      fun v _ => v = .int .u8 0,
      fun v _ => v = .int .i64 0,
      fun v _ => v = .int .i64 0,
      fun v _ => v = .int .i64 0])
    (by kernel_rfl) (by kernel_rfl) (fun v => by simp only [putsV, Act.put, List.toList_toArray, List.setIfInBounds_toArray, List.set_cons_zero, List.set_cons_succ, Nat.reduceAdd, Nat.zero_add]; rfl) ?_ (fun _ _ _ _ _ h => h) ⟨hide rfl, c2, xK⟩ ?_ (fun _ _ _ _ _ _ h => h) (fun L L' u hL h => by  exact h) ?_
  · intro i L j x u u' _ _ _ h
    match j with
    | 0 => exact h
    | 1 => exact h
    | 2 => exact h
    | 3 => exact h
    | 4 => exact h
    | 5 => exact h
    | 6 => exact h
    | 7 => exact h
    | _ + 8 => trivial
  · refine ⟨?_, ?_, ?_, ?_, ?_, ?_, ?_, ?_, trivial⟩
    · intro L hL hcl v u hS hd K' hK
      simp only [waited, List.toList_toArray, Region.binds, rel, List.getD_cons_zero, List.getD_cons_succ, true_imp_iff, and_true] at hd
      simp only [rel, List.getD_cons_zero, List.getD_cons_succ, Act.put, List.setIfInBounds_toArray, List.set_cons_zero, List.set_cons_succ] at hK
      try simp only [hd] at hK
      go_simp
      exact hK.out _ _ ⟨hS, trivial, rfl⟩
    · intro L hL hcl v u hS hd K' hK
      simp only [waited, List.toList_toArray, Region.binds, rel, List.getD_cons_zero, List.getD_cons_succ, true_imp_iff, and_true] at hd
      simp only [rel, List.getD_cons_zero, List.getD_cons_succ, Act.put, List.setIfInBounds_toArray, List.set_cons_zero, List.set_cons_succ] at hK
      try simp only [hd] at hK
      go_simp
      exact hK.out _ _ ⟨hS, trivial, rfl⟩
    · intro L hL hcl v u hS hd K' hK
      simp only [waited, List.toList_toArray, Region.binds, rel, List.getD_cons_zero, List.getD_cons_succ, true_imp_iff, and_true] at hd
      simp only [rel, List.getD_cons_zero, List.getD_cons_succ, Act.put, List.setIfInBounds_toArray, List.set_cons_zero, List.set_cons_succ] at hK
      try simp only [hd] at hK
      have x0 := hS.2.1
      go_simp
      exact hK.out _ _ ⟨hS, trivial, rfl⟩
    · intro L hL hcl v u hS hd K' hK
      simp only [waited, List.toList_toArray, Region.binds, rel, List.getD_cons_zero, List.getD_cons_succ, true_imp_iff, and_true] at hd
      simp only [rel, List.getD_cons_zero, List.getD_cons_succ, Act.put, List.setIfInBounds_toArray, List.set_cons_zero, List.set_cons_succ] at hK
      try simp only [hd] at hK
      go_simp
      exact hK.out _ _ ⟨hS, trivial, rfl⟩
    · intro L hL hcl v u hS hd K' hK
      simp only [waited, List.toList_toArray, Region.binds, rel, List.getD_cons_zero, List.getD_cons_succ, true_imp_iff, and_true] at hd
      simp only [rel, List.getD_cons_zero, List.getD_cons_succ, Act.put, List.setIfInBounds_toArray, List.set_cons_zero, List.set_cons_succ] at hK
      try simp only [hd] at hK
      have x0 := hS.2.2 0
      go_simp
      exact hK.out _ _ ⟨hS, trivial, rfl⟩
    · intro L hL hcl v u hS hd K' hK
      simp only [waited, List.toList_toArray, Region.binds, rel, List.getD_cons_zero, List.getD_cons_succ, true_imp_iff, and_true] at hd
      simp only [rel, List.getD_cons_zero, List.getD_cons_succ, Act.put, List.setIfInBounds_toArray, List.set_cons_zero, List.set_cons_succ] at hK
      try simp only [hd] at hK
      go_simp
      exact hK.out _ _ ⟨hS, trivial, rfl⟩
    · intro L hL hcl v u hS hd K' hK
      simp only [waited, List.toList_toArray, Region.binds, rel, List.getD_cons_zero, List.getD_cons_succ, true_imp_iff, and_true] at hd
      simp only [rel, List.getD_cons_zero, List.getD_cons_succ, Act.put, List.setIfInBounds_toArray, List.set_cons_zero, List.set_cons_succ] at hK
      try simp only [hd] at hK
      go_simp
      exact hK.out _ _ ⟨hS, trivial, rfl⟩
    · intro L hL hcl v u hS hd K' hK
      simp only [waited, List.toList_toArray, Region.binds, rel, List.getD_cons_zero, List.getD_cons_succ, true_imp_iff, and_true] at hd
      simp only [rel, List.getD_cons_zero, List.getD_cons_succ, Act.put, List.setIfInBounds_toArray, List.set_cons_zero, List.set_cons_succ] at hK
      try simp only [hd] at hK
      go_simp
      exact hK.out _ _ ⟨hS, trivial, rfl⟩
  · rintro v u hS hR
    simp only [holdAll, List.size_toArray, List.length_cons, List.length_nil, Nat.reduceAdd, rel, List.getD_cons_zero, List.getD_cons_succ] at hR
    obtain ⟨-, h6⟩ := (And.intro hR.1.2 hR.2 : _ ∧ _)
    have h5 := hR.1.2
    simp only [h5, h6]
    have hu : u = w2.drew := hS.1.out
    clear h5 h6 hR hS
    rw [hu]
    clear hu xK c2
    have h4 : Wr B g P (bs ++ [0]) bad w2.drew := h3
    have k4 : KP B P w w2.drew := k3.drew
    obtain ⟨w4, hw4⟩ := named w2.drew
    rw [← hw4.out] at h4 k4 ⊢
    clear hw4 h3 k3
    go_wp2_with fail
    go_loopw [41] (fun i wr => i = .int .i64 0 ∧ Hid (wr = w4)) (fun _ _ => 0)
    case atStart => exact ⟨rfl, hide rfl⟩
    case round =>
      obtain ⟨rfl, hw⟩ := hrel
      have h5 : Wr B g P (bs ++ [0]) bad wr := by rw [hw.out]; exact h4
      have k5 : KP B P w wr := by rw [hw.out]; exact k4
      clear hw h4 k4
      go_wp2
      go_end0
      exact ⟨rfl, h5, k5⟩
end Go.Proofs.Ytiodfbbgbnbdpaa
