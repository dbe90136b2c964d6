/- wire's writer: byte, long, text, fail. -/
import Derived.Test.YtiodfbbgbnbdpaaWriter
import Derived.Test.YtiodfbbgbnbdpaaGD
import Derived.Deep.DeepCutAuto
namespace Go.Proofs.Ytiodfbbgbnbdpaa
set_option linter.unusedSimpArgs false
set_option linter.unusedVariables false
open Go.RowKit
open Crc
theorem tok_writer : TOk 58 3 := ⟨by kernel_rfl, by decide⟩
/-- A writer that has written bs; bad: something was not right. -/
def Wr (B g : Nat) (P : Nat → Prop) (bs : List UInt8) (bad : Bool) (w : World) : Prop := BuT 58 [.bool bad] B g P (cellsOf bs) w
theorem KP.cell {B A o : Nat} {P : Nat → Prop} {w u : World} (h : KP B P w u) (hA : P A) : u.cell? ⟨A, o, none⟩ = w.cell? ⟨A, o, none⟩ := World.cell?_of_block (h.1 A hA)
theorem BuT.isP {T : TypeId} {ex : List Value} {P : Nat → Prop} {B b : Nat} {bs : List Value} {w : World} (h : BuT T ex B b P bs w) : (∀ k, P k → k < w.heap.size) ∧ B ≤ w.heap.size := by
  obtain ⟨h1, p, v, h2, h3, h4⟩ := h
  exact ⟨fun k hk => (h4.2.2.2 k hk).1, by have := h3.lt; omega⟩
theorem Wr.bad {B g : Nat} {P : Nat → Prop} {bs : List UInt8} {a b : Bool} {w : World} (h : Wr B g P bs a w) : Wr B g P bs b (w.setCell ⟨g, 2, none⟩ (.bool b)) ∧ KP B P w (w.setCell ⟨g, 2, none⟩ (.bool b)) := by
  obtain ⟨h1, p, v, h2, h3, h4⟩ := h
  exact ⟨⟨h1, p, v, h2, h3.set 2 _, h4.keep (fun k _ hk => Below.heap_setCell _ _ _ _ hk) (by simp [World.setCell])⟩, (KP.refl B P w).set h1 (fun k hk => (h4.2.2.2 k hk).2.1) 2 _⟩
theorem Wr.cell {B g : Nat} {P : Nat → Prop} {bs : List UInt8} {a : Bool} {w : World} (h : Wr B g P bs a w) : w.cell? ⟨g, 2, none⟩ = some (.bool a) ∧ w.frozen? ⟨g, 2, none⟩ = false := by
  obtain ⟨h1, p, v, h2, h3, h4⟩ := h
  exact ⟨by rw [h3.cell]; rfl, h3.free 2⟩
/-- The bytes of a text: how many, and these. -/
def txt (s : ByteArray) : List UInt8 := putL s.size 4 ++ s.data.toList
theorem txt_length (s : ByteArray) : (txt s).length = s.size + 4 := by simp [txt, putL_length]; omega
theorem txt_size (s : ByteArray) : (str (txt s)).size = s.size + 4 := by rw [str_size, txt_length]
set_option maxRecDepth 100000 in
set_option maxHeartbeats 600000 in
theorem ctext_w (s : ByteArray) (w : World) (hs : s.size < 4294967296) :
    Calls Try.prog 71 #[.string s] w fun e w' => e = .returned (.string (str (txt s))) ∧ Below w.heap.size w w' := by
  have hp := fun W => put32_w s.size W hs
  have hw : IntKind.u32.wrap (s.size : Int) = (s.size : Int) := wrap_u32_nat _ hs
  have he : str (putL s.size 4) ++ s = str (txt s) := by
    have := str_append (putL s.size 4) s.data.toList
    rw [str_of] at this
    exact this
  obtain ⟨S, HS⟩ := named (str (putL s.size 4))
  obtain ⟨R, HR⟩ := named (str (txt s))
  simp only [← HS.out] at hp
  rw [← HS.out, ← HR.out] at he
  have hz : S.size = 4 := by rw [HS.out, str_size, putL_length]
  have hadd : ∀ W : World, (Op.stringOp .add S s).run Try.prog W = .ok (.string R) W := fun W => by rw [← he]; exact run_string_add_sum W S s (by omega)
  rw [← HR.out]
  clear HS HR he hz
  go_enter Try.func71, Try.ntmps71
  go_wp2_with fail
  refine (hp _).mono ?_
  rintro e w1 ⟨rfl, hb1⟩
  go_wp2
  go_ret
  exact ⟨rfl, hb1⟩
set_option maxRecDepth 100000 in
set_option maxHeartbeats 600000 in
theorem wlong_w (B g A o : Nat) (P : Nat → Prop) (bs : List UInt8) (bad : Bool) (n : Nat) (w : World) (h : Wr B g P bs bad w) (hA : P A) (hc : w.cell? ⟨A, o, none⟩ = some (.int .u64 (n : Int))) (hlen : bs.length + 8 ≤ 140737488355328) :
    Calls Try.prog 66 #[.pointer (some ⟨g, 0, none⟩), .pointer (some ⟨A, o, none⟩)] w fun e w' => e = .returned (.tuple #[]) ∧ Wr B g P (bs ++ putL n 8) bad w' ∧ KP B P w w' := by
  have hw : Wr B g P bs bad w.drew := h
  go_enter Try.func66, Try.ntmps66
  go_wp2_with fail
  refine region_flatS _ (fun L u => Wr B g P (cond (L 7) (bs ++ putL n 8) bs) bad u ∧ KP B P w u) (fun _ _ _ => True)
    (fun _ => rel [fun v _ => v = .pointer (some ⟨g, 0, none⟩),
      fun v _ => v = .pointer (some ⟨g, 0, none⟩),
      fun v _ => v = .pointer (some ⟨g, 0, none⟩),
      fun v _ => v = .pointer (some ⟨A, o, none⟩),
      fun v _ => v = .pointer (some ⟨A, o, none⟩),
      fun v _ => v = .int .u64 (n : Int),
      fun v _ => v = .string (str (putL n 8)),
      fun _ _ => True])
    (by kernel_rfl) (by kernel_rfl) (fun v => by simp only [putsV, Act.put, List.toList_toArray, List.setIfInBounds_toArray, List.set_cons_zero, List.set_cons_succ, Nat.reduceAdd, Nat.zero_add]; rfl) ?_ (fun _ _ _ _ _ h => h) ⟨hw, (KP.refl B P w).drew⟩ ?_ (fun _ _ _ _ _ _ h => h) (fun L L' u hL h => by rw [← hL 7 (by decide)]; exact h) ?_
  · intro i L j x u u' _ _ _ h
    match j with
    | 0 => exact h
    | 1 => exact h
    | 2 => exact h
    | 3 => exact h
    | 4 => exact h
    | 5 => exact h
    | 6 => exact h
    | 7 => exact h
    | _ + 8 => trivial
  · refine ⟨?_, ?_, ?_, ?_, ?_, ?_, ?_, ?_, trivial⟩
    · intro L hL hcl v u hS hd K' hK
      simp only [waited, List.toList_toArray, Region.binds, rel, List.getD_cons_zero, List.getD_cons_succ, true_imp_iff, and_true] at hd
      simp only [rel, List.getD_cons_zero, List.getD_cons_succ, Act.put, List.setIfInBounds_toArray, List.set_cons_zero, List.set_cons_succ] at hK
      try simp only [hd] at hK
      go_simp
      exact hK.out _ _ ⟨hS, trivial, rfl⟩
    · intro L hL hcl v u hS hd K' hK
      simp only [waited, List.toList_toArray, Region.binds, rel, List.getD_cons_zero, List.getD_cons_succ, true_imp_iff, and_true] at hd
      simp only [rel, List.getD_cons_zero, List.getD_cons_succ, Act.put, List.setIfInBounds_toArray, List.set_cons_zero, List.set_cons_succ] at hK
      try simp only [hd] at hK
      go_simp
      exact hK.out _ _ ⟨hS, trivial, rfl⟩
    · intro L hL hcl v u hS hd K' hK
      simp only [waited, List.toList_toArray, Region.binds, rel, List.getD_cons_zero, List.getD_cons_succ, true_imp_iff, and_true] at hd
      simp only [rel, List.getD_cons_zero, List.getD_cons_succ, Act.put, List.setIfInBounds_toArray, List.set_cons_zero, List.set_cons_succ] at hK
      try simp only [hd] at hK
      go_simp
      exact hK.out _ _ ⟨hS, trivial, rfl⟩
    · intro L hL hcl v u hS hd K' hK
      simp only [waited, List.toList_toArray, Region.binds, rel, List.getD_cons_zero, List.getD_cons_succ, true_imp_iff, and_true] at hd
      simp only [rel, List.getD_cons_zero, List.getD_cons_succ, Act.put, List.setIfInBounds_toArray, List.set_cons_zero, List.set_cons_succ] at hK
      try simp only [hd] at hK
      go_simp
      exact hK.out _ _ ⟨hS, trivial, rfl⟩
    · intro L hL hcl v u hS hd K' hK
      simp only [waited, List.toList_toArray, Region.binds, rel, List.getD_cons_zero, List.getD_cons_succ, true_imp_iff, and_true] at hd
      simp only [rel, List.getD_cons_zero, List.getD_cons_succ, Act.put, List.setIfInBounds_toArray, List.set_cons_zero, List.set_cons_succ] at hK
      try simp only [hd] at hK
      go_simp
      exact hK.out _ _ ⟨hS, trivial, rfl⟩
    · intro L hL hcl v u hS hd K' hK
      simp only [waited, List.toList_toArray, Region.binds, rel, List.getD_cons_zero, List.getD_cons_succ, true_imp_iff, and_true] at hd
      simp only [rel, List.getD_cons_zero, List.getD_cons_succ, Act.put, List.setIfInBounds_toArray, List.set_cons_zero, List.set_cons_succ] at hK
      try simp only [hd] at hK
      have x0 := (hS.2.cell hA).trans hc
      go_simp
      exact hK.out _ _ ⟨hS, trivial, rfl⟩
    · intro L hL hcl v u hS hd K' hK
      simp only [waited, List.toList_toArray, Region.binds, rel, List.getD_cons_zero, List.getD_cons_succ, true_imp_iff, and_true] at hd
      simp only [rel, List.getD_cons_zero, List.getD_cons_succ, Act.put, List.setIfInBounds_toArray, List.set_cons_zero, List.set_cons_succ] at hK
      try simp only [hd] at hK
      go_simp
      refine (put64_w n _).mono ?_
      rintro e w2 ⟨rfl, hb2⟩
      exact hK.out _ _ ⟨⟨hS.1.below hb2, hS.2.trans (KP.of hb2 hS.1.isP.2 hS.1.isP.1)⟩, trivial, rfl⟩
    · intro L hL hcl v u hS hd K' hK
      simp only [waited, List.toList_toArray, Region.binds, rel, List.getD_cons_zero, List.getD_cons_succ, true_imp_iff, and_true] at hd
      simp only [rel, List.getD_cons_zero, List.getD_cons_succ, Act.put, List.setIfInBounds_toArray, List.set_cons_zero, List.set_cons_succ] at hK
      try simp only [hd] at hK
      have h1 := hS.1
      rw [hL] at h1
      go_simp
      refine (writeStringT B g (cellsOf bs) (str (putL n 8)) u h1 tok_writer (by rw [cellsOf_length]; rw [str_size, putL_length]; omega) (.inr (by rw [cellsOf_length]; rw [str_size, putL_length]; omega))).mono ?_
      rintro e w2 ⟨rfl, h2, k2⟩
      have h3 : Wr B g P (bs ++ putL n 8) bad w2 := by unfold Wr; rw [cellsOf_append]; rw [str_data] at h2; exact h2
      exact hK.out _ _ ⟨⟨h3, hS.2.trans k2⟩, trivial, trivial⟩
  · rintro v u hS hR
    simp only [holdAll, List.size_toArray, List.length_cons, List.length_nil, Nat.reduceAdd, rel, List.getD_cons_zero, List.getD_cons_succ] at hR
    clear hR
    go_wp2
    go_end0
    exact ⟨rfl, hS.1, hS.2⟩
set_option maxRecDepth 100000 in
set_option maxHeartbeats 600000 in
theorem wtext_w (B g A o : Nat) (P : Nat → Prop) (bs : List UInt8) (bad : Bool) (s : ByteArray) (w : World) (h : Wr B g P bs bad w) (hA : P A) (hc : w.cell? ⟨A, o, none⟩ = some (.string s)) (hs : s.size < 4294967296) (hlen : bs.length + s.size + 4 ≤ 140737488355328) :
    Calls Try.prog 67 #[.pointer (some ⟨g, 0, none⟩), .pointer (some ⟨A, o, none⟩)] w fun e w' => e = .returned (.tuple #[]) ∧ Wr B g P (bs ++ txt s) (bad || decide (2048 < s.size)) w' ∧ KP B P w w' := by
  have hdc : decide ((2048 : Int) < (s.size : Int)) = decide (2048 < s.size) := by
    by_cases h9 : 2048 < s.size
    · have : (2048 : Int) < (s.size : Int) := by omega
      simp [h9, this]
    · have : ¬ (2048 : Int) < (s.size : Int) := by omega
      simp [h9, this]
  obtain ⟨b, hb⟩ := named (decide (2048 < s.size))
  rw [← hb.out] at hdc ⊢
  clear hb
  obtain ⟨h2, k2⟩ := h.bad (b := bad || b)
  obtain ⟨bb, hbb⟩ := named (bad || b)
  rw [← hbb.out] at h2 k2 ⊢
  have c2 := h.cell.1
  have f2 := h.cell.2
  go_enter Try.func67, Try.ntmps67
  cases bad with
  | true =>
    go_upto_region 1 with fail
    rw [show (.bool true : Value) = .bool bb from by rw [hbb.out]; rfl]
    obtain ⟨w1, hw1⟩ := named (w.setCell ⟨g, 2, none⟩ (.bool bb))
    rw [← hw1.out] at h2 k2 ⊢
    have hw : Wr B g P bs bb w1.drew := h2
    have hkp : KP B P w w1.drew := k2.drew
    clear hw1 c2 f2 h2 k2 hdc
    go_wp2_with fail
    refine region_flatS _ (fun L u => Wr B g P (cond (L 7) (bs ++ txt s) bs) bb u ∧ KP B P w u) (fun _ _ _ => True)
      (fun _ => rel [fun v _ => v = .pointer (some ⟨g, 0, none⟩),
        fun v _ => v = .pointer (some ⟨g, 0, none⟩),
        fun v _ => v = .pointer (some ⟨g, 0, none⟩),
        fun v _ => v = .pointer (some ⟨A, o, none⟩),
        fun v _ => v = .pointer (some ⟨A, o, none⟩),
        fun v _ => v = .string s,
        fun v _ => v = .string (str (txt s)),
        fun _ _ => True])
      (by kernel_rfl) (by kernel_rfl) (fun v => by simp only [putsV, Act.put, List.toList_toArray, List.setIfInBounds_toArray, List.set_cons_zero, List.set_cons_succ, Nat.reduceAdd, Nat.zero_add]; rfl) ?_ (fun _ _ _ _ _ h => h) ⟨hw, hkp⟩ ?_ (fun _ _ _ _ _ _ h => h) (fun L L' u hL h => by rw [← hL 7 (by decide)]; exact h) ?_
    · intro i L j x u u' _ _ _ h
      match j with
      | 0 => exact h
      | 1 => exact h
      | 2 => exact h
      | 3 => exact h
      | 4 => exact h
      | 5 => exact h
      | 6 => exact h
      | 7 => exact h
      | _ + 8 => trivial
    · refine ⟨?_, ?_, ?_, ?_, ?_, ?_, ?_, ?_, trivial⟩
      · intro L hL hcl v u hS hd K' hK
        simp only [waited, List.toList_toArray, Region.binds, rel, List.getD_cons_zero, List.getD_cons_succ, true_imp_iff, and_true] at hd
        simp only [rel, List.getD_cons_zero, List.getD_cons_succ, Act.put, List.setIfInBounds_toArray, List.set_cons_zero, List.set_cons_succ] at hK
        try simp only [hd] at hK
        go_simp
        exact hK.out _ _ ⟨hS, trivial, rfl⟩
      · intro L hL hcl v u hS hd K' hK
        simp only [waited, List.toList_toArray, Region.binds, rel, List.getD_cons_zero, List.getD_cons_succ, true_imp_iff, and_true] at hd
        simp only [rel, List.getD_cons_zero, List.getD_cons_succ, Act.put, List.setIfInBounds_toArray, List.set_cons_zero, List.set_cons_succ] at hK
        try simp only [hd] at hK
        go_simp
        exact hK.out _ _ ⟨hS, trivial, rfl⟩
      · intro L hL hcl v u hS hd K' hK
        simp only [waited, List.toList_toArray, Region.binds, rel, List.getD_cons_zero, List.getD_cons_succ, true_imp_iff, and_true] at hd
        simp only [rel, List.getD_cons_zero, List.getD_cons_succ, Act.put, List.setIfInBounds_toArray, List.set_cons_zero, List.set_cons_succ] at hK
        try simp only [hd] at hK
        go_simp
        exact hK.out _ _ ⟨hS, trivial, rfl⟩
      · intro L hL hcl v u hS hd K' hK
        simp only [waited, List.toList_toArray, Region.binds, rel, List.getD_cons_zero, List.getD_cons_succ, true_imp_iff, and_true] at hd
        simp only [rel, List.getD_cons_zero, List.getD_cons_succ, Act.put, List.setIfInBounds_toArray, List.set_cons_zero, List.set_cons_succ] at hK
        try simp only [hd] at hK
        go_simp
        exact hK.out _ _ ⟨hS, trivial, rfl⟩
      · intro L hL hcl v u hS hd K' hK
        simp only [waited, List.toList_toArray, Region.binds, rel, List.getD_cons_zero, List.getD_cons_succ, true_imp_iff, and_true] at hd
        simp only [rel, List.getD_cons_zero, List.getD_cons_succ, Act.put, List.setIfInBounds_toArray, List.set_cons_zero, List.set_cons_succ] at hK
        try simp only [hd] at hK
        go_simp
        exact hK.out _ _ ⟨hS, trivial, rfl⟩
      · intro L hL hcl v u hS hd K' hK
        simp only [waited, List.toList_toArray, Region.binds, rel, List.getD_cons_zero, List.getD_cons_succ, true_imp_iff, and_true] at hd
        simp only [rel, List.getD_cons_zero, List.getD_cons_succ, Act.put, List.setIfInBounds_toArray, List.set_cons_zero, List.set_cons_succ] at hK
        try simp only [hd] at hK
        have x0 := (hS.2.cell hA).trans hc
        go_simp
        exact hK.out _ _ ⟨hS, trivial, rfl⟩
      · intro L hL hcl v u hS hd K' hK
        simp only [waited, List.toList_toArray, Region.binds, rel, List.getD_cons_zero, List.getD_cons_succ, true_imp_iff, and_true] at hd
        simp only [rel, List.getD_cons_zero, List.getD_cons_succ, Act.put, List.setIfInBounds_toArray, List.set_cons_zero, List.set_cons_succ] at hK
        try simp only [hd] at hK
        go_simp
        refine (ctext_w s _ hs).mono ?_
        rintro e w2 ⟨rfl, hb2⟩
        exact hK.out _ _ ⟨⟨hS.1.below hb2, hS.2.trans (KP.of hb2 hS.1.isP.2 hS.1.isP.1)⟩, trivial, rfl⟩
      · intro L hL hcl v u hS hd K' hK
        simp only [waited, List.toList_toArray, Region.binds, rel, List.getD_cons_zero, List.getD_cons_succ, true_imp_iff, and_true] at hd
        simp only [rel, List.getD_cons_zero, List.getD_cons_succ, Act.put, List.setIfInBounds_toArray, List.set_cons_zero, List.set_cons_succ] at hK
        try simp only [hd] at hK
        have h1 := hS.1
        rw [hL] at h1
        go_simp
        refine (writeStringT B g (cellsOf bs) (str (txt s)) u h1 tok_writer (by rw [cellsOf_length]; rw [txt_size]; omega) (.inr (by rw [cellsOf_length]; rw [txt_size]; omega))).mono ?_
        rintro e w2 ⟨rfl, h2, k2⟩
        have h3 : Wr B g P (bs ++ txt s) bb w2 := by unfold Wr; rw [cellsOf_append]; rw [str_data] at h2; exact h2
        exact hK.out _ _ ⟨⟨h3, hS.2.trans k2⟩, trivial, trivial⟩
    · rintro v u hS hR
      simp only [holdAll, List.size_toArray, List.length_cons, List.length_nil, Nat.reduceAdd, rel, List.getD_cons_zero, List.getD_cons_succ] at hR
      clear hR
      go_wp2
      go_end0
      exact ⟨rfl, hS.1, hS.2⟩
  | false =>
    go_upto_region 1 with fail
    rw [show (.bool b : Value) = .bool bb from by rw [hbb.out]; rfl]
    obtain ⟨w1, hw1⟩ := named (w.setCell ⟨g, 2, none⟩ (.bool bb))
    rw [← hw1.out] at h2 k2 ⊢
    have hw : Wr B g P bs bb w1.drew := h2
    have hkp : KP B P w w1.drew := k2.drew
    clear hw1 c2 f2 h2 k2 hdc
    go_wp2_with fail
    refine region_flatS _ (fun L u => Wr B g P (cond (L 7) (bs ++ txt s) bs) bb u ∧ KP B P w u) (fun _ _ _ => True)
      (fun _ => rel [fun v _ => v = .pointer (some ⟨g, 0, none⟩),
        fun v _ => v = .pointer (some ⟨g, 0, none⟩),
        fun v _ => v = .pointer (some ⟨g, 0, none⟩),
        fun v _ => v = .pointer (some ⟨A, o, none⟩),
        fun v _ => v = .pointer (some ⟨A, o, none⟩),
        fun v _ => v = .string s,
        fun v _ => v = .string (str (txt s)),
        fun _ _ => True])
      (by kernel_rfl) (by kernel_rfl) (fun v => by simp only [putsV, Act.put, List.toList_toArray, List.setIfInBounds_toArray, List.set_cons_zero, List.set_cons_succ, Nat.reduceAdd, Nat.zero_add]; rfl) ?_ (fun _ _ _ _ _ h => h) ⟨hw, hkp⟩ ?_ (fun _ _ _ _ _ _ h => h) (fun L L' u hL h => by rw [← hL 7 (by decide)]; exact h) ?_
    · intro i L j x u u' _ _ _ h
      match j with
      | 0 => exact h
      | 1 => exact h
      | 2 => exact h
      | 3 => exact h
      | 4 => exact h
      | 5 => exact h
      | 6 => exact h
      | 7 => exact h
      | _ + 8 => trivial
    · refine ⟨?_, ?_, ?_, ?_, ?_, ?_, ?_, ?_, trivial⟩
      · intro L hL hcl v u hS hd K' hK
        simp only [waited, List.toList_toArray, Region.binds, rel, List.getD_cons_zero, List.getD_cons_succ, true_imp_iff, and_true] at hd
        simp only [rel, List.getD_cons_zero, List.getD_cons_succ, Act.put, List.setIfInBounds_toArray, List.set_cons_zero, List.set_cons_succ] at hK
        try simp only [hd] at hK
        go_simp
        exact hK.out _ _ ⟨hS, trivial, rfl⟩
      · intro L hL hcl v u hS hd K' hK
        simp only [waited, List.toList_toArray, Region.binds, rel, List.getD_cons_zero, List.getD_cons_succ, true_imp_iff, and_true] at hd
        simp only [rel, List.getD_cons_zero, List.getD_cons_succ, Act.put, List.setIfInBounds_toArray, List.set_cons_zero, List.set_cons_succ] at hK
        try simp only [hd] at hK
        go_simp
        exact hK.out _ _ ⟨hS, trivial, rfl⟩
      · intro L hL hcl v u hS hd K' hK
        simp only [waited, List.toList_toArray, Region.binds, rel, List.getD_cons_zero, List.getD_cons_succ, true_imp_iff, and_true] at hd
        simp only [rel, List.getD_cons_zero, List.getD_cons_succ, Act.put, List.setIfInBounds_toArray, List.set_cons_zero, List.set_cons_succ] at hK
        try simp only [hd] at hK
        go_simp
        exact hK.out _ _ ⟨hS, trivial, rfl⟩
      · intro L hL hcl v u hS hd K' hK
        simp only [waited, List.toList_toArray, Region.binds, rel, List.getD_cons_zero, List.getD_cons_succ, true_imp_iff, and_true] at hd
        simp only [rel, List.getD_cons_zero, List.getD_cons_succ, Act.put, List.setIfInBounds_toArray, List.set_cons_zero, List.set_cons_succ] at hK
        try simp only [hd] at hK
        go_simp
        exact hK.out _ _ ⟨hS, trivial, rfl⟩
      · intro L hL hcl v u hS hd K' hK
        simp only [waited, List.toList_toArray, Region.binds, rel, List.getD_cons_zero, List.getD_cons_succ, true_imp_iff, and_true] at hd
        simp only [rel, List.getD_cons_zero, List.getD_cons_succ, Act.put, List.setIfInBounds_toArray, List.set_cons_zero, List.set_cons_succ] at hK
        try simp only [hd] at hK
        go_simp
        exact hK.out _ _ ⟨hS, trivial, rfl⟩
      · intro L hL hcl v u hS hd K' hK
        simp only [waited, List.toList_toArray, Region.binds, rel, List.getD_cons_zero, List.getD_cons_succ, true_imp_iff, and_true] at hd
        simp only [rel, List.getD_cons_zero, List.getD_cons_succ, Act.put, List.setIfInBounds_toArray, List.set_cons_zero, List.set_cons_succ] at hK
        try simp only [hd] at hK
        have x0 := (hS.2.cell hA).trans hc
        go_simp
        exact hK.out _ _ ⟨hS, trivial, rfl⟩
      · intro L hL hcl v u hS hd K' hK
        simp only [waited, List.toList_toArray, Region.binds, rel, List.getD_cons_zero, List.getD_cons_succ, true_imp_iff, and_true] at hd
        simp only [rel, List.getD_cons_zero, List.getD_cons_succ, Act.put, List.setIfInBounds_toArray, List.set_cons_zero, List.set_cons_succ] at hK
        try simp only [hd] at hK
        go_simp
        refine (ctext_w s _ hs).mono ?_
        rintro e w2 ⟨rfl, hb2⟩
        exact hK.out _ _ ⟨⟨hS.1.below hb2, hS.2.trans (KP.of hb2 hS.1.isP.2 hS.1.isP.1)⟩, trivial, rfl⟩
      · intro L hL hcl v u hS hd K' hK
        simp only [waited, List.toList_toArray, Region.binds, rel, List.getD_cons_zero, List.getD_cons_succ, true_imp_iff, and_true] at hd
        simp only [rel, List.getD_cons_zero, List.getD_cons_succ, Act.put, List.setIfInBounds_toArray, List.set_cons_zero, List.set_cons_succ] at hK
        try simp only [hd] at hK
        have h1 := hS.1
        rw [hL] at h1
        go_simp
        refine (writeStringT B g (cellsOf bs) (str (txt s)) u h1 tok_writer (by rw [cellsOf_length]; rw [txt_size]; omega) (.inr (by rw [cellsOf_length]; rw [txt_size]; omega))).mono ?_
        rintro e w2 ⟨rfl, h2, k2⟩
        have h3 : Wr B g P (bs ++ txt s) bb w2 := by unfold Wr; rw [cellsOf_append]; rw [str_data] at h2; exact h2
        exact hK.out _ _ ⟨⟨h3, hS.2.trans k2⟩, trivial, trivial⟩
    · rintro v u hS hR
      simp only [holdAll, List.size_toArray, List.length_cons, List.length_nil, Nat.reduceAdd, rel, List.getD_cons_zero, List.getD_cons_succ] at hR
      clear hR
      go_wp2
      go_end0
      exact ⟨rfl, hS.1, hS.2⟩
set_option maxRecDepth 100000 in
set_option maxHeartbeats 600000 in
theorem wbyte_w (B g A o : Nat) (P : Nat → Prop) (bs : List UInt8) (bad : Bool) (c : UInt8) (w : World) (h : Wr B g P bs bad w) (hA : P A) (hc : w.cell? ⟨A, o, none⟩ = some (.int .u8 (c.toNat : Int))) (hlen : bs.length + 1 ≤ 140737488355328) :
    Calls Try.prog 19 #[.pointer (some ⟨g, 0, none⟩), .pointer (some ⟨A, o, none⟩)] w fun e w' => e = .returned (.tuple #[]) ∧ Wr B g P (bs ++ [c]) bad w' ∧ KP B P w w' := by
  have hw : Wr B g P bs bad w.drew := h
  go_enter Try.func19, Try.ntmps19
  go_wp2_with fail
  refine region_flatS _ (fun L u => Wr B g P (cond (L 6) (bs ++ [c]) bs) bad u ∧ KP B P w u) (fun _ _ _ => True)
    (fun _ => rel [fun v _ => v = .pointer (some ⟨g, 0, none⟩),
      fun v _ => v = .pointer (some ⟨g, 0, none⟩),
      fun v _ => v = .pointer (some ⟨g, 0, none⟩),
      fun v _ => v = .pointer (some ⟨A, o, none⟩),
      fun v _ => v = .pointer (some ⟨A, o, none⟩),
      fun v _ => v = .int .u8 (c.toNat : Int),
      fun _ _ => True])
    (by kernel_rfl) (by kernel_rfl) (fun v => by simp only [putsV, Act.put, List.toList_toArray, List.setIfInBounds_toArray, List.set_cons_zero, List.set_cons_succ, Nat.reduceAdd, Nat.zero_add]; rfl) ?_ (fun _ _ _ _ _ h => h) ⟨hw, (KP.refl B P w).drew⟩ ?_ (fun _ _ _ _ _ _ h => h) (fun L L' u hL h => by rw [← hL 6 (by decide)]; exact h) ?_
  · intro i L j x u u' _ _ _ h
    match j with
    | 0 => exact h
    | 1 => exact h
    | 2 => exact h
    | 3 => exact h
    | 4 => exact h
    | 5 => exact h
    | 6 => exact h
    | _ + 7 => trivial
  · refine ⟨?_, ?_, ?_, ?_, ?_, ?_, ?_, trivial⟩
    · intro L hL hcl v u hS hd K' hK
      simp only [waited, List.toList_toArray, Region.binds, rel, List.getD_cons_zero, List.getD_cons_succ, true_imp_iff, and_true] at hd
      simp only [rel, List.getD_cons_zero, List.getD_cons_succ, Act.put, List.setIfInBounds_toArray, List.set_cons_zero, List.set_cons_succ] at hK
      try simp only [hd] at hK
      go_simp
      exact hK.out _ _ ⟨hS, trivial, rfl⟩
    · intro L hL hcl v u hS hd K' hK
      simp only [waited, List.toList_toArray, Region.binds, rel, List.getD_cons_zero, List.getD_cons_succ, true_imp_iff, and_true] at hd
      simp only [rel, List.getD_cons_zero, List.getD_cons_succ, Act.put, List.setIfInBounds_toArray, List.set_cons_zero, List.set_cons_succ] at hK
      try simp only [hd] at hK
      go_simp
      exact hK.out _ _ ⟨hS, trivial, rfl⟩
    · intro L hL hcl v u hS hd K' hK
      simp only [waited, List.toList_toArray, Region.binds, rel, List.getD_cons_zero, List.getD_cons_succ, true_imp_iff, and_true] at hd
      simp only [rel, List.getD_cons_zero, List.getD_cons_succ, Act.put, List.setIfInBounds_toArray, List.set_cons_zero, List.set_cons_succ] at hK
      try simp only [hd] at hK
      go_simp
      exact hK.out _ _ ⟨hS, trivial, rfl⟩
    · intro L hL hcl v u hS hd K' hK
      simp only [waited, List.toList_toArray, Region.binds, rel, List.getD_cons_zero, List.getD_cons_succ, true_imp_iff, and_true] at hd
      simp only [rel, List.getD_cons_zero, List.getD_cons_succ, Act.put, List.setIfInBounds_toArray, List.set_cons_zero, List.set_cons_succ] at hK
      try simp only [hd] at hK
      go_simp
      exact hK.out _ _ ⟨hS, trivial, rfl⟩
    · intro L hL hcl v u hS hd K' hK
      simp only [waited, List.toList_toArray, Region.binds, rel, List.getD_cons_zero, List.getD_cons_succ, true_imp_iff, and_true] at hd
      simp only [rel, List.getD_cons_zero, List.getD_cons_succ, Act.put, List.setIfInBounds_toArray, List.set_cons_zero, List.set_cons_succ] at hK
      try simp only [hd] at hK
      go_simp
      exact hK.out _ _ ⟨hS, trivial, rfl⟩
    · intro L hL hcl v u hS hd K' hK
      simp only [waited, List.toList_toArray, Region.binds, rel, List.getD_cons_zero, List.getD_cons_succ, true_imp_iff, and_true] at hd
      simp only [rel, List.getD_cons_zero, List.getD_cons_succ, Act.put, List.setIfInBounds_toArray, List.set_cons_zero, List.set_cons_succ] at hK
      try simp only [hd] at hK
      have x0 := (hS.2.cell hA).trans hc
      go_simp
      exact hK.out _ _ ⟨hS, trivial, rfl⟩
    · intro L hL hcl v u hS hd K' hK
      simp only [waited, List.toList_toArray, Region.binds, rel, List.getD_cons_zero, List.getD_cons_succ, true_imp_iff, and_true] at hd
      simp only [rel, List.getD_cons_zero, List.getD_cons_succ, Act.put, List.setIfInBounds_toArray, List.set_cons_zero, List.set_cons_succ] at hK
      try simp only [hd] at hK
      have h1 := hS.1
      rw [hL] at h1
      go_simp
      refine (writeByteT B g (cellsOf bs) (c.toNat : Int) u h1 tok_writer (by rw [cellsOf_length]; omega)).mono ?_
      rintro e w2 ⟨rfl, h2, k2⟩
      have h3 : Wr B g P (bs ++ [c]) bad w2 := by unfold Wr; rw [cellsOf_append]; exact h2
      exact hK.out _ _ ⟨⟨h3, hS.2.trans k2⟩, trivial, trivial⟩
  · rintro v u hS hR
    simp only [holdAll, List.size_toArray, List.length_cons, List.length_nil, Nat.reduceAdd, rel, List.getD_cons_zero, List.getD_cons_succ] at hR
    clear hR
    go_wp2
    go_end0
    exact ⟨rfl, hS.1, hS.2⟩
set_option maxRecDepth 100000 in
set_option maxHeartbeats 600000 in
theorem wfail_w (B g : Nat) (P : Nat → Prop) (bs : List UInt8) (bad : Bool) (w : World) (h : Wr B g P bs bad w) :
    Calls Try.prog 65 #[.pointer (some ⟨g, 0, none⟩)] w fun e w' => e = .returned (.tuple #[]) ∧ Wr B g P bs true w' ∧ KP B P w w' := by
  obtain ⟨h2, k2⟩ := h.bad (b := true)
  have c2 := h.cell.1
  have f2 := h.cell.2
  go_enter Try.func65, Try.ntmps65
  go_wp2
  go_end0
  exact ⟨rfl, h2, k2⟩
end Go.Proofs.Ytiodfbbgbnbdpaa
