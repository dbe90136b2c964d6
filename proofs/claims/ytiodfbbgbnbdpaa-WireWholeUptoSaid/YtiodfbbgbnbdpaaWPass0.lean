/- wire.pass at the writer, of a reply in range without texts. -/
import Derived.Test.YtiodfbbgbnbdpaaGH
namespace Go.Proofs.Ytiodfbbgbnbdpaa
set_option linter.unusedSimpArgs false
set_option linter.unusedVariables false
open Go.RowKit
open Crc
set_option maxRecDepth 100000 in
set_option maxHeartbeats 2000000 in
theorem wpass0_w {B g A n : Nat} {P : Nat → Prop} {bs : List UInt8} {y p : UInt8} {w : World} (h : Wr B g P bs false w) (hA : P A) (hAB : B ≤ A) (ha : Blk w A [.int .i64 (y.toNat : Int), .int .u64 (n : Int), .int .i64 (p.toNat : Int), .bool false, .slice none 0 0, .slice none 0 0] 44) (hb : bs.length ≤ 100) :
    Calls Try.prog 30 #[.iface 53 (.pointer (some ⟨g, 0, none⟩)), .pointer (some ⟨A, 0, none⟩)] w fun e w' => e = .returned (.tuple #[]) ∧ (∃ P', Wr B g P' (bs ++ [y] ++ putL n 8 ++ [p] ++ [0] ++ [0] ++ [0]) false w') ∧ Below B w w' := by
  have hPw := h.isP.1
  have hBw := h.isP.2
  have hy8 : IntKind.u8.wrap (y.toNat : Int) = (y.toNat : Int) := by have := y.toNat_lt; simp [IntKind.wrap, IntKind.bits, IntKind.signed]; omega
  have hp8 : IntKind.u8.wrap (p.toNat : Int) = (p.toNat : Int) := by have := p.toNat_lt; simp [IntKind.wrap, IntKind.bits, IntKind.signed]; omega
  have hy64 : IntKind.i64.wrap (y.toNat : Int) = (y.toNat : Int) := by have := y.toNat_lt; simp [IntKind.wrap, IntKind.bits, IntKind.signed]; omega
  have hp64 : IntKind.i64.wrap (p.toNat : Int) = (p.toNat : Int) := by have := p.toNat_lt; simp [IntKind.wrap, IntKind.bits, IntKind.signed]; omega
  have h0 : K3 w B g bs false P (.int .u8 0) (.int .u8 0) (.int .u8 0) undef undef undef w.drew := ⟨P, h, fun _ h => h, (KP.refl _ _ _).drew, ⟨fun k e => (by simp [undef] at e), fun k e => (by simp [undef] at e), fun k e => (by simp [undef] at e)⟩, fun k e => (by simp [undef] at e), fun k e => (by simp [undef] at e), fun k e => (by simp [undef] at e)⟩
  go_enter Try.func30, Try.ntmps30
  go_wp2_with fail
  refine region_flatV _ (fun L v u => K3 w B g bs false P (cond (L 13) (.int .u8 (y.toNat : Int)) (.int .u8 0)) (cond (L 14) (.int .u8 (p.toNat : Int)) (.int .u8 0)) (cond (L 15) (.int .u8 0) (.int .u8 0)) (v 10) (v 11) (v 12) u) (fun _ _ _ => True)
    (fun _ => rel [fun v _ => v = .pointer (some ⟨A, 0, none⟩),
      fun v _ => v = .pointer (some ⟨A, 0, none⟩),
      fun v _ => v = .pointer (some ⟨A, 0, none⟩),
      fun v _ => v = .int .i64 (y.toNat : Int),
      fun v _ => v = .int .u8 (y.toNat : Int),
      fun v _ => v = .pointer (some ⟨A, 0, none⟩),
      fun v _ => v = .pointer (some ⟨A, 0, none⟩),
      fun v _ => v = .pointer (some ⟨A, 2, none⟩),
      fun v _ => v = .int .i64 (p.toNat : Int),
      fun v _ => v = .int .u8 (p.toNat : Int),
      fun v _ => ∃ k, v = .pointer (some ⟨k, 0, none⟩),
      fun v _ => ∃ k, v = .pointer (some ⟨k, 0, none⟩),
      fun v _ => ∃ k, v = .pointer (some ⟨k, 0, none⟩),
      fun _ _ => True,
      fun _ _ => True,
      fun _ _ => True])
    (by kernel_rfl) (by kernel_rfl) (fun v => by simp only [putsV, Act.put, List.toList_toArray, List.setIfInBounds_toArray, List.set_cons_zero, List.set_cons_succ, Nat.reduceAdd, Nat.zero_add]; rfl) ?_ (fun _ _ _ _ _ h => h) h0 ?_ (fun _ _ _ _ _ _ h => h) (fun L L' v u hL h => by rw [← hL 13 (by decide)]; rw [← hL 14 (by decide)]; rw [← hL 15 (by decide)]; exact h) ?_
  · intro i L j x u u' _ _ _ h
    match j with
    | 0 => exact h
    | 1 => exact h
    | 2 => exact h
    | 3 => exact h
    | 4 => exact h
    | 5 => exact h
    | 6 => exact h
    | 7 => exact h
    | 8 => exact h
    | 9 => exact h
    | 10 => exact h
    | 11 => exact h
    | 12 => exact h
    | 13 => exact h
    | 14 => exact h
    | 15 => exact h
    | _ + 16 => trivial
  · refine ⟨?_, ?_, ?_, ?_, ?_, ?_, ?_, ?_, ?_, ?_, ?_, ?_, ?_, ?_, ?_, ?_, trivial⟩
    · intro L hL hcl v u hS hd K' hK
      simp only [waited, List.toList_toArray, Region.binds, rel, List.getD_cons_zero, List.getD_cons_succ, true_imp_iff, and_true] at hd
      simp only [rel, List.getD_cons_zero, List.getD_cons_succ, Act.put, List.setIfInBounds_toArray, List.set_cons_zero, List.set_cons_succ] at hK
      try simp only [hd] at hK
      go_simp
      exact hK.out _ _ ⟨hS, trivial, rfl⟩
    · intro L hL hcl v u hS hd K' hK
      simp only [waited, List.toList_toArray, Region.binds, rel, List.getD_cons_zero, List.getD_cons_succ, true_imp_iff, and_true] at hd
      simp only [rel, List.getD_cons_zero, List.getD_cons_succ, Act.put, List.setIfInBounds_toArray, List.set_cons_zero, List.set_cons_succ] at hK
      try simp only [hd] at hK
      go_simp
      exact hK.out _ _ ⟨hS, trivial, rfl⟩
    · intro L hL hcl v u hS hd K' hK
      simp only [waited, List.toList_toArray, Region.binds, rel, List.getD_cons_zero, List.getD_cons_succ, true_imp_iff, and_true] at hd
      simp only [rel, List.getD_cons_zero, List.getD_cons_succ, Act.put, List.setIfInBounds_toArray, List.set_cons_zero, List.set_cons_succ] at hK
      try simp only [hd] at hK
      go_simp
      exact hK.out _ _ ⟨hS, trivial, rfl⟩
    · intro L hL hcl v u hS hd K' hK
      simp only [waited, List.toList_toArray, Region.binds, rel, List.getD_cons_zero, List.getD_cons_succ, true_imp_iff, and_true] at hd
      simp only [rel, List.getD_cons_zero, List.getD_cons_succ, Act.put, List.setIfInBounds_toArray, List.set_cons_zero, List.set_cons_succ] at hK
      try simp only [hd] at hK
      obtain ⟨_, _, _, hkp, _⟩ := id hS
      have x0 := (hkp.cell (o := 0) hA).trans (by rw [ha.cell]; first | done | rfl)
      go_simp
      exact hK.out _ _ ⟨hS, trivial, rfl⟩
    · intro L hL hcl v u hS hd K' hK
      simp only [waited, List.toList_toArray, Region.binds, rel, List.getD_cons_zero, List.getD_cons_succ, true_imp_iff, and_true] at hd
      simp only [rel, List.getD_cons_zero, List.getD_cons_succ, Act.put, List.setIfInBounds_toArray, List.set_cons_zero, List.set_cons_succ] at hK
      try simp only [hd] at hK
      go_simp
      exact hK.out _ _ ⟨hS, trivial, rfl⟩
    · intro L hL hcl v u hS hd K' hK
      simp only [waited, List.toList_toArray, Region.binds, rel, List.getD_cons_zero, List.getD_cons_succ, true_imp_iff, and_true] at hd
      simp only [rel, List.getD_cons_zero, List.getD_cons_succ, Act.put, List.setIfInBounds_toArray, List.set_cons_zero, List.set_cons_succ] at hK
      try simp only [hd] at hK
      go_simp
      exact hK.out _ _ ⟨hS, trivial, rfl⟩
    · intro L hL hcl v u hS hd K' hK
      simp only [waited, List.toList_toArray, Region.binds, rel, List.getD_cons_zero, List.getD_cons_succ, true_imp_iff, and_true] at hd
      simp only [rel, List.getD_cons_zero, List.getD_cons_succ, Act.put, List.setIfInBounds_toArray, List.set_cons_zero, List.set_cons_succ] at hK
      try simp only [hd] at hK
      go_simp
      exact hK.out _ _ ⟨hS, trivial, rfl⟩
    · intro L hL hcl v u hS hd K' hK
      simp only [waited, List.toList_toArray, Region.binds, rel, List.getD_cons_zero, List.getD_cons_succ, true_imp_iff, and_true] at hd
      simp only [rel, List.getD_cons_zero, List.getD_cons_succ, Act.put, List.setIfInBounds_toArray, List.set_cons_zero, List.set_cons_succ] at hK
      try simp only [hd] at hK
      go_simp
      exact hK.out _ _ ⟨hS, trivial, rfl⟩
    · intro L hL hcl v u hS hd K' hK
      simp only [waited, List.toList_toArray, Region.binds, rel, List.getD_cons_zero, List.getD_cons_succ, true_imp_iff, and_true] at hd
      simp only [rel, List.getD_cons_zero, List.getD_cons_succ, Act.put, List.setIfInBounds_toArray, List.set_cons_zero, List.set_cons_succ] at hK
      try simp only [hd] at hK
      obtain ⟨_, _, _, hkp, _⟩ := id hS
      have x0 := (hkp.cell (o := 2) hA).trans (by rw [ha.cell]; first | done | rfl)
      go_simp
      exact hK.out _ _ ⟨hS, trivial, rfl⟩
    · intro L hL hcl v u hS hd K' hK
      simp only [waited, List.toList_toArray, Region.binds, rel, List.getD_cons_zero, List.getD_cons_succ, true_imp_iff, and_true] at hd
      simp only [rel, List.getD_cons_zero, List.getD_cons_succ, Act.put, List.setIfInBounds_toArray, List.set_cons_zero, List.set_cons_succ] at hK
      try simp only [hd] at hK
      go_simp
      exact hK.out _ _ ⟨hS, trivial, rfl⟩
    · intro L hL hcl v u hS hd K' hK
      simp only [waited, List.toList_toArray, Region.binds, rel, List.getD_cons_zero, List.getD_cons_succ, true_imp_iff, and_true] at hd
      simp only [rel, List.getD_cons_zero, List.getD_cons_succ, Act.put, List.setIfInBounds_toArray, List.set_cons_zero, List.set_cons_succ] at hK
      try simp only [hd] at hK
      have h0 : L 13 = false := by
        cases h9 : L 13 with
        | false => rfl
        | true => have h8 := hcl 13 10 h9 (by kernel_rfl); rw [hL] at h8; cases h8
      have hS' := hS
      rw [h0] at hS'
      have h2 := K3.alloc1 hS'
      go_simp
      have h3 : K3 w B g bs false P (cond (L 13) (.int .u8 (y.toNat : Int)) (.int .u8 0)) (cond (L 14) (.int .u8 (p.toNat : Int)) (.int .u8 0)) (cond (L 15) (.int .u8 0) (.int .u8 0)) (.pointer (some ⟨u.heap.size, 0, none⟩)) (v 11) (v 12) (u.alloc (.cells #[.int .u8 0] 5)) := by rw [h0]; exact h2
      exact hK.out _ _ ⟨h3, trivial, ⟨_, rfl⟩⟩
    · intro L hL hcl v u hS hd K' hK
      simp only [waited, List.toList_toArray, Region.binds, rel, List.getD_cons_zero, List.getD_cons_succ, true_imp_iff, and_true] at hd
      simp only [rel, List.getD_cons_zero, List.getD_cons_succ, Act.put, List.setIfInBounds_toArray, List.set_cons_zero, List.set_cons_succ] at hK
      try simp only [hd] at hK
      have h0 : L 14 = false := by
        cases h9 : L 14 with
        | false => rfl
        | true => have h8 := hcl 14 11 h9 (by kernel_rfl); rw [hL] at h8; cases h8
      have hS' := hS
      rw [h0] at hS'
      have h2 := K3.alloc2 hS'
      go_simp
      have h3 : K3 w B g bs false P (cond (L 13) (.int .u8 (y.toNat : Int)) (.int .u8 0)) (cond (L 14) (.int .u8 (p.toNat : Int)) (.int .u8 0)) (cond (L 15) (.int .u8 0) (.int .u8 0)) (v 10) (.pointer (some ⟨u.heap.size, 0, none⟩)) (v 12) (u.alloc (.cells #[.int .u8 0] 5)) := by rw [h0]; exact h2
      exact hK.out _ _ ⟨h3, trivial, ⟨_, rfl⟩⟩
    · intro L hL hcl v u hS hd K' hK
      simp only [waited, List.toList_toArray, Region.binds, rel, List.getD_cons_zero, List.getD_cons_succ, true_imp_iff, and_true] at hd
      simp only [rel, List.getD_cons_zero, List.getD_cons_succ, Act.put, List.setIfInBounds_toArray, List.set_cons_zero, List.set_cons_succ] at hK
      try simp only [hd] at hK
      have h0 : L 15 = false := by
        cases h9 : L 15 with
        | false => rfl
        | true => have h8 := hcl 15 12 h9 (by kernel_rfl); rw [hL] at h8; cases h8
      have hS' := hS
      rw [h0] at hS'
      have h2 := K3.alloc3 hS'
      go_simp
      have h3 : K3 w B g bs false P (cond (L 13) (.int .u8 (y.toNat : Int)) (.int .u8 0)) (cond (L 14) (.int .u8 (p.toNat : Int)) (.int .u8 0)) (cond (L 15) (.int .u8 0) (.int .u8 0)) (v 10) (v 11) (.pointer (some ⟨u.heap.size, 0, none⟩)) (u.alloc (.cells #[.int .u8 0] 5)) := by rw [h0]; exact h2
      exact hK.out _ _ ⟨h3, trivial, ⟨_, rfl⟩⟩
    · intro L hL hcl v u hS hd K' hK
      simp only [waited, List.toList_toArray, Region.binds, rel, List.getD_cons_zero, List.getD_cons_succ, true_imp_iff, and_true] at hd
      simp only [rel, List.getD_cons_zero, List.getD_cons_succ, Act.put, List.setIfInBounds_toArray, List.set_cons_zero, List.set_cons_succ] at hK
      try simp only [hd] at hK
      obtain ⟨⟨k, e0⟩, e1, _⟩ := hd
      have hS' : K3 w B g bs false P (cond (L 13) (.int .u8 (y.toNat : Int)) (.int .u8 0)) (cond (L 14) (.int .u8 (p.toNat : Int)) (.int .u8 0)) (cond (L 15) (.int .u8 0) (.int .u8 0)) (.pointer (some ⟨k, 0, none⟩)) (v 11) (v 12) u := by rw [← e0]; exact hS
      have hB9 := id hS'
      obtain ⟨_, _, _, _, ⟨q1, q2, q3⟩, _⟩ := hB9
      have hk9 := (q1 k rfl).2.2
      have x0 := hk9.cell 0
      have f0 := hk9.free 0
      have h2 := K3.store1 hS' hPw hBw (.int .u8 (y.toNat : Int))
      simp only [e0, e1] at hK ⊢
      go_simp
      have h3 : K3 w B g bs false P (cond (true) (.int .u8 (y.toNat : Int)) (.int .u8 0)) (cond (L 14) (.int .u8 (p.toNat : Int)) (.int .u8 0)) (cond (L 15) (.int .u8 0) (.int .u8 0)) (v 10) (v 11) (v 12) (u.setCell ⟨k, 0, none⟩ (.int .u8 (y.toNat : Int))) := by rw [e0]; exact h2
      exact hK.out undef _ ⟨h3, trivial, trivial⟩
    · intro L hL hcl v u hS hd K' hK
      simp only [waited, List.toList_toArray, Region.binds, rel, List.getD_cons_zero, List.getD_cons_succ, true_imp_iff, and_true] at hd
      simp only [rel, List.getD_cons_zero, List.getD_cons_succ, Act.put, List.setIfInBounds_toArray, List.set_cons_zero, List.set_cons_succ] at hK
      try simp only [hd] at hK
      obtain ⟨⟨k, e0⟩, e1, _⟩ := hd
      have hS' : K3 w B g bs false P (cond (L 13) (.int .u8 (y.toNat : Int)) (.int .u8 0)) (cond (L 14) (.int .u8 (p.toNat : Int)) (.int .u8 0)) (cond (L 15) (.int .u8 0) (.int .u8 0)) (v 10) (.pointer (some ⟨k, 0, none⟩)) (v 12) u := by rw [← e0]; exact hS
      have hB9 := id hS'
      obtain ⟨_, _, _, _, ⟨q1, q2, q3⟩, _⟩ := hB9
      have hk9 := (q2 k rfl).2.2
      have x0 := hk9.cell 0
      have f0 := hk9.free 0
      have h2 := K3.store2 hS' hPw hBw (.int .u8 (p.toNat : Int))
      simp only [e0, e1] at hK ⊢
      go_simp
      have h3 : K3 w B g bs false P (cond (L 13) (.int .u8 (y.toNat : Int)) (.int .u8 0)) (cond (true) (.int .u8 (p.toNat : Int)) (.int .u8 0)) (cond (L 15) (.int .u8 0) (.int .u8 0)) (v 10) (v 11) (v 12) (u.setCell ⟨k, 0, none⟩ (.int .u8 (p.toNat : Int))) := by rw [e0]; exact h2
      exact hK.out undef _ ⟨h3, trivial, trivial⟩
    · intro L hL hcl v u hS hd K' hK
      simp only [waited, List.toList_toArray, Region.binds, rel, List.getD_cons_zero, List.getD_cons_succ, true_imp_iff, and_true] at hd
      simp only [rel, List.getD_cons_zero, List.getD_cons_succ, Act.put, List.setIfInBounds_toArray, List.set_cons_zero, List.set_cons_succ] at hK
      try simp only [hd] at hK
      obtain ⟨⟨k, e0⟩, _⟩ := hd
      have hS' : K3 w B g bs false P (cond (L 13) (.int .u8 (y.toNat : Int)) (.int .u8 0)) (cond (L 14) (.int .u8 (p.toNat : Int)) (.int .u8 0)) (cond (L 15) (.int .u8 0) (.int .u8 0)) (v 10) (v 11) (.pointer (some ⟨k, 0, none⟩)) u := by rw [← e0]; exact hS
      have hB9 := id hS'
      obtain ⟨_, _, _, _, ⟨q1, q2, q3⟩, _⟩ := hB9
      have hk9 := (q3 k rfl).2.2
      have x0 := hk9.cell 0
      have f0 := hk9.free 0
      have h2 := K3.store3 hS' hPw hBw (.int .u8 0)
      simp only [e0] at hK ⊢
      go_simp
      have h3 : K3 w B g bs false P (cond (L 13) (.int .u8 (y.toNat : Int)) (.int .u8 0)) (cond (L 14) (.int .u8 (p.toNat : Int)) (.int .u8 0)) (cond (true) (.int .u8 0) (.int .u8 0)) (v 10) (v 11) (v 12) (u.setCell ⟨k, 0, none⟩ (.int .u8 0)) := by rw [e0]; exact h2
      exact hK.out undef _ ⟨h3, trivial, trivial⟩
  · rintro v u hS hR
    simp only [holdAll, List.size_toArray, List.length_cons, List.length_nil, Nat.reduceAdd, rel, List.getD_cons_zero, List.getD_cons_succ] at hR
    obtain ⟨⟨⟨⟨⟨⟨-, ⟨k1, e1⟩⟩, ⟨k2, e2⟩⟩, ⟨k3, e3⟩⟩, -⟩, -⟩, -⟩ := hR
    simp only [e1, e2, e3] at hS ⊢
    obtain ⟨P', h1, hPP, hkp, ⟨q1, q2, q3⟩, a12, a13, a23⟩ := hS
    obtain ⟨p1, s1, K1⟩ := q1 k1 rfl
    obtain ⟨p2, s2, K2⟩ := q2 k2 rfl
    obtain ⟨p3, s3, K3'⟩ := q3 k3 rfl
    have n12 : k2 ≠ k1 := fun e => a12 k1 rfl (by rw [e])
    have n13 : k3 ≠ k1 := fun e => a13 k1 rfl (by rw [e])
    have n23 : k3 ≠ k2 := fun e => a23 k2 rfl (by rw [e])
    have A0 := ha.kP hkp hA
    have pA := hPP A hA
    have hb0 := hkp.2
    have xA := A0.cell
    clear q1 q2 q3 a12 a13 a23 e1 e2 e3 hkp h0 hPP
    go_upto_region 3 with fail
    clear xA
    obtain ⟨W1, hW1⟩ := named u
    rw [← hW1.out] at h1 K1 K2 K3' A0 hb0 ⊢
    clear hW1
    go_wp2_with fail
    refine region_flatS _ (fun L u => Hid (u = W1.drew) ∧ (∀ i, u.cell? ⟨k1, i, none⟩ = [Value.int .u8 (y.toNat : Int)][i]?) ∧ (∀ i, u.cell? ⟨k2, i, none⟩ = [Value.int .u8 (p.toNat : Int)][i]?) ∧ (∀ i, u.cell? ⟨A, i, none⟩ = [.int .i64 (y.toNat : Int), .int .u64 (n : Int), .int .i64 (p.toNat : Int), .bool false, .slice none 0 0, .slice none 0 0][i]?)) (fun _ _ _ => True)
      (fun _ => rel [fun v _ => v = .int .u8 (y.toNat : Int),
        fun v _ => v = .int .i64 (y.toNat : Int),
        fun v _ => v = .pointer (some ⟨A, 0, none⟩),
        fun v _ => v = .pointer (some ⟨A, 0, none⟩),
        fun v _ => v = .pointer (some ⟨A, 0, none⟩),
        fun v _ => v = .int .i64 (y.toNat : Int),
        fun v _ => v = .bool false,
        fun v _ => v = .bool false,
        fun v _ => v = .int .u8 (p.toNat : Int),
        fun v _ => v = .int .i64 (p.toNat : Int),
        fun v _ => v = .pointer (some ⟨A, 0, none⟩),
        fun v _ => v = .pointer (some ⟨A, 0, none⟩),
        fun v _ => v = .pointer (some ⟨A, 2, none⟩),
        fun v _ => v = .int .i64 (p.toNat : Int),
        fun v _ => v = .bool false,
        fun v _ => v = .bool false])
      (by kernel_rfl) (by kernel_rfl) (fun v => by simp only [putsV, Act.put, List.toList_toArray, List.setIfInBounds_toArray, List.set_cons_zero, List.set_cons_succ, Nat.reduceAdd, Nat.zero_add]; rfl) ?_ (fun _ _ _ _ _ h => h) ⟨hide rfl, K1.cell, K2.cell, A0.cell⟩ ?_ (fun _ _ _ _ _ _ h => h) (fun L L' u hL h => by  exact h) ?_
    · intro i L j x u u' _ _ _ h
      match j with
      | 0 => exact h
      | 1 => exact h
      | 2 => exact h
      | 3 => exact h
      | 4 => exact h
      | 5 => exact h
      | 6 => exact h
      | 7 => exact h
      | 8 => exact h
      | 9 => exact h
      | 10 => exact h
      | 11 => exact h
      | 12 => exact h
      | 13 => exact h
      | 14 => exact h
      | 15 => exact h
      | _ + 16 => trivial
    · refine ⟨?_, ?_, ?_, ?_, ?_, ?_, ?_, ?_, ?_, ?_, ?_, ?_, ?_, ?_, ?_, ?_, trivial⟩
      · intro L hL hcl v u hS hd K' hK
        simp only [waited, List.toList_toArray, Region.binds, rel, List.getD_cons_zero, List.getD_cons_succ, true_imp_iff, and_true] at hd
        simp only [rel, List.getD_cons_zero, List.getD_cons_succ, Act.put, List.setIfInBounds_toArray, List.set_cons_zero, List.set_cons_succ] at hK
        try simp only [hd] at hK
        have x0 := hS.2.1 0
        go_simp
        exact hK.out _ _ ⟨hS, trivial, rfl⟩
      · intro L hL hcl v u hS hd K' hK
        simp only [waited, List.toList_toArray, Region.binds, rel, List.getD_cons_zero, List.getD_cons_succ, true_imp_iff, and_true] at hd
        simp only [rel, List.getD_cons_zero, List.getD_cons_succ, Act.put, List.setIfInBounds_toArray, List.set_cons_zero, List.set_cons_succ] at hK
        try simp only [hd] at hK
        go_simp
        exact hK.out _ _ ⟨hS, trivial, rfl⟩
      · intro L hL hcl v u hS hd K' hK
        simp only [waited, List.toList_toArray, Region.binds, rel, List.getD_cons_zero, List.getD_cons_succ, true_imp_iff, and_true] at hd
        simp only [rel, List.getD_cons_zero, List.getD_cons_succ, Act.put, List.setIfInBounds_toArray, List.set_cons_zero, List.set_cons_succ] at hK
        try simp only [hd] at hK
        go_simp
        exact hK.out _ _ ⟨hS, trivial, rfl⟩
      · intro L hL hcl v u hS hd K' hK
        simp only [waited, List.toList_toArray, Region.binds, rel, List.getD_cons_zero, List.getD_cons_succ, true_imp_iff, and_true] at hd
        simp only [rel, List.getD_cons_zero, List.getD_cons_succ, Act.put, List.setIfInBounds_toArray, List.set_cons_zero, List.set_cons_succ] at hK
        try simp only [hd] at hK
        go_simp
        exact hK.out _ _ ⟨hS, trivial, rfl⟩
      · intro L hL hcl v u hS hd K' hK
        simp only [waited, List.toList_toArray, Region.binds, rel, List.getD_cons_zero, List.getD_cons_succ, true_imp_iff, and_true] at hd
        simp only [rel, List.getD_cons_zero, List.getD_cons_succ, Act.put, List.setIfInBounds_toArray, List.set_cons_zero, List.set_cons_succ] at hK
        try simp only [hd] at hK
        go_simp
        exact hK.out _ _ ⟨hS, trivial, rfl⟩
      · intro L hL hcl v u hS hd K' hK
        simp only [waited, List.toList_toArray, Region.binds, rel, List.getD_cons_zero, List.getD_cons_succ, true_imp_iff, and_true] at hd
        simp only [rel, List.getD_cons_zero, List.getD_cons_succ, Act.put, List.setIfInBounds_toArray, List.set_cons_zero, List.set_cons_succ] at hK
        try simp only [hd] at hK
        have x0 := hS.2.2.2 0
        go_simp
        exact hK.out _ _ ⟨hS, trivial, rfl⟩
      · intro L hL hcl v u hS hd K' hK
        simp only [waited, List.toList_toArray, Region.binds, rel, List.getD_cons_zero, List.getD_cons_succ, true_imp_iff, and_true] at hd
        simp only [rel, List.getD_cons_zero, List.getD_cons_succ, Act.put, List.setIfInBounds_toArray, List.set_cons_zero, List.set_cons_succ] at hK
        try simp only [hd] at hK
        go_simp
        exact hK.out _ _ ⟨hS, trivial, rfl⟩
      · intro L hL hcl v u hS hd K' hK
        simp only [waited, List.toList_toArray, Region.binds, rel, List.getD_cons_zero, List.getD_cons_succ, true_imp_iff, and_true] at hd
        simp only [rel, List.getD_cons_zero, List.getD_cons_succ, Act.put, List.setIfInBounds_toArray, List.set_cons_zero, List.set_cons_succ] at hK
        try simp only [hd] at hK
        go_simp
        exact hK.out _ _ ⟨hS, trivial, rfl⟩
      · intro L hL hcl v u hS hd K' hK
        simp only [waited, List.toList_toArray, Region.binds, rel, List.getD_cons_zero, List.getD_cons_succ, true_imp_iff, and_true] at hd
        simp only [rel, List.getD_cons_zero, List.getD_cons_succ, Act.put, List.setIfInBounds_toArray, List.set_cons_zero, List.set_cons_succ] at hK
        try simp only [hd] at hK
        have x0 := hS.2.2.1 0
        go_simp
        exact hK.out _ _ ⟨hS, trivial, rfl⟩
      · intro L hL hcl v u hS hd K' hK
        simp only [waited, List.toList_toArray, Region.binds, rel, List.getD_cons_zero, List.getD_cons_succ, true_imp_iff, and_true] at hd
        simp only [rel, List.getD_cons_zero, List.getD_cons_succ, Act.put, List.setIfInBounds_toArray, List.set_cons_zero, List.set_cons_succ] at hK
        try simp only [hd] at hK
        go_simp
        exact hK.out _ _ ⟨hS, trivial, rfl⟩
      · intro L hL hcl v u hS hd K' hK
        simp only [waited, List.toList_toArray, Region.binds, rel, List.getD_cons_zero, List.getD_cons_succ, true_imp_iff, and_true] at hd
        simp only [rel, List.getD_cons_zero, List.getD_cons_succ, Act.put, List.setIfInBounds_toArray, List.set_cons_zero, List.set_cons_succ] at hK
        try simp only [hd] at hK
        go_simp
        exact hK.out _ _ ⟨hS, trivial, rfl⟩
      · intro L hL hcl v u hS hd K' hK
        simp only [waited, List.toList_toArray, Region.binds, rel, List.getD_cons_zero, List.getD_cons_succ, true_imp_iff, and_true] at hd
        simp only [rel, List.getD_cons_zero, List.getD_cons_succ, Act.put, List.setIfInBounds_toArray, List.set_cons_zero, List.set_cons_succ] at hK
        try simp only [hd] at hK
        go_simp
        exact hK.out _ _ ⟨hS, trivial, rfl⟩
      · intro L hL hcl v u hS hd K' hK
        simp only [waited, List.toList_toArray, Region.binds, rel, List.getD_cons_zero, List.getD_cons_succ, true_imp_iff, and_true] at hd
        simp only [rel, List.getD_cons_zero, List.getD_cons_succ, Act.put, List.setIfInBounds_toArray, List.set_cons_zero, List.set_cons_succ] at hK
        try simp only [hd] at hK
        go_simp
        exact hK.out _ _ ⟨hS, trivial, rfl⟩
      · intro L hL hcl v u hS hd K' hK
        simp only [waited, List.toList_toArray, Region.binds, rel, List.getD_cons_zero, List.getD_cons_succ, true_imp_iff, and_true] at hd
        simp only [rel, List.getD_cons_zero, List.getD_cons_succ, Act.put, List.setIfInBounds_toArray, List.set_cons_zero, List.set_cons_succ] at hK
        try simp only [hd] at hK
        have x0 := hS.2.2.2 2
        go_simp
        exact hK.out _ _ ⟨hS, trivial, rfl⟩
      · intro L hL hcl v u hS hd K' hK
        simp only [waited, List.toList_toArray, Region.binds, rel, List.getD_cons_zero, List.getD_cons_succ, true_imp_iff, and_true] at hd
        simp only [rel, List.getD_cons_zero, List.getD_cons_succ, Act.put, List.setIfInBounds_toArray, List.set_cons_zero, List.set_cons_succ] at hK
        try simp only [hd] at hK
        go_simp
        exact hK.out _ _ ⟨hS, trivial, rfl⟩
      · intro L hL hcl v u hS hd K' hK
        simp only [waited, List.toList_toArray, Region.binds, rel, List.getD_cons_zero, List.getD_cons_succ, true_imp_iff, and_true] at hd
        simp only [rel, List.getD_cons_zero, List.getD_cons_succ, Act.put, List.setIfInBounds_toArray, List.set_cons_zero, List.set_cons_succ] at hK
        try simp only [hd] at hK
        go_simp
        exact hK.out _ _ ⟨hS, trivial, rfl⟩
    · rintro v u hS hR
      simp only [holdAll, List.size_toArray, List.length_cons, List.length_nil, Nat.reduceAdd, rel, List.getD_cons_zero, List.getD_cons_succ] at hR
      obtain ⟨-, h15⟩ := hR
      simp only [h15]
      have hu := hS.1.out
      clear hS h15
      rw [hu]
      clear hu
      have hw1 : Wr B g P' bs false W1.drew := h1
      have A1 : Blk W1.drew A [.int .i64 (y.toNat : Int), .int .u64 (n : Int), .int .i64 (p.toNat : Int), .bool false, .slice none 0 0, .slice none 0 0] 44 := A0
      have b1 : Blk W1.drew k1 [.int .u8 (y.toNat : Int)] 5 := K1
      have b2 : Blk W1.drew k2 [.int .u8 (p.toNat : Int)] 5 := K2
      have b3 : Blk W1.drew k3 [.int .u8 0] 5 := K3'
      have hbl : Below B w W1.drew := hb0.drew
      obtain ⟨W2, hW2⟩ := named W1.drew
      rw [← hW2.out] at hw1 A1 b1 b2 b3 hbl ⊢
      clear hW2 h1 A0 K1 K2 K3' hb0
      have hm := wm_byte
      have hby4 := wbyte_w B g k1 0 P' (bs) false y W2 hw1 p1 (by rw [b1.cell]; rfl) (by first | omega | (simp only [List.length_append, List.length_cons, List.length_nil, putL_length]; omega))
      go_wp2_with fail
      refine hby4.mono ?_
      rintro e W3 ⟨rfl, hw4, kp4⟩
      replace A1 := A1.kP kp4 pA
      replace b1 := b1.kP kp4 p1
      replace b2 := b2.kP kp4 p2
      replace b3 := b3.kP kp4 p3
      replace hbl := hbl.trans kp4.2
      clear hby4 kp4 hw1
      have xn : W3.cell? ⟨A, 1, none⟩ = some (.int .u64 (n : Int)) := by rw [A1.cell]; rfl
      go_wp2_with fail
      refine region_flatS _ (fun L u => Wr B g P' (cond (L 7) (bs ++ [y] ++ putL n 8) (bs ++ [y])) false u ∧ KP B P' W3 u) (fun _ _ _ => True)
        (fun _ => rel [fun v _ => v = .iface 53 (.pointer (some ⟨g, 0, none⟩)),
          fun v _ => v = .pointer (some ⟨A, 0, none⟩),
          fun v _ => v = .pointer (some ⟨A, 0, none⟩),
          fun v _ => v = .pointer (some ⟨A, 1, none⟩),
          fun v _ => v = .func (Fn.method "lictor/wire.long") #[.iface 53 (.pointer (some ⟨g, 0, none⟩))] #[],
          fun v _ => v = .func (Fn.method "lictor/wire.long") #[.iface 53 (.pointer (some ⟨g, 0, none⟩))] #[],
          fun v _ => v = .iface 53 (.pointer (some ⟨g, 0, none⟩)),
          fun _ _ => True])
        (by kernel_rfl) (by kernel_rfl) (fun v => by simp only [putsV, Act.put, List.toList_toArray, List.setIfInBounds_toArray, List.set_cons_zero, List.set_cons_succ, Nat.reduceAdd, Nat.zero_add]; rfl) ?_ (fun _ _ _ _ _ h => h) ⟨hw4, (KP.refl _ _ _).drew⟩ ?_ (fun _ _ _ _ _ _ h => h) (fun L L' u hL h => by rw [← hL 7 (by decide)]; exact h) ?_
      · intro i L j x u u' _ _ _ h
        match j with
        | 0 => exact h
        | 1 => exact h
        | 2 => exact h
        | 3 => exact h
        | 4 => exact h
        | 5 => exact h
        | 6 => exact h
        | 7 => exact h
        | _ + 8 => trivial
      · refine ⟨?_, ?_, ?_, ?_, ?_, ?_, ?_, ?_, trivial⟩
        · intro L hL hcl v u hS hd K' hK
          simp only [waited, List.toList_toArray, Region.binds, rel, List.getD_cons_zero, List.getD_cons_succ, true_imp_iff, and_true] at hd
          simp only [rel, List.getD_cons_zero, List.getD_cons_succ, Act.put, List.setIfInBounds_toArray, List.set_cons_zero, List.set_cons_succ] at hK
          try simp only [hd] at hK
          have hmf := make_func
          have hm := wm_long
          go_simp
          exact hK.out _ _ ⟨hS, trivial, rfl⟩
        · intro L hL hcl v u hS hd K' hK
          simp only [waited, List.toList_toArray, Region.binds, rel, List.getD_cons_zero, List.getD_cons_succ, true_imp_iff, and_true] at hd
          simp only [rel, List.getD_cons_zero, List.getD_cons_succ, Act.put, List.setIfInBounds_toArray, List.set_cons_zero, List.set_cons_succ] at hK
          try simp only [hd] at hK
          have hmf := make_func
          have hm := wm_long
          go_simp
          exact hK.out _ _ ⟨hS, trivial, rfl⟩
        · intro L hL hcl v u hS hd K' hK
          simp only [waited, List.toList_toArray, Region.binds, rel, List.getD_cons_zero, List.getD_cons_succ, true_imp_iff, and_true] at hd
          simp only [rel, List.getD_cons_zero, List.getD_cons_succ, Act.put, List.setIfInBounds_toArray, List.set_cons_zero, List.set_cons_succ] at hK
          try simp only [hd] at hK
          have hmf := make_func
          have hm := wm_long
          go_simp
          exact hK.out _ _ ⟨hS, trivial, rfl⟩
        · intro L hL hcl v u hS hd K' hK
          simp only [waited, List.toList_toArray, Region.binds, rel, List.getD_cons_zero, List.getD_cons_succ, true_imp_iff, and_true] at hd
          simp only [rel, List.getD_cons_zero, List.getD_cons_succ, Act.put, List.setIfInBounds_toArray, List.set_cons_zero, List.set_cons_succ] at hK
          try simp only [hd] at hK
          have hmf := make_func
          have hm := wm_long
          go_simp
          exact hK.out _ _ ⟨hS, trivial, rfl⟩
        · intro L hL hcl v u hS hd K' hK
          simp only [waited, List.toList_toArray, Region.binds, rel, List.getD_cons_zero, List.getD_cons_succ, true_imp_iff, and_true] at hd
          simp only [rel, List.getD_cons_zero, List.getD_cons_succ, Act.put, List.setIfInBounds_toArray, List.set_cons_zero, List.set_cons_succ] at hK
          try simp only [hd] at hK
          have hmf := make_func
          have hm := wm_long
          go_simp
          exact hK.out _ _ ⟨hS, trivial, rfl⟩
        · intro L hL hcl v u hS hd K' hK
          simp only [waited, List.toList_toArray, Region.binds, rel, List.getD_cons_zero, List.getD_cons_succ, true_imp_iff, and_true] at hd
          simp only [rel, List.getD_cons_zero, List.getD_cons_succ, Act.put, List.setIfInBounds_toArray, List.set_cons_zero, List.set_cons_succ] at hK
          try simp only [hd] at hK
          have hmf := make_func
          have hm := wm_long
          go_simp
          exact hK.out _ _ ⟨hS, trivial, rfl⟩
        · intro L hL hcl v u hS hd K' hK
          simp only [waited, List.toList_toArray, Region.binds, rel, List.getD_cons_zero, List.getD_cons_succ, true_imp_iff, and_true] at hd
          simp only [rel, List.getD_cons_zero, List.getD_cons_succ, Act.put, List.setIfInBounds_toArray, List.set_cons_zero, List.set_cons_succ] at hK
          try simp only [hd] at hK
          have hmf := make_func
          have hm := wm_long
          go_simp
          exact hK.out _ _ ⟨hS, trivial, rfl⟩
        · intro L hL hcl v u hS hd K' hK
          simp only [waited, List.toList_toArray, Region.binds, rel, List.getD_cons_zero, List.getD_cons_succ, true_imp_iff, and_true] at hd
          simp only [rel, List.getD_cons_zero, List.getD_cons_succ, Act.put, List.setIfInBounds_toArray, List.set_cons_zero, List.set_cons_succ] at hK
          try simp only [hd] at hK
          have hmf := make_func
          have hm := wm_long
          obtain ⟨t1, t2⟩ := hS
          rw [hL] at t1
          have t1' : Wr B g P' (bs ++ [y]) false u := t1
          go_simp
          refine (wlong_w B g A 1 P' (bs ++ [y]) false n u t1' pA ((t2.cell pA).trans xn) (by simp only [List.length_append, List.length_cons, List.length_nil]; omega)).mono ?_
          rintro e w2 ⟨rfl, h2, h3⟩
          exact hK.out _ _ ⟨⟨h2, t2.trans h3⟩, trivial, trivial⟩
      · rintro v u hS hR
        simp only [holdAll, List.size_toArray, List.length_cons, List.length_nil, Nat.reduceAdd, rel, List.getD_cons_zero, List.getD_cons_succ] at hR
        clear hR
        obtain ⟨t1, t2⟩ := hS
        replace t1 : Wr B g P' (bs ++ [y] ++ putL n 8) false u := t1
        replace A1 := A1.kP t2 pA
        replace b1 := b1.kP t2 p1
        replace b2 := b2.kP t2 p2
        replace b3 := b3.kP t2 p3
        replace hbl := hbl.trans t2.2
        clear t2 xn
        obtain ⟨W4, hW4⟩ := named u
        rw [← hW4.out] at t1 A1 b1 b2 b3 hbl ⊢
        clear hW4
        have hby5 := wbyte_w B g k2 0 P' (bs ++ [y] ++ putL n 8) false p W4 t1 p2 (by rw [b2.cell]; rfl) (by first | omega | (simp only [List.length_append, List.length_cons, List.length_nil, putL_length]; omega))
        go_wp2_with fail
        refine hby5.mono ?_
        rintro e W5 ⟨rfl, hw5, kp5⟩
        replace A1 := A1.kP kp5 pA
        replace b1 := b1.kP kp5 p1
        replace b2 := b2.kP kp5 p2
        replace b3 := b3.kP kp5 p3
        replace hbl := hbl.trans kp5.2
        clear hby5 kp5 t1
        have hby6 := wbyte_w B g k3 0 P' (bs ++ [y] ++ putL n 8 ++ [p]) false 0 W5 hw5 p3 (by rw [b3.cell]; rfl) (by first | omega | (simp only [List.length_append, List.length_cons, List.length_nil, putL_length]; omega))
        go_wp2_with fail
        refine hby6.mono ?_
        rintro e W6 ⟨rfl, hw6, kp6⟩
        replace A1 := A1.kP kp6 pA
        replace b1 := b1.kP kp6 p1
        replace b2 := b2.kP kp6 p2
        replace b3 := b3.kP kp6 p3
        replace hbl := hbl.trans kp6.2
        clear hby6 kp6 hw5
        have x1 := b1.cell
        have x2 := b2.cell
        have x3 := b3.cell
        have xA := A1.cell
        have fA := A1.free
        have hsm : ∀ (i : Nat) (v : Value) (U : World), Blk U A [.int .i64 (y.toNat : Int), .int .u64 (n : Int), .int .i64 (p.toNat : Int), .bool false, .slice none 0 0, .slice none 0 0] 44 → Small (U.setCell ⟨A, i, none⟩ v) A := fun i v U hU => small_blk (hU.set i v) (by decide)
        have A7 := ((A1.set 0 (.int .i64 (y.toNat : Int))).set 2 (.int .i64 (p.toNat : Int))).set 3 (.bool false)
        have w7a := BuT.setP hw6 pA (small_blk (A1.set 0 (.int .i64 (y.toNat : Int))) (by decide))
        have w7b := BuT.setP w7a pA (small_blk ((A1.set 0 (.int .i64 (y.toNat : Int))).set 2 (.int .i64 (p.toNat : Int))) (by decide))
        have w7 := BuT.setP w7b pA (small_blk A7 (by decide))
        have hb7 := ((hbl.setCell (p := ⟨A, 0, none⟩) hAB (.int .i64 (y.toNat : Int))).setCell (p := ⟨A, 2, none⟩) hAB (.int .i64 (p.toNat : Int))).setCell (p := ⟨A, 3, none⟩) hAB (.bool false)
        clear hsm w7a w7b hw6 hbl
        go_upto_region 12 with fail
        obtain ⟨W7, hW7⟩ := named (((W6.setCell ⟨A, 0, none⟩ (.int .i64 (y.toNat : Int))).setCell ⟨A, 2, none⟩ (.int .i64 (p.toNat : Int))).setCell ⟨A, 3, none⟩ (.bool false))
        rw [← hW7.out] at A7 w7 hb7
        rw [show ((W6.setCell ⟨A, 0, none⟩ (.int .i64 (y.toNat : Int))).setCell ⟨A, 2, none⟩ (.int .i64 (p.toNat : Int))).setCell ⟨A, 3, none⟩ (.bool false) = W7 from hW7.out.symm]
        clear hW7 x1 x2 x3 xA fA A1 b1 b2 b3
        have w7' : Wr B g P' (bs ++ [y] ++ putL n 8 ++ [p] ++ [0]) false W7 := w7
        clear w7
        have ht1 := wtexts0_w (o := 4) w7' pA (by rw [A7.cell]; rfl) (by first | omega | (simp only [List.length_append, List.length_cons, List.length_nil, putL_length]; omega))
        go_wp2_with fail
        refine ht1.mono ?_
        rintro e W8 ⟨rfl, w8, kp8⟩
        have A8 := A7.kP kp8 pA
        have hb8 := hb7.trans kp8.2
        clear ht1 kp8 w7' A7 hb7
        have ht2 := wtexts0_w (o := 5) w8 pA (by rw [A8.cell]; rfl) (by first | omega | (simp only [List.length_append, List.length_cons, List.length_nil, putL_length]; omega))
        go_wp2_with fail
        refine ht2.mono ?_
        rintro e W9 ⟨rfl, w9, kp9⟩
        have hb9 := hb8.trans kp9.2
        clear ht2 kp9 w8 A8 hb8
        go_wp2
        go_end0
        exact ⟨rfl, ⟨P', w9⟩, hb9⟩
end Go.Proofs.Ytiodfbbgbnbdpaa
