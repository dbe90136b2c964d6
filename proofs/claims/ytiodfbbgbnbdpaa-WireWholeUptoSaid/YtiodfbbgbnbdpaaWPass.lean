/- wire.pass at the writer, of any reply. -/
import Derived.Test.YtiodfbbgbnbdpaaWTexts
import Derived.Test.YtiodfbbgbnbdpaaGH
import Derived.Deep.DeepCutAuto
namespace Go.Proofs.Ytiodfbbgbnbdpaa
set_option linter.unusedSimpArgs false
set_option linter.unusedVariables false
open Go.RowKit
open Crc
set_option maxRecDepth 100000 in
set_option maxHeartbeats 4000000 in
theorem wpass_x {B g A n ni ne capi cape : Nat} {P : Nat → Prop} {why pl : Int} {al q1 q2 : Bool} {y p : UInt8} {adi ade : Option Addr} {ids er : List ByteArray} {w : World}
    (h : Wr B g P [] false w) (hA : P A) (hAB : B ≤ A) (ha : Blk w A [.int .i64 why, .int .u64 (n : Int), .int .i64 pl, .bool al, .slice adi ni capi, .slice ade ne cape] 44)
    (hi : Texts w adi ids) (he : Texts w ade er) (hni : ids.length = ni) (hne : er.length = ne) (hPi : ids ≠ [] → ∀ b o', adi = some ⟨b, o', none⟩ → P b ∧ b ≠ A) (hPe : er ≠ [] → ∀ b o', ade = some ⟨b, o', none⟩ → P b ∧ b ≠ A)
    (hzi : ∀ t ∈ ids, t.size < 16777216) (hze : ∀ t ∈ er, t.size < 16777216) (hli : ni ≤ 140737488351232) (hle : ne ≤ 140737488351232)
    (hy8 : IntKind.u8.wrap why = (y.toNat : Int)) (hp8 : IntKind.u8.wrap pl = (p.toNat : Int)) (d1 : ((y.toNat : Int) != why) = q1) (d2 : ((p.toNat : Int) != pl) = q2) :
    Calls Try.prog 30 #[.iface 53 (.pointer (some ⟨g, 0, none⟩)), .pointer (some ⟨A, 0, none⟩)] w fun e w' => e = .returned (.tuple #[]) ∧ (∃ P', Wr B g P' ([y] ++ putL n 8 ++ [p] ++ [bOf al] ++ textsW ids ++ textsW er) (((q1 || q2) || texB ids) || texB er) w') ∧ Below B w w' := by
  have hPw := h.isP.1
  have hBw := h.isP.2
  have hy64 : IntKind.i64.wrap (y.toNat : Int) = (y.toNat : Int) := by have := y.toNat_lt; simp [IntKind.wrap, IntKind.bits, IntKind.signed]; omega
  have hp64 : IntKind.i64.wrap (p.toNat : Int) = (p.toNat : Int) := by have := p.toNat_lt; simp [IntKind.wrap, IntKind.bits, IntKind.signed]; omega
  have h0 : U3 w 5 [.int .u8 0] [.int .u8 0] [.int .u8 0] undef undef undef w.drew := U3.undef
  go_enter Try.func30, Try.ntmps30
  go_upto_region 0 with fail
  refine region_flatV _ (fun L v u => U3 w 5 (cond (L 13) [.int .u8 (y.toNat : Int)] [.int .u8 0]) (cond (L 14) [.int .u8 (p.toNat : Int)] [.int .u8 0]) (cond (L 15) [.int .u8 0] [.int .u8 0]) (v 10) (v 11) (v 12) u) (fun _ _ _ => True)
    (fun _ => rel [fun v _ => v = .pointer (some ⟨A, 0, none⟩),
      fun v _ => v = .pointer (some ⟨A, 0, none⟩),
      fun v _ => v = .pointer (some ⟨A, 0, none⟩),
      fun v _ => v = .int .i64 why,
      fun v _ => v = .int .u8 (y.toNat : Int),
      fun v _ => v = .pointer (some ⟨A, 0, none⟩),
      fun v _ => v = .pointer (some ⟨A, 0, none⟩),
      fun v _ => v = .pointer (some ⟨A, 2, none⟩),
      fun v _ => v = .int .i64 pl,
      fun v _ => v = .int .u8 (p.toNat : Int),
      fun v _ => ∃ k, v = .pointer (some ⟨k, 0, none⟩),
      fun v _ => ∃ k, v = .pointer (some ⟨k, 0, none⟩),
      fun v _ => ∃ k, v = .pointer (some ⟨k, 0, none⟩),
      fun _ _ => True,
      fun _ _ => True,
      fun _ _ => True])
    (by kernel_rfl) (by kernel_rfl) (fun v => by simp only [putsV, Act.put, List.toList_toArray, List.setIfInBounds_toArray, List.set_cons_zero, List.set_cons_succ, Nat.reduceAdd, Nat.zero_add]; rfl) ?_ (fun _ _ _ _ _ h => h) h0 ?_ (fun _ _ _ _ _ _ h => h) (fun L L' v u hL h => by rw [← hL 13 (by decide)]; rw [← hL 14 (by decide)]; rw [← hL 15 (by decide)]; exact h) ?_
  · intro i L j x u u' _ _ _ h
    match j with
    | 0 => exact h
    | 1 => exact h
    | 2 => exact h
    | 3 => exact h
    | 4 => exact h
    | 5 => exact h
    | 6 => exact h
    | 7 => exact h
    | 8 => exact h
    | 9 => exact h
    | 10 => exact h
    | 11 => exact h
    | 12 => exact h
    | 13 => exact h
    | 14 => exact h
    | 15 => exact h
    | _ + 16 => trivial
  · refine ⟨?_, ?_, ?_, ?_, ?_, ?_, ?_, ?_, ?_, ?_, ?_, ?_, ?_, ?_, ?_, ?_, trivial⟩
    · intro L hL hcl v u hS hd K' hK
      simp only [waited, List.toList_toArray, Region.binds, rel, List.getD_cons_zero, List.getD_cons_succ, true_imp_iff, and_true] at hd
      simp only [rel, List.getD_cons_zero, List.getD_cons_succ, Act.put, List.setIfInBounds_toArray, List.set_cons_zero, List.set_cons_succ] at hK
      try simp only [hd] at hK
      go_simp
      exact hK.out _ _ ⟨hS, trivial, rfl⟩
    · intro L hL hcl v u hS hd K' hK
      simp only [waited, List.toList_toArray, Region.binds, rel, List.getD_cons_zero, List.getD_cons_succ, true_imp_iff, and_true] at hd
      simp only [rel, List.getD_cons_zero, List.getD_cons_succ, Act.put, List.setIfInBounds_toArray, List.set_cons_zero, List.set_cons_succ] at hK
      try simp only [hd] at hK
      go_simp
      exact hK.out _ _ ⟨hS, trivial, rfl⟩
    · intro L hL hcl v u hS hd K' hK
      simp only [waited, List.toList_toArray, Region.binds, rel, List.getD_cons_zero, List.getD_cons_succ, true_imp_iff, and_true] at hd
      simp only [rel, List.getD_cons_zero, List.getD_cons_succ, Act.put, List.setIfInBounds_toArray, List.set_cons_zero, List.set_cons_succ] at hK
      try simp only [hd] at hK
      go_simp
      exact hK.out _ _ ⟨hS, trivial, rfl⟩
    · intro L hL hcl v u hS hd K' hK
      simp only [waited, List.toList_toArray, Region.binds, rel, List.getD_cons_zero, List.getD_cons_succ, true_imp_iff, and_true] at hd
      simp only [rel, List.getD_cons_zero, List.getD_cons_succ, Act.put, List.setIfInBounds_toArray, List.set_cons_zero, List.set_cons_succ] at hK
      try simp only [hd] at hK
      have hA9 := ha.below hS.1
      have x0 : u.cell? ⟨A, 0, none⟩ = some (.int .i64 why) := by rw [hA9.cell]; rfl
      go_simp
      exact hK.out _ _ ⟨hS, trivial, rfl⟩
    · intro L hL hcl v u hS hd K' hK
      simp only [waited, List.toList_toArray, Region.binds, rel, List.getD_cons_zero, List.getD_cons_succ, true_imp_iff, and_true] at hd
      simp only [rel, List.getD_cons_zero, List.getD_cons_succ, Act.put, List.setIfInBounds_toArray, List.set_cons_zero, List.set_cons_succ] at hK
      try simp only [hd] at hK
      go_simp
      exact hK.out _ _ ⟨hS, trivial, rfl⟩
    · intro L hL hcl v u hS hd K' hK
      simp only [waited, List.toList_toArray, Region.binds, rel, List.getD_cons_zero, List.getD_cons_succ, true_imp_iff, and_true] at hd
      simp only [rel, List.getD_cons_zero, List.getD_cons_succ, Act.put, List.setIfInBounds_toArray, List.set_cons_zero, List.set_cons_succ] at hK
      try simp only [hd] at hK
      go_simp
      exact hK.out _ _ ⟨hS, trivial, rfl⟩
    · intro L hL hcl v u hS hd K' hK
      simp only [waited, List.toList_toArray, Region.binds, rel, List.getD_cons_zero, List.getD_cons_succ, true_imp_iff, and_true] at hd
      simp only [rel, List.getD_cons_zero, List.getD_cons_succ, Act.put, List.setIfInBounds_toArray, List.set_cons_zero, List.set_cons_succ] at hK
      try simp only [hd] at hK
      go_simp
      exact hK.out _ _ ⟨hS, trivial, rfl⟩
    · intro L hL hcl v u hS hd K' hK
      simp only [waited, List.toList_toArray, Region.binds, rel, List.getD_cons_zero, List.getD_cons_succ, true_imp_iff, and_true] at hd
      simp only [rel, List.getD_cons_zero, List.getD_cons_succ, Act.put, List.setIfInBounds_toArray, List.set_cons_zero, List.set_cons_succ] at hK
      try simp only [hd] at hK
      go_simp
      exact hK.out _ _ ⟨hS, trivial, rfl⟩
    · intro L hL hcl v u hS hd K' hK
      simp only [waited, List.toList_toArray, Region.binds, rel, List.getD_cons_zero, List.getD_cons_succ, true_imp_iff, and_true] at hd
      simp only [rel, List.getD_cons_zero, List.getD_cons_succ, Act.put, List.setIfInBounds_toArray, List.set_cons_zero, List.set_cons_succ] at hK
      try simp only [hd] at hK
      have hA9 := ha.below hS.1
      have x0 : u.cell? ⟨A, 2, none⟩ = some (.int .i64 pl) := by rw [hA9.cell]; rfl
      go_simp
      exact hK.out _ _ ⟨hS, trivial, rfl⟩
    · intro L hL hcl v u hS hd K' hK
      simp only [waited, List.toList_toArray, Region.binds, rel, List.getD_cons_zero, List.getD_cons_succ, true_imp_iff, and_true] at hd
      simp only [rel, List.getD_cons_zero, List.getD_cons_succ, Act.put, List.setIfInBounds_toArray, List.set_cons_zero, List.set_cons_succ] at hK
      try simp only [hd] at hK
      go_simp
      exact hK.out _ _ ⟨hS, trivial, rfl⟩
    · intro L hL hcl v u hS hd K' hK
      simp only [waited, List.toList_toArray, Region.binds, rel, List.getD_cons_zero, List.getD_cons_succ, true_imp_iff, and_true] at hd
      simp only [rel, List.getD_cons_zero, List.getD_cons_succ, Act.put, List.setIfInBounds_toArray, List.set_cons_zero, List.set_cons_succ] at hK
      try simp only [hd] at hK
      have h0 : L 13 = false := by
        cases h9 : L 13 with
        | false => rfl
        | true => have h8 := hcl 13 10 h9 (by kernel_rfl); rw [hL] at h8; cases h8
      have hS' := hS
      rw [h0] at hS'
      have h2 := U3.alloc1 (l := [.int .u8 0]) hS'
      go_simp
      have h3 : U3 w 5 (cond (L 13) [.int .u8 (y.toNat : Int)] [.int .u8 0]) (cond (L 14) [.int .u8 (p.toNat : Int)] [.int .u8 0]) (cond (L 15) [.int .u8 0] [.int .u8 0]) (.pointer (some ⟨u.heap.size, 0, none⟩)) (v 11) (v 12) (u.alloc (.cells #[.int .u8 0] 5)) := by rw [h0]; exact h2
      exact hK.out _ _ ⟨h3, trivial, ⟨_, rfl⟩⟩
    · intro L hL hcl v u hS hd K' hK
      simp only [waited, List.toList_toArray, Region.binds, rel, List.getD_cons_zero, List.getD_cons_succ, true_imp_iff, and_true] at hd
      simp only [rel, List.getD_cons_zero, List.getD_cons_succ, Act.put, List.setIfInBounds_toArray, List.set_cons_zero, List.set_cons_succ] at hK
      try simp only [hd] at hK
      have h0 : L 14 = false := by
        cases h9 : L 14 with
        | false => rfl
        | true => have h8 := hcl 14 11 h9 (by kernel_rfl); rw [hL] at h8; cases h8
      have hS' := hS
      rw [h0] at hS'
      have h2 := U3.alloc2 (l := [.int .u8 0]) hS'
      go_simp
      have h3 : U3 w 5 (cond (L 13) [.int .u8 (y.toNat : Int)] [.int .u8 0]) (cond (L 14) [.int .u8 (p.toNat : Int)] [.int .u8 0]) (cond (L 15) [.int .u8 0] [.int .u8 0]) (v 10) (.pointer (some ⟨u.heap.size, 0, none⟩)) (v 12) (u.alloc (.cells #[.int .u8 0] 5)) := by rw [h0]; exact h2
      exact hK.out _ _ ⟨h3, trivial, ⟨_, rfl⟩⟩
    · intro L hL hcl v u hS hd K' hK
      simp only [waited, List.toList_toArray, Region.binds, rel, List.getD_cons_zero, List.getD_cons_succ, true_imp_iff, and_true] at hd
      simp only [rel, List.getD_cons_zero, List.getD_cons_succ, Act.put, List.setIfInBounds_toArray, List.set_cons_zero, List.set_cons_succ] at hK
      try simp only [hd] at hK
      have h0 : L 15 = false := by
        cases h9 : L 15 with
        | false => rfl
        | true => have h8 := hcl 15 12 h9 (by kernel_rfl); rw [hL] at h8; cases h8
      have hS' := hS
      rw [h0] at hS'
      have h2 := U3.alloc3 (l := [.int .u8 0]) hS'
      go_simp
      have h3 : U3 w 5 (cond (L 13) [.int .u8 (y.toNat : Int)] [.int .u8 0]) (cond (L 14) [.int .u8 (p.toNat : Int)] [.int .u8 0]) (cond (L 15) [.int .u8 0] [.int .u8 0]) (v 10) (v 11) (.pointer (some ⟨u.heap.size, 0, none⟩)) (u.alloc (.cells #[.int .u8 0] 5)) := by rw [h0]; exact h2
      exact hK.out _ _ ⟨h3, trivial, ⟨_, rfl⟩⟩
    · intro L hL hcl v u hS hd K' hK
      simp only [waited, List.toList_toArray, Region.binds, rel, List.getD_cons_zero, List.getD_cons_succ, true_imp_iff, and_true] at hd
      simp only [rel, List.getD_cons_zero, List.getD_cons_succ, Act.put, List.setIfInBounds_toArray, List.set_cons_zero, List.set_cons_succ] at hK
      try simp only [hd] at hK
      obtain ⟨⟨k, e0⟩, e1, _⟩ := hd
      have hS' : U3 w 5 (cond (L 13) [.int .u8 (y.toNat : Int)] [.int .u8 0]) (cond (L 14) [.int .u8 (p.toNat : Int)] [.int .u8 0]) (cond (L 15) [.int .u8 0] [.int .u8 0]) (.pointer (some ⟨k, 0, none⟩)) (v 11) (v 12) u := by rw [← e0]; exact hS
      rw [hL] at hS'
      have hk9 : Blk u k [.int .u8 0] 5 := (hS'.2.1.1 k rfl).2
      have x0 := hk9.cell 0
      have f0 := hk9.free 0
      have h2 := U3.set1 hS' 0 (.int .u8 (y.toNat : Int))
      simp only [e0, e1] at hK ⊢
      go_simp
      have h3 : U3 w 5 (cond (true) [.int .u8 (y.toNat : Int)] [.int .u8 0]) (cond (L 14) [.int .u8 (p.toNat : Int)] [.int .u8 0]) (cond (L 15) [.int .u8 0] [.int .u8 0]) (v 10) (v 11) (v 12) (u.setCell ⟨k, 0, none⟩ (.int .u8 (y.toNat : Int))) := by rw [e0]; exact h2
      exact hK.out undef _ ⟨h3, trivial, trivial⟩
    · intro L hL hcl v u hS hd K' hK
      simp only [waited, List.toList_toArray, Region.binds, rel, List.getD_cons_zero, List.getD_cons_succ, true_imp_iff, and_true] at hd
      simp only [rel, List.getD_cons_zero, List.getD_cons_succ, Act.put, List.setIfInBounds_toArray, List.set_cons_zero, List.set_cons_succ] at hK
      try simp only [hd] at hK
      obtain ⟨⟨k, e0⟩, e1, _⟩ := hd
      have hS' : U3 w 5 (cond (L 13) [.int .u8 (y.toNat : Int)] [.int .u8 0]) (cond (L 14) [.int .u8 (p.toNat : Int)] [.int .u8 0]) (cond (L 15) [.int .u8 0] [.int .u8 0]) (v 10) (.pointer (some ⟨k, 0, none⟩)) (v 12) u := by rw [← e0]; exact hS
      rw [hL] at hS'
      have hk9 : Blk u k [.int .u8 0] 5 := (hS'.2.1.2.1 k rfl).2
      have x0 := hk9.cell 0
      have f0 := hk9.free 0
      have h2 := U3.set2 hS' 0 (.int .u8 (p.toNat : Int))
      simp only [e0, e1] at hK ⊢
      go_simp
      have h3 : U3 w 5 (cond (L 13) [.int .u8 (y.toNat : Int)] [.int .u8 0]) (cond (true) [.int .u8 (p.toNat : Int)] [.int .u8 0]) (cond (L 15) [.int .u8 0] [.int .u8 0]) (v 10) (v 11) (v 12) (u.setCell ⟨k, 0, none⟩ (.int .u8 (p.toNat : Int))) := by rw [e0]; exact h2
      exact hK.out undef _ ⟨h3, trivial, trivial⟩
    · intro L hL hcl v u hS hd K' hK
      simp only [waited, List.toList_toArray, Region.binds, rel, List.getD_cons_zero, List.getD_cons_succ, true_imp_iff, and_true] at hd
      simp only [rel, List.getD_cons_zero, List.getD_cons_succ, Act.put, List.setIfInBounds_toArray, List.set_cons_zero, List.set_cons_succ] at hK
      try simp only [hd] at hK
      obtain ⟨⟨k, e0⟩, _⟩ := hd
      have hS' : U3 w 5 (cond (L 13) [.int .u8 (y.toNat : Int)] [.int .u8 0]) (cond (L 14) [.int .u8 (p.toNat : Int)] [.int .u8 0]) (cond (L 15) [.int .u8 0] [.int .u8 0]) (v 10) (v 11) (.pointer (some ⟨k, 0, none⟩)) u := by rw [← e0]; exact hS
      rw [hL] at hS'
      have hk9 : Blk u k [.int .u8 0] 5 := (hS'.2.1.2.2 k rfl).2
      have x0 := hk9.cell 0
      have f0 := hk9.free 0
      have h2 := U3.set3 hS' 0 (.int .u8 0)
      simp only [e0] at hK ⊢
      go_simp
      have h3 : U3 w 5 (cond (L 13) [.int .u8 (y.toNat : Int)] [.int .u8 0]) (cond (L 14) [.int .u8 (p.toNat : Int)] [.int .u8 0]) (cond (true) [.int .u8 0] [.int .u8 0]) (v 10) (v 11) (v 12) (u.setCell ⟨k, 0, none⟩ (.int .u8 0)) := by rw [e0]; exact h2
      exact hK.out undef _ ⟨h3, trivial, trivial⟩
  · rintro v u hS hR
    simp only [holdAll, List.size_toArray, List.length_cons, List.length_nil, Nat.reduceAdd, rel, List.getD_cons_zero, List.getD_cons_succ] at hR
    obtain ⟨⟨⟨⟨⟨⟨-, ⟨k1, e1⟩⟩, ⟨k2, e2⟩⟩, ⟨k3, e3⟩⟩, -⟩, -⟩, -⟩ := hR
    simp only [e1, e2, e3] at hS ⊢
    clear e1 e2 e3 h0
    have hS1 : U3 w 5 [.int .u8 (y.toNat : Int)] [.int .u8 (p.toNat : Int)] [.int .u8 0] (.pointer (some ⟨k1, 0, none⟩)) (.pointer (some ⟨k2, 0, none⟩)) (.pointer (some ⟨k3, 0, none⟩)) u := hS
    clear hS
    have a0 := ha.below hS1.1
    have xA := a0.cell
    go_upto_if 21 with fail
    clear xA
    go_cut [] (fun wx => U3 w 5 [.int .u8 (y.toNat : Int)] [.int .u8 (p.toNat : Int)] [.int .u8 ((bOf al).toNat : Int)] (.pointer (some ⟨k1, 0, none⟩)) (.pointer (some ⟨k2, 0, none⟩)) (.pointer (some ⟨k3, 0, none⟩)) wx)
    case first =>
      cases al with
      | true =>
        have hk9 : Blk u k3 [.int .u8 0] 5 := (hS1.2.1.2.2 k3 rfl).2
        have x0 := hk9.cell 0
        have f0 := hk9.free 0
        have h2 := U3.set3 hS1 0 (.int .u8 1)
        clear hS1
        go_wp2
        go_meet
        case rel => exact h2
      | false =>
        go_wp2
        go_meet
        case rel => exact hS1
    case rest =>
      clear hS1 a0
      have hS1 := hcut
      clear hcut
      rename World => wv
      obtain ⟨hb0, ⟨c1, c2, c3⟩, a12, a13, a23⟩ := hS1
      obtain ⟨s1, b1⟩ := c1 k1 rfl
      obtain ⟨s2, b2⟩ := c2 k2 rfl
      obtain ⟨s3, b3⟩ := c3 k3 rfl
      clear c1 c2 c3 a12 a13 a23
      have A1 := ha.below hb0
      have hi1 := hi.below hb0
      have he1 := he.below hb0
      have hw1 : Wr B g (fun i => P i ∨ (i = k1 ∨ i = k2 ∨ i = k3)) [] false wv := BuT.addQ h hb0 (fun k hk => by
        rcases hk with rfl | rfl | rfl
        · exact ⟨s1, b1.lt, small_blk1 b1⟩
        · exact ⟨s2, b2.lt, small_blk1 b2⟩
        · exact ⟨s3, b3.lt, small_blk1 b3⟩)
      have hbB := hb0.mono hBw
      obtain ⟨P', hP'⟩ := named (fun i => P i ∨ (i = k1 ∨ i = k2 ∨ i = k3))
      rw [← hP'.out] at hw1
      have p1 : P' k1 := by rw [hP'.out]; exact .inr (.inl rfl)
      have p2 : P' k2 := by rw [hP'.out]; exact .inr (.inr (.inl rfl))
      have p3 : P' k3 := by rw [hP'.out]; exact .inr (.inr (.inr rfl))
      have pA : P' A := by rw [hP'.out]; exact .inl hA
      have pi : ids ≠ [] → ∀ b o', adi = some ⟨b, o', none⟩ → P' b ∧ b ≠ A := fun hq b o' e => ⟨by rw [hP'.out]; exact .inl (hPi hq b o' e).1, (hPi hq b o' e).2⟩
      have pe : er ≠ [] → ∀ b o', ade = some ⟨b, o', none⟩ → P' b ∧ b ≠ A := fun hq b o' e => ⟨by rw [hP'.out]; exact .inl (hPe hq b o' e).1, (hPe hq b o' e).2⟩
      clear hP' hPi hPe hPw h ha hi he hb0 hA
      have x1 := b1.cell
      have x2 := b2.cell
      have xA := A1.cell
      go_upto_region 3 with fail
      go_cut [37] (fun x wx => x = .bool (q1 || q2) ∧ Hid (wx = wv.drew))
      case first =>
        cases q1 with
        | true =>
          go_wp2_with fail
          refine region_flatS _ (fun L u => Hid (u = wv.drew) ∧ (∀ i, u.cell? ⟨k1, i, none⟩ = [Value.int .u8 (y.toNat : Int)][i]?) ∧ (∀ i, u.cell? ⟨k2, i, none⟩ = [Value.int .u8 (p.toNat : Int)][i]?) ∧ (∀ i, u.cell? ⟨A, i, none⟩ = [.int .i64 why, .int .u64 (n : Int), .int .i64 pl, .bool al, .slice adi ni capi, .slice ade ne cape][i]?)) (fun _ _ _ => True)
            (fun _ => rel [fun v _ => v = .int .u8 (y.toNat : Int),
              fun v _ => v = .int .i64 (y.toNat : Int),
              fun v _ => v = .pointer (some ⟨A, 0, none⟩),
              fun v _ => v = .pointer (some ⟨A, 0, none⟩),
              fun v _ => v = .pointer (some ⟨A, 0, none⟩),
              fun v _ => v = .int .i64 why,
              fun v _ => v = .bool true,
              fun v _ => v = .bool true,
              fun _ _ => True,
              fun _ _ => True,
              fun _ _ => True,
              fun _ _ => True,
              fun _ _ => True,
              fun _ _ => True,
              fun _ _ => True,
              fun v _ => v = .bool true])
            (by kernel_rfl) (by kernel_rfl) (fun v => by simp only [putsV, Act.put, List.toList_toArray, List.setIfInBounds_toArray, List.set_cons_zero, List.set_cons_succ, Nat.reduceAdd, Nat.zero_add]; rfl) ?_ (fun _ _ _ _ _ h => h) ⟨hide rfl, x1, x2, xA⟩ ?_ (fun _ _ _ _ _ _ h => h) (fun L L' u hL h => by  exact h) ?_
          · intro i L j x u u' _ _ hG h
            match j with
            | 0 => exact h
            | 1 => exact h
            | 2 => exact h
            | 3 => exact h
            | 4 => exact h
            | 5 => exact h
            | 6 => exact h
            | 7 => exact h
            | 8 => exact h
            | 9 => exact h
            | 10 => exact h
            | 11 => exact h
            | 12 => exact h
            | 13 => exact h
            | 14 => exact h
            | 15 => exact h
            | _ + 16 => trivial
          · refine ⟨?_, ?_, ?_, ?_, ?_, ?_, ?_, ?_, ?_, ?_, ?_, ?_, ?_, ?_, ?_, ?_, trivial⟩
            · intro L hL hcl v u hS hd K' hK
              simp only [waited, List.toList_toArray, Region.binds, rel, List.getD_cons_zero, List.getD_cons_succ, true_imp_iff, and_true] at hd
              simp only [rel, List.getD_cons_zero, List.getD_cons_succ, Act.put, List.setIfInBounds_toArray, List.set_cons_zero, List.set_cons_succ] at hK
              try simp only [hd] at hK
              have x0 := hS.2.1 0
              go_simp
              exact hK.out _ _ ⟨hS, trivial, rfl⟩
            · intro L hL hcl v u hS hd K' hK
              simp only [waited, List.toList_toArray, Region.binds, rel, List.getD_cons_zero, List.getD_cons_succ, true_imp_iff, and_true] at hd
              simp only [rel, List.getD_cons_zero, List.getD_cons_succ, Act.put, List.setIfInBounds_toArray, List.set_cons_zero, List.set_cons_succ] at hK
              try simp only [hd] at hK
              go_simp
              exact hK.out _ _ ⟨hS, trivial, rfl⟩
            · intro L hL hcl v u hS hd K' hK
              simp only [waited, List.toList_toArray, Region.binds, rel, List.getD_cons_zero, List.getD_cons_succ, true_imp_iff, and_true] at hd
              simp only [rel, List.getD_cons_zero, List.getD_cons_succ, Act.put, List.setIfInBounds_toArray, List.set_cons_zero, List.set_cons_succ] at hK
              try simp only [hd] at hK
              go_simp
              exact hK.out _ _ ⟨hS, trivial, rfl⟩
            · intro L hL hcl v u hS hd K' hK
              simp only [waited, List.toList_toArray, Region.binds, rel, List.getD_cons_zero, List.getD_cons_succ, true_imp_iff, and_true] at hd
              simp only [rel, List.getD_cons_zero, List.getD_cons_succ, Act.put, List.setIfInBounds_toArray, List.set_cons_zero, List.set_cons_succ] at hK
              try simp only [hd] at hK
              go_simp
              exact hK.out _ _ ⟨hS, trivial, rfl⟩
            · intro L hL hcl v u hS hd K' hK
              simp only [waited, List.toList_toArray, Region.binds, rel, List.getD_cons_zero, List.getD_cons_succ, true_imp_iff, and_true] at hd
              simp only [rel, List.getD_cons_zero, List.getD_cons_succ, Act.put, List.setIfInBounds_toArray, List.set_cons_zero, List.set_cons_succ] at hK
              try simp only [hd] at hK
              go_simp
              exact hK.out _ _ ⟨hS, trivial, rfl⟩
            · intro L hL hcl v u hS hd K' hK
              simp only [waited, List.toList_toArray, Region.binds, rel, List.getD_cons_zero, List.getD_cons_succ, true_imp_iff, and_true] at hd
              simp only [rel, List.getD_cons_zero, List.getD_cons_succ, Act.put, List.setIfInBounds_toArray, List.set_cons_zero, List.set_cons_succ] at hK
              try simp only [hd] at hK
              have x0 := hS.2.2.2 0
              go_simp
              exact hK.out _ _ ⟨hS, trivial, rfl⟩
            · intro L hL hcl v u hS hd K' hK
              simp only [waited, List.toList_toArray, Region.binds, rel, List.getD_cons_zero, List.getD_cons_succ, true_imp_iff, and_true] at hd
              simp only [rel, List.getD_cons_zero, List.getD_cons_succ, Act.put, List.setIfInBounds_toArray, List.set_cons_zero, List.set_cons_succ] at hK
              try simp only [hd] at hK
              go_simp
              exact hK.out _ _ ⟨hS, trivial, rfl⟩
            · intro L hL hcl v u hS hd K' hK
              simp only [waited, List.toList_toArray, Region.binds, rel, List.getD_cons_zero, List.getD_cons_succ, true_imp_iff, and_true] at hd
              simp only [rel, List.getD_cons_zero, List.getD_cons_succ, Act.put, List.setIfInBounds_toArray, List.set_cons_zero, List.set_cons_succ] at hK
              try simp only [hd] at hK
              go_simp
              exact hK.out _ _ ⟨hS, trivial, rfl⟩
            · intro L hL hcl v u hS hd K' hK
              simp only [waited, List.toList_toArray, Region.binds, rel, List.getD_cons_zero, List.getD_cons_succ, true_imp_iff, and_true] at hd
              simp only [rel, List.getD_cons_zero, List.getD_cons_succ, Act.put, List.setIfInBounds_toArray, List.set_cons_zero, List.set_cons_succ] at hK
              try simp only [hd] at hK
              go_simp
              exact hK.out _ _ ⟨hS, trivial, trivial⟩
            · intro L hL hcl v u hS hd K' hK
              simp only [waited, List.toList_toArray, Region.binds, rel, List.getD_cons_zero, List.getD_cons_succ, true_imp_iff, and_true] at hd
              simp only [rel, List.getD_cons_zero, List.getD_cons_succ, Act.put, List.setIfInBounds_toArray, List.set_cons_zero, List.set_cons_succ] at hK
              try simp only [hd] at hK
              go_simp
              exact hK.out _ _ ⟨hS, trivial, trivial⟩
            · intro L hL hcl v u hS hd K' hK
              simp only [waited, List.toList_toArray, Region.binds, rel, List.getD_cons_zero, List.getD_cons_succ, true_imp_iff, and_true] at hd
              simp only [rel, List.getD_cons_zero, List.getD_cons_succ, Act.put, List.setIfInBounds_toArray, List.set_cons_zero, List.set_cons_succ] at hK
              try simp only [hd] at hK
              go_simp
              exact hK.out _ _ ⟨hS, trivial, trivial⟩
            · intro L hL hcl v u hS hd K' hK
              simp only [waited, List.toList_toArray, Region.binds, rel, List.getD_cons_zero, List.getD_cons_succ, true_imp_iff, and_true] at hd
              simp only [rel, List.getD_cons_zero, List.getD_cons_succ, Act.put, List.setIfInBounds_toArray, List.set_cons_zero, List.set_cons_succ] at hK
              try simp only [hd] at hK
              go_simp
              exact hK.out _ _ ⟨hS, trivial, trivial⟩
            · intro L hL hcl v u hS hd K' hK
              simp only [waited, List.toList_toArray, Region.binds, rel, List.getD_cons_zero, List.getD_cons_succ, true_imp_iff, and_true] at hd
              simp only [rel, List.getD_cons_zero, List.getD_cons_succ, Act.put, List.setIfInBounds_toArray, List.set_cons_zero, List.set_cons_succ] at hK
              try simp only [hd] at hK
              go_simp
              exact hK.out _ _ ⟨hS, trivial, trivial⟩
            · intro L hL hcl v u hS hd K' hK
              simp only [waited, List.toList_toArray, Region.binds, rel, List.getD_cons_zero, List.getD_cons_succ, true_imp_iff, and_true] at hd
              simp only [rel, List.getD_cons_zero, List.getD_cons_succ, Act.put, List.setIfInBounds_toArray, List.set_cons_zero, List.set_cons_succ] at hK
              try simp only [hd] at hK
              go_simp
              exact hK.out _ _ ⟨hS, trivial, trivial⟩
            · intro L hL hcl v u hS hd K' hK
              simp only [waited, List.toList_toArray, Region.binds, rel, List.getD_cons_zero, List.getD_cons_succ, true_imp_iff, and_true] at hd
              simp only [rel, List.getD_cons_zero, List.getD_cons_succ, Act.put, List.setIfInBounds_toArray, List.set_cons_zero, List.set_cons_succ] at hK
              try simp only [hd] at hK
              go_simp
              exact hK.out _ _ ⟨hS, trivial, trivial⟩
            · intro L hL hcl v u hS hd K' hK
              simp only [waited, List.toList_toArray, Region.binds, rel, List.getD_cons_zero, List.getD_cons_succ, true_imp_iff, and_true] at hd
              simp only [rel, List.getD_cons_zero, List.getD_cons_succ, Act.put, List.setIfInBounds_toArray, List.set_cons_zero, List.set_cons_succ] at hK
              try simp only [hd] at hK
              go_simp
              exact hK.out _ _ ⟨hS, trivial, rfl⟩
          · rintro v u hS hR
            simp only [holdAll, List.size_toArray, List.length_cons, List.length_nil, Nat.reduceAdd, rel, List.getD_cons_zero, List.getD_cons_succ] at hR
            obtain ⟨-, h15⟩ := hR
            simp only [h15]
            have hu := hS.1
            clear hS h15
            go_wp2
            go_meet
            case rel => exact ⟨by simp, hu⟩
        | false =>
          go_wp2_with fail
          refine region_flatS _ (fun L u => Hid (u = wv.drew) ∧ (∀ i, u.cell? ⟨k1, i, none⟩ = [Value.int .u8 (y.toNat : Int)][i]?) ∧ (∀ i, u.cell? ⟨k2, i, none⟩ = [Value.int .u8 (p.toNat : Int)][i]?) ∧ (∀ i, u.cell? ⟨A, i, none⟩ = [.int .i64 why, .int .u64 (n : Int), .int .i64 pl, .bool al, .slice adi ni capi, .slice ade ne cape][i]?)) (fun _ _ _ => True)
            (fun _ => rel [fun v _ => v = .int .u8 (y.toNat : Int),
              fun v _ => v = .int .i64 (y.toNat : Int),
              fun v _ => v = .pointer (some ⟨A, 0, none⟩),
              fun v _ => v = .pointer (some ⟨A, 0, none⟩),
              fun v _ => v = .pointer (some ⟨A, 0, none⟩),
              fun v _ => v = .int .i64 why,
              fun v _ => v = .bool false,
              fun v _ => v = .bool false,
              fun v _ => v = .int .u8 (p.toNat : Int),
              fun v _ => v = .int .i64 (p.toNat : Int),
              fun v _ => v = .pointer (some ⟨A, 0, none⟩),
              fun v _ => v = .pointer (some ⟨A, 0, none⟩),
              fun v _ => v = .pointer (some ⟨A, 2, none⟩),
              fun v _ => v = .int .i64 pl,
              fun v _ => v = .bool q2,
              fun v _ => v = .bool q2])
            (by kernel_rfl) (by kernel_rfl) (fun v => by simp only [putsV, Act.put, List.toList_toArray, List.setIfInBounds_toArray, List.set_cons_zero, List.set_cons_succ, Nat.reduceAdd, Nat.zero_add]; rfl) ?_ (fun _ _ _ _ _ h => h) ⟨hide rfl, x1, x2, xA⟩ ?_ (fun _ _ _ _ _ _ h => h) (fun L L' u hL h => by  exact h) ?_
          · intro i L j x u u' _ _ hG h
            match j with
            | 0 => exact h
            | 1 => exact h
            | 2 => exact h
            | 3 => exact h
            | 4 => exact h
            | 5 => exact h
            | 6 => exact h
            | 7 => exact h
            | 8 => exact h
            | 9 => exact h
            | 10 => exact h
            | 11 => exact h
            | 12 => exact h
            | 13 => exact h
            | 14 => exact h
            | 15 => exact h
            | _ + 16 => trivial
          · refine ⟨?_, ?_, ?_, ?_, ?_, ?_, ?_, ?_, ?_, ?_, ?_, ?_, ?_, ?_, ?_, ?_, trivial⟩
            · intro L hL hcl v u hS hd K' hK
              simp only [waited, List.toList_toArray, Region.binds, rel, List.getD_cons_zero, List.getD_cons_succ, true_imp_iff, and_true] at hd
              simp only [rel, List.getD_cons_zero, List.getD_cons_succ, Act.put, List.setIfInBounds_toArray, List.set_cons_zero, List.set_cons_succ] at hK
              try simp only [hd] at hK
              have x0 := hS.2.1 0
              go_simp
              exact hK.out _ _ ⟨hS, trivial, rfl⟩
            · intro L hL hcl v u hS hd K' hK
              simp only [waited, List.toList_toArray, Region.binds, rel, List.getD_cons_zero, List.getD_cons_succ, true_imp_iff, and_true] at hd
              simp only [rel, List.getD_cons_zero, List.getD_cons_succ, Act.put, List.setIfInBounds_toArray, List.set_cons_zero, List.set_cons_succ] at hK
              try simp only [hd] at hK
              go_simp
              exact hK.out _ _ ⟨hS, trivial, rfl⟩
            · intro L hL hcl v u hS hd K' hK
              simp only [waited, List.toList_toArray, Region.binds, rel, List.getD_cons_zero, List.getD_cons_succ, true_imp_iff, and_true] at hd
              simp only [rel, List.getD_cons_zero, List.getD_cons_succ, Act.put, List.setIfInBounds_toArray, List.set_cons_zero, List.set_cons_succ] at hK
              try simp only [hd] at hK
              go_simp
              exact hK.out _ _ ⟨hS, trivial, rfl⟩
            · intro L hL hcl v u hS hd K' hK
              simp only [waited, List.toList_toArray, Region.binds, rel, List.getD_cons_zero, List.getD_cons_succ, true_imp_iff, and_true] at hd
              simp only [rel, List.getD_cons_zero, List.getD_cons_succ, Act.put, List.setIfInBounds_toArray, List.set_cons_zero, List.set_cons_succ] at hK
              try simp only [hd] at hK
              go_simp
              exact hK.out _ _ ⟨hS, trivial, rfl⟩
            · intro L hL hcl v u hS hd K' hK
              simp only [waited, List.toList_toArray, Region.binds, rel, List.getD_cons_zero, List.getD_cons_succ, true_imp_iff, and_true] at hd
              simp only [rel, List.getD_cons_zero, List.getD_cons_succ, Act.put, List.setIfInBounds_toArray, List.set_cons_zero, List.set_cons_succ] at hK
              try simp only [hd] at hK
              go_simp
              exact hK.out _ _ ⟨hS, trivial, rfl⟩
            · intro L hL hcl v u hS hd K' hK
              simp only [waited, List.toList_toArray, Region.binds, rel, List.getD_cons_zero, List.getD_cons_succ, true_imp_iff, and_true] at hd
              simp only [rel, List.getD_cons_zero, List.getD_cons_succ, Act.put, List.setIfInBounds_toArray, List.set_cons_zero, List.set_cons_succ] at hK
              try simp only [hd] at hK
              have x0 := hS.2.2.2 0
              go_simp
              exact hK.out _ _ ⟨hS, trivial, rfl⟩
            · intro L hL hcl v u hS hd K' hK
              simp only [waited, List.toList_toArray, Region.binds, rel, List.getD_cons_zero, List.getD_cons_succ, true_imp_iff, and_true] at hd
              simp only [rel, List.getD_cons_zero, List.getD_cons_succ, Act.put, List.setIfInBounds_toArray, List.set_cons_zero, List.set_cons_succ] at hK
              try simp only [hd] at hK
              go_simp
              exact hK.out _ _ ⟨hS, trivial, rfl⟩
            · intro L hL hcl v u hS hd K' hK
              simp only [waited, List.toList_toArray, Region.binds, rel, List.getD_cons_zero, List.getD_cons_succ, true_imp_iff, and_true] at hd
              simp only [rel, List.getD_cons_zero, List.getD_cons_succ, Act.put, List.setIfInBounds_toArray, List.set_cons_zero, List.set_cons_succ] at hK
              try simp only [hd] at hK
              go_simp
              exact hK.out _ _ ⟨hS, trivial, rfl⟩
            · intro L hL hcl v u hS hd K' hK
              simp only [waited, List.toList_toArray, Region.binds, rel, List.getD_cons_zero, List.getD_cons_succ, true_imp_iff, and_true] at hd
              simp only [rel, List.getD_cons_zero, List.getD_cons_succ, Act.put, List.setIfInBounds_toArray, List.set_cons_zero, List.set_cons_succ] at hK
              try simp only [hd] at hK
              have x0 := hS.2.2.1 0
              go_simp
              exact hK.out _ _ ⟨hS, trivial, rfl⟩
            · intro L hL hcl v u hS hd K' hK
              simp only [waited, List.toList_toArray, Region.binds, rel, List.getD_cons_zero, List.getD_cons_succ, true_imp_iff, and_true] at hd
              simp only [rel, List.getD_cons_zero, List.getD_cons_succ, Act.put, List.setIfInBounds_toArray, List.set_cons_zero, List.set_cons_succ] at hK
              try simp only [hd] at hK
              go_simp
              exact hK.out _ _ ⟨hS, trivial, rfl⟩
            · intro L hL hcl v u hS hd K' hK
              simp only [waited, List.toList_toArray, Region.binds, rel, List.getD_cons_zero, List.getD_cons_succ, true_imp_iff, and_true] at hd
              simp only [rel, List.getD_cons_zero, List.getD_cons_succ, Act.put, List.setIfInBounds_toArray, List.set_cons_zero, List.set_cons_succ] at hK
              try simp only [hd] at hK
              go_simp
              exact hK.out _ _ ⟨hS, trivial, rfl⟩
            · intro L hL hcl v u hS hd K' hK
              simp only [waited, List.toList_toArray, Region.binds, rel, List.getD_cons_zero, List.getD_cons_succ, true_imp_iff, and_true] at hd
              simp only [rel, List.getD_cons_zero, List.getD_cons_succ, Act.put, List.setIfInBounds_toArray, List.set_cons_zero, List.set_cons_succ] at hK
              try simp only [hd] at hK
              go_simp
              exact hK.out _ _ ⟨hS, trivial, rfl⟩
            · intro L hL hcl v u hS hd K' hK
              simp only [waited, List.toList_toArray, Region.binds, rel, List.getD_cons_zero, List.getD_cons_succ, true_imp_iff, and_true] at hd
              simp only [rel, List.getD_cons_zero, List.getD_cons_succ, Act.put, List.setIfInBounds_toArray, List.set_cons_zero, List.set_cons_succ] at hK
              try simp only [hd] at hK
              go_simp
              exact hK.out _ _ ⟨hS, trivial, rfl⟩
            · intro L hL hcl v u hS hd K' hK
              simp only [waited, List.toList_toArray, Region.binds, rel, List.getD_cons_zero, List.getD_cons_succ, true_imp_iff, and_true] at hd
              simp only [rel, List.getD_cons_zero, List.getD_cons_succ, Act.put, List.setIfInBounds_toArray, List.set_cons_zero, List.set_cons_succ] at hK
              try simp only [hd] at hK
              have x0 := hS.2.2.2 2
              go_simp
              exact hK.out _ _ ⟨hS, trivial, rfl⟩
            · intro L hL hcl v u hS hd K' hK
              simp only [waited, List.toList_toArray, Region.binds, rel, List.getD_cons_zero, List.getD_cons_succ, true_imp_iff, and_true] at hd
              simp only [rel, List.getD_cons_zero, List.getD_cons_succ, Act.put, List.setIfInBounds_toArray, List.set_cons_zero, List.set_cons_succ] at hK
              try simp only [hd] at hK
              go_simp
              exact hK.out _ _ ⟨hS, trivial, rfl⟩
            · intro L hL hcl v u hS hd K' hK
              simp only [waited, List.toList_toArray, Region.binds, rel, List.getD_cons_zero, List.getD_cons_succ, true_imp_iff, and_true] at hd
              simp only [rel, List.getD_cons_zero, List.getD_cons_succ, Act.put, List.setIfInBounds_toArray, List.set_cons_zero, List.set_cons_succ] at hK
              try simp only [hd] at hK
              go_simp
              exact hK.out _ _ ⟨hS, trivial, rfl⟩
          · rintro v u hS hR
            simp only [holdAll, List.size_toArray, List.length_cons, List.length_nil, Nat.reduceAdd, rel, List.getD_cons_zero, List.getD_cons_succ] at hR
            obtain ⟨-, h15⟩ := hR
            simp only [h15]
            have hu := hS.1
            clear hS h15
            go_wp2
            go_meet
            case rel => exact ⟨by simp, hu⟩
      case rest =>
        obtain ⟨rfl, hwc⟩ := hcut
        obtain ⟨wd, hwd⟩ := named wv.drew
        have hwd9 := hwd
        have hw2 : Wr B g P' [] false wd := by rw [hwd.out]; exact hw1
        have A2 : Blk wd A [.int .i64 why, .int .u64 (n : Int), .int .i64 pl, .bool al, .slice adi ni capi, .slice ade ne cape] 44 := by rw [hwd.out]; exact A1
        have e1 : Blk wd k1 [.int .u8 (y.toNat : Int)] 5 := by rw [hwd.out]; exact b1
        have e2 : Blk wd k2 [.int .u8 (p.toNat : Int)] 5 := by rw [hwd.out]; exact b2
        have e3 : Blk wd k3 [.int .u8 ((bOf al).toNat : Int)] 5 := by rw [hwd.out]; exact b3
        have hi2 : Texts wd adi ids := by rw [hwd.out]; exact hi1
        have he2 : Texts wd ade er := by rw [hwd.out]; exact he1
        have hbl : Below B w wd := by rw [hwd.out]; exact hbB.drew
        rw [← hwd.out] at hwc
        have hwe := hwc.out
        clear hw1 A1 b1 b2 b3 hi1 he1 hbB x1 x2 xA hwd
        clear hwc hwd9
        rw [hwe]
        clear hwe
        go_upto_if 37 with fail
        go_cut [] (fun wx => Wr B g P' [] (q1 || q2) wx ∧ KP B P' wd wx)
        case first =>
          obtain ⟨qq, hqq⟩ := named (q1 || q2)
          rw [← hqq.out]
          cases qq with
          | true =>
            have hf := wfail_w B g _ [] false wd hw2
            go_wp2_with fail
            refine hf.mono ?_
            rintro e w2 ⟨rfl, h2, k2⟩
            clear hf
            go_wp2
            go_meet
            case rel => exact ⟨by rw [← hqq.out]; exact h2, k2⟩
          | false =>
            go_wp2
            go_meet
            case rel => exact ⟨by rw [← hqq.out]; exact hw2, KP.refl _ _ _⟩
        case rest =>
          obtain ⟨hw3, kp3⟩ := hcut
          replace A2 := A2.kP kp3 pA
          replace e1 := e1.kP kp3 p1
          replace e2 := e2.kP kp3 p2
          replace e3 := e3.kP kp3 p3
          replace hi2 := Texts.keep hi2 (fun hq b o' e => kp3.1 b (pi hq b o' e).1)
          replace he2 := Texts.keep he2 (fun hq b o' e => kp3.1 b (pe hq b o' e).1)
          replace hbl := hbl.trans kp3.2
          clear kp3 hw2
          obtain ⟨qq, hqq⟩ := named (q1 || q2)
          rw [← hqq.out] at hw3
          have hby4 := wbyte_w B g k1 0 P' ([]) qq (y) _ hw3 p1 (by rw [e1.cell]; rfl) (by first | omega | (simp only [List.length_append, List.length_cons, List.length_nil, putL_length]; omega) | (simp only [List.length_nil]; omega))
          go_wp2_with fail
          refine hby4.mono ?_
          rintro e W3 ⟨rfl, hw4, kp4⟩
          replace A2 := A2.kP kp4 pA
          replace e1 := e1.kP kp4 p1
          replace e2 := e2.kP kp4 p2
          replace e3 := e3.kP kp4 p3
          replace hi2 := Texts.keep hi2 (fun hq b o' e => kp4.1 b (pi hq b o' e).1)
          replace he2 := Texts.keep he2 (fun hq b o' e => kp4.1 b (pe hq b o' e).1)
          replace hbl := hbl.trans kp4.2
          clear hby4 kp4 hw3
          have hw4' : Wr B g P' [y] qq W3 := hw4
          clear hw4
          have xn : W3.cell? ⟨A, 1, none⟩ = some (.int .u64 (n : Int)) := by rw [A2.cell]; rfl
          go_wp2_with fail
          refine region_flatS _ (fun L u => Wr B g P' (cond (L 7) ([y] ++ putL n 8) [y]) qq u ∧ KP B P' W3 u) (fun _ _ _ => True)
            (fun _ => rel [fun v _ => v = .iface 53 (.pointer (some ⟨g, 0, none⟩)),
              fun v _ => v = .pointer (some ⟨A, 0, none⟩),
              fun v _ => v = .pointer (some ⟨A, 0, none⟩),
              fun v _ => v = .pointer (some ⟨A, 1, none⟩),
              fun v _ => v = .func (Fn.method "lictor/wire.long") #[.iface 53 (.pointer (some ⟨g, 0, none⟩))] #[],
              fun v _ => v = .func (Fn.method "lictor/wire.long") #[.iface 53 (.pointer (some ⟨g, 0, none⟩))] #[],
              fun v _ => v = .iface 53 (.pointer (some ⟨g, 0, none⟩)),
              fun _ _ => True])
            (by kernel_rfl) (by kernel_rfl) (fun v => by simp only [putsV, Act.put, List.toList_toArray, List.setIfInBounds_toArray, List.set_cons_zero, List.set_cons_succ, Nat.reduceAdd, Nat.zero_add]; rfl) ?_ (fun _ _ _ _ _ h => h) ⟨hw4', (KP.refl _ _ _).drew⟩ ?_ (fun _ _ _ _ _ _ h => h) (fun L L' u hL h => by rw [← hL 7 (by decide)]; exact h) ?_
          · intro i L j x u u' _ _ hG h
            match j with
            | 0 => exact h
            | 1 => exact h
            | 2 => exact h
            | 3 => exact h
            | 4 => exact h
            | 5 => exact h
            | 6 => exact h
            | 7 => exact h
            | _ + 8 => trivial
          · refine ⟨?_, ?_, ?_, ?_, ?_, ?_, ?_, ?_, trivial⟩
            · intro L hL hcl v u hS hd K' hK
              simp only [waited, List.toList_toArray, Region.binds, rel, List.getD_cons_zero, List.getD_cons_succ, true_imp_iff, and_true] at hd
              simp only [rel, List.getD_cons_zero, List.getD_cons_succ, Act.put, List.setIfInBounds_toArray, List.set_cons_zero, List.set_cons_succ] at hK
              try simp only [hd] at hK
              have hmf := make_func
              have hm := wm_long
              go_simp
              exact hK.out _ _ ⟨hS, trivial, rfl⟩
            · intro L hL hcl v u hS hd K' hK
              simp only [waited, List.toList_toArray, Region.binds, rel, List.getD_cons_zero, List.getD_cons_succ, true_imp_iff, and_true] at hd
              simp only [rel, List.getD_cons_zero, List.getD_cons_succ, Act.put, List.setIfInBounds_toArray, List.set_cons_zero, List.set_cons_succ] at hK
              try simp only [hd] at hK
              have hmf := make_func
              have hm := wm_long
              go_simp
              exact hK.out _ _ ⟨hS, trivial, rfl⟩
            · intro L hL hcl v u hS hd K' hK
              simp only [waited, List.toList_toArray, Region.binds, rel, List.getD_cons_zero, List.getD_cons_succ, true_imp_iff, and_true] at hd
              simp only [rel, List.getD_cons_zero, List.getD_cons_succ, Act.put, List.setIfInBounds_toArray, List.set_cons_zero, List.set_cons_succ] at hK
              try simp only [hd] at hK
              have hmf := make_func
              have hm := wm_long
              go_simp
              exact hK.out _ _ ⟨hS, trivial, rfl⟩
            · intro L hL hcl v u hS hd K' hK
              simp only [waited, List.toList_toArray, Region.binds, rel, List.getD_cons_zero, List.getD_cons_succ, true_imp_iff, and_true] at hd
              simp only [rel, List.getD_cons_zero, List.getD_cons_succ, Act.put, List.setIfInBounds_toArray, List.set_cons_zero, List.set_cons_succ] at hK
              try simp only [hd] at hK
              have hmf := make_func
              have hm := wm_long
              go_simp
              exact hK.out _ _ ⟨hS, trivial, rfl⟩
            · intro L hL hcl v u hS hd K' hK
              simp only [waited, List.toList_toArray, Region.binds, rel, List.getD_cons_zero, List.getD_cons_succ, true_imp_iff, and_true] at hd
              simp only [rel, List.getD_cons_zero, List.getD_cons_succ, Act.put, List.setIfInBounds_toArray, List.set_cons_zero, List.set_cons_succ] at hK
              try simp only [hd] at hK
              have hmf := make_func
              have hm := wm_long
              go_simp
              exact hK.out _ _ ⟨hS, trivial, rfl⟩
            · intro L hL hcl v u hS hd K' hK
              simp only [waited, List.toList_toArray, Region.binds, rel, List.getD_cons_zero, List.getD_cons_succ, true_imp_iff, and_true] at hd
              simp only [rel, List.getD_cons_zero, List.getD_cons_succ, Act.put, List.setIfInBounds_toArray, List.set_cons_zero, List.set_cons_succ] at hK
              try simp only [hd] at hK
              have hmf := make_func
              have hm := wm_long
              go_simp
              exact hK.out _ _ ⟨hS, trivial, rfl⟩
            · intro L hL hcl v u hS hd K' hK
              simp only [waited, List.toList_toArray, Region.binds, rel, List.getD_cons_zero, List.getD_cons_succ, true_imp_iff, and_true] at hd
              simp only [rel, List.getD_cons_zero, List.getD_cons_succ, Act.put, List.setIfInBounds_toArray, List.set_cons_zero, List.set_cons_succ] at hK
              try simp only [hd] at hK
              have hmf := make_func
              have hm := wm_long
              go_simp
              exact hK.out _ _ ⟨hS, trivial, rfl⟩
            · intro L hL hcl v u hS hd K' hK
              simp only [waited, List.toList_toArray, Region.binds, rel, List.getD_cons_zero, List.getD_cons_succ, true_imp_iff, and_true] at hd
              simp only [rel, List.getD_cons_zero, List.getD_cons_succ, Act.put, List.setIfInBounds_toArray, List.set_cons_zero, List.set_cons_succ] at hK
              try simp only [hd] at hK
              have hmf := make_func
              have hm := wm_long
              obtain ⟨t1, t2⟩ := hS
              rw [hL] at t1
              have t1' : Wr B g P' [y] qq u := t1
              go_simp
              refine (wlong_w B g A 1 P' [y] qq n u t1' pA ((t2.cell pA).trans xn) (by simp only [List.length_append, List.length_cons, List.length_nil]; omega)).mono ?_
              rintro e w2 ⟨rfl, h2, h3⟩
              exact hK.out _ _ ⟨⟨h2, t2.trans h3⟩, trivial, trivial⟩
          · rintro v u hS hR
            simp only [holdAll, List.size_toArray, List.length_cons, List.length_nil, Nat.reduceAdd, rel, List.getD_cons_zero, List.getD_cons_succ] at hR
            clear hR
            obtain ⟨t1, t2⟩ := hS
            replace t1 : Wr B g P' ([y] ++ putL n 8) qq u := t1
            replace A2 := A2.kP t2 pA
            replace e1 := e1.kP t2 p1
            replace e2 := e2.kP t2 p2
            replace e3 := e3.kP t2 p3
            replace hi2 := Texts.keep hi2 (fun hq b o' e => t2.1 b (pi hq b o' e).1)
            replace he2 := Texts.keep he2 (fun hq b o' e => t2.1 b (pe hq b o' e).1)
            replace hbl := hbl.trans t2.2
            clear t2 xn hw4'
            obtain ⟨W4, hW4⟩ := named u
            rw [← hW4.out] at t1 A2 e1 e2 e3 hi2 he2 hbl ⊢
            clear hW4
            have hby5 := wbyte_w B g k2 0 P' ([y] ++ putL n 8) qq (p) W4 t1 p2 (by rw [e2.cell]; rfl) (by first | omega | (simp only [List.length_append, List.length_cons, List.length_nil, putL_length]; omega) | (simp only [List.length_nil]; omega))
            go_wp2_with fail
            refine hby5.mono ?_
            rintro e W5 ⟨rfl, hw5, kp5⟩
            replace A2 := A2.kP kp5 pA
            replace e1 := e1.kP kp5 p1
            replace e2 := e2.kP kp5 p2
            replace e3 := e3.kP kp5 p3
            replace hi2 := Texts.keep hi2 (fun hq b o' e => kp5.1 b (pi hq b o' e).1)
            replace he2 := Texts.keep he2 (fun hq b o' e => kp5.1 b (pe hq b o' e).1)
            replace hbl := hbl.trans kp5.2
            clear hby5 kp5 t1
            have hby6 := wbyte_w B g k3 0 P' ([y] ++ putL n 8 ++ [p]) qq (bOf al) W5 hw5 p3 (by rw [e3.cell]; rfl) (by first | omega | (simp only [List.length_append, List.length_cons, List.length_nil, putL_length]; omega) | (simp only [List.length_nil]; omega))
            go_wp2_with fail
            refine hby6.mono ?_
            rintro e W6 ⟨rfl, hw6, kp6⟩
            replace A2 := A2.kP kp6 pA
            replace e1 := e1.kP kp6 p1
            replace e2 := e2.kP kp6 p2
            replace e3 := e3.kP kp6 p3
            replace hi2 := Texts.keep hi2 (fun hq b o' e => kp6.1 b (pi hq b o' e).1)
            replace he2 := Texts.keep he2 (fun hq b o' e => kp6.1 b (pe hq b o' e).1)
            replace hbl := hbl.trans kp6.2
            clear hby6 kp6 hw5
            have x1 := e1.cell
            have x2 := e2.cell
            have x3 := e3.cell
            have xA := A2.cell
            have fA := A2.free
            have hal1 : ¬ (1 : Int) < ((bOf al).toNat : Int) := by have := bOf_le al; omega
            have hal2 : decide ((1 : Int) < ((bOf al).toNat : Int)) = false := by simpa using hal1
            have hal3 : (((bOf al).toNat : Int) == 1) = al := by cases al <;> decide
            have A7 := ((A2.set 0 (.int .i64 (y.toNat : Int))).set 2 (.int .i64 (p.toNat : Int))).set 3 (.bool al)
            have w7a := BuT.setP hw6 pA (small_blk (A2.set 0 (.int .i64 (y.toNat : Int))) (by decide))
            have w7b := BuT.setP w7a pA (small_blk ((A2.set 0 (.int .i64 (y.toNat : Int))).set 2 (.int .i64 (p.toNat : Int))) (by decide))
            have w7 := BuT.setP w7b pA (small_blk A7 (by decide))
            have hb7 := ((hbl.setCell (p := ⟨A, 0, none⟩) hAB (.int .i64 (y.toNat : Int))).setCell (p := ⟨A, 2, none⟩) hAB (.int .i64 (p.toNat : Int))).setCell (p := ⟨A, 3, none⟩) hAB (.bool al)
            have hfar : ∀ b, b ≠ A → (((W6.setCell ⟨A, 0, none⟩ (.int .i64 (y.toNat : Int))).setCell ⟨A, 2, none⟩ (.int .i64 (p.toNat : Int))).setCell ⟨A, 3, none⟩ (.bool al)).heap[b]? = W6.heap[b]? := fun b hb => by rw [Below.heap_setCell _ _ _ _ (by exact hb), Below.heap_setCell _ _ _ _ (by exact hb), Below.heap_setCell _ _ _ _ (by exact hb)]
            have hi7 := Texts.keep hi2 (fun hq b o' e => hfar b (pi hq b o' e).2)
            have he7 := Texts.keep he2 (fun hq b o' e => hfar b (pe hq b o' e).2)
            clear w7a w7b hw6 hbl hfar hi2 he2
            go_upto_region 12 with fail
            obtain ⟨W7, hW7⟩ := named (((W6.setCell ⟨A, 0, none⟩ (.int .i64 (y.toNat : Int))).setCell ⟨A, 2, none⟩ (.int .i64 (p.toNat : Int))).setCell ⟨A, 3, none⟩ (.bool al))
            rw [← hW7.out] at A7 w7 hb7 hi7 he7
            rw [show (((W6.setCell ⟨A, 0, none⟩ (.int .i64 (y.toNat : Int))).setCell ⟨A, 2, none⟩ (.int .i64 (p.toNat : Int))).setCell ⟨A, 3, none⟩ (.bool al)) = W7 from hW7.out.symm]
            clear hW7 x1 x2 x3 xA fA A2 e1 e2 e3 hal1 hal2 hal3
            replace A7 : Blk W7 A [.int .i64 (y.toNat : Int), .int .u64 (n : Int), .int .i64 (p.toNat : Int), .bool al, .slice adi ni capi, .slice ade ne cape] 44 := A7
            have w7' : Wr B g P' ([y] ++ putL n 8 ++ [p] ++ [bOf al]) qq W7 := w7
            clear w7
            have hll : ([y] ++ putL n 8 ++ [p] ++ [bOf al]).length ≤ 1000 := by simp only [List.length_append, List.length_cons, List.length_nil, putL_length]; omega
            have ht1 := wtexts_w (o := 4) ids adi capi w7' pA (by rw [A7.cell, hni]; rfl) hi7 (fun hq b o' e => (pi hq b o' e).1) hzi (by omega) (by omega)
            go_wp2_with fail
            refine ht1.mono ?_
            rintro e W8 ⟨rfl, w8, kp8⟩
            have A8 := A7.kP kp8 pA
            have hb8 := hb7.trans kp8.2
            have he8 := Texts.keep he7 (fun hq b o' e => kp8.1 b (pe hq b o' e).1)
            clear ht1 kp8 w7' A7 hb7 hi7 he7
            have htl : (textsW ids).length ≤ 5000000000 := by
              have h1 := txts_len (ids.take 255) 16777216 (fun t htt => hzi t (List.mem_of_mem_take htt))
              have h2 : (ids.take 255).length ≤ 255 := by rw [List.length_take]; omega
              have h3 : (ids.take 255).length * (16777216 + 4) ≤ 255 * (16777216 + 4) := Nat.mul_le_mul_right _ h2
              show (_ :: txts (ids.take 255)).length ≤ _
              rw [List.length_cons]
              omega
            have ht2 := wtexts_w (o := 5) er ade cape w8 pA (by rw [A8.cell, hne]; rfl) he8 (fun hq b o' e => (pe hq b o' e).1) hze (by rw [List.length_append]; omega) (by omega)
            go_wp2_with fail
            refine ht2.mono ?_
            rintro e W9 ⟨rfl, w9, kp9⟩
            have hb9 := hb8.trans kp9.2
            clear ht2 kp9 w8 A8 hb8 htl hll
            go_wp2
            go_end0
            exact ⟨rfl, ⟨P', by rw [← hqq.out]; exact w9⟩, hb9⟩
end Go.Proofs.Ytiodfbbgbnbdpaa
