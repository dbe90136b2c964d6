/- wire.pass at the reader, into a reply that is zero. -/
import Derived.Test.YtiodfbbgbnbdpaaRTexts
import Derived.Test.YtiodfbbgbnbdpaaGH
import Derived.Deep.DeepCutAuto
namespace Go.Proofs.Ytiodfbbgbnbdpaa
set_option linter.unusedSimpArgs false
set_option linter.unusedVariables false
open Go.RowKit
open Crc
theorem Kp2.step {B g A X : Nat} {w w1 w2 : World} (h : Kp2 B g A w w1) (k : Kp2 B g X w1 w2) (hX : X = A ∨ w.heap.size ≤ X) : Kp2 B g A w w2 :=
  ⟨fun i hi q1 q2 => (k.1 i (Nat.lt_of_lt_of_le hi h.size) q1 (by rcases hX with h | h <;> omega)).trans (h.1 i hi q1 q2), h.2.trans k.2⟩
theorem RowR.kp2 {B g A : Nat} {w0 w w' : World} {v : Value} {l : List ByteArray} (h : RowR w0 w v l) (hg : g < w0.heap.size) (hA : A < w0.heap.size) (k : Kp2 B g A w w') : RowR w0 w' v l :=
  h.keep k.size (fun b h1 h2 => k.1 b h2 (by omega) (by omega))
theorem RowR.base {w0 w1 w : World} {v : Value} {l : List ByteArray} (h : RowR w1 w v l) (hs : w0.heap.size ≤ w1.heap.size) : RowR w0 w v l := by
  obtain ⟨ad, cap, h1, h2, h3⟩ := h
  exact ⟨ad, cap, h1, h2, fun b o' e => ⟨Nat.le_trans hs (h3 b o' e).1, (h3 b o' e).2⟩⟩
set_option maxRecDepth 100000 in
set_option maxHeartbeats 4000000 in
theorem rpass_w {B g A : Nat} {x : Lf} {w : World} (hg : B ≤ g) (hA : B ≤ A) (hne : A ≠ g) (h : Lb w g x) (hx : x.l.length ≤ 140737488351232) (ha : Blk w A [.int .i64 0, .int .u64 0, .int .i64 0, .bool false, .slice none 0 0, .slice none 0 0] 44) :
    Calls Try.prog 30 #[.iface 68 (.pointer (some ⟨g, 0, none⟩)), .pointer (some ⟨A, 0, none⟩)] w fun e w' => e = .returned (.tuple #[]) ∧ Lb w' g (passL x).2 ∧ (∃ v1 v2, Blk w' A [.int .i64 (passL x).1.why, .int .u64 ((passL x).1.n : Int), .int .i64 (passL x).1.pl, .bool (passL x).1.al, v1, v2] 44 ∧ RowR w w' v1 (passL x).1.ids ∧ RowR w w' v2 (passL x).1.er) ∧ Kp2 B g A w w' := by
  have hgl := h.lt
  have hAl := ha.lt
  have l1 := byteL_len x
  have hpl : passL x = (⟨((byteL x).1.toNat : Int), (longL (byteL x).2).1, ((byteL (longL (byteL x).2).2).1.toNat : Int), (byteL (byteL (longL (byteL x).2).2).2).1 == 1, (tsL (flagL (byteL (longL (byteL x).2).2).2)).1, (tsL (tsL (flagL (byteL (longL (byteL x).2).2).2)).2).1⟩, (tsL (tsL (flagL (byteL (longL (byteL x).2).2).2)).2).2) := rfl
  have hfl : flagL (byteL (longL (byteL x).2).2).2 = ⟨(byteL (byteL (longL (byteL x).2).2).2).2.l, (byteL (byteL (longL (byteL x).2).2).2).2.b || decide (1 < (byteL (byteL (longL (byteL x).2).2).2).1.toNat)⟩ := rfl
  have hb1 := fun (W : World) (K : Nat) (h1 : B ≤ K) (h2 : K ≠ g) (hW : Lb W g x) (hk : Blk W K [.int .u8 0] 5) => rbyte_w (o := 0) (u0 := .int .u8 0) hg h1 h2 hW hx hk rfl
  have hl2 := (takeL_len (byteL x).2 8).2
  have hlo := fun (W : World) (hW : Lb W g (byteL x).2) (hk : Blk W A [.int .i64 0, .int .u64 0, .int .i64 0, .bool false, .slice none 0 0, .slice none 0 0] 44) => rlong_w (o := 1) (u0 := .int .u64 0) hg hA hne hW (Nat.le_trans l1 hx) hk rfl
  have l2 : (longL (byteL x).2).2.l.length ≤ 140737488351232 := Nat.le_trans hl2 (Nat.le_trans l1 hx)
  obtain ⟨Y1, hY1⟩ := named (byteL x)
  simp only [← hY1.out] at hpl hfl hb1 hlo l2
  clear hY1 l1 hl2
  obtain ⟨y, x1⟩ := Y1
  simp only at hpl hfl hb1 hlo l2
  have hb2 := fun (W : World) (K : Nat) (h1 : B ≤ K) (h2 : K ≠ g) (hW : Lb W g (longL x1).2) (hk : Blk W K [.int .u8 0] 5) => rbyte_w (o := 0) (u0 := .int .u8 0) hg h1 h2 hW l2 hk rfl
  have l3 := Nat.le_trans (byteL_len (longL x1).2) l2
  obtain ⟨Y2, hY2⟩ := named (longL x1)
  simp only [← hY2.out] at hpl hfl hlo hb2 l3
  clear hY2 l2
  obtain ⟨n, x2⟩ := Y2
  simp only at hpl hfl hlo hb2 l3
  obtain ⟨Y3, hY3⟩ := named (byteL x2)
  simp only [← hY3.out] at hpl hfl hb2 l3
  clear hY3
  obtain ⟨p, x3⟩ := Y3
  simp only at hpl hfl hb2 l3
  have hb3 := fun (W : World) (K : Nat) (h1 : B ≤ K) (h2 : K ≠ g) (hW : Lb W g x3) (hk : Blk W K [.int .u8 0] 5) => rbyte_w (o := 0) (u0 := .int .u8 0) hg h1 h2 hW l3 hk rfl
  have l4 := Nat.le_trans (byteL_len x3) l3
  obtain ⟨Y4, hY4⟩ := named (byteL x3)
  obtain ⟨Y5, hY5⟩ := named (flagL x3)
  simp only [← hY4.out, ← hY5.out] at hpl hfl hb3 l4
  clear hY4 hY5 l3
  obtain ⟨f, x4⟩ := Y4
  simp only at hpl hfl hb3 l4
  have HFL := hide hfl
  have HPL := hide hpl
  have l5 : Y5.l.length ≤ 140737488351232 := by rw [hfl]; exact l4
  have l6 : (tsL Y5).2.l.length ≤ 140737488351232 := Nat.le_trans (Nat.le_trans (textsL_len _ _) (byteL_len _)) l5
  clear hfl hpl l4
  have hy64 : IntKind.i64.wrap (y.toNat : Int) = (y.toNat : Int) := by have := y.toNat_lt; simp [IntKind.wrap, IntKind.bits, IntKind.signed]; omega
  have hp64 : IntKind.i64.wrap (p.toNat : Int) = (p.toNat : Int) := by have := p.toNat_lt; simp [IntKind.wrap, IntKind.bits, IntKind.signed]; omega
  have hf1 : ((f.toNat : Int) == 1) = (f == 1) := by
    have h := u8_iff f 1
    cases hc : (f == 1) with
    | true => simpa using h.2 (by simpa using hc)
    | false => simpa using fun e => absurd (h.1 e) (by simpa using hc)
  have hfd : decide ((1 : Int) < (f.toNat : Int)) = decide (1 < f.toNat) := by simp; omega
  have h0 : U3 w 5 [.int .u8 0] [.int .u8 0] [.int .u8 0] undef undef undef w.drew := U3.undef
  have hm1 := rm_byte
  go_enter Try.func30, Try.ntmps30
  go_upto_region 0 with fail
  refine region_flatV _ (fun L v u => U3 w 5 (cond (L 13) [.int .u8 0] [.int .u8 0]) (cond (L 14) [.int .u8 0] [.int .u8 0]) (cond (L 15) [.int .u8 0] [.int .u8 0]) (v 10) (v 11) (v 12) u) (fun _ _ _ => True)
    (fun _ => rel [fun v _ => v = .pointer (some ⟨A, 0, none⟩),
      fun v _ => v = .pointer (some ⟨A, 0, none⟩),
      fun v _ => v = .pointer (some ⟨A, 0, none⟩),
      fun v _ => v = .int .i64 0,
      fun v _ => v = .int .u8 0,
      fun v _ => v = .pointer (some ⟨A, 0, none⟩),
      fun v _ => v = .pointer (some ⟨A, 0, none⟩),
      fun v _ => v = .pointer (some ⟨A, 2, none⟩),
      fun v _ => v = .int .i64 0,
      fun v _ => v = .int .u8 0,
      fun v _ => ∃ k, v = .pointer (some ⟨k, 0, none⟩),
      fun v _ => ∃ k, v = .pointer (some ⟨k, 0, none⟩),
      fun v _ => ∃ k, v = .pointer (some ⟨k, 0, none⟩),
      fun _ _ => True,
      fun _ _ => True,
      fun _ _ => True])
    (by kernel_rfl) (by kernel_rfl) (fun v => by simp only [putsV, Act.put, List.toList_toArray, List.setIfInBounds_toArray, List.set_cons_zero, List.set_cons_succ, Nat.reduceAdd, Nat.zero_add]; rfl) ?_ (fun _ _ _ _ _ h => h) h0 ?_ (fun _ _ _ _ _ _ h => h) (fun L L' v u hL h => by rw [← hL 13 (by decide)]; rw [← hL 14 (by decide)]; rw [← hL 15 (by decide)]; exact h) ?_
  · intro i L j x u u' _ _ _ h
    match j with
    | 0 => exact h
    | 1 => exact h
    | 2 => exact h
    | 3 => exact h
    | 4 => exact h
    | 5 => exact h
    | 6 => exact h
    | 7 => exact h
    | 8 => exact h
    | 9 => exact h
    | 10 => exact h
    | 11 => exact h
    | 12 => exact h
    | 13 => exact h
    | 14 => exact h
    | 15 => exact h
    | _ + 16 => trivial
  · refine ⟨?_, ?_, ?_, ?_, ?_, ?_, ?_, ?_, ?_, ?_, ?_, ?_, ?_, ?_, ?_, ?_, trivial⟩
    · intro L hL hcl v u hS hd K' hK
      simp only [waited, List.toList_toArray, Region.binds, rel, List.getD_cons_zero, List.getD_cons_succ, true_imp_iff, and_true] at hd
      simp only [rel, List.getD_cons_zero, List.getD_cons_succ, Act.put, List.setIfInBounds_toArray, List.set_cons_zero, List.set_cons_succ] at hK
      try simp only [hd] at hK
      go_simp
      exact hK.out _ _ ⟨hS, trivial, rfl⟩
    · intro L hL hcl v u hS hd K' hK
      simp only [waited, List.toList_toArray, Region.binds, rel, List.getD_cons_zero, List.getD_cons_succ, true_imp_iff, and_true] at hd
      simp only [rel, List.getD_cons_zero, List.getD_cons_succ, Act.put, List.setIfInBounds_toArray, List.set_cons_zero, List.set_cons_succ] at hK
      try simp only [hd] at hK
      go_simp
      exact hK.out _ _ ⟨hS, trivial, rfl⟩
    · intro L hL hcl v u hS hd K' hK
      simp only [waited, List.toList_toArray, Region.binds, rel, List.getD_cons_zero, List.getD_cons_succ, true_imp_iff, and_true] at hd
      simp only [rel, List.getD_cons_zero, List.getD_cons_succ, Act.put, List.setIfInBounds_toArray, List.set_cons_zero, List.set_cons_succ] at hK
      try simp only [hd] at hK
      go_simp
      exact hK.out _ _ ⟨hS, trivial, rfl⟩
    · intro L hL hcl v u hS hd K' hK
      simp only [waited, List.toList_toArray, Region.binds, rel, List.getD_cons_zero, List.getD_cons_succ, true_imp_iff, and_true] at hd
      simp only [rel, List.getD_cons_zero, List.getD_cons_succ, Act.put, List.setIfInBounds_toArray, List.set_cons_zero, List.set_cons_succ] at hK
      try simp only [hd] at hK
      have hA9 := ha.below hS.1
      have x0 : u.cell? ⟨A, 0, none⟩ = some (.int .i64 0) := by rw [hA9.cell]; rfl
      go_simp
      exact hK.out _ _ ⟨hS, trivial, rfl⟩
    · intro L hL hcl v u hS hd K' hK
      simp only [waited, List.toList_toArray, Region.binds, rel, List.getD_cons_zero, List.getD_cons_succ, true_imp_iff, and_true] at hd
      simp only [rel, List.getD_cons_zero, List.getD_cons_succ, Act.put, List.setIfInBounds_toArray, List.set_cons_zero, List.set_cons_succ] at hK
      try simp only [hd] at hK
      go_simp
      exact hK.out _ _ ⟨hS, trivial, rfl⟩
    · intro L hL hcl v u hS hd K' hK
      simp only [waited, List.toList_toArray, Region.binds, rel, List.getD_cons_zero, List.getD_cons_succ, true_imp_iff, and_true] at hd
      simp only [rel, List.getD_cons_zero, List.getD_cons_succ, Act.put, List.setIfInBounds_toArray, List.set_cons_zero, List.set_cons_succ] at hK
      try simp only [hd] at hK
      go_simp
      exact hK.out _ _ ⟨hS, trivial, rfl⟩
    · intro L hL hcl v u hS hd K' hK
      simp only [waited, List.toList_toArray, Region.binds, rel, List.getD_cons_zero, List.getD_cons_succ, true_imp_iff, and_true] at hd
      simp only [rel, List.getD_cons_zero, List.getD_cons_succ, Act.put, List.setIfInBounds_toArray, List.set_cons_zero, List.set_cons_succ] at hK
      try simp only [hd] at hK
      go_simp
      exact hK.out _ _ ⟨hS, trivial, rfl⟩
    · intro L hL hcl v u hS hd K' hK
      simp only [waited, List.toList_toArray, Region.binds, rel, List.getD_cons_zero, List.getD_cons_succ, true_imp_iff, and_true] at hd
      simp only [rel, List.getD_cons_zero, List.getD_cons_succ, Act.put, List.setIfInBounds_toArray, List.set_cons_zero, List.set_cons_succ] at hK
      try simp only [hd] at hK
      go_simp
      exact hK.out _ _ ⟨hS, trivial, rfl⟩
    · intro L hL hcl v u hS hd K' hK
      simp only [waited, List.toList_toArray, Region.binds, rel, List.getD_cons_zero, List.getD_cons_succ, true_imp_iff, and_true] at hd
      simp only [rel, List.getD_cons_zero, List.getD_cons_succ, Act.put, List.setIfInBounds_toArray, List.set_cons_zero, List.set_cons_succ] at hK
      try simp only [hd] at hK
      have hA9 := ha.below hS.1
      have x0 : u.cell? ⟨A, 2, none⟩ = some (.int .i64 0) := by rw [hA9.cell]; rfl
      go_simp
      exact hK.out _ _ ⟨hS, trivial, rfl⟩
    · intro L hL hcl v u hS hd K' hK
      simp only [waited, List.toList_toArray, Region.binds, rel, List.getD_cons_zero, List.getD_cons_succ, true_imp_iff, and_true] at hd
      simp only [rel, List.getD_cons_zero, List.getD_cons_succ, Act.put, List.setIfInBounds_toArray, List.set_cons_zero, List.set_cons_succ] at hK
      try simp only [hd] at hK
      go_simp
      exact hK.out _ _ ⟨hS, trivial, rfl⟩
    · intro L hL hcl v u hS hd K' hK
      simp only [waited, List.toList_toArray, Region.binds, rel, List.getD_cons_zero, List.getD_cons_succ, true_imp_iff, and_true] at hd
      simp only [rel, List.getD_cons_zero, List.getD_cons_succ, Act.put, List.setIfInBounds_toArray, List.set_cons_zero, List.set_cons_succ] at hK
      try simp only [hd] at hK
      have h0 : L 13 = false := by
        cases h9 : L 13 with
        | false => rfl
        | true => have h8 := hcl 13 10 h9 (by kernel_rfl); rw [hL] at h8; cases h8
      have hS' := hS
      rw [h0] at hS'
      have h2 := U3.alloc1 (l := [.int .u8 0]) hS'
      go_simp
      have h3 : U3 w 5 (cond (L 13) [.int .u8 0] [.int .u8 0]) (cond (L 14) [.int .u8 0] [.int .u8 0]) (cond (L 15) [.int .u8 0] [.int .u8 0]) (.pointer (some ⟨u.heap.size, 0, none⟩)) (v 11) (v 12) (u.alloc (.cells #[.int .u8 0] 5)) := by rw [h0]; exact h2
      exact hK.out _ _ ⟨h3, trivial, ⟨_, rfl⟩⟩
    · intro L hL hcl v u hS hd K' hK
      simp only [waited, List.toList_toArray, Region.binds, rel, List.getD_cons_zero, List.getD_cons_succ, true_imp_iff, and_true] at hd
      simp only [rel, List.getD_cons_zero, List.getD_cons_succ, Act.put, List.setIfInBounds_toArray, List.set_cons_zero, List.set_cons_succ] at hK
      try simp only [hd] at hK
      have h0 : L 14 = false := by
        cases h9 : L 14 with
        | false => rfl
        | true => have h8 := hcl 14 11 h9 (by kernel_rfl); rw [hL] at h8; cases h8
      have hS' := hS
      rw [h0] at hS'
      have h2 := U3.alloc2 (l := [.int .u8 0]) hS'
      go_simp
      have h3 : U3 w 5 (cond (L 13) [.int .u8 0] [.int .u8 0]) (cond (L 14) [.int .u8 0] [.int .u8 0]) (cond (L 15) [.int .u8 0] [.int .u8 0]) (v 10) (.pointer (some ⟨u.heap.size, 0, none⟩)) (v 12) (u.alloc (.cells #[.int .u8 0] 5)) := by rw [h0]; exact h2
      exact hK.out _ _ ⟨h3, trivial, ⟨_, rfl⟩⟩
    · intro L hL hcl v u hS hd K' hK
      simp only [waited, List.toList_toArray, Region.binds, rel, List.getD_cons_zero, List.getD_cons_succ, true_imp_iff, and_true] at hd
      simp only [rel, List.getD_cons_zero, List.getD_cons_succ, Act.put, List.setIfInBounds_toArray, List.set_cons_zero, List.set_cons_succ] at hK
      try simp only [hd] at hK
      have h0 : L 15 = false := by
        cases h9 : L 15 with
        | false => rfl
        | true => have h8 := hcl 15 12 h9 (by kernel_rfl); rw [hL] at h8; cases h8
      have hS' := hS
      rw [h0] at hS'
      have h2 := U3.alloc3 (l := [.int .u8 0]) hS'
      go_simp
      have h3 : U3 w 5 (cond (L 13) [.int .u8 0] [.int .u8 0]) (cond (L 14) [.int .u8 0] [.int .u8 0]) (cond (L 15) [.int .u8 0] [.int .u8 0]) (v 10) (v 11) (.pointer (some ⟨u.heap.size, 0, none⟩)) (u.alloc (.cells #[.int .u8 0] 5)) := by rw [h0]; exact h2
      exact hK.out _ _ ⟨h3, trivial, ⟨_, rfl⟩⟩
    · intro L hL hcl v u hS hd K' hK
      simp only [waited, List.toList_toArray, Region.binds, rel, List.getD_cons_zero, List.getD_cons_succ, true_imp_iff, and_true] at hd
      simp only [rel, List.getD_cons_zero, List.getD_cons_succ, Act.put, List.setIfInBounds_toArray, List.set_cons_zero, List.set_cons_succ] at hK
      try simp only [hd] at hK
      obtain ⟨⟨k, e0⟩, e1, _⟩ := hd
      have hS' : U3 w 5 (cond (L 13) [.int .u8 0] [.int .u8 0]) (cond (L 14) [.int .u8 0] [.int .u8 0]) (cond (L 15) [.int .u8 0] [.int .u8 0]) (.pointer (some ⟨k, 0, none⟩)) (v 11) (v 12) u := by rw [← e0]; exact hS
      rw [hL] at hS'
      have hk9 : Blk u k [.int .u8 0] 5 := (hS'.2.1.1 k rfl).2
      have x0 := hk9.cell 0
      have f0 := hk9.free 0
      have h2 := U3.set1 hS' 0 (.int .u8 0)
      simp only [e0, e1] at hK ⊢
      go_simp
      have h3 : U3 w 5 (cond (true) [.int .u8 0] [.int .u8 0]) (cond (L 14) [.int .u8 0] [.int .u8 0]) (cond (L 15) [.int .u8 0] [.int .u8 0]) (v 10) (v 11) (v 12) (u.setCell ⟨k, 0, none⟩ (.int .u8 0)) := by rw [e0]; exact h2
      exact hK.out undef _ ⟨h3, trivial, trivial⟩
    · intro L hL hcl v u hS hd K' hK
      simp only [waited, List.toList_toArray, Region.binds, rel, List.getD_cons_zero, List.getD_cons_succ, true_imp_iff, and_true] at hd
      simp only [rel, List.getD_cons_zero, List.getD_cons_succ, Act.put, List.setIfInBounds_toArray, List.set_cons_zero, List.set_cons_succ] at hK
      try simp only [hd] at hK
      obtain ⟨⟨k, e0⟩, e1, _⟩ := hd
      have hS' : U3 w 5 (cond (L 13) [.int .u8 0] [.int .u8 0]) (cond (L 14) [.int .u8 0] [.int .u8 0]) (cond (L 15) [.int .u8 0] [.int .u8 0]) (v 10) (.pointer (some ⟨k, 0, none⟩)) (v 12) u := by rw [← e0]; exact hS
      rw [hL] at hS'
      have hk9 : Blk u k [.int .u8 0] 5 := (hS'.2.1.2.1 k rfl).2
      have x0 := hk9.cell 0
      have f0 := hk9.free 0
      have h2 := U3.set2 hS' 0 (.int .u8 0)
      simp only [e0, e1] at hK ⊢
      go_simp
      have h3 : U3 w 5 (cond (L 13) [.int .u8 0] [.int .u8 0]) (cond (true) [.int .u8 0] [.int .u8 0]) (cond (L 15) [.int .u8 0] [.int .u8 0]) (v 10) (v 11) (v 12) (u.setCell ⟨k, 0, none⟩ (.int .u8 0)) := by rw [e0]; exact h2
      exact hK.out undef _ ⟨h3, trivial, trivial⟩
    · intro L hL hcl v u hS hd K' hK
      simp only [waited, List.toList_toArray, Region.binds, rel, List.getD_cons_zero, List.getD_cons_succ, true_imp_iff, and_true] at hd
      simp only [rel, List.getD_cons_zero, List.getD_cons_succ, Act.put, List.setIfInBounds_toArray, List.set_cons_zero, List.set_cons_succ] at hK
      try simp only [hd] at hK
      obtain ⟨⟨k, e0⟩, _⟩ := hd
      have hS' : U3 w 5 (cond (L 13) [.int .u8 0] [.int .u8 0]) (cond (L 14) [.int .u8 0] [.int .u8 0]) (cond (L 15) [.int .u8 0] [.int .u8 0]) (v 10) (v 11) (.pointer (some ⟨k, 0, none⟩)) u := by rw [← e0]; exact hS
      rw [hL] at hS'
      have hk9 : Blk u k [.int .u8 0] 5 := (hS'.2.1.2.2 k rfl).2
      have x0 := hk9.cell 0
      have f0 := hk9.free 0
      have h2 := U3.set3 hS' 0 (.int .u8 0)
      simp only [e0] at hK ⊢
      go_simp
      have h3 : U3 w 5 (cond (L 13) [.int .u8 0] [.int .u8 0]) (cond (L 14) [.int .u8 0] [.int .u8 0]) (cond (true) [.int .u8 0] [.int .u8 0]) (v 10) (v 11) (v 12) (u.setCell ⟨k, 0, none⟩ (.int .u8 0)) := by rw [e0]; exact h2
      exact hK.out undef _ ⟨h3, trivial, trivial⟩
  · rintro v u hS hR
    simp only [holdAll, List.size_toArray, List.length_cons, List.length_nil, Nat.reduceAdd, rel, List.getD_cons_zero, List.getD_cons_succ] at hR
    obtain ⟨⟨⟨⟨⟨⟨-, ⟨k1, e1⟩⟩, ⟨k2, e2⟩⟩, ⟨k3, e3⟩⟩, -⟩, -⟩, -⟩ := hR
    simp only [e1, e2, e3] at hS ⊢
    clear e1 e2 e3 h0
    have hS1 : U3 w 5 [.int .u8 0] [.int .u8 0] [.int .u8 0] (.pointer (some ⟨k1, 0, none⟩)) (.pointer (some ⟨k2, 0, none⟩)) (.pointer (some ⟨k3, 0, none⟩)) u := by
      cases hS with
      | intro a b => exact ⟨a, b⟩
    clear hS
    obtain ⟨hb0, ⟨c1, c2, c3⟩, a12, a13, a23⟩ := hS1
    obtain ⟨s1, b1⟩ := c1 k1 rfl
    obtain ⟨s2, b2⟩ := c2 k2 rfl
    obtain ⟨s3, b3⟩ := c3 k3 rfl
    have n12 : k2 ≠ k1 := fun e => a12 k1 rfl (by rw [e])
    have n13 : k3 ≠ k1 := fun e => a13 k1 rfl (by rw [e])
    have n23 : k3 ≠ k2 := fun e => a23 k2 rfl (by rw [e])
    clear c1 c2 c3 a12 a13 a23
    have A1 := ha.below hb0
    have L1 := h.kp hb0
    have kp1 : Kp2 B g A w u := Kp2.of hb0 (by omega)
    clear h ha hb0
    obtain ⟨W1, hW1⟩ := named u
    rw [← hW1.out] at A1 L1 kp1 b1 b2 b3 ⊢
    clear hW1
    have x1c := b1.cell
    have x2c := b2.cell
    have xA := A1.cell
    go_upto_region 3 with fail
    go_wp2_with fail
    refine region_flatS _ (fun L u9 => Hid (u9 = W1.drew) ∧ (∀ i, u9.cell? ⟨k1, i, none⟩ = [Value.int .u8 0][i]?) ∧ (∀ i, u9.cell? ⟨k2, i, none⟩ = [Value.int .u8 0][i]?) ∧ (∀ i, u9.cell? ⟨A, i, none⟩ = [.int .i64 0, .int .u64 0, .int .i64 0, .bool false, .slice none 0 0, .slice none 0 0][i]?)) (fun _ _ _ => True)
      (fun _ => rel [fun v _ => v = .int .u8 0,
        fun v _ => v = .int .i64 0,
        fun v _ => v = .pointer (some ⟨A, 0, none⟩),
        fun v _ => v = .pointer (some ⟨A, 0, none⟩),
        fun v _ => v = .pointer (some ⟨A, 0, none⟩),
        fun v _ => v = .int .i64 0,
        fun v _ => v = .bool false,
        fun v _ => v = .bool false,
        fun v _ => v = .int .u8 0,
        fun v _ => v = .int .i64 0,
        fun v _ => v = .pointer (some ⟨A, 0, none⟩),
        fun v _ => v = .pointer (some ⟨A, 0, none⟩),
        fun v _ => v = .pointer (some ⟨A, 2, none⟩),
        fun v _ => v = .int .i64 0,
        fun v _ => v = .bool false,
        fun v _ => v = .bool false])
      (by kernel_rfl) (by kernel_rfl) (fun v => by simp only [putsV, Act.put, List.toList_toArray, List.setIfInBounds_toArray, List.set_cons_zero, List.set_cons_succ, Nat.reduceAdd, Nat.zero_add]; rfl) ?_ (fun _ _ _ _ _ h => h) ⟨hide rfl, x1c, x2c, xA⟩ ?_ (fun _ _ _ _ _ _ h => h) (fun L L' u hL h => by  exact h) ?_
    · intro i L j x u u' _ _ hG h
      match j with
      | 0 => exact h
      | 1 => exact h
      | 2 => exact h
      | 3 => exact h
      | 4 => exact h
      | 5 => exact h
      | 6 => exact h
      | 7 => exact h
      | 8 => exact h
      | 9 => exact h
      | 10 => exact h
      | 11 => exact h
      | 12 => exact h
      | 13 => exact h
      | 14 => exact h
      | 15 => exact h
      | _ + 16 => trivial
    · refine ⟨?_, ?_, ?_, ?_, ?_, ?_, ?_, ?_, ?_, ?_, ?_, ?_, ?_, ?_, ?_, ?_, trivial⟩
      · intro L hL hcl v u hS hd K' hK
        simp only [waited, List.toList_toArray, Region.binds, rel, List.getD_cons_zero, List.getD_cons_succ, true_imp_iff, and_true] at hd
        simp only [rel, List.getD_cons_zero, List.getD_cons_succ, Act.put, List.setIfInBounds_toArray, List.set_cons_zero, List.set_cons_succ] at hK
        try simp only [hd] at hK
        have x0 := hS.2.1 0
        go_simp
        exact hK.out _ _ ⟨hS, trivial, rfl⟩
      · intro L hL hcl v u hS hd K' hK
        simp only [waited, List.toList_toArray, Region.binds, rel, List.getD_cons_zero, List.getD_cons_succ, true_imp_iff, and_true] at hd
        simp only [rel, List.getD_cons_zero, List.getD_cons_succ, Act.put, List.setIfInBounds_toArray, List.set_cons_zero, List.set_cons_succ] at hK
        try simp only [hd] at hK
        go_simp
        exact hK.out _ _ ⟨hS, trivial, rfl⟩
      · intro L hL hcl v u hS hd K' hK
        simp only [waited, List.toList_toArray, Region.binds, rel, List.getD_cons_zero, List.getD_cons_succ, true_imp_iff, and_true] at hd
        simp only [rel, List.getD_cons_zero, List.getD_cons_succ, Act.put, List.setIfInBounds_toArray, List.set_cons_zero, List.set_cons_succ] at hK
        try simp only [hd] at hK
        go_simp
        exact hK.out _ _ ⟨hS, trivial, rfl⟩
      · intro L hL hcl v u hS hd K' hK
        simp only [waited, List.toList_toArray, Region.binds, rel, List.getD_cons_zero, List.getD_cons_succ, true_imp_iff, and_true] at hd
        simp only [rel, List.getD_cons_zero, List.getD_cons_succ, Act.put, List.setIfInBounds_toArray, List.set_cons_zero, List.set_cons_succ] at hK
        try simp only [hd] at hK
        go_simp
        exact hK.out _ _ ⟨hS, trivial, rfl⟩
      · intro L hL hcl v u hS hd K' hK
        simp only [waited, List.toList_toArray, Region.binds, rel, List.getD_cons_zero, List.getD_cons_succ, true_imp_iff, and_true] at hd
        simp only [rel, List.getD_cons_zero, List.getD_cons_succ, Act.put, List.setIfInBounds_toArray, List.set_cons_zero, List.set_cons_succ] at hK
        try simp only [hd] at hK
        go_simp
        exact hK.out _ _ ⟨hS, trivial, rfl⟩
      · intro L hL hcl v u hS hd K' hK
        simp only [waited, List.toList_toArray, Region.binds, rel, List.getD_cons_zero, List.getD_cons_succ, true_imp_iff, and_true] at hd
        simp only [rel, List.getD_cons_zero, List.getD_cons_succ, Act.put, List.setIfInBounds_toArray, List.set_cons_zero, List.set_cons_succ] at hK
        try simp only [hd] at hK
        have x0 := hS.2.2.2 0
        go_simp
        exact hK.out _ _ ⟨hS, trivial, rfl⟩
      · intro L hL hcl v u hS hd K' hK
        simp only [waited, List.toList_toArray, Region.binds, rel, List.getD_cons_zero, List.getD_cons_succ, true_imp_iff, and_true] at hd
        simp only [rel, List.getD_cons_zero, List.getD_cons_succ, Act.put, List.setIfInBounds_toArray, List.set_cons_zero, List.set_cons_succ] at hK
        try simp only [hd] at hK
        go_simp
        exact hK.out _ _ ⟨hS, trivial, rfl⟩
      · intro L hL hcl v u hS hd K' hK
        simp only [waited, List.toList_toArray, Region.binds, rel, List.getD_cons_zero, List.getD_cons_succ, true_imp_iff, and_true] at hd
        simp only [rel, List.getD_cons_zero, List.getD_cons_succ, Act.put, List.setIfInBounds_toArray, List.set_cons_zero, List.set_cons_succ] at hK
        try simp only [hd] at hK
        go_simp
        exact hK.out _ _ ⟨hS, trivial, rfl⟩
      · intro L hL hcl v u hS hd K' hK
        simp only [waited, List.toList_toArray, Region.binds, rel, List.getD_cons_zero, List.getD_cons_succ, true_imp_iff, and_true] at hd
        simp only [rel, List.getD_cons_zero, List.getD_cons_succ, Act.put, List.setIfInBounds_toArray, List.set_cons_zero, List.set_cons_succ] at hK
        try simp only [hd] at hK
        have x0 := hS.2.2.1 0
        go_simp
        exact hK.out _ _ ⟨hS, trivial, rfl⟩
      · intro L hL hcl v u hS hd K' hK
        simp only [waited, List.toList_toArray, Region.binds, rel, List.getD_cons_zero, List.getD_cons_succ, true_imp_iff, and_true] at hd
        simp only [rel, List.getD_cons_zero, List.getD_cons_succ, Act.put, List.setIfInBounds_toArray, List.set_cons_zero, List.set_cons_succ] at hK
        try simp only [hd] at hK
        go_simp
        exact hK.out _ _ ⟨hS, trivial, rfl⟩
      · intro L hL hcl v u hS hd K' hK
        simp only [waited, List.toList_toArray, Region.binds, rel, List.getD_cons_zero, List.getD_cons_succ, true_imp_iff, and_true] at hd
        simp only [rel, List.getD_cons_zero, List.getD_cons_succ, Act.put, List.setIfInBounds_toArray, List.set_cons_zero, List.set_cons_succ] at hK
        try simp only [hd] at hK
        go_simp
        exact hK.out _ _ ⟨hS, trivial, rfl⟩
      · intro L hL hcl v u hS hd K' hK
        simp only [waited, List.toList_toArray, Region.binds, rel, List.getD_cons_zero, List.getD_cons_succ, true_imp_iff, and_true] at hd
        simp only [rel, List.getD_cons_zero, List.getD_cons_succ, Act.put, List.setIfInBounds_toArray, List.set_cons_zero, List.set_cons_succ] at hK
        try simp only [hd] at hK
        go_simp
        exact hK.out _ _ ⟨hS, trivial, rfl⟩
      · intro L hL hcl v u hS hd K' hK
        simp only [waited, List.toList_toArray, Region.binds, rel, List.getD_cons_zero, List.getD_cons_succ, true_imp_iff, and_true] at hd
        simp only [rel, List.getD_cons_zero, List.getD_cons_succ, Act.put, List.setIfInBounds_toArray, List.set_cons_zero, List.set_cons_succ] at hK
        try simp only [hd] at hK
        go_simp
        exact hK.out _ _ ⟨hS, trivial, rfl⟩
      · intro L hL hcl v u hS hd K' hK
        simp only [waited, List.toList_toArray, Region.binds, rel, List.getD_cons_zero, List.getD_cons_succ, true_imp_iff, and_true] at hd
        simp only [rel, List.getD_cons_zero, List.getD_cons_succ, Act.put, List.setIfInBounds_toArray, List.set_cons_zero, List.set_cons_succ] at hK
        try simp only [hd] at hK
        have x0 := hS.2.2.2 2
        go_simp
        exact hK.out _ _ ⟨hS, trivial, rfl⟩
      · intro L hL hcl v u hS hd K' hK
        simp only [waited, List.toList_toArray, Region.binds, rel, List.getD_cons_zero, List.getD_cons_succ, true_imp_iff, and_true] at hd
        simp only [rel, List.getD_cons_zero, List.getD_cons_succ, Act.put, List.setIfInBounds_toArray, List.set_cons_zero, List.set_cons_succ] at hK
        try simp only [hd] at hK
        go_simp
        exact hK.out _ _ ⟨hS, trivial, rfl⟩
      · intro L hL hcl v u hS hd K' hK
        simp only [waited, List.toList_toArray, Region.binds, rel, List.getD_cons_zero, List.getD_cons_succ, true_imp_iff, and_true] at hd
        simp only [rel, List.getD_cons_zero, List.getD_cons_succ, Act.put, List.setIfInBounds_toArray, List.set_cons_zero, List.set_cons_succ] at hK
        try simp only [hd] at hK
        go_simp
        exact hK.out _ _ ⟨hS, trivial, rfl⟩
    · rintro v u hS hR
      simp only [holdAll, List.size_toArray, List.length_cons, List.length_nil, Nat.reduceAdd, rel, List.getD_cons_zero, List.getD_cons_succ] at hR
      obtain ⟨-, h15⟩ := hR
      simp only [h15]
      have hu := hS.1.out
      clear hS h15
      rw [hu]
      clear hu x1c x2c xA
      have L2 : Lb W1.drew g x := L1
      have A2 : Blk W1.drew A [.int .i64 0, .int .u64 0, .int .i64 0, .bool false, .slice none 0 0, .slice none 0 0] 44 := A1
      have e1 : Blk W1.drew k1 [.int .u8 0] 5 := b1
      have e2 : Blk W1.drew k2 [.int .u8 0] 5 := b2
      have e3 : Blk W1.drew k3 [.int .u8 0] 5 := b3
      have kt : Kp2 B g A w W1.drew := kp1.drew
      obtain ⟨W2, hW2⟩ := named W1.drew
      rw [← hW2.out] at L2 A2 e1 e2 e3 kt ⊢
      clear hW2 L1 A1 b1 b2 b3 kp1
      have hq := hb1 W2 k1 (by omega) (by omega) L2 e1
      go_wp2_with fail
      refine hq.mono ?_
      rintro e9 W3 ⟨rfl, L3, t1, u1p⟩
      replace t1 : Blk W3 k1 [.int .u8 (y.toNat : Int)] 5 := t1
      replace A2 := A2.kp2 u1p hne (by omega)
      replace e2 := e2.kp2 u1p (by omega) (by omega)
      replace e3 := e3.kp2 u1p (by omega) (by omega)
      replace kt := kt.step u1p (.inr (by omega))
      clear hq hb1 e1 L2 u1p
      go_wp2_with fail
      refine region_flatS _ (fun L u => Lb u g (cond (L 7) x2 x1) ∧ Blk u A (cond (L 7) [.int .i64 0, .int .u64 (n : Int), .int .i64 0, .bool false, .slice none 0 0, .slice none 0 0] [.int .i64 0, .int .u64 0, .int .i64 0, .bool false, .slice none 0 0, .slice none 0 0]) 44 ∧ (Kp2 B g A w u ∧ Blk u k1 [.int .u8 (y.toNat : Int)] 5 ∧ Blk u k2 [.int .u8 0] 5 ∧ Blk u k3 [.int .u8 0] 5)) (fun _ _ _ => True)
        (fun _ => rel [fun v _ => v = .iface 68 (.pointer (some ⟨g, 0, none⟩)),
          fun v _ => v = .pointer (some ⟨A, 0, none⟩),
          fun v _ => v = .pointer (some ⟨A, 0, none⟩),
          fun v _ => v = .pointer (some ⟨A, 1, none⟩),
          fun v _ => v = .func (Fn.method "lictor/wire.long") #[.iface 68 (.pointer (some ⟨g, 0, none⟩))] #[],
          fun v _ => v = .func (Fn.method "lictor/wire.long") #[.iface 68 (.pointer (some ⟨g, 0, none⟩))] #[],
          fun v _ => v = .iface 68 (.pointer (some ⟨g, 0, none⟩)),
          fun _ _ => True])
        (by kernel_rfl) (by kernel_rfl) (fun v => by simp only [putsV, Act.put, List.toList_toArray, List.setIfInBounds_toArray, List.set_cons_zero, List.set_cons_succ, Nat.reduceAdd, Nat.zero_add]; rfl) ?_ (fun _ _ _ _ _ h => h) ⟨L3, A2, kt.drew, t1, e2, e3⟩ ?_ (fun _ _ _ _ _ _ h => h) (fun L L' u hL h => by rw [← hL 7 (by decide)]; exact h) ?_
      · intro i L j x u u' _ _ hG h
        match j with
        | 0 => exact h
        | 1 => exact h
        | 2 => exact h
        | 3 => exact h
        | 4 => exact h
        | 5 => exact h
        | 6 => exact h
        | 7 => exact h
        | _ + 8 => trivial
      · refine ⟨?_, ?_, ?_, ?_, ?_, ?_, ?_, ?_, trivial⟩
        · intro L hL hcl v u hS hd K' hK
          simp only [waited, List.toList_toArray, Region.binds, rel, List.getD_cons_zero, List.getD_cons_succ, true_imp_iff, and_true] at hd
          simp only [rel, List.getD_cons_zero, List.getD_cons_succ, Act.put, List.setIfInBounds_toArray, List.set_cons_zero, List.set_cons_succ] at hK
          try simp only [hd] at hK
          have hmf := make_func
          have hm := rm_long
          go_simp
          exact hK.out _ _ ⟨hS, trivial, rfl⟩
        · intro L hL hcl v u hS hd K' hK
          simp only [waited, List.toList_toArray, Region.binds, rel, List.getD_cons_zero, List.getD_cons_succ, true_imp_iff, and_true] at hd
          simp only [rel, List.getD_cons_zero, List.getD_cons_succ, Act.put, List.setIfInBounds_toArray, List.set_cons_zero, List.set_cons_succ] at hK
          try simp only [hd] at hK
          have hmf := make_func
          have hm := rm_long
          go_simp
          exact hK.out _ _ ⟨hS, trivial, rfl⟩
        · intro L hL hcl v u hS hd K' hK
          simp only [waited, List.toList_toArray, Region.binds, rel, List.getD_cons_zero, List.getD_cons_succ, true_imp_iff, and_true] at hd
          simp only [rel, List.getD_cons_zero, List.getD_cons_succ, Act.put, List.setIfInBounds_toArray, List.set_cons_zero, List.set_cons_succ] at hK
          try simp only [hd] at hK
          have hmf := make_func
          have hm := rm_long
          go_simp
          exact hK.out _ _ ⟨hS, trivial, rfl⟩
        · intro L hL hcl v u hS hd K' hK
          simp only [waited, List.toList_toArray, Region.binds, rel, List.getD_cons_zero, List.getD_cons_succ, true_imp_iff, and_true] at hd
          simp only [rel, List.getD_cons_zero, List.getD_cons_succ, Act.put, List.setIfInBounds_toArray, List.set_cons_zero, List.set_cons_succ] at hK
          try simp only [hd] at hK
          have hmf := make_func
          have hm := rm_long
          go_simp
          exact hK.out _ _ ⟨hS, trivial, rfl⟩
        · intro L hL hcl v u hS hd K' hK
          simp only [waited, List.toList_toArray, Region.binds, rel, List.getD_cons_zero, List.getD_cons_succ, true_imp_iff, and_true] at hd
          simp only [rel, List.getD_cons_zero, List.getD_cons_succ, Act.put, List.setIfInBounds_toArray, List.set_cons_zero, List.set_cons_succ] at hK
          try simp only [hd] at hK
          have hmf := make_func
          have hm := rm_long
          go_simp
          exact hK.out _ _ ⟨hS, trivial, rfl⟩
        · intro L hL hcl v u hS hd K' hK
          simp only [waited, List.toList_toArray, Region.binds, rel, List.getD_cons_zero, List.getD_cons_succ, true_imp_iff, and_true] at hd
          simp only [rel, List.getD_cons_zero, List.getD_cons_succ, Act.put, List.setIfInBounds_toArray, List.set_cons_zero, List.set_cons_succ] at hK
          try simp only [hd] at hK
          have hmf := make_func
          have hm := rm_long
          go_simp
          exact hK.out _ _ ⟨hS, trivial, rfl⟩
        · intro L hL hcl v u hS hd K' hK
          simp only [waited, List.toList_toArray, Region.binds, rel, List.getD_cons_zero, List.getD_cons_succ, true_imp_iff, and_true] at hd
          simp only [rel, List.getD_cons_zero, List.getD_cons_succ, Act.put, List.setIfInBounds_toArray, List.set_cons_zero, List.set_cons_succ] at hK
          try simp only [hd] at hK
          have hmf := make_func
          have hm := rm_long
          go_simp
          exact hK.out _ _ ⟨hS, trivial, rfl⟩
        · intro L hL hcl v u hS hd K' hK
          simp only [waited, List.toList_toArray, Region.binds, rel, List.getD_cons_zero, List.getD_cons_succ, true_imp_iff, and_true] at hd
          simp only [rel, List.getD_cons_zero, List.getD_cons_succ, Act.put, List.setIfInBounds_toArray, List.set_cons_zero, List.set_cons_succ] at hK
          try simp only [hd] at hK
          have hmf := make_func
          have hm := rm_long
          obtain ⟨q1, q2, q3⟩ := hS
          rw [hL] at q1 q2
          have q1' : Lb u g x1 := q1
          have q2' : Blk u A [.int .i64 0, .int .u64 0, .int .i64 0, .bool false, .slice none 0 0, .slice none 0 0] 44 := q2
          go_simp
          refine (hlo u q1' q2').mono ?_
          rintro e9 w9 ⟨rfl, h6, h7, h8⟩
          exact hK.out _ _ ⟨⟨h6, h7, ⟨q3.1.step h8 (.inl rfl), q3.2.1.kp2 h8 (by omega) (by omega), q3.2.2.1.kp2 h8 (by omega) (by omega), q3.2.2.2.kp2 h8 (by omega) (by omega)⟩⟩, trivial, trivial⟩
      · rintro v u hS hR
        simp only [holdAll, List.size_toArray, List.length_cons, List.length_nil, Nat.reduceAdd, rel, List.getD_cons_zero, List.getD_cons_succ] at hR
        clear hR
        obtain ⟨q1, q2, q3, q4, q5, q6⟩ := hS
        replace q1 : Lb u g x2 := q1
        replace q2 : Blk u A [.int .i64 0, .int .u64 (n : Int), .int .i64 0, .bool false, .slice none 0 0, .slice none 0 0] 44 := q2
        clear L3 A2 t1 e2 e3 kt hlo
        have A2 := q2
        have kt := q3
        have t1 := q4
        have e2 := q5
        have e3 := q6
        clear q2 q3 q4 q5 q6
        obtain ⟨W4, hW4⟩ := named u
        rw [← hW4.out] at q1 A2 kt t1 e2 e3 ⊢
        clear hW4
        have hq := hb2 W4 k2 (by omega) (by omega) q1 e2
        go_wp2_with fail
        refine hq.mono ?_
        rintro e9 W5 ⟨rfl, L5, t2, u2p⟩
        replace t2 : Blk W5 k2 [.int .u8 (p.toNat : Int)] 5 := t2
        replace A2 := A2.kp2 u2p hne (by omega)
        replace t1 := t1.kp2 u2p (by omega) (by omega)
        replace e3 := e3.kp2 u2p (by omega) (by omega)
        replace kt := kt.step u2p (.inr (by omega))
        clear hq hb2 e2 q1 u2p
        have hq := hb3 W5 k3 (by omega) (by omega) L5 e3
        go_wp2_with fail
        refine hq.mono ?_
        rintro e9 W6 ⟨rfl, L6, t3, u3p⟩
        replace t3 : Blk W6 k3 [.int .u8 (f.toNat : Int)] 5 := t3
        replace A2 := A2.kp2 u3p hne (by omega)
        replace t1 := t1.kp2 u3p (by omega) (by omega)
        replace t2 := t2.kp2 u3p (by omega) (by omega)
        replace kt := kt.step u3p (.inr (by omega))
        clear hq hb3 e3 L5 u3p
        have xK := t3.cell
        go_upto_if 55 with fail
        clear xK
        go_cut [] (fun wx => Lb wx g Y5 ∧ Blk wx A [.int .i64 0, .int .u64 (n : Int), .int .i64 0, .bool false, .slice none 0 0, .slice none 0 0] 44 ∧ Blk wx k1 [.int .u8 (y.toNat : Int)] 5 ∧ Blk wx k2 [.int .u8 (p.toNat : Int)] 5 ∧ Blk wx k3 [.int .u8 (f.toNat : Int)] 5 ∧ Kp2 B g A w wx)
        case first =>
          by_cases hff : 1 < f.toNat
          · have hff1 : (1 : Int) < (f.toNat : Int) := by omega
            have hff2 : decide ((1 : Int) < (f.toNat : Int)) = true := by simpa using hff1
            have hff3 : decide (1 < f.toNat) = true := by simpa using hff
            have hf9 := rfail_w L6
            clear hfd
            go_wp2_with fail
            refine hf9.mono ?_
            rintro e9 w9 ⟨rfl, L7, kp9⟩
            have HQ : Hid (Y5 = ⟨x4.l, true⟩) := hide (by rw [HFL.out, hff3, Bool.or_true])
            clear hff hff1 hff2 hff3 hf9
            go_wp2
            go_meet
            case rel => exact ⟨by rw [HQ.out]; exact L7, A2.kp kp9 hne, t1.kp kp9 (by omega), t2.kp kp9 (by omega), t3.kp kp9 (by omega), kt.trans (kp9.two hg)⟩
          · have hff1 : ¬ (1 : Int) < (f.toNat : Int) := by omega
            have hff2 : decide ((1 : Int) < (f.toNat : Int)) = false := by simpa using hff1
            have hff3 : decide (1 < f.toNat) = false := by simpa using hff
            have HQ : Hid (Y5 = x4) := hide (by rw [HFL.out, hff3, Bool.or_false])
            clear hfd hff hff3
            go_wp2
            go_meet
            case rel => exact ⟨by rw [HQ.out]; exact L6, A2, t1, t2, t3, kt⟩
        case rest =>
          clear L6 A2 t1 t2 t3 kt hfd
          obtain ⟨L7, A2, t1, t2, t3, kt⟩ := hcut
          have x1c := t1.cell
          have x2c := t2.cell
          have x3c := t3.cell
          have xA := A2.cell
          have fA := A2.free
          have A8 := (((A2.set 0 (.int .i64 (y.toNat : Int))).set 2 (.int .i64 (p.toNat : Int))).set 3 (.bool (f == 1)))
          have L8 : Lb (((wc.setCell ⟨A, 0, none⟩ (.int .i64 (y.toNat : Int))).setCell ⟨A, 2, none⟩ (.int .i64 (p.toNat : Int))).setCell ⟨A, 3, none⟩ (.bool (f == 1))) g Y5 := (Blk.far (Blk.far (Blk.far L7 (p := ⟨A, 0, none⟩) (by show g ≠ A; omega) (.int .i64 (y.toNat : Int))) (p := ⟨A, 2, none⟩) (by show g ≠ A; omega) (.int .i64 (p.toNat : Int))) (p := ⟨A, 3, none⟩) (by show g ≠ A; omega) (.bool (f == 1)))
          have K8 := (((kt.set hA 0 (.int .i64 (y.toNat : Int))).set hA 2 (.int .i64 (p.toNat : Int))).set hA 3 (.bool (f == 1)))
          go_upto_region 12 with fail
          obtain ⟨W8, hW8⟩ := named (((wc.setCell ⟨A, 0, none⟩ (.int .i64 (y.toNat : Int))).setCell ⟨A, 2, none⟩ (.int .i64 (p.toNat : Int))).setCell ⟨A, 3, none⟩ (.bool (f == 1)))
          rw [← hW8.out] at A8 L8 K8
          rw [show (((wc.setCell ⟨A, 0, none⟩ (.int .i64 (y.toNat : Int))).setCell ⟨A, 2, none⟩ (.int .i64 (p.toNat : Int))).setCell ⟨A, 3, none⟩ (.bool (f == 1))) = W8 from hW8.out.symm]
          clear hW8 x1c x2c x3c xA fA A2 L7 kt t1 t2 t3 hf1 hy64 hp64
          replace A8 : Blk W8 A [.int .i64 (y.toNat : Int), .int .u64 (n : Int), .int .i64 (p.toNat : Int), .bool (f == 1), .slice none 0 0, .slice none 0 0] 44 := A8
          have hsz8 := K8.size
          have ht1 := rtexts_w (o := 4) hg hA hne L8 l5 A8 rfl
          go_wp2_with fail
          refine ht1.mono ?_
          rintro e9 W9 ⟨rfl, L9, ⟨v1, A9, R9⟩, kp9⟩
          replace A9 : Blk W9 A [.int .i64 (y.toNat : Int), .int .u64 (n : Int), .int .i64 (p.toNat : Int), .bool (f == 1), v1, .slice none 0 0] 44 := A9
          have K9 := K8.trans kp9
          replace R9 := R9.base hsz8
          have hsz9 := K9.size
          clear ht1 L8 A8 K8 kp9 hsz8
          have ht2 := rtexts_w (o := 5) hg hA hne L9 l6 A9 rfl
          go_wp2_with fail
          refine ht2.mono ?_
          rintro e9 W10 ⟨rfl, L10, ⟨v2, A10, R10⟩, kp10⟩
          replace A10 : Blk W10 A [.int .i64 (y.toNat : Int), .int .u64 (n : Int), .int .i64 (p.toNat : Int), .bool (f == 1), v1, v2] 44 := A10
          have K10 := K9.trans kp10
          replace R10 := R10.base hsz9
          replace R9 := R9.kp2 hgl hAl kp10
          clear ht2 L9 A9 K9 kp10 hsz9
          go_wp2
          go_end0
          rw [HPL.out]
          exact ⟨rfl, L10, ⟨v1, v2, A10, R9, R10⟩, K10⟩
end Go.Proofs.Ytiodfbbgbnbdpaa
