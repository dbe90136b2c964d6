/- record.Head. -/
import Derived.Test.YtpfbmmeipojodaaRecSectors
import Derived.Test.YtpfbmmeipojodaaGE
namespace Go.Proofs.Ytpfbmmeipojodaa
set_option linter.unusedSimpArgs false
set_option linter.unusedVariables false
open Go.RowKit Go.Shelf
open Crc
/-- Where a head's numbers stand. -/
def atL (l : List UInt8) (a n : Nat) : Nat := getL ((l.drop a).take n)
def zeroHead : Value := .agg #[.int .u8 0, .int .u64 0, .int .u64 0, .int .i64 0, .int .u32 0]
def headVal (l : List UInt8) : Value := .agg #[.int .u8 ((l.getD 1 0).toNat : Int), .int .u64 (atL l 2 8 : Int), .int .u64 (atL l 10 8 : Int), .int .i64 (atL l 18 4 : Int), .int .u32 (atL l 22 4 : Int)]
structure HeadOk (l : List UInt8) : Prop where
  size : l.length = 64
  mark : l.getD 0 0 = 72
  kind : l.getD 1 0 ≠ 0
  rest : l.drop 30 = List.replicate 34 0
  own : atL l 26 4 = crcOf (l.take 26)
  len : atL l 18 4 ≤ 16384
theorem blk_head (w : World) : Blk (w.alloc (.cells #[.int .u8 0, .int .u64 0, .int .u64 0, .int .i64 0, .int .u32 0] 87)) w.heap.size [.int .u8 0, .int .u64 0, .int .u64 0, .int .i64 0, .int .u32 0] 87 := Blk.new _ _ _
theorem below5 {N : Nat} {w0 w : World} {X : Nat} (h : Below N w0 w) (hX : N ≤ X) (a b c d e : Value) : Below N w0 (((((w.setCell ⟨X, 0, none⟩ a).setCell ⟨X, 1, none⟩ b).setCell ⟨X, 2, none⟩ c).setCell ⟨X, 3, none⟩ d).setCell ⟨X, 4, none⟩ e) :=
  ((((h.setCell (p := ⟨X, 0, none⟩) hX _).setCell (p := ⟨X, 1, none⟩) hX _).setCell (p := ⟨X, 2, none⟩) hX _).setCell (p := ⟨X, 3, none⟩) hX _).setCell (p := ⟨X, 4, none⟩) hX _
theorem wrap_i64_nat' (n : Nat) (h : n < 9223372036854775808) : IntKind.i64.wrap (n : Int) = n := by simp [IntKind.wrap, IntKind.bits, IntKind.signed]; omega
theorem text_ne' (a b : ByteArray) : (a.toList != b.toList) = !(decide (a = b)) := by
  by_cases h : a = b
  · subst h; simp
  · have : a.toList ≠ b.toList := fun e => h (by
      rw [ByteArray.toList_eq, ByteArray.toList_eq] at e
      have := Array.toList_inj.1 e
      cases a; cases b; simp_all)
    simp [h, this]
set_option maxHeartbeats 4000000 in
set_option maxRecDepth 100000 in
theorem recHead_A (s : ByteArray) (w : World) (h : s.size ≠ 64) :
    Calls Try.prog 56 #[.string s] w fun e w' => e = .returned (.tuple #[zeroHead, .int .i64 14]) ∧ Below w.heap.size w w' := by
  have hne : ((s.size : Int) != 64) = true := by simp; omega
  have hK := blk_head w
  have hb := below_alloc w (.cells #[.int .u8 0, .int .u64 0, .int .u64 0, .int .i64 0, .int .u32 0] 87)
  go_enter Try.func56, Try.ntmps56
  go_wp2_with fail
  obtain ⟨W, HW⟩ := named (w.alloc (.cells #[.int .u8 0, .int .u64 0, .int .u64 0, .int .i64 0, .int .u32 0] 87))
  rw [← HW.out] at hK hb ⊢
  clear HW
  refine region_flat _ (fun u => Below W.heap.size W u) (fun u u' => Below u.heap.size u u')
    (rel [fun v _ => v = .string s,
      fun v _ => v = .int .i64 (s.size : Int),
      fun v _ => v = .bool true,
      fun v _ => v = .bool true,
      fun v _ => v = undef,
      fun v _ => v = undef,
      fun v _ => v = undef,
      fun v _ => v = .bool true,
      fun v _ => v = .bool true,
      fun v _ => v = undef,
      fun v _ => v = undef,
      fun v _ => v = undef,
      fun v _ => v = .bool true,
      fun v _ => v = .bool true,
      fun v _ => v = undef,
      fun v _ => v = undef,
      fun v _ => v = undef,
      fun v _ => v = undef,
      fun v _ => v = undef,
      fun v _ => v = .bool true])
    (by kernel_rfl) (by kernel_rfl) (fun v => by simp only [putsV, Act.put, List.toList_toArray, List.setIfInBounds_toArray, List.set_cons_zero, List.set_cons_succ, Nat.reduceAdd, Nat.zero_add]; rfl) ?_ (Below.refl _ _).drew ?_ ?_
  · intro j x u u' hb h
    match j with
    | 0 => exact h
    | 1 => exact h
    | 2 => exact h
    | 3 => exact h
    | 4 => exact h
    | 5 => exact h
    | 6 => exact h
    | 7 => exact h
    | 8 => exact h
    | 9 => exact h
    | 10 => exact h
    | 11 => exact h
    | 12 => exact h
    | 13 => exact h
    | 14 => exact h
    | 15 => exact h
    | 16 => exact h
    | 17 => exact h
    | 18 => exact h
    | 19 => exact h
    | _ + 20 => trivial
  · refine ⟨?_, ?_, ?_, ?_, ?_, ?_, ?_, ?_, ?_, ?_, ?_, ?_, ?_, ?_, ?_, ?_, ?_, ?_, ?_, ?_, trivial⟩
    · intro v u hS hd K' hK
      simp only [waited, List.toList_toArray, Region.binds, rel, List.getD_cons_zero, List.getD_cons_succ, true_imp_iff, and_true] at hd
      simp only [rel, List.getD_cons_zero, List.getD_cons_succ, Act.put, List.setIfInBounds_toArray, List.set_cons_zero, List.set_cons_succ] at hK
      try simp only [hd] at hK
      have hS1 := hS
      go_simp
      exact hK.out _ _ ⟨hS1, Below.refl _ _, rfl⟩
    · intro v u hS hd K' hK
      simp only [waited, List.toList_toArray, Region.binds, rel, List.getD_cons_zero, List.getD_cons_succ, true_imp_iff, and_true] at hd
      simp only [rel, List.getD_cons_zero, List.getD_cons_succ, Act.put, List.setIfInBounds_toArray, List.set_cons_zero, List.set_cons_succ] at hK
      try simp only [hd] at hK
      have hS1 := hS
      go_simp
      exact hK.out _ _ ⟨hS1, Below.refl _ _, rfl⟩
    · intro v u hS hd K' hK
      simp only [waited, List.toList_toArray, Region.binds, rel, List.getD_cons_zero, List.getD_cons_succ, true_imp_iff, and_true] at hd
      simp only [rel, List.getD_cons_zero, List.getD_cons_succ, Act.put, List.setIfInBounds_toArray, List.set_cons_zero, List.set_cons_succ] at hK
      try simp only [hd] at hK
      have hS1 := hS
      go_simp
      exact hK.out _ _ ⟨hS1, Below.refl _ _, rfl⟩
    · intro v u hS hd K' hK
      simp only [waited, List.toList_toArray, Region.binds, rel, List.getD_cons_zero, List.getD_cons_succ, true_imp_iff, and_true] at hd
      simp only [rel, List.getD_cons_zero, List.getD_cons_succ, Act.put, List.setIfInBounds_toArray, List.set_cons_zero, List.set_cons_succ] at hK
      try simp only [hd] at hK
      have hS1 := hS
      go_simp
      exact hK.out _ _ ⟨hS1, Below.refl _ _, rfl⟩
    · intro v u hS hd K' hK
      simp only [waited, List.toList_toArray, Region.binds, rel, List.getD_cons_zero, List.getD_cons_succ, true_imp_iff, and_true] at hd
      simp only [rel, List.getD_cons_zero, List.getD_cons_succ, Act.put, List.setIfInBounds_toArray, List.set_cons_zero, List.set_cons_succ] at hK
      try simp only [hd] at hK
      have hS1 := hS
      go_simp
      exact hK.out _ _ ⟨hS1, Below.refl _ _, rfl⟩
    · intro v u hS hd K' hK
      simp only [waited, List.toList_toArray, Region.binds, rel, List.getD_cons_zero, List.getD_cons_succ, true_imp_iff, and_true] at hd
      simp only [rel, List.getD_cons_zero, List.getD_cons_succ, Act.put, List.setIfInBounds_toArray, List.set_cons_zero, List.set_cons_succ] at hK
      try simp only [hd] at hK
      have hS1 := hS
      go_simp
      exact hK.out _ _ ⟨hS1, Below.refl _ _, rfl⟩
    · intro v u hS hd K' hK
      simp only [waited, List.toList_toArray, Region.binds, rel, List.getD_cons_zero, List.getD_cons_succ, true_imp_iff, and_true] at hd
      simp only [rel, List.getD_cons_zero, List.getD_cons_succ, Act.put, List.setIfInBounds_toArray, List.set_cons_zero, List.set_cons_succ] at hK
      try simp only [hd] at hK
      have hS1 := hS
      go_simp
      exact hK.out _ _ ⟨hS1, Below.refl _ _, rfl⟩
    · intro v u hS hd K' hK
      simp only [waited, List.toList_toArray, Region.binds, rel, List.getD_cons_zero, List.getD_cons_succ, true_imp_iff, and_true] at hd
      simp only [rel, List.getD_cons_zero, List.getD_cons_succ, Act.put, List.setIfInBounds_toArray, List.set_cons_zero, List.set_cons_succ] at hK
      try simp only [hd] at hK
      have hS1 := hS
      go_simp
      exact hK.out _ _ ⟨hS1, Below.refl _ _, rfl⟩
    · intro v u hS hd K' hK
      simp only [waited, List.toList_toArray, Region.binds, rel, List.getD_cons_zero, List.getD_cons_succ, true_imp_iff, and_true] at hd
      simp only [rel, List.getD_cons_zero, List.getD_cons_succ, Act.put, List.setIfInBounds_toArray, List.set_cons_zero, List.set_cons_succ] at hK
      try simp only [hd] at hK
      have hS1 := hS
      go_simp
      exact hK.out _ _ ⟨hS1, Below.refl _ _, rfl⟩
    · intro v u hS hd K' hK
      simp only [waited, List.toList_toArray, Region.binds, rel, List.getD_cons_zero, List.getD_cons_succ, true_imp_iff, and_true] at hd
      simp only [rel, List.getD_cons_zero, List.getD_cons_succ, Act.put, List.setIfInBounds_toArray, List.set_cons_zero, List.set_cons_succ] at hK
      try simp only [hd] at hK
      have hS1 := hS
      go_simp
      exact hK.out _ _ ⟨hS1, Below.refl _ _, rfl⟩
    · intro v u hS hd K' hK
      simp only [waited, List.toList_toArray, Region.binds, rel, List.getD_cons_zero, List.getD_cons_succ, true_imp_iff, and_true] at hd
      simp only [rel, List.getD_cons_zero, List.getD_cons_succ, Act.put, List.setIfInBounds_toArray, List.set_cons_zero, List.set_cons_succ] at hK
      try simp only [hd] at hK
      have hS1 := hS
      go_simp
      exact hK.out _ _ ⟨hS1, Below.refl _ _, rfl⟩
    · intro v u hS hd K' hK
      simp only [waited, List.toList_toArray, Region.binds, rel, List.getD_cons_zero, List.getD_cons_succ, true_imp_iff, and_true] at hd
      simp only [rel, List.getD_cons_zero, List.getD_cons_succ, Act.put, List.setIfInBounds_toArray, List.set_cons_zero, List.set_cons_succ] at hK
      try simp only [hd] at hK
      have hS1 := hS
      go_simp
      exact hK.out _ _ ⟨hS1, Below.refl _ _, rfl⟩
    · intro v u hS hd K' hK
      simp only [waited, List.toList_toArray, Region.binds, rel, List.getD_cons_zero, List.getD_cons_succ, true_imp_iff, and_true] at hd
      simp only [rel, List.getD_cons_zero, List.getD_cons_succ, Act.put, List.setIfInBounds_toArray, List.set_cons_zero, List.set_cons_succ] at hK
      try simp only [hd] at hK
      have hS1 := hS
      go_simp
      exact hK.out _ _ ⟨hS1, Below.refl _ _, rfl⟩
    · intro v u hS hd K' hK
      simp only [waited, List.toList_toArray, Region.binds, rel, List.getD_cons_zero, List.getD_cons_succ, true_imp_iff, and_true] at hd
      simp only [rel, List.getD_cons_zero, List.getD_cons_succ, Act.put, List.setIfInBounds_toArray, List.set_cons_zero, List.set_cons_succ] at hK
      try simp only [hd] at hK
      have hS1 := hS
      go_simp
      exact hK.out _ _ ⟨hS1, Below.refl _ _, rfl⟩
    · intro v u hS hd K' hK
      simp only [waited, List.toList_toArray, Region.binds, rel, List.getD_cons_zero, List.getD_cons_succ, true_imp_iff, and_true] at hd
      simp only [rel, List.getD_cons_zero, List.getD_cons_succ, Act.put, List.setIfInBounds_toArray, List.set_cons_zero, List.set_cons_succ] at hK
      try simp only [hd] at hK
      have hS1 := hS
      go_simp
      exact hK.out _ _ ⟨hS1, Below.refl _ _, rfl⟩
    · intro v u hS hd K' hK
      simp only [waited, List.toList_toArray, Region.binds, rel, List.getD_cons_zero, List.getD_cons_succ, true_imp_iff, and_true] at hd
      simp only [rel, List.getD_cons_zero, List.getD_cons_succ, Act.put, List.setIfInBounds_toArray, List.set_cons_zero, List.set_cons_succ] at hK
      try simp only [hd] at hK
      have hS1 := hS
      go_simp
      exact hK.out _ _ ⟨hS1, Below.refl _ _, rfl⟩
    · intro v u hS hd K' hK
      simp only [waited, List.toList_toArray, Region.binds, rel, List.getD_cons_zero, List.getD_cons_succ, true_imp_iff, and_true] at hd
      simp only [rel, List.getD_cons_zero, List.getD_cons_succ, Act.put, List.setIfInBounds_toArray, List.set_cons_zero, List.set_cons_succ] at hK
      try simp only [hd] at hK
      have hS1 := hS
      go_simp
      exact hK.out _ _ ⟨hS1, Below.refl _ _, rfl⟩
    · intro v u hS hd K' hK
      simp only [waited, List.toList_toArray, Region.binds, rel, List.getD_cons_zero, List.getD_cons_succ, true_imp_iff, and_true] at hd
      simp only [rel, List.getD_cons_zero, List.getD_cons_succ, Act.put, List.setIfInBounds_toArray, List.set_cons_zero, List.set_cons_succ] at hK
      try simp only [hd] at hK
      have hS1 := hS
      go_simp
      exact hK.out _ _ ⟨hS1, Below.refl _ _, rfl⟩
    · intro v u hS hd K' hK
      simp only [waited, List.toList_toArray, Region.binds, rel, List.getD_cons_zero, List.getD_cons_succ, true_imp_iff, and_true] at hd
      simp only [rel, List.getD_cons_zero, List.getD_cons_succ, Act.put, List.setIfInBounds_toArray, List.set_cons_zero, List.set_cons_succ] at hK
      try simp only [hd] at hK
      have hS1 := hS
      go_simp
      exact hK.out _ _ ⟨hS1, Below.refl _ _, rfl⟩
    · intro v u hS hd K' hK
      simp only [waited, List.toList_toArray, Region.binds, rel, List.getD_cons_zero, List.getD_cons_succ, true_imp_iff, and_true] at hd
      simp only [rel, List.getD_cons_zero, List.getD_cons_succ, Act.put, List.setIfInBounds_toArray, List.set_cons_zero, List.set_cons_succ] at hK
      try simp only [hd] at hK
      have hS1 := hS
      go_simp
      exact hK.out _ _ ⟨hS1, Below.refl _ _, rfl⟩
  · rintro v u hS1 hR
    simp only [holdAll, List.size_toArray, List.length_cons, List.length_nil, Nat.reduceAdd, rel, List.getD_cons_zero, List.getD_cons_succ] at hR
    obtain ⟨_, h19⟩ := hR
    simp only [h19]
    clear h19
    have kk := hK.below hS1
    have bb := bt hb hS1
    clear hK hb hS1
    have r0 := kk.cell 0
    have r1 := kk.cell 1
    have r2 := kk.cell 2
    have r3 := kk.cell 3
    have r4 := kk.cell 4
    have z0 := kk.free 0
    have z1 := kk.free 1
    have z2 := kk.free 2
    have z3 := kk.free 3
    have z4 := kk.free 4
    go_wp2
    refine bodyPost_ret (v := .tuple #[.agg #[.int .u8 0, .int .u64 0, .int .u64 0, .int .i64 0, .int .u32 0], .int .i64 14]) (by simp [results, Try.results56, go_sem, r0, r1, r2, r3, r4]) rfl ?_
    exact ⟨rfl, below5 bb (Nat.le_refl _) (.int .u8 0) (.int .u64 0) (.int .u64 0) (.int .i64 0) (.int .u32 0)⟩
set_option maxHeartbeats 4000000 in
set_option maxRecDepth 100000 in
theorem recHead_B (s : ByteArray) (w : World) (h : s.size = 64) (h0 : s.data.toList.getD 0 0 ≠ 72) :
    Calls Try.prog 56 #[.string s] w fun e w' => e = .returned (.tuple #[zeroHead, .int .i64 14]) ∧ Below w.heap.size w w' := by
  have hne : ((s.size : Int) != 64) = false := by simp; omega
  have hl : s.data.toList.length = s.size := Array.length_toList
  have hsz : (0 : Int) < (s.size : Int) := by omega
  have hsz1 : (1 : Int) < (s.size : Int) := by omega
  have hsz30 : (30 : Int) ≤ (s.size : Int) := by omega
  have hszn : 0 < s.size := by omega
  have hszn1 : 1 < s.size := by omega
  obtain ⟨s0, e0⟩ : ∃ x, s[0] = x := ⟨_, rfl⟩
  obtain ⟨s1, e1⟩ : ∃ x, s[1] = x := ⟨_, rfl⟩
  have g0 : s.data.toList.getD 0 0 = s0 := by rw [← e0, List.getD_eq_getElem?_getD, List.getElem?_eq_getElem (by omega)]; rfl
  have g1 : s.data.toList.getD 1 0 = s1 := by rw [← e1, List.getD_eq_getElem?_getD, List.getElem?_eq_getElem (by omega)]; rfl
  have hb0 : ((s0.toNat : Int) != 72) = true := by
    have : s0.toNat ≠ 72 := fun e => h0 (by rw [g0]; exact UInt8.toNat_inj.1 e)
    simp; omega
  clear h0 g0 g1 hl h
  have hK := blk_head w
  have hb := below_alloc w (.cells #[.int .u8 0, .int .u64 0, .int .u64 0, .int .i64 0, .int .u32 0] 87)
  go_enter Try.func56, Try.ntmps56
  go_wp2_with fail
  obtain ⟨W, HW⟩ := named (w.alloc (.cells #[.int .u8 0, .int .u64 0, .int .u64 0, .int .i64 0, .int .u32 0] 87))
  rw [← HW.out] at hK hb ⊢
  clear HW
  refine region_flat _ (fun u => Below W.heap.size W u) (fun u u' => Below u.heap.size u u')
    (rel [fun v _ => v = .string s,
      fun v _ => v = .int .i64 (s.size : Int),
      fun v _ => v = .bool false,
      fun v _ => v = .bool false,
      fun v _ => v = .string s,
      fun v _ => v = .int .u8 (s0.toNat : Int),
      fun v _ => v = .bool true,
      fun v _ => v = .bool true,
      fun v _ => v = .bool true,
      fun v _ => v = undef,
      fun v _ => v = undef,
      fun v _ => v = undef,
      fun v _ => v = .bool true,
      fun v _ => v = .bool true,
      fun v _ => v = undef,
      fun v _ => v = undef,
      fun v _ => v = undef,
      fun v _ => v = undef,
      fun v _ => v = undef,
      fun v _ => v = .bool true])
    (by kernel_rfl) (by kernel_rfl) (fun v => by simp only [putsV, Act.put, List.toList_toArray, List.setIfInBounds_toArray, List.set_cons_zero, List.set_cons_succ, Nat.reduceAdd, Nat.zero_add]; rfl) ?_ (Below.refl _ _).drew ?_ ?_
  · intro j x u u' hb h
    match j with
    | 0 => exact h
    | 1 => exact h
    | 2 => exact h
    | 3 => exact h
    | 4 => exact h
    | 5 => exact h
    | 6 => exact h
    | 7 => exact h
    | 8 => exact h
    | 9 => exact h
    | 10 => exact h
    | 11 => exact h
    | 12 => exact h
    | 13 => exact h
    | 14 => exact h
    | 15 => exact h
    | 16 => exact h
    | 17 => exact h
    | 18 => exact h
    | 19 => exact h
    | _ + 20 => trivial
  · refine ⟨?_, ?_, ?_, ?_, ?_, ?_, ?_, ?_, ?_, ?_, ?_, ?_, ?_, ?_, ?_, ?_, ?_, ?_, ?_, ?_, trivial⟩
    · intro v u hS hd K' hK
      simp only [waited, List.toList_toArray, Region.binds, rel, List.getD_cons_zero, List.getD_cons_succ, true_imp_iff, and_true] at hd
      simp only [rel, List.getD_cons_zero, List.getD_cons_succ, Act.put, List.setIfInBounds_toArray, List.set_cons_zero, List.set_cons_succ] at hK
      try simp only [hd] at hK
      have hS1 := hS
      go_simp
      exact hK.out _ _ ⟨hS1, Below.refl _ _, rfl⟩
    · intro v u hS hd K' hK
      simp only [waited, List.toList_toArray, Region.binds, rel, List.getD_cons_zero, List.getD_cons_succ, true_imp_iff, and_true] at hd
      simp only [rel, List.getD_cons_zero, List.getD_cons_succ, Act.put, List.setIfInBounds_toArray, List.set_cons_zero, List.set_cons_succ] at hK
      try simp only [hd] at hK
      have hS1 := hS
      go_simp
      exact hK.out _ _ ⟨hS1, Below.refl _ _, rfl⟩
    · intro v u hS hd K' hK
      simp only [waited, List.toList_toArray, Region.binds, rel, List.getD_cons_zero, List.getD_cons_succ, true_imp_iff, and_true] at hd
      simp only [rel, List.getD_cons_zero, List.getD_cons_succ, Act.put, List.setIfInBounds_toArray, List.set_cons_zero, List.set_cons_succ] at hK
      try simp only [hd] at hK
      have hS1 := hS
      go_simp
      exact hK.out _ _ ⟨hS1, Below.refl _ _, rfl⟩
    · intro v u hS hd K' hK
      simp only [waited, List.toList_toArray, Region.binds, rel, List.getD_cons_zero, List.getD_cons_succ, true_imp_iff, and_true] at hd
      simp only [rel, List.getD_cons_zero, List.getD_cons_succ, Act.put, List.setIfInBounds_toArray, List.set_cons_zero, List.set_cons_succ] at hK
      try simp only [hd] at hK
      have hS1 := hS
      go_simp
      exact hK.out _ _ ⟨hS1, Below.refl _ _, rfl⟩
    · intro v u hS hd K' hK
      simp only [waited, List.toList_toArray, Region.binds, rel, List.getD_cons_zero, List.getD_cons_succ, true_imp_iff, and_true] at hd
      simp only [rel, List.getD_cons_zero, List.getD_cons_succ, Act.put, List.setIfInBounds_toArray, List.set_cons_zero, List.set_cons_succ] at hK
      try simp only [hd] at hK
      have hS1 := hS
      go_simp
      exact hK.out _ _ ⟨hS1, Below.refl _ _, rfl⟩
    · intro v u hS hd K' hK
      simp only [waited, List.toList_toArray, Region.binds, rel, List.getD_cons_zero, List.getD_cons_succ, true_imp_iff, and_true] at hd
      simp only [rel, List.getD_cons_zero, List.getD_cons_succ, Act.put, List.setIfInBounds_toArray, List.set_cons_zero, List.set_cons_succ] at hK
      try simp only [hd] at hK
      have hS1 := hS
      go_simp
      exact hK.out _ _ ⟨hS1, Below.refl _ _, rfl⟩
    · intro v u hS hd K' hK
      simp only [waited, List.toList_toArray, Region.binds, rel, List.getD_cons_zero, List.getD_cons_succ, true_imp_iff, and_true] at hd
      simp only [rel, List.getD_cons_zero, List.getD_cons_succ, Act.put, List.setIfInBounds_toArray, List.set_cons_zero, List.set_cons_succ] at hK
      try simp only [hd] at hK
      have hS1 := hS
      go_simp
      exact hK.out _ _ ⟨hS1, Below.refl _ _, rfl⟩
    · intro v u hS hd K' hK
      simp only [waited, List.toList_toArray, Region.binds, rel, List.getD_cons_zero, List.getD_cons_succ, true_imp_iff, and_true] at hd
      simp only [rel, List.getD_cons_zero, List.getD_cons_succ, Act.put, List.setIfInBounds_toArray, List.set_cons_zero, List.set_cons_succ] at hK
      try simp only [hd] at hK
      have hS1 := hS
      go_simp
      exact hK.out _ _ ⟨hS1, Below.refl _ _, rfl⟩
    · intro v u hS hd K' hK
      simp only [waited, List.toList_toArray, Region.binds, rel, List.getD_cons_zero, List.getD_cons_succ, true_imp_iff, and_true] at hd
      simp only [rel, List.getD_cons_zero, List.getD_cons_succ, Act.put, List.setIfInBounds_toArray, List.set_cons_zero, List.set_cons_succ] at hK
      try simp only [hd] at hK
      have hS1 := hS
      go_simp
      exact hK.out _ _ ⟨hS1, Below.refl _ _, rfl⟩
    · intro v u hS hd K' hK
      simp only [waited, List.toList_toArray, Region.binds, rel, List.getD_cons_zero, List.getD_cons_succ, true_imp_iff, and_true] at hd
      simp only [rel, List.getD_cons_zero, List.getD_cons_succ, Act.put, List.setIfInBounds_toArray, List.set_cons_zero, List.set_cons_succ] at hK
      try simp only [hd] at hK
      have hS1 := hS
      go_simp
      exact hK.out _ _ ⟨hS1, Below.refl _ _, rfl⟩
    · intro v u hS hd K' hK
      simp only [waited, List.toList_toArray, Region.binds, rel, List.getD_cons_zero, List.getD_cons_succ, true_imp_iff, and_true] at hd
      simp only [rel, List.getD_cons_zero, List.getD_cons_succ, Act.put, List.setIfInBounds_toArray, List.set_cons_zero, List.set_cons_succ] at hK
      try simp only [hd] at hK
      have hS1 := hS
      go_simp
      exact hK.out _ _ ⟨hS1, Below.refl _ _, rfl⟩
    · intro v u hS hd K' hK
      simp only [waited, List.toList_toArray, Region.binds, rel, List.getD_cons_zero, List.getD_cons_succ, true_imp_iff, and_true] at hd
      simp only [rel, List.getD_cons_zero, List.getD_cons_succ, Act.put, List.setIfInBounds_toArray, List.set_cons_zero, List.set_cons_succ] at hK
      try simp only [hd] at hK
      have hS1 := hS
      go_simp
      exact hK.out _ _ ⟨hS1, Below.refl _ _, rfl⟩
    · intro v u hS hd K' hK
      simp only [waited, List.toList_toArray, Region.binds, rel, List.getD_cons_zero, List.getD_cons_succ, true_imp_iff, and_true] at hd
      simp only [rel, List.getD_cons_zero, List.getD_cons_succ, Act.put, List.setIfInBounds_toArray, List.set_cons_zero, List.set_cons_succ] at hK
      try simp only [hd] at hK
      have hS1 := hS
      go_simp
      exact hK.out _ _ ⟨hS1, Below.refl _ _, rfl⟩
    · intro v u hS hd K' hK
      simp only [waited, List.toList_toArray, Region.binds, rel, List.getD_cons_zero, List.getD_cons_succ, true_imp_iff, and_true] at hd
      simp only [rel, List.getD_cons_zero, List.getD_cons_succ, Act.put, List.setIfInBounds_toArray, List.set_cons_zero, List.set_cons_succ] at hK
      try simp only [hd] at hK
      have hS1 := hS
      go_simp
      exact hK.out _ _ ⟨hS1, Below.refl _ _, rfl⟩
    · intro v u hS hd K' hK
      simp only [waited, List.toList_toArray, Region.binds, rel, List.getD_cons_zero, List.getD_cons_succ, true_imp_iff, and_true] at hd
      simp only [rel, List.getD_cons_zero, List.getD_cons_succ, Act.put, List.setIfInBounds_toArray, List.set_cons_zero, List.set_cons_succ] at hK
      try simp only [hd] at hK
      have hS1 := hS
      go_simp
      exact hK.out _ _ ⟨hS1, Below.refl _ _, rfl⟩
    · intro v u hS hd K' hK
      simp only [waited, List.toList_toArray, Region.binds, rel, List.getD_cons_zero, List.getD_cons_succ, true_imp_iff, and_true] at hd
      simp only [rel, List.getD_cons_zero, List.getD_cons_succ, Act.put, List.setIfInBounds_toArray, List.set_cons_zero, List.set_cons_succ] at hK
      try simp only [hd] at hK
      have hS1 := hS
      go_simp
      exact hK.out _ _ ⟨hS1, Below.refl _ _, rfl⟩
    · intro v u hS hd K' hK
      simp only [waited, List.toList_toArray, Region.binds, rel, List.getD_cons_zero, List.getD_cons_succ, true_imp_iff, and_true] at hd
      simp only [rel, List.getD_cons_zero, List.getD_cons_succ, Act.put, List.setIfInBounds_toArray, List.set_cons_zero, List.set_cons_succ] at hK
      try simp only [hd] at hK
      have hS1 := hS
      go_simp
      exact hK.out _ _ ⟨hS1, Below.refl _ _, rfl⟩
    · intro v u hS hd K' hK
      simp only [waited, List.toList_toArray, Region.binds, rel, List.getD_cons_zero, List.getD_cons_succ, true_imp_iff, and_true] at hd
      simp only [rel, List.getD_cons_zero, List.getD_cons_succ, Act.put, List.setIfInBounds_toArray, List.set_cons_zero, List.set_cons_succ] at hK
      try simp only [hd] at hK
      have hS1 := hS
      go_simp
      exact hK.out _ _ ⟨hS1, Below.refl _ _, rfl⟩
    · intro v u hS hd K' hK
      simp only [waited, List.toList_toArray, Region.binds, rel, List.getD_cons_zero, List.getD_cons_succ, true_imp_iff, and_true] at hd
      simp only [rel, List.getD_cons_zero, List.getD_cons_succ, Act.put, List.setIfInBounds_toArray, List.set_cons_zero, List.set_cons_succ] at hK
      try simp only [hd] at hK
      have hS1 := hS
      go_simp
      exact hK.out _ _ ⟨hS1, Below.refl _ _, rfl⟩
    · intro v u hS hd K' hK
      simp only [waited, List.toList_toArray, Region.binds, rel, List.getD_cons_zero, List.getD_cons_succ, true_imp_iff, and_true] at hd
      simp only [rel, List.getD_cons_zero, List.getD_cons_succ, Act.put, List.setIfInBounds_toArray, List.set_cons_zero, List.set_cons_succ] at hK
      try simp only [hd] at hK
      have hS1 := hS
      go_simp
      exact hK.out _ _ ⟨hS1, Below.refl _ _, rfl⟩
  · rintro v u hS1 hR
    simp only [holdAll, List.size_toArray, List.length_cons, List.length_nil, Nat.reduceAdd, rel, List.getD_cons_zero, List.getD_cons_succ] at hR
    obtain ⟨_, h19⟩ := hR
    simp only [h19]
    clear h19
    have kk := hK.below hS1
    have bb := bt hb hS1
    clear hK hb hS1
    have r0 := kk.cell 0
    have r1 := kk.cell 1
    have r2 := kk.cell 2
    have r3 := kk.cell 3
    have r4 := kk.cell 4
    have z0 := kk.free 0
    have z1 := kk.free 1
    have z2 := kk.free 2
    have z3 := kk.free 3
    have z4 := kk.free 4
    go_wp2
    refine bodyPost_ret (v := .tuple #[.agg #[.int .u8 0, .int .u64 0, .int .u64 0, .int .i64 0, .int .u32 0], .int .i64 14]) (by simp [results, Try.results56, go_sem, r0, r1, r2, r3, r4]) rfl ?_
    exact ⟨rfl, below5 bb (Nat.le_refl _) (.int .u8 0) (.int .u64 0) (.int .u64 0) (.int .i64 0) (.int .u32 0)⟩
set_option maxHeartbeats 4000000 in
set_option maxRecDepth 100000 in
theorem recHead_C (s : ByteArray) (w : World) (h : s.size = 64) (h0 : s.data.toList.getD 0 0 = 72) (h1 : s.data.toList.getD 1 0 = 0) :
    Calls Try.prog 56 #[.string s] w fun e w' => e = .returned (.tuple #[zeroHead, .int .i64 14]) ∧ Below w.heap.size w w' := by
  have hne : ((s.size : Int) != 64) = false := by simp; omega
  have hl : s.data.toList.length = s.size := Array.length_toList
  have hsz : (0 : Int) < (s.size : Int) := by omega
  have hsz1 : (1 : Int) < (s.size : Int) := by omega
  have hsz30 : (30 : Int) ≤ (s.size : Int) := by omega
  have hszn : 0 < s.size := by omega
  have hszn1 : 1 < s.size := by omega
  obtain ⟨s0, e0⟩ : ∃ x, s[0] = x := ⟨_, rfl⟩
  obtain ⟨s1, e1⟩ : ∃ x, s[1] = x := ⟨_, rfl⟩
  have g0 : s.data.toList.getD 0 0 = s0 := by rw [← e0, List.getD_eq_getElem?_getD, List.getElem?_eq_getElem (by omega)]; rfl
  have g1 : s.data.toList.getD 1 0 = s1 := by rw [← e1, List.getD_eq_getElem?_getD, List.getElem?_eq_getElem (by omega)]; rfl
  have hb0 : ((s0.toNat : Int) != 72) = false := by
    have : s0 = 72 := by rw [← g0]; exact h0
    subst this; rfl
  have hb1 : ((s1.toNat : Int) == 0) = true := by
    have : s1 = 0 := by rw [← g1]; exact h1
    subst this; rfl
  clear h0 h1 g0 g1 hl h
  have hK := blk_head w
  have hb := below_alloc w (.cells #[.int .u8 0, .int .u64 0, .int .u64 0, .int .i64 0, .int .u32 0] 87)
  go_enter Try.func56, Try.ntmps56
  go_wp2_with fail
  obtain ⟨W, HW⟩ := named (w.alloc (.cells #[.int .u8 0, .int .u64 0, .int .u64 0, .int .i64 0, .int .u32 0] 87))
  rw [← HW.out] at hK hb ⊢
  clear HW
  refine region_flat _ (fun u => Below W.heap.size W u) (fun u u' => Below u.heap.size u u')
    (rel [fun v _ => v = .string s,
      fun v _ => v = .int .i64 (s.size : Int),
      fun v _ => v = .bool false,
      fun v _ => v = .bool false,
      fun v _ => v = .string s,
      fun v _ => v = .int .u8 (s0.toNat : Int),
      fun v _ => v = .bool false,
      fun v _ => v = .bool false,
      fun v _ => v = .bool false,
      fun v _ => v = .string s,
      fun v _ => v = .int .u8 (s1.toNat : Int),
      fun v _ => v = .bool true,
      fun v _ => v = .bool true,
      fun v _ => v = .bool true,
      fun v _ => v = undef,
      fun v _ => v = undef,
      fun v _ => v = undef,
      fun v _ => v = undef,
      fun v _ => v = undef,
      fun v _ => v = .bool true])
    (by kernel_rfl) (by kernel_rfl) (fun v => by simp only [putsV, Act.put, List.toList_toArray, List.setIfInBounds_toArray, List.set_cons_zero, List.set_cons_succ, Nat.reduceAdd, Nat.zero_add]; rfl) ?_ (Below.refl _ _).drew ?_ ?_
  · intro j x u u' hb h
    match j with
    | 0 => exact h
    | 1 => exact h
    | 2 => exact h
    | 3 => exact h
    | 4 => exact h
    | 5 => exact h
    | 6 => exact h
    | 7 => exact h
    | 8 => exact h
    | 9 => exact h
    | 10 => exact h
    | 11 => exact h
    | 12 => exact h
    | 13 => exact h
    | 14 => exact h
    | 15 => exact h
    | 16 => exact h
    | 17 => exact h
    | 18 => exact h
    | 19 => exact h
    | _ + 20 => trivial
  · refine ⟨?_, ?_, ?_, ?_, ?_, ?_, ?_, ?_, ?_, ?_, ?_, ?_, ?_, ?_, ?_, ?_, ?_, ?_, ?_, ?_, trivial⟩
    · intro v u hS hd K' hK
      simp only [waited, List.toList_toArray, Region.binds, rel, List.getD_cons_zero, List.getD_cons_succ, true_imp_iff, and_true] at hd
      simp only [rel, List.getD_cons_zero, List.getD_cons_succ, Act.put, List.setIfInBounds_toArray, List.set_cons_zero, List.set_cons_succ] at hK
      try simp only [hd] at hK
      have hS1 := hS
      go_simp
      exact hK.out _ _ ⟨hS1, Below.refl _ _, rfl⟩
    · intro v u hS hd K' hK
      simp only [waited, List.toList_toArray, Region.binds, rel, List.getD_cons_zero, List.getD_cons_succ, true_imp_iff, and_true] at hd
      simp only [rel, List.getD_cons_zero, List.getD_cons_succ, Act.put, List.setIfInBounds_toArray, List.set_cons_zero, List.set_cons_succ] at hK
      try simp only [hd] at hK
      have hS1 := hS
      go_simp
      exact hK.out _ _ ⟨hS1, Below.refl _ _, rfl⟩
    · intro v u hS hd K' hK
      simp only [waited, List.toList_toArray, Region.binds, rel, List.getD_cons_zero, List.getD_cons_succ, true_imp_iff, and_true] at hd
      simp only [rel, List.getD_cons_zero, List.getD_cons_succ, Act.put, List.setIfInBounds_toArray, List.set_cons_zero, List.set_cons_succ] at hK
      try simp only [hd] at hK
      have hS1 := hS
      go_simp
      exact hK.out _ _ ⟨hS1, Below.refl _ _, rfl⟩
    · intro v u hS hd K' hK
      simp only [waited, List.toList_toArray, Region.binds, rel, List.getD_cons_zero, List.getD_cons_succ, true_imp_iff, and_true] at hd
      simp only [rel, List.getD_cons_zero, List.getD_cons_succ, Act.put, List.setIfInBounds_toArray, List.set_cons_zero, List.set_cons_succ] at hK
      try simp only [hd] at hK
      have hS1 := hS
      go_simp
      exact hK.out _ _ ⟨hS1, Below.refl _ _, rfl⟩
    · intro v u hS hd K' hK
      simp only [waited, List.toList_toArray, Region.binds, rel, List.getD_cons_zero, List.getD_cons_succ, true_imp_iff, and_true] at hd
      simp only [rel, List.getD_cons_zero, List.getD_cons_succ, Act.put, List.setIfInBounds_toArray, List.set_cons_zero, List.set_cons_succ] at hK
      try simp only [hd] at hK
      have hS1 := hS
      go_simp
      exact hK.out _ _ ⟨hS1, Below.refl _ _, rfl⟩
    · intro v u hS hd K' hK
      simp only [waited, List.toList_toArray, Region.binds, rel, List.getD_cons_zero, List.getD_cons_succ, true_imp_iff, and_true] at hd
      simp only [rel, List.getD_cons_zero, List.getD_cons_succ, Act.put, List.setIfInBounds_toArray, List.set_cons_zero, List.set_cons_succ] at hK
      try simp only [hd] at hK
      have hS1 := hS
      go_simp
      exact hK.out _ _ ⟨hS1, Below.refl _ _, rfl⟩
    · intro v u hS hd K' hK
      simp only [waited, List.toList_toArray, Region.binds, rel, List.getD_cons_zero, List.getD_cons_succ, true_imp_iff, and_true] at hd
      simp only [rel, List.getD_cons_zero, List.getD_cons_succ, Act.put, List.setIfInBounds_toArray, List.set_cons_zero, List.set_cons_succ] at hK
      try simp only [hd] at hK
      have hS1 := hS
      go_simp
      exact hK.out _ _ ⟨hS1, Below.refl _ _, rfl⟩
    · intro v u hS hd K' hK
      simp only [waited, List.toList_toArray, Region.binds, rel, List.getD_cons_zero, List.getD_cons_succ, true_imp_iff, and_true] at hd
      simp only [rel, List.getD_cons_zero, List.getD_cons_succ, Act.put, List.setIfInBounds_toArray, List.set_cons_zero, List.set_cons_succ] at hK
      try simp only [hd] at hK
      have hS1 := hS
      go_simp
      exact hK.out _ _ ⟨hS1, Below.refl _ _, rfl⟩
    · intro v u hS hd K' hK
      simp only [waited, List.toList_toArray, Region.binds, rel, List.getD_cons_zero, List.getD_cons_succ, true_imp_iff, and_true] at hd
      simp only [rel, List.getD_cons_zero, List.getD_cons_succ, Act.put, List.setIfInBounds_toArray, List.set_cons_zero, List.set_cons_succ] at hK
      try simp only [hd] at hK
      have hS1 := hS
      go_simp
      exact hK.out _ _ ⟨hS1, Below.refl _ _, rfl⟩
    · intro v u hS hd K' hK
      simp only [waited, List.toList_toArray, Region.binds, rel, List.getD_cons_zero, List.getD_cons_succ, true_imp_iff, and_true] at hd
      simp only [rel, List.getD_cons_zero, List.getD_cons_succ, Act.put, List.setIfInBounds_toArray, List.set_cons_zero, List.set_cons_succ] at hK
      try simp only [hd] at hK
      have hS1 := hS
      go_simp
      exact hK.out _ _ ⟨hS1, Below.refl _ _, rfl⟩
    · intro v u hS hd K' hK
      simp only [waited, List.toList_toArray, Region.binds, rel, List.getD_cons_zero, List.getD_cons_succ, true_imp_iff, and_true] at hd
      simp only [rel, List.getD_cons_zero, List.getD_cons_succ, Act.put, List.setIfInBounds_toArray, List.set_cons_zero, List.set_cons_succ] at hK
      try simp only [hd] at hK
      have hS1 := hS
      go_simp
      exact hK.out _ _ ⟨hS1, Below.refl _ _, rfl⟩
    · intro v u hS hd K' hK
      simp only [waited, List.toList_toArray, Region.binds, rel, List.getD_cons_zero, List.getD_cons_succ, true_imp_iff, and_true] at hd
      simp only [rel, List.getD_cons_zero, List.getD_cons_succ, Act.put, List.setIfInBounds_toArray, List.set_cons_zero, List.set_cons_succ] at hK
      try simp only [hd] at hK
      have hS1 := hS
      go_simp
      exact hK.out _ _ ⟨hS1, Below.refl _ _, rfl⟩
    · intro v u hS hd K' hK
      simp only [waited, List.toList_toArray, Region.binds, rel, List.getD_cons_zero, List.getD_cons_succ, true_imp_iff, and_true] at hd
      simp only [rel, List.getD_cons_zero, List.getD_cons_succ, Act.put, List.setIfInBounds_toArray, List.set_cons_zero, List.set_cons_succ] at hK
      try simp only [hd] at hK
      have hS1 := hS
      go_simp
      exact hK.out _ _ ⟨hS1, Below.refl _ _, rfl⟩
    · intro v u hS hd K' hK
      simp only [waited, List.toList_toArray, Region.binds, rel, List.getD_cons_zero, List.getD_cons_succ, true_imp_iff, and_true] at hd
      simp only [rel, List.getD_cons_zero, List.getD_cons_succ, Act.put, List.setIfInBounds_toArray, List.set_cons_zero, List.set_cons_succ] at hK
      try simp only [hd] at hK
      have hS1 := hS
      go_simp
      exact hK.out _ _ ⟨hS1, Below.refl _ _, rfl⟩
    · intro v u hS hd K' hK
      simp only [waited, List.toList_toArray, Region.binds, rel, List.getD_cons_zero, List.getD_cons_succ, true_imp_iff, and_true] at hd
      simp only [rel, List.getD_cons_zero, List.getD_cons_succ, Act.put, List.setIfInBounds_toArray, List.set_cons_zero, List.set_cons_succ] at hK
      try simp only [hd] at hK
      have hS1 := hS
      go_simp
      exact hK.out _ _ ⟨hS1, Below.refl _ _, rfl⟩
    · intro v u hS hd K' hK
      simp only [waited, List.toList_toArray, Region.binds, rel, List.getD_cons_zero, List.getD_cons_succ, true_imp_iff, and_true] at hd
      simp only [rel, List.getD_cons_zero, List.getD_cons_succ, Act.put, List.setIfInBounds_toArray, List.set_cons_zero, List.set_cons_succ] at hK
      try simp only [hd] at hK
      have hS1 := hS
      go_simp
      exact hK.out _ _ ⟨hS1, Below.refl _ _, rfl⟩
    · intro v u hS hd K' hK
      simp only [waited, List.toList_toArray, Region.binds, rel, List.getD_cons_zero, List.getD_cons_succ, true_imp_iff, and_true] at hd
      simp only [rel, List.getD_cons_zero, List.getD_cons_succ, Act.put, List.setIfInBounds_toArray, List.set_cons_zero, List.set_cons_succ] at hK
      try simp only [hd] at hK
      have hS1 := hS
      go_simp
      exact hK.out _ _ ⟨hS1, Below.refl _ _, rfl⟩
    · intro v u hS hd K' hK
      simp only [waited, List.toList_toArray, Region.binds, rel, List.getD_cons_zero, List.getD_cons_succ, true_imp_iff, and_true] at hd
      simp only [rel, List.getD_cons_zero, List.getD_cons_succ, Act.put, List.setIfInBounds_toArray, List.set_cons_zero, List.set_cons_succ] at hK
      try simp only [hd] at hK
      have hS1 := hS
      go_simp
      exact hK.out _ _ ⟨hS1, Below.refl _ _, rfl⟩
    · intro v u hS hd K' hK
      simp only [waited, List.toList_toArray, Region.binds, rel, List.getD_cons_zero, List.getD_cons_succ, true_imp_iff, and_true] at hd
      simp only [rel, List.getD_cons_zero, List.getD_cons_succ, Act.put, List.setIfInBounds_toArray, List.set_cons_zero, List.set_cons_succ] at hK
      try simp only [hd] at hK
      have hS1 := hS
      go_simp
      exact hK.out _ _ ⟨hS1, Below.refl _ _, rfl⟩
    · intro v u hS hd K' hK
      simp only [waited, List.toList_toArray, Region.binds, rel, List.getD_cons_zero, List.getD_cons_succ, true_imp_iff, and_true] at hd
      simp only [rel, List.getD_cons_zero, List.getD_cons_succ, Act.put, List.setIfInBounds_toArray, List.set_cons_zero, List.set_cons_succ] at hK
      try simp only [hd] at hK
      have hS1 := hS
      go_simp
      exact hK.out _ _ ⟨hS1, Below.refl _ _, rfl⟩
  · rintro v u hS1 hR
    simp only [holdAll, List.size_toArray, List.length_cons, List.length_nil, Nat.reduceAdd, rel, List.getD_cons_zero, List.getD_cons_succ] at hR
    obtain ⟨_, h19⟩ := hR
    simp only [h19]
    clear h19
    have kk := hK.below hS1
    have bb := bt hb hS1
    clear hK hb hS1
    have r0 := kk.cell 0
    have r1 := kk.cell 1
    have r2 := kk.cell 2
    have r3 := kk.cell 3
    have r4 := kk.cell 4
    have z0 := kk.free 0
    have z1 := kk.free 1
    have z2 := kk.free 2
    have z3 := kk.free 3
    have z4 := kk.free 4
    go_wp2
    refine bodyPost_ret (v := .tuple #[.agg #[.int .u8 0, .int .u64 0, .int .u64 0, .int .i64 0, .int .u32 0], .int .i64 14]) (by simp [results, Try.results56, go_sem, r0, r1, r2, r3, r4]) rfl ?_
    exact ⟨rfl, below5 bb (Nat.le_refl _) (.int .u8 0) (.int .u64 0) (.int .u64 0) (.int .i64 0) (.int .u32 0)⟩
set_option maxHeartbeats 4000000 in
set_option maxRecDepth 100000 in
theorem recHead_D (s : ByteArray) (w : World) (h : s.size = 64) (h0 : s.data.toList.getD 0 0 = 72) (h1 : s.data.toList.getD 1 0 ≠ 0) (h2 : s.data.toList.drop 30 ≠ List.replicate 34 0) :
    Calls Try.prog 56 #[.string s] w fun e w' => e = .returned (.tuple #[zeroHead, .int .i64 14]) ∧ Below w.heap.size w w' := by
  have hne : ((s.size : Int) != 64) = false := by simp; omega
  have hl : s.data.toList.length = s.size := Array.length_toList
  have hsz : (0 : Int) < (s.size : Int) := by omega
  have hsz1 : (1 : Int) < (s.size : Int) := by omega
  have hsz30 : (30 : Int) ≤ (s.size : Int) := by omega
  have hszn : 0 < s.size := by omega
  have hszn1 : 1 < s.size := by omega
  obtain ⟨s0, e0⟩ : ∃ x, s[0] = x := ⟨_, rfl⟩
  obtain ⟨s1, e1⟩ : ∃ x, s[1] = x := ⟨_, rfl⟩
  have g0 : s.data.toList.getD 0 0 = s0 := by rw [← e0, List.getD_eq_getElem?_getD, List.getElem?_eq_getElem (by omega)]; rfl
  have g1 : s.data.toList.getD 1 0 = s1 := by rw [← e1, List.getD_eq_getElem?_getD, List.getElem?_eq_getElem (by omega)]; rfl
  have hb0 : ((s0.toNat : Int) != 72) = false := by
    have : s0 = 72 := by rw [← g0]; exact h0
    subst this; rfl
  have hb1 : ((s1.toNat : Int) == 0) = false := by
    have : s1.toNat ≠ 0 := fun e => h1 (by rw [g1]; exact UInt8.toNat_inj.1 e)
    simp; omega
  obtain ⟨Rs, HRs⟩ := named (str (s.data.toList.drop 30))
  have hRs : s.extract 30 s.size = Rs := by
    rw [HRs.out, extract_str, List.take_of_length_le (by rw [List.length_drop, hl]; exact Nat.le_refl _)]
  obtain ⟨Z, HZ⟩ := named (str (List.replicate 34 0))
  have hcvZ : ∀ v u, (∃ g, v = .slice (some ⟨g, 0, none⟩) 34 34 ∧ Blk u g (cellsOf (List.replicate 34 0)) 5) → (convert 56 9 v).run Try.prog u = .ok (.string Z) u := by
    rintro v u ⟨g, rfl, hg⟩
    rw [HZ.out]
    exact conv_blk hg _ _ _ Try.underlying56 Try.underlying5 Try.underlying9 34 (by simp)
  have hmk := fun w => run_make_row' (P := Try.prog) 56 5 (.int .u8 0) 1 Try.underlying56 Try.info5 rfl .i64 .i64 34 (by omega) (by omega) w
  rw [made_zeros] at hmk
  rw [show ((34 : Nat) : Int) = 34 from rfl] at hmk
  have hbZ : (Rs.toList == Z.toList) = false := by
    rw [HRs.out, HZ.out, str_toList, str_toList]
    exact beq_false_of_ne h2
  clear HRs HZ h2
  clear h0 h1 g0 g1 hl h
  have hK := blk_head w
  have hb := below_alloc w (.cells #[.int .u8 0, .int .u64 0, .int .u64 0, .int .i64 0, .int .u32 0] 87)
  go_enter Try.func56, Try.ntmps56
  go_wp2_with fail
  obtain ⟨W, HW⟩ := named (w.alloc (.cells #[.int .u8 0, .int .u64 0, .int .u64 0, .int .i64 0, .int .u32 0] 87))
  rw [← HW.out] at hK hb ⊢
  clear HW
  refine region_flat _ (fun u => Below W.heap.size W u) (fun u u' => Below u.heap.size u u')
    (rel [fun v _ => v = .string s,
      fun v _ => v = .int .i64 (s.size : Int),
      fun v _ => v = .bool false,
      fun v _ => v = .bool false,
      fun v _ => v = .string s,
      fun v _ => v = .int .u8 (s0.toNat : Int),
      fun v _ => v = .bool false,
      fun v _ => v = .bool false,
      fun v _ => v = .bool false,
      fun v _ => v = .string s,
      fun v _ => v = .int .u8 (s1.toNat : Int),
      fun v _ => v = .bool false,
      fun v _ => v = .bool false,
      fun v _ => v = .bool false,
      fun v _ => v = .string s,
      fun v _ => v = .string Rs,
      fun v u => ∃ g, v = .slice (some ⟨g, 0, none⟩) 34 34 ∧ Blk u g (cellsOf (List.replicate 34 0)) 5,
      fun v _ => v = .string Z,
      fun v _ => v = .bool true,
      fun v _ => v = .bool true])
    (by kernel_rfl) (by kernel_rfl) (fun v => by simp only [putsV, Act.put, List.toList_toArray, List.setIfInBounds_toArray, List.set_cons_zero, List.set_cons_succ, Nat.reduceAdd, Nat.zero_add]; rfl) ?_ (Below.refl _ _).drew ?_ ?_
  · intro j x u u' hb h
    match j with
    | 0 => exact h
    | 1 => exact h
    | 2 => exact h
    | 3 => exact h
    | 4 => exact h
    | 5 => exact h
    | 6 => exact h
    | 7 => exact h
    | 8 => exact h
    | 9 => exact h
    | 10 => exact h
    | 11 => exact h
    | 12 => exact h
    | 13 => exact h
    | 14 => exact h
    | 15 => exact h
    | 16 => exact (let ⟨g, e, hg⟩ := h; ⟨g, e, hg.below hb⟩)
    | 17 => exact h
    | 18 => exact h
    | 19 => exact h
    | _ + 20 => trivial
  · refine ⟨?_, ?_, ?_, ?_, ?_, ?_, ?_, ?_, ?_, ?_, ?_, ?_, ?_, ?_, ?_, ?_, ?_, ?_, ?_, ?_, trivial⟩
    · intro v u hS hd K' hK
      simp only [waited, List.toList_toArray, Region.binds, rel, List.getD_cons_zero, List.getD_cons_succ, true_imp_iff, and_true] at hd
      simp only [rel, List.getD_cons_zero, List.getD_cons_succ, Act.put, List.setIfInBounds_toArray, List.set_cons_zero, List.set_cons_succ] at hK
      try simp only [hd] at hK
      have hS1 := hS
      go_simp
      exact hK.out _ _ ⟨hS1, Below.refl _ _, rfl⟩
    · intro v u hS hd K' hK
      simp only [waited, List.toList_toArray, Region.binds, rel, List.getD_cons_zero, List.getD_cons_succ, true_imp_iff, and_true] at hd
      simp only [rel, List.getD_cons_zero, List.getD_cons_succ, Act.put, List.setIfInBounds_toArray, List.set_cons_zero, List.set_cons_succ] at hK
      try simp only [hd] at hK
      have hS1 := hS
      go_simp
      exact hK.out _ _ ⟨hS1, Below.refl _ _, rfl⟩
    · intro v u hS hd K' hK
      simp only [waited, List.toList_toArray, Region.binds, rel, List.getD_cons_zero, List.getD_cons_succ, true_imp_iff, and_true] at hd
      simp only [rel, List.getD_cons_zero, List.getD_cons_succ, Act.put, List.setIfInBounds_toArray, List.set_cons_zero, List.set_cons_succ] at hK
      try simp only [hd] at hK
      have hS1 := hS
      go_simp
      exact hK.out _ _ ⟨hS1, Below.refl _ _, rfl⟩
    · intro v u hS hd K' hK
      simp only [waited, List.toList_toArray, Region.binds, rel, List.getD_cons_zero, List.getD_cons_succ, true_imp_iff, and_true] at hd
      simp only [rel, List.getD_cons_zero, List.getD_cons_succ, Act.put, List.setIfInBounds_toArray, List.set_cons_zero, List.set_cons_succ] at hK
      try simp only [hd] at hK
      have hS1 := hS
      go_simp
      exact hK.out _ _ ⟨hS1, Below.refl _ _, rfl⟩
    · intro v u hS hd K' hK
      simp only [waited, List.toList_toArray, Region.binds, rel, List.getD_cons_zero, List.getD_cons_succ, true_imp_iff, and_true] at hd
      simp only [rel, List.getD_cons_zero, List.getD_cons_succ, Act.put, List.setIfInBounds_toArray, List.set_cons_zero, List.set_cons_succ] at hK
      try simp only [hd] at hK
      have hS1 := hS
      go_simp
      exact hK.out _ _ ⟨hS1, Below.refl _ _, rfl⟩
    · intro v u hS hd K' hK
      simp only [waited, List.toList_toArray, Region.binds, rel, List.getD_cons_zero, List.getD_cons_succ, true_imp_iff, and_true] at hd
      simp only [rel, List.getD_cons_zero, List.getD_cons_succ, Act.put, List.setIfInBounds_toArray, List.set_cons_zero, List.set_cons_succ] at hK
      try simp only [hd] at hK
      have hS1 := hS
      go_simp
      exact hK.out _ _ ⟨hS1, Below.refl _ _, rfl⟩
    · intro v u hS hd K' hK
      simp only [waited, List.toList_toArray, Region.binds, rel, List.getD_cons_zero, List.getD_cons_succ, true_imp_iff, and_true] at hd
      simp only [rel, List.getD_cons_zero, List.getD_cons_succ, Act.put, List.setIfInBounds_toArray, List.set_cons_zero, List.set_cons_succ] at hK
      try simp only [hd] at hK
      have hS1 := hS
      go_simp
      exact hK.out _ _ ⟨hS1, Below.refl _ _, rfl⟩
    · intro v u hS hd K' hK
      simp only [waited, List.toList_toArray, Region.binds, rel, List.getD_cons_zero, List.getD_cons_succ, true_imp_iff, and_true] at hd
      simp only [rel, List.getD_cons_zero, List.getD_cons_succ, Act.put, List.setIfInBounds_toArray, List.set_cons_zero, List.set_cons_succ] at hK
      try simp only [hd] at hK
      have hS1 := hS
      go_simp
      exact hK.out _ _ ⟨hS1, Below.refl _ _, rfl⟩
    · intro v u hS hd K' hK
      simp only [waited, List.toList_toArray, Region.binds, rel, List.getD_cons_zero, List.getD_cons_succ, true_imp_iff, and_true] at hd
      simp only [rel, List.getD_cons_zero, List.getD_cons_succ, Act.put, List.setIfInBounds_toArray, List.set_cons_zero, List.set_cons_succ] at hK
      try simp only [hd] at hK
      have hS1 := hS
      go_simp
      exact hK.out _ _ ⟨hS1, Below.refl _ _, rfl⟩
    · intro v u hS hd K' hK
      simp only [waited, List.toList_toArray, Region.binds, rel, List.getD_cons_zero, List.getD_cons_succ, true_imp_iff, and_true] at hd
      simp only [rel, List.getD_cons_zero, List.getD_cons_succ, Act.put, List.setIfInBounds_toArray, List.set_cons_zero, List.set_cons_succ] at hK
      try simp only [hd] at hK
      have hS1 := hS
      go_simp
      exact hK.out _ _ ⟨hS1, Below.refl _ _, rfl⟩
    · intro v u hS hd K' hK
      simp only [waited, List.toList_toArray, Region.binds, rel, List.getD_cons_zero, List.getD_cons_succ, true_imp_iff, and_true] at hd
      simp only [rel, List.getD_cons_zero, List.getD_cons_succ, Act.put, List.setIfInBounds_toArray, List.set_cons_zero, List.set_cons_succ] at hK
      try simp only [hd] at hK
      have hS1 := hS
      go_simp
      exact hK.out _ _ ⟨hS1, Below.refl _ _, rfl⟩
    · intro v u hS hd K' hK
      simp only [waited, List.toList_toArray, Region.binds, rel, List.getD_cons_zero, List.getD_cons_succ, true_imp_iff, and_true] at hd
      simp only [rel, List.getD_cons_zero, List.getD_cons_succ, Act.put, List.setIfInBounds_toArray, List.set_cons_zero, List.set_cons_succ] at hK
      try simp only [hd] at hK
      have hS1 := hS
      go_simp
      exact hK.out _ _ ⟨hS1, Below.refl _ _, rfl⟩
    · intro v u hS hd K' hK
      simp only [waited, List.toList_toArray, Region.binds, rel, List.getD_cons_zero, List.getD_cons_succ, true_imp_iff, and_true] at hd
      simp only [rel, List.getD_cons_zero, List.getD_cons_succ, Act.put, List.setIfInBounds_toArray, List.set_cons_zero, List.set_cons_succ] at hK
      try simp only [hd] at hK
      have hS1 := hS
      go_simp
      exact hK.out _ _ ⟨hS1, Below.refl _ _, rfl⟩
    · intro v u hS hd K' hK
      simp only [waited, List.toList_toArray, Region.binds, rel, List.getD_cons_zero, List.getD_cons_succ, true_imp_iff, and_true] at hd
      simp only [rel, List.getD_cons_zero, List.getD_cons_succ, Act.put, List.setIfInBounds_toArray, List.set_cons_zero, List.set_cons_succ] at hK
      try simp only [hd] at hK
      have hS1 := hS
      go_simp
      exact hK.out _ _ ⟨hS1, Below.refl _ _, rfl⟩
    · intro v u hS hd K' hK
      simp only [waited, List.toList_toArray, Region.binds, rel, List.getD_cons_zero, List.getD_cons_succ, true_imp_iff, and_true] at hd
      simp only [rel, List.getD_cons_zero, List.getD_cons_succ, Act.put, List.setIfInBounds_toArray, List.set_cons_zero, List.set_cons_succ] at hK
      try simp only [hd] at hK
      have hS1 := hS
      go_simp
      exact hK.out _ _ ⟨hS1, Below.refl _ _, rfl⟩
    · intro v u hS hd K' hK
      simp only [waited, List.toList_toArray, Region.binds, rel, List.getD_cons_zero, List.getD_cons_succ, true_imp_iff, and_true] at hd
      simp only [rel, List.getD_cons_zero, List.getD_cons_succ, Act.put, List.setIfInBounds_toArray, List.set_cons_zero, List.set_cons_succ] at hK
      try simp only [hd] at hK
      have hS1 := hS
      go_simp
      exact hK.out _ _ ⟨hS1, Below.refl _ _, rfl⟩
    · intro v u hS hd K' hK
      simp only [waited, List.toList_toArray, Region.binds, rel, List.getD_cons_zero, List.getD_cons_succ, true_imp_iff, and_true] at hd
      simp only [rel, List.getD_cons_zero, List.getD_cons_succ, Act.put, List.setIfInBounds_toArray, List.set_cons_zero, List.set_cons_succ] at hK
      try simp only [hd] at hK
      have hS1 := hS
      have hx := hmk u
      go_simp
      exact hK.out _ _ ⟨hS1.alloc hS1.size _, below_alloc _ _, ⟨_, rfl, Blk.new _ _ _⟩⟩
    · intro v u hS hd K' hK
      simp only [waited, List.toList_toArray, Region.binds, rel, List.getD_cons_zero, List.getD_cons_succ, true_imp_iff, and_true] at hd
      simp only [rel, List.getD_cons_zero, List.getD_cons_succ, Act.put, List.setIfInBounds_toArray, List.set_cons_zero, List.set_cons_succ] at hK
      try simp only [hd] at hK
      have hS1 := hS
      have hx := hcvZ _ _ hd.1
      go_simp
      exact hK.out _ _ ⟨hS1, Below.refl _ _, rfl⟩
    · intro v u hS hd K' hK
      simp only [waited, List.toList_toArray, Region.binds, rel, List.getD_cons_zero, List.getD_cons_succ, true_imp_iff, and_true] at hd
      simp only [rel, List.getD_cons_zero, List.getD_cons_succ, Act.put, List.setIfInBounds_toArray, List.set_cons_zero, List.set_cons_succ] at hK
      try simp only [hd] at hK
      have hS1 := hS
      go_simp
      exact hK.out _ _ ⟨hS1, Below.refl _ _, rfl⟩
    · intro v u hS hd K' hK
      simp only [waited, List.toList_toArray, Region.binds, rel, List.getD_cons_zero, List.getD_cons_succ, true_imp_iff, and_true] at hd
      simp only [rel, List.getD_cons_zero, List.getD_cons_succ, Act.put, List.setIfInBounds_toArray, List.set_cons_zero, List.set_cons_succ] at hK
      try simp only [hd] at hK
      have hS1 := hS
      go_simp
      exact hK.out _ _ ⟨hS1, Below.refl _ _, rfl⟩
  · rintro v u hS1 hR
    simp only [holdAll, List.size_toArray, List.length_cons, List.length_nil, Nat.reduceAdd, rel, List.getD_cons_zero, List.getD_cons_succ] at hR
    obtain ⟨_, h19⟩ := hR
    simp only [h19]
    clear h19
    have kk := hK.below hS1
    have bb := bt hb hS1
    clear hK hb hS1
    have r0 := kk.cell 0
    have r1 := kk.cell 1
    have r2 := kk.cell 2
    have r3 := kk.cell 3
    have r4 := kk.cell 4
    have z0 := kk.free 0
    have z1 := kk.free 1
    have z2 := kk.free 2
    have z3 := kk.free 3
    have z4 := kk.free 4
    go_wp2
    refine bodyPost_ret (v := .tuple #[.agg #[.int .u8 0, .int .u64 0, .int .u64 0, .int .i64 0, .int .u32 0], .int .i64 14]) (by simp [results, Try.results56, go_sem, r0, r1, r2, r3, r4]) rfl ?_
    exact ⟨rfl, below5 bb (Nat.le_refl _) (.int .u8 0) (.int .u64 0) (.int .u64 0) (.int .i64 0) (.int .u32 0)⟩
set_option maxHeartbeats 4000000 in
set_option maxRecDepth 100000 in
theorem recHead_F (s : ByteArray) (w : World) (h : s.size = 64) (h0 : s.data.toList.getD 0 0 = 72) (h1 : s.data.toList.getD 1 0 ≠ 0) (h2 : s.data.toList.drop 30 = List.replicate 34 0) (h3 : atL s.data.toList 26 4 ≠ crcOf (s.data.toList.take 26)) :
    Calls Try.prog 56 #[.string s] w fun e w' => e = .returned (.tuple #[zeroHead, .int .i64 14]) ∧ Below w.heap.size w w' := by
  have hne : ((s.size : Int) != 64) = false := by simp; omega
  have hl : s.data.toList.length = s.size := Array.length_toList
  have hsz : (0 : Int) < (s.size : Int) := by omega
  have hsz1 : (1 : Int) < (s.size : Int) := by omega
  have hsz30 : (30 : Int) ≤ (s.size : Int) := by omega
  have hszn : 0 < s.size := by omega
  have hszn1 : 1 < s.size := by omega
  obtain ⟨s0, e0⟩ : ∃ x, s[0] = x := ⟨_, rfl⟩
  obtain ⟨s1, e1⟩ : ∃ x, s[1] = x := ⟨_, rfl⟩
  have g0 : s.data.toList.getD 0 0 = s0 := by rw [← e0, List.getD_eq_getElem?_getD, List.getElem?_eq_getElem (by omega)]; rfl
  have g1 : s.data.toList.getD 1 0 = s1 := by rw [← e1, List.getD_eq_getElem?_getD, List.getElem?_eq_getElem (by omega)]; rfl
  have hb0 : ((s0.toNat : Int) != 72) = false := by
    have : s0 = 72 := by rw [← g0]; exact h0
    subst this; rfl
  have hb1 : ((s1.toNat : Int) == 0) = false := by
    have : s1.toNat ≠ 0 := fun e => h1 (by rw [g1]; exact UInt8.toNat_inj.1 e)
    simp; omega
  obtain ⟨Rs, HRs⟩ := named (str (s.data.toList.drop 30))
  have hRs : s.extract 30 s.size = Rs := by
    rw [HRs.out, extract_str, List.take_of_length_le (by rw [List.length_drop, hl]; exact Nat.le_refl _)]
  obtain ⟨Z, HZ⟩ := named (str (List.replicate 34 0))
  have hcvZ : ∀ v u, (∃ g, v = .slice (some ⟨g, 0, none⟩) 34 34 ∧ Blk u g (cellsOf (List.replicate 34 0)) 5) → (convert 56 9 v).run Try.prog u = .ok (.string Z) u := by
    rintro v u ⟨g, rfl, hg⟩
    rw [HZ.out]
    exact conv_blk hg _ _ _ Try.underlying56 Try.underlying5 Try.underlying9 34 (by simp)
  have hmk := fun w => run_make_row' (P := Try.prog) 56 5 (.int .u8 0) 1 Try.underlying56 Try.info5 rfl .i64 .i64 34 (by omega) (by omega) w
  rw [made_zeros] at hmk
  rw [show ((34 : Nat) : Int) = 34 from rfl] at hmk
  have hbZ : (Rs.toList == Z.toList) = true := by
    rw [HRs.out, HZ.out, str_toList, str_toList, h2]
    simp
  clear HRs HZ h2
  have hx26 : s.extract 26 30 = str ((s.data.toList.drop 26).take 4) := extract_str s 26 30
  obtain ⟨S26, HS26⟩ := named (str ((s.data.toList.drop 26).take 4))
  rw [← HS26.out] at hx26
  obtain ⟨n26, Hn26⟩ := named (atL s.data.toList 26 4)
  have hg26 : ∀ u, Calls Try.prog 89 #[.string S26] u fun e w' => e = .returned (.tuple #[.int .u32 (n26 : Int), .int .i64 0]) ∧ u = w' := fun u => by
    have hlen : S26.data.toList.length = 4 := by rw [HS26.out, str_data, List.length_take, List.length_drop, hl]; omega
    have hgot := got_yes 4 S26.data.toList hlen
    have := get32_w S26 u (by rw [show S26.size = S26.data.toList.length from rfl, hlen]; decide)
    rw [hgot.1, hgot.2, HS26.out, str_data] at this
    rw [HS26.out, Hn26.out]
    exact this
  have hx18 : s.extract 18 22 = str ((s.data.toList.drop 18).take 4) := extract_str s 18 22
  obtain ⟨S18, HS18⟩ := named (str ((s.data.toList.drop 18).take 4))
  rw [← HS18.out] at hx18
  obtain ⟨n18, Hn18⟩ := named (atL s.data.toList 18 4)
  have hg18 : ∀ u, Calls Try.prog 89 #[.string S18] u fun e w' => e = .returned (.tuple #[.int .u32 (n18 : Int), .int .i64 0]) ∧ u = w' := fun u => by
    have hlen : S18.data.toList.length = 4 := by rw [HS18.out, str_data, List.length_take, List.length_drop, hl]; omega
    have hgot := got_yes 4 S18.data.toList hlen
    have := get32_w S18 u (by rw [show S18.size = S18.data.toList.length from rfl, hlen]; decide)
    rw [hgot.1, hgot.2, HS18.out, str_data] at this
    rw [HS18.out, Hn18.out]
    exact this
  have hx0 : s.extract 0 26 = str (s.data.toList.take 26) := by rw [extract_str]; rfl
  obtain ⟨S0, HS0⟩ := named (str (s.data.toList.take 26))
  rw [← HS0.out] at hx0
  obtain ⟨sm, Hsm⟩ := named (crcOf (s.data.toList.take 26))
  have hsum : ∀ u, Calls Try.prog 23 #[.string S0] u fun e w' => e = .returned (.int .u32 (sm : Int)) ∧ u = w' := fun u => by
    have := sum_w S0 u (by rw [HS0.out, str_size, List.length_take]; unfold maxLen; omega)
    rw [HS0.out, str_data] at this
    rw [HS0.out, Hsm.out]
    exact this
  have hz26 : (26 : Int) ≤ (s.size : Int) := by omega
  have hz22 : (22 : Int) ≤ (s.size : Int) := by omega
  have hz18 : (18 : Int) ≤ (s.size : Int) := by omega
  have hz10 : (10 : Int) ≤ (s.size : Int) := by omega
  have hz2 : (2 : Int) ≤ (s.size : Int) := by omega
  have hown : ((n26 : Int) != (sm : Int)) = true := by rw [Hn26.out, Hsm.out]; simp; omega
  clear h0 h1 h3 g0 g1 hl h Hn26 Hn18 HS26 HS18 HS0 Hsm
  have hK := blk_head w
  have hb := below_alloc w (.cells #[.int .u8 0, .int .u64 0, .int .u64 0, .int .i64 0, .int .u32 0] 87)
  go_enter Try.func56, Try.ntmps56
  go_wp2_with fail
  obtain ⟨W, HW⟩ := named (w.alloc (.cells #[.int .u8 0, .int .u64 0, .int .u64 0, .int .i64 0, .int .u32 0] 87))
  rw [← HW.out] at hK hb ⊢
  clear HW
  refine region_flat _ (fun u => Below W.heap.size W u) (fun u u' => Below u.heap.size u u')
    (rel [fun v _ => v = .string s,
      fun v _ => v = .int .i64 (s.size : Int),
      fun v _ => v = .bool false,
      fun v _ => v = .bool false,
      fun v _ => v = .string s,
      fun v _ => v = .int .u8 (s0.toNat : Int),
      fun v _ => v = .bool false,
      fun v _ => v = .bool false,
      fun v _ => v = .bool false,
      fun v _ => v = .string s,
      fun v _ => v = .int .u8 (s1.toNat : Int),
      fun v _ => v = .bool false,
      fun v _ => v = .bool false,
      fun v _ => v = .bool false,
      fun v _ => v = .string s,
      fun v _ => v = .string Rs,
      fun v u => ∃ g, v = .slice (some ⟨g, 0, none⟩) 34 34 ∧ Blk u g (cellsOf (List.replicate 34 0)) 5,
      fun v _ => v = .string Z,
      fun v _ => v = .bool false,
      fun v _ => v = .bool false])
    (by kernel_rfl) (by kernel_rfl) (fun v => by simp only [putsV, Act.put, List.toList_toArray, List.setIfInBounds_toArray, List.set_cons_zero, List.set_cons_succ, Nat.reduceAdd, Nat.zero_add]; rfl) ?_ (Below.refl _ _).drew ?_ ?_
  · intro j x u u' hb h
    match j with
    | 0 => exact h
    | 1 => exact h
    | 2 => exact h
    | 3 => exact h
    | 4 => exact h
    | 5 => exact h
    | 6 => exact h
    | 7 => exact h
    | 8 => exact h
    | 9 => exact h
    | 10 => exact h
    | 11 => exact h
    | 12 => exact h
    | 13 => exact h
    | 14 => exact h
    | 15 => exact h
    | 16 => exact (let ⟨g, e, hg⟩ := h; ⟨g, e, hg.below hb⟩)
    | 17 => exact h
    | 18 => exact h
    | 19 => exact h
    | _ + 20 => trivial
  · refine ⟨?_, ?_, ?_, ?_, ?_, ?_, ?_, ?_, ?_, ?_, ?_, ?_, ?_, ?_, ?_, ?_, ?_, ?_, ?_, ?_, trivial⟩
    · intro v u hS hd K' hK
      simp only [waited, List.toList_toArray, Region.binds, rel, List.getD_cons_zero, List.getD_cons_succ, true_imp_iff, and_true] at hd
      simp only [rel, List.getD_cons_zero, List.getD_cons_succ, Act.put, List.setIfInBounds_toArray, List.set_cons_zero, List.set_cons_succ] at hK
      try simp only [hd] at hK
      have hS1 := hS
      go_simp
      exact hK.out _ _ ⟨hS1, Below.refl _ _, rfl⟩
    · intro v u hS hd K' hK
      simp only [waited, List.toList_toArray, Region.binds, rel, List.getD_cons_zero, List.getD_cons_succ, true_imp_iff, and_true] at hd
      simp only [rel, List.getD_cons_zero, List.getD_cons_succ, Act.put, List.setIfInBounds_toArray, List.set_cons_zero, List.set_cons_succ] at hK
      try simp only [hd] at hK
      have hS1 := hS
      go_simp
      exact hK.out _ _ ⟨hS1, Below.refl _ _, rfl⟩
    · intro v u hS hd K' hK
      simp only [waited, List.toList_toArray, Region.binds, rel, List.getD_cons_zero, List.getD_cons_succ, true_imp_iff, and_true] at hd
      simp only [rel, List.getD_cons_zero, List.getD_cons_succ, Act.put, List.setIfInBounds_toArray, List.set_cons_zero, List.set_cons_succ] at hK
      try simp only [hd] at hK
      have hS1 := hS
      go_simp
      exact hK.out _ _ ⟨hS1, Below.refl _ _, rfl⟩
    · intro v u hS hd K' hK
      simp only [waited, List.toList_toArray, Region.binds, rel, List.getD_cons_zero, List.getD_cons_succ, true_imp_iff, and_true] at hd
      simp only [rel, List.getD_cons_zero, List.getD_cons_succ, Act.put, List.setIfInBounds_toArray, List.set_cons_zero, List.set_cons_succ] at hK
      try simp only [hd] at hK
      have hS1 := hS
      go_simp
      exact hK.out _ _ ⟨hS1, Below.refl _ _, rfl⟩
    · intro v u hS hd K' hK
      simp only [waited, List.toList_toArray, Region.binds, rel, List.getD_cons_zero, List.getD_cons_succ, true_imp_iff, and_true] at hd
      simp only [rel, List.getD_cons_zero, List.getD_cons_succ, Act.put, List.setIfInBounds_toArray, List.set_cons_zero, List.set_cons_succ] at hK
      try simp only [hd] at hK
      have hS1 := hS
      go_simp
      exact hK.out _ _ ⟨hS1, Below.refl _ _, rfl⟩
    · intro v u hS hd K' hK
      simp only [waited, List.toList_toArray, Region.binds, rel, List.getD_cons_zero, List.getD_cons_succ, true_imp_iff, and_true] at hd
      simp only [rel, List.getD_cons_zero, List.getD_cons_succ, Act.put, List.setIfInBounds_toArray, List.set_cons_zero, List.set_cons_succ] at hK
      try simp only [hd] at hK
      have hS1 := hS
      go_simp
      exact hK.out _ _ ⟨hS1, Below.refl _ _, rfl⟩
    · intro v u hS hd K' hK
      simp only [waited, List.toList_toArray, Region.binds, rel, List.getD_cons_zero, List.getD_cons_succ, true_imp_iff, and_true] at hd
      simp only [rel, List.getD_cons_zero, List.getD_cons_succ, Act.put, List.setIfInBounds_toArray, List.set_cons_zero, List.set_cons_succ] at hK
      try simp only [hd] at hK
      have hS1 := hS
      go_simp
      exact hK.out _ _ ⟨hS1, Below.refl _ _, rfl⟩
    · intro v u hS hd K' hK
      simp only [waited, List.toList_toArray, Region.binds, rel, List.getD_cons_zero, List.getD_cons_succ, true_imp_iff, and_true] at hd
      simp only [rel, List.getD_cons_zero, List.getD_cons_succ, Act.put, List.setIfInBounds_toArray, List.set_cons_zero, List.set_cons_succ] at hK
      try simp only [hd] at hK
      have hS1 := hS
      go_simp
      exact hK.out _ _ ⟨hS1, Below.refl _ _, rfl⟩
    · intro v u hS hd K' hK
      simp only [waited, List.toList_toArray, Region.binds, rel, List.getD_cons_zero, List.getD_cons_succ, true_imp_iff, and_true] at hd
      simp only [rel, List.getD_cons_zero, List.getD_cons_succ, Act.put, List.setIfInBounds_toArray, List.set_cons_zero, List.set_cons_succ] at hK
      try simp only [hd] at hK
      have hS1 := hS
      go_simp
      exact hK.out _ _ ⟨hS1, Below.refl _ _, rfl⟩
    · intro v u hS hd K' hK
      simp only [waited, List.toList_toArray, Region.binds, rel, List.getD_cons_zero, List.getD_cons_succ, true_imp_iff, and_true] at hd
      simp only [rel, List.getD_cons_zero, List.getD_cons_succ, Act.put, List.setIfInBounds_toArray, List.set_cons_zero, List.set_cons_succ] at hK
      try simp only [hd] at hK
      have hS1 := hS
      go_simp
      exact hK.out _ _ ⟨hS1, Below.refl _ _, rfl⟩
    · intro v u hS hd K' hK
      simp only [waited, List.toList_toArray, Region.binds, rel, List.getD_cons_zero, List.getD_cons_succ, true_imp_iff, and_true] at hd
      simp only [rel, List.getD_cons_zero, List.getD_cons_succ, Act.put, List.setIfInBounds_toArray, List.set_cons_zero, List.set_cons_succ] at hK
      try simp only [hd] at hK
      have hS1 := hS
      go_simp
      exact hK.out _ _ ⟨hS1, Below.refl _ _, rfl⟩
    · intro v u hS hd K' hK
      simp only [waited, List.toList_toArray, Region.binds, rel, List.getD_cons_zero, List.getD_cons_succ, true_imp_iff, and_true] at hd
      simp only [rel, List.getD_cons_zero, List.getD_cons_succ, Act.put, List.setIfInBounds_toArray, List.set_cons_zero, List.set_cons_succ] at hK
      try simp only [hd] at hK
      have hS1 := hS
      go_simp
      exact hK.out _ _ ⟨hS1, Below.refl _ _, rfl⟩
    · intro v u hS hd K' hK
      simp only [waited, List.toList_toArray, Region.binds, rel, List.getD_cons_zero, List.getD_cons_succ, true_imp_iff, and_true] at hd
      simp only [rel, List.getD_cons_zero, List.getD_cons_succ, Act.put, List.setIfInBounds_toArray, List.set_cons_zero, List.set_cons_succ] at hK
      try simp only [hd] at hK
      have hS1 := hS
      go_simp
      exact hK.out _ _ ⟨hS1, Below.refl _ _, rfl⟩
    · intro v u hS hd K' hK
      simp only [waited, List.toList_toArray, Region.binds, rel, List.getD_cons_zero, List.getD_cons_succ, true_imp_iff, and_true] at hd
      simp only [rel, List.getD_cons_zero, List.getD_cons_succ, Act.put, List.setIfInBounds_toArray, List.set_cons_zero, List.set_cons_succ] at hK
      try simp only [hd] at hK
      have hS1 := hS
      go_simp
      exact hK.out _ _ ⟨hS1, Below.refl _ _, rfl⟩
    · intro v u hS hd K' hK
      simp only [waited, List.toList_toArray, Region.binds, rel, List.getD_cons_zero, List.getD_cons_succ, true_imp_iff, and_true] at hd
      simp only [rel, List.getD_cons_zero, List.getD_cons_succ, Act.put, List.setIfInBounds_toArray, List.set_cons_zero, List.set_cons_succ] at hK
      try simp only [hd] at hK
      have hS1 := hS
      go_simp
      exact hK.out _ _ ⟨hS1, Below.refl _ _, rfl⟩
    · intro v u hS hd K' hK
      simp only [waited, List.toList_toArray, Region.binds, rel, List.getD_cons_zero, List.getD_cons_succ, true_imp_iff, and_true] at hd
      simp only [rel, List.getD_cons_zero, List.getD_cons_succ, Act.put, List.setIfInBounds_toArray, List.set_cons_zero, List.set_cons_succ] at hK
      try simp only [hd] at hK
      have hS1 := hS
      go_simp
      exact hK.out _ _ ⟨hS1, Below.refl _ _, rfl⟩
    · intro v u hS hd K' hK
      simp only [waited, List.toList_toArray, Region.binds, rel, List.getD_cons_zero, List.getD_cons_succ, true_imp_iff, and_true] at hd
      simp only [rel, List.getD_cons_zero, List.getD_cons_succ, Act.put, List.setIfInBounds_toArray, List.set_cons_zero, List.set_cons_succ] at hK
      try simp only [hd] at hK
      have hS1 := hS
      have hx := hmk u
      go_simp
      exact hK.out _ _ ⟨hS1.alloc hS1.size _, below_alloc _ _, ⟨_, rfl, Blk.new _ _ _⟩⟩
    · intro v u hS hd K' hK
      simp only [waited, List.toList_toArray, Region.binds, rel, List.getD_cons_zero, List.getD_cons_succ, true_imp_iff, and_true] at hd
      simp only [rel, List.getD_cons_zero, List.getD_cons_succ, Act.put, List.setIfInBounds_toArray, List.set_cons_zero, List.set_cons_succ] at hK
      try simp only [hd] at hK
      have hS1 := hS
      have hx := hcvZ _ _ hd.1
      go_simp
      exact hK.out _ _ ⟨hS1, Below.refl _ _, rfl⟩
    · intro v u hS hd K' hK
      simp only [waited, List.toList_toArray, Region.binds, rel, List.getD_cons_zero, List.getD_cons_succ, true_imp_iff, and_true] at hd
      simp only [rel, List.getD_cons_zero, List.getD_cons_succ, Act.put, List.setIfInBounds_toArray, List.set_cons_zero, List.set_cons_succ] at hK
      try simp only [hd] at hK
      have hS1 := hS
      go_simp
      exact hK.out _ _ ⟨hS1, Below.refl _ _, rfl⟩
    · intro v u hS hd K' hK
      simp only [waited, List.toList_toArray, Region.binds, rel, List.getD_cons_zero, List.getD_cons_succ, true_imp_iff, and_true] at hd
      simp only [rel, List.getD_cons_zero, List.getD_cons_succ, Act.put, List.setIfInBounds_toArray, List.set_cons_zero, List.set_cons_succ] at hK
      try simp only [hd] at hK
      have hS1 := hS
      go_simp
      exact hK.out _ _ ⟨hS1, Below.refl _ _, rfl⟩
  · rintro v u hS1 hR
    simp only [holdAll, List.size_toArray, List.length_cons, List.length_nil, Nat.reduceAdd, rel, List.getD_cons_zero, List.getD_cons_succ] at hR
    obtain ⟨_, h19⟩ := hR
    simp only [h19]
    clear h19
    have kk := hK.below hS1
    have bb := bt hb hS1
    clear hK hb hS1
    go_wp2_with fail
    refine (hg26 _).mono ?_
    rintro e w2 ⟨rfl, rfl⟩
    go_wp2_with fail
    refine (hg18 _).mono ?_
    rintro e w2 ⟨rfl, rfl⟩
    go_wp2_with fail
    refine (hsum _).mono ?_
    rintro e w2 ⟨rfl, rfl⟩
    have r0 := kk.cell 0
    have r1 := kk.cell 1
    have r2 := kk.cell 2
    have r3 := kk.cell 3
    have r4 := kk.cell 4
    have z0 := kk.free 0
    have z1 := kk.free 1
    have z2 := kk.free 2
    have z3 := kk.free 3
    have z4 := kk.free 4
    go_wp2
    refine bodyPost_ret (v := .tuple #[.agg #[.int .u8 0, .int .u64 0, .int .u64 0, .int .i64 0, .int .u32 0], .int .i64 14]) (by simp [results, Try.results56, go_sem, r0, r1, r2, r3, r4]) rfl ?_
    exact ⟨rfl, below5 bb (Nat.le_refl _) (.int .u8 0) (.int .u64 0) (.int .u64 0) (.int .i64 0) (.int .u32 0)⟩
set_option maxHeartbeats 4000000 in
set_option maxRecDepth 100000 in
theorem recHead_G (s : ByteArray) (w : World) (h : s.size = 64) (h0 : s.data.toList.getD 0 0 = 72) (h1 : s.data.toList.getD 1 0 ≠ 0) (h2 : s.data.toList.drop 30 = List.replicate 34 0) (h3 : atL s.data.toList 26 4 = crcOf (s.data.toList.take 26)) (h4 : 16384 < atL s.data.toList 18 4) :
    Calls Try.prog 56 #[.string s] w fun e w' => e = .returned (.tuple #[zeroHead, .int .i64 14]) ∧ Below w.heap.size w w' := by
  have hne : ((s.size : Int) != 64) = false := by simp; omega
  have hl : s.data.toList.length = s.size := Array.length_toList
  have hsz : (0 : Int) < (s.size : Int) := by omega
  have hsz1 : (1 : Int) < (s.size : Int) := by omega
  have hsz30 : (30 : Int) ≤ (s.size : Int) := by omega
  have hszn : 0 < s.size := by omega
  have hszn1 : 1 < s.size := by omega
  obtain ⟨s0, e0⟩ : ∃ x, s[0] = x := ⟨_, rfl⟩
  obtain ⟨s1, e1⟩ : ∃ x, s[1] = x := ⟨_, rfl⟩
  have g0 : s.data.toList.getD 0 0 = s0 := by rw [← e0, List.getD_eq_getElem?_getD, List.getElem?_eq_getElem (by omega)]; rfl
  have g1 : s.data.toList.getD 1 0 = s1 := by rw [← e1, List.getD_eq_getElem?_getD, List.getElem?_eq_getElem (by omega)]; rfl
  have hb0 : ((s0.toNat : Int) != 72) = false := by
    have : s0 = 72 := by rw [← g0]; exact h0
    subst this; rfl
  have hb1 : ((s1.toNat : Int) == 0) = false := by
    have : s1.toNat ≠ 0 := fun e => h1 (by rw [g1]; exact UInt8.toNat_inj.1 e)
    simp; omega
  obtain ⟨Rs, HRs⟩ := named (str (s.data.toList.drop 30))
  have hRs : s.extract 30 s.size = Rs := by
    rw [HRs.out, extract_str, List.take_of_length_le (by rw [List.length_drop, hl]; exact Nat.le_refl _)]
  obtain ⟨Z, HZ⟩ := named (str (List.replicate 34 0))
  have hcvZ : ∀ v u, (∃ g, v = .slice (some ⟨g, 0, none⟩) 34 34 ∧ Blk u g (cellsOf (List.replicate 34 0)) 5) → (convert 56 9 v).run Try.prog u = .ok (.string Z) u := by
    rintro v u ⟨g, rfl, hg⟩
    rw [HZ.out]
    exact conv_blk hg _ _ _ Try.underlying56 Try.underlying5 Try.underlying9 34 (by simp)
  have hmk := fun w => run_make_row' (P := Try.prog) 56 5 (.int .u8 0) 1 Try.underlying56 Try.info5 rfl .i64 .i64 34 (by omega) (by omega) w
  rw [made_zeros] at hmk
  rw [show ((34 : Nat) : Int) = 34 from rfl] at hmk
  have hbZ : (Rs.toList == Z.toList) = true := by
    rw [HRs.out, HZ.out, str_toList, str_toList, h2]
    simp
  clear HRs HZ h2
  have hx26 : s.extract 26 30 = str ((s.data.toList.drop 26).take 4) := extract_str s 26 30
  obtain ⟨S26, HS26⟩ := named (str ((s.data.toList.drop 26).take 4))
  rw [← HS26.out] at hx26
  obtain ⟨n26, Hn26⟩ := named (atL s.data.toList 26 4)
  have hg26 : ∀ u, Calls Try.prog 89 #[.string S26] u fun e w' => e = .returned (.tuple #[.int .u32 (n26 : Int), .int .i64 0]) ∧ u = w' := fun u => by
    have hlen : S26.data.toList.length = 4 := by rw [HS26.out, str_data, List.length_take, List.length_drop, hl]; omega
    have hgot := got_yes 4 S26.data.toList hlen
    have := get32_w S26 u (by rw [show S26.size = S26.data.toList.length from rfl, hlen]; decide)
    rw [hgot.1, hgot.2, HS26.out, str_data] at this
    rw [HS26.out, Hn26.out]
    exact this
  have hx18 : s.extract 18 22 = str ((s.data.toList.drop 18).take 4) := extract_str s 18 22
  obtain ⟨S18, HS18⟩ := named (str ((s.data.toList.drop 18).take 4))
  rw [← HS18.out] at hx18
  obtain ⟨n18, Hn18⟩ := named (atL s.data.toList 18 4)
  have hg18 : ∀ u, Calls Try.prog 89 #[.string S18] u fun e w' => e = .returned (.tuple #[.int .u32 (n18 : Int), .int .i64 0]) ∧ u = w' := fun u => by
    have hlen : S18.data.toList.length = 4 := by rw [HS18.out, str_data, List.length_take, List.length_drop, hl]; omega
    have hgot := got_yes 4 S18.data.toList hlen
    have := get32_w S18 u (by rw [show S18.size = S18.data.toList.length from rfl, hlen]; decide)
    rw [hgot.1, hgot.2, HS18.out, str_data] at this
    rw [HS18.out, Hn18.out]
    exact this
  have hx0 : s.extract 0 26 = str (s.data.toList.take 26) := by rw [extract_str]; rfl
  obtain ⟨S0, HS0⟩ := named (str (s.data.toList.take 26))
  rw [← HS0.out] at hx0
  obtain ⟨sm, Hsm⟩ := named (crcOf (s.data.toList.take 26))
  have hsum : ∀ u, Calls Try.prog 23 #[.string S0] u fun e w' => e = .returned (.int .u32 (sm : Int)) ∧ u = w' := fun u => by
    have := sum_w S0 u (by rw [HS0.out, str_size, List.length_take]; unfold maxLen; omega)
    rw [HS0.out, str_data] at this
    rw [HS0.out, Hsm.out]
    exact this
  have hz26 : (26 : Int) ≤ (s.size : Int) := by omega
  have hz22 : (22 : Int) ≤ (s.size : Int) := by omega
  have hz18 : (18 : Int) ≤ (s.size : Int) := by omega
  have hz10 : (10 : Int) ≤ (s.size : Int) := by omega
  have hz2 : (2 : Int) ≤ (s.size : Int) := by omega
  have hown : ((n26 : Int) != (sm : Int)) = false := by rw [Hn26.out, Hsm.out, h3]; simp
  have hmax : (16384 : Int) < (n18 : Int) := by rw [Hn18.out]; omega
  clear h0 h1 h3 h4 g0 g1 hl h Hn26 Hn18 HS26 HS18 HS0 Hsm
  have hK := blk_head w
  have hb := below_alloc w (.cells #[.int .u8 0, .int .u64 0, .int .u64 0, .int .i64 0, .int .u32 0] 87)
  go_enter Try.func56, Try.ntmps56
  go_wp2_with fail
  obtain ⟨W, HW⟩ := named (w.alloc (.cells #[.int .u8 0, .int .u64 0, .int .u64 0, .int .i64 0, .int .u32 0] 87))
  rw [← HW.out] at hK hb ⊢
  clear HW
  refine region_flat _ (fun u => Below W.heap.size W u) (fun u u' => Below u.heap.size u u')
    (rel [fun v _ => v = .string s,
      fun v _ => v = .int .i64 (s.size : Int),
      fun v _ => v = .bool false,
      fun v _ => v = .bool false,
      fun v _ => v = .string s,
      fun v _ => v = .int .u8 (s0.toNat : Int),
      fun v _ => v = .bool false,
      fun v _ => v = .bool false,
      fun v _ => v = .bool false,
      fun v _ => v = .string s,
      fun v _ => v = .int .u8 (s1.toNat : Int),
      fun v _ => v = .bool false,
      fun v _ => v = .bool false,
      fun v _ => v = .bool false,
      fun v _ => v = .string s,
      fun v _ => v = .string Rs,
      fun v u => ∃ g, v = .slice (some ⟨g, 0, none⟩) 34 34 ∧ Blk u g (cellsOf (List.replicate 34 0)) 5,
      fun v _ => v = .string Z,
      fun v _ => v = .bool false,
      fun v _ => v = .bool false])
    (by kernel_rfl) (by kernel_rfl) (fun v => by simp only [putsV, Act.put, List.toList_toArray, List.setIfInBounds_toArray, List.set_cons_zero, List.set_cons_succ, Nat.reduceAdd, Nat.zero_add]; rfl) ?_ (Below.refl _ _).drew ?_ ?_
  · intro j x u u' hb h
    match j with
    | 0 => exact h
    | 1 => exact h
    | 2 => exact h
    | 3 => exact h
    | 4 => exact h
    | 5 => exact h
    | 6 => exact h
    | 7 => exact h
    | 8 => exact h
    | 9 => exact h
    | 10 => exact h
    | 11 => exact h
    | 12 => exact h
    | 13 => exact h
    | 14 => exact h
    | 15 => exact h
    | 16 => exact (let ⟨g, e, hg⟩ := h; ⟨g, e, hg.below hb⟩)
    | 17 => exact h
    | 18 => exact h
    | 19 => exact h
    | _ + 20 => trivial
  · refine ⟨?_, ?_, ?_, ?_, ?_, ?_, ?_, ?_, ?_, ?_, ?_, ?_, ?_, ?_, ?_, ?_, ?_, ?_, ?_, ?_, trivial⟩
    · intro v u hS hd K' hK
      simp only [waited, List.toList_toArray, Region.binds, rel, List.getD_cons_zero, List.getD_cons_succ, true_imp_iff, and_true] at hd
      simp only [rel, List.getD_cons_zero, List.getD_cons_succ, Act.put, List.setIfInBounds_toArray, List.set_cons_zero, List.set_cons_succ] at hK
      try simp only [hd] at hK
      have hS1 := hS
      go_simp
      exact hK.out _ _ ⟨hS1, Below.refl _ _, rfl⟩
    · intro v u hS hd K' hK
      simp only [waited, List.toList_toArray, Region.binds, rel, List.getD_cons_zero, List.getD_cons_succ, true_imp_iff, and_true] at hd
      simp only [rel, List.getD_cons_zero, List.getD_cons_succ, Act.put, List.setIfInBounds_toArray, List.set_cons_zero, List.set_cons_succ] at hK
      try simp only [hd] at hK
      have hS1 := hS
      go_simp
      exact hK.out _ _ ⟨hS1, Below.refl _ _, rfl⟩
    · intro v u hS hd K' hK
      simp only [waited, List.toList_toArray, Region.binds, rel, List.getD_cons_zero, List.getD_cons_succ, true_imp_iff, and_true] at hd
      simp only [rel, List.getD_cons_zero, List.getD_cons_succ, Act.put, List.setIfInBounds_toArray, List.set_cons_zero, List.set_cons_succ] at hK
      try simp only [hd] at hK
      have hS1 := hS
      go_simp
      exact hK.out _ _ ⟨hS1, Below.refl _ _, rfl⟩
    · intro v u hS hd K' hK
      simp only [waited, List.toList_toArray, Region.binds, rel, List.getD_cons_zero, List.getD_cons_succ, true_imp_iff, and_true] at hd
      simp only [rel, List.getD_cons_zero, List.getD_cons_succ, Act.put, List.setIfInBounds_toArray, List.set_cons_zero, List.set_cons_succ] at hK
      try simp only [hd] at hK
      have hS1 := hS
      go_simp
      exact hK.out _ _ ⟨hS1, Below.refl _ _, rfl⟩
    · intro v u hS hd K' hK
      simp only [waited, List.toList_toArray, Region.binds, rel, List.getD_cons_zero, List.getD_cons_succ, true_imp_iff, and_true] at hd
      simp only [rel, List.getD_cons_zero, List.getD_cons_succ, Act.put, List.setIfInBounds_toArray, List.set_cons_zero, List.set_cons_succ] at hK
      try simp only [hd] at hK
      have hS1 := hS
      go_simp
      exact hK.out _ _ ⟨hS1, Below.refl _ _, rfl⟩
    · intro v u hS hd K' hK
      simp only [waited, List.toList_toArray, Region.binds, rel, List.getD_cons_zero, List.getD_cons_succ, true_imp_iff, and_true] at hd
      simp only [rel, List.getD_cons_zero, List.getD_cons_succ, Act.put, List.setIfInBounds_toArray, List.set_cons_zero, List.set_cons_succ] at hK
      try simp only [hd] at hK
      have hS1 := hS
      go_simp
      exact hK.out _ _ ⟨hS1, Below.refl _ _, rfl⟩
    · intro v u hS hd K' hK
      simp only [waited, List.toList_toArray, Region.binds, rel, List.getD_cons_zero, List.getD_cons_succ, true_imp_iff, and_true] at hd
      simp only [rel, List.getD_cons_zero, List.getD_cons_succ, Act.put, List.setIfInBounds_toArray, List.set_cons_zero, List.set_cons_succ] at hK
      try simp only [hd] at hK
      have hS1 := hS
      go_simp
      exact hK.out _ _ ⟨hS1, Below.refl _ _, rfl⟩
    · intro v u hS hd K' hK
      simp only [waited, List.toList_toArray, Region.binds, rel, List.getD_cons_zero, List.getD_cons_succ, true_imp_iff, and_true] at hd
      simp only [rel, List.getD_cons_zero, List.getD_cons_succ, Act.put, List.setIfInBounds_toArray, List.set_cons_zero, List.set_cons_succ] at hK
      try simp only [hd] at hK
      have hS1 := hS
      go_simp
      exact hK.out _ _ ⟨hS1, Below.refl _ _, rfl⟩
    · intro v u hS hd K' hK
      simp only [waited, List.toList_toArray, Region.binds, rel, List.getD_cons_zero, List.getD_cons_succ, true_imp_iff, and_true] at hd
      simp only [rel, List.getD_cons_zero, List.getD_cons_succ, Act.put, List.setIfInBounds_toArray, List.set_cons_zero, List.set_cons_succ] at hK
      try simp only [hd] at hK
      have hS1 := hS
      go_simp
      exact hK.out _ _ ⟨hS1, Below.refl _ _, rfl⟩
    · intro v u hS hd K' hK
      simp only [waited, List.toList_toArray, Region.binds, rel, List.getD_cons_zero, List.getD_cons_succ, true_imp_iff, and_true] at hd
      simp only [rel, List.getD_cons_zero, List.getD_cons_succ, Act.put, List.setIfInBounds_toArray, List.set_cons_zero, List.set_cons_succ] at hK
      try simp only [hd] at hK
      have hS1 := hS
      go_simp
      exact hK.out _ _ ⟨hS1, Below.refl _ _, rfl⟩
    · intro v u hS hd K' hK
      simp only [waited, List.toList_toArray, Region.binds, rel, List.getD_cons_zero, List.getD_cons_succ, true_imp_iff, and_true] at hd
      simp only [rel, List.getD_cons_zero, List.getD_cons_succ, Act.put, List.setIfInBounds_toArray, List.set_cons_zero, List.set_cons_succ] at hK
      try simp only [hd] at hK
      have hS1 := hS
      go_simp
      exact hK.out _ _ ⟨hS1, Below.refl _ _, rfl⟩
    · intro v u hS hd K' hK
      simp only [waited, List.toList_toArray, Region.binds, rel, List.getD_cons_zero, List.getD_cons_succ, true_imp_iff, and_true] at hd
      simp only [rel, List.getD_cons_zero, List.getD_cons_succ, Act.put, List.setIfInBounds_toArray, List.set_cons_zero, List.set_cons_succ] at hK
      try simp only [hd] at hK
      have hS1 := hS
      go_simp
      exact hK.out _ _ ⟨hS1, Below.refl _ _, rfl⟩
    · intro v u hS hd K' hK
      simp only [waited, List.toList_toArray, Region.binds, rel, List.getD_cons_zero, List.getD_cons_succ, true_imp_iff, and_true] at hd
      simp only [rel, List.getD_cons_zero, List.getD_cons_succ, Act.put, List.setIfInBounds_toArray, List.set_cons_zero, List.set_cons_succ] at hK
      try simp only [hd] at hK
      have hS1 := hS
      go_simp
      exact hK.out _ _ ⟨hS1, Below.refl _ _, rfl⟩
    · intro v u hS hd K' hK
      simp only [waited, List.toList_toArray, Region.binds, rel, List.getD_cons_zero, List.getD_cons_succ, true_imp_iff, and_true] at hd
      simp only [rel, List.getD_cons_zero, List.getD_cons_succ, Act.put, List.setIfInBounds_toArray, List.set_cons_zero, List.set_cons_succ] at hK
      try simp only [hd] at hK
      have hS1 := hS
      go_simp
      exact hK.out _ _ ⟨hS1, Below.refl _ _, rfl⟩
    · intro v u hS hd K' hK
      simp only [waited, List.toList_toArray, Region.binds, rel, List.getD_cons_zero, List.getD_cons_succ, true_imp_iff, and_true] at hd
      simp only [rel, List.getD_cons_zero, List.getD_cons_succ, Act.put, List.setIfInBounds_toArray, List.set_cons_zero, List.set_cons_succ] at hK
      try simp only [hd] at hK
      have hS1 := hS
      go_simp
      exact hK.out _ _ ⟨hS1, Below.refl _ _, rfl⟩
    · intro v u hS hd K' hK
      simp only [waited, List.toList_toArray, Region.binds, rel, List.getD_cons_zero, List.getD_cons_succ, true_imp_iff, and_true] at hd
      simp only [rel, List.getD_cons_zero, List.getD_cons_succ, Act.put, List.setIfInBounds_toArray, List.set_cons_zero, List.set_cons_succ] at hK
      try simp only [hd] at hK
      have hS1 := hS
      go_simp
      exact hK.out _ _ ⟨hS1, Below.refl _ _, rfl⟩
    · intro v u hS hd K' hK
      simp only [waited, List.toList_toArray, Region.binds, rel, List.getD_cons_zero, List.getD_cons_succ, true_imp_iff, and_true] at hd
      simp only [rel, List.getD_cons_zero, List.getD_cons_succ, Act.put, List.setIfInBounds_toArray, List.set_cons_zero, List.set_cons_succ] at hK
      try simp only [hd] at hK
      have hS1 := hS
      have hx := hmk u
      go_simp
      exact hK.out _ _ ⟨hS1.alloc hS1.size _, below_alloc _ _, ⟨_, rfl, Blk.new _ _ _⟩⟩
    · intro v u hS hd K' hK
      simp only [waited, List.toList_toArray, Region.binds, rel, List.getD_cons_zero, List.getD_cons_succ, true_imp_iff, and_true] at hd
      simp only [rel, List.getD_cons_zero, List.getD_cons_succ, Act.put, List.setIfInBounds_toArray, List.set_cons_zero, List.set_cons_succ] at hK
      try simp only [hd] at hK
      have hS1 := hS
      have hx := hcvZ _ _ hd.1
      go_simp
      exact hK.out _ _ ⟨hS1, Below.refl _ _, rfl⟩
    · intro v u hS hd K' hK
      simp only [waited, List.toList_toArray, Region.binds, rel, List.getD_cons_zero, List.getD_cons_succ, true_imp_iff, and_true] at hd
      simp only [rel, List.getD_cons_zero, List.getD_cons_succ, Act.put, List.setIfInBounds_toArray, List.set_cons_zero, List.set_cons_succ] at hK
      try simp only [hd] at hK
      have hS1 := hS
      go_simp
      exact hK.out _ _ ⟨hS1, Below.refl _ _, rfl⟩
    · intro v u hS hd K' hK
      simp only [waited, List.toList_toArray, Region.binds, rel, List.getD_cons_zero, List.getD_cons_succ, true_imp_iff, and_true] at hd
      simp only [rel, List.getD_cons_zero, List.getD_cons_succ, Act.put, List.setIfInBounds_toArray, List.set_cons_zero, List.set_cons_succ] at hK
      try simp only [hd] at hK
      have hS1 := hS
      go_simp
      exact hK.out _ _ ⟨hS1, Below.refl _ _, rfl⟩
  · rintro v u hS1 hR
    simp only [holdAll, List.size_toArray, List.length_cons, List.length_nil, Nat.reduceAdd, rel, List.getD_cons_zero, List.getD_cons_succ] at hR
    obtain ⟨_, h19⟩ := hR
    simp only [h19]
    clear h19
    have kk := hK.below hS1
    have bb := bt hb hS1
    clear hK hb hS1
    go_wp2_with fail
    refine (hg26 _).mono ?_
    rintro e w2 ⟨rfl, rfl⟩
    go_wp2_with fail
    refine (hg18 _).mono ?_
    rintro e w2 ⟨rfl, rfl⟩
    go_wp2_with fail
    refine (hsum _).mono ?_
    rintro e w2 ⟨rfl, rfl⟩
    have r0 := kk.cell 0
    have r1 := kk.cell 1
    have r2 := kk.cell 2
    have r3 := kk.cell 3
    have r4 := kk.cell 4
    have z0 := kk.free 0
    have z1 := kk.free 1
    have z2 := kk.free 2
    have z3 := kk.free 3
    have z4 := kk.free 4
    go_wp2
    refine bodyPost_ret (v := .tuple #[.agg #[.int .u8 0, .int .u64 0, .int .u64 0, .int .i64 0, .int .u32 0], .int .i64 14]) (by simp [results, Try.results56, go_sem, r0, r1, r2, r3, r4]) rfl ?_
    exact ⟨rfl, below5 bb (Nat.le_refl _) (.int .u8 0) (.int .u64 0) (.int .u64 0) (.int .i64 0) (.int .u32 0)⟩
set_option maxHeartbeats 4000000 in
set_option maxRecDepth 100000 in
theorem recHead_yes (s : ByteArray) (w : World) (hok : HeadOk s.data.toList) :
    Calls Try.prog 56 #[.string s] w fun e w' => e = .returned (.tuple #[headVal s.data.toList, .int .i64 0]) ∧ Below w.heap.size w w' := by
  have hl : s.data.toList.length = s.size := Array.length_toList
  have h : s.size = 64 := by rw [← hl]; exact hok.size
  have h0 := hok.mark
  have h1 := hok.kind
  have h2 := hok.rest
  have h3 := hok.own
  have h4 := hok.len
  clear hok
  have hne : ((s.size : Int) != 64) = false := by simp; omega
  have hsz : (0 : Int) < (s.size : Int) := by omega
  have hsz1 : (1 : Int) < (s.size : Int) := by omega
  have hsz30 : (30 : Int) ≤ (s.size : Int) := by omega
  have hszn : 0 < s.size := by omega
  have hszn1 : 1 < s.size := by omega
  obtain ⟨s0, e0⟩ : ∃ x, s[0] = x := ⟨_, rfl⟩
  obtain ⟨s1, e1⟩ : ∃ x, s[1] = x := ⟨_, rfl⟩
  have g0 : s.data.toList.getD 0 0 = s0 := by rw [← e0, List.getD_eq_getElem?_getD, List.getElem?_eq_getElem (by omega)]; rfl
  have g1 : s.data.toList.getD 1 0 = s1 := by rw [← e1, List.getD_eq_getElem?_getD, List.getElem?_eq_getElem (by omega)]; rfl
  have hb0 : ((s0.toNat : Int) != 72) = false := by
    have : s0 = 72 := by rw [← g0]; exact h0
    subst this; rfl
  have hb1 : ((s1.toNat : Int) == 0) = false := by
    have : s1.toNat ≠ 0 := fun e => h1 (by rw [g1]; exact UInt8.toNat_inj.1 e)
    simp; omega
  obtain ⟨Rs, HRs⟩ := named (str (s.data.toList.drop 30))
  have hRs : s.extract 30 s.size = Rs := by
    rw [HRs.out, extract_str, List.take_of_length_le (by rw [List.length_drop, hl]; exact Nat.le_refl _)]
  obtain ⟨Z, HZ⟩ := named (str (List.replicate 34 0))
  have hcvZ : ∀ v u, (∃ g, v = .slice (some ⟨g, 0, none⟩) 34 34 ∧ Blk u g (cellsOf (List.replicate 34 0)) 5) → (convert 56 9 v).run Try.prog u = .ok (.string Z) u := by
    rintro v u ⟨g, rfl, hg⟩
    rw [HZ.out]
    exact conv_blk hg _ _ _ Try.underlying56 Try.underlying5 Try.underlying9 34 (by simp)
  have hmk := fun w => run_make_row' (P := Try.prog) 56 5 (.int .u8 0) 1 Try.underlying56 Try.info5 rfl .i64 .i64 34 (by omega) (by omega) w
  rw [made_zeros] at hmk
  rw [show ((34 : Nat) : Int) = 34 from rfl] at hmk
  have hbZ : (Rs.toList == Z.toList) = true := by
    rw [HRs.out, HZ.out, str_toList, str_toList, h2]
    simp
  clear HRs HZ h2
  have hx26 : s.extract 26 30 = str ((s.data.toList.drop 26).take 4) := extract_str s 26 30
  obtain ⟨S26, HS26⟩ := named (str ((s.data.toList.drop 26).take 4))
  rw [← HS26.out] at hx26
  obtain ⟨n26, Hn26⟩ := named (atL s.data.toList 26 4)
  have hg26 : ∀ u, Calls Try.prog 89 #[.string S26] u fun e w' => e = .returned (.tuple #[.int .u32 (n26 : Int), .int .i64 0]) ∧ u = w' := fun u => by
    have hlen : S26.data.toList.length = 4 := by rw [HS26.out, str_data, List.length_take, List.length_drop, hl]; omega
    have hgot := got_yes 4 S26.data.toList hlen
    have := get32_w S26 u (by rw [show S26.size = S26.data.toList.length from rfl, hlen]; decide)
    rw [hgot.1, hgot.2, HS26.out, str_data] at this
    rw [HS26.out, Hn26.out]
    exact this
  have hx18 : s.extract 18 22 = str ((s.data.toList.drop 18).take 4) := extract_str s 18 22
  obtain ⟨S18, HS18⟩ := named (str ((s.data.toList.drop 18).take 4))
  rw [← HS18.out] at hx18
  obtain ⟨n18, Hn18⟩ := named (atL s.data.toList 18 4)
  have hg18 : ∀ u, Calls Try.prog 89 #[.string S18] u fun e w' => e = .returned (.tuple #[.int .u32 (n18 : Int), .int .i64 0]) ∧ u = w' := fun u => by
    have hlen : S18.data.toList.length = 4 := by rw [HS18.out, str_data, List.length_take, List.length_drop, hl]; omega
    have hgot := got_yes 4 S18.data.toList hlen
    have := get32_w S18 u (by rw [show S18.size = S18.data.toList.length from rfl, hlen]; decide)
    rw [hgot.1, hgot.2, HS18.out, str_data] at this
    rw [HS18.out, Hn18.out]
    exact this
  have hx2 : s.extract 2 10 = str ((s.data.toList.drop 2).take 8) := extract_str s 2 10
  obtain ⟨S2, HS2⟩ := named (str ((s.data.toList.drop 2).take 8))
  rw [← HS2.out] at hx2
  obtain ⟨n2, Hn2⟩ := named (atL s.data.toList 2 8)
  have hg2 : ∀ u, Calls Try.prog 90 #[.string S2] u fun e w' => e = .returned (.tuple #[.int .u64 (n2 : Int), .int .i64 0]) ∧ u = w' := fun u => by
    have hlen : S2.data.toList.length = 8 := by rw [HS2.out, str_data, List.length_take, List.length_drop, hl]; omega
    have hgot := got_yes 8 S2.data.toList hlen
    have := get64_w S2 u
    rw [hgot.1, hgot.2, HS2.out, str_data] at this
    rw [HS2.out, Hn2.out]
    exact this
  have hx10 : s.extract 10 18 = str ((s.data.toList.drop 10).take 8) := extract_str s 10 18
  obtain ⟨S10, HS10⟩ := named (str ((s.data.toList.drop 10).take 8))
  rw [← HS10.out] at hx10
  obtain ⟨n10, Hn10⟩ := named (atL s.data.toList 10 8)
  have hg10 : ∀ u, Calls Try.prog 90 #[.string S10] u fun e w' => e = .returned (.tuple #[.int .u64 (n10 : Int), .int .i64 0]) ∧ u = w' := fun u => by
    have hlen : S10.data.toList.length = 8 := by rw [HS10.out, str_data, List.length_take, List.length_drop, hl]; omega
    have hgot := got_yes 8 S10.data.toList hlen
    have := get64_w S10 u
    rw [hgot.1, hgot.2, HS10.out, str_data] at this
    rw [HS10.out, Hn10.out]
    exact this
  have hx22 : s.extract 22 26 = str ((s.data.toList.drop 22).take 4) := extract_str s 22 26
  obtain ⟨S22, HS22⟩ := named (str ((s.data.toList.drop 22).take 4))
  rw [← HS22.out] at hx22
  obtain ⟨n22, Hn22⟩ := named (atL s.data.toList 22 4)
  have hg22 : ∀ u, Calls Try.prog 89 #[.string S22] u fun e w' => e = .returned (.tuple #[.int .u32 (n22 : Int), .int .i64 0]) ∧ u = w' := fun u => by
    have hlen : S22.data.toList.length = 4 := by rw [HS22.out, str_data, List.length_take, List.length_drop, hl]; omega
    have hgot := got_yes 4 S22.data.toList hlen
    have := get32_w S22 u (by rw [show S22.size = S22.data.toList.length from rfl, hlen]; decide)
    rw [hgot.1, hgot.2, HS22.out, str_data] at this
    rw [HS22.out, Hn22.out]
    exact this
  have hx0 : s.extract 0 26 = str (s.data.toList.take 26) := by rw [extract_str]; rfl
  obtain ⟨S0, HS0⟩ := named (str (s.data.toList.take 26))
  rw [← HS0.out] at hx0
  obtain ⟨sm, Hsm⟩ := named (crcOf (s.data.toList.take 26))
  have hsum : ∀ u, Calls Try.prog 23 #[.string S0] u fun e w' => e = .returned (.int .u32 (sm : Int)) ∧ u = w' := fun u => by
    have := sum_w S0 u (by rw [HS0.out, str_size, List.length_take]; unfold maxLen; omega)
    rw [HS0.out, str_data] at this
    rw [HS0.out, Hsm.out]
    exact this
  have hz26 : (26 : Int) ≤ (s.size : Int) := by omega
  have hz22 : (22 : Int) ≤ (s.size : Int) := by omega
  have hz18 : (18 : Int) ≤ (s.size : Int) := by omega
  have hz10 : (10 : Int) ≤ (s.size : Int) := by omega
  have hz2 : (2 : Int) ≤ (s.size : Int) := by omega
  have hown : ((n26 : Int) != (sm : Int)) = false := by rw [Hn26.out, Hsm.out, h3]; simp
  have hmax : (n18 : Int) ≤ 16384 := by rw [Hn18.out]; omega
  have hwr : IntKind.i64.wrap (n18 : Int) = (n18 : Int) := wrap_i64_nat' n18 (by omega)
  have hres : headVal s.data.toList = .agg #[.int .u8 (s1.toNat : Int), .int .u64 (n2 : Int), .int .u64 (n10 : Int), .int .i64 (n18 : Int), .int .u32 (n22 : Int)] := by
    rw [headVal, g1, Hn2.out, Hn10.out, Hn18.out, Hn22.out]
  rw [hres]
  clear hres h0 h1 h3 h4 g0 g1 hl h Hn26 Hn18 HS26 HS18 HS0 Hsm HS2 HS10 HS22 Hn2 Hn10 Hn22
  have hK := blk_head w
  have hb := below_alloc w (.cells #[.int .u8 0, .int .u64 0, .int .u64 0, .int .i64 0, .int .u32 0] 87)
  go_enter Try.func56, Try.ntmps56
  go_wp2_with fail
  obtain ⟨W, HW⟩ := named (w.alloc (.cells #[.int .u8 0, .int .u64 0, .int .u64 0, .int .i64 0, .int .u32 0] 87))
  rw [← HW.out] at hK hb ⊢
  clear HW
  refine region_flat _ (fun u => Below W.heap.size W u) (fun u u' => Below u.heap.size u u')
    (rel [fun v _ => v = .string s,
      fun v _ => v = .int .i64 (s.size : Int),
      fun v _ => v = .bool false,
      fun v _ => v = .bool false,
      fun v _ => v = .string s,
      fun v _ => v = .int .u8 (s0.toNat : Int),
      fun v _ => v = .bool false,
      fun v _ => v = .bool false,
      fun v _ => v = .bool false,
      fun v _ => v = .string s,
      fun v _ => v = .int .u8 (s1.toNat : Int),
      fun v _ => v = .bool false,
      fun v _ => v = .bool false,
      fun v _ => v = .bool false,
      fun v _ => v = .string s,
      fun v _ => v = .string Rs,
      fun v u => ∃ g, v = .slice (some ⟨g, 0, none⟩) 34 34 ∧ Blk u g (cellsOf (List.replicate 34 0)) 5,
      fun v _ => v = .string Z,
      fun v _ => v = .bool false,
      fun v _ => v = .bool false])
    (by kernel_rfl) (by kernel_rfl) (fun v => by simp only [putsV, Act.put, List.toList_toArray, List.setIfInBounds_toArray, List.set_cons_zero, List.set_cons_succ, Nat.reduceAdd, Nat.zero_add]; rfl) ?_ (Below.refl _ _).drew ?_ ?_
  · intro j x u u' hb h
    match j with
    | 0 => exact h
    | 1 => exact h
    | 2 => exact h
    | 3 => exact h
    | 4 => exact h
    | 5 => exact h
    | 6 => exact h
    | 7 => exact h
    | 8 => exact h
    | 9 => exact h
    | 10 => exact h
    | 11 => exact h
    | 12 => exact h
    | 13 => exact h
    | 14 => exact h
    | 15 => exact h
    | 16 => exact (let ⟨g, e, hg⟩ := h; ⟨g, e, hg.below hb⟩)
    | 17 => exact h
    | 18 => exact h
    | 19 => exact h
    | _ + 20 => trivial
  · refine ⟨?_, ?_, ?_, ?_, ?_, ?_, ?_, ?_, ?_, ?_, ?_, ?_, ?_, ?_, ?_, ?_, ?_, ?_, ?_, ?_, trivial⟩
    · intro v u hS hd K' hK
      simp only [waited, List.toList_toArray, Region.binds, rel, List.getD_cons_zero, List.getD_cons_succ, true_imp_iff, and_true] at hd
      simp only [rel, List.getD_cons_zero, List.getD_cons_succ, Act.put, List.setIfInBounds_toArray, List.set_cons_zero, List.set_cons_succ] at hK
      try simp only [hd] at hK
      have hS1 := hS
      go_simp
      exact hK.out _ _ ⟨hS1, Below.refl _ _, rfl⟩
    · intro v u hS hd K' hK
      simp only [waited, List.toList_toArray, Region.binds, rel, List.getD_cons_zero, List.getD_cons_succ, true_imp_iff, and_true] at hd
      simp only [rel, List.getD_cons_zero, List.getD_cons_succ, Act.put, List.setIfInBounds_toArray, List.set_cons_zero, List.set_cons_succ] at hK
      try simp only [hd] at hK
      have hS1 := hS
      go_simp
      exact hK.out _ _ ⟨hS1, Below.refl _ _, rfl⟩
    · intro v u hS hd K' hK
      simp only [waited, List.toList_toArray, Region.binds, rel, List.getD_cons_zero, List.getD_cons_succ, true_imp_iff, and_true] at hd
      simp only [rel, List.getD_cons_zero, List.getD_cons_succ, Act.put, List.setIfInBounds_toArray, List.set_cons_zero, List.set_cons_succ] at hK
      try simp only [hd] at hK
      have hS1 := hS
      go_simp
      exact hK.out _ _ ⟨hS1, Below.refl _ _, rfl⟩
    · intro v u hS hd K' hK
      simp only [waited, List.toList_toArray, Region.binds, rel, List.getD_cons_zero, List.getD_cons_succ, true_imp_iff, and_true] at hd
      simp only [rel, List.getD_cons_zero, List.getD_cons_succ, Act.put, List.setIfInBounds_toArray, List.set_cons_zero, List.set_cons_succ] at hK
      try simp only [hd] at hK
      have hS1 := hS
      go_simp
      exact hK.out _ _ ⟨hS1, Below.refl _ _, rfl⟩
    · intro v u hS hd K' hK
      simp only [waited, List.toList_toArray, Region.binds, rel, List.getD_cons_zero, List.getD_cons_succ, true_imp_iff, and_true] at hd
      simp only [rel, List.getD_cons_zero, List.getD_cons_succ, Act.put, List.setIfInBounds_toArray, List.set_cons_zero, List.set_cons_succ] at hK
      try simp only [hd] at hK
      have hS1 := hS
      go_simp
      exact hK.out _ _ ⟨hS1, Below.refl _ _, rfl⟩
    · intro v u hS hd K' hK
      simp only [waited, List.toList_toArray, Region.binds, rel, List.getD_cons_zero, List.getD_cons_succ, true_imp_iff, and_true] at hd
      simp only [rel, List.getD_cons_zero, List.getD_cons_succ, Act.put, List.setIfInBounds_toArray, List.set_cons_zero, List.set_cons_succ] at hK
      try simp only [hd] at hK
      have hS1 := hS
      go_simp
      exact hK.out _ _ ⟨hS1, Below.refl _ _, rfl⟩
    · intro v u hS hd K' hK
      simp only [waited, List.toList_toArray, Region.binds, rel, List.getD_cons_zero, List.getD_cons_succ, true_imp_iff, and_true] at hd
      simp only [rel, List.getD_cons_zero, List.getD_cons_succ, Act.put, List.setIfInBounds_toArray, List.set_cons_zero, List.set_cons_succ] at hK
      try simp only [hd] at hK
      have hS1 := hS
      go_simp
      exact hK.out _ _ ⟨hS1, Below.refl _ _, rfl⟩
    · intro v u hS hd K' hK
      simp only [waited, List.toList_toArray, Region.binds, rel, List.getD_cons_zero, List.getD_cons_succ, true_imp_iff, and_true] at hd
      simp only [rel, List.getD_cons_zero, List.getD_cons_succ, Act.put, List.setIfInBounds_toArray, List.set_cons_zero, List.set_cons_succ] at hK
      try simp only [hd] at hK
      have hS1 := hS
      go_simp
      exact hK.out _ _ ⟨hS1, Below.refl _ _, rfl⟩
    · intro v u hS hd K' hK
      simp only [waited, List.toList_toArray, Region.binds, rel, List.getD_cons_zero, List.getD_cons_succ, true_imp_iff, and_true] at hd
      simp only [rel, List.getD_cons_zero, List.getD_cons_succ, Act.put, List.setIfInBounds_toArray, List.set_cons_zero, List.set_cons_succ] at hK
      try simp only [hd] at hK
      have hS1 := hS
      go_simp
      exact hK.out _ _ ⟨hS1, Below.refl _ _, rfl⟩
    · intro v u hS hd K' hK
      simp only [waited, List.toList_toArray, Region.binds, rel, List.getD_cons_zero, List.getD_cons_succ, true_imp_iff, and_true] at hd
      simp only [rel, List.getD_cons_zero, List.getD_cons_succ, Act.put, List.setIfInBounds_toArray, List.set_cons_zero, List.set_cons_succ] at hK
      try simp only [hd] at hK
      have hS1 := hS
      go_simp
      exact hK.out _ _ ⟨hS1, Below.refl _ _, rfl⟩
    · intro v u hS hd K' hK
      simp only [waited, List.toList_toArray, Region.binds, rel, List.getD_cons_zero, List.getD_cons_succ, true_imp_iff, and_true] at hd
      simp only [rel, List.getD_cons_zero, List.getD_cons_succ, Act.put, List.setIfInBounds_toArray, List.set_cons_zero, List.set_cons_succ] at hK
      try simp only [hd] at hK
      have hS1 := hS
      go_simp
      exact hK.out _ _ ⟨hS1, Below.refl _ _, rfl⟩
    · intro v u hS hd K' hK
      simp only [waited, List.toList_toArray, Region.binds, rel, List.getD_cons_zero, List.getD_cons_succ, true_imp_iff, and_true] at hd
      simp only [rel, List.getD_cons_zero, List.getD_cons_succ, Act.put, List.setIfInBounds_toArray, List.set_cons_zero, List.set_cons_succ] at hK
      try simp only [hd] at hK
      have hS1 := hS
      go_simp
      exact hK.out _ _ ⟨hS1, Below.refl _ _, rfl⟩
    · intro v u hS hd K' hK
      simp only [waited, List.toList_toArray, Region.binds, rel, List.getD_cons_zero, List.getD_cons_succ, true_imp_iff, and_true] at hd
      simp only [rel, List.getD_cons_zero, List.getD_cons_succ, Act.put, List.setIfInBounds_toArray, List.set_cons_zero, List.set_cons_succ] at hK
      try simp only [hd] at hK
      have hS1 := hS
      go_simp
      exact hK.out _ _ ⟨hS1, Below.refl _ _, rfl⟩
    · intro v u hS hd K' hK
      simp only [waited, List.toList_toArray, Region.binds, rel, List.getD_cons_zero, List.getD_cons_succ, true_imp_iff, and_true] at hd
      simp only [rel, List.getD_cons_zero, List.getD_cons_succ, Act.put, List.setIfInBounds_toArray, List.set_cons_zero, List.set_cons_succ] at hK
      try simp only [hd] at hK
      have hS1 := hS
      go_simp
      exact hK.out _ _ ⟨hS1, Below.refl _ _, rfl⟩
    · intro v u hS hd K' hK
      simp only [waited, List.toList_toArray, Region.binds, rel, List.getD_cons_zero, List.getD_cons_succ, true_imp_iff, and_true] at hd
      simp only [rel, List.getD_cons_zero, List.getD_cons_succ, Act.put, List.setIfInBounds_toArray, List.set_cons_zero, List.set_cons_succ] at hK
      try simp only [hd] at hK
      have hS1 := hS
      go_simp
      exact hK.out _ _ ⟨hS1, Below.refl _ _, rfl⟩
    · intro v u hS hd K' hK
      simp only [waited, List.toList_toArray, Region.binds, rel, List.getD_cons_zero, List.getD_cons_succ, true_imp_iff, and_true] at hd
      simp only [rel, List.getD_cons_zero, List.getD_cons_succ, Act.put, List.setIfInBounds_toArray, List.set_cons_zero, List.set_cons_succ] at hK
      try simp only [hd] at hK
      have hS1 := hS
      go_simp
      exact hK.out _ _ ⟨hS1, Below.refl _ _, rfl⟩
    · intro v u hS hd K' hK
      simp only [waited, List.toList_toArray, Region.binds, rel, List.getD_cons_zero, List.getD_cons_succ, true_imp_iff, and_true] at hd
      simp only [rel, List.getD_cons_zero, List.getD_cons_succ, Act.put, List.setIfInBounds_toArray, List.set_cons_zero, List.set_cons_succ] at hK
      try simp only [hd] at hK
      have hS1 := hS
      have hx := hmk u
      go_simp
      exact hK.out _ _ ⟨hS1.alloc hS1.size _, below_alloc _ _, ⟨_, rfl, Blk.new _ _ _⟩⟩
    · intro v u hS hd K' hK
      simp only [waited, List.toList_toArray, Region.binds, rel, List.getD_cons_zero, List.getD_cons_succ, true_imp_iff, and_true] at hd
      simp only [rel, List.getD_cons_zero, List.getD_cons_succ, Act.put, List.setIfInBounds_toArray, List.set_cons_zero, List.set_cons_succ] at hK
      try simp only [hd] at hK
      have hS1 := hS
      have hx := hcvZ _ _ hd.1
      go_simp
      exact hK.out _ _ ⟨hS1, Below.refl _ _, rfl⟩
    · intro v u hS hd K' hK
      simp only [waited, List.toList_toArray, Region.binds, rel, List.getD_cons_zero, List.getD_cons_succ, true_imp_iff, and_true] at hd
      simp only [rel, List.getD_cons_zero, List.getD_cons_succ, Act.put, List.setIfInBounds_toArray, List.set_cons_zero, List.set_cons_succ] at hK
      try simp only [hd] at hK
      have hS1 := hS
      go_simp
      exact hK.out _ _ ⟨hS1, Below.refl _ _, rfl⟩
    · intro v u hS hd K' hK
      simp only [waited, List.toList_toArray, Region.binds, rel, List.getD_cons_zero, List.getD_cons_succ, true_imp_iff, and_true] at hd
      simp only [rel, List.getD_cons_zero, List.getD_cons_succ, Act.put, List.setIfInBounds_toArray, List.set_cons_zero, List.set_cons_succ] at hK
      try simp only [hd] at hK
      have hS1 := hS
      go_simp
      exact hK.out _ _ ⟨hS1, Below.refl _ _, rfl⟩
  · rintro v u hS1 hR
    simp only [holdAll, List.size_toArray, List.length_cons, List.length_nil, Nat.reduceAdd, rel, List.getD_cons_zero, List.getD_cons_succ] at hR
    obtain ⟨_, h19⟩ := hR
    simp only [h19]
    clear h19
    have kk := hK.below hS1
    have bb := bt hb hS1
    clear hK hb hS1
    go_wp2_with fail
    refine (hg26 _).mono ?_
    rintro e w2 ⟨rfl, rfl⟩
    go_wp2_with fail
    refine (hg18 _).mono ?_
    rintro e w2 ⟨rfl, rfl⟩
    go_wp2_with fail
    refine (hsum _).mono ?_
    rintro e w2 ⟨rfl, rfl⟩
    go_wp2_with fail
    have kb := Blk.new u [.int .u8 (s1.toNat : Int), .int .u64 0, .int .u64 0, .int .i64 (n18 : Int), .int .u32 0] 87
    have k5 := kk.alloc (.cells #[.int .u8 (s1.toNat : Int), .int .u64 0, .int .u64 0, .int .i64 (n18 : Int), .int .u32 0] 87)
    have b5 := bb.alloc bb.size (.cells #[.int .u8 (s1.toNat : Int), .int .u64 0, .int .u64 0, .int .i64 (n18 : Int), .int .u32 0] 87)
    have hnb := kk.lt
    obtain ⟨nb, Hnb⟩ := named u.heap.size
    obtain ⟨W5, HW5⟩ := named (u.alloc (.cells #[.int .u8 (s1.toNat : Int), .int .u64 0, .int .u64 0, .int .i64 (n18 : Int), .int .u32 0] 87))
    rw [← Hnb.out] at kb hnb
    rw [← HW5.out] at kb k5 b5 ⊢
    rw [← Hnb.out]
    clear HW5 Hnb hmk hcvZ kk
    have y := kb.cell
    have f := kb.free
    refine (hg2 _).mono ?_
    rintro e w2 ⟨rfl, rfl⟩
    go_wp2_with fail
    replace kb := kb.set 1 (.int .u64 (n2 : Int))
    replace k5 := k5.far (p := ⟨nb, 1, none⟩) (by show w.heap.size ≠ nb; omega) (.int .u64 (n2 : Int))
    replace b5 := b5.setCell (p := ⟨nb, 1, none⟩) (by show w.heap.size ≤ nb; omega) (.int .u64 (n2 : Int))
    obtain ⟨W6, HW6⟩ := named (W5.setCell ⟨nb, 1, none⟩ (.int .u64 (n2 : Int)))
    rw [← HW6.out] at kb k5 b5 ⊢
    clear HW6 y f
    have y := kb.cell
    have f := kb.free
    refine (hg10 _).mono ?_
    rintro e w2 ⟨rfl, rfl⟩
    go_wp2_with fail
    replace kb := kb.set 2 (.int .u64 (n10 : Int))
    replace k5 := k5.far (p := ⟨nb, 2, none⟩) (by show w.heap.size ≠ nb; omega) (.int .u64 (n10 : Int))
    replace b5 := b5.setCell (p := ⟨nb, 2, none⟩) (by show w.heap.size ≤ nb; omega) (.int .u64 (n10 : Int))
    obtain ⟨W7, HW7⟩ := named (W6.setCell ⟨nb, 2, none⟩ (.int .u64 (n10 : Int)))
    rw [← HW7.out] at kb k5 b5 ⊢
    clear HW7 y f
    have y := kb.cell
    have f := kb.free
    refine (hg22 _).mono ?_
    rintro e w2 ⟨rfl, rfl⟩
    have r := k5.cell
    have fr := k5.free
    go_wp2_with fail
    clear y f r fr
    have k8 := k5.far (p := ⟨nb, 4, none⟩) (by show w.heap.size ≠ nb; omega) (.int .u32 (n22 : Int))
    have b8 := b5.setCell (p := ⟨nb, 4, none⟩) (by show w.heap.size ≤ nb; omega) (.int .u32 (n22 : Int))
    obtain ⟨W8, HW8⟩ := named (W7.setCell ⟨nb, 4, none⟩ (.int .u32 (n22 : Int)))
    rw [← HW8.out] at k8 b8 ⊢
    clear HW8 kb k5 b5
    have r0 := k8.cell 0
    have r1 := k8.cell 1
    have r2 := k8.cell 2
    have r3 := k8.cell 3
    have r4 := k8.cell 4
    refine bodyPost_ret (v := .tuple #[.agg #[.int .u8 (s1.toNat : Int), .int .u64 (n2 : Int), .int .u64 (n10 : Int), .int .i64 (n18 : Int), .int .u32 (n22 : Int)], .int .i64 0]) (by simp [results, Try.results56, go_sem, r0, r1, r2, r3, r4]) rfl ?_
    exact ⟨rfl, below5 b8 (Nat.le_refl _) _ _ _ _ _⟩
theorem recHead_no (s : ByteArray) (w : World) (h : ¬ HeadOk s.data.toList) :
    Calls Try.prog 56 #[.string s] w fun e w' => e = .returned (.tuple #[zeroHead, .int .i64 14]) ∧ Below w.heap.size w w' := by
  have hl : s.data.toList.length = s.size := Array.length_toList
  by_cases hA : s.size = 64
  case neg => exact recHead_A s w hA
  by_cases hB : s.data.toList.getD 0 0 = 72
  case neg => exact recHead_B s w hA hB
  by_cases hC : s.data.toList.getD 1 0 = 0
  case pos => exact recHead_C s w hA hB hC
  by_cases hD : s.data.toList.drop 30 = List.replicate 34 0
  case neg => exact recHead_D s w hA hB hC hD
  by_cases hF : atL s.data.toList 26 4 = crcOf (s.data.toList.take 26)
  case neg => exact recHead_F s w hA hB hC hD hF
  by_cases hG : 16384 < atL s.data.toList 18 4
  case pos => exact recHead_G s w hA hB hC hD hF hG
  exact absurd ⟨by rw [hl]; exact hA, hB, hC, hD, hF, by omega⟩ h
end Go.Proofs.Ytpfbmmeipojodaa
