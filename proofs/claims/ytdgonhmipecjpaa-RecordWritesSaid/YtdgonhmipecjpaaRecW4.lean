/- The law RecordWrites: the walk. -/
import Derived.Test.YtdgonhmipecjpaaRecW1
import Derived.Test.YtdgonhmipecjpaaRecRefSec
namespace Go.Proofs.Ytdgonhmipecjpaa
set_option linter.unusedSimpArgs false
set_option linter.unusedVariables false
open Go.RowKit Go.Shelf
open Crc
/-- What both make of a frame. -/
theorem both_sectors (kind : UInt8) (epoch seq : Nat) (p : ByteArray) (he : epoch < 18446744073709551616) (hs : seq < 18446744073709551616) : ∃ L : List ByteArray, L.length ≤ 1000 ∧
    (∀ u, Calls Try.prog 15 #[.agg #[.int .u8 (kind.toNat : Int), .int .u64 (epoch : Int), .int .u64 (seq : Int), .string p]] u fun e w' => (∃ A c, e = .returned (.tuple #[.slice A L.length c, .int .i64 (frCheck ⟨kind, epoch, seq, p.data.toList⟩)]) ∧ Texts w' A L) ∧ Below u.heap.size u w') ∧
    (∀ u, Calls Try.prog 16 #[.agg #[.int .u8 (kind.toNat : Int), .int .u64 (epoch : Int), .int .u64 (seq : Int), .string p]] u fun e w' => (∃ A c, e = .returned (.tuple #[.slice A L.length c, .int .i64 (frCheck ⟨kind, epoch, seq, p.data.toList⟩)]) ∧ Texts w' A L) ∧ Below u.heap.size u w') := by
  by_cases hc : frCheck ⟨kind, epoch, seq, p.data.toList⟩ = 0
  · obtain ⟨hk, hp⟩ := frCheck_ok hc
    have hll : ((sectorsL ⟨kind, epoch, seq, p.data.toList⟩).map str).length = piecesN p.size + 1 := by rw [List.length_map, sectorsL_length]; rfl
    refine ⟨(sectorsL ⟨kind, epoch, seq, p.data.toList⟩).map str, by rw [hll]; unfold piecesN; omega, fun u => ?_, fun u => ?_⟩
    · refine (recSectors_yes kind epoch seq p u hk hp).mono ?_
      rintro e w' ⟨⟨A, c, rfl, _, ht⟩, hb⟩
      rw [hll, hc]
      exact ⟨⟨A, c, rfl, ht⟩, hb⟩
    · refine (refSectors_yes kind epoch seq p u hk hp he hs).mono ?_
      rintro e w' ⟨⟨A, c, rfl, _, ht⟩, hb⟩
      rw [hll, hc]
      exact ⟨⟨A, c, rfl, ht⟩, hb⟩
  · refine ⟨[], by simp, fun u => ?_, fun u => ?_⟩
    · refine (recSectors_no kind epoch seq p u hc).mono ?_
      rintro e w' ⟨rfl, hb⟩
      exact ⟨⟨none, 0, rfl, Lies.nil _ _ _⟩, hb⟩
    · refine (refSectors_no kind epoch seq p u hc).mono ?_
      rintro e w' ⟨rfl, hb⟩
      exact ⟨⟨none, 0, rfl, Lies.nil _ _ _⟩, hb⟩
theorem both_pieces (n : Int) (hn : -9223372036854775808 ≤ n ∧ n ≤ 9223372036854775807) : ∃ pc pw : Int,
    (∀ u, Calls Try.prog 17 #[.int .i64 n] u fun e w' => e = .returned (.tuple #[.int .i64 pc, .int .i64 pw]) ∧ u = w') ∧
    (∀ u, Calls Try.prog 18 #[.int .i64 n] u fun e w' => e = .returned (.tuple #[.int .i64 pc, .int .i64 pw]) ∧ u = w') := by
  by_cases h : 0 ≤ n ∧ n ≤ 16384
  · obtain ⟨k, rfl⟩ := Int.eq_ofNat_of_zero_le h.1
    exact ⟨_, _, fun u => pieces_yes k u (by omega), fun u => refPieces_yes k u (by omega)⟩
  · exact ⟨_, _, fun u => pieces_no n u hn (by omega), fun u => refPieces_no n u hn (by omega)⟩
set_option maxHeartbeats 4000000 in
set_option maxRecDepth 100000 in
theorem recordwrites_w (kind : UInt8) (epoch seq : Nat) (p : ByteArray) (n : Int) (w : World) (he : epoch < 18446744073709551616) (hs : seq < 18446744073709551616) (hn : -9223372036854775808 ≤ n ∧ n ≤ 9223372036854775807) :
    Calls Try.prog 3 #[.agg #[.int .u8 (kind.toNat : Int), .int .u64 (epoch : Int), .int .u64 (seq : Int), .string p], .int .i64 n] w fun e w' => e = .returned (.bool true) ∧ Below w.heap.size w w' := by
  obtain ⟨L, hL, hs1, hs2⟩ := both_sectors kind epoch seq p he hs
  obtain ⟨pc, pw, hp1, hp2⟩ := both_pieces n hn
  have hc1 := recCheck_w kind epoch seq p
  have hc2 := refCheck3_w kind epoch seq p
  obtain ⟨why, hwhy⟩ := named (frCheck ⟨kind, epoch, seq, p.data.toList⟩)
  rw [← hwhy.out] at hc1 hc2 hs1 hs2
  have hL9 : L.length ≤ 140737488351232 := by omega
  clear hwhy hL hn
  have k1 := Blk.new w [.int .u8 (kind.toNat : Int), .int .u64 (epoch : Int), .int .u64 (seq : Int), .string p] 24
  have b1 := below_alloc w (.cells #[.int .u8 (kind.toNat : Int), .int .u64 (epoch : Int), .int .u64 (seq : Int), .string p] 24)
  go_enter Try.func3, Try.ntmps3
  go_wp2_with fail
  refine (hs1 _).mono ?_
  rintro e w2 ⟨⟨A1, c1, rfl, ht1⟩, hb2⟩
  replace k1 := k1.below hb2
  replace b1 := bt b1 hb2
  clear hb2 hs1
  have y := k1.cell
  go_wp2_with fail
  refine (hs2 _).mono ?_
  rintro e w3 ⟨⟨A2, c2, rfl, ht2⟩, hb2⟩
  replace k1 := k1.below hb2
  replace b1 := bt b1 hb2
  replace ht1 := Texts.below ht1 hb2
  clear hb2 hs2 y
  go_wp2_with fail
  refine (hp1 _).mono ?_
  rintro e w4 ⟨rfl, rfl⟩
  go_wp2_with fail
  refine (hp2 _).mono ?_
  rintro e w4 ⟨rfl, rfl⟩
  clear hp1 hp2
  go_wp2_with fail
  refine region_flat _ (fun u => Blk u w.heap.size [.int .u8 (kind.toNat : Int), .int .u64 (epoch : Int), .int .u64 (seq : Int), .string p] 24 ∧ Texts u A1 L ∧ Texts u A2 L ∧ Below w.heap.size w u) (fun u u' => Below u.heap.size u u')
    (rel [fun v _ => v = .bool true,
      fun v _ => v = .bool true,
      fun v _ => v = .slice A1 L.length c1,
      fun v _ => v = .slice A2 L.length c2,
      fun v _ => v = .bool true,
      fun v _ => v = .bool true,
      fun v _ => v = .bool true,
      fun v _ => v = .int .i64 why,
      fun v _ => v = .int .i64 why,
      fun v _ => v = .bool true,
      fun v _ => v = .bool true,
      fun v _ => v = .bool true,
      fun v _ => v = .int .i64 pc,
      fun v _ => v = .int .i64 pc,
      fun v _ => v = .bool true,
      fun v _ => v = .bool true,
      fun v _ => v = .bool true,
      fun v _ => v = .int .i64 pw,
      fun v _ => v = .int .i64 pw,
      fun v _ => v = .bool true,
      fun v _ => v = .bool true,
      fun v _ => v = .bool true,
      fun v _ => v = .agg #[.int .u8 (kind.toNat : Int), .int .u64 (epoch : Int), .int .u64 (seq : Int), .string p],
      fun v _ => v = .int .i64 why,
      fun v _ => v = .agg #[.int .u8 (kind.toNat : Int), .int .u64 (epoch : Int), .int .u64 (seq : Int), .string p],
      fun v _ => v = .int .i64 why,
      fun v _ => v = .bool true,
      fun v _ => v = .bool true,
      fun v _ => v = .bool true])
    (by kernel_rfl) (by kernel_rfl) (fun v => by simp only [putsV, Act.put, List.toList_toArray, List.setIfInBounds_toArray, List.set_cons_zero, List.set_cons_succ, Nat.reduceAdd, Nat.zero_add]; rfl) ?_ ⟨k1, ht1, ht2, b1.drew⟩ ?_ ?_
  · intro j x u u' hb h
    match j with
    | 0 => exact h
    | 1 => exact h
    | 2 => exact h
    | 3 => exact h
    | 4 => exact h
    | 5 => exact h
    | 6 => exact h
    | 7 => exact h
    | 8 => exact h
    | 9 => exact h
    | 10 => exact h
    | 11 => exact h
    | 12 => exact h
    | 13 => exact h
    | 14 => exact h
    | 15 => exact h
    | 16 => exact h
    | 17 => exact h
    | 18 => exact h
    | 19 => exact h
    | 20 => exact h
    | 21 => exact h
    | 22 => exact h
    | 23 => exact h
    | 24 => exact h
    | 25 => exact h
    | 26 => exact h
    | 27 => exact h
    | 28 => exact h
    | _ + 29 => trivial
  · refine ⟨?_, ?_, ?_, ?_, ?_, ?_, ?_, ?_, ?_, ?_, ?_, ?_, ?_, ?_, ?_, ?_, ?_, ?_, ?_, ?_, ?_, ?_, ?_, ?_, ?_, ?_, ?_, ?_, ?_, trivial⟩
    · intro v u hS hd K' hK
      simp only [waited, List.toList_toArray, Region.binds, rel, List.getD_cons_zero, List.getD_cons_succ, true_imp_iff, and_true] at hd
      simp only [rel, List.getD_cons_zero, List.getD_cons_succ, Act.put, List.setIfInBounds_toArray, List.set_cons_zero, List.set_cons_succ] at hK
      try simp only [hd] at hK
      obtain ⟨hS1, hS2, hS3, hS4⟩ := hS
      go_simp
      refine (recLives_w _).mono ?_
      rintro e w2 ⟨rfl, hb2⟩
      exact hK.out _ _ ⟨⟨hS1.below hb2, Texts.below hS2 hb2, Texts.below hS3 hb2, bt hS4 hb2⟩, hb2, rfl⟩
    · intro v u hS hd K' hK
      simp only [waited, List.toList_toArray, Region.binds, rel, List.getD_cons_zero, List.getD_cons_succ, true_imp_iff, and_true] at hd
      simp only [rel, List.getD_cons_zero, List.getD_cons_succ, Act.put, List.setIfInBounds_toArray, List.set_cons_zero, List.set_cons_succ] at hK
      try simp only [hd] at hK
      obtain ⟨hS1, hS2, hS3, hS4⟩ := hS
      go_simp
      exact hK.out _ _ ⟨⟨hS1, hS2, hS3, hS4⟩, Below.refl _ _, rfl⟩
    · intro v u hS hd K' hK
      simp only [waited, List.toList_toArray, Region.binds, rel, List.getD_cons_zero, List.getD_cons_succ, true_imp_iff, and_true] at hd
      simp only [rel, List.getD_cons_zero, List.getD_cons_succ, Act.put, List.setIfInBounds_toArray, List.set_cons_zero, List.set_cons_succ] at hK
      try simp only [hd] at hK
      obtain ⟨hS1, hS2, hS3, hS4⟩ := hS
      go_simp
      exact hK.out _ _ ⟨⟨hS1, hS2, hS3, hS4⟩, Below.refl _ _, rfl⟩
    · intro v u hS hd K' hK
      simp only [waited, List.toList_toArray, Region.binds, rel, List.getD_cons_zero, List.getD_cons_succ, true_imp_iff, and_true] at hd
      simp only [rel, List.getD_cons_zero, List.getD_cons_succ, Act.put, List.setIfInBounds_toArray, List.set_cons_zero, List.set_cons_succ] at hK
      try simp only [hd] at hK
      obtain ⟨hS1, hS2, hS3, hS4⟩ := hS
      go_simp
      exact hK.out _ _ ⟨⟨hS1, hS2, hS3, hS4⟩, Below.refl _ _, rfl⟩
    · intro v u hS hd K' hK
      simp only [waited, List.toList_toArray, Region.binds, rel, List.getD_cons_zero, List.getD_cons_succ, true_imp_iff, and_true] at hd
      simp only [rel, List.getD_cons_zero, List.getD_cons_succ, Act.put, List.setIfInBounds_toArray, List.set_cons_zero, List.set_cons_succ] at hK
      try simp only [hd] at hK
      obtain ⟨hS1, hS2, hS3, hS4⟩ := hS
      go_simp
      refine (refSame3_w A1 A2 c1 c2 L _ hS2 hS3 hL9).mono ?_
      rintro e w2 ⟨rfl, hb2⟩
      exact hK.out _ _ ⟨⟨hS1.below hb2, Texts.below hS2 hb2, Texts.below hS3 hb2, bt hS4 hb2⟩, hb2, rfl⟩
    · intro v u hS hd K' hK
      simp only [waited, List.toList_toArray, Region.binds, rel, List.getD_cons_zero, List.getD_cons_succ, true_imp_iff, and_true] at hd
      simp only [rel, List.getD_cons_zero, List.getD_cons_succ, Act.put, List.setIfInBounds_toArray, List.set_cons_zero, List.set_cons_succ] at hK
      try simp only [hd] at hK
      obtain ⟨hS1, hS2, hS3, hS4⟩ := hS
      go_simp
      exact hK.out _ _ ⟨⟨hS1, hS2, hS3, hS4⟩, Below.refl _ _, rfl⟩
    · intro v u hS hd K' hK
      simp only [waited, List.toList_toArray, Region.binds, rel, List.getD_cons_zero, List.getD_cons_succ, true_imp_iff, and_true] at hd
      simp only [rel, List.getD_cons_zero, List.getD_cons_succ, Act.put, List.setIfInBounds_toArray, List.set_cons_zero, List.set_cons_succ] at hK
      try simp only [hd] at hK
      obtain ⟨hS1, hS2, hS3, hS4⟩ := hS
      go_simp
      exact hK.out _ _ ⟨⟨hS1, hS2, hS3, hS4⟩, Below.refl _ _, rfl⟩
    · intro v u hS hd K' hK
      simp only [waited, List.toList_toArray, Region.binds, rel, List.getD_cons_zero, List.getD_cons_succ, true_imp_iff, and_true] at hd
      simp only [rel, List.getD_cons_zero, List.getD_cons_succ, Act.put, List.setIfInBounds_toArray, List.set_cons_zero, List.set_cons_succ] at hK
      try simp only [hd] at hK
      obtain ⟨hS1, hS2, hS3, hS4⟩ := hS
      go_simp
      exact hK.out _ _ ⟨⟨hS1, hS2, hS3, hS4⟩, Below.refl _ _, rfl⟩
    · intro v u hS hd K' hK
      simp only [waited, List.toList_toArray, Region.binds, rel, List.getD_cons_zero, List.getD_cons_succ, true_imp_iff, and_true] at hd
      simp only [rel, List.getD_cons_zero, List.getD_cons_succ, Act.put, List.setIfInBounds_toArray, List.set_cons_zero, List.set_cons_succ] at hK
      try simp only [hd] at hK
      obtain ⟨hS1, hS2, hS3, hS4⟩ := hS
      go_simp
      exact hK.out _ _ ⟨⟨hS1, hS2, hS3, hS4⟩, Below.refl _ _, rfl⟩
    · intro v u hS hd K' hK
      simp only [waited, List.toList_toArray, Region.binds, rel, List.getD_cons_zero, List.getD_cons_succ, true_imp_iff, and_true] at hd
      simp only [rel, List.getD_cons_zero, List.getD_cons_succ, Act.put, List.setIfInBounds_toArray, List.set_cons_zero, List.set_cons_succ] at hK
      try simp only [hd] at hK
      obtain ⟨hS1, hS2, hS3, hS4⟩ := hS
      go_simp
      exact hK.out _ _ ⟨⟨hS1, hS2, hS3, hS4⟩, Below.refl _ _, rfl⟩
    · intro v u hS hd K' hK
      simp only [waited, List.toList_toArray, Region.binds, rel, List.getD_cons_zero, List.getD_cons_succ, true_imp_iff, and_true] at hd
      simp only [rel, List.getD_cons_zero, List.getD_cons_succ, Act.put, List.setIfInBounds_toArray, List.set_cons_zero, List.set_cons_succ] at hK
      try simp only [hd] at hK
      obtain ⟨hS1, hS2, hS3, hS4⟩ := hS
      go_simp
      exact hK.out _ _ ⟨⟨hS1, hS2, hS3, hS4⟩, Below.refl _ _, rfl⟩
    · intro v u hS hd K' hK
      simp only [waited, List.toList_toArray, Region.binds, rel, List.getD_cons_zero, List.getD_cons_succ, true_imp_iff, and_true] at hd
      simp only [rel, List.getD_cons_zero, List.getD_cons_succ, Act.put, List.setIfInBounds_toArray, List.set_cons_zero, List.set_cons_succ] at hK
      try simp only [hd] at hK
      obtain ⟨hS1, hS2, hS3, hS4⟩ := hS
      go_simp
      exact hK.out _ _ ⟨⟨hS1, hS2, hS3, hS4⟩, Below.refl _ _, rfl⟩
    · intro v u hS hd K' hK
      simp only [waited, List.toList_toArray, Region.binds, rel, List.getD_cons_zero, List.getD_cons_succ, true_imp_iff, and_true] at hd
      simp only [rel, List.getD_cons_zero, List.getD_cons_succ, Act.put, List.setIfInBounds_toArray, List.set_cons_zero, List.set_cons_succ] at hK
      try simp only [hd] at hK
      obtain ⟨hS1, hS2, hS3, hS4⟩ := hS
      go_simp
      exact hK.out _ _ ⟨⟨hS1, hS2, hS3, hS4⟩, Below.refl _ _, rfl⟩
    · intro v u hS hd K' hK
      simp only [waited, List.toList_toArray, Region.binds, rel, List.getD_cons_zero, List.getD_cons_succ, true_imp_iff, and_true] at hd
      simp only [rel, List.getD_cons_zero, List.getD_cons_succ, Act.put, List.setIfInBounds_toArray, List.set_cons_zero, List.set_cons_succ] at hK
      try simp only [hd] at hK
      obtain ⟨hS1, hS2, hS3, hS4⟩ := hS
      go_simp
      exact hK.out _ _ ⟨⟨hS1, hS2, hS3, hS4⟩, Below.refl _ _, rfl⟩
    · intro v u hS hd K' hK
      simp only [waited, List.toList_toArray, Region.binds, rel, List.getD_cons_zero, List.getD_cons_succ, true_imp_iff, and_true] at hd
      simp only [rel, List.getD_cons_zero, List.getD_cons_succ, Act.put, List.setIfInBounds_toArray, List.set_cons_zero, List.set_cons_succ] at hK
      try simp only [hd] at hK
      obtain ⟨hS1, hS2, hS3, hS4⟩ := hS
      go_simp
      exact hK.out _ _ ⟨⟨hS1, hS2, hS3, hS4⟩, Below.refl _ _, rfl⟩
    · intro v u hS hd K' hK
      simp only [waited, List.toList_toArray, Region.binds, rel, List.getD_cons_zero, List.getD_cons_succ, true_imp_iff, and_true] at hd
      simp only [rel, List.getD_cons_zero, List.getD_cons_succ, Act.put, List.setIfInBounds_toArray, List.set_cons_zero, List.set_cons_succ] at hK
      try simp only [hd] at hK
      obtain ⟨hS1, hS2, hS3, hS4⟩ := hS
      go_simp
      exact hK.out _ _ ⟨⟨hS1, hS2, hS3, hS4⟩, Below.refl _ _, rfl⟩
    · intro v u hS hd K' hK
      simp only [waited, List.toList_toArray, Region.binds, rel, List.getD_cons_zero, List.getD_cons_succ, true_imp_iff, and_true] at hd
      simp only [rel, List.getD_cons_zero, List.getD_cons_succ, Act.put, List.setIfInBounds_toArray, List.set_cons_zero, List.set_cons_succ] at hK
      try simp only [hd] at hK
      obtain ⟨hS1, hS2, hS3, hS4⟩ := hS
      go_simp
      exact hK.out _ _ ⟨⟨hS1, hS2, hS3, hS4⟩, Below.refl _ _, rfl⟩
    · intro v u hS hd K' hK
      simp only [waited, List.toList_toArray, Region.binds, rel, List.getD_cons_zero, List.getD_cons_succ, true_imp_iff, and_true] at hd
      simp only [rel, List.getD_cons_zero, List.getD_cons_succ, Act.put, List.setIfInBounds_toArray, List.set_cons_zero, List.set_cons_succ] at hK
      try simp only [hd] at hK
      obtain ⟨hS1, hS2, hS3, hS4⟩ := hS
      go_simp
      exact hK.out _ _ ⟨⟨hS1, hS2, hS3, hS4⟩, Below.refl _ _, rfl⟩
    · intro v u hS hd K' hK
      simp only [waited, List.toList_toArray, Region.binds, rel, List.getD_cons_zero, List.getD_cons_succ, true_imp_iff, and_true] at hd
      simp only [rel, List.getD_cons_zero, List.getD_cons_succ, Act.put, List.setIfInBounds_toArray, List.set_cons_zero, List.set_cons_succ] at hK
      try simp only [hd] at hK
      obtain ⟨hS1, hS2, hS3, hS4⟩ := hS
      go_simp
      exact hK.out _ _ ⟨⟨hS1, hS2, hS3, hS4⟩, Below.refl _ _, rfl⟩
    · intro v u hS hd K' hK
      simp only [waited, List.toList_toArray, Region.binds, rel, List.getD_cons_zero, List.getD_cons_succ, true_imp_iff, and_true] at hd
      simp only [rel, List.getD_cons_zero, List.getD_cons_succ, Act.put, List.setIfInBounds_toArray, List.set_cons_zero, List.set_cons_succ] at hK
      try simp only [hd] at hK
      obtain ⟨hS1, hS2, hS3, hS4⟩ := hS
      go_simp
      exact hK.out _ _ ⟨⟨hS1, hS2, hS3, hS4⟩, Below.refl _ _, rfl⟩
    · intro v u hS hd K' hK
      simp only [waited, List.toList_toArray, Region.binds, rel, List.getD_cons_zero, List.getD_cons_succ, true_imp_iff, and_true] at hd
      simp only [rel, List.getD_cons_zero, List.getD_cons_succ, Act.put, List.setIfInBounds_toArray, List.set_cons_zero, List.set_cons_succ] at hK
      try simp only [hd] at hK
      obtain ⟨hS1, hS2, hS3, hS4⟩ := hS
      go_simp
      exact hK.out _ _ ⟨⟨hS1, hS2, hS3, hS4⟩, Below.refl _ _, rfl⟩
    · intro v u hS hd K' hK
      simp only [waited, List.toList_toArray, Region.binds, rel, List.getD_cons_zero, List.getD_cons_succ, true_imp_iff, and_true] at hd
      simp only [rel, List.getD_cons_zero, List.getD_cons_succ, Act.put, List.setIfInBounds_toArray, List.set_cons_zero, List.set_cons_succ] at hK
      try simp only [hd] at hK
      obtain ⟨hS1, hS2, hS3, hS4⟩ := hS
      go_simp
      exact hK.out _ _ ⟨⟨hS1, hS2, hS3, hS4⟩, Below.refl _ _, rfl⟩
    · intro v u hS hd K' hK
      simp only [waited, List.toList_toArray, Region.binds, rel, List.getD_cons_zero, List.getD_cons_succ, true_imp_iff, and_true] at hd
      simp only [rel, List.getD_cons_zero, List.getD_cons_succ, Act.put, List.setIfInBounds_toArray, List.set_cons_zero, List.set_cons_succ] at hK
      try simp only [hd] at hK
      obtain ⟨hS1, hS2, hS3, hS4⟩ := hS
      have x0 := hS1.cell
      go_simp
      exact hK.out _ _ ⟨⟨hS1, hS2, hS3, hS4⟩, Below.refl _ _, rfl⟩
    · intro v u hS hd K' hK
      simp only [waited, List.toList_toArray, Region.binds, rel, List.getD_cons_zero, List.getD_cons_succ, true_imp_iff, and_true] at hd
      simp only [rel, List.getD_cons_zero, List.getD_cons_succ, Act.put, List.setIfInBounds_toArray, List.set_cons_zero, List.set_cons_succ] at hK
      try simp only [hd] at hK
      obtain ⟨hS1, hS2, hS3, hS4⟩ := hS
      go_simp
      refine (hc1 _).mono ?_
      rintro e w2 ⟨rfl, hb2⟩
      exact hK.out _ _ ⟨⟨hS1.below hb2, Texts.below hS2 hb2, Texts.below hS3 hb2, bt hS4 hb2⟩, hb2, rfl⟩
    · intro v u hS hd K' hK
      simp only [waited, List.toList_toArray, Region.binds, rel, List.getD_cons_zero, List.getD_cons_succ, true_imp_iff, and_true] at hd
      simp only [rel, List.getD_cons_zero, List.getD_cons_succ, Act.put, List.setIfInBounds_toArray, List.set_cons_zero, List.set_cons_succ] at hK
      try simp only [hd] at hK
      obtain ⟨hS1, hS2, hS3, hS4⟩ := hS
      have x0 := hS1.cell
      go_simp
      exact hK.out _ _ ⟨⟨hS1, hS2, hS3, hS4⟩, Below.refl _ _, rfl⟩
    · intro v u hS hd K' hK
      simp only [waited, List.toList_toArray, Region.binds, rel, List.getD_cons_zero, List.getD_cons_succ, true_imp_iff, and_true] at hd
      simp only [rel, List.getD_cons_zero, List.getD_cons_succ, Act.put, List.setIfInBounds_toArray, List.set_cons_zero, List.set_cons_succ] at hK
      try simp only [hd] at hK
      obtain ⟨hS1, hS2, hS3, hS4⟩ := hS
      go_simp
      refine (hc2 _).mono ?_
      rintro e w2 ⟨rfl, hb2⟩
      exact hK.out _ _ ⟨⟨hS1.below hb2, Texts.below hS2 hb2, Texts.below hS3 hb2, bt hS4 hb2⟩, hb2, rfl⟩
    · intro v u hS hd K' hK
      simp only [waited, List.toList_toArray, Region.binds, rel, List.getD_cons_zero, List.getD_cons_succ, true_imp_iff, and_true] at hd
      simp only [rel, List.getD_cons_zero, List.getD_cons_succ, Act.put, List.setIfInBounds_toArray, List.set_cons_zero, List.set_cons_succ] at hK
      try simp only [hd] at hK
      obtain ⟨hS1, hS2, hS3, hS4⟩ := hS
      go_simp
      exact hK.out _ _ ⟨⟨hS1, hS2, hS3, hS4⟩, Below.refl _ _, rfl⟩
    · intro v u hS hd K' hK
      simp only [waited, List.toList_toArray, Region.binds, rel, List.getD_cons_zero, List.getD_cons_succ, true_imp_iff, and_true] at hd
      simp only [rel, List.getD_cons_zero, List.getD_cons_succ, Act.put, List.setIfInBounds_toArray, List.set_cons_zero, List.set_cons_succ] at hK
      try simp only [hd] at hK
      obtain ⟨hS1, hS2, hS3, hS4⟩ := hS
      go_simp
      exact hK.out _ _ ⟨⟨hS1, hS2, hS3, hS4⟩, Below.refl _ _, rfl⟩
    · intro v u hS hd K' hK
      simp only [waited, List.toList_toArray, Region.binds, rel, List.getD_cons_zero, List.getD_cons_succ, true_imp_iff, and_true] at hd
      simp only [rel, List.getD_cons_zero, List.getD_cons_succ, Act.put, List.setIfInBounds_toArray, List.set_cons_zero, List.set_cons_succ] at hK
      try simp only [hd] at hK
      obtain ⟨hS1, hS2, hS3, hS4⟩ := hS
      go_simp
      exact hK.out _ _ ⟨⟨hS1, hS2, hS3, hS4⟩, Below.refl _ _, rfl⟩
  · rintro v u ⟨hS1, hS2, hS3, hS4⟩ hR
    simp only [holdAll, List.size_toArray, List.length_cons, List.length_nil, Nat.reduceAdd, rel, List.getD_cons_zero, List.getD_cons_succ] at hR
    obtain ⟨_, h28⟩ := hR
    simp only [h28]
    clear h28
    go_wp2
    go_ret
    exact ⟨rfl, hS4⟩
end Go.Proofs.Ytdgonhmipecjpaa
