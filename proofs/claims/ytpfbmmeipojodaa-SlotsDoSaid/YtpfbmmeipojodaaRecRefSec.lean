/- The document's Sectors of chapter 03. -/
import Derived.Test.YtpfbmmeipojodaaGF
import Derived.Test.YtpfbmmeipojodaaRecSectors
import Derived.Test.YtpfbmmeipojodaaGE
import Derived.Test.YtpfbmmeipojodaaRecPiece
namespace Go.Proofs.Ytpfbmmeipojodaa
set_option linter.unusedSimpArgs false
set_option linter.unusedVariables false
open Go.RowKit Go.Shelf
open Crc
set_option maxHeartbeats 16000000 in
set_option maxRecDepth 100000 in
theorem refSectors_yes (kind : UInt8) (epoch seq : Nat) (p : ByteArray) (w : World) (hk : kind ≠ 0) (hp : p.size ≤ 16384) (hep : epoch < 18446744073709551616) (hsq : seq < 18446744073709551616) :
    Calls Try.prog 34 #[.agg #[.int .u8 (kind.toNat : Int), .int .u64 (epoch : Int), .int .u64 (seq : Int), .string p]] w fun e w' =>
      (∃ A c, e = .returned (.tuple #[.slice A (piecesN p.size + 1) c, .int .i64 0]) ∧ piecesN p.size + 1 ≤ c ∧ Texts w' A ((sectorsL ⟨kind, epoch, seq, p.data.toList⟩).map str)) ∧ Below w.heap.size w w' := by
  have hl : p.data.toList.length = p.size := Array.length_toList
  have hl0 := hide hl
  have hE : frCheck ⟨kind, epoch, seq, p.data.toList⟩ = 0 := by simp only [frCheck, hk, if_false, hl, if_neg (Nat.not_lt.2 hp)]
  obtain ⟨sm, Hsm⟩ := named (crcOf p.data.toList)
  have hsum : ∀ u, Calls Try.prog 62 #[.string p] u fun e w' => e = .returned (.int .u32 (sm : Int)) ∧ u = w' := fun u => by
    rw [Hsm.out]; exact refsum_w p u (Nat.le_trans hp (by decide))
  obtain ⟨H, HH⟩ := named (str (headL kind epoch seq p.size sm))
  have hhead : ∀ u, Calls Try.prog 61 #[.agg #[.int .u8 (kind.toNat : Int), .int .u64 (epoch : Int), .int .u64 (seq : Int), .int .i64 (p.size : Int), .int .u32 (sm : Int)]] u fun e w' => e = .returned (.string H) ∧ Below u.heap.size u w' := fun u => by
    rw [HH.out]; exact refFirst_w kind epoch seq p.size sm u (by omega) hep hsq (by rw [Hsm.out]; exact crcOf_lt _)
  have hcheck := refCheck3_w kind epoch seq p
  rw [hE] at hcheck
  have K := Blk.new w [.int .u8 (kind.toNat : Int), .int .u64 (epoch : Int), .int .u64 (seq : Int), .string p] 61
  have b0 := below_alloc w (.cells #[.int .u8 (kind.toNat : Int), .int .u64 (epoch : Int), .int .u64 (seq : Int), .string p] 61)
  go_enter Try.func34, Try.ntmps34
  go_wp2_with fail
  refine (hcheck _).mono ?_
  rintro e W ⟨rfl, hb⟩
  have K1 := K.below hb
  have bW := bt b0 hb
  clear K b0 hb hcheck hE
  go_wp2_with fail
  refine region_flat _ (fun u => Blk u w.heap.size [.int .u8 (kind.toNat : Int), .int .u64 (epoch : Int), .int .u64 (seq : Int), .string p] 61 ∧ Below w.heap.size w u ∧ W.heap.size ≤ u.heap.size) (fun u u' => Below u.heap.size u u')
    (rel [fun v _ => v = .pointer (some ⟨w.heap.size, 0, none⟩),
      fun v _ => v = .int .u8 (kind.toNat : Int),
      fun v _ => v = .pointer (some ⟨w.heap.size, 1, none⟩),
      fun v _ => v = .int .u64 (epoch : Int),
      fun v _ => v = .pointer (some ⟨w.heap.size, 2, none⟩),
      fun v _ => v = .int .u64 (seq : Int),
      fun v _ => v = .pointer (some ⟨w.heap.size, 3, none⟩),
      fun v _ => v = .string p,
      fun v _ => v = .int .i64 (p.size : Int),
      fun v _ => v = .pointer (some ⟨w.heap.size, 3, none⟩),
      fun v _ => v = .string p,
      fun v _ => v = .int .u32 (sm : Int),
      fun v _ => v = .agg #[.int .u8 (kind.toNat : Int), .int .u64 (epoch : Int), .int .u64 (seq : Int), .int .i64 (p.size : Int), .int .u32 (sm : Int)],
      fun v _ => v = .string H,
      fun v u => ∃ g, v = .slice (some ⟨g, 0, none⟩) 1 1 ∧ W.heap.size ≤ g ∧ Blk u g [.string H] 9,
      fun v u => ∃ g, v = .slice (some ⟨g, 0, none⟩) 1 1 ∧ W.heap.size ≤ g ∧ Blk u g [.string H] 9])
    (by kernel_rfl) (by kernel_rfl) (fun v => by simp only [putsV, Act.put, List.toList_toArray, List.setIfInBounds_toArray, List.set_cons_zero, List.set_cons_succ, Nat.reduceAdd, Nat.zero_add]; rfl) ?_ ⟨K1, bW.drew, Nat.le_refl _⟩ ?_ ?_
  · intro j x u u' hb h
    match j with
    | 0 => exact h
    | 1 => exact h
    | 2 => exact h
    | 3 => exact h
    | 4 => exact h
    | 5 => exact h
    | 6 => exact h
    | 7 => exact h
    | 8 => exact h
    | 9 => exact h
    | 10 => exact h
    | 11 => exact h
    | 12 => exact h
    | 13 => exact h
    | 14 => exact (let ⟨g, e, hle, hg⟩ := h; ⟨g, e, hle, hg.below hb⟩)
    | 15 => exact (let ⟨g, e, hle, hg⟩ := h; ⟨g, e, hle, hg.below hb⟩)
    | _ + 16 => trivial
  · refine ⟨?_, ?_, ?_, ?_, ?_, ?_, ?_, ?_, ?_, ?_, ?_, ?_, ?_, ?_, ?_, ?_, trivial⟩
    · intro v u hS hd K' hK
      simp only [waited, List.toList_toArray, Region.binds, rel, List.getD_cons_zero, List.getD_cons_succ, true_imp_iff, and_true] at hd
      simp only [rel, List.getD_cons_zero, List.getD_cons_succ, Act.put, List.setIfInBounds_toArray, List.set_cons_zero, List.set_cons_succ] at hK
      try simp only [hd] at hK
      obtain ⟨hS1, hS2, hS3⟩ := hS
      go_simp
      exact hK.out _ _ ⟨⟨hS1, hS2, hS3⟩, Below.refl _ _, rfl⟩
    · intro v u hS hd K' hK
      simp only [waited, List.toList_toArray, Region.binds, rel, List.getD_cons_zero, List.getD_cons_succ, true_imp_iff, and_true] at hd
      simp only [rel, List.getD_cons_zero, List.getD_cons_succ, Act.put, List.setIfInBounds_toArray, List.set_cons_zero, List.set_cons_succ] at hK
      try simp only [hd] at hK
      obtain ⟨hS1, hS2, hS3⟩ := hS
      have x0 := hS1.cell 0
      go_simp
      exact hK.out _ _ ⟨⟨hS1, hS2, hS3⟩, Below.refl _ _, rfl⟩
    · intro v u hS hd K' hK
      simp only [waited, List.toList_toArray, Region.binds, rel, List.getD_cons_zero, List.getD_cons_succ, true_imp_iff, and_true] at hd
      simp only [rel, List.getD_cons_zero, List.getD_cons_succ, Act.put, List.setIfInBounds_toArray, List.set_cons_zero, List.set_cons_succ] at hK
      try simp only [hd] at hK
      obtain ⟨hS1, hS2, hS3⟩ := hS
      go_simp
      exact hK.out _ _ ⟨⟨hS1, hS2, hS3⟩, Below.refl _ _, rfl⟩
    · intro v u hS hd K' hK
      simp only [waited, List.toList_toArray, Region.binds, rel, List.getD_cons_zero, List.getD_cons_succ, true_imp_iff, and_true] at hd
      simp only [rel, List.getD_cons_zero, List.getD_cons_succ, Act.put, List.setIfInBounds_toArray, List.set_cons_zero, List.set_cons_succ] at hK
      try simp only [hd] at hK
      obtain ⟨hS1, hS2, hS3⟩ := hS
      have x0 := hS1.cell 1
      go_simp
      exact hK.out _ _ ⟨⟨hS1, hS2, hS3⟩, Below.refl _ _, rfl⟩
    · intro v u hS hd K' hK
      simp only [waited, List.toList_toArray, Region.binds, rel, List.getD_cons_zero, List.getD_cons_succ, true_imp_iff, and_true] at hd
      simp only [rel, List.getD_cons_zero, List.getD_cons_succ, Act.put, List.setIfInBounds_toArray, List.set_cons_zero, List.set_cons_succ] at hK
      try simp only [hd] at hK
      obtain ⟨hS1, hS2, hS3⟩ := hS
      go_simp
      exact hK.out _ _ ⟨⟨hS1, hS2, hS3⟩, Below.refl _ _, rfl⟩
    · intro v u hS hd K' hK
      simp only [waited, List.toList_toArray, Region.binds, rel, List.getD_cons_zero, List.getD_cons_succ, true_imp_iff, and_true] at hd
      simp only [rel, List.getD_cons_zero, List.getD_cons_succ, Act.put, List.setIfInBounds_toArray, List.set_cons_zero, List.set_cons_succ] at hK
      try simp only [hd] at hK
      obtain ⟨hS1, hS2, hS3⟩ := hS
      have x0 := hS1.cell 2
      go_simp
      exact hK.out _ _ ⟨⟨hS1, hS2, hS3⟩, Below.refl _ _, rfl⟩
    · intro v u hS hd K' hK
      simp only [waited, List.toList_toArray, Region.binds, rel, List.getD_cons_zero, List.getD_cons_succ, true_imp_iff, and_true] at hd
      simp only [rel, List.getD_cons_zero, List.getD_cons_succ, Act.put, List.setIfInBounds_toArray, List.set_cons_zero, List.set_cons_succ] at hK
      try simp only [hd] at hK
      obtain ⟨hS1, hS2, hS3⟩ := hS
      go_simp
      exact hK.out _ _ ⟨⟨hS1, hS2, hS3⟩, Below.refl _ _, rfl⟩
    · intro v u hS hd K' hK
      simp only [waited, List.toList_toArray, Region.binds, rel, List.getD_cons_zero, List.getD_cons_succ, true_imp_iff, and_true] at hd
      simp only [rel, List.getD_cons_zero, List.getD_cons_succ, Act.put, List.setIfInBounds_toArray, List.set_cons_zero, List.set_cons_succ] at hK
      try simp only [hd] at hK
      obtain ⟨hS1, hS2, hS3⟩ := hS
      have x0 := hS1.cell 3
      go_simp
      exact hK.out _ _ ⟨⟨hS1, hS2, hS3⟩, Below.refl _ _, rfl⟩
    · intro v u hS hd K' hK
      simp only [waited, List.toList_toArray, Region.binds, rel, List.getD_cons_zero, List.getD_cons_succ, true_imp_iff, and_true] at hd
      simp only [rel, List.getD_cons_zero, List.getD_cons_succ, Act.put, List.setIfInBounds_toArray, List.set_cons_zero, List.set_cons_succ] at hK
      try simp only [hd] at hK
      obtain ⟨hS1, hS2, hS3⟩ := hS
      go_simp
      exact hK.out _ _ ⟨⟨hS1, hS2, hS3⟩, Below.refl _ _, rfl⟩
    · intro v u hS hd K' hK
      simp only [waited, List.toList_toArray, Region.binds, rel, List.getD_cons_zero, List.getD_cons_succ, true_imp_iff, and_true] at hd
      simp only [rel, List.getD_cons_zero, List.getD_cons_succ, Act.put, List.setIfInBounds_toArray, List.set_cons_zero, List.set_cons_succ] at hK
      try simp only [hd] at hK
      obtain ⟨hS1, hS2, hS3⟩ := hS
      go_simp
      exact hK.out _ _ ⟨⟨hS1, hS2, hS3⟩, Below.refl _ _, rfl⟩
    · intro v u hS hd K' hK
      simp only [waited, List.toList_toArray, Region.binds, rel, List.getD_cons_zero, List.getD_cons_succ, true_imp_iff, and_true] at hd
      simp only [rel, List.getD_cons_zero, List.getD_cons_succ, Act.put, List.setIfInBounds_toArray, List.set_cons_zero, List.set_cons_succ] at hK
      try simp only [hd] at hK
      obtain ⟨hS1, hS2, hS3⟩ := hS
      have x0 := hS1.cell 3
      go_simp
      exact hK.out _ _ ⟨⟨hS1, hS2, hS3⟩, Below.refl _ _, rfl⟩
    · intro v u hS hd K' hK
      simp only [waited, List.toList_toArray, Region.binds, rel, List.getD_cons_zero, List.getD_cons_succ, true_imp_iff, and_true] at hd
      simp only [rel, List.getD_cons_zero, List.getD_cons_succ, Act.put, List.setIfInBounds_toArray, List.set_cons_zero, List.set_cons_succ] at hK
      try simp only [hd] at hK
      obtain ⟨hS1, hS2, hS3⟩ := hS
      go_simp
      refine (hsum _).mono ?_
      rintro e w2 ⟨rfl, rfl⟩
      exact hK.out _ _ ⟨⟨hS1, hS2, hS3⟩, Below.refl _ _, rfl⟩
    · intro v u hS hd K' hK
      simp only [waited, List.toList_toArray, Region.binds, rel, List.getD_cons_zero, List.getD_cons_succ, true_imp_iff, and_true] at hd
      simp only [rel, List.getD_cons_zero, List.getD_cons_succ, Act.put, List.setIfInBounds_toArray, List.set_cons_zero, List.set_cons_succ] at hK
      try simp only [hd] at hK
      obtain ⟨hS1, hS2, hS3⟩ := hS
      go_simp
      exact hK.out _ _ ⟨⟨hS1, hS2, hS3⟩, Below.refl _ _, rfl⟩
    · intro v u hS hd K' hK
      simp only [waited, List.toList_toArray, Region.binds, rel, List.getD_cons_zero, List.getD_cons_succ, true_imp_iff, and_true] at hd
      simp only [rel, List.getD_cons_zero, List.getD_cons_succ, Act.put, List.setIfInBounds_toArray, List.set_cons_zero, List.set_cons_succ] at hK
      try simp only [hd] at hK
      obtain ⟨hS1, hS2, hS3⟩ := hS
      go_simp
      refine (hhead _).mono ?_
      rintro e w2 ⟨rfl, hb2⟩
      exact hK.out _ _ ⟨⟨hS1.below hb2, bt hS2 hb2, Nat.le_trans hS3 hb2.size⟩, hb2, rfl⟩
    · intro v u hS hd K' hK
      simp only [waited, List.toList_toArray, Region.binds, rel, List.getD_cons_zero, List.getD_cons_succ, true_imp_iff, and_true] at hd
      simp only [rel, List.getD_cons_zero, List.getD_cons_succ, Act.put, List.setIfInBounds_toArray, List.set_cons_zero, List.set_cons_succ] at hK
      try simp only [hd] at hK
      obtain ⟨hS1, hS2, hS3⟩ := hS
      go_simp
      exact hK.out _ _ ⟨⟨hS1.alloc _, hS2.alloc hS2.size _, Nat.le_trans hS3 (below_alloc _ _).size⟩, below_alloc _ _, ⟨_, rfl, hS3, Blk.new _ _ _⟩⟩
    · intro v u hS hd K' hK
      simp only [waited, List.toList_toArray, Region.binds, rel, List.getD_cons_zero, List.getD_cons_succ, true_imp_iff, and_true] at hd
      simp only [rel, List.getD_cons_zero, List.getD_cons_succ, Act.put, List.setIfInBounds_toArray, List.set_cons_zero, List.set_cons_succ] at hK
      try simp only [hd] at hK
      obtain ⟨hS1, hS2, hS3⟩ := hS
      obtain ⟨⟨g, e, hle, hg⟩, _⟩ := hd
      simp only [e] at hK
      go_simp
      exact hK.out _ _ ⟨⟨hS1, hS2, hS3⟩, Below.refl _ _, ⟨g, rfl, hle, hg⟩⟩
  · rintro v u ⟨hS1, hS2, hS3⟩ hR
    simp only [holdAll, List.size_toArray, List.length_cons, List.length_nil, Nat.reduceAdd, rel, List.getD_cons_zero, List.getD_cons_succ] at hR
    obtain ⟨_, gs, h15, hgsW, k15⟩ := hR
    simp only [h15]
    clear h15
    have hgs0 : w.heap.size ≤ gs := Nat.le_of_lt (Nat.lt_of_lt_of_le K1.lt hgsW)
    clear K1 bW
    have y3 := hS1.cell 3
    go_wp2_with fail
    refine (refPieces_yes p.size _ hp).mono ?_
    rintro e w4 ⟨rfl, rfl⟩
    clear y3
    obtain ⟨np, hnp⟩ := named (piecesN p.size)
    have hnp9 : np ≤ 269 := by rw [hnp.out]; unfold piecesN; omega
    rw [← hnp.out]
    have hO : World.ownsRow u w.heap.size 9 1 (.slice (some ⟨gs, 0, none⟩) 1 1) 1 (strs [H]) := ⟨rfl, .inr ⟨gs, 1, _, rfl, hgs0, k15, Nat.le_refl _, by decide, rfl, rfl⟩⟩
    obtain ⟨j0, hj, hy0, hy1, hy2⟩ := info_parts Try.info9
    go_wp2_with fail
    go_loopw [5, 8] (fun x i wr => ∃ (k g0 c0 : Nat), k ≤ np ∧ x = .slice (some ⟨g0, 0, none⟩) (k + 1) c0 ∧ i = .int .i64 k ∧ wr.ownsRow w.heap.size 9 1 (.slice (some ⟨g0, 0, none⟩) (k + 1) c0) (k + 1) (strs (H :: (List.range k).map fun i => str (pieceL p.data.toList i))) ∧ Blk wr w.heap.size [.int .u8 (kind.toNat : Int), .int .u64 (epoch : Int), .int .u64 (seq : Int), .string p] 61 ∧ Below w.heap.size w wr ∧ w.heap.size < wr.heap.size) (fun _ i _ => np - (intOf i).toNat)
    case atStart => exact ⟨0, gs, 1, by omega, rfl, rfl, hO, hS1, hS2, hS1.lt⟩
    case round =>
      obtain ⟨k, g0, c0, hk, rfl, rfl, i1, i2, i3, i4⟩ := hrel
      clear hO k15 hS1 hS2 hS3 hgsW hgs0
      by_cases hlt : k < np
      · have hpc := fun u => refPiece_w p k u (by rw [← hnp.out]; exact hlt) hp
        obtain ⟨Y, HY⟩ := named (str (pieceL p.data.toList k))
        rw [← HY.out] at hpc
        obtain ⟨cur, hcur, hg0w⟩ := own_cells i1
        have hne : g0 ≠ w.heap.size := by
          intro e
          subst e
          have := hcur.symm.trans i2
          simp at this
        have y3 := i2.cell 3
        go_wp2_with fail
        refine (hpc _).mono ?_
        rintro e w5 ⟨rfl, hb5⟩
        have hb6 := bt hb5 (below_alloc w5 (.cells #[.string Y] 9))
        have i2' := i2.below hb6
        have hsz5 := hb5.size
        clear y3 hpc
        go_wp2_with (at_builtin; refine wpList_append_lies _ rfl (.tmp 41) (.tmp 46) _ rfl w.heap.size 9 j0 _ 1 16 Try.underlying22 hj hy0 hy1 hy2 rfl (by omega) (.slice (some ⟨g0, 0, none⟩) (k + 1) c0) (k + 1) _ rfl (own_below i1 hb6) ⟨w5.heap.size, 0, none⟩ 1 1 [.string Y] rfl rfl (World.news_of_block (cs := #[.string Y]) (t := 9) (fr := (0, 0)) (heap_alloc_new w5 _)) (by simp [Value.oneCell']) (by omega) (by simp only [maxLen]; omega) (by omega) (by simp; omega) (w5.heap.size + 1) (by simp) ?_; intro gg cap w1 hown1 hgrow hat hlt2)
        have far : ∀ k, k < (w5.alloc (.cells #[.string Y] 9)).heap.size → k ≠ g0 → w1.heap[k]? = (w5.alloc (.cells #[.string Y] 9)).heap[k]? := fun k hk hne => hgrow.block k hk (by simpa [Value.ownBlock] using hne)
        have w4 : Blk w1 w.heap.size _ _ := (far w.heap.size i2'.lt (Ne.symm hne)).trans i2'
        have hb9 : Below w.heap.size w w1 := (bt i3 hb6).grown hgrow (by have := hb6.size; omega) (fun k' e => by
          have : g0 = k' := by simpa [Value.ownBlock] using e
          omega)
        have hsz1 := hgrow.size
        rw [show (w5.alloc (.cells #[.string Y] 9)).heap.size = w5.heap.size + 1 by simp] at hsz1
        clear far i2'
        go_roundw
        case rel => exact ⟨k + 1, gg, cap, by omega, rfl, by go_num, by
          rw [List.range_succ, List.map_append, List.map_singleton, ← HY.out]
          have e : strs (H :: ((List.range k).map (fun i => str (pieceL p.data.toList i)) ++ [Y])) = strs (H :: (List.range k).map (fun i => str (pieceL p.data.toList i))) ++ [.string Y] := by simp [strs]
          rw [e]
          exact hown1, w4, hb9, by omega⟩
        case measure => simp [intOf]; omega
      · obtain rfl : np = k := by omega
        go_wp2
        go_ret2
        obtain ⟨A, c, e1, e2, _, hlies, _⟩ := Lies.of_own i1
        rw [← hnp.out]
        refine ⟨⟨A, c, by rw [← e1]; rfl, e2, ?_⟩, i3⟩
        have e : H :: (List.range np).map (fun i => str (pieceL p.data.toList i)) = (sectorsL ⟨kind, epoch, seq, p.data.toList⟩).map str := by
          rw [sectorsL, List.map_cons, List.map_map, HH.out, Hsm.out]
          simp only [frHead, hl0.out, ← hnp.out]
          rfl
        rw [e] at hlies
        unfold Texts
        have hle : ((sectorsL ⟨kind, epoch, seq, p.data.toList⟩).map str).length = np + 1 := by rw [List.length_map, sectorsL_length]; simp only [hl0.out, ← hnp.out]
        rw [hle]
        exact hlies
set_option maxHeartbeats 4000000 in
set_option maxRecDepth 100000 in
theorem refSectors_no (kind : UInt8) (epoch seq : Nat) (p : ByteArray) (w : World) (hno : frCheck ⟨kind, epoch, seq, p.data.toList⟩ ≠ 0) :
    Calls Try.prog 34 #[.agg #[.int .u8 (kind.toNat : Int), .int .u64 (epoch : Int), .int .u64 (seq : Int), .string p]] w fun e w' =>
      e = .returned (.tuple #[.slice none 0 0, .int .i64 (frCheck ⟨kind, epoch, seq, p.data.toList⟩)]) ∧ Below w.heap.size w w' := by
  have hcheck := refCheck3_w kind epoch seq p
  obtain ⟨why, hwhy⟩ := named (frCheck ⟨kind, epoch, seq, p.data.toList⟩)
  rw [← hwhy.out] at hcheck hno ⊢
  have hne : (why != 0) = true := by simp [hno]
  clear hno hwhy
  have b0 := below_alloc w (.cells #[.int .u8 (kind.toNat : Int), .int .u64 (epoch : Int), .int .u64 (seq : Int), .string p] 61)
  go_enter Try.func34, Try.ntmps34
  go_wp2_with fail
  refine (hcheck _).mono ?_
  rintro e W ⟨rfl, hb⟩
  go_wp2
  go_ret2
  exact ⟨rfl, bt b0 hb⟩
end Go.Proofs.Ytpfbmmeipojodaa
