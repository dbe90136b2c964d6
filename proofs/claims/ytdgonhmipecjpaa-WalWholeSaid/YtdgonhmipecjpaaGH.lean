/- Several small texts of this proof, one behind the other. -/
import Derived.Test.YtdgonhmipecjpaaGF
section
/- What chapter 03 asks for first. -/
namespace Go.Proofs.Ytdgonhmipecjpaa
set_option linter.unusedSimpArgs false
set_option linter.unusedVariables false
open Go.RowKit Go.Shelf
open Crc
def fr0 : Fr := ⟨1, 0, 2, List.replicate 62 0⟩
theorem fr0_ok : FrOk fr0 := ⟨by decide, by simp [fr0], by simp [fr0], by simp [fr0]⟩
theorem zeros_noHead : ¬ HeadOk (str (List.replicate 64 0)).data.toList := fun h => by
  have := h.mark
  rw [str_data] at this
  revert this
  decide
set_option maxHeartbeats 4000000 in
set_option maxRecDepth 100000 in
theorem recLives_w (w : World) : Calls Try.prog 19 #[] w fun e w' => e = .returned (.bool true) ∧ Below w.heap.size w w' := by
  have hmk := fun w => run_make_row' (P := Try.prog) 81 5 (.int .u8 0) 1 Try.underlying81 Try.info5 rfl .i64 .i64 62 (by omega) (by omega) w
  have hmk2 := fun w => run_make_row' (P := Try.prog) 81 5 (.int .u8 0) 1 Try.underlying81 Try.info5 rfl .i64 .i64 64 (by omega) (by omega) w
  rw [made_zeros] at hmk hmk2
  rw [show ((62 : Nat) : Int) = 62 from rfl] at hmk
  rw [show ((64 : Nat) : Int) = 64 from rfl] at hmk2
  have hcv := fun w => back_cells (P := Try.prog) w 81 9 5 5 (List.replicate 62 0) 62 (by simp) Try.underlying81 Try.underlying5 Try.underlying9 62
  have hcv2 := fun w => back_cells (P := Try.prog) w 81 9 5 5 (List.replicate 64 0) 64 (by simp) Try.underlying81 Try.underlying5 Try.underlying9 64
  obtain ⟨cs, hcs⟩ := named (cellsOf (List.replicate 62 0)).toArray
  obtain ⟨cs2, hcs2⟩ := named (cellsOf (List.replicate 64 0)).toArray
  obtain ⟨Z, HZ⟩ := named (str (List.replicate 62 0))
  obtain ⟨Z2, HZ2⟩ := named (str (List.replicate 64 0))
  rw [← hcs.out] at hmk hcv
  rw [← hcs2.out] at hmk2 hcv2
  rw [← HZ.out] at hcv
  rw [← HZ2.out] at hcv2
  clear hcs hcs2
  have hZs : Z.size = 62 := by rw [HZ.out, str_size]; simp
  have hsec := fun w => recSectors_yes 1 0 2 Z w (by decide) (by omega)
  rw [hZs] at hsec
  have hfr : (⟨1, 0, 2, Z.data.toList⟩ : Fr) = fr0 := by rw [HZ.out, str_data]; rfl
  simp only [hfr] at hsec
  rw [show piecesN 62 + 1 = 3 from rfl] at hsec
  have hpc := fun w => pieces_yes 61 w (by omega)
  rw [show piecesN 61 = 1 from rfl] at hpc
  have hfv : frVal fr0 = .agg #[.int .u8 1, .int .u64 0, .int .u64 2, .string Z] := by rw [HZ.out]; rfl
  have hnh := recHead_no Z2
  have hno : ¬ HeadOk Z2.data.toList := by rw [HZ2.out]; exact zeros_noHead
  clear HZ HZ2 hZs hfr
  have k1 := (Blk.new (w.alloc (.cells cs 5)) [.int .u8 1, .int .u64 0, .int .u64 2, .string Z] 24)
  have b1 := bt (below_alloc w (.cells cs 5)) (below_alloc (w.alloc (.cells cs 5)) (.cells #[.int .u8 1, .int .u64 0, .int .u64 2, .string Z] 24))
  go_enter Try.func19, Try.ntmps19
  go_wp2_with fail
  obtain ⟨W1, HW1⟩ := named ((w.alloc (.cells cs 5)).alloc (.cells #[.int .u8 1, .int .u64 0, .int .u64 2, .string Z] 24))
  obtain ⟨f1, Hf1⟩ := named (w.heap.size + 1)
  rw [show (w.alloc (.cells cs 5)).heap.size = w.heap.size + 1 by simp, ← Hf1.out] at k1
  rw [← HW1.out] at k1 b1 ⊢
  rw [← Hf1.out]
  clear HW1 Hf1 hmk hcv
  refine (hsec _).mono ?_
  rintro e w2 ⟨⟨A, c, rfl, hc, ht⟩, hb2⟩
  replace k1 := k1.below hb2
  replace b1 := bt b1 hb2
  have hj := join_yes A c 3 fr0 w2 fr0_ok rfl hc ht
  rw [hfv] at hj
  clear hsec hb2
  go_wp2_with fail
  refine hj.mono ?_
  rintro e w3 ⟨rfl, hb3⟩
  replace k1 := k1.below hb3
  replace b1 := bt b1 hb3
  clear hj hb3 ht
  have k2 := Blk.new w3 [.int .u8 1, .int .u64 0, .int .u64 2, .string Z] 24
  replace k1 := k1.alloc (.cells #[.int .u8 1, .int .u64 0, .int .u64 2, .string Z] 24)
  replace b1 := b1.alloc b1.size (.cells #[.int .u8 1, .int .u64 0, .int .u64 2, .string Z] 24)
  go_wp2_with fail
  obtain ⟨f2, Hf2⟩ := named w3.heap.size
  obtain ⟨W4, HW4⟩ := named (w3.alloc (.cells #[.int .u8 1, .int .u64 0, .int .u64 2, .string Z] 24))
  rw [← Hf2.out] at k2 ⊢
  rw [← HW4.out] at k1 k2 b1 ⊢
  clear HW4 Hf2
  refine (hpc _).mono ?_
  rintro e w5 ⟨rfl, rfl⟩
  go_wp2_with fail
  refine (hnh _ hno).mono ?_
  rintro e w6 ⟨rfl, hb6⟩
  have k1' := (k1.alloc (.cells cs2 5)).below hb6
  have k2' := (k2.alloc (.cells cs2 5)).below hb6
  have b1' := bt (b1.alloc b1.size (.cells cs2 5)) hb6
  clear k1 k2 b1 hb6 hmk2 hcv2 hnh
  have q1 := k1'.alloc (.cells #[.int .u8 0, .int .u64 0, .int .u64 0, .int .i64 0, .int .u32 0] 39)
  have q2 := k2'.alloc (.cells #[.int .u8 0, .int .u64 0, .int .u64 0, .int .i64 0, .int .u32 0] 39)
  have q3 := b1'.alloc b1'.size (.cells #[.int .u8 0, .int .u64 0, .int .u64 0, .int .i64 0, .int .u32 0] 39)
  have y1 := q1.cell
  have y2 := q2.cell
  unfold zeroHead
  go_wp2
  go_ret
  exact ⟨rfl, q3⟩
end Go.Proofs.Ytdgonhmipecjpaa
end
section
/- The laws RecordSizes, RecordApart: the walks. -/
namespace Go.Proofs.Ytdgonhmipecjpaa
set_option linter.unusedSimpArgs false
set_option linter.unusedVariables false
open Go.RowKit Go.Shelf
open Crc
theorem frCheck_ok {kind : UInt8} {epoch seq : Nat} {p : ByteArray} (h : frCheck ⟨kind, epoch, seq, p.data.toList⟩ = 0) : kind ≠ 0 ∧ p.size ≤ 16384 := by
  unfold frCheck at h
  have hl : p.data.toList.length = p.size := Array.length_toList
  by_cases hk : kind = 0
  · simp [hk] at h
  · by_cases hp : 16384 < p.size
    · simp [hk, hl, hp] at h
    · exact ⟨hk, by omega⟩
theorem frCheck_bad {kind : UInt8} {epoch seq : Nat} {p : ByteArray} (h : frCheck ⟨kind, epoch, seq, p.data.toList⟩ ≠ 0) : kind = 0 ∨ (kind ≠ 0 ∧ 16384 < p.size) := by
  unfold frCheck at h
  have hl : p.data.toList.length = p.size := Array.length_toList
  by_cases hk : kind = 0
  · exact .inl hk
  · by_cases hp : 16384 < p.size
    · exact .inr ⟨hk, hp⟩
    · simp [hk, hl, hp] at h
set_option maxHeartbeats 4000000 in
set_option maxRecDepth 100000 in
theorem recordsizes_w (kind : UInt8) (epoch seq : Nat) (p : ByteArray) (w : World) (he : epoch < 18446744073709551616) (hs : seq < 18446744073709551616) :
    Calls Try.prog 5 #[.agg #[.int .u8 (kind.toNat : Int), .int .u64 (epoch : Int), .int .u64 (seq : Int), .string p]] w fun e w' => e = .returned (.bool true) ∧ Below w.heap.size w w' := by
  have k1 := Blk.new w [.int .u8 (kind.toNat : Int), .int .u64 (epoch : Int), .int .u64 (seq : Int), .string p] 24
  have b1 := below_alloc w (.cells #[.int .u8 (kind.toNat : Int), .int .u64 (epoch : Int), .int .u64 (seq : Int), .string p] 24)
  go_enter Try.func5, Try.ntmps5
  go_wp2_with fail
  refine (recLives_w _).mono ?_
  rintro e w2 ⟨rfl, hb2⟩
  replace k1 := k1.below hb2
  replace b1 := bt b1 hb2
  clear hb2
  have y := k1.cell
  go_wp2_with fail
  by_cases hc : frCheck ⟨kind, epoch, seq, p.data.toList⟩ = 0
  · obtain ⟨hk, hp⟩ := frCheck_ok hc
    clear hc
    refine (recSectors_yes kind epoch seq p _ hk hp).mono ?_
    rintro e w3 ⟨⟨A, c, rfl, hcap, ht⟩, hb3⟩
    replace k1 := k1.below hb3
    replace b1 := bt b1 hb3
    clear y hb3 hk
    have y := k1.cell
    have hpc := pieces_yes p.size w3 hp
    obtain ⟨np, hnp⟩ := named (piecesN p.size)
    rw [← hnp.out] at hpc ⊢
    have hnp9 : np ≤ 269 := by rw [hnp.out]; unfold piecesN; omega
    have hg1 : (p.size : Int) ≤ 61 * (np : Int) := by rw [hnp.out]; unfold piecesN; omega
    have hg2 : 61 * ((np : Int) - 1) < max (p.size : Int) 1 := by rw [hnp.out]; unfold piecesN; omega
    have hsz : ∀ k (hk : k < ((sectorsL ⟨kind, epoch, seq, p.data.toList⟩).map str).length), (((sectorsL ⟨kind, epoch, seq, p.data.toList⟩).map str)[k]).size = 64 := fun k hk => by
      rw [List.getElem_map, str_size]
      exact sectorsL_sizes _ _ (List.getElem_mem _)
    have hll : ((sectorsL ⟨kind, epoch, seq, p.data.toList⟩).map str).length = np + 1 := by rw [List.length_map, sectorsL_length, hnp.out]; rfl
    obtain ⟨L, HL⟩ := named ((sectorsL ⟨kind, epoch, seq, p.data.toList⟩).map str)
    rw [← HL.out] at ht hll
    simp only [← HL.out] at hsz
    go_wp2_with fail
    refine hpc.mono ?_
    rintro e w4 ⟨rfl, rfl⟩
    clear hpc
    go_wp2_with fail
    go_loopw [41] (fun i wr => ∃ k : Nat, k ≤ np + 1 ∧ i = .int .i64 k ∧ wr = w3) (fun i _ => np + 1 - (intOf i).toNat)
    case atStart => exact ⟨0, by omega, rfl, rfl⟩
    case round =>
      obtain ⟨k, hk, rfl, rfl⟩ := hrel
      by_cases hlt : k < np + 1
      · obtain ⟨b', o', e', hcx⟩ := Texts.at_ ht (k := k) (by omega)
        subst e'
        have hs64 := hsz k (by omega)
        obtain ⟨x, Hx⟩ := named (L[k]'(by omega))
        rw [← Hx.out] at hcx hs64
        have hs1 : ((x.size : Int) != 64) = false := by rw [hs64]; rfl
        clear hs64 hsz hg1 hg2
        go_wp2
        go_roundw
        case rel => exact ⟨k + 1, by omega, by go_num, trivial⟩
        case measure => simp [intOf]; omega
      · obtain rfl : k = np + 1 := by omega
        go_wp2
        go_ret
        exact ⟨rfl, b1⟩
  · have hno := recSectors_no kind epoch seq p w2 hc
    have hbad := frCheck_bad hc
    obtain ⟨why, hwhy⟩ := named (frCheck ⟨kind, epoch, seq, p.data.toList⟩)
    rw [← hwhy.out] at hno hc
    have hne : (why != 0) = true := by simp [hc]
    refine hno.mono ?_
    rintro e w3 ⟨rfl, hb3⟩
    replace k1 := k1.below hb3
    replace b1 := bt b1 hb3
    clear y hb3 hc hwhy hno
    have y := k1.cell
    rcases hbad with rfl | ⟨hk, hp⟩
    · go_wp2
      go_ret
      exact ⟨rfl, b1⟩
    · have hk2 : ((kind.toNat : Int) == 0) = false := by
        have : kind.toNat ≠ 0 := fun h => hk (UInt8.toNat_inj.1 h)
        simp; omega
      have hk3 : ¬ ((kind.toNat : Int) = 0) := by simpa using hk2
      have hp' : (16384 : Int) < (p.size : Int) := by omega
      go_wp2
      go_ret
      exact ⟨rfl, b1⟩
end Go.Proofs.Ytdgonhmipecjpaa
end
