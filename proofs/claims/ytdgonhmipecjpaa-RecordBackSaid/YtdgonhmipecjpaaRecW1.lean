/- The laws RecordSizes, RecordApart: the walks. -/
import Derived.Test.YtdgonhmipecjpaaRecLives
namespace Go.Proofs.Ytdgonhmipecjpaa
set_option linter.unusedSimpArgs false
set_option linter.unusedVariables false
open Go.RowKit Go.Shelf
open Crc
theorem frCheck_ok {kind : UInt8} {epoch seq : Nat} {p : ByteArray} (h : frCheck ⟨kind, epoch, seq, p.data.toList⟩ = 0) : kind ≠ 0 ∧ p.size ≤ 16384 := by
  unfold frCheck at h
  have hl : p.data.toList.length = p.size := Array.length_toList
  by_cases hk : kind = 0
  · simp [hk] at h
  · by_cases hp : 16384 < p.size
    · simp [hk, hl, hp] at h
    · exact ⟨hk, by omega⟩
theorem frCheck_bad {kind : UInt8} {epoch seq : Nat} {p : ByteArray} (h : frCheck ⟨kind, epoch, seq, p.data.toList⟩ ≠ 0) : kind = 0 ∨ (kind ≠ 0 ∧ 16384 < p.size) := by
  unfold frCheck at h
  have hl : p.data.toList.length = p.size := Array.length_toList
  by_cases hk : kind = 0
  · exact .inl hk
  · by_cases hp : 16384 < p.size
    · exact .inr ⟨hk, hp⟩
    · simp [hk, hl, hp] at h
set_option maxHeartbeats 4000000 in
set_option maxRecDepth 100000 in
theorem recordsizes_w (kind : UInt8) (epoch seq : Nat) (p : ByteArray) (w : World) (he : epoch < 18446744073709551616) (hs : seq < 18446744073709551616) :
    Calls Try.prog 5 #[.agg #[.int .u8 (kind.toNat : Int), .int .u64 (epoch : Int), .int .u64 (seq : Int), .string p]] w fun e w' => e = .returned (.bool true) ∧ Below w.heap.size w w' := by
  have k1 := Blk.new w [.int .u8 (kind.toNat : Int), .int .u64 (epoch : Int), .int .u64 (seq : Int), .string p] 24
  have b1 := below_alloc w (.cells #[.int .u8 (kind.toNat : Int), .int .u64 (epoch : Int), .int .u64 (seq : Int), .string p] 24)
  go_enter Try.func5, Try.ntmps5
  go_wp2_with fail
  refine (recLives_w _).mono ?_
  rintro e w2 ⟨rfl, hb2⟩
  replace k1 := k1.below hb2
  replace b1 := bt b1 hb2
  clear hb2
  have y := k1.cell
  go_wp2_with fail
  by_cases hc : frCheck ⟨kind, epoch, seq, p.data.toList⟩ = 0
  · obtain ⟨hk, hp⟩ := frCheck_ok hc
    clear hc
    refine (recSectors_yes kind epoch seq p _ hk hp).mono ?_
    rintro e w3 ⟨⟨A, c, rfl, hcap, ht⟩, hb3⟩
    replace k1 := k1.below hb3
    replace b1 := bt b1 hb3
    clear y hb3 hk
    have y := k1.cell
    have hpc := pieces_yes p.size w3 hp
    obtain ⟨np, hnp⟩ := named (piecesN p.size)
    rw [← hnp.out] at hpc ⊢
    have hnp9 : np ≤ 269 := by rw [hnp.out]; unfold piecesN; omega
    have hg1 : (p.size : Int) ≤ 61 * (np : Int) := by rw [hnp.out]; unfold piecesN; omega
    have hg2 : 61 * ((np : Int) - 1) < max (p.size : Int) 1 := by rw [hnp.out]; unfold piecesN; omega
    have hsz : ∀ k (hk : k < ((sectorsL ⟨kind, epoch, seq, p.data.toList⟩).map str).length), (((sectorsL ⟨kind, epoch, seq, p.data.toList⟩).map str)[k]).size = 64 := fun k hk => by
      rw [List.getElem_map, str_size]
      exact sectorsL_sizes _ _ (List.getElem_mem _)
    have hll : ((sectorsL ⟨kind, epoch, seq, p.data.toList⟩).map str).length = np + 1 := by rw [List.length_map, sectorsL_length, hnp.out]; rfl
    obtain ⟨L, HL⟩ := named ((sectorsL ⟨kind, epoch, seq, p.data.toList⟩).map str)
    rw [← HL.out] at ht hll
    simp only [← HL.out] at hsz
    go_wp2_with fail
    refine hpc.mono ?_
    rintro e w4 ⟨rfl, rfl⟩
    clear hpc
    go_wp2_with fail
    go_loopw [41] (fun i wr => ∃ k : Nat, k ≤ np + 1 ∧ i = .int .i64 k ∧ wr = w3) (fun i _ => np + 1 - (intOf i).toNat)
    case atStart => exact ⟨0, by omega, rfl, rfl⟩
    case round =>
      obtain ⟨k, hk, rfl, rfl⟩ := hrel
      by_cases hlt : k < np + 1
      · obtain ⟨b', o', e', hcx⟩ := Texts.at_ ht (k := k) (by omega)
        subst e'
        have hs64 := hsz k (by omega)
        obtain ⟨x, Hx⟩ := named (L[k]'(by omega))
        rw [← Hx.out] at hcx hs64
        have hs1 : ((x.size : Int) != 64) = false := by rw [hs64]; rfl
        clear hs64 hsz hg1 hg2
        go_wp2
        go_roundw
        case rel => exact ⟨k + 1, by omega, by go_num, trivial⟩
        case measure => simp [intOf]; omega
      · obtain rfl : k = np + 1 := by omega
        go_wp2
        go_ret
        exact ⟨rfl, b1⟩
  · have hno := recSectors_no kind epoch seq p w2 hc
    have hbad := frCheck_bad hc
    obtain ⟨why, hwhy⟩ := named (frCheck ⟨kind, epoch, seq, p.data.toList⟩)
    rw [← hwhy.out] at hno hc
    have hne : (why != 0) = true := by simp [hc]
    refine hno.mono ?_
    rintro e w3 ⟨rfl, hb3⟩
    replace k1 := k1.below hb3
    replace b1 := bt b1 hb3
    clear y hb3 hc hwhy hno
    have y := k1.cell
    rcases hbad with rfl | ⟨hk, hp⟩
    · go_wp2
      go_ret
      exact ⟨rfl, b1⟩
    · have hk2 : ((kind.toNat : Int) == 0) = false := by
        have : kind.toNat ≠ 0 := fun h => hk (UInt8.toNat_inj.1 h)
        simp; omega
      have hk3 : ¬ ((kind.toNat : Int) = 0) := by simpa using hk2
      have hp' : (16384 : Int) < (p.size : Int) := by omega
      go_wp2
      go_ret
      exact ⟨rfl, b1⟩
end Go.Proofs.Ytdgonhmipecjpaa
