/- A frame of an epoch that lies ahead of time: elder. -/
import Derived.Test.YtdgonhmipecjpaaGL
import Derived.Test.YtdgonhmipecjpaaWalFrame
import Derived.Test.YtdgonhmipecjpaaGI
namespace Go.Proofs.Ytdgonhmipecjpaa
set_option linter.unusedSimpArgs false
set_option linter.unusedVariables false
open Go.RowKit Go.Shelf
open Crc
set_option maxRecDepth 100000 in
set_option maxHeartbeats 2000000 in
theorem elder_w (A1 A2 : Option Addr) (c1 c2 : Nat) (d : Dk) (f s a : Nat) (kind : UInt8) (ep sq : Nat) (p : ByteArray) (i0 : Nat) (y : Fr) (n2 : Nat) (w : World) (hv : DkIs w (.agg #[.slice A1 d.secs.length c1, .slice A2 d.pend.length c2, .bool d.off, .int .i64 d.fuse]) d) (hr : right d = true) (hfs : f + s ≤ d.secs.length)
    (hy : FrameAt d f s i0 y n2) (ha : a ≤ i0) (hye : y.epoch = ep) (hys : sq < y.seq) :
    Calls Try.prog 42 #[.agg #[.slice A1 d.secs.length c1, .slice A2 d.pend.length c2, .bool d.off, .int .i64 d.fuse], .agg #[.int .i64 (f : Int), .int .i64 (s : Int)], .agg #[.int .u8 (kind.toNat : Int), .int .u64 (ep : Int), .int .u64 (sq : Int), .string p], .int .i64 (a : Int)] w fun e w' => e = .returned (.bool true) ∧ Below w.heap.size w w' := by
  have hlen := right_len hr
  have hi0 : i0 < s := by have h1 := hy.room; have h2 := hy.len; omega
  obtain ⟨W, HW, Bd, kr, kf, hb, hz⟩ := three_in w hv f s kind ep sq p
  have hfr := fun W (B : Box W w.heap.size A1 c1 A2 c2 d) (k : Nat) (hk : k ≤ i0) => refFrame_w _ d f s k W B.is hr hfs (by omega)
  have HFR := hide hfr
  have Hy := hide hy
  have HA : ∀ k x n, FrameAt d f s k x n → ¬ (x.epoch = ep ∧ sq < x.seq) → k ≠ i0 := fun k x n h1 h2 e => by
    subst e
    rw [(frame_one h1 hy).1] at h2
    exact h2 ⟨hye, hys⟩
  have HB : ∀ k, (∀ x n, ¬ FrameAt d f s k x n) → k ≠ i0 := fun k h e => by subst e; exact h _ _ hy
  have HA' := hide HA
  have HB' := hide HB
  have hs9 : s ≤ 1024 := by omega
  clear hfr hy hv HA HB hye hys hr hfs hlen
  go_enter Try.func42, Try.ntmps42
  go_wp2_with fail
  rw [← HW.out]
  clear HW hz
  go_loopw [9] (fun i wr => ∃ k : Nat, k ≤ i0 ∧ i = .int .i64 (k : Int) ∧ Box wr w.heap.size A1 c1 A2 c2 d ∧ Blk wr (w.heap.size + 1) [.int .i64 (f : Int), .int .i64 (s : Int)] 53 ∧ Blk wr (w.heap.size + 1 + 1) [.int .u8 (kind.toNat : Int), .int .u64 (ep : Int), .int .u64 (sq : Int), .string p] 24 ∧ Below w.heap.size w wr) (fun i _ => i0 + 1 - (intOf i).toNat)
  case atStart => exact ⟨a, ha, rfl, Bd, kr, kf, hb⟩
  case round =>
    clear Bd kr kf hb
    obtain ⟨k, hk, rfl, Bd, kr, kf, hb⟩ := hrel
    have hlt : (k : Int) < (s : Int) := by omega
    have xd := Bd.blk.cell
    have xr := kr.cell
    go_wp2_with fail
    clear xd xr
    refine (HFR.out _ Bd k hk).mono ?_
    rintro e w3 ⟨hret, hb3⟩
    rcases hret with ⟨x, n, hAt, rfl⟩ | ⟨hno, rfl⟩
    · have hn1 : 1 ≤ n := by rw [hAt.len]; omega
      have hn0 : (0 : Int) < (n : Int) := by omega
      unfold frVal
      have kx := Blk.new w3 [.int .u8 (x.kind.toNat : Int), .int .u64 (x.epoch : Int), .int .u64 (x.seq : Int), .string (str x.pay)] 24
      replace Bd := (Bd.below hb3).alloc (.cells #[.int .u8 (x.kind.toNat : Int), .int .u64 (x.epoch : Int), .int .u64 (x.seq : Int), .string (str x.pay)] 24)
      replace kr := (kr.below hb3).alloc (.cells #[.int .u8 (x.kind.toNat : Int), .int .u64 (x.epoch : Int), .int .u64 (x.seq : Int), .string (str x.pay)] 24)
      replace kf := (kf.below hb3).alloc (.cells #[.int .u8 (x.kind.toNat : Int), .int .u64 (x.epoch : Int), .int .u64 (x.seq : Int), .string (str x.pay)] 24)
      replace hb := bt (bt hb hb3) (below_alloc w3 (.cells #[.int .u8 (x.kind.toNat : Int), .int .u64 (x.epoch : Int), .int .u64 (x.seq : Int), .string (str x.pay)] 24))
      have HN := HA'.out k x n hAt
      have xf := kf.cell
      have xx := kx.cell
      clear hb3 hAt HFR HA' HB'
      by_cases h1 : x.epoch = ep
      · by_cases h2 : sq < x.seq
        · have t1 : ((x.epoch : Int) == (ep : Int)) = true := by simp; omega
          have t2 : (sq : Int) < (x.seq : Int) := by omega
          clear HN h1 h2
          go_wp2
          go_ret
          exact ⟨by simp, hb⟩
        · have t1 : ((x.epoch : Int) == (ep : Int)) = true := by simp; omega
          have t2 : ¬ ((sq : Int) < (x.seq : Int)) := by omega
          have hne := HN (fun h => h2 h.2)
          clear HN h1 h2
          go_wp2
          go_roundw
          case rel => exact ⟨k + 1, by omega, by go_num, Bd, kr, kf, hb⟩
          case measure => simp [intOf]; omega
      · have t1 : ((x.epoch : Int) == (ep : Int)) = false := by simp; omega
        have hne := HN (fun h => h1 h.1)
        clear HN h1
        go_wp2
        go_roundw
        case rel => exact ⟨k + 1, by omega, by go_num, Bd, kr, kf, hb⟩
        case measure => simp [intOf]; omega
    · unfold zeroFrame
      have hne := HB'.out k hno
      replace Bd := (Bd.below hb3).alloc (.cells #[.int .u8 0, .int .u64 0, .int .u64 0, .string ⟨#[]⟩] 24)
      replace kr := (kr.below hb3).alloc (.cells #[.int .u8 0, .int .u64 0, .int .u64 0, .string ⟨#[]⟩] 24)
      replace kf := (kf.below hb3).alloc (.cells #[.int .u8 0, .int .u64 0, .int .u64 0, .string ⟨#[]⟩] 24)
      replace hb := bt (bt hb hb3) (below_alloc w3 (.cells #[.int .u8 0, .int .u64 0, .int .u64 0, .string ⟨#[]⟩] 24))
      clear hb3 hno HFR HA' HB'
      go_wp2
      go_roundw
      case rel => exact ⟨k + 1, by omega, by go_num, Bd, kr, kf, hb⟩
      case measure => simp [intOf]; omega
end Go.Proofs.Ytdgonhmipecjpaa
