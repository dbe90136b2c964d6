/- wal.Scan, refused. -/
import Derived.Test.YtdgonhmipecjpaaGI
namespace Go.Proofs.Ytdgonhmipecjpaa
set_option linter.unusedSimpArgs false
set_option linter.unusedVariables false
open Go.RowKit Go.Shelf
open Crc
set_option maxHeartbeats 4000000 in
set_option maxRecDepth 100000 in
theorem scan_no (v : Value) (d : Dk) (f s : Int) (ep : Nat) (w : World) (hv : DkIs w v d) (hf : -9223372036854775808 ≤ f ∧ f ≤ 9223372036854775807) (hs : -9223372036854775808 ≤ s ∧ s ≤ 9223372036854775807) (hno : scanE d f s ≠ 0) :
    Calls Try.prog 30 #[v, .agg #[.int .i64 f, .int .i64 s], .int .u64 (ep : Int)] w fun e w' => e = .returned (.tuple #[.slice none 0 0, .int .i64 0, .int .i64 (scanE d f s)]) ∧ Below w.heap.size w w' := by
  have hck := fun W hb => walCheck_w v d f s W (DkIs.below hv hb) hf hs
  obtain ⟨A1, c1, A2, c2, rfl, h1, h2, hl1, hl2, _⟩ := hv
  have k1 := ((Blk.new w [.slice A1 d.secs.length c1, .slice A2 d.pend.length c2, .bool d.off, .int .i64 d.fuse] 49).alloc (.cells #[.int .i64 f, .int .i64 s] 53)).alloc (.cells #[.int .u64 (ep : Int)] 22)
  have b1 := bt (bt (below_alloc w (.cells #[.slice A1 d.secs.length c1, .slice A2 d.pend.length c2, .bool d.off, .int .i64 d.fuse] 49)) (below_alloc _ (.cells #[.int .i64 f, .int .i64 s] 53))) (below_alloc _ (.cells #[.int .u64 (ep : Int)] 22))
  have hck0 := hck _ b1
  obtain ⟨r, Hr⟩ := named (scanE d f s)
  obtain ⟨we, Hwe⟩ := named (walE d f s)
  rw [← Hwe.out] at hck0
  rw [← Hr.out] at hno ⊢
  clear hck
  go_enter Try.func30, Try.ntmps30
  go_wp2_with fail
  refine hck0.mono ?_
  rintro e W ⟨rfl, hb2⟩
  replace k1 := k1.below hb2
  replace b1 := bt b1 hb2
  clear hck0 hb2
  by_cases hz : we = 0
  · have hoff : d.off = true := by
      cases ho : d.off with
      | true => rfl
      | false =>
        exfalso
        apply hno
        rw [Hr.out, scanE, if_neg (by rw [← Hwe.out, hz]; decide)]
        simp [ho]
    have hE := hide (show r = 15 by rw [Hr.out, scanE, if_neg (by rw [← Hwe.out, hz]; decide), hoff]; rfl)
    subst hz
    rw [hoff] at k1
    rw [hoff]
    have y := k1.cell
    clear hno hoff
    go_wp2
    go_ret3
    exact ⟨by rw [hE.out]; rfl, b1⟩
  · have hE := hide (show r = we by rw [Hr.out, scanE, if_pos (by rw [← Hwe.out]; exact hz), ← Hwe.out])
    have hz1 : (we == 0) = false := by simp [hz]
    have hz2 : (we != 0) = true := by simp [hz]
    have y := k1.cell
    clear hno
    go_wp2
    go_ret3
    exact ⟨by rw [hE.out]; rfl, b1⟩
end Go.Proofs.Ytdgonhmipecjpaa
