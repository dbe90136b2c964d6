/- The document's Same, of two disks that are one. -/
import Derived.Test.YtcnhdmchoiiceaaSecWalks
namespace Go.Proofs.Ytcnhdmchoiiceaa
open Go.RowKit
set_option maxRecDepth 100000 in
set_option maxHeartbeats 4000000 in
theorem refSame_w (va vb : Value) (d : Dk) (w : World) (ha : DkIs w va d) (hb : DkIs w vb d) :
    Calls Try.prog 17 #[va, vb] w fun e w' => e = .returned (.bool true) ∧ Below w.heap.size w w' := by
  obtain ⟨A1, c1, A2, c2, rfl, h1, h2, hl1, hl2, _, _⟩ := ha
  obtain ⟨B1, e1, B2, e2, rfl, g1, g2, _, _, _, _⟩ := hb
  obtain ⟨b0, k1, k2⟩ : Below w.heap.size w ((w.alloc (.cells #[.slice A1 d.secs.length c1, .slice A2 d.pend.length c2, .bool d.off, .int .i64 d.fuse] 25)).alloc (.cells #[.slice B1 d.secs.length e1, .slice B2 d.pend.length e2, .bool d.off, .int .i64 d.fuse] 25)) ∧
    Blk ((w.alloc (.cells #[.slice A1 d.secs.length c1, .slice A2 d.pend.length c2, .bool d.off, .int .i64 d.fuse] 25)).alloc (.cells #[.slice B1 d.secs.length e1, .slice B2 d.pend.length e2, .bool d.off, .int .i64 d.fuse] 25)) w.heap.size [.slice A1 d.secs.length c1, .slice A2 d.pend.length c2, .bool d.off, .int .i64 d.fuse] 25 ∧
    Blk ((w.alloc (.cells #[.slice A1 d.secs.length c1, .slice A2 d.pend.length c2, .bool d.off, .int .i64 d.fuse] 25)).alloc (.cells #[.slice B1 d.secs.length e1, .slice B2 d.pend.length e2, .bool d.off, .int .i64 d.fuse] 25)) (w.heap.size + 1) [.slice B1 d.secs.length e1, .slice B2 d.pend.length e2, .bool d.off, .int .i64 d.fuse] 25 := by
    refine ⟨bt (below_alloc _ _) (below_alloc _ _), (Blk.new w _ _).alloc _, ?_⟩
    have := Blk.new (w.alloc (.cells #[.slice A1 d.secs.length c1, .slice A2 d.pend.length c2, .bool d.off, .int .i64 d.fuse] 25)) [.slice B1 d.secs.length e1, .slice B2 d.pend.length e2, .bool d.off, .int .i64 d.fuse] 25
    rw [show (w.alloc (.cells #[.slice A1 d.secs.length c1, .slice A2 d.pend.length c2, .bool d.off, .int .i64 d.fuse] 25)).heap.size = w.heap.size + 1 by simp] at this
    exact this
  obtain ⟨W, HW⟩ := named ((w.alloc (.cells #[.slice A1 d.secs.length c1, .slice A2 d.pend.length c2, .bool d.off, .int .i64 d.fuse] 25)).alloc (.cells #[.slice B1 d.secs.length e1, .slice B2 d.pend.length e2, .bool d.off, .int .i64 d.fuse] 25))
  obtain ⟨S, P, off, fuse⟩ := d
  simp only at h1 h2 g1 g2 hl1 hl2 b0 k1 k2 HW ⊢
  have t1 := h1.below b0
  have t2 := h2.below b0
  have s1 := g1.below b0
  have s2 := g2.below b0
  go_enter Try.func17, Try.ntmps17
  go_wp2
  rw [← HW.out] at k1 k2 b0 t1 t2 s1 s2 ⊢
  clear HW h1 h2 g1 g2
  have x0 := k1.cell 0
  have x1 := k1.cell 1
  have y0 := k2.cell 0
  have y1 := k2.cell 1
  go_loopw [40] (fun i wr => ∃ k : Nat, k ≤ S.length ∧ i = .int .i64 k ∧ ∃ m, wr = W.drewN m) (fun i _ => S.length - (intOf i).toNat)
  case atStart => exact ⟨0, by omega, rfl, 0, rfl⟩
  case round =>
    obtain ⟨k, hk, rfl, m, rfl⟩ := hrel
    by_cases hlt : k < S.length
    · obtain ⟨b, o, rfl, hc⟩ := t1.at_ hlt
      obtain ⟨b2, o2, rfl, hc2⟩ := s1.at_ hlt
      have hi0 : (0 : Int) ≤ (k : Int) := by omega
      have hi1 : (k : Int) < (S.length : Int) := by omega
      go_wp2_with (go_quiet (fail))
      go_roundw
      case rel => exact ⟨k + 1, by omega, by go_num, _, rfl⟩
      case measure => simp [intOf]; omega
    · have hk' : k = S.length := by omega
      subst hk'
      go_wp2
      go_loopw [58] (fun i wr => ∃ k : Nat, k ≤ P.length ∧ i = .int .i64 k ∧ ∃ m, wr = W.drewN m) (fun i _ => P.length - (intOf i).toNat)
      case atStart => exact ⟨0, by omega, rfl, m, rfl⟩
      case round =>
        obtain ⟨k, hk, rfl, m, rfl⟩ := hrel
        by_cases hlt : k < P.length
        · obtain ⟨b, o, rfl, hc, hd⟩ := t2.at_ hlt
          obtain ⟨b2, o2, rfl, hc2, hd2⟩ := s2.at_ hlt
          have hi0 : (0 : Int) ≤ (k : Int) := by omega
          have hi1 : (k : Int) < (P.length : Int) := by omega
          go_wp2_with (go_quiet (fail))
          go_roundw
          case rel => exact ⟨k + 1, by omega, by go_num, _, rfl⟩
          case measure => simp [intOf]; omega
        · go_wp2
          go_ret
          exact ⟨rfl, below_drewN b0 m⟩
end Go.Proofs.Ytcnhdmchoiiceaa
