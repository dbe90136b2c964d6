/- The walk of sector.Check. -/
import Derived.Test.YtcnhdmchoiiceaaSecNew
namespace Go.Proofs.Ytcnhdmchoiiceaa
open Go.RowKit
theorem new_w (n : Int) (w : World) (hn : -9223372036854775808 ≤ n ∧ n ≤ 9223372036854775807) :
    Calls Try.prog 24 #[.int .i64 n] w (DkRet (newD n) (newE n) w) := by
  by_cases h : 1 ≤ n ∧ n ≤ 1024
  · obtain ⟨k, rfl⟩ := Int.eq_ofNat_of_zero_le (show 0 ≤ n by omega)
    have := new_yes k w (by omega) (by omega)
    simpa [newD, newE, h] using this
  · simpa [newD, newE, h] using new_no n w hn h
set_option maxHeartbeats 800000 in
theorem check_w (A1 A2 : Option Addr) (c1 c2 : Nat) (d : Dk) (w : World) (h1 : Texts w A1 d.secs) (h2 : Writes w A2 d.pend) (hl1 : d.secs.length ≤ 140737488351232) (hl2 : d.pend.length ≤ 140737488351232) :
    Calls Try.prog 20 #[.agg #[.slice A1 d.secs.length c1, .slice A2 d.pend.length c2, .bool d.off, .int .i64 d.fuse]] w fun e w' => e = .returned (.int .i64 (checkE d)) ∧ Below w.heap.size w w' := by
  obtain ⟨hno1, hno2⟩ := new_of d.secs.length
  cases hs : sizeOk d.secs.length
  · have hE : checkE d = 13 := by simp [checkE, right, hs]
    have HN := hide (hno2 hs).2
    rw [hE]
    clear hno1 hno2 hE
    have hmf : ∀ (fn : Fn) (first cap : Array Value) (w : World), (Instr.makeFunc fn first cap).run Try.prog w = .ok (.func fn first cap) w := fun _ _ _ _ => rfl
    go_enter Try.func20, Try.ntmps20
    go_wp2_with fail
    refine (new_w _ _ (by omega)).mono ?_
    rw [HN.out]
    rintro e w1 ⟨v, rfl, ⟨B1, k1, B2, k2, rfl, -⟩, hb⟩
    go_wp2
    go_ret
    exact ⟨rfl, bt (bt (bt (below_alloc _ _) (below_alloc _ _)) hb) (below_alloc _ _)⟩
  · have HN := hide (hno1 hs).2
    have hmf : ∀ (fn : Fn) (first cap : Array Value) (w : World), (Instr.makeFunc fn first cap).run Try.prog w = .ok (.func fn first cap) w := fun _ _ _ _ => rfl
    have hr : right d = (decide (d.pend.length ≤ 4096) && !d.secs.any odd && !d.pend.any (wrongW d.secs)) := by simp [right, hs]
    have Hr := hide hr
    clear hno1 hno2 hr
    have hd0 := Holds.alloc (Holds.new w (dkCells A1 d.secs.length c1 A2 d.pend.length c2 d.off d.fuse) 25 (0, 0)) (.cells #[.func (.func 43) #[] #[]] 46)
    have hf0 := Holds.new (w.alloc (.cells (dkCells A1 d.secs.length c1 A2 d.pend.length c2 d.off d.fuse).toArray 25)) [.func (.func 43) #[] #[]] 46 (0, 0)
    go_enter Try.func20, Try.ntmps20
    go_wp2_with fail
    refine (new_w _ _ (by omega)).mono ?_
    rw [HN.out]
    rintro e w1 ⟨v, rfl, ⟨B1, k1, B2, k2, rfl, -⟩, hb⟩
    have hd := hd0.below hb
    have hf := hf0.below hb
    have hbw := bt (bt (below_alloc _ _) (below_alloc _ _)) hb
    have hsz : w.heap.size + 1 < w1.heap.size := by have := hb.size; simp at this; omega
    have hsz0 : w.heap.size < w1.heap.size := by omega
    rw [World.size_alloc] at hf
    have g1 := h1.below hbw
    have g2 := h2.below hbw
    have q0 := hd 0 _ rfl
    have q1 := hd 1 _ rfl
    have r0 := hf 0 _ rfl
    clear hd0 hf0 hb
    by_cases hp : d.pend.length ≤ 4096
    · go_wp2_with fail
      refine (anyOdd_w A1 c1 d.secs _ (g1.below (below_alloc _ _)) hl1).mono ?_
      rintro e w2 ⟨rfl, hb2⟩
      have hb3 := bt (below_alloc _ _) hb2
      cases ho : d.secs.any odd
      · have s1 := hd.below hb3 1 _ rfl
        have hd2 := hd.below hb3
        have hf2 := hf.below hb3
        have g3 := g2.below hb3
        clear q0 q1 r0 hd hf g1 g2
        go_wp2_with fail
        refine (anyWrong_w _ _ A1 A2 c1 d.pend.length c2 d.secs d.off d.fuse A2 c2 d.pend _ hd2 hf2 g3 hl2).mono ?_
        rintro e w3 ⟨rfl, hb4⟩
        cases hg : d.pend.any (wrongW d.secs)
        · have hE : checkE d = 0 := by simp only [checkE, Hr.out, ho, hg]; simp; omega
          have HE := hide hE
          clear hE
          go_wp2
          go_ret
          exact ⟨ret_int HE.out.symm, bt (bt hbw hb3) hb4⟩
        · have hE : checkE d = 13 := by simp only [checkE, Hr.out, ho, hg]; simp
          have HE := hide hE
          clear hE
          go_wp2
          go_ret
          exact ⟨ret_int HE.out.symm, bt (bt hbw hb3) hb4⟩
      · have hE : checkE d = 13 := by simp only [checkE, Hr.out, ho]; simp
        have HE := hide hE
        clear hE
        go_wp2
        go_ret
        exact ⟨ret_int HE.out.symm, bt hbw hb3⟩
    · have hE : checkE d = 13 := by simp [checkE, Hr.out, hp]
      have HE := hide hE
      clear hE
      go_wp2
      go_ret
      exact ⟨ret_int HE.out.symm, bt hbw (below_alloc _ _)⟩
end Go.Proofs.Ytcnhdmchoiiceaa
