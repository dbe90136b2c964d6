/- The document's Copy. -/
import Derived.Test.YtcnhdmchoiiceaaSecWork
import Derived.Deep.DeepCutAuto
namespace Go.Proofs.Ytcnhdmchoiiceaa
open Go.RowKit
/-- A disk's value of one's own. -/
def OwnDk (w : World) (base : Nat) (v : Value) (d : Dk) : Prop := ∃ sv pv, v = .agg #[sv, pv, .bool d.off, .int .i64 d.fuse] ∧ w.ownsRow base 9 1 sv d.secs.length (strs d.secs) ∧ w.ownsRow base 43 2 pv d.pend.length (wrs d.pend) ∧
  d.secs.length ≤ 140737488351232 ∧ d.pend.length ≤ 140737488351232 ∧ -9223372036854775808 ≤ d.fuse ∧ d.fuse ≤ 9223372036854775807
set_option maxRecDepth 100000 in
set_option maxHeartbeats 4000000 in
theorem refCopy_w (A1 A2 : Option Addr) (c1 c2 : Nat) (d : Dk) (w : World) (h1 : Texts w A1 d.secs) (h2 : Writes w A2 d.pend) (hl1 : d.secs.length * 16 ≤ 140737488351232) (hl2 : d.pend.length * 24 ≤ 140737488351232) (hf1 : -9223372036854775808 ≤ d.fuse) (hf2 : d.fuse ≤ 9223372036854775807) :
    Calls Try.prog 11 #[.agg #[.slice A1 d.secs.length c1, .slice A2 d.pend.length c2, .bool d.off, .int .i64 d.fuse]] w fun e w' => ∃ v, e = .returned v ∧ OwnDk w' w.heap.size v d ∧ Below w.heap.size w w' := by
  obtain ⟨b0, k1, k2⟩ := (⟨bt (below_alloc _ _) (below_alloc _ _), (Blk.new w _ _).alloc _, Blk.new (w.alloc _) _ _⟩ : Below w.heap.size w ((w.alloc (.cells #[.slice A1 d.secs.length c1, .slice A2 d.pend.length c2, .bool d.off, .int .i64 d.fuse] 25)).alloc (.cells #[.slice none 0 0, .slice none 0 0, .bool false, .int .i64 0] 25)) ∧
    Blk ((w.alloc (.cells #[.slice A1 d.secs.length c1, .slice A2 d.pend.length c2, .bool d.off, .int .i64 d.fuse] 25)).alloc (.cells #[.slice none 0 0, .slice none 0 0, .bool false, .int .i64 0] 25)) w.heap.size [.slice A1 d.secs.length c1, .slice A2 d.pend.length c2, .bool d.off, .int .i64 d.fuse] 25 ∧
    Blk ((w.alloc (.cells #[.slice A1 d.secs.length c1, .slice A2 d.pend.length c2, .bool d.off, .int .i64 d.fuse] 25)).alloc (.cells #[.slice none 0 0, .slice none 0 0, .bool false, .int .i64 0] 25)) (w.alloc (.cells #[.slice A1 d.secs.length c1, .slice A2 d.pend.length c2, .bool d.off, .int .i64 d.fuse] 25)).heap.size [.slice none 0 0, .slice none 0 0, .bool false, .int .i64 0] 25)
  rw [show (w.alloc (.cells #[.slice A1 d.secs.length c1, .slice A2 d.pend.length c2, .bool d.off, .int .i64 d.fuse] 25)).heap.size = w.heap.size + 1 by simp] at k2
  obtain ⟨i0, hi, hz0, hz1, hz2⟩ := info_parts Try.info43
  obtain ⟨j0, hj, hy0, hy1, hy2⟩ := info_parts Try.info9
  have t1 := h1.below b0
  have t2 := h2.below b0
  go_enter Try.func11, Try.ntmps11
  go_upto_region 1 with fail
  obtain ⟨W0, H0⟩ := named ((w.alloc (.cells #[.slice A1 d.secs.length c1, .slice A2 d.pend.length c2, .bool d.off, .int .i64 d.fuse] 25)).alloc (.cells #[.slice none 0 0, .slice none 0 0, .bool false, .int .i64 0] 25))
  rw [← H0.out] at b0 k1 k2 t1 t2 ⊢
  clear H0
  have x0 := (k1.alloc (.cells #[] 9)).cell 0
  go_upto_region 2 with (first
    | (at_builtin
       refine wpList_append_any _ rfl (.tmp 3) (.tmp 5) _ rfl W0.heap.size 9 j0 _ 1 16 Try.underlying22 hj hy0 hy1 hy2 rfl (by omega) (.slice (some ⟨W0.heap.size, 0, none⟩) 0 0) 0 [] rfl
         (own_empty W0 _ _) A1 d.secs.length c1 (strs d.secs) rfl (Lies.alloc t1 _) (strs_one _) (by simp only [maxLen]; omega) (by omega) (by simp) ?_
       intro v1 Wa own1 hg1 hat1
       have hbA : Below W0.heap.size W0 Wa := ((Below.refl _ _).alloc (Nat.le_refl _) _).grown hg1 (by simp) (by simp [Value.ownBlock])
       obtain ⟨B1, e1, rfl, _⟩ := Lies.of_own own1
       have ka := (k1.below hbA).cell 0
       have kf := (k1.below hbA).free 0))
  have own1' : Wa.ownsRow W0.heap.size 9 1 (.slice B1 d.secs.length e1) d.secs.length (strs d.secs) := by simpa using own1
  have hN0 : w.heap.size + 1 < W0.heap.size := k2.lt
  have hbW := (b0.trans (hbA.mono (by omega))).setCell (p := ⟨w.heap.size, 0, none⟩) (Nat.le_refl _) (.slice B1 d.secs.length e1)
  have m1 := (k1.below hbA).set 0 (.slice B1 d.secs.length e1)
  have m2 := (k2.below hbA).far (p := ⟨w.heap.size, 0, none⟩) (by simp) (.slice B1 d.secs.length e1)
  have o1 := World.ownsRow.mono (own_far own1' (p := ⟨w.heap.size, 0, none⟩) (own_blk_ne own1' (k1.below hbA) (by decide)) (.slice B1 d.secs.length e1)) (show w.heap.size + 1 + 1 ≤ W0.heap.size by omega)
  have t3 := h2.below hbW
  obtain ⟨W1, H1⟩ := named (Wa.setCell ⟨w.heap.size, 0, none⟩ (.slice B1 d.secs.length e1))
  rw [← H1.out] at hbW m1 m2 o1 t3 ⊢
  clear H1 own1 own1' ka kf x0 hg1 hat1 t1 t2 k1 k2 b0
  simp only [List.set_cons_zero] at m1
  have hN1 : w.heap.size + 1 < W1.heap.size := m2.lt
  have x1 := (m1.alloc (.cells #[] 43)).cell 1
  go_upto_region 3 with (first
    | (at_builtin
       refine wpList_append_any _ rfl (.tmp 8) (.tmp 10) _ rfl W1.heap.size 43 i0 _ 2 24 Try.underlying23 hi hz0 hz1 hz2 rfl (by omega) (.slice (some ⟨W1.heap.size, 0, none⟩) 0 0) 0 [] rfl
         (own_empty W1 _ _) A2 d.pend.length c2 (wrs d.pend) rfl (Lies.alloc t3 _) (wrs_one _) (by simp only [maxLen]; omega) (by omega) (by simp) ?_
       intro v2 Wb own2 hg2 hat2
       have hbB : Below W1.heap.size W1 Wb := ((Below.refl _ _).alloc (Nat.le_refl _) _).grown hg2 (by simp) (by simp [Value.ownBlock])
       obtain ⟨B2, e2, rfl, _⟩ := Lies.of_own own2
       have kb := (m1.below hbB).cell 1
       have kg := (m1.below hbB).free 1))
  have own2' : Wb.ownsRow W1.heap.size 43 2 (.slice B2 d.pend.length e2) d.pend.length (wrs d.pend) := by simpa using own2
  have hbW2 := (hbW.trans (hbB.mono (by omega))).setCell (p := ⟨w.heap.size, 1, none⟩) (show w.heap.size ≤ w.heap.size from Nat.le_refl _) (.slice B2 d.pend.length e2)
  have n1 := (m1.below hbB).set 1 (.slice B2 d.pend.length e2)
  have n2 := (m2.below hbB).far (p := ⟨w.heap.size, 1, none⟩) (by simp) (.slice B2 d.pend.length e2)
  have o2 := World.ownsRow.mono (own_far own2' (p := ⟨w.heap.size, 1, none⟩) (own_blk_ne own2' (m1.below hbB) (by decide)) (.slice B2 d.pend.length e2)) (show w.heap.size ≤ W1.heap.size by omega)
  have o1b := own_below o1 hbB
  have o1c := World.ownsRow.mono (own_far o1b (p := ⟨w.heap.size, 1, none⟩) (own_blk_ne o1b (m1.below hbB) (by decide)) (.slice B2 d.pend.length e2)) (show w.heap.size ≤ w.heap.size + 1 + 1 by omega)
  obtain ⟨W2, H2⟩ := named (Wb.setCell ⟨w.heap.size, 1, none⟩ (.slice B2 d.pend.length e2))
  rw [← H2.out] at hbW2 n1 n2 o2 o1c ⊢
  clear H2 own2 own2' kb kg x1 hg2 hat2 t3 m1 m2 o1 o1b
  simp only [List.set_cons_zero, List.set_cons_succ] at n1
  have y0 := n1.cell 0
  have y1 := n1.cell 1
  have y2 := n1.cell 2
  have y3 := n1.cell 3
  have r0 := n2.cell 0
  have r1 := n2.cell 1
  have r2 := n2.cell 2
  have r3 := n2.cell 3
  have z0 := n2.free 0
  have z1 := n2.free 1
  have z2 := n2.free 2
  have z3 := n2.free 3
  go_wp2_with fail
  refine bodyPost_ret (v := .agg #[.slice B1 d.secs.length e1, .slice B2 d.pend.length e2, .bool d.off, .int .i64 d.fuse]) (by simp [results, Try.results11, go_sem, r0, r1, r2, r3]) rfl ?_
  have w1 := own_blk_ne o1c n2 (by decide)
  have w2 := own_blk_ne o2 n2 (by decide)
  refine ⟨_, rfl, ⟨_, _, rfl, own_far (own_far (own_far (own_far o1c (p := ⟨w.heap.size + 1, 0, none⟩) w1 _) (p := ⟨w.heap.size + 1, 1, none⟩) w1 _) (p := ⟨w.heap.size + 1, 2, none⟩) w1 _) (p := ⟨w.heap.size + 1, 3, none⟩) w1 _,
    own_far (own_far (own_far (own_far o2 (p := ⟨w.heap.size + 1, 0, none⟩) w2 _) (p := ⟨w.heap.size + 1, 1, none⟩) w2 _) (p := ⟨w.heap.size + 1, 2, none⟩) w2 _) (p := ⟨w.heap.size + 1, 3, none⟩) w2 _, by omega, by omega, hf1, hf2⟩,
    (((hbW2.setCell (p := ⟨w.heap.size + 1, 0, none⟩) (by simp only; omega) _).setCell (p := ⟨w.heap.size + 1, 1, none⟩) (by simp only; omega) _).setCell (p := ⟨w.heap.size + 1, 2, none⟩) (by simp only; omega) _).setCell (p := ⟨w.heap.size + 1, 3, none⟩) (by simp only; omega) _⟩
end Go.Proofs.Ytcnhdmchoiiceaa
