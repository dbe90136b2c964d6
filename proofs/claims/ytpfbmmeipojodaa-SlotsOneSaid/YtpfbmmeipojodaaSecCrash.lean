/- The walk of sector.Crash. -/
import Derived.Test.YtpfbmmeipojodaaGC
import Derived.Deep.DeepCutAuto
namespace Go.Proofs.Ytpfbmmeipojodaa
open Go.RowKit
theorem three_blk (w : World) (v1 v2 v3 : List Value) (t1 t2 t3 : TypeId) :
    Below w.heap.size w (((w.alloc (.cells v1.toArray t1)).alloc (.cells v2.toArray t2)).alloc (.cells v3.toArray t3)) ∧
    Blk (((w.alloc (.cells v1.toArray t1)).alloc (.cells v2.toArray t2)).alloc (.cells v3.toArray t3)) w.heap.size v1 t1 ∧
    Blk (((w.alloc (.cells v1.toArray t1)).alloc (.cells v2.toArray t2)).alloc (.cells v3.toArray t3)) (w.heap.size + 1) v2 t2 ∧
    Blk (((w.alloc (.cells v1.toArray t1)).alloc (.cells v2.toArray t2)).alloc (.cells v3.toArray t3)) (w.heap.size + 1 + 1) v3 t3 := by
  have b1 := Blk.new w v1 t1
  have b2 := Blk.new (w.alloc (.cells v1.toArray t1)) v2 t2
  have b3 := Blk.new ((w.alloc (.cells v1.toArray t1)).alloc (.cells v2.toArray t2)) v3 t3
  have e1 : (w.alloc (.cells v1.toArray t1)).heap.size = w.heap.size + 1 := by simp
  have e2 : ((w.alloc (.cells v1.toArray t1)).alloc (.cells v2.toArray t2)).heap.size = w.heap.size + 1 + 1 := by simp
  rw [e1] at b2
  rw [e2] at b3
  exact ⟨bt (bt (below_alloc _ _) (below_alloc _ _)) (below_alloc _ _), (b1.alloc _).alloc _, b2.alloc _, b3⟩
set_option maxRecDepth 100000 in
set_option maxHeartbeats 4000000 in
theorem crash_ok (A1 A2 Ak : Option Addr) (c1 c2 ck : Nat) (d : Dk) (keep : List Bool) (w : World) (h1 : Texts w A1 d.secs) (h2 : Writes w A2 d.pend) (hk : Bools w Ak keep) (hr : right d = true) :
    Calls Try.prog 12 #[.agg #[.slice A1 d.secs.length c1, .slice A2 d.pend.length c2, .bool d.off, .int .i64 d.fuse], .slice Ak keep.length ck] w (DkRet ⟨stl (mayOf keep) 0 d.pend d.secs, [], false, -1⟩ 0 w) := by
  obtain ⟨S, P, off, fuse⟩ := d
  simp only at h1 h2
  have hin := right_in hr
  simp only at hin
  have hl : S.length ≤ 1024 ∧ P.length ≤ 4096 := by
    simp [right, sizeOk] at hr
    omega
  obtain ⟨hl1, hl2⟩ := hl
  have hE := hide (show checkE ⟨S, P, off, fuse⟩ = 0 by simp [checkE, hr])
  clear hr
  have hmf : ∀ fn first cap w, (Instr.makeFunc fn first cap).run Try.prog w = .ok (.func fn first cap) w := fun _ _ _ _ => rfl
  obtain ⟨b0, k1, k2, k3⟩ := three_blk w [.slice A1 S.length c1, .slice A2 P.length c2, .bool off, .int .i64 fuse] [.slice Ak keep.length ck] [.slice none 0 0, .slice none 0 0, .bool false, .int .i64 0] 28 24 28
  go_enter Try.func12, Try.ntmps12
  go_wp2_with fail
  refine (check_w A1 A2 c1 c2 ⟨S, P, off, fuse⟩ _ (h1.below b0) (h2.below b0) (by simp only; omega) (by simp only; omega)).mono ?_
  rw [hE.out]
  rintro e w1 ⟨rfl, hb⟩
  have p1 := k1.below hb
  have p2 := k2.below hb
  have p3 := k3.below hb
  have hbw := bt b0 hb
  clear k1 k2 k3 b0 hb hE
  go_wp2_with fail
  have q1 : Blk w1.drew w.heap.size _ _ := p1
  have q2 : Blk w1.drew (w.heap.size + 1) _ _ := p2
  have q3 : Blk w1.drew (w.heap.size + 1 + 1) _ _ := p3
  have r1 : Texts w1.drew A1 S := h1.below hbw.drew
  have hwd : Below w.heap.size w w1.drew := hbw.drew
  have hM : w.heap.size + 1 + 1 < w1.drew.heap.size := p3.lt
  have e0 : w1.cell? ⟨w.heap.size, 0, none⟩ = some (.slice A1 S.length c1) := p1.cell 0
  have e1 : w1.cell? ⟨w.heap.size, 1, none⟩ = some (.slice A2 P.length c2) := p1.cell 1
  go_region_held3 (fun w' => w'.cell? ⟨w.heap.size, 0, none⟩ = some (.slice A1 S.length c1) ∧ w'.cell? ⟨w.heap.size, 1, none⟩ = some (.slice A2 P.length c2))
    (first
      | (go_keep; done)
      | exact ⟨(q1.below hb2).cell 0, (q1.below hb2).cell 1⟩
      | exact ⟨((q1.below hb2).alloc _).cell 0, ((q1.below hb2).alloc _).cell 1⟩)
    ((go_at_call 27
      refine (cloneS_w A1 c1 S _ r1 (by omega)).mono ?_
      rintro e w2 ⟨v2, rfl, ho2, hb2⟩
      obtain ⟨B2, d2, rfl, _⟩ := Lies.of_own ho2))
  go_split_ands
  have o2 : w2.ownsRow w1.drew.heap.size 9 1 _ _ _ := ho2
  have hbw2 : Below w.heap.size w w2 := bt hwd hb2
  have hMW : w1.drew.heap.size ≤ w2.heap.size := hb2.size
  have A5 : At (w2.alloc (.cells #[.slice B2 S.length d2, .slice A2 P.length c2, .bool false, .int .i64 (-1)] 70)) w1.drew.heap.size w2.heap.size (.slice B2 S.length d2) (.slice A2 P.length c2) ⟨S, P, false, -1⟩ := ⟨Blk.new w2 _ _, o2.alloc _, hMW⟩
  have P5 := ((q2.below hb2).alloc (.cells #[.slice B2 S.length d2, .slice A2 P.length c2, .bool false, .int .i64 (-1)] 70))
  have R5 := ((q3.below hb2).alloc (.cells #[.slice B2 S.length d2, .slice A2 P.length c2, .bool false, .int .i64 (-1)] 70))
  have hb5 := hbw2.alloc hbw2.size (.cells #[.slice B2 S.length d2, .slice A2 P.length c2, .bool false, .int .i64 (-1)] 70)
  clear p1 p2 p3 q1 q2 q3 r1 e0 e1 hbw hwd
  go_wp2_with fail
  refine (settleKeep_w (w.heap.size + 1) (mayOf keep) w1.drew.heap.size w2.heap.size _ A2 c2 ⟨S, P, false, -1⟩ _ A5 (h2.below hb5) ?_ hin (by simp only; omega) ?_).mono ?_
  · intro hne a ha
    subst ha
    obtain ⟨b, o, e, hc⟩ := h2.2 (fun h => by have := wrs_length P; rw [h] at this; cases P with | nil => exact hne rfl | cons x l => simp at this)
    cases e
    have hlt : b < w.heap.size := by
      have := World.block_lt_of_cell? w _ (hc 0 _ (List.getElem?_eq_getElem (by rw [wrs_length]; cases P with | nil => exact absurd rfl hne | cons x l => simp <;> omega)))
      exact this
    refine ⟨fun e => ?_, ?_⟩
    · have := ho2.lt _ e
      simp only at this
      omega
    · simp only; omega
  · intro i w' hi hb
    exact keep_w _ Ak ck keep i w' ((P5.belowAt hb (by omega)).cell 0) (Lies.below hk (hb5.trans (hb.mono (by omega))))
  rintro e W6 ⟨rfl, A6, hb6⟩
  have hlen := stl_length (mayOf keep) 0 P S
  have R6 := R5.belowAt hb6 hM
  have hw6 : Below w.heap.size w W6 := hb5.trans (hb6.mono (by omega))
  have P6 : W6.ownsRow w1.drew.heap.size 66 2 (.slice none 0 0) 0 (wrs []) := World.ownsRow_nil _ _ _ _
  clear P5 R5 A5 hb5 hbw2 ho2 o2 hb2
  have r0 := R6.cell 0
  have r1 := R6.cell 1
  have r2 := R6.cell 2
  have r3 := R6.cell 3
  have z0 := R6.free 0
  have z1 := R6.free 1
  have z2 := R6.free 2
  have z3 := R6.free 3
  have y0 := A6.blk.cell 0
  have y1 := A6.blk.cell 1
  have y2 := A6.blk.cell 2
  have y3 := A6.blk.cell 3
  go_wp2_with fail
  refine bodyPost_ret (v := .tuple #[.agg #[.slice B2 S.length d2, .slice none 0 0, .bool false, .int .i64 (-1)], .int .i64 0]) (by simp [results, Try.results12, go_sem, r0, r1, r2, r3]) rfl ?_
  exact dkRet_of (ret_end A6 P6 R6 hw6 (by omega) (by simp only [hlen]; omega) (by simp) (show (-9223372036854775808 : Int) ≤ -1 by decide) (show (-1 : Int) ≤ 9223372036854775807 by decide)) rfl rfl
set_option maxRecDepth 100000 in
set_option maxHeartbeats 4000000 in
theorem crash_no (A1 A2 Ak : Option Addr) (c1 c2 ck nk : Nat) (d : Dk) (w : World) (h1 : Texts w A1 d.secs) (h2 : Writes w A2 d.pend) (hl1 : d.secs.length ≤ 140737488351232) (hl2 : d.pend.length ≤ 140737488351232) (hr : right d = false) :
    Calls Try.prog 12 #[.agg #[.slice A1 d.secs.length c1, .slice A2 d.pend.length c2, .bool d.off, .int .i64 d.fuse], .slice Ak nk ck] w (DkRet dk0 13 w) := by
  have hE := hide (show checkE d = 13 by simp [checkE, hr])
  clear hr
  obtain ⟨b0, k1, k2, k3⟩ := three_blk w [.slice A1 d.secs.length c1, .slice A2 d.pend.length c2, .bool d.off, .int .i64 d.fuse] [.slice Ak nk ck] [.slice none 0 0, .slice none 0 0, .bool false, .int .i64 0] 28 24 28
  go_enter Try.func12, Try.ntmps12
  go_wp2_with fail
  refine (check_w A1 A2 c1 c2 d _ (h1.below b0) (h2.below b0) hl1 hl2).mono ?_
  rw [hE.out]
  rintro e w1 ⟨rfl, hb⟩
  have p3 := k3.below hb
  have hbw := bt b0 hb
  have r0 := p3.cell 0
  have r1 := p3.cell 1
  have r2 := p3.cell 2
  have r3 := p3.cell 3
  have z0 := p3.free 0
  have z1 := p3.free 1
  have z2 := p3.free 2
  have z3 := p3.free 3
  clear k1 k2 k3 b0 hb hE
  go_wp2_with fail
  refine bodyPost_ret (v := .tuple #[.agg #[.slice none 0 0, .slice none 0 0, .bool false, .int .i64 0], .int .i64 13]) (by simp [results, Try.results12, go_sem, r0, r1, r2, r3]) rfl ?_
  exact ⟨_, rfl, DkIs.zero _, (((hbw.setCell (p := ⟨w.heap.size + 1 + 1, 0, none⟩) (by simp only; omega) _).setCell (p := ⟨w.heap.size + 1 + 1, 1, none⟩) (by simp only; omega) _).setCell (p := ⟨w.heap.size + 1 + 1, 2, none⟩) (by simp only; omega) _).setCell (p := ⟨w.heap.size + 1 + 1, 3, none⟩) (by simp only; omega) _⟩
/-- sector.Crash, whatever the disk is. -/
theorem crash_w (v : Value) (Ak : Option Addr) (ck : Nat) (d : Dk) (keep : List Bool) (w : World) (hv : DkIs w v d) (hk : Bools w Ak keep) :
    Calls Try.prog 12 #[v, .slice Ak keep.length ck] w (DkRet (crashD d keep) (checkE d) w) := by
  obtain ⟨A1, c1, A2, c2, rfl, h1, h2, hl1, hl2, _, _⟩ := hv
  cases hr : right d
  · have e1 : checkE d = 13 := by simp [checkE, hr]
    have e2 : crashD d keep = dk0 := by simp [crashD, hr]
    rw [e1, e2]
    exact crash_no A1 A2 Ak c1 c2 ck keep.length d w h1 h2 hl1 hl2 hr
  · have e1 : checkE d = 0 := by simp [checkE, hr]
    have e2 : crashD d keep = ⟨stl (mayOf keep) 0 d.pend d.secs, [], false, -1⟩ := by simp [crashD, hr]
    rw [e1, e2]
    exact crash_ok A1 A2 Ak c1 c2 ck d keep w h1 h2 hk hr
end Go.Proofs.Ytpfbmmeipojodaa
