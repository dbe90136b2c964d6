/- wal.Append. -/
import Derived.Test.YtdgonhmipecjpaaGJ
import Derived.Test.YtdgonhmipecjpaaWalLay
import Derived.Deep.DeepCutAuto
namespace Go.Proofs.Ytdgonhmipecjpaa
set_option linter.unusedSimpArgs false
set_option linter.unusedVariables false
open Go.RowKit Go.Shelf
open Crc
set_option maxRecDepth 100000 in
set_option maxHeartbeats 16000000 in
theorem append_w (v : Value) (d : Dk) (f s a : Int) (fr : Fr) (w : World) (hv : DkIs w v d) (hf : -9223372036854775808 ≤ f ∧ f ≤ 9223372036854775807) (hs : -9223372036854775808 ≤ s ∧ s ≤ 9223372036854775807) (ha : -9223372036854775808 ≤ a ∧ a ≤ 9223372036854775807) :
    Calls Try.prog 28 #[v, .agg #[.int .i64 f, .int .i64 s], .int .i64 a, frVal fr] w (AppRet (appD d f s a fr) (appN d f s a fr) (appE d f s a fr) w) := by
  have hv0 := hv
  obtain ⟨A1, c1, A2, c2, rfl, h1, h2, hl1, hl2, hf1, hf2⟩ := hv
  obtain ⟨P, HP⟩ := named (str fr.pay)
  unfold frVal
  rw [← HP.out]
  obtain ⟨w1, Hw1⟩ := named (w.alloc (.cells #[.slice A1 d.secs.length c1, .slice A2 d.pend.length c2, .bool d.off, .int .i64 d.fuse] 49))
  obtain ⟨w2, Hw2⟩ := named (w1.alloc (.cells #[.int .i64 f, .int .i64 s] 53))
  obtain ⟨w3, Hw3⟩ := named (w2.alloc (.cells #[.int .u8 (fr.kind.toNat : Int), .int .u64 (fr.epoch : Int), .int .u64 (fr.seq : Int), .string P] 24))
  have z1 : w1.heap.size = w.heap.size + 1 := by rw [Hw1.out]; simp
  have z2 : w2.heap.size = w.heap.size + 1 + 1 := by rw [Hw2.out]; simp [z1]
  have z3 : w3.heap.size = w.heap.size + 1 + 1 + 1 := by rw [Hw3.out]; simp [z2]
  have k0 := (((Blk.new w [.slice A1 d.secs.length c1, .slice A2 d.pend.length c2, .bool d.off, .int .i64 d.fuse] 49).alloc (.cells #[.int .i64 f, .int .i64 s] 53)).alloc (.cells #[.int .u8 (fr.kind.toNat : Int), .int .u64 (fr.epoch : Int), .int .u64 (fr.seq : Int), .string P] 24)).alloc (.cells #[.slice none 0 0, .slice none 0 0, .bool false, .int .i64 0] 49)
  rw [← Hw1.out, ← Hw2.out, ← Hw3.out] at k0
  have k1 := ((Blk.new w1 [.int .i64 f, .int .i64 s] 53).alloc (.cells #[.int .u8 (fr.kind.toNat : Int), .int .u64 (fr.epoch : Int), .int .u64 (fr.seq : Int), .string P] 24)).alloc (.cells #[.slice none 0 0, .slice none 0 0, .bool false, .int .i64 0] 49)
  rw [← Hw2.out, ← Hw3.out, z1] at k1
  have k2 := (Blk.new w2 [.int .u8 (fr.kind.toNat : Int), .int .u64 (fr.epoch : Int), .int .u64 (fr.seq : Int), .string P] 24).alloc (.cells #[.slice none 0 0, .slice none 0 0, .bool false, .int .i64 0] 49)
  rw [← Hw3.out, z2] at k2
  have k3 := Blk.new w3 [.slice none 0 0, .slice none 0 0, .bool false, .int .i64 0] 49
  rw [z3] at k3
  have b0 := bt (bt (bt (below_alloc w (.cells #[.slice A1 d.secs.length c1, .slice A2 d.pend.length c2, .bool d.off, .int .i64 d.fuse] 49)) (below_alloc _ (.cells #[.int .i64 f, .int .i64 s] 53))) (below_alloc _ (.cells #[.int .u8 (fr.kind.toNat : Int), .int .u64 (fr.epoch : Int), .int .u64 (fr.seq : Int), .string P] 24))) (below_alloc _ (.cells #[.slice none 0 0, .slice none 0 0, .bool false, .int .i64 0] 49))
  rw [← Hw1.out, ← Hw2.out, ← Hw3.out] at b0
  have hck := walCheck_w _ d f s _ (hv0.below b0) hf hs
  rw [Hw3.out, Hw2.out, Hw1.out] at hck
  obtain ⟨D, HD⟩ := named (appD d f s a fr)
  obtain ⟨M, HM⟩ := named (appN d f s a fr)
  obtain ⟨E, HE⟩ := named (appE d f s a fr)
  rw [← HD.out, ← HM.out, ← HE.out]
  clear z1 z2 z3
  go_enter Try.func28, Try.ntmps28
  go_wp2_with fail
  obtain ⟨we, Hwe⟩ := named (walE d f s)
  refine hck.mono ?_
  rw [← Hwe.out, ← Hw1.out, ← Hw2.out, ← Hw3.out]
  clear Hw1 Hw2 Hw3
  rintro e W ⟨rfl, hb2⟩
  replace k0 := k0.below hb2
  replace k1 := k1.below hb2
  replace k2 := k2.below hb2
  replace k3 := k3.below hb2
  replace b0 := bt b0 hb2
  clear hck hb2
  by_cases hwe0 : we = 0
  case neg =>
    have hA := app_bad (d := d) (f := f) (s := s) (a := a) (fr := fr) (by rw [← Hwe.out]; exact hwe0)
    have HA : Hid (D = dk0 ∧ M = 0 ∧ E = we) := ⟨HD.out.trans hA.1, HM.out.trans hA.2.1, HE.out.trans (hA.2.2.trans Hwe.out.symm)⟩
    have hz1 : (we == 0) = false := by simp [hwe0]
    have hz2 : (we != 0) = true := by simp [hwe0]
    clear hA hwe0
    have r0 := k3.cell 0
    have r1 := k3.cell 1
    have r2 := k3.cell 2
    have r3 := k3.cell 3
    have z0 := k3.free 0
    have z1 := k3.free 1
    have z2 := k3.free 2
    have z3 := k3.free 3
    go_wp2_with fail
    refine bodyPost_ret (v := .tuple #[.agg #[.slice none 0 0, .slice none 0 0, .bool false, .int .i64 0], .int .i64 0, .int .i64 we]) (by simp [results, Try.results28, go_sem, r0, r1, r2, r3]) rfl ?_
    obtain ⟨e1, e2, e3⟩ := HA.out
    rw [e1, e2, e3]
    exact ⟨_, rfl, DkIs.zero _, below4 b0 (by omega) (.slice none 0 0) (.slice none 0 0) (.bool false) (.int .i64 0)⟩
  subst hwe0
  have Hz := Hwe.out.symm
  obtain ⟨hr, g1, g2, g3, g4⟩ := wal_zero Hz
  have hlen := right_len hr
  have hpd := (right_iff.1 hr).2.1
  have HZ := hide Hz
  clear Hz hr
  have y0 := k0.cell
  have y1 := k1.cell
  have p0 := k2.cell 0
  have p1 := k2.cell 1
  have p2 := k2.cell 2
  have p3 := k2.cell 3
  have hPl : P.data.toList = fr.pay := by rw [HP.out, str_data]
  have hPs : P.size = fr.pay.length := by rw [HP.out, str_size]
  by_cases hc0 : frCheck fr ≠ 0
  · have hsc := recSectors_no fr.kind fr.epoch fr.seq P W (by rw [hPl]; exact hc0)
    rw [hPl] at hsc
    obtain ⟨fc, Hfc⟩ := named (frCheck fr)
    have hlem := appW_frame (d := d) (f := f) (s := s) (a := a) (fr := fr) HZ.out hc0
    rw [show frCheck ⟨fr.kind, fr.epoch, fr.seq, fr.pay⟩ = fc from Hfc.out.symm] at hsc
    rw [← Hfc.out] at hc0 hlem
    have Hlem := hide hlem
    have Hc0 := hide hc0
    have hz1 : (fc == 0) = false := by simp [hc0]
    have hz2 : (fc != 0) = true := by simp [hc0]
    clear hlem hc0 hPl hPs
    go_wp2_with fail
    refine hsc.mono ?_
    rintro e W2 ⟨rfl, hb3⟩
    replace k0 := k0.below hb3
    replace k1 := k1.below hb3
    replace k2 := k2.below hb3
    replace k3 := k3.below hb3
    replace b0 := bt b0 hb3
    clear hsc hb3 y0 y1 p0 p1 p2 p3
    have hA := app_no (d := d) (f := f) (s := s) (a := a) (fr := fr) HZ.out (Hlem.out) (by exact Hc0.out)
    have HA : Hid (D = d ∧ M = 0 ∧ E = fc) := ⟨HD.out.trans hA.1, HM.out.trans hA.2.1, HE.out.trans hA.2.2⟩
    clear hA
    go_wp2_with fail
    refine region_flat _ (fun u => (∃ X1 m1 X2 m2, Box u w.heap.size X1 m1 X2 m2 d) ∧ Below w.heap.size w u ∧ Blk u (w.heap.size + 1 + 1 + 1) [.slice none 0 0, .slice none 0 0, .bool false, .int .i64 0] 49) (fun u u' => KeepCell w.heap.size u u')
      (rel [fun v _ => v = .pointer (some ⟨w.heap.size, 0, none⟩),
        fun v u => ∃ A c, v = .slice A d.secs.length c ∧ Texts u A d.secs,
        fun v u => ∃ A c, v = .slice A d.secs.length c ∧ Texts u A d.secs,
        fun v _ => v = .pointer (some ⟨w.heap.size, 1, none⟩),
        fun v u => ∃ A c, v = .slice A d.pend.length c ∧ Writes u A d.pend,
        fun v u => ∃ A c, v = .slice A d.pend.length c ∧ Writes u A d.pend,
        fun v _ => v = .pointer (some ⟨w.heap.size, 0, none⟩),
        fun _ _ => True,
        fun v _ => v = .pointer (some ⟨w.heap.size, 1, none⟩),
        fun _ _ => True])
      (by kernel_rfl) (by kernel_rfl) (fun v => by simp only [putsV, Act.put, List.toList_toArray, List.setIfInBounds_toArray, List.set_cons_zero, List.set_cons_succ, Nat.reduceAdd, Nat.zero_add]; rfl) ?_ ⟨⟨A1, c1, A2, c2, ⟨k0, h1.below b0.drew, h2.below b0.drew, hl1, hl2, hf1, hf2⟩⟩, b0.drew, k3⟩ ?_ ?_
    · intro j x u u' hb h
      match j with
      | 0 => exact h
      | 1 => exact (let ⟨A, c, e, t⟩ := h; ⟨A, c, e, texts_keep t hb⟩)
      | 2 => exact (let ⟨A, c, e, t⟩ := h; ⟨A, c, e, texts_keep t hb⟩)
      | 3 => exact h
      | 4 => exact (let ⟨A, c, e, t⟩ := h; ⟨A, c, e, writes_keep t hb⟩)
      | 5 => exact (let ⟨A, c, e, t⟩ := h; ⟨A, c, e, writes_keep t hb⟩)
      | 6 => exact h
      | 7 => exact trivial
      | 8 => exact h
      | 9 => exact trivial
      | _ + 10 => trivial
    · refine ⟨?_, ?_, ?_, ?_, ?_, ?_, ?_, ?_, ?_, ?_, trivial⟩
      · intro v u hS hd K' hK
        simp only [waited, List.toList_toArray, Region.binds, rel, List.getD_cons_zero, List.getD_cons_succ, true_imp_iff, and_true] at hd
        simp only [rel, List.getD_cons_zero, List.getD_cons_succ, Act.put, List.setIfInBounds_toArray, List.set_cons_zero, List.set_cons_succ] at hK
        try simp only [hd] at hK
        obtain ⟨hS1, hS2, hS3⟩ := hS
        obtain ⟨X1, m1, X2, m2, hBB⟩ := hS1
        go_simp
        exact hK.out _ _ ⟨⟨⟨X1, m1, X2, m2, hBB⟩, hS2, hS3⟩, .inl (Below.refl _ _), rfl⟩
      · intro v u hS hd K' hK
        simp only [waited, List.toList_toArray, Region.binds, rel, List.getD_cons_zero, List.getD_cons_succ, true_imp_iff, and_true] at hd
        simp only [rel, List.getD_cons_zero, List.getD_cons_succ, Act.put, List.setIfInBounds_toArray, List.set_cons_zero, List.set_cons_succ] at hK
        try simp only [hd] at hK
        obtain ⟨hS1, hS2, hS3⟩ := hS
        obtain ⟨X1, m1, X2, m2, hBB⟩ := hS1
        have x0 := hBB.blk.cell 0
        go_simp
        exact hK.out _ _ ⟨⟨⟨X1, m1, X2, m2, hBB⟩, hS2, hS3⟩, .inl (Below.refl _ _), ⟨_, _, rfl, hBB.tx⟩⟩
      · intro v u hS hd K' hK
        simp only [waited, List.toList_toArray, Region.binds, rel, List.getD_cons_zero, List.getD_cons_succ, true_imp_iff, and_true] at hd
        simp only [rel, List.getD_cons_zero, List.getD_cons_succ, Act.put, List.setIfInBounds_toArray, List.set_cons_zero, List.set_cons_succ] at hK
        try simp only [hd] at hK
        obtain ⟨hS1, hS2, hS3⟩ := hS
        obtain ⟨X1, m1, X2, m2, hBB⟩ := hS1
        obtain ⟨A, c, e1, t⟩ := hd
        simp only [e1] at hK
        go_simp
        refine (cloneS_w A c _ u t (by omega)).mono ?_
        rintro e w2 ⟨v2, rfl, ho, hb2⟩
        obtain ⟨A', c', rfl, _, _, hl', _⟩ := Lies.of_own ho
        exact hK.out _ _ ⟨⟨⟨X1, m1, X2, m2, hBB.below hb2⟩, bt hS2 hb2, hS3.below hb2⟩, .inl hb2, ⟨_, _, rfl, hl'⟩⟩
      · intro v u hS hd K' hK
        simp only [waited, List.toList_toArray, Region.binds, rel, List.getD_cons_zero, List.getD_cons_succ, true_imp_iff, and_true] at hd
        simp only [rel, List.getD_cons_zero, List.getD_cons_succ, Act.put, List.setIfInBounds_toArray, List.set_cons_zero, List.set_cons_succ] at hK
        try simp only [hd] at hK
        obtain ⟨hS1, hS2, hS3⟩ := hS
        obtain ⟨X1, m1, X2, m2, hBB⟩ := hS1
        go_simp
        exact hK.out _ _ ⟨⟨⟨X1, m1, X2, m2, hBB⟩, hS2, hS3⟩, .inl (Below.refl _ _), rfl⟩
      · intro v u hS hd K' hK
        simp only [waited, List.toList_toArray, Region.binds, rel, List.getD_cons_zero, List.getD_cons_succ, true_imp_iff, and_true] at hd
        simp only [rel, List.getD_cons_zero, List.getD_cons_succ, Act.put, List.setIfInBounds_toArray, List.set_cons_zero, List.set_cons_succ] at hK
        try simp only [hd] at hK
        obtain ⟨hS1, hS2, hS3⟩ := hS
        obtain ⟨X1, m1, X2, m2, hBB⟩ := hS1
        have x0 := hBB.blk.cell 1
        go_simp
        exact hK.out _ _ ⟨⟨⟨X1, m1, X2, m2, hBB⟩, hS2, hS3⟩, .inl (Below.refl _ _), ⟨_, _, rfl, hBB.wr⟩⟩
      · intro v u hS hd K' hK
        simp only [waited, List.toList_toArray, Region.binds, rel, List.getD_cons_zero, List.getD_cons_succ, true_imp_iff, and_true] at hd
        simp only [rel, List.getD_cons_zero, List.getD_cons_succ, Act.put, List.setIfInBounds_toArray, List.set_cons_zero, List.set_cons_succ] at hK
        try simp only [hd] at hK
        obtain ⟨hS1, hS2, hS3⟩ := hS
        obtain ⟨X1, m1, X2, m2, hBB⟩ := hS1
        obtain ⟨⟨A, c, e1, t⟩, _⟩ := hd
        simp only [e1] at hK
        go_simp
        refine (cloneW_w A c _ u t (by omega)).mono ?_
        rintro e w2 ⟨v2, rfl, ho, hb2⟩
        obtain ⟨A', c', rfl, _, _, hl', _⟩ := Lies.of_own ho
        exact hK.out _ _ ⟨⟨⟨X1, m1, X2, m2, hBB.below hb2⟩, bt hS2 hb2, hS3.below hb2⟩, .inl hb2, ⟨_, _, rfl, hl'⟩⟩
      · intro v u hS hd K' hK
        simp only [waited, List.toList_toArray, Region.binds, rel, List.getD_cons_zero, List.getD_cons_succ, true_imp_iff, and_true] at hd
        simp only [rel, List.getD_cons_zero, List.getD_cons_succ, Act.put, List.setIfInBounds_toArray, List.set_cons_zero, List.set_cons_succ] at hK
        try simp only [hd] at hK
        obtain ⟨hS1, hS2, hS3⟩ := hS
        obtain ⟨X1, m1, X2, m2, hBB⟩ := hS1
        go_simp
        exact hK.out _ _ ⟨⟨⟨X1, m1, X2, m2, hBB⟩, hS2, hS3⟩, .inl (Below.refl _ _), rfl⟩
      · intro v u hS hd K' hK
        simp only [waited, List.toList_toArray, Region.binds, rel, List.getD_cons_zero, List.getD_cons_succ, true_imp_iff, and_true] at hd
        simp only [rel, List.getD_cons_zero, List.getD_cons_succ, Act.put, List.setIfInBounds_toArray, List.set_cons_zero, List.set_cons_succ] at hK
        try simp only [hd] at hK
        obtain ⟨hS1, hS2, hS3⟩ := hS
        obtain ⟨X1, m1, X2, m2, hBB⟩ := hS1
        obtain ⟨h0, ⟨A, c, e1, t⟩, _⟩ := hd
        try simp only [h0, e1] at hK ⊢
        have y0 := hBB.blk.cell 0
        have y1 := hBB.blk.free 0
        go_simp
        have hG := keepCell_set hBB 0 (.slice A d.secs.length c)
        exact hK.out undef _ ⟨⟨⟨_, _, _, _, hBB.set0 t⟩, below_keepCell hS2 hG (Nat.le_refl _), hS3.keepCell hG (by omega)⟩, hG, trivial⟩
      · intro v u hS hd K' hK
        simp only [waited, List.toList_toArray, Region.binds, rel, List.getD_cons_zero, List.getD_cons_succ, true_imp_iff, and_true] at hd
        simp only [rel, List.getD_cons_zero, List.getD_cons_succ, Act.put, List.setIfInBounds_toArray, List.set_cons_zero, List.set_cons_succ] at hK
        try simp only [hd] at hK
        obtain ⟨hS1, hS2, hS3⟩ := hS
        obtain ⟨X1, m1, X2, m2, hBB⟩ := hS1
        go_simp
        exact hK.out _ _ ⟨⟨⟨X1, m1, X2, m2, hBB⟩, hS2, hS3⟩, .inl (Below.refl _ _), rfl⟩
      · intro v u hS hd K' hK
        simp only [waited, List.toList_toArray, Region.binds, rel, List.getD_cons_zero, List.getD_cons_succ, true_imp_iff, and_true] at hd
        simp only [rel, List.getD_cons_zero, List.getD_cons_succ, Act.put, List.setIfInBounds_toArray, List.set_cons_zero, List.set_cons_succ] at hK
        try simp only [hd] at hK
        obtain ⟨hS1, hS2, hS3⟩ := hS
        obtain ⟨X1, m1, X2, m2, hBB⟩ := hS1
        obtain ⟨h0, ⟨A, c, e1, t⟩, _⟩ := hd
        try simp only [h0, e1] at hK ⊢
        have y0 := hBB.blk.cell 1
        have y1 := hBB.blk.free 1
        go_simp
        have hG := keepCell_set hBB 1 (.slice A d.pend.length c)
        exact hK.out undef _ ⟨⟨⟨_, _, _, _, hBB.set1 t⟩, below_keepCell hS2 hG (Nat.le_refl _), hS3.keepCell hG (by omega)⟩, hG, trivial⟩
    · rintro v u ⟨hS1, hS2, hS3⟩ hR
      simp only [holdAll, List.size_toArray, List.length_cons, List.length_nil, Nat.reduceAdd, rel, List.getD_cons_zero, List.getD_cons_succ] at hR
      clear hR
      obtain ⟨X1, m1, X2, m2, hBB⟩ := hS1
      have q0 := hBB.blk.cell 0
      have q1 := hBB.blk.cell 1
      have q2 := hBB.blk.cell 2
      have q3 := hBB.blk.cell 3
      have r0 := hS3.cell 0
      have r1 := hS3.cell 1
      have r2 := hS3.cell 2
      have r3 := hS3.cell 3
      have z0 := hS3.free 0
      have z1 := hS3.free 1
      have z2 := hS3.free 2
      have z3 := hS3.free 3
      go_wp2_with fail
      refine bodyPost_ret (v := .tuple #[.agg #[.slice X1 d.secs.length m1, .slice X2 d.pend.length m2, .bool d.off, .int .i64 d.fuse], .int .i64 0, .int .i64 fc]) (by simp [results, Try.results28, go_sem, r0, r1, r2, r3]) rfl ?_
      obtain ⟨e1, e2, e3⟩ := HA.out
      rw [e1, e2, e3]
      exact ⟨_, rfl, hand_on hBB.tx hBB.wr hBB.l1 hBB.l2 hBB.f1 hBB.f2 hS3 hS2 (by omega)⟩
  have hc1 : frCheck fr = 0 := by simpa using hc0
  have hkp : fr.kind ≠ 0 ∧ fr.pay.length ≤ 16384 := by
    unfold frCheck at hc1
    by_cases h1' : fr.kind = 0
    · simp [h1'] at hc1
    · by_cases h2' : 16384 < fr.pay.length
      · simp [h1', h2'] at hc1
      · exact ⟨h1', by omega⟩
  have HC := hide hc1
  clear hc0 hc1
  have hsc := recSectors_yes fr.kind fr.epoch fr.seq P W hkp.1 (by rw [hPs]; exact hkp.2)
  rw [hPl, hPs] at hsc
  obtain ⟨n, Hn⟩ := named (piecesN fr.pay.length + 1)
  have hn9 : 1 ≤ n ∧ n ≤ 270 := by have := hkp.2; rw [Hn.out]; unfold piecesN; omega
  obtain ⟨LL, HLL⟩ := named ((sectorsL fr).map str)
  have hLn : LL.length = n := by rw [HLL.out, List.length_map, sectorsL_length, Hn.out]
  have HLn := hide hLn
  rw [← Hn.out, show (sectorsL ⟨fr.kind, fr.epoch, fr.seq, fr.pay⟩).map str = LL from HLL.out.symm] at hsc
  clear hPl hPs hkp hLn
  go_wp2_with fail
  refine hsc.mono ?_
  rintro e W2 ⟨⟨A9, c9, rfl, hc9, ht9⟩, hb3⟩
  replace k0 := k0.below hb3
  replace k1 := k1.below hb3
  replace k2 := k2.below hb3
  replace k3 := k3.below hb3
  replace b0 := bt b0 hb3
  clear hsc hb3 y0 y1 p0 p1 p2 p3
  have y1 := k1.cell
  by_cases ha1 : a < 0
  · have hd1 : decide (a < 0) = true := decide_eq_true ha1
    have hA := app_no (d := d) (f := f) (s := s) (a := a) (fr := fr) HZ.out (appW_place HZ.out HC.out (.inl ha1)) (by decide)
    have HA : Hid (D = d ∧ M = 0 ∧ E = 1) := ⟨HD.out.trans hA.1, HM.out.trans hA.2.1, HE.out.trans hA.2.2⟩
    clear hA
    go_wp2_with fail
    refine region_flat _ (fun u => (∃ X1 m1 X2 m2, Box u w.heap.size X1 m1 X2 m2 d) ∧ Below w.heap.size w u ∧ Blk u (w.heap.size + 1 + 1 + 1) [.slice none 0 0, .slice none 0 0, .bool false, .int .i64 0] 49) (fun u u' => KeepCell w.heap.size u u')
      (rel [fun v _ => v = .pointer (some ⟨w.heap.size, 0, none⟩),
        fun v u => ∃ A c, v = .slice A d.secs.length c ∧ Texts u A d.secs,
        fun v u => ∃ A c, v = .slice A d.secs.length c ∧ Texts u A d.secs,
        fun v _ => v = .pointer (some ⟨w.heap.size, 1, none⟩),
        fun v u => ∃ A c, v = .slice A d.pend.length c ∧ Writes u A d.pend,
        fun v u => ∃ A c, v = .slice A d.pend.length c ∧ Writes u A d.pend,
        fun v _ => v = .pointer (some ⟨w.heap.size, 0, none⟩),
        fun _ _ => True,
        fun v _ => v = .pointer (some ⟨w.heap.size, 1, none⟩),
        fun _ _ => True])
      (by kernel_rfl) (by kernel_rfl) (fun v => by simp only [putsV, Act.put, List.toList_toArray, List.setIfInBounds_toArray, List.set_cons_zero, List.set_cons_succ, Nat.reduceAdd, Nat.zero_add]; rfl) ?_ ⟨⟨A1, c1, A2, c2, ⟨k0, h1.below b0.drew, h2.below b0.drew, hl1, hl2, hf1, hf2⟩⟩, b0.drew, k3⟩ ?_ ?_
    · intro j x u u' hb h
      match j with
      | 0 => exact h
      | 1 => exact (let ⟨A, c, e, t⟩ := h; ⟨A, c, e, texts_keep t hb⟩)
      | 2 => exact (let ⟨A, c, e, t⟩ := h; ⟨A, c, e, texts_keep t hb⟩)
      | 3 => exact h
      | 4 => exact (let ⟨A, c, e, t⟩ := h; ⟨A, c, e, writes_keep t hb⟩)
      | 5 => exact (let ⟨A, c, e, t⟩ := h; ⟨A, c, e, writes_keep t hb⟩)
      | 6 => exact h
      | 7 => exact trivial
      | 8 => exact h
      | 9 => exact trivial
      | _ + 10 => trivial
    · refine ⟨?_, ?_, ?_, ?_, ?_, ?_, ?_, ?_, ?_, ?_, trivial⟩
      · intro v u hS hd K' hK
        simp only [waited, List.toList_toArray, Region.binds, rel, List.getD_cons_zero, List.getD_cons_succ, true_imp_iff, and_true] at hd
        simp only [rel, List.getD_cons_zero, List.getD_cons_succ, Act.put, List.setIfInBounds_toArray, List.set_cons_zero, List.set_cons_succ] at hK
        try simp only [hd] at hK
        obtain ⟨hS1, hS2, hS3⟩ := hS
        obtain ⟨X1, m1, X2, m2, hBB⟩ := hS1
        go_simp
        exact hK.out _ _ ⟨⟨⟨X1, m1, X2, m2, hBB⟩, hS2, hS3⟩, .inl (Below.refl _ _), rfl⟩
      · intro v u hS hd K' hK
        simp only [waited, List.toList_toArray, Region.binds, rel, List.getD_cons_zero, List.getD_cons_succ, true_imp_iff, and_true] at hd
        simp only [rel, List.getD_cons_zero, List.getD_cons_succ, Act.put, List.setIfInBounds_toArray, List.set_cons_zero, List.set_cons_succ] at hK
        try simp only [hd] at hK
        obtain ⟨hS1, hS2, hS3⟩ := hS
        obtain ⟨X1, m1, X2, m2, hBB⟩ := hS1
        have x0 := hBB.blk.cell 0
        go_simp
        exact hK.out _ _ ⟨⟨⟨X1, m1, X2, m2, hBB⟩, hS2, hS3⟩, .inl (Below.refl _ _), ⟨_, _, rfl, hBB.tx⟩⟩
      · intro v u hS hd K' hK
        simp only [waited, List.toList_toArray, Region.binds, rel, List.getD_cons_zero, List.getD_cons_succ, true_imp_iff, and_true] at hd
        simp only [rel, List.getD_cons_zero, List.getD_cons_succ, Act.put, List.setIfInBounds_toArray, List.set_cons_zero, List.set_cons_succ] at hK
        try simp only [hd] at hK
        obtain ⟨hS1, hS2, hS3⟩ := hS
        obtain ⟨X1, m1, X2, m2, hBB⟩ := hS1
        obtain ⟨A, c, e1, t⟩ := hd
        simp only [e1] at hK
        go_simp
        refine (cloneS_w A c _ u t (by omega)).mono ?_
        rintro e w2 ⟨v2, rfl, ho, hb2⟩
        obtain ⟨A', c', rfl, _, _, hl', _⟩ := Lies.of_own ho
        exact hK.out _ _ ⟨⟨⟨X1, m1, X2, m2, hBB.below hb2⟩, bt hS2 hb2, hS3.below hb2⟩, .inl hb2, ⟨_, _, rfl, hl'⟩⟩
      · intro v u hS hd K' hK
        simp only [waited, List.toList_toArray, Region.binds, rel, List.getD_cons_zero, List.getD_cons_succ, true_imp_iff, and_true] at hd
        simp only [rel, List.getD_cons_zero, List.getD_cons_succ, Act.put, List.setIfInBounds_toArray, List.set_cons_zero, List.set_cons_succ] at hK
        try simp only [hd] at hK
        obtain ⟨hS1, hS2, hS3⟩ := hS
        obtain ⟨X1, m1, X2, m2, hBB⟩ := hS1
        go_simp
        exact hK.out _ _ ⟨⟨⟨X1, m1, X2, m2, hBB⟩, hS2, hS3⟩, .inl (Below.refl _ _), rfl⟩
      · intro v u hS hd K' hK
        simp only [waited, List.toList_toArray, Region.binds, rel, List.getD_cons_zero, List.getD_cons_succ, true_imp_iff, and_true] at hd
        simp only [rel, List.getD_cons_zero, List.getD_cons_succ, Act.put, List.setIfInBounds_toArray, List.set_cons_zero, List.set_cons_succ] at hK
        try simp only [hd] at hK
        obtain ⟨hS1, hS2, hS3⟩ := hS
        obtain ⟨X1, m1, X2, m2, hBB⟩ := hS1
        have x0 := hBB.blk.cell 1
        go_simp
        exact hK.out _ _ ⟨⟨⟨X1, m1, X2, m2, hBB⟩, hS2, hS3⟩, .inl (Below.refl _ _), ⟨_, _, rfl, hBB.wr⟩⟩
      · intro v u hS hd K' hK
        simp only [waited, List.toList_toArray, Region.binds, rel, List.getD_cons_zero, List.getD_cons_succ, true_imp_iff, and_true] at hd
        simp only [rel, List.getD_cons_zero, List.getD_cons_succ, Act.put, List.setIfInBounds_toArray, List.set_cons_zero, List.set_cons_succ] at hK
        try simp only [hd] at hK
        obtain ⟨hS1, hS2, hS3⟩ := hS
        obtain ⟨X1, m1, X2, m2, hBB⟩ := hS1
        obtain ⟨⟨A, c, e1, t⟩, _⟩ := hd
        simp only [e1] at hK
        go_simp
        refine (cloneW_w A c _ u t (by omega)).mono ?_
        rintro e w2 ⟨v2, rfl, ho, hb2⟩
        obtain ⟨A', c', rfl, _, _, hl', _⟩ := Lies.of_own ho
        exact hK.out _ _ ⟨⟨⟨X1, m1, X2, m2, hBB.below hb2⟩, bt hS2 hb2, hS3.below hb2⟩, .inl hb2, ⟨_, _, rfl, hl'⟩⟩
      · intro v u hS hd K' hK
        simp only [waited, List.toList_toArray, Region.binds, rel, List.getD_cons_zero, List.getD_cons_succ, true_imp_iff, and_true] at hd
        simp only [rel, List.getD_cons_zero, List.getD_cons_succ, Act.put, List.setIfInBounds_toArray, List.set_cons_zero, List.set_cons_succ] at hK
        try simp only [hd] at hK
        obtain ⟨hS1, hS2, hS3⟩ := hS
        obtain ⟨X1, m1, X2, m2, hBB⟩ := hS1
        go_simp
        exact hK.out _ _ ⟨⟨⟨X1, m1, X2, m2, hBB⟩, hS2, hS3⟩, .inl (Below.refl _ _), rfl⟩
      · intro v u hS hd K' hK
        simp only [waited, List.toList_toArray, Region.binds, rel, List.getD_cons_zero, List.getD_cons_succ, true_imp_iff, and_true] at hd
        simp only [rel, List.getD_cons_zero, List.getD_cons_succ, Act.put, List.setIfInBounds_toArray, List.set_cons_zero, List.set_cons_succ] at hK
        try simp only [hd] at hK
        obtain ⟨hS1, hS2, hS3⟩ := hS
        obtain ⟨X1, m1, X2, m2, hBB⟩ := hS1
        obtain ⟨h0, ⟨A, c, e1, t⟩, _⟩ := hd
        try simp only [h0, e1] at hK ⊢
        have y0 := hBB.blk.cell 0
        have y1 := hBB.blk.free 0
        go_simp
        have hG := keepCell_set hBB 0 (.slice A d.secs.length c)
        exact hK.out undef _ ⟨⟨⟨_, _, _, _, hBB.set0 t⟩, below_keepCell hS2 hG (Nat.le_refl _), hS3.keepCell hG (by omega)⟩, hG, trivial⟩
      · intro v u hS hd K' hK
        simp only [waited, List.toList_toArray, Region.binds, rel, List.getD_cons_zero, List.getD_cons_succ, true_imp_iff, and_true] at hd
        simp only [rel, List.getD_cons_zero, List.getD_cons_succ, Act.put, List.setIfInBounds_toArray, List.set_cons_zero, List.set_cons_succ] at hK
        try simp only [hd] at hK
        obtain ⟨hS1, hS2, hS3⟩ := hS
        obtain ⟨X1, m1, X2, m2, hBB⟩ := hS1
        go_simp
        exact hK.out _ _ ⟨⟨⟨X1, m1, X2, m2, hBB⟩, hS2, hS3⟩, .inl (Below.refl _ _), rfl⟩
      · intro v u hS hd K' hK
        simp only [waited, List.toList_toArray, Region.binds, rel, List.getD_cons_zero, List.getD_cons_succ, true_imp_iff, and_true] at hd
        simp only [rel, List.getD_cons_zero, List.getD_cons_succ, Act.put, List.setIfInBounds_toArray, List.set_cons_zero, List.set_cons_succ] at hK
        try simp only [hd] at hK
        obtain ⟨hS1, hS2, hS3⟩ := hS
        obtain ⟨X1, m1, X2, m2, hBB⟩ := hS1
        obtain ⟨h0, ⟨A, c, e1, t⟩, _⟩ := hd
        try simp only [h0, e1] at hK ⊢
        have y0 := hBB.blk.cell 1
        have y1 := hBB.blk.free 1
        go_simp
        have hG := keepCell_set hBB 1 (.slice A d.pend.length c)
        exact hK.out undef _ ⟨⟨⟨_, _, _, _, hBB.set1 t⟩, below_keepCell hS2 hG (Nat.le_refl _), hS3.keepCell hG (by omega)⟩, hG, trivial⟩
    · rintro v u ⟨hS1, hS2, hS3⟩ hR
      simp only [holdAll, List.size_toArray, List.length_cons, List.length_nil, Nat.reduceAdd, rel, List.getD_cons_zero, List.getD_cons_succ] at hR
      clear hR
      obtain ⟨X1, m1, X2, m2, hBB⟩ := hS1
      have q0 := hBB.blk.cell 0
      have q1 := hBB.blk.cell 1
      have q2 := hBB.blk.cell 2
      have q3 := hBB.blk.cell 3
      have r0 := hS3.cell 0
      have r1 := hS3.cell 1
      have r2 := hS3.cell 2
      have r3 := hS3.cell 3
      have z0 := hS3.free 0
      have z1 := hS3.free 1
      have z2 := hS3.free 2
      have z3 := hS3.free 3
      go_wp2_with fail
      refine bodyPost_ret (v := .tuple #[.agg #[.slice X1 d.secs.length m1, .slice X2 d.pend.length m2, .bool d.off, .int .i64 d.fuse], .int .i64 0, .int .i64 1]) (by simp [results, Try.results28, go_sem, r0, r1, r2, r3]) rfl ?_
      obtain ⟨e1, e2, e3⟩ := HA.out
      rw [e1, e2, e3]
      exact ⟨_, rfl, hand_on hBB.tx hBB.wr hBB.l1 hBB.l2 hBB.f1 hBB.f2 hS3 hS2 (by omega)⟩
  have ha2 : ¬ (a < 0) := ha1
  have hd1 : decide (a < 0) = false := decide_eq_false ha1
  by_cases ha3 : s < a
  · have hd2 : decide (s < a) = true := decide_eq_true ha3
    have hA := app_no (d := d) (f := f) (s := s) (a := a) (fr := fr) HZ.out (appW_place HZ.out HC.out (.inr ha3)) (by decide)
    have HA : Hid (D = d ∧ M = 0 ∧ E = 1) := ⟨HD.out.trans hA.1, HM.out.trans hA.2.1, HE.out.trans hA.2.2⟩
    clear hA
    go_wp2_with fail
    refine region_flat _ (fun u => (∃ X1 m1 X2 m2, Box u w.heap.size X1 m1 X2 m2 d) ∧ Below w.heap.size w u ∧ Blk u (w.heap.size + 1 + 1 + 1) [.slice none 0 0, .slice none 0 0, .bool false, .int .i64 0] 49) (fun u u' => KeepCell w.heap.size u u')
      (rel [fun v _ => v = .pointer (some ⟨w.heap.size, 0, none⟩),
        fun v u => ∃ A c, v = .slice A d.secs.length c ∧ Texts u A d.secs,
        fun v u => ∃ A c, v = .slice A d.secs.length c ∧ Texts u A d.secs,
        fun v _ => v = .pointer (some ⟨w.heap.size, 1, none⟩),
        fun v u => ∃ A c, v = .slice A d.pend.length c ∧ Writes u A d.pend,
        fun v u => ∃ A c, v = .slice A d.pend.length c ∧ Writes u A d.pend,
        fun v _ => v = .pointer (some ⟨w.heap.size, 0, none⟩),
        fun _ _ => True,
        fun v _ => v = .pointer (some ⟨w.heap.size, 1, none⟩),
        fun _ _ => True])
      (by kernel_rfl) (by kernel_rfl) (fun v => by simp only [putsV, Act.put, List.toList_toArray, List.setIfInBounds_toArray, List.set_cons_zero, List.set_cons_succ, Nat.reduceAdd, Nat.zero_add]; rfl) ?_ ⟨⟨A1, c1, A2, c2, ⟨k0, h1.below b0.drew, h2.below b0.drew, hl1, hl2, hf1, hf2⟩⟩, b0.drew, k3⟩ ?_ ?_
    · intro j x u u' hb h
      match j with
      | 0 => exact h
      | 1 => exact (let ⟨A, c, e, t⟩ := h; ⟨A, c, e, texts_keep t hb⟩)
      | 2 => exact (let ⟨A, c, e, t⟩ := h; ⟨A, c, e, texts_keep t hb⟩)
      | 3 => exact h
      | 4 => exact (let ⟨A, c, e, t⟩ := h; ⟨A, c, e, writes_keep t hb⟩)
      | 5 => exact (let ⟨A, c, e, t⟩ := h; ⟨A, c, e, writes_keep t hb⟩)
      | 6 => exact h
      | 7 => exact trivial
      | 8 => exact h
      | 9 => exact trivial
      | _ + 10 => trivial
    · refine ⟨?_, ?_, ?_, ?_, ?_, ?_, ?_, ?_, ?_, ?_, trivial⟩
      · intro v u hS hd K' hK
        simp only [waited, List.toList_toArray, Region.binds, rel, List.getD_cons_zero, List.getD_cons_succ, true_imp_iff, and_true] at hd
        simp only [rel, List.getD_cons_zero, List.getD_cons_succ, Act.put, List.setIfInBounds_toArray, List.set_cons_zero, List.set_cons_succ] at hK
        try simp only [hd] at hK
        obtain ⟨hS1, hS2, hS3⟩ := hS
        obtain ⟨X1, m1, X2, m2, hBB⟩ := hS1
        go_simp
        exact hK.out _ _ ⟨⟨⟨X1, m1, X2, m2, hBB⟩, hS2, hS3⟩, .inl (Below.refl _ _), rfl⟩
      · intro v u hS hd K' hK
        simp only [waited, List.toList_toArray, Region.binds, rel, List.getD_cons_zero, List.getD_cons_succ, true_imp_iff, and_true] at hd
        simp only [rel, List.getD_cons_zero, List.getD_cons_succ, Act.put, List.setIfInBounds_toArray, List.set_cons_zero, List.set_cons_succ] at hK
        try simp only [hd] at hK
        obtain ⟨hS1, hS2, hS3⟩ := hS
        obtain ⟨X1, m1, X2, m2, hBB⟩ := hS1
        have x0 := hBB.blk.cell 0
        go_simp
        exact hK.out _ _ ⟨⟨⟨X1, m1, X2, m2, hBB⟩, hS2, hS3⟩, .inl (Below.refl _ _), ⟨_, _, rfl, hBB.tx⟩⟩
      · intro v u hS hd K' hK
        simp only [waited, List.toList_toArray, Region.binds, rel, List.getD_cons_zero, List.getD_cons_succ, true_imp_iff, and_true] at hd
        simp only [rel, List.getD_cons_zero, List.getD_cons_succ, Act.put, List.setIfInBounds_toArray, List.set_cons_zero, List.set_cons_succ] at hK
        try simp only [hd] at hK
        obtain ⟨hS1, hS2, hS3⟩ := hS
        obtain ⟨X1, m1, X2, m2, hBB⟩ := hS1
        obtain ⟨A, c, e1, t⟩ := hd
        simp only [e1] at hK
        go_simp
        refine (cloneS_w A c _ u t (by omega)).mono ?_
        rintro e w2 ⟨v2, rfl, ho, hb2⟩
        obtain ⟨A', c', rfl, _, _, hl', _⟩ := Lies.of_own ho
        exact hK.out _ _ ⟨⟨⟨X1, m1, X2, m2, hBB.below hb2⟩, bt hS2 hb2, hS3.below hb2⟩, .inl hb2, ⟨_, _, rfl, hl'⟩⟩
      · intro v u hS hd K' hK
        simp only [waited, List.toList_toArray, Region.binds, rel, List.getD_cons_zero, List.getD_cons_succ, true_imp_iff, and_true] at hd
        simp only [rel, List.getD_cons_zero, List.getD_cons_succ, Act.put, List.setIfInBounds_toArray, List.set_cons_zero, List.set_cons_succ] at hK
        try simp only [hd] at hK
        obtain ⟨hS1, hS2, hS3⟩ := hS
        obtain ⟨X1, m1, X2, m2, hBB⟩ := hS1
        go_simp
        exact hK.out _ _ ⟨⟨⟨X1, m1, X2, m2, hBB⟩, hS2, hS3⟩, .inl (Below.refl _ _), rfl⟩
      · intro v u hS hd K' hK
        simp only [waited, List.toList_toArray, Region.binds, rel, List.getD_cons_zero, List.getD_cons_succ, true_imp_iff, and_true] at hd
        simp only [rel, List.getD_cons_zero, List.getD_cons_succ, Act.put, List.setIfInBounds_toArray, List.set_cons_zero, List.set_cons_succ] at hK
        try simp only [hd] at hK
        obtain ⟨hS1, hS2, hS3⟩ := hS
        obtain ⟨X1, m1, X2, m2, hBB⟩ := hS1
        have x0 := hBB.blk.cell 1
        go_simp
        exact hK.out _ _ ⟨⟨⟨X1, m1, X2, m2, hBB⟩, hS2, hS3⟩, .inl (Below.refl _ _), ⟨_, _, rfl, hBB.wr⟩⟩
      · intro v u hS hd K' hK
        simp only [waited, List.toList_toArray, Region.binds, rel, List.getD_cons_zero, List.getD_cons_succ, true_imp_iff, and_true] at hd
        simp only [rel, List.getD_cons_zero, List.getD_cons_succ, Act.put, List.setIfInBounds_toArray, List.set_cons_zero, List.set_cons_succ] at hK
        try simp only [hd] at hK
        obtain ⟨hS1, hS2, hS3⟩ := hS
        obtain ⟨X1, m1, X2, m2, hBB⟩ := hS1
        obtain ⟨⟨A, c, e1, t⟩, _⟩ := hd
        simp only [e1] at hK
        go_simp
        refine (cloneW_w A c _ u t (by omega)).mono ?_
        rintro e w2 ⟨v2, rfl, ho, hb2⟩
        obtain ⟨A', c', rfl, _, _, hl', _⟩ := Lies.of_own ho
        exact hK.out _ _ ⟨⟨⟨X1, m1, X2, m2, hBB.below hb2⟩, bt hS2 hb2, hS3.below hb2⟩, .inl hb2, ⟨_, _, rfl, hl'⟩⟩
      · intro v u hS hd K' hK
        simp only [waited, List.toList_toArray, Region.binds, rel, List.getD_cons_zero, List.getD_cons_succ, true_imp_iff, and_true] at hd
        simp only [rel, List.getD_cons_zero, List.getD_cons_succ, Act.put, List.setIfInBounds_toArray, List.set_cons_zero, List.set_cons_succ] at hK
        try simp only [hd] at hK
        obtain ⟨hS1, hS2, hS3⟩ := hS
        obtain ⟨X1, m1, X2, m2, hBB⟩ := hS1
        go_simp
        exact hK.out _ _ ⟨⟨⟨X1, m1, X2, m2, hBB⟩, hS2, hS3⟩, .inl (Below.refl _ _), rfl⟩
      · intro v u hS hd K' hK
        simp only [waited, List.toList_toArray, Region.binds, rel, List.getD_cons_zero, List.getD_cons_succ, true_imp_iff, and_true] at hd
        simp only [rel, List.getD_cons_zero, List.getD_cons_succ, Act.put, List.setIfInBounds_toArray, List.set_cons_zero, List.set_cons_succ] at hK
        try simp only [hd] at hK
        obtain ⟨hS1, hS2, hS3⟩ := hS
        obtain ⟨X1, m1, X2, m2, hBB⟩ := hS1
        obtain ⟨h0, ⟨A, c, e1, t⟩, _⟩ := hd
        try simp only [h0, e1] at hK ⊢
        have y0 := hBB.blk.cell 0
        have y1 := hBB.blk.free 0
        go_simp
        have hG := keepCell_set hBB 0 (.slice A d.secs.length c)
        exact hK.out undef _ ⟨⟨⟨_, _, _, _, hBB.set0 t⟩, below_keepCell hS2 hG (Nat.le_refl _), hS3.keepCell hG (by omega)⟩, hG, trivial⟩
      · intro v u hS hd K' hK
        simp only [waited, List.toList_toArray, Region.binds, rel, List.getD_cons_zero, List.getD_cons_succ, true_imp_iff, and_true] at hd
        simp only [rel, List.getD_cons_zero, List.getD_cons_succ, Act.put, List.setIfInBounds_toArray, List.set_cons_zero, List.set_cons_succ] at hK
        try simp only [hd] at hK
        obtain ⟨hS1, hS2, hS3⟩ := hS
        obtain ⟨X1, m1, X2, m2, hBB⟩ := hS1
        go_simp
        exact hK.out _ _ ⟨⟨⟨X1, m1, X2, m2, hBB⟩, hS2, hS3⟩, .inl (Below.refl _ _), rfl⟩
      · intro v u hS hd K' hK
        simp only [waited, List.toList_toArray, Region.binds, rel, List.getD_cons_zero, List.getD_cons_succ, true_imp_iff, and_true] at hd
        simp only [rel, List.getD_cons_zero, List.getD_cons_succ, Act.put, List.setIfInBounds_toArray, List.set_cons_zero, List.set_cons_succ] at hK
        try simp only [hd] at hK
        obtain ⟨hS1, hS2, hS3⟩ := hS
        obtain ⟨X1, m1, X2, m2, hBB⟩ := hS1
        obtain ⟨h0, ⟨A, c, e1, t⟩, _⟩ := hd
        try simp only [h0, e1] at hK ⊢
        have y0 := hBB.blk.cell 1
        have y1 := hBB.blk.free 1
        go_simp
        have hG := keepCell_set hBB 1 (.slice A d.pend.length c)
        exact hK.out undef _ ⟨⟨⟨_, _, _, _, hBB.set1 t⟩, below_keepCell hS2 hG (Nat.le_refl _), hS3.keepCell hG (by omega)⟩, hG, trivial⟩
    · rintro v u ⟨hS1, hS2, hS3⟩ hR
      simp only [holdAll, List.size_toArray, List.length_cons, List.length_nil, Nat.reduceAdd, rel, List.getD_cons_zero, List.getD_cons_succ] at hR
      clear hR
      obtain ⟨X1, m1, X2, m2, hBB⟩ := hS1
      have q0 := hBB.blk.cell 0
      have q1 := hBB.blk.cell 1
      have q2 := hBB.blk.cell 2
      have q3 := hBB.blk.cell 3
      have r0 := hS3.cell 0
      have r1 := hS3.cell 1
      have r2 := hS3.cell 2
      have r3 := hS3.cell 3
      have z0 := hS3.free 0
      have z1 := hS3.free 1
      have z2 := hS3.free 2
      have z3 := hS3.free 3
      go_wp2_with fail
      refine bodyPost_ret (v := .tuple #[.agg #[.slice X1 d.secs.length m1, .slice X2 d.pend.length m2, .bool d.off, .int .i64 d.fuse], .int .i64 0, .int .i64 1]) (by simp [results, Try.results28, go_sem, r0, r1, r2, r3]) rfl ?_
      obtain ⟨e1, e2, e3⟩ := HA.out
      rw [e1, e2, e3]
      exact ⟨_, rfl, hand_on hBB.tx hBB.wr hBB.l1 hBB.l2 hBB.f1 hBB.f2 hS3 hS2 (by omega)⟩
  have hd2 : decide (s < a) = false := decide_eq_false ha3
  have ha4 : ¬ (s < a) := ha3
  have hwr : IntKind.i64.wrap (s - a) = s - a := by simp [IntKind.wrap, IntKind.bits, IntKind.signed]; omega
  by_cases ha5 : s - a < (n : Int)
  · have hd3 : decide (s - a < (n : Int)) = true := decide_eq_true ha5
    have hA := app_no (d := d) (f := f) (s := s) (a := a) (fr := fr) HZ.out (appW_full HZ.out HC.out ⟨by omega, by omega⟩ (by rw [← Hn.out]; exact ha5)) (by decide)
    have HA : Hid (D = d ∧ M = 0 ∧ E = 16) := ⟨HD.out.trans hA.1, HM.out.trans hA.2.1, HE.out.trans hA.2.2⟩
    clear hA
    go_wp2_with fail
    refine region_flat _ (fun u => (∃ X1 m1 X2 m2, Box u w.heap.size X1 m1 X2 m2 d) ∧ Below w.heap.size w u ∧ Blk u (w.heap.size + 1 + 1 + 1) [.slice none 0 0, .slice none 0 0, .bool false, .int .i64 0] 49) (fun u u' => KeepCell w.heap.size u u')
      (rel [fun v _ => v = .pointer (some ⟨w.heap.size, 0, none⟩),
        fun v u => ∃ A c, v = .slice A d.secs.length c ∧ Texts u A d.secs,
        fun v u => ∃ A c, v = .slice A d.secs.length c ∧ Texts u A d.secs,
        fun v _ => v = .pointer (some ⟨w.heap.size, 1, none⟩),
        fun v u => ∃ A c, v = .slice A d.pend.length c ∧ Writes u A d.pend,
        fun v u => ∃ A c, v = .slice A d.pend.length c ∧ Writes u A d.pend,
        fun v _ => v = .pointer (some ⟨w.heap.size, 0, none⟩),
        fun _ _ => True,
        fun v _ => v = .pointer (some ⟨w.heap.size, 1, none⟩),
        fun _ _ => True])
      (by kernel_rfl) (by kernel_rfl) (fun v => by simp only [putsV, Act.put, List.toList_toArray, List.setIfInBounds_toArray, List.set_cons_zero, List.set_cons_succ, Nat.reduceAdd, Nat.zero_add]; rfl) ?_ ⟨⟨A1, c1, A2, c2, ⟨k0, h1.below b0.drew, h2.below b0.drew, hl1, hl2, hf1, hf2⟩⟩, b0.drew, k3⟩ ?_ ?_
    · intro j x u u' hb h
      match j with
      | 0 => exact h
      | 1 => exact (let ⟨A, c, e, t⟩ := h; ⟨A, c, e, texts_keep t hb⟩)
      | 2 => exact (let ⟨A, c, e, t⟩ := h; ⟨A, c, e, texts_keep t hb⟩)
      | 3 => exact h
      | 4 => exact (let ⟨A, c, e, t⟩ := h; ⟨A, c, e, writes_keep t hb⟩)
      | 5 => exact (let ⟨A, c, e, t⟩ := h; ⟨A, c, e, writes_keep t hb⟩)
      | 6 => exact h
      | 7 => exact trivial
      | 8 => exact h
      | 9 => exact trivial
      | _ + 10 => trivial
    · refine ⟨?_, ?_, ?_, ?_, ?_, ?_, ?_, ?_, ?_, ?_, trivial⟩
      · intro v u hS hd K' hK
        simp only [waited, List.toList_toArray, Region.binds, rel, List.getD_cons_zero, List.getD_cons_succ, true_imp_iff, and_true] at hd
        simp only [rel, List.getD_cons_zero, List.getD_cons_succ, Act.put, List.setIfInBounds_toArray, List.set_cons_zero, List.set_cons_succ] at hK
        try simp only [hd] at hK
        obtain ⟨hS1, hS2, hS3⟩ := hS
        obtain ⟨X1, m1, X2, m2, hBB⟩ := hS1
        go_simp
        exact hK.out _ _ ⟨⟨⟨X1, m1, X2, m2, hBB⟩, hS2, hS3⟩, .inl (Below.refl _ _), rfl⟩
      · intro v u hS hd K' hK
        simp only [waited, List.toList_toArray, Region.binds, rel, List.getD_cons_zero, List.getD_cons_succ, true_imp_iff, and_true] at hd
        simp only [rel, List.getD_cons_zero, List.getD_cons_succ, Act.put, List.setIfInBounds_toArray, List.set_cons_zero, List.set_cons_succ] at hK
        try simp only [hd] at hK
        obtain ⟨hS1, hS2, hS3⟩ := hS
        obtain ⟨X1, m1, X2, m2, hBB⟩ := hS1
        have x0 := hBB.blk.cell 0
        go_simp
        exact hK.out _ _ ⟨⟨⟨X1, m1, X2, m2, hBB⟩, hS2, hS3⟩, .inl (Below.refl _ _), ⟨_, _, rfl, hBB.tx⟩⟩
      · intro v u hS hd K' hK
        simp only [waited, List.toList_toArray, Region.binds, rel, List.getD_cons_zero, List.getD_cons_succ, true_imp_iff, and_true] at hd
        simp only [rel, List.getD_cons_zero, List.getD_cons_succ, Act.put, List.setIfInBounds_toArray, List.set_cons_zero, List.set_cons_succ] at hK
        try simp only [hd] at hK
        obtain ⟨hS1, hS2, hS3⟩ := hS
        obtain ⟨X1, m1, X2, m2, hBB⟩ := hS1
        obtain ⟨A, c, e1, t⟩ := hd
        simp only [e1] at hK
        go_simp
        refine (cloneS_w A c _ u t (by omega)).mono ?_
        rintro e w2 ⟨v2, rfl, ho, hb2⟩
        obtain ⟨A', c', rfl, _, _, hl', _⟩ := Lies.of_own ho
        exact hK.out _ _ ⟨⟨⟨X1, m1, X2, m2, hBB.below hb2⟩, bt hS2 hb2, hS3.below hb2⟩, .inl hb2, ⟨_, _, rfl, hl'⟩⟩
      · intro v u hS hd K' hK
        simp only [waited, List.toList_toArray, Region.binds, rel, List.getD_cons_zero, List.getD_cons_succ, true_imp_iff, and_true] at hd
        simp only [rel, List.getD_cons_zero, List.getD_cons_succ, Act.put, List.setIfInBounds_toArray, List.set_cons_zero, List.set_cons_succ] at hK
        try simp only [hd] at hK
        obtain ⟨hS1, hS2, hS3⟩ := hS
        obtain ⟨X1, m1, X2, m2, hBB⟩ := hS1
        go_simp
        exact hK.out _ _ ⟨⟨⟨X1, m1, X2, m2, hBB⟩, hS2, hS3⟩, .inl (Below.refl _ _), rfl⟩
      · intro v u hS hd K' hK
        simp only [waited, List.toList_toArray, Region.binds, rel, List.getD_cons_zero, List.getD_cons_succ, true_imp_iff, and_true] at hd
        simp only [rel, List.getD_cons_zero, List.getD_cons_succ, Act.put, List.setIfInBounds_toArray, List.set_cons_zero, List.set_cons_succ] at hK
        try simp only [hd] at hK
        obtain ⟨hS1, hS2, hS3⟩ := hS
        obtain ⟨X1, m1, X2, m2, hBB⟩ := hS1
        have x0 := hBB.blk.cell 1
        go_simp
        exact hK.out _ _ ⟨⟨⟨X1, m1, X2, m2, hBB⟩, hS2, hS3⟩, .inl (Below.refl _ _), ⟨_, _, rfl, hBB.wr⟩⟩
      · intro v u hS hd K' hK
        simp only [waited, List.toList_toArray, Region.binds, rel, List.getD_cons_zero, List.getD_cons_succ, true_imp_iff, and_true] at hd
        simp only [rel, List.getD_cons_zero, List.getD_cons_succ, Act.put, List.setIfInBounds_toArray, List.set_cons_zero, List.set_cons_succ] at hK
        try simp only [hd] at hK
        obtain ⟨hS1, hS2, hS3⟩ := hS
        obtain ⟨X1, m1, X2, m2, hBB⟩ := hS1
        obtain ⟨⟨A, c, e1, t⟩, _⟩ := hd
        simp only [e1] at hK
        go_simp
        refine (cloneW_w A c _ u t (by omega)).mono ?_
        rintro e w2 ⟨v2, rfl, ho, hb2⟩
        obtain ⟨A', c', rfl, _, _, hl', _⟩ := Lies.of_own ho
        exact hK.out _ _ ⟨⟨⟨X1, m1, X2, m2, hBB.below hb2⟩, bt hS2 hb2, hS3.below hb2⟩, .inl hb2, ⟨_, _, rfl, hl'⟩⟩
      · intro v u hS hd K' hK
        simp only [waited, List.toList_toArray, Region.binds, rel, List.getD_cons_zero, List.getD_cons_succ, true_imp_iff, and_true] at hd
        simp only [rel, List.getD_cons_zero, List.getD_cons_succ, Act.put, List.setIfInBounds_toArray, List.set_cons_zero, List.set_cons_succ] at hK
        try simp only [hd] at hK
        obtain ⟨hS1, hS2, hS3⟩ := hS
        obtain ⟨X1, m1, X2, m2, hBB⟩ := hS1
        go_simp
        exact hK.out _ _ ⟨⟨⟨X1, m1, X2, m2, hBB⟩, hS2, hS3⟩, .inl (Below.refl _ _), rfl⟩
      · intro v u hS hd K' hK
        simp only [waited, List.toList_toArray, Region.binds, rel, List.getD_cons_zero, List.getD_cons_succ, true_imp_iff, and_true] at hd
        simp only [rel, List.getD_cons_zero, List.getD_cons_succ, Act.put, List.setIfInBounds_toArray, List.set_cons_zero, List.set_cons_succ] at hK
        try simp only [hd] at hK
        obtain ⟨hS1, hS2, hS3⟩ := hS
        obtain ⟨X1, m1, X2, m2, hBB⟩ := hS1
        obtain ⟨h0, ⟨A, c, e1, t⟩, _⟩ := hd
        try simp only [h0, e1] at hK ⊢
        have y0 := hBB.blk.cell 0
        have y1 := hBB.blk.free 0
        go_simp
        have hG := keepCell_set hBB 0 (.slice A d.secs.length c)
        exact hK.out undef _ ⟨⟨⟨_, _, _, _, hBB.set0 t⟩, below_keepCell hS2 hG (Nat.le_refl _), hS3.keepCell hG (by omega)⟩, hG, trivial⟩
      · intro v u hS hd K' hK
        simp only [waited, List.toList_toArray, Region.binds, rel, List.getD_cons_zero, List.getD_cons_succ, true_imp_iff, and_true] at hd
        simp only [rel, List.getD_cons_zero, List.getD_cons_succ, Act.put, List.setIfInBounds_toArray, List.set_cons_zero, List.set_cons_succ] at hK
        try simp only [hd] at hK
        obtain ⟨hS1, hS2, hS3⟩ := hS
        obtain ⟨X1, m1, X2, m2, hBB⟩ := hS1
        go_simp
        exact hK.out _ _ ⟨⟨⟨X1, m1, X2, m2, hBB⟩, hS2, hS3⟩, .inl (Below.refl _ _), rfl⟩
      · intro v u hS hd K' hK
        simp only [waited, List.toList_toArray, Region.binds, rel, List.getD_cons_zero, List.getD_cons_succ, true_imp_iff, and_true] at hd
        simp only [rel, List.getD_cons_zero, List.getD_cons_succ, Act.put, List.setIfInBounds_toArray, List.set_cons_zero, List.set_cons_succ] at hK
        try simp only [hd] at hK
        obtain ⟨hS1, hS2, hS3⟩ := hS
        obtain ⟨X1, m1, X2, m2, hBB⟩ := hS1
        obtain ⟨h0, ⟨A, c, e1, t⟩, _⟩ := hd
        try simp only [h0, e1] at hK ⊢
        have y0 := hBB.blk.cell 1
        have y1 := hBB.blk.free 1
        go_simp
        have hG := keepCell_set hBB 1 (.slice A d.pend.length c)
        exact hK.out undef _ ⟨⟨⟨_, _, _, _, hBB.set1 t⟩, below_keepCell hS2 hG (Nat.le_refl _), hS3.keepCell hG (by omega)⟩, hG, trivial⟩
    · rintro v u ⟨hS1, hS2, hS3⟩ hR
      simp only [holdAll, List.size_toArray, List.length_cons, List.length_nil, Nat.reduceAdd, rel, List.getD_cons_zero, List.getD_cons_succ] at hR
      clear hR
      obtain ⟨X1, m1, X2, m2, hBB⟩ := hS1
      have q0 := hBB.blk.cell 0
      have q1 := hBB.blk.cell 1
      have q2 := hBB.blk.cell 2
      have q3 := hBB.blk.cell 3
      have r0 := hS3.cell 0
      have r1 := hS3.cell 1
      have r2 := hS3.cell 2
      have r3 := hS3.cell 3
      have z0 := hS3.free 0
      have z1 := hS3.free 1
      have z2 := hS3.free 2
      have z3 := hS3.free 3
      go_wp2_with fail
      refine bodyPost_ret (v := .tuple #[.agg #[.slice X1 d.secs.length m1, .slice X2 d.pend.length m2, .bool d.off, .int .i64 d.fuse], .int .i64 0, .int .i64 16]) (by simp [results, Try.results28, go_sem, r0, r1, r2, r3]) rfl ?_
      obtain ⟨e1, e2, e3⟩ := HA.out
      rw [e1, e2, e3]
      exact ⟨_, rfl, hand_on hBB.tx hBB.wr hBB.l1 hBB.l2 hBB.f1 hBB.f2 hS3 hS2 (by omega)⟩
  have hd3 : decide (s - a < (n : Int)) = false := decide_eq_false ha5
  have ha6 : ¬ (s - a < (n : Int)) := ha5
  have hY := app_yes (d := d) (f := f) (s := s) (a := a) (fr := fr) HZ.out (appW_fine HZ.out HC.out ⟨by omega, by omega⟩ (by rw [← Hn.out]; omega))
  obtain ⟨g, Hg⟩ := named (f + a).toNat
  have hga : f + a = (g : Int) := by rw [Hg.out]; omega
  have hwg : IntKind.i64.wrap (g : Int) = (g : Int) := by simp [IntKind.wrap, IntKind.bits, IntKind.signed]; rw [← hga]; omega
  rw [← Hg.out, ← HLL.out] at hY
  have HD2 := hide (HD.out.trans hY.1)
  have HE2 := hide (HE.out.trans hY.2)
  have hly := lay_w _ d g A9 n c9 LL W2 (hv0.below b0) ht9 HLn.out hn9.1 (by rw [Hg.out]; omega) hc9
  rw [← HD2.out, ← HE2.out] at hly
  clear hY HD HE
  have y0 := k0.cell
  go_wp2_with fail
  refine hly.mono ?_
  rintro e w9 ⟨v9, rfl, ⟨X1, m1, X2, m2, rfl, t1, t2, l1, l2, f1, f2⟩, hb9⟩
  have kz := (k3.below hb9).alloc (.cells #[.slice X1 D.secs.length m1, .slice X2 D.pend.length m2, .bool D.off, .int .i64 D.fuse] 49)
  have kn := Blk.new w9 [.slice X1 D.secs.length m1, .slice X2 D.pend.length m2, .bool D.off, .int .i64 D.fuse] 49
  have u1 := t1.below (below_alloc w9 (.cells #[.slice X1 D.secs.length m1, .slice X2 D.pend.length m2, .bool D.off, .int .i64 D.fuse] 49))
  have u2 := t2.below (below_alloc w9 (.cells #[.slice X1 D.secs.length m1, .slice X2 D.pend.length m2, .bool D.off, .int .i64 D.fuse] 49))
  have bz := bt (bt b0 hb9) (below_alloc w9 (.cells #[.slice X1 D.secs.length m1, .slice X2 D.pend.length m2, .bool D.off, .int .i64 D.fuse] 49))
  clear hly y0 y1 t1 t2 hb9
  go_upto_region 6 with fail
  obtain ⟨W9, HW9⟩ := named (w9.alloc (.cells #[.slice X1 D.secs.length m1, .slice X2 D.pend.length m2, .bool D.off, .int .i64 D.fuse] 49))
  obtain ⟨nb, Hnb⟩ := named w9.heap.size
  rw [← Hnb.out] at kn ⊢
  rw [← HW9.out] at kz kn u1 u2 bz ⊢
  clear HW9 Hnb
  have x0 := kn.cell 0
  have x1 := kn.cell 1
  have x2 := kn.cell 2
  have x3 := kn.cell 3
  have r0 := kz.cell 0
  have r1 := kz.cell 1
  have r2 := kz.cell 2
  have r3 := kz.cell 3
  have z0 := kz.free 0
  have z1 := kz.free 1
  have z2 := kz.free 2
  have z3 := kz.free 3
  by_cases hE0 : E = 0
  · have HM2 : Hid (M = a + (n : Int)) := by show _ = _; rw [HM.out, appN, if_pos (by rw [(app_yes (d := d) (f := f) (s := s) (a := a) (fr := fr) HZ.out (appW_fine HZ.out HC.out ⟨by omega, by omega⟩ (by rw [← Hn.out]; omega))).2, ← Hg.out, ← HLL.out, ← HE2.out]; exact hE0), Hn.out]
    have hwm : IntKind.i64.wrap (a + (n : Int)) = a + (n : Int) := by simp [IntKind.wrap, IntKind.bits, IntKind.signed]; omega
    subst hE0
    clear HE2
    go_wp2_with fail
    refine bodyPost_ret (v := .tuple #[.agg #[.slice X1 D.secs.length m1, .slice X2 D.pend.length m2, .bool D.off, .int .i64 D.fuse], .int .i64 (a + (n : Int)), .int .i64 0]) (by simp [results, Try.results28, go_sem, r0, r1, r2, r3]) rfl ?_
    rw [HM2.out]
    exact ⟨_, rfl, hand_on u1 u2 l1 l2 f1 f2 kz bz (by omega)⟩
  · have HM2 : Hid (M = 0) := by show _ = _; rw [HM.out, appN, if_neg (by rw [(app_yes (d := d) (f := f) (s := s) (a := a) (fr := fr) HZ.out (appW_fine HZ.out HC.out ⟨by omega, by omega⟩ (by rw [← Hn.out]; omega))).2, ← Hg.out, ← HLL.out, ← HE2.out]; exact hE0)]
    have hz1 : (E == 0) = false := by simp [hE0]
    have hz2 : (E != 0) = true := by simp [hE0]
    clear hE0 HE2
    go_wp2_with fail
    refine bodyPost_ret (v := .tuple #[.agg #[.slice X1 D.secs.length m1, .slice X2 D.pend.length m2, .bool D.off, .int .i64 D.fuse], .int .i64 0, .int .i64 E]) (by simp [results, Try.results28, go_sem, r0, r1, r2, r3]) rfl ?_
    rw [HM2.out]
    exact ⟨_, rfl, hand_on u1 u2 l1 l2 f1 f2 kz bz (by omega)⟩
end Go.Proofs.Ytdgonhmipecjpaa
