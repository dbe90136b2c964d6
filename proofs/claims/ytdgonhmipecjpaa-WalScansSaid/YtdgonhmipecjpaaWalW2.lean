/- The law WalScans: the walk. -/
import Derived.Test.YtdgonhmipecjpaaWalLives
import Derived.Test.YtdgonhmipecjpaaGL
import Derived.Test.YtdgonhmipecjpaaWalSame
import Derived.Test.YtdgonhmipecjpaaWalScanNo
import Derived.Test.YtdgonhmipecjpaaWalRefScan
namespace Go.Proofs.Ytdgonhmipecjpaa
set_option linter.unusedSimpArgs false
set_option linter.unusedVariables false
open Go.RowKit Go.Shelf
open Crc
theorem log_short (d : Dk) (f s ep : Nat) : (logOf d f s ep).1.length ≤ 1024 := (log_chain (d := d) (f := f) (s := s) (ep := ep) 1024 0 0).2.1
theorem scan_zero {d : Dk} {f s : Int} (h : scanE d f s = 0) : right d = true ∧ d.off = false ∧ ∃ f' s' : Nat, f = f' ∧ s = s' ∧ 1 ≤ s' ∧ f' + s' ≤ d.secs.length := by
  unfold scanE at h
  by_cases hw : walE d f s = 0
  · obtain ⟨h1, h2, h3, h4, h5⟩ := wal_zero hw
    rw [if_neg (by simp [hw])] at h
    refine ⟨h1, by cases ho : d.off <;> simp [ho] at h ⊢, ?_⟩
    obtain ⟨f', rfl⟩ := Int.eq_ofNat_of_zero_le h2
    obtain ⟨s', rfl⟩ := Int.eq_ofNat_of_zero_le (show 0 ≤ s by omega)
    exact ⟨f', s', rfl, rfl, by omega, by omega⟩
  · rw [if_pos hw] at h
    exact absurd h hw
/-- What both Scans come to. -/
theorem both_scans (d : Dk) (f s : Int) (ep : Nat) (hf : -9223372036854775808 ≤ f ∧ f ≤ 9223372036854775807) (hs : -9223372036854775808 ≤ s ∧ s ≤ 9223372036854775807) (hep : ep < 18446744073709551616) : ∃ (L : List Fr) (m E : Int), L.length ≤ 1024 ∧
    (∀ W v, DkIs W v d → Calls Try.prog 30 #[v, .agg #[.int .i64 f, .int .i64 s], .int .u64 (ep : Int)] W fun e w' => (∃ A c, e = .returned (.tuple #[.slice A L.length c, .int .i64 m, .int .i64 E]) ∧ Frames w' A L) ∧ Below W.heap.size W w') ∧
    (∀ W v, DkIs W v d → Calls Try.prog 32 #[v, .agg #[.int .i64 f, .int .i64 s], .int .u64 (ep : Int)] W fun e w' => (∃ A c, e = .returned (.tuple #[.slice A L.length c, .int .i64 m, .int .i64 E]) ∧ Frames w' A L) ∧ Below W.heap.size W w') := by
  by_cases h : scanE d f s = 0
  · obtain ⟨hr, ho, f', s', rfl, rfl, h1, h2⟩ := scan_zero h
    exact ⟨_, _, _, log_short d f' s' ep, fun W v hv => scan_yes v d f' s' ep W hv hr ho h1 h2 hep, fun W v hv => refScan_yes v d f' s' ep W hv hr ho h1 h2 hep⟩
  · refine ⟨[], 0, scanE d f s, by simp, fun W v hv => ?_, fun W v hv => ?_⟩
    · refine (scan_no v d f s ep W hv hf hs h).mono ?_
      rintro e w' ⟨rfl, hb⟩
      exact ⟨⟨none, 0, rfl, Lies.nil _ _ _⟩, hb⟩
    · refine (refScan_no v d f s ep W hv hf hs h).mono ?_
      rintro e w' ⟨rfl, hb⟩
      exact ⟨⟨none, 0, rfl, Lies.nil _ _ _⟩, hb⟩
set_option maxHeartbeats 4000000 in
set_option maxRecDepth 100000 in
theorem walscans_w (A1 A2 : Option Addr) (c1 c2 : Nat) (d : Dk) (f s : Int) (ep : Nat) (w : World) (h1 : Texts w A1 d.secs) (h2 : Writes w A2 d.pend) (hl1 : d.secs.length * 16 ≤ 140737488351232) (hl2 : d.pend.length * 24 ≤ 140737488351232) (hf1 : -9223372036854775808 ≤ d.fuse) (hf2 : d.fuse ≤ 9223372036854775807)
    (hf : -9223372036854775808 ≤ f ∧ f ≤ 9223372036854775807) (hs : -9223372036854775808 ≤ s ∧ s ≤ 9223372036854775807) (hep : ep < 18446744073709551616) :
    Calls Try.prog 9 #[.agg #[.slice A1 d.secs.length c1, .slice A2 d.pend.length c2, .bool d.off, .int .i64 d.fuse], .agg #[.int .i64 f, .int .i64 s], .int .u64 (ep : Int)] w fun e w' => e = .returned (.bool true) ∧ Below w.heap.size w w' := by
  obtain ⟨W, HW, Bd, kr, hb, hz⟩ := two_in w ⟨A1, c1, A2, c2, rfl, h1, h2, by omega, by omega, hf1, hf2⟩ f s
  obtain ⟨L, m, E, hL, hs1, hs2⟩ := both_scans d f s ep hf hs hep
  have hL9 : L.length ≤ 100000 := by omega
  have hc1 := fun W v hv => walCheck_w v d f s W hv hf hs
  have hc2 := fun W v hv => refWalCheck_w v d f s W hv hf hs
  obtain ⟨cw, Hcw⟩ := named (walE d f s)
  rw [← Hcw.out] at hc1 hc2
  clear Hcw hL
  have xd := Bd.blk.cell
  have xr := kr.cell
  rw [HW.out] at xd xr
  go_enter Try.func9, Try.ntmps9
  go_wp2_with fail
  rw [← HW.out]
  clear HW hz xd xr
  refine (hs1 _ _ Bd.is).mono ?_
  rintro e w1 ⟨⟨A, ca, rfl, hA⟩, hb1⟩
  replace Bd := Bd.below hb1
  replace kr := kr.below hb1
  replace hb := bt hb hb1
  clear hb1 hs1
  have xd := Bd.blk.cell
  have xr := kr.cell
  go_wp2_with fail
  clear xd xr
  refine (hs2 _ _ Bd.is).mono ?_
  rintro e w2 ⟨⟨B, cb, rfl, hB⟩, hb2⟩
  replace Bd := Bd.below hb2
  replace kr := kr.below hb2
  replace hA := hA.below hb2
  replace hb := bt hb hb2
  clear hb2 hs2
  go_wp2_with fail
  have Bd' : Box w2.drew w.heap.size A1 c1 A2 c2 d := ⟨Bd.blk, Bd.tx, Bd.wr, Bd.l1, Bd.l2, Bd.f1, Bd.f2⟩
  have kr' : Blk w2.drew (w.heap.size + 1) [.int .i64 f, .int .i64 s] 53 := kr
  have hA' : Frames w2.drew A L := hA
  have hB' : Frames w2.drew B L := hB
  have hb' := hb.drew
  clear Bd kr hA hB hb
  refine region_flat _ (fun u => Box u w.heap.size A1 c1 A2 c2 d ∧ Blk u (w.heap.size + 1) [.int .i64 f, .int .i64 s] 53 ∧ Frames u A L ∧ Frames u B L ∧ Below w.heap.size w u) (fun u u' => Below u.heap.size u u')
    (rel [fun v _ => v = .bool true,
      fun v _ => v = .bool true,
      fun v _ => v = .slice A L.length ca,
      fun v _ => v = .slice B L.length cb,
      fun v _ => v = .bool true,
      fun v _ => v = .bool true,
      fun v _ => v = .bool true,
      fun v _ => v = .int .i64 m,
      fun v _ => v = .int .i64 m,
      fun v _ => v = .bool true,
      fun v _ => v = .bool true,
      fun v _ => v = .bool true,
      fun v _ => v = .int .i64 E,
      fun v _ => v = .int .i64 E,
      fun v _ => v = .bool true,
      fun v _ => v = .bool true,
      fun v _ => v = .bool true,
      fun v _ => v = .agg #[.slice A1 d.secs.length c1, .slice A2 d.pend.length c2, .bool d.off, .int .i64 d.fuse],
      fun v _ => v = .agg #[.int .i64 f, .int .i64 s],
      fun v _ => v = .int .i64 cw,
      fun v _ => v = .agg #[.slice A1 d.secs.length c1, .slice A2 d.pend.length c2, .bool d.off, .int .i64 d.fuse],
      fun v _ => v = .agg #[.int .i64 f, .int .i64 s],
      fun v _ => v = .int .i64 cw,
      fun v _ => v = .bool true,
      fun v _ => v = .bool true,
      fun v _ => v = .bool true])
    (by kernel_rfl) (by kernel_rfl) (fun v => by simp only [putsV, Act.put, List.toList_toArray, List.setIfInBounds_toArray, List.set_cons_zero, List.set_cons_succ, Nat.reduceAdd, Nat.zero_add]; rfl) ?_ ⟨Bd', kr', hA', hB', hb'⟩ ?_ ?_
  · intro j x u u' hb h
    match j with
    | 0 => exact h
    | 1 => exact h
    | 2 => exact h
    | 3 => exact h
    | 4 => exact h
    | 5 => exact h
    | 6 => exact h
    | 7 => exact h
    | 8 => exact h
    | 9 => exact h
    | 10 => exact h
    | 11 => exact h
    | 12 => exact h
    | 13 => exact h
    | 14 => exact h
    | 15 => exact h
    | 16 => exact h
    | 17 => exact h
    | 18 => exact h
    | 19 => exact h
    | 20 => exact h
    | 21 => exact h
    | 22 => exact h
    | 23 => exact h
    | 24 => exact h
    | 25 => exact h
    | _ + 26 => trivial
  · refine ⟨?_, ?_, ?_, ?_, ?_, ?_, ?_, ?_, ?_, ?_, ?_, ?_, ?_, ?_, ?_, ?_, ?_, ?_, ?_, ?_, ?_, ?_, ?_, ?_, ?_, ?_, trivial⟩
    · intro v u hS hd K' hK
      simp only [waited, List.toList_toArray, Region.binds, rel, List.getD_cons_zero, List.getD_cons_succ, true_imp_iff, and_true] at hd
      simp only [rel, List.getD_cons_zero, List.getD_cons_succ, Act.put, List.setIfInBounds_toArray, List.set_cons_zero, List.set_cons_succ] at hK
      try simp only [hd] at hK
      obtain ⟨hS1, hS2, hS3, hS4, hS5⟩ := hS
      go_simp
      refine (lives4_w _).mono ?_
      rintro e w2 ⟨rfl, hb2⟩
      exact hK.out _ _ ⟨⟨hS1.below hb2, hS2.below hb2, Frames.below hS3 hb2, Frames.below hS4 hb2, bt hS5 hb2⟩, hb2, rfl⟩
    · intro v u hS hd K' hK
      simp only [waited, List.toList_toArray, Region.binds, rel, List.getD_cons_zero, List.getD_cons_succ, true_imp_iff, and_true] at hd
      simp only [rel, List.getD_cons_zero, List.getD_cons_succ, Act.put, List.setIfInBounds_toArray, List.set_cons_zero, List.set_cons_succ] at hK
      try simp only [hd] at hK
      obtain ⟨hS1, hS2, hS3, hS4, hS5⟩ := hS
      go_simp
      exact hK.out _ _ ⟨⟨hS1, hS2, hS3, hS4, hS5⟩, Below.refl _ _, rfl⟩
    · intro v u hS hd K' hK
      simp only [waited, List.toList_toArray, Region.binds, rel, List.getD_cons_zero, List.getD_cons_succ, true_imp_iff, and_true] at hd
      simp only [rel, List.getD_cons_zero, List.getD_cons_succ, Act.put, List.setIfInBounds_toArray, List.set_cons_zero, List.set_cons_succ] at hK
      try simp only [hd] at hK
      obtain ⟨hS1, hS2, hS3, hS4, hS5⟩ := hS
      go_simp
      exact hK.out _ _ ⟨⟨hS1, hS2, hS3, hS4, hS5⟩, Below.refl _ _, rfl⟩
    · intro v u hS hd K' hK
      simp only [waited, List.toList_toArray, Region.binds, rel, List.getD_cons_zero, List.getD_cons_succ, true_imp_iff, and_true] at hd
      simp only [rel, List.getD_cons_zero, List.getD_cons_succ, Act.put, List.setIfInBounds_toArray, List.set_cons_zero, List.set_cons_succ] at hK
      try simp only [hd] at hK
      obtain ⟨hS1, hS2, hS3, hS4, hS5⟩ := hS
      go_simp
      exact hK.out _ _ ⟨⟨hS1, hS2, hS3, hS4, hS5⟩, Below.refl _ _, rfl⟩
    · intro v u hS hd K' hK
      simp only [waited, List.toList_toArray, Region.binds, rel, List.getD_cons_zero, List.getD_cons_succ, true_imp_iff, and_true] at hd
      simp only [rel, List.getD_cons_zero, List.getD_cons_succ, Act.put, List.setIfInBounds_toArray, List.set_cons_zero, List.set_cons_succ] at hK
      try simp only [hd] at hK
      obtain ⟨hS1, hS2, hS3, hS4, hS5⟩ := hS
      go_simp
      refine (refSame4_w A B ca cb L _ hS3 hS4 hL9).mono ?_
      rintro e w2 ⟨rfl, hb2⟩
      exact hK.out _ _ ⟨⟨hS1.below hb2, hS2.below hb2, Frames.below hS3 hb2, Frames.below hS4 hb2, bt hS5 hb2⟩, hb2, rfl⟩
    · intro v u hS hd K' hK
      simp only [waited, List.toList_toArray, Region.binds, rel, List.getD_cons_zero, List.getD_cons_succ, true_imp_iff, and_true] at hd
      simp only [rel, List.getD_cons_zero, List.getD_cons_succ, Act.put, List.setIfInBounds_toArray, List.set_cons_zero, List.set_cons_succ] at hK
      try simp only [hd] at hK
      obtain ⟨hS1, hS2, hS3, hS4, hS5⟩ := hS
      go_simp
      exact hK.out _ _ ⟨⟨hS1, hS2, hS3, hS4, hS5⟩, Below.refl _ _, rfl⟩
    · intro v u hS hd K' hK
      simp only [waited, List.toList_toArray, Region.binds, rel, List.getD_cons_zero, List.getD_cons_succ, true_imp_iff, and_true] at hd
      simp only [rel, List.getD_cons_zero, List.getD_cons_succ, Act.put, List.setIfInBounds_toArray, List.set_cons_zero, List.set_cons_succ] at hK
      try simp only [hd] at hK
      obtain ⟨hS1, hS2, hS3, hS4, hS5⟩ := hS
      go_simp
      exact hK.out _ _ ⟨⟨hS1, hS2, hS3, hS4, hS5⟩, Below.refl _ _, rfl⟩
    · intro v u hS hd K' hK
      simp only [waited, List.toList_toArray, Region.binds, rel, List.getD_cons_zero, List.getD_cons_succ, true_imp_iff, and_true] at hd
      simp only [rel, List.getD_cons_zero, List.getD_cons_succ, Act.put, List.setIfInBounds_toArray, List.set_cons_zero, List.set_cons_succ] at hK
      try simp only [hd] at hK
      obtain ⟨hS1, hS2, hS3, hS4, hS5⟩ := hS
      go_simp
      exact hK.out _ _ ⟨⟨hS1, hS2, hS3, hS4, hS5⟩, Below.refl _ _, rfl⟩
    · intro v u hS hd K' hK
      simp only [waited, List.toList_toArray, Region.binds, rel, List.getD_cons_zero, List.getD_cons_succ, true_imp_iff, and_true] at hd
      simp only [rel, List.getD_cons_zero, List.getD_cons_succ, Act.put, List.setIfInBounds_toArray, List.set_cons_zero, List.set_cons_succ] at hK
      try simp only [hd] at hK
      obtain ⟨hS1, hS2, hS3, hS4, hS5⟩ := hS
      go_simp
      exact hK.out _ _ ⟨⟨hS1, hS2, hS3, hS4, hS5⟩, Below.refl _ _, rfl⟩
    · intro v u hS hd K' hK
      simp only [waited, List.toList_toArray, Region.binds, rel, List.getD_cons_zero, List.getD_cons_succ, true_imp_iff, and_true] at hd
      simp only [rel, List.getD_cons_zero, List.getD_cons_succ, Act.put, List.setIfInBounds_toArray, List.set_cons_zero, List.set_cons_succ] at hK
      try simp only [hd] at hK
      obtain ⟨hS1, hS2, hS3, hS4, hS5⟩ := hS
      go_simp
      exact hK.out _ _ ⟨⟨hS1, hS2, hS3, hS4, hS5⟩, Below.refl _ _, rfl⟩
    · intro v u hS hd K' hK
      simp only [waited, List.toList_toArray, Region.binds, rel, List.getD_cons_zero, List.getD_cons_succ, true_imp_iff, and_true] at hd
      simp only [rel, List.getD_cons_zero, List.getD_cons_succ, Act.put, List.setIfInBounds_toArray, List.set_cons_zero, List.set_cons_succ] at hK
      try simp only [hd] at hK
      obtain ⟨hS1, hS2, hS3, hS4, hS5⟩ := hS
      go_simp
      exact hK.out _ _ ⟨⟨hS1, hS2, hS3, hS4, hS5⟩, Below.refl _ _, rfl⟩
    · intro v u hS hd K' hK
      simp only [waited, List.toList_toArray, Region.binds, rel, List.getD_cons_zero, List.getD_cons_succ, true_imp_iff, and_true] at hd
      simp only [rel, List.getD_cons_zero, List.getD_cons_succ, Act.put, List.setIfInBounds_toArray, List.set_cons_zero, List.set_cons_succ] at hK
      try simp only [hd] at hK
      obtain ⟨hS1, hS2, hS3, hS4, hS5⟩ := hS
      go_simp
      exact hK.out _ _ ⟨⟨hS1, hS2, hS3, hS4, hS5⟩, Below.refl _ _, rfl⟩
    · intro v u hS hd K' hK
      simp only [waited, List.toList_toArray, Region.binds, rel, List.getD_cons_zero, List.getD_cons_succ, true_imp_iff, and_true] at hd
      simp only [rel, List.getD_cons_zero, List.getD_cons_succ, Act.put, List.setIfInBounds_toArray, List.set_cons_zero, List.set_cons_succ] at hK
      try simp only [hd] at hK
      obtain ⟨hS1, hS2, hS3, hS4, hS5⟩ := hS
      go_simp
      exact hK.out _ _ ⟨⟨hS1, hS2, hS3, hS4, hS5⟩, Below.refl _ _, rfl⟩
    · intro v u hS hd K' hK
      simp only [waited, List.toList_toArray, Region.binds, rel, List.getD_cons_zero, List.getD_cons_succ, true_imp_iff, and_true] at hd
      simp only [rel, List.getD_cons_zero, List.getD_cons_succ, Act.put, List.setIfInBounds_toArray, List.set_cons_zero, List.set_cons_succ] at hK
      try simp only [hd] at hK
      obtain ⟨hS1, hS2, hS3, hS4, hS5⟩ := hS
      go_simp
      exact hK.out _ _ ⟨⟨hS1, hS2, hS3, hS4, hS5⟩, Below.refl _ _, rfl⟩
    · intro v u hS hd K' hK
      simp only [waited, List.toList_toArray, Region.binds, rel, List.getD_cons_zero, List.getD_cons_succ, true_imp_iff, and_true] at hd
      simp only [rel, List.getD_cons_zero, List.getD_cons_succ, Act.put, List.setIfInBounds_toArray, List.set_cons_zero, List.set_cons_succ] at hK
      try simp only [hd] at hK
      obtain ⟨hS1, hS2, hS3, hS4, hS5⟩ := hS
      go_simp
      exact hK.out _ _ ⟨⟨hS1, hS2, hS3, hS4, hS5⟩, Below.refl _ _, rfl⟩
    · intro v u hS hd K' hK
      simp only [waited, List.toList_toArray, Region.binds, rel, List.getD_cons_zero, List.getD_cons_succ, true_imp_iff, and_true] at hd
      simp only [rel, List.getD_cons_zero, List.getD_cons_succ, Act.put, List.setIfInBounds_toArray, List.set_cons_zero, List.set_cons_succ] at hK
      try simp only [hd] at hK
      obtain ⟨hS1, hS2, hS3, hS4, hS5⟩ := hS
      go_simp
      exact hK.out _ _ ⟨⟨hS1, hS2, hS3, hS4, hS5⟩, Below.refl _ _, rfl⟩
    · intro v u hS hd K' hK
      simp only [waited, List.toList_toArray, Region.binds, rel, List.getD_cons_zero, List.getD_cons_succ, true_imp_iff, and_true] at hd
      simp only [rel, List.getD_cons_zero, List.getD_cons_succ, Act.put, List.setIfInBounds_toArray, List.set_cons_zero, List.set_cons_succ] at hK
      try simp only [hd] at hK
      obtain ⟨hS1, hS2, hS3, hS4, hS5⟩ := hS
      go_simp
      exact hK.out _ _ ⟨⟨hS1, hS2, hS3, hS4, hS5⟩, Below.refl _ _, rfl⟩
    · intro v u hS hd K' hK
      simp only [waited, List.toList_toArray, Region.binds, rel, List.getD_cons_zero, List.getD_cons_succ, true_imp_iff, and_true] at hd
      simp only [rel, List.getD_cons_zero, List.getD_cons_succ, Act.put, List.setIfInBounds_toArray, List.set_cons_zero, List.set_cons_succ] at hK
      try simp only [hd] at hK
      obtain ⟨hS1, hS2, hS3, hS4, hS5⟩ := hS
      have x0 := hS1.blk.cell
      go_simp
      exact hK.out _ _ ⟨⟨hS1, hS2, hS3, hS4, hS5⟩, Below.refl _ _, rfl⟩
    · intro v u hS hd K' hK
      simp only [waited, List.toList_toArray, Region.binds, rel, List.getD_cons_zero, List.getD_cons_succ, true_imp_iff, and_true] at hd
      simp only [rel, List.getD_cons_zero, List.getD_cons_succ, Act.put, List.setIfInBounds_toArray, List.set_cons_zero, List.set_cons_succ] at hK
      try simp only [hd] at hK
      obtain ⟨hS1, hS2, hS3, hS4, hS5⟩ := hS
      have x0 := hS2.cell
      go_simp
      exact hK.out _ _ ⟨⟨hS1, hS2, hS3, hS4, hS5⟩, Below.refl _ _, rfl⟩
    · intro v u hS hd K' hK
      simp only [waited, List.toList_toArray, Region.binds, rel, List.getD_cons_zero, List.getD_cons_succ, true_imp_iff, and_true] at hd
      simp only [rel, List.getD_cons_zero, List.getD_cons_succ, Act.put, List.setIfInBounds_toArray, List.set_cons_zero, List.set_cons_succ] at hK
      try simp only [hd] at hK
      obtain ⟨hS1, hS2, hS3, hS4, hS5⟩ := hS
      go_simp
      refine (hc1 _ _ hS1.is).mono ?_
      rintro e w2 ⟨rfl, hb2⟩
      exact hK.out _ _ ⟨⟨hS1.below hb2, hS2.below hb2, Frames.below hS3 hb2, Frames.below hS4 hb2, bt hS5 hb2⟩, hb2, rfl⟩
    · intro v u hS hd K' hK
      simp only [waited, List.toList_toArray, Region.binds, rel, List.getD_cons_zero, List.getD_cons_succ, true_imp_iff, and_true] at hd
      simp only [rel, List.getD_cons_zero, List.getD_cons_succ, Act.put, List.setIfInBounds_toArray, List.set_cons_zero, List.set_cons_succ] at hK
      try simp only [hd] at hK
      obtain ⟨hS1, hS2, hS3, hS4, hS5⟩ := hS
      have x0 := hS1.blk.cell
      go_simp
      exact hK.out _ _ ⟨⟨hS1, hS2, hS3, hS4, hS5⟩, Below.refl _ _, rfl⟩
    · intro v u hS hd K' hK
      simp only [waited, List.toList_toArray, Region.binds, rel, List.getD_cons_zero, List.getD_cons_succ, true_imp_iff, and_true] at hd
      simp only [rel, List.getD_cons_zero, List.getD_cons_succ, Act.put, List.setIfInBounds_toArray, List.set_cons_zero, List.set_cons_succ] at hK
      try simp only [hd] at hK
      obtain ⟨hS1, hS2, hS3, hS4, hS5⟩ := hS
      have x0 := hS2.cell
      go_simp
      exact hK.out _ _ ⟨⟨hS1, hS2, hS3, hS4, hS5⟩, Below.refl _ _, rfl⟩
    · intro v u hS hd K' hK
      simp only [waited, List.toList_toArray, Region.binds, rel, List.getD_cons_zero, List.getD_cons_succ, true_imp_iff, and_true] at hd
      simp only [rel, List.getD_cons_zero, List.getD_cons_succ, Act.put, List.setIfInBounds_toArray, List.set_cons_zero, List.set_cons_succ] at hK
      try simp only [hd] at hK
      obtain ⟨hS1, hS2, hS3, hS4, hS5⟩ := hS
      go_simp
      refine (hc2 _ _ hS1.is).mono ?_
      rintro e w2 ⟨rfl, hb2⟩
      exact hK.out _ _ ⟨⟨hS1.below hb2, hS2.below hb2, Frames.below hS3 hb2, Frames.below hS4 hb2, bt hS5 hb2⟩, hb2, rfl⟩
    · intro v u hS hd K' hK
      simp only [waited, List.toList_toArray, Region.binds, rel, List.getD_cons_zero, List.getD_cons_succ, true_imp_iff, and_true] at hd
      simp only [rel, List.getD_cons_zero, List.getD_cons_succ, Act.put, List.setIfInBounds_toArray, List.set_cons_zero, List.set_cons_succ] at hK
      try simp only [hd] at hK
      obtain ⟨hS1, hS2, hS3, hS4, hS5⟩ := hS
      go_simp
      exact hK.out _ _ ⟨⟨hS1, hS2, hS3, hS4, hS5⟩, Below.refl _ _, rfl⟩
    · intro v u hS hd K' hK
      simp only [waited, List.toList_toArray, Region.binds, rel, List.getD_cons_zero, List.getD_cons_succ, true_imp_iff, and_true] at hd
      simp only [rel, List.getD_cons_zero, List.getD_cons_succ, Act.put, List.setIfInBounds_toArray, List.set_cons_zero, List.set_cons_succ] at hK
      try simp only [hd] at hK
      obtain ⟨hS1, hS2, hS3, hS4, hS5⟩ := hS
      go_simp
      exact hK.out _ _ ⟨⟨hS1, hS2, hS3, hS4, hS5⟩, Below.refl _ _, rfl⟩
    · intro v u hS hd K' hK
      simp only [waited, List.toList_toArray, Region.binds, rel, List.getD_cons_zero, List.getD_cons_succ, true_imp_iff, and_true] at hd
      simp only [rel, List.getD_cons_zero, List.getD_cons_succ, Act.put, List.setIfInBounds_toArray, List.set_cons_zero, List.set_cons_succ] at hK
      try simp only [hd] at hK
      obtain ⟨hS1, hS2, hS3, hS4, hS5⟩ := hS
      go_simp
      exact hK.out _ _ ⟨⟨hS1, hS2, hS3, hS4, hS5⟩, Below.refl _ _, rfl⟩
  · rintro v u ⟨hS1, hS2, hS3, hS4, hS5⟩ hR
    simp only [holdAll, List.size_toArray, List.length_cons, List.length_nil, Nat.reduceAdd, rel, List.getD_cons_zero, List.getD_cons_succ] at hR
    obtain ⟨_, h25⟩ := hR
    simp only [h25]
    clear h25
    go_wp2
    go_ret
    exact ⟨rfl, hS5⟩
end Go.Proofs.Ytdgonhmipecjpaa
