/- The document's Sync. -/
import Derived.Test.YtpfbmmeipojodaaGI
import Derived.Test.YtpfbmmeipojodaaRefCheck
namespace Go.Proofs.Ytpfbmmeipojodaa
open Go.RowKit

theorem syncNo {d : Dk} : (right d = false → syncD d = dk0) ∧ (right d = false → syncE d = 13) := by
  constructor <;> intro h <;> simp [syncD, syncE, h]
theorem syncOff {d : Dk} (hr : right d = true) (ho : d.off = true) : syncD d = d ∧ syncE d = 15 := by
  simp [syncD, syncE, workD, workE, hr, ho]
theorem syncYes {S : List ByteArray} {P : List Wr} {f : Int} (hr : right ⟨S, P, false, f⟩ = true) :
    syncD ⟨S, P, false, f⟩ = (if f = 0 then ⟨S, P, true, 0⟩ else ⟨stl (fun _ => true) 0 P S, [], false, if 0 < f then f - 1 else f⟩) ∧ syncE ⟨S, P, false, f⟩ = if f = 0 then 15 else 0 := by
  simp only [syncD, syncE, workD, workE, hr, burn, settled]
  by_cases h0 : f = 0
  · simp [h0]
  · simp [h0]
set_option maxRecDepth 100000 in
set_option maxHeartbeats 8000000 in
theorem refSync_w (v : Value) (d : Dk) (w : World) (hv : DkIs w v d) : Calls Try.prog 66 #[v] w (DkRet (syncD d) (syncE d) w) := by
  have hv0 := hv
  have hno := @syncNo d
  obtain ⟨S, P, off, fuse⟩ := d
  obtain ⟨D, HD⟩ := named (syncD ⟨S, P, off, fuse⟩)
  obtain ⟨E, HE⟩ := named (syncE ⟨S, P, off, fuse⟩)
  rw [← HD.out, ← HE.out] at hno ⊢
  obtain ⟨A1, c1, A2, c2, rfl, h1, h2, hl1, hl2, hf1, hf2⟩ := hv
  simp only at h1 h2 hl1 hl2 hf1 hf2 hv0 ⊢
  obtain ⟨b0, k1, k2⟩ := two_blk w [.slice A1 S.length c1, .slice A2 P.length c2, .bool off, .int .i64 fuse] [.slice none 0 0, .slice none 0 0, .bool false, .int .i64 0] 28 28
  go_enter Try.func66, Try.ntmps66
  go_wp2_with fail
  refine (refCheck_w _ ⟨S, P, off, fuse⟩ _ (hv0.below b0)).mono ?_
  cases hr : right ⟨S, P, off, fuse⟩
  · have hE := hide (show checkE ⟨S, P, off, fuse⟩ = 13 by simp [checkE, hr])
    have HD0 := hide (hno.1 hr)
    have HE0 := hide (hno.2 hr)
    clear hr hno
    rw [hE.out]
    rintro e w1 ⟨rfl, hb⟩
    have p3 := k2.below hb
    have hbw := bt b0 hb
    have r0 := p3.cell 0
    have r1 := p3.cell 1
    have r2 := p3.cell 2
    have r3 := p3.cell 3
    have z0 := p3.free 0
    have z1 := p3.free 1
    have z2 := p3.free 2
    have z3 := p3.free 3
    go_wp2_with fail
    refine bodyPost_ret (v := .tuple #[.agg #[.slice none 0 0, .slice none 0 0, .bool false, .int .i64 0], .int .i64 13]) (by simp [results, Try.results66, go_sem, r0, r1, r2, r3]) rfl ?_
    exact dkRet_of ⟨DkIs.zero _, below4 hbw (show w.heap.size ≤ w.heap.size + 1 by omega) (.slice none 0 0) (.slice none 0 0) (.bool false) (.int .i64 0)⟩ HD0.out HE0.out
  · have hE := hide (show checkE ⟨S, P, off, fuse⟩ = 0 by simp [checkE, hr])
    have hin := right_in hr
    simp only at hin
    have hl : S.length ≤ 1024 ∧ P.length ≤ 4096 := by simp [right, sizeOk] at hr; omega
    obtain ⟨hS, hP⟩ := hl
    have Hr := hide hr
    clear hr hno
    rw [hE.out]
    rintro e w1 ⟨rfl, hb⟩
    have hbw := bt b0 hb
    have k1' := k1.below hb
    have k2' := k2.below hb
    have x0 := k1'.cell 0
    have x1 := k1'.cell 1
    have x2 := k1'.cell 2
    have x3 := k1'.cell 3
    have hlt := k2'.lt
    go_wp2_with fail
    refine (refCopy_w A1 A2 c1 c2 ⟨S, P, off, fuse⟩ _ (h1.below hbw) (h2.below hbw) (by simp only; omega) (by simp only; omega) hf1 hf2).mono ?_
    rintro e w2 ⟨v2, rfl, ⟨sv, pv, rfl, o1, o2, -, -, -, -⟩, hb2⟩
    obtain ⟨B1, e1, rfl, _⟩ := Lies.of_own o1
    obtain ⟨B2, e2, rfl, _⟩ := Lies.of_own o2
    simp only at o1 o2 ⊢
    obtain ⟨M, HM⟩ : ∃ M, M = w1.heap.size := ⟨_, rfl⟩
    rw [← HM] at o1 o2 hlt
    have hbw2 := bt hbw hb2
    have K1 := k1'.below hb2
    have K2 := k2'.below hb2
    have O : Own2 w2 M B1 e1 B2 e2 S P := ⟨o1, o2⟩
    have hMle : M ≤ w2.heap.size := HM ▸ hb2.size
    have g0 := K1.cell 0
    have g1 := K1.cell 1
    have g2 := K1.cell 2
    have g3 := K1.cell 3
    have f0 := K1.free 0
    have f1 := K1.free 1
    have f2 := K1.free 2
    have f3 := K1.free 3
    obtain ⟨K1', K2', O', hbw'⟩ := boxed K1 K2 O hbw2 (.slice B1 S.length e1) (.slice B2 P.length e2) (.bool off) (.int .i64 fuse)
    have hMle' : M ≤ (set4 w2 w.heap.size (.slice B1 S.length e1) (.slice B2 P.length e2) (.bool off) (.int .i64 fuse)).heap.size := by rw [size4]; exact hMle
    go_upto_region 4 with fail
    obtain ⟨W2, H2⟩ := named ((((w2.setCell ⟨w.heap.size, 0, none⟩ (.slice B1 S.length e1)).setCell ⟨w.heap.size, 1, none⟩ (.slice B2 P.length e2)).setCell ⟨w.heap.size, 2, none⟩ (.bool off)).setCell ⟨w.heap.size, 3, none⟩ (.int .i64 fuse))
    have K1a : Blk W2 w.heap.size [.slice B1 S.length e1, .slice B2 P.length e2, .bool off, .int .i64 fuse] 28 := by rw [H2.out]; exact K1'
    have K2a : Blk W2 (w.heap.size + 1) [.slice none 0 0, .slice none 0 0, .bool false, .int .i64 0] 28 := by rw [H2.out]; exact K2'
    have Oa : Own2 W2 M B1 e1 B2 e2 S P := by rw [H2.out]; exact O'
    have hbwa : Below w.heap.size w W2 := by rw [H2.out]; exact hbw'
    have hMa : M ≤ W2.heap.size := by rw [H2.out]; exact hMle'
    rw [← H2.out]
    clear H2 g0 g1 g2 g3 K1 K2 O K1' K2' O' hbw' hMle' f0 f1 f2 f3 hMle hbw2 k1 k2 k1' k2' x0 x1 x2 x3 h1 h2 hv0 o1 o2
    cases off
    · have HH := hide (syncYes Hr.out)
      have y0 := K1a.cell 0
      have y1 := K1a.cell 1
      have y2 := K1a.cell 2
      have y3 := K1a.cell 3
      have r0 := K2a.cell 0
      have r1 := K2a.cell 1
      have r2 := K2a.cell 2
      have r3 := K2a.cell 3
      have z0 := K2a.free 0
      have z1 := K2a.free 1
      have z2 := K2a.free 2
      have z3 := K2a.free 3
      go_wp2_with fail
      refine (refBurnt_w B1 B2 S.length e1 P.length e2 false fuse _ hf1 hf2).mono ?_
      rintro e W4 ⟨rfl, hb4⟩
      have hbw4 := bt hbwa hb4
      have K1c := K1a.below hb4
      have K2c := K2a.below hb4
      have Oc := Oa.below hb4
      have hMc : M ≤ W4.heap.size := Nat.le_trans hMa hb4.size
      clear y0 y1 y2 y3 r0 r1 r2 r3 z0 z1 z2 z3
      by_cases hf0 : fuse = 0
      · have Hif := hide (show ((if fuse = 0 then ⟨S, P, true, 0⟩ else ⟨stl (fun _ => true) 0 P S, [], false, if 0 < fuse then fuse - 1 else fuse⟩) : Dk) = ⟨S, P, true, 0⟩ ∧ (if fuse = 0 then (15 : Int) else 0) = 15 by simp [hf0])
        rw [if_pos hf0, if_neg (show ¬ 0 < fuse by omega), show decide (fuse ≠ 0) = false by simp [hf0], hf0]
        obtain ⟨K1d, K2d, Od, hbwd⟩ := boxed K1c K2c Oc hbw4 (.slice B1 S.length e1) (.slice B2 P.length e2) (.bool true) (.int .i64 0)
        have f0 := K1c.free 0
        have f1 := K1c.free 1
        have f2 := K1c.free 2
        have f3 := K1c.free 3
        have g0 := K1c.cell 0
        have g1 := K1c.cell 1
        have g2 := K1c.cell 2
        have g3 := K1c.cell 3
        have z0 := K2c.free 0
        have z1 := K2c.free 1
        have z2 := K2c.free 2
        have z3 := K2c.free 3
        have r0 := K2c.cell 0
        have r1 := K2c.cell 1
        have r2 := K2c.cell 2
        have r3 := K2c.cell 3
        go_wp2_with fail
        refine bodyPost_ret (v := .tuple #[.agg #[.slice B1 S.length e1, .slice B2 P.length e2, .bool true, .int .i64 0], .int .i64 15]) (by simp [results, Try.results66, go_sem, r0, r1, r2, r3]) rfl ?_
        exact dkRet_of (answered Od K2d hbwd (show w.heap.size ≤ w.heap.size + 1 by omega) true 0 (by omega) (by omega) (by omega) (by omega) (.slice B1 S.length e1) (.slice B2 P.length e2) (.bool true) (.int .i64 0)) (HD.out.trans (HH.out.1.trans Hif.out.1)) (HE.out.trans (HH.out.2.trans Hif.out.2))
      · by_cases hpos : 0 < fuse
        · have Hif := hide (show ((if fuse = 0 then ⟨S, P, true, 0⟩ else ⟨stl (fun _ => true) 0 P S, [], false, if 0 < fuse then fuse - 1 else fuse⟩) : Dk) = ⟨stl (fun _ => true) 0 P S, [], false, fuse - 1⟩ ∧ (if fuse = 0 then (15 : Int) else 0) = 0 by simp [hf0, hpos])
          rw [if_neg hf0, if_pos hpos, show decide (fuse ≠ 0) = true by simp [hf0]]
          obtain ⟨K1d, K2d, Od, hbwd⟩ := boxed K1c K2c Oc hbw4 (.slice B1 S.length e1) (.slice B2 P.length e2) (.bool false) (.int .i64 (fuse - 1))
          have f0 := K1c.free 0
          have f1 := K1c.free 1
          have f2 := K1c.free 2
          have f3 := K1c.free 3
          have g0 := K1c.cell 0
          have g1 := K1c.cell 1
          have g2 := K1c.cell 2
          have g3 := K1c.cell 3
          have z0 := K2c.free 0
          have z1 := K2c.free 1
          have z2 := K2c.free 2
          have z3 := K2c.free 3
          have r0 := K2c.cell 0
          have r1 := K2c.cell 1
          have r2 := K2c.cell 2
          have r3 := K2c.cell 3
          obtain ⟨W5, H5⟩ := named ((((W4.setCell ⟨w.heap.size, 0, none⟩ (.slice B1 S.length e1)).setCell ⟨w.heap.size, 1, none⟩ (.slice B2 P.length e2)).setCell ⟨w.heap.size, 2, none⟩ (.bool false)).setCell ⟨w.heap.size, 3, none⟩ (.int .i64 (fuse - 1)))
          have K1e : Blk W5 w.heap.size [.slice B1 S.length e1, .slice B2 P.length e2, .bool false, .int .i64 (fuse - 1)] 28 := by rw [H5.out]; exact K1d
          have K2e : Blk W5 (w.heap.size + 1) [.slice none 0 0, .slice none 0 0, .bool false, .int .i64 0] 28 := by rw [H5.out]; exact K2d
          have Oe : Own2 W5 M B1 e1 B2 e2 S P := by rw [H5.out]; exact Od
          have hbwe : Below w.heap.size w W5 := by rw [H5.out]; exact hbwd
          have hMe : M ≤ W5.heap.size := by rw [H5.out]; exact Nat.le_trans hMc (Nat.le_of_eq (size4 _ _ _ _).symm)
          go_upto_region 9 with fail
          rw [← H5.out]
          clear H5 K1c K2c Oc hbw4 K1d K2d Od hbwd hMc f0 f1 f2 f3 g0 g1 g2 g3 z0 z1 z2 z3 r0 r1 r2 r3
          have y0 := K1e.cell 0
          have y1 := K1e.cell 1
          go_wp2
          clear y0 y1
          have Hfin := hide (stl_length (fun _ => true) 0 P S)
          go_loopw [27] (fun i wr => ∃ (k : Nat) (s : List ByteArray), k ≤ P.length ∧ i = .int .i64 k ∧ Rest (fun _ => true) k P S s ∧ Settles wr w w.heap.size M B1 e1 B2 e2 false ((fuse - 1)) S P s) (fun i _ => P.length - (intOf i).toNat)
          case atStart => exact ⟨0, S, by omega, rfl, Rest.start _ _ _, Settles.start K1e K2e Oe hbwe hlt hMe⟩
          case round =>
            obtain ⟨k, s, hk, rfl, hrest, hset⟩ := hrel
            by_cases hk1 : k < P.length
            · obtain ⟨b, o, j, rfl, hj, hj1, hj2, hc1, hc2⟩ := hset.loads hin hk1
              have hset1 := hset.alloc (.cells #[.int .i64 (j : Int), .string P[k].data] 66)
              obtain ⟨G, rfl, hcell, hfree, hnext⟩ := hset1.stores hrest.1 hj1 P[k].data
              have hi0 : (0 : Int) ≤ j := by omega
              have hx0 := hset1.box.cell 0
              have Hj := hide hj
              clear hj
              go_wp2
              go_roundw
              case rel => exact ⟨k + 1, _, by omega, by go_num, hrest.yes hk1 rfl, by rw [Hj.out]; exact hnext⟩
              case measure => simp [intOf]; omega
            · have hke : k = P.length := by omega
              subst hke
              have K1f := hset.box
              have K2f := hset.ans
              have f1 := K1f.free 1
              have g0 := K1f.cell 0
              have g1 := K1f.cell 1
              have g2 := K1f.cell 2
              have g3 := K1f.cell 3
              have z0 := K2f.free 0
              have z1 := K2f.free 1
              have z2 := K2f.free 2
              have z3 := K2f.free 3
              have r0 := K2f.cell 0
              have r1 := K2f.cell 1
              have r2 := K2f.cell 2
              have r3 := K2f.cell 3
              go_wp2_with fail
              refine bodyPost_ret (v := .tuple #[.agg #[.slice B1 S.length e1, .slice none 0 0, .bool false, .int .i64 (fuse - 1)], .int .i64 0]) (by simp [results, Try.results66, go_sem, r0, r1, r2, r3]) rfl ?_
              have hs2 := hrest.done
              subst hs2
              exact dkRet_of (hset.set1 hrest.1 false (fuse - 1) (by omega) (by omega) (by omega) (.slice none 0 0) (.slice B1 S.length e1) (.slice none 0 0) (.bool false) (.int .i64 (fuse - 1))) (HD.out.trans (HH.out.1.trans Hif.out.1)) (HE.out.trans (HH.out.2.trans Hif.out.2))
        · have Hif := hide (show ((if fuse = 0 then ⟨S, P, true, 0⟩ else ⟨stl (fun _ => true) 0 P S, [], false, if 0 < fuse then fuse - 1 else fuse⟩) : Dk) = ⟨stl (fun _ => true) 0 P S, [], false, fuse⟩ ∧ (if fuse = 0 then (15 : Int) else 0) = 0 by simp [hf0, hpos])
          rw [if_neg hf0, if_neg hpos, show decide (fuse ≠ 0) = true by simp [hf0]]
          obtain ⟨K1d, K2d, Od, hbwd⟩ := boxed K1c K2c Oc hbw4 (.slice B1 S.length e1) (.slice B2 P.length e2) (.bool false) (.int .i64 fuse)
          have f0 := K1c.free 0
          have f1 := K1c.free 1
          have f2 := K1c.free 2
          have f3 := K1c.free 3
          have g0 := K1c.cell 0
          have g1 := K1c.cell 1
          have g2 := K1c.cell 2
          have g3 := K1c.cell 3
          have z0 := K2c.free 0
          have z1 := K2c.free 1
          have z2 := K2c.free 2
          have z3 := K2c.free 3
          have r0 := K2c.cell 0
          have r1 := K2c.cell 1
          have r2 := K2c.cell 2
          have r3 := K2c.cell 3
          obtain ⟨W5, H5⟩ := named ((((W4.setCell ⟨w.heap.size, 0, none⟩ (.slice B1 S.length e1)).setCell ⟨w.heap.size, 1, none⟩ (.slice B2 P.length e2)).setCell ⟨w.heap.size, 2, none⟩ (.bool false)).setCell ⟨w.heap.size, 3, none⟩ (.int .i64 fuse))
          have K1e : Blk W5 w.heap.size [.slice B1 S.length e1, .slice B2 P.length e2, .bool false, .int .i64 fuse] 28 := by rw [H5.out]; exact K1d
          have K2e : Blk W5 (w.heap.size + 1) [.slice none 0 0, .slice none 0 0, .bool false, .int .i64 0] 28 := by rw [H5.out]; exact K2d
          have Oe : Own2 W5 M B1 e1 B2 e2 S P := by rw [H5.out]; exact Od
          have hbwe : Below w.heap.size w W5 := by rw [H5.out]; exact hbwd
          have hMe : M ≤ W5.heap.size := by rw [H5.out]; exact Nat.le_trans hMc (Nat.le_of_eq (size4 _ _ _ _).symm)
          go_upto_region 9 with fail
          rw [← H5.out]
          clear H5 K1c K2c Oc hbw4 K1d K2d Od hbwd hMc f0 f1 f2 f3 g0 g1 g2 g3 z0 z1 z2 z3 r0 r1 r2 r3
          have y0 := K1e.cell 0
          have y1 := K1e.cell 1
          go_wp2
          clear y0 y1
          have Hfin := hide (stl_length (fun _ => true) 0 P S)
          go_loopw [27] (fun i wr => ∃ (k : Nat) (s : List ByteArray), k ≤ P.length ∧ i = .int .i64 k ∧ Rest (fun _ => true) k P S s ∧ Settles wr w w.heap.size M B1 e1 B2 e2 false (fuse) S P s) (fun i _ => P.length - (intOf i).toNat)
          case atStart => exact ⟨0, S, by omega, rfl, Rest.start _ _ _, Settles.start K1e K2e Oe hbwe hlt hMe⟩
          case round =>
            obtain ⟨k, s, hk, rfl, hrest, hset⟩ := hrel
            by_cases hk1 : k < P.length
            · obtain ⟨b, o, j, rfl, hj, hj1, hj2, hc1, hc2⟩ := hset.loads hin hk1
              have hset1 := hset.alloc (.cells #[.int .i64 (j : Int), .string P[k].data] 66)
              obtain ⟨G, rfl, hcell, hfree, hnext⟩ := hset1.stores hrest.1 hj1 P[k].data
              have hi0 : (0 : Int) ≤ j := by omega
              have hx0 := hset1.box.cell 0
              have Hj := hide hj
              clear hj
              go_wp2
              go_roundw
              case rel => exact ⟨k + 1, _, by omega, by go_num, hrest.yes hk1 rfl, by rw [Hj.out]; exact hnext⟩
              case measure => simp [intOf]; omega
            · have hke : k = P.length := by omega
              subst hke
              have K1f := hset.box
              have K2f := hset.ans
              have f1 := K1f.free 1
              have g0 := K1f.cell 0
              have g1 := K1f.cell 1
              have g2 := K1f.cell 2
              have g3 := K1f.cell 3
              have z0 := K2f.free 0
              have z1 := K2f.free 1
              have z2 := K2f.free 2
              have z3 := K2f.free 3
              have r0 := K2f.cell 0
              have r1 := K2f.cell 1
              have r2 := K2f.cell 2
              have r3 := K2f.cell 3
              go_wp2_with fail
              refine bodyPost_ret (v := .tuple #[.agg #[.slice B1 S.length e1, .slice none 0 0, .bool false, .int .i64 fuse], .int .i64 0]) (by simp [results, Try.results66, go_sem, r0, r1, r2, r3]) rfl ?_
              have hs2 := hrest.done
              subst hs2
              exact dkRet_of (hset.set1 hrest.1 false fuse (by omega) (by omega) (by omega) (.slice none 0 0) (.slice B1 S.length e1) (.slice none 0 0) (.bool false) (.int .i64 fuse)) (HD.out.trans (HH.out.1.trans Hif.out.1)) (HE.out.trans (HH.out.2.trans Hif.out.2))
    · have HH := hide (syncOff Hr.out rfl)
      have y0 := K1a.cell 0
      have y1 := K1a.cell 1
      have y2 := K1a.cell 2
      have y3 := K1a.cell 3
      have r0 := K2a.cell 0
      have r1 := K2a.cell 1
      have r2 := K2a.cell 2
      have r3 := K2a.cell 3
      have z0 := K2a.free 0
      have z1 := K2a.free 1
      have z2 := K2a.free 2
      have z3 := K2a.free 3
      go_wp2_with fail
      refine bodyPost_ret (v := .tuple #[.agg #[.slice B1 S.length e1, .slice B2 P.length e2, .bool true, .int .i64 fuse], .int .i64 15]) (by simp [results, Try.results66, go_sem, r0, r1, r2, r3]) rfl ?_
      exact dkRet_of (answered Oa K2a hbwa (show w.heap.size ≤ w.heap.size + 1 by omega) true fuse (by omega) (by omega) hf1 hf2 (.slice B1 S.length e1) (.slice B2 P.length e2) (.bool true) (.int .i64 fuse)) (HD.out.trans HH.out.1) (HE.out.trans HH.out.2)
end Go.Proofs.Ytpfbmmeipojodaa
