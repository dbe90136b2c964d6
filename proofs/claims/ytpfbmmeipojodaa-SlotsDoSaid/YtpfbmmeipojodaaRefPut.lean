/- The document's Put. -/
import Derived.Test.YtpfbmmeipojodaaGI
import Derived.Test.YtpfbmmeipojodaaRefCheck
namespace Go.Proofs.Ytpfbmmeipojodaa
open Go.RowKit

theorem putNo {d : Dk} {n : Int} {data : ByteArray} : (right d = false → putD d n data = dk0) ∧ (right d = false → putE d n data = 13) := by
  constructor <;> intro h <;> simp [putD, putE, h]
theorem putRef {d : Dk} {n : Int} {data : ByteArray} (hr : right d = true) (ho : d.off = false) (h : refE d n data ≠ 0) : putD d n data = d ∧ putE d n data = refE d n data := by
  simp [putD, putE, workD, workE, hr, ho, h]
theorem putOff {d : Dk} {n : Int} {data : ByteArray} (hr : right d = true) (ho : d.off = true) : putD d n data = d ∧ putE d n data = 15 := by
  simp [putD, putE, workD, workE, hr, ho]
theorem putYes {S : List ByteArray} {P : List Wr} {f n : Int} {data : ByteArray} (hr : right ⟨S, P, false, f⟩ = true) (h : refE ⟨S, P, false, f⟩ n data = 0) :
    putD ⟨S, P, false, f⟩ n data = ⟨S, P ++ [⟨n, data⟩], if f = 0 then true else false, if 0 < f then f - 1 else f⟩ ∧ putE ⟨S, P, false, f⟩ n data = if f = 0 then 15 else 0 := by
  simp only [putD, putE, workD, workE, hr, h, burn]
  by_cases h0 : f = 0
  · simp [h0]
  · simp [h0]
set_option maxRecDepth 100000 in
set_option maxHeartbeats 8000000 in
theorem refPut_w (v : Value) (d : Dk) (n : Int) (data : ByteArray) (w : World) (hv : DkIs w v d) : Calls Try.prog 65 #[v, .int .i64 n, .string data] w (DkRet (putD d n data) (putE d n data) w) := by
  obtain ⟨i0, hi, hz0, hz1, hz2⟩ := info_parts Try.info66
  have hv0 := hv
  have hno := @putNo d n data
  obtain ⟨S, P, off, fuse⟩ := d
  obtain ⟨D, HD⟩ := named (putD ⟨S, P, off, fuse⟩ n data)
  obtain ⟨E, HE⟩ := named (putE ⟨S, P, off, fuse⟩ n data)
  rw [← HD.out, ← HE.out] at hno ⊢
  obtain ⟨A1, c1, A2, c2, rfl, h1, h2, hl1, hl2, hf1, hf2⟩ := hv
  simp only at h1 h2 hl1 hl2 hf1 hf2 hv0 ⊢
  obtain ⟨b0, k1, k2⟩ := two_blk w [.slice A1 S.length c1, .slice A2 P.length c2, .bool off, .int .i64 fuse] [.slice none 0 0, .slice none 0 0, .bool false, .int .i64 0] 28 28
  go_enter Try.func65, Try.ntmps65
  go_wp2_with fail
  refine (refCheck_w _ ⟨S, P, off, fuse⟩ _ (hv0.below b0)).mono ?_
  cases hr : right ⟨S, P, off, fuse⟩
  · have hE := hide (show checkE ⟨S, P, off, fuse⟩ = 13 by simp [checkE, hr])
    have HD0 := hide (hno.1 hr)
    have HE0 := hide (hno.2 hr)
    clear hr hno
    rw [hE.out]
    rintro e w1 ⟨rfl, hb⟩
    have p3 := k2.below hb
    have hbw := bt b0 hb
    have r0 := p3.cell 0
    have r1 := p3.cell 1
    have r2 := p3.cell 2
    have r3 := p3.cell 3
    have z0 := p3.free 0
    have z1 := p3.free 1
    have z2 := p3.free 2
    have z3 := p3.free 3
    go_wp2_with fail
    refine bodyPost_ret (v := .tuple #[.agg #[.slice none 0 0, .slice none 0 0, .bool false, .int .i64 0], .int .i64 13]) (by simp [results, Try.results65, go_sem, r0, r1, r2, r3]) rfl ?_
    exact dkRet_of ⟨DkIs.zero _, below4 hbw (show w.heap.size ≤ w.heap.size + 1 by omega) (.slice none 0 0) (.slice none 0 0) (.bool false) (.int .i64 0)⟩ HD0.out HE0.out
  · have hE := hide (show checkE ⟨S, P, off, fuse⟩ = 0 by simp [checkE, hr])
    have hin := right_in hr
    simp only at hin
    have hl : S.length ≤ 1024 ∧ P.length ≤ 4096 := by simp [right, sizeOk] at hr; omega
    obtain ⟨hS, hP⟩ := hl
    have Hr := hide hr
    clear hr hno
    rw [hE.out]
    rintro e w1 ⟨rfl, hb⟩
    have hbw := bt b0 hb
    have k1' := k1.below hb
    have k2' := k2.below hb
    have x0 := k1'.cell 0
    have x1 := k1'.cell 1
    have x2 := k1'.cell 2
    have x3 := k1'.cell 3
    have hlt := k2'.lt
    go_wp2_with fail
    refine (refCopy_w A1 A2 c1 c2 ⟨S, P, off, fuse⟩ _ (h1.below hbw) (h2.below hbw) (by simp only; omega) (by simp only; omega) hf1 hf2).mono ?_
    rintro e w2 ⟨v2, rfl, ⟨sv, pv, rfl, o1, o2, -, -, -, -⟩, hb2⟩
    obtain ⟨B1, e1, rfl, _⟩ := Lies.of_own o1
    obtain ⟨B2, e2, rfl, _⟩ := Lies.of_own o2
    simp only at o1 o2 ⊢
    obtain ⟨M, HM⟩ : ∃ M, M = w1.heap.size := ⟨_, rfl⟩
    rw [← HM] at o1 o2 hlt
    have hbw2 := bt hbw hb2
    have K1 := k1'.below hb2
    have K2 := k2'.below hb2
    have O : Own2 w2 M B1 e1 B2 e2 S P := ⟨o1, o2⟩
    have hMle : M ≤ w2.heap.size := HM ▸ hb2.size
    have g0 := K1.cell 0
    have g1 := K1.cell 1
    have g2 := K1.cell 2
    have g3 := K1.cell 3
    have f0 := K1.free 0
    have f1 := K1.free 1
    have f2 := K1.free 2
    have f3 := K1.free 3
    obtain ⟨K1', K2', O', hbw'⟩ := boxed K1 K2 O hbw2 (.slice B1 S.length e1) (.slice B2 P.length e2) (.bool off) (.int .i64 fuse)
    have hMle' : M ≤ (set4 w2 w.heap.size (.slice B1 S.length e1) (.slice B2 P.length e2) (.bool off) (.int .i64 fuse)).heap.size := by rw [size4]; exact hMle
    go_upto_region 4 with fail
    obtain ⟨W2, H2⟩ := named ((((w2.setCell ⟨w.heap.size, 0, none⟩ (.slice B1 S.length e1)).setCell ⟨w.heap.size, 1, none⟩ (.slice B2 P.length e2)).setCell ⟨w.heap.size, 2, none⟩ (.bool off)).setCell ⟨w.heap.size, 3, none⟩ (.int .i64 fuse))
    have K1a : Blk W2 w.heap.size [.slice B1 S.length e1, .slice B2 P.length e2, .bool off, .int .i64 fuse] 28 := by rw [H2.out]; exact K1'
    have K2a : Blk W2 (w.heap.size + 1) [.slice none 0 0, .slice none 0 0, .bool false, .int .i64 0] 28 := by rw [H2.out]; exact K2'
    have Oa : Own2 W2 M B1 e1 B2 e2 S P := by rw [H2.out]; exact O'
    have hbwa : Below w.heap.size w W2 := by rw [H2.out]; exact hbw'
    have hMa : M ≤ W2.heap.size := by rw [H2.out]; exact hMle'
    rw [← H2.out]
    clear H2 g0 g1 g2 g3 K1 K2 O K1' K2' O' hbw' hMle' f0 f1 f2 f3 hMle hbw2 k1 k2 k1' k2' x0 x1 x2 x3 h1 h2 hv0 o1 o2
    cases off
    · by_cases h0 : n < 0
      · have HH := hide (putRef Hr.out rfl (show refE ⟨S, P, false, fuse⟩ n data ≠ 0 by simp [refE, there]; omega))
        have HF := hide (show refE ⟨S, P, false, fuse⟩ n data = 1 by simp [refE, there]; omega)
        have y0 := K1a.cell 0
        have y1 := K1a.cell 1
        have y2 := K1a.cell 2
        have y3 := K1a.cell 3
        have r0 := K2a.cell 0
        have r1 := K2a.cell 1
        have r2 := K2a.cell 2
        have r3 := K2a.cell 3
        have z0 := K2a.free 0
        have z1 := K2a.free 1
        have z2 := K2a.free 2
        have z3 := K2a.free 3
        go_wp2_with fail
        refine bodyPost_ret (v := .tuple #[.agg #[.slice B1 S.length e1, .slice B2 P.length e2, .bool false, .int .i64 fuse], .int .i64 1]) (by simp [results, Try.results65, go_sem, r0, r1, r2, r3]) rfl ?_
        exact dkRet_of (answered Oa K2a hbwa (show w.heap.size ≤ w.heap.size + 1 by omega) false fuse (by omega) (by omega) hf1 hf2 (.slice B1 S.length e1) (.slice B2 P.length e2) (.bool false) (.int .i64 fuse)) (HD.out.trans HH.out.1) (HE.out.trans (HH.out.2.trans HF.out))
      · by_cases hn : n < S.length
        · have hn0 : 0 ≤ n := by omega
          by_cases hz : data.size = 64
          · by_cases hm : P.length < 4096
            · have HH := hide (putYes Hr.out (show refE ⟨S, P, false, fuse⟩ n data = 0 by simp [refE, there, hz, hn, hn0]; omega))
              have y5 := (K1a.alloc (.cells #[.int .i64 n, .string data] 66)).cell 1
              have y0 := K1a.cell 0
              have y1 := K1a.cell 1
              have y2 := K1a.cell 2
              go_upto_region 13 with (first
                | (at_builtin
                   refine wpList_append_any _ rfl (.tmp 42) (.tmp 46) _ rfl M 66 i0 _ 2 24 Try.underlying26 hi hz0 hz1 hz2 rfl (by omega) (.slice B2 P.length e2) P.length (wrs P) rfl
                     (Oa.own2.alloc _) (some ⟨W2.heap.size, 0, none⟩) 1 1 [.int .i64 n, .string data] rfl (lies_new _ _ _ rfl) (by simp [Value.oneCell']) (by simp only [maxLen]; omega) (by omega) (by simp; omega) ?_
                   intro v3 Wa own3 hg3 hat3
                   obtain ⟨B3, e3, rfl, _⟩ := Lies.of_own own3
                   obtain ⟨⟨z1, z2⟩, K1b, K2b, Ob, hbwb, hMb⟩ := pushed ⟨n, data⟩ K1a K2a Oa hbwa hlt hMa own3 hg3))
              obtain ⟨P', HP'⟩ := named (P ++ [⟨n, data⟩])
              rw [← HP'.out] at K1b Ob HH
              have Hlen := hide (show P'.length = P.length + 1 by rw [HP'.out]; simp)
              obtain ⟨W3, H3⟩ := named (Wa.setCell ⟨w.heap.size, 1, none⟩ (.slice B3 (P.length + 1) e3))
              rw [← H3.out] at K1b K2b Ob hbwb hMb ⊢
              clear H3 z1 z2 K1a K2a Oa hbwa own3 hg3 hat3 y0 y1 y2 y5
              have y0 := K1b.cell 0
              have y1 := K1b.cell 1
              have y2 := K1b.cell 2
              have y3 := K1b.cell 3
              go_wp2_with fail
              refine (refBurnt_w B1 B3 S.length e1 P'.length e3 false fuse _ hf1 hf2).mono ?_
              rintro e W4 ⟨rfl, hb4⟩
              have hbw4 := bt hbwb hb4
              have K1c := K1b.below hb4
              have K2c := K2b.below hb4
              have Oc := Ob.below hb4
              clear y0 y1 y2 y3
              by_cases hf0 : fuse = 0
              · have Hif := hide (show (⟨S, P', if fuse = 0 then true else false, if 0 < fuse then fuse - 1 else fuse⟩ : Dk) = ⟨S, P', true, 0⟩ ∧ (if fuse = 0 then (15 : Int) else 0) = 15 by simp [hf0])
                rw [if_pos hf0, if_neg (show ¬ 0 < fuse by omega), show decide (fuse ≠ 0) = false by simp [hf0], hf0]
                obtain ⟨K1d, K2d, Od, hbwd⟩ := boxed K1c K2c Oc hbw4 (.slice B1 S.length e1) (.slice B3 P'.length e3) (.bool true) (.int .i64 0)
                have f0 := K1c.free 0
                have f1 := K1c.free 1
                have f2 := K1c.free 2
                have f3 := K1c.free 3
                have g0 := K1c.cell 0
                have g1 := K1c.cell 1
                have g2 := K1c.cell 2
                have g3 := K1c.cell 3
                have z0 := K2c.free 0
                have z1 := K2c.free 1
                have z2 := K2c.free 2
                have z3 := K2c.free 3
                have r0 := K2c.cell 0
                have r1 := K2c.cell 1
                have r2 := K2c.cell 2
                have r3 := K2c.cell 3
                go_wp2_with fail
                refine bodyPost_ret (v := .tuple #[.agg #[.slice B1 S.length e1, .slice B3 P'.length e3, .bool true, .int .i64 0], .int .i64 15]) (by simp [results, Try.results65, go_sem, r0, r1, r2, r3]) rfl ?_
                exact dkRet_of (answered Od K2d hbwd (show w.heap.size ≤ w.heap.size + 1 by omega) true 0 (by omega) (by rw [Hlen.out]; omega) (by omega) (by omega) (.slice B1 S.length e1) (.slice B3 P'.length e3) (.bool true) (.int .i64 0)) (HD.out.trans (HH.out.1.trans Hif.out.1)) (HE.out.trans (HH.out.2.trans Hif.out.2))
              · by_cases hpos : 0 < fuse
                · have Hif := hide (show (⟨S, P', if fuse = 0 then true else false, if 0 < fuse then fuse - 1 else fuse⟩ : Dk) = ⟨S, P', false, fuse - 1⟩ ∧ (if fuse = 0 then (15 : Int) else 0) = 0 by simp [hf0, hpos])
                  rw [if_neg hf0, if_pos hpos, show decide (fuse ≠ 0) = true by simp [hf0]]
                  obtain ⟨K1d, K2d, Od, hbwd⟩ := boxed K1c K2c Oc hbw4 (.slice B1 S.length e1) (.slice B3 P'.length e3) (.bool false) (.int .i64 (fuse - 1))
                  have f0 := K1c.free 0
                  have f1 := K1c.free 1
                  have f2 := K1c.free 2
                  have f3 := K1c.free 3
                  have g0 := K1c.cell 0
                  have g1 := K1c.cell 1
                  have g2 := K1c.cell 2
                  have g3 := K1c.cell 3
                  have z0 := K2c.free 0
                  have z1 := K2c.free 1
                  have z2 := K2c.free 2
                  have z3 := K2c.free 3
                  have r0 := K2c.cell 0
                  have r1 := K2c.cell 1
                  have r2 := K2c.cell 2
                  have r3 := K2c.cell 3
                  go_wp2_with fail
                  refine bodyPost_ret (v := .tuple #[.agg #[.slice B1 S.length e1, .slice B3 P'.length e3, .bool false, .int .i64 (fuse - 1)], .int .i64 0]) (by simp [results, Try.results65, go_sem, r0, r1, r2, r3]) rfl ?_
                  exact dkRet_of (answered Od K2d hbwd (show w.heap.size ≤ w.heap.size + 1 by omega) false (fuse - 1) (by omega) (by rw [Hlen.out]; omega) (by omega) (by omega) (.slice B1 S.length e1) (.slice B3 P'.length e3) (.bool false) (.int .i64 (fuse - 1))) (HD.out.trans (HH.out.1.trans Hif.out.1)) (HE.out.trans (HH.out.2.trans Hif.out.2))
                · have Hif := hide (show (⟨S, P', if fuse = 0 then true else false, if 0 < fuse then fuse - 1 else fuse⟩ : Dk) = ⟨S, P', false, fuse⟩ ∧ (if fuse = 0 then (15 : Int) else 0) = 0 by simp [hf0, hpos])
                  rw [if_neg hf0, if_neg hpos, show decide (fuse ≠ 0) = true by simp [hf0]]
                  obtain ⟨K1d, K2d, Od, hbwd⟩ := boxed K1c K2c Oc hbw4 (.slice B1 S.length e1) (.slice B3 P'.length e3) (.bool false) (.int .i64 fuse)
                  have f0 := K1c.free 0
                  have f1 := K1c.free 1
                  have f2 := K1c.free 2
                  have f3 := K1c.free 3
                  have g0 := K1c.cell 0
                  have g1 := K1c.cell 1
                  have g2 := K1c.cell 2
                  have g3 := K1c.cell 3
                  have z0 := K2c.free 0
                  have z1 := K2c.free 1
                  have z2 := K2c.free 2
                  have z3 := K2c.free 3
                  have r0 := K2c.cell 0
                  have r1 := K2c.cell 1
                  have r2 := K2c.cell 2
                  have r3 := K2c.cell 3
                  go_wp2_with fail
                  refine bodyPost_ret (v := .tuple #[.agg #[.slice B1 S.length e1, .slice B3 P'.length e3, .bool false, .int .i64 fuse], .int .i64 0]) (by simp [results, Try.results65, go_sem, r0, r1, r2, r3]) rfl ?_
                  exact dkRet_of (answered Od K2d hbwd (show w.heap.size ≤ w.heap.size + 1 by omega) false fuse (by omega) (by rw [Hlen.out]; omega) (by omega) (by omega) (.slice B1 S.length e1) (.slice B3 P'.length e3) (.bool false) (.int .i64 fuse)) (HD.out.trans (HH.out.1.trans Hif.out.1)) (HE.out.trans (HH.out.2.trans Hif.out.2))
            · have hm' : P.length = 4096 := by omega
              have HH := hide (putRef Hr.out rfl (show refE ⟨S, P, false, fuse⟩ n data ≠ 0 by simp [refE, there, hz, hn, hn0]; omega))
              have HF := hide (show refE ⟨S, P, false, fuse⟩ n data = 2 by simp [refE, there, hz, hn, hn0]; omega)
              have hm2 : 4096 ≤ P.length := by omega
              clear hm' hm
              have y0 := K1a.cell 0
              have y1 := K1a.cell 1
              have y2 := K1a.cell 2
              have y3 := K1a.cell 3
              have r0 := K2a.cell 0
              have r1 := K2a.cell 1
              have r2 := K2a.cell 2
              have r3 := K2a.cell 3
              have z0 := K2a.free 0
              have z1 := K2a.free 1
              have z2 := K2a.free 2
              have z3 := K2a.free 3
              go_wp2_with fail
              refine bodyPost_ret (v := .tuple #[.agg #[.slice B1 S.length e1, .slice B2 P.length e2, .bool false, .int .i64 fuse], .int .i64 2]) (by simp [results, Try.results65, go_sem, r0, r1, r2, r3]) rfl ?_
              exact dkRet_of (answered Oa K2a hbwa (show w.heap.size ≤ w.heap.size + 1 by omega) false fuse (by omega) (by omega) hf1 hf2 (.slice B1 S.length e1) (.slice B2 P.length e2) (.bool false) (.int .i64 fuse)) (HD.out.trans HH.out.1) (HE.out.trans (HH.out.2.trans HF.out))
          · have HH := hide (putRef Hr.out rfl (show refE ⟨S, P, false, fuse⟩ n data ≠ 0 by simp [refE, there, hz, hn, hn0]))
            have HF := hide (show refE ⟨S, P, false, fuse⟩ n data = 3 by simp [refE, there, hz, hn, hn0])
            have hz' : ((data.size : Int) != 64) = true := by simp; omega
            have y0 := K1a.cell 0
            have y1 := K1a.cell 1
            have y2 := K1a.cell 2
            have y3 := K1a.cell 3
            have r0 := K2a.cell 0
            have r1 := K2a.cell 1
            have r2 := K2a.cell 2
            have r3 := K2a.cell 3
            have z0 := K2a.free 0
            have z1 := K2a.free 1
            have z2 := K2a.free 2
            have z3 := K2a.free 3
            go_wp2_with fail
            refine bodyPost_ret (v := .tuple #[.agg #[.slice B1 S.length e1, .slice B2 P.length e2, .bool false, .int .i64 fuse], .int .i64 3]) (by simp [results, Try.results65, go_sem, r0, r1, r2, r3]) rfl ?_
            exact dkRet_of (answered Oa K2a hbwa (show w.heap.size ≤ w.heap.size + 1 by omega) false fuse (by omega) (by omega) hf1 hf2 (.slice B1 S.length e1) (.slice B2 P.length e2) (.bool false) (.int .i64 fuse)) (HD.out.trans HH.out.1) (HE.out.trans (HH.out.2.trans HF.out))
        · have hn' : (S.length : Int) ≤ n := by omega
          have hn0 : 0 ≤ n := by omega
          have HH := hide (putRef Hr.out rfl (show refE ⟨S, P, false, fuse⟩ n data ≠ 0 by simp [refE, there]; omega))
          have HF := hide (show refE ⟨S, P, false, fuse⟩ n data = 1 by simp [refE, there]; omega)
          have y0 := K1a.cell 0
          have y1 := K1a.cell 1
          have y2 := K1a.cell 2
          have y3 := K1a.cell 3
          have r0 := K2a.cell 0
          have r1 := K2a.cell 1
          have r2 := K2a.cell 2
          have r3 := K2a.cell 3
          have z0 := K2a.free 0
          have z1 := K2a.free 1
          have z2 := K2a.free 2
          have z3 := K2a.free 3
          go_wp2_with fail
          refine bodyPost_ret (v := .tuple #[.agg #[.slice B1 S.length e1, .slice B2 P.length e2, .bool false, .int .i64 fuse], .int .i64 1]) (by simp [results, Try.results65, go_sem, r0, r1, r2, r3]) rfl ?_
          exact dkRet_of (answered Oa K2a hbwa (show w.heap.size ≤ w.heap.size + 1 by omega) false fuse (by omega) (by omega) hf1 hf2 (.slice B1 S.length e1) (.slice B2 P.length e2) (.bool false) (.int .i64 fuse)) (HD.out.trans HH.out.1) (HE.out.trans (HH.out.2.trans HF.out))
    · have HH := hide (putOff (n := n) (data := data) Hr.out rfl)
      have y0 := K1a.cell 0
      have y1 := K1a.cell 1
      have y2 := K1a.cell 2
      have y3 := K1a.cell 3
      have r0 := K2a.cell 0
      have r1 := K2a.cell 1
      have r2 := K2a.cell 2
      have r3 := K2a.cell 3
      have z0 := K2a.free 0
      have z1 := K2a.free 1
      have z2 := K2a.free 2
      have z3 := K2a.free 3
      go_wp2_with fail
      refine bodyPost_ret (v := .tuple #[.agg #[.slice B1 S.length e1, .slice B2 P.length e2, .bool true, .int .i64 fuse], .int .i64 15]) (by simp [results, Try.results65, go_sem, r0, r1, r2, r3]) rfl ?_
      exact dkRet_of (answered Oa K2a hbwa (show w.heap.size ≤ w.heap.size + 1 by omega) true fuse (by omega) (by omega) hf1 hf2 (.slice B1 S.length e1) (.slice B2 P.length e2) (.bool true) (.int .i64 fuse)) (HD.out.trans HH.out.1) (HE.out.trans HH.out.2)
end Go.Proofs.Ytpfbmmeipojodaa
