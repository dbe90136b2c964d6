/- The walk of SlotsOne. -/
import Derived.Test.YtpfbmmeipojodaaSlW4
import Derived.Test.YtpfbmmeipojodaaGL
namespace Go.Proofs.Ytpfbmmeipojodaa
set_option linter.unusedSimpArgs false
set_option linter.unusedVariables false
open Go.RowKit Go.Shelf
open Crc
set_option maxRecDepth 100000 in
set_option maxHeartbeats 1000000 in
theorem slotsone_w (size : Int) (A : Option Addr) (ca : Nat) (l : List ByteArray) (last : ByteArray) (fuse : Int) (Ak : Option Addr) (ck : Nat) (keep : List Bool) (w : World) (hsz : -9223372036854775808 ≤ size ∧ size ≤ 9223372036854775807) (hl : Texts w A l) (hll : l.length ≤ 140737488351232) (hls : last.size ≤ 140737488351232) (hfs : -9223372036854775808 ≤ fuse ∧ fuse ≤ 9223372036854775807) (hk : Bools w Ak keep) :
    Calls Try.prog 8 #[.int .i64 size, .slice A l.length ca, .string last, .int .i64 fuse, .slice Ak keep.length ck] w fun e w' => e = .returned (.bool true) ∧ Below w.heap.size w w' := by
  have hsd := fun W hW => saved_w size A ca l W hsz hW hll
  have HSD := hide hsd
  clear hsd
  go_enter Try.func8, Try.ntmps8
  go_wp2_with fail
  refine (lives5_w _).mono ?_
  rintro e w1 ⟨rfl, hb1⟩
  have hl1 : Texts w1 A l := hl.below hb1
  go_wp2_with fail
  refine (HSD.out _ hl1).mono ?_
  rintro e w2 ⟨⟨D0, x, j, S, ok, A1, c1, B1, e1, rfl, g1, g2, g3, g4, g5, g6, hok⟩, hb2⟩
  obtain ⟨V, HV, ka, kb, Bd, km, hb, hz⟩ := four_in w2 ⟨A1, c1, B1, e1, rfl, g1, g2, g3, g4, g5, g6⟩ size (x : Int) S
  have hN : w.heap.size ≤ w2.heap.size := by have := hb1.size; have := hb2.size; omega
  replace hb := bt (bt hb1 hb2) hb
  clear HSD hb1 hb2 hl1 g1 g2 g3 g4 g5 g6 hl
  have HOK := hide hok
  clear hok
  cases ok with
  | false =>
    clear HOK km ka kb Bd hk
    go_upto_region 4 with fail
    rw [← HV.out]
    clear HV
    go_wp2
    go_ret
    exact ⟨by simp, hb⟩
  | true =>
  obtain ⟨n, rfl, hL, hxl, h100, hfu⟩ := HOK.out rfl
  have hn := hL.size1
  clear HOK hfu
  obtain ⟨q, HQ⟩ := named (x + 1)
  have hsq : (x : Int) + 1 = (q : Int) := by rw [HQ.out]; omega
  have hwq : IntKind.u64.wrap (q : Int) = (q : Int) := wrap_u64_nat _ (by rw [HQ.out]; omega)
  have xm := km.cell
  have kf := Blk.new V [.int .u64 (q : Int), .string last] 36
  rw [hz] at kf
  replace ka := ka.alloc (.cells #[.int .u64 (q : Int), .string last] 36)
  replace kb := kb.alloc (.cells #[.int .u64 (q : Int), .string last] 36)
  replace Bd := Bd.alloc (.cells #[.int .u64 (q : Int), .string last] 36)
  replace km := km.alloc (.cells #[.int .u64 (q : Int), .string last] 36)
  replace hb := bt hb (below_alloc V (.cells #[.int .u64 (q : Int), .string last] 36))
  go_upto_region 4 with fail
  rw [← HV.out]
  go_upto_region 7 with fail
  obtain ⟨V1, HV1⟩ := named (V.alloc (.cells #[.int .u64 (q : Int), .string last] 36))
  obtain ⟨N, HN⟩ := named w2.heap.size
  rw [← HV1.out] at ka kb Bd km kf hb ⊢
  rw [← HN.out] at ka kb Bd km kf hN ⊢
  clear HV HV1 HN hz xm hsq hwq
  have Bz := Bd.setFuse fuse hfs.1 hfs.2
  have kaz := ka.far (p := ⟨(N + 1 + 1), 3, none⟩) (by show N ≠ (N + 1 + 1); omega) (.int .i64 fuse)
  have kbz := kb.far (p := ⟨(N + 1 + 1), 3, none⟩) (by show (N + 1) ≠ (N + 1 + 1); omega) (.int .i64 fuse)
  have kmz := km.far (p := ⟨(N + 1 + 1), 3, none⟩) (by show (N + 1 + 1 + 1) ≠ (N + 1 + 1); omega) (.int .i64 fuse)
  have kfz := kf.far (p := ⟨(N + 1 + 1), 3, none⟩) (by show (N + 1 + 1 + 1 + 1) ≠ (N + 1 + 1); omega) (.int .i64 fuse)
  have hbz := hb.setCell (p := ⟨(N + 1 + 1), 3, none⟩) (by show w.heap.size ≤ (N + 1 + 1); omega) (.int .i64 fuse)
  have xd := Bd.blk.cell
  have fd := Bd.blk.free
  go_upto_region 8 with fail
  have hL4 := hL.fuse fuse
  obtain ⟨D4, HD4⟩ := named (⟨D0.secs, D0.pend, D0.off, fuse⟩ : Dk)
  obtain ⟨V2, HV2⟩ := named (V1.setCell ⟨(N + 1 + 1), 3, none⟩ (.int .i64 fuse))
  rw [← HV2.out] at Bz kaz kbz kmz kfz hbz ⊢
  rw [← HD4.out] at Bz
  have hL4' : SlOn D4 n ⟨x, S.data.toList⟩ j := by rw [HD4.out]; exact hL4
  clear HV2 HD4 hL4 hL xd fd Bd ka kb km kf hb
  have hst := hL4'.step (x := ⟨q, last.data.toList⟩) keep (by show x < q; rw [HQ.out]; omega) (by show q < 18446744073709551616; rw [HQ.out]; omega)
  have hsv := fun W v hv => slSave_w D4 (n := n) (by omega) q last W v hv
  have hz0 := fun h => hL4'.zero h
  obtain ⟨D5, HD5⟩ := named (saveR D4 0 n n n ⟨q, last.data.toList⟩).1
  obtain ⟨E5, HE5⟩ := named (saveR D4 0 n n n ⟨q, last.data.toList⟩).2
  rw [← HD5.out, ← HE5.out] at hst
  simp only [← HD5.out, ← HE5.out] at hsv
  have HST := hide hst
  have HZ := hide hz0
  clear HD5 HE5 hst hL4' hz0
  have xd := Bz.blk.cell
  have xa := kaz.cell
  have xb := kbz.cell
  have xf := kfz.cell
  go_wp2_with fail
  clear xd xa xb xf
  refine (hsv _ _ Bz.is).mono ?_
  rintro e w5 ⟨v5, rfl, ⟨A5, c5, B5, e5, rfl, g1, g2, g3, g4, g5, g6⟩, hb5⟩
  have Be := Box.new w5 ⟨A5, c5, B5, e5, rfl, g1, g2, g3, g4, g5, g6⟩
  have hEF : (N + 1 + 1 + 1 + 1) < w5.heap.size := by have h1 := hb5.size; have h2 := kfz.lt; omega
  replace Bz := (Bz.below hb5).alloc (.cells #[.slice A5 D5.secs.length c5, .slice B5 D5.pend.length e5, .bool D5.off, .int .i64 D5.fuse] 28)
  replace kaz := (kaz.below hb5).alloc (.cells #[.slice A5 D5.secs.length c5, .slice B5 D5.pend.length e5, .bool D5.off, .int .i64 D5.fuse] 28)
  replace kbz := (kbz.below hb5).alloc (.cells #[.slice A5 D5.secs.length c5, .slice B5 D5.pend.length e5, .bool D5.off, .int .i64 D5.fuse] 28)
  replace kmz := (kmz.below hb5).alloc (.cells #[.slice A5 D5.secs.length c5, .slice B5 D5.pend.length e5, .bool D5.off, .int .i64 D5.fuse] 28)
  replace kfz := (kfz.below hb5).alloc (.cells #[.slice A5 D5.secs.length c5, .slice B5 D5.pend.length e5, .bool D5.off, .int .i64 D5.fuse] 28)
  replace hbz := bt (bt hbz hb5) (below_alloc w5 (.cells #[.slice A5 D5.secs.length c5, .slice B5 D5.pend.length e5, .bool D5.off, .int .i64 D5.fuse] 28))
  clear hsv hb5 g1 g2 g3 g4 g5 g6
  go_upto_region 9 with fail
  obtain ⟨E, HEb⟩ := named w5.heap.size
  obtain ⟨W5, HW5⟩ := named (w5.alloc (.cells #[.slice A5 D5.secs.length c5, .slice B5 D5.pend.length e5, .bool D5.off, .int .i64 D5.fuse] 28))
  rw [← HEb.out] at Be hEF ⊢
  rw [← HW5.out] at Bz Be kaz kbz kmz kfz hbz ⊢
  clear HEb HW5
  rcases HST.out with ⟨hE, hL5, hC, _⟩ | ⟨hE, _, hr5, hC⟩ | ⟨hE, hD⟩
  · subst hE
    have hr5 := hL5.rt
    clear hL5
    have he6 : checkE D5 = 0 := by simp [checkE, hr5]
    have hcr := fun W (B : Box W E A5 c5 B5 e5 D5) (hbW : Below w.heap.size w W) => crash_w _ Ak ck D5 keep W B.is (Lies.below hk hbW)
    obtain ⟨D6, HD6⟩ := named (crashD D5 keep)
    rw [← HD6.out] at hC
    simp only [← HD6.out, he6] at hcr
    have HC := hide hC
    clear HD6 hC he6 HST
    have xe := Be.blk.cell
    go_wp2_with fail
    clear xe
    refine (hcr _ Be hbz).mono ?_
    rintro e w6 ⟨v6, rfl, ⟨A6, c6, B6, e6, rfl, g1, g2, g3, g4, g5, g6⟩, hb6⟩
    have By := Be.below hb6
    have Bq := Box.set (d' := D6) (e1 := c6) (e2 := e6) By g1 g2 g3 g4 g5 g6
    have kaq := (kaz.below hb6).far4 (by omega : N ≠ E) (.slice A6 D6.secs.length c6) (.slice B6 D6.pend.length e6) (.bool D6.off) (.int .i64 D6.fuse)
    have kbq := (kbz.below hb6).far4 (by omega : (N + 1) ≠ E) (.slice A6 D6.secs.length c6) (.slice B6 D6.pend.length e6) (.bool D6.off) (.int .i64 D6.fuse)
    have kmq := (kmz.below hb6).far4 (by omega : (N + 1 + 1 + 1) ≠ E) (.slice A6 D6.secs.length c6) (.slice B6 D6.pend.length e6) (.bool D6.off) (.int .i64 D6.fuse)
    have kfq := (kfz.below hb6).far4 (by omega : (N + 1 + 1 + 1 + 1) ≠ E) (.slice A6 D6.secs.length c6) (.slice B6 D6.pend.length e6) (.bool D6.off) (.int .i64 D6.fuse)
    have hbq := below4 (bt hbz hb6) (by omega : w.heap.size ≤ E) (.slice A6 D6.secs.length c6) (.slice B6 D6.pend.length e6) (.bool D6.off) (.int .i64 D6.fuse)
    have xe := By.blk.cell
    have fe := By.blk.free
    clear hcr g1 g2 g3 g4 g5 g6 Be Bz kaz kbz kmz kfz hbz hk
    go_upto_region 12 with fail
    obtain ⟨W7, HW7⟩ := named (set4 w6 E (.slice A6 D6.secs.length c6) (.slice B6 D6.pend.length e6) (.bool D6.off) (.int .i64 D6.fuse))
    rw [← HW7.out] at Bq kaq kbq kmq kfq hbq
    rw [show ((((w6.setCell ⟨E, 0, none⟩ (.slice A6 D6.secs.length c6)).setCell ⟨E, 1, none⟩ (.slice B6 D6.pend.length e6)).setCell ⟨E, 2, none⟩ (.bool D6.off)).setCell ⟨E, 3, none⟩ (.int .i64 D6.fuse)) = W7 from HW7.out.symm]
    clear HW7 By xe fe hb6
    have hL6 := HC.out
    obtain ⟨J, E7, hJE, hld⟩ := slLoad_w hL6
    obtain ⟨_, rfl, rfl⟩ : 1 ≤ q ∧ E7 = 0 ∧ J = 1 - j := by
      rcases hJE with ⟨h, _⟩ | h
      · rw [HQ.out] at h; omega
      · exact h
    clear hJE HC hL6 HZ
    have xe := Bq.blk.cell
    have xa := kaq.cell
    have xb := kbq.cell
    go_wp2_with fail
    clear xe xa xb
    refine (hld _ _ Bq.is).mono ?_
    rintro e w8 ⟨rfl, hb8⟩
    have kx := Blk.new w8 [.int .u64 (q : Int), .string last] 36
    replace kmq := (kmq.below hb8).alloc (.cells #[.int .u64 (q : Int), .string last] 36)
    replace kfq := (kfq.below hb8).alloc (.cells #[.int .u64 (q : Int), .string last] 36)
    replace hbq := bt (bt hbq hb8) (below_alloc w8 (.cells #[.int .u64 (q : Int), .string last] 36))
    have xx := kx.cell
    have xf := kfq.cell
    have xm := kmq.cell
    clear hld hb8 Bq kaq kbq
    go_wp2
    go_ret
    exact ⟨by simp, hbq⟩
  · subst hE
    have he6 : checkE D5 = 0 := by simp [checkE, hr5]
    have hcr := fun W (B : Box W E A5 c5 B5 e5 D5) (hbW : Below w.heap.size w W) => crash_w _ Ak ck D5 keep W B.is (Lies.below hk hbW)
    obtain ⟨D6, HD6⟩ := named (crashD D5 keep)
    rw [← HD6.out] at hC
    simp only [← HD6.out, he6] at hcr
    have HC := hide hC
    clear HD6 hC he6 HST
    have xe := Be.blk.cell
    go_wp2_with fail
    clear xe
    refine (hcr _ Be hbz).mono ?_
    rintro e w6 ⟨v6, rfl, ⟨A6, c6, B6, e6, rfl, g1, g2, g3, g4, g5, g6⟩, hb6⟩
    have By := Be.below hb6
    have Bq := Box.set (d' := D6) (e1 := c6) (e2 := e6) By g1 g2 g3 g4 g5 g6
    have kaq := (kaz.below hb6).far4 (by omega : N ≠ E) (.slice A6 D6.secs.length c6) (.slice B6 D6.pend.length e6) (.bool D6.off) (.int .i64 D6.fuse)
    have kbq := (kbz.below hb6).far4 (by omega : (N + 1) ≠ E) (.slice A6 D6.secs.length c6) (.slice B6 D6.pend.length e6) (.bool D6.off) (.int .i64 D6.fuse)
    have kmq := (kmz.below hb6).far4 (by omega : (N + 1 + 1 + 1) ≠ E) (.slice A6 D6.secs.length c6) (.slice B6 D6.pend.length e6) (.bool D6.off) (.int .i64 D6.fuse)
    have kfq := (kfz.below hb6).far4 (by omega : (N + 1 + 1 + 1 + 1) ≠ E) (.slice A6 D6.secs.length c6) (.slice B6 D6.pend.length e6) (.bool D6.off) (.int .i64 D6.fuse)
    have hbq := below4 (bt hbz hb6) (by omega : w.heap.size ≤ E) (.slice A6 D6.secs.length c6) (.slice B6 D6.pend.length e6) (.bool D6.off) (.int .i64 D6.fuse)
    have xe := By.blk.cell
    have fe := By.blk.free
    clear hcr g1 g2 g3 g4 g5 g6 Be Bz kaz kbz kmz kfz hbz hk
    go_upto_region 12 with fail
    obtain ⟨W7, HW7⟩ := named (set4 w6 E (.slice A6 D6.secs.length c6) (.slice B6 D6.pend.length e6) (.bool D6.off) (.int .i64 D6.fuse))
    rw [← HW7.out] at Bq kaq kbq kmq kfq hbq
    rw [show ((((w6.setCell ⟨E, 0, none⟩ (.slice A6 D6.secs.length c6)).setCell ⟨E, 1, none⟩ (.slice B6 D6.pend.length e6)).setCell ⟨E, 2, none⟩ (.bool D6.off)).setCell ⟨E, 3, none⟩ (.int .i64 D6.fuse)) = W7 from HW7.out.symm]
    clear HW7 By xe fe hb6
    rcases HC.out with hL6 | hL6
    · obtain ⟨J, E7, hJE, hld⟩ := slLoad_w hL6
      have HJ := hide hJE
      clear hJE HC hL6
      have xe := Bq.blk.cell
      have xa := kaq.cell
      have xb := kbq.cell
      go_wp2_with fail
      clear xe xa xb
      refine (hld _ _ Bq.is).mono ?_
      rintro e w8 ⟨rfl, hb8⟩
      have kx := Blk.new w8 [.int .u64 (x : Int), .string S] 36
      replace kmq := (kmq.below hb8).alloc (.cells #[.int .u64 (x : Int), .string S] 36)
      replace kfq := (kfq.below hb8).alloc (.cells #[.int .u64 (x : Int), .string S] 36)
      replace hbq := bt (bt hbq hb8) (below_alloc w8 (.cells #[.int .u64 (x : Int), .string S] 36))
      have xx := kx.cell
      have xf := kfq.cell
      have xm := kmq.cell
      clear hld hb8 Bq kaq kbq
      have hxq : x ≠ q := by rw [HQ.out]; omega
      have tq1 : ((x : Int) == (q : Int)) = false := by simp; omega
      have tq2 : decide ((x : Int) = (q : Int)) = false := by simp; omega
      rcases HJ.out with ⟨h0, rfl⟩ | ⟨h0, rfl, _⟩
      · have hz := (HZ.out h0).1
        have tS : S = ⟨#[]⟩ := by
          have h2 : S.data.toList = [] := congrArg Img.pay hz
          cases S with
          | mk a => simp only [Array.toList_eq_nil_iff] at h2; rw [h2]
        have tx : ((x : Int) == 0) = true := by simp [h0]
        have ts : S.toList = [] := by rw [tS]; first | rfl | decide | simp
        have ts2 : (S.toList == []) = true := by rw [ts]; rfl
        clear hz tS HZ HJ hxq h0 tq1 tq2 xx xf
        go_wp2
        go_ret
        exact ⟨by simp, hbq⟩
      · have tx : (0 : Int) < (x : Int) := by omega
        clear HZ HJ hxq h0
        go_wp2
        go_ret
        exact ⟨by first | (simp; omega) | simp, hbq⟩
    · obtain ⟨J, E7, hJE, hld⟩ := slLoad_w hL6
      obtain ⟨_, rfl, rfl⟩ : 1 ≤ q ∧ E7 = 0 ∧ J = 1 - j := by
        rcases hJE with ⟨h, _⟩ | h
        · rw [HQ.out] at h; omega
        · exact h
      clear hJE HC hL6 HZ
      have xe := Bq.blk.cell
      have xa := kaq.cell
      have xb := kbq.cell
      go_wp2_with fail
      clear xe xa xb
      refine (hld _ _ Bq.is).mono ?_
      rintro e w8 ⟨rfl, hb8⟩
      have kx := Blk.new w8 [.int .u64 (q : Int), .string last] 36
      replace kmq := (kmq.below hb8).alloc (.cells #[.int .u64 (q : Int), .string last] 36)
      replace kfq := (kfq.below hb8).alloc (.cells #[.int .u64 (q : Int), .string last] 36)
      replace hbq := bt (bt hbq hb8) (below_alloc w8 (.cells #[.int .u64 (q : Int), .string last] 36))
      have xx := kx.cell
      have xf := kfq.cell
      have xm := kmq.cell
      clear hld hb8 Bq kaq kbq
      go_wp2
      go_ret
      exact ⟨by simp, hbq⟩
  · subst hD
    have xd := Bz.blk.cell
    have xe := Be.blk.cell
    rcases hE with rfl | rfl
    · clear HST
      go_wp2_with fail
      refine (refSame_w _ _ D5 _ Bz.is Be.is).mono ?_
      rintro e w6 ⟨rfl, hb6⟩
      have hbb := bt hbz hb6
      clear xd xe hb6
      go_wp2
      go_ret
      exact ⟨by simp, hbb⟩
    · clear HST
      go_wp2_with fail
      refine (refSame_w _ _ D5 _ Bz.is Be.is).mono ?_
      rintro e w6 ⟨rfl, hb6⟩
      have hbb := bt hbz hb6
      clear xd xe hb6
      go_wp2
      go_ret
      exact ⟨by simp, hbb⟩
end Go.Proofs.Ytpfbmmeipojodaa
