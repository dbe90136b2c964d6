/- Several small texts of this proof, one behind the other. -/
import Derived.Test.YtmnfmgoolimlmaaDoorGS
section
/- slices.symMergeCmpFunc at rows of values: the way in between. -/
namespace Go.Proofs.YtmnfmgoolimlmaaDoor
set_option linter.unusedSimpArgs false
set_option linter.unusedVariables false
open Go.RowKit
set_option maxRecDepth 100000 in
set_option maxHeartbeats 2000000 in
theorem sym_more (g n cap a m b mid : Nat) (hn : n ≤ 1466015503701) (ham : a < m) (hmb : m < b) (hbn : b ≤ n) (h1 : m ≠ a + 1) (h2 : b ≠ m + 1) (hmid : mid = (a + b) / 2)
    (ih1 : ∀ s, a < s → s < mid → SymC g n cap a s mid) (ih2 : ∀ s, mid < s → s < b → SymC g n cap mid s b) : SymC g n cap a m b := by
  intro w hR
  have eg : ∀ args w, (callFunc 34 args).run Tryd.prog w = .ok (.enter 34 args) w := fun _ _ => by kernel_rfl
  have HR := hide hR
  have IH1 := hide ih1
  have IH2 := hide ih2
  clear hR ih1 ih2
  obtain ⟨d1, hd1⟩ := named (m - a)
  have hd8 : (m : Int) - (a : Int) = (d1 : Int) := by rw [hd1.out]; omega
  have hwd : IntKind.i64.wrap (d1 : Int) = (d1 : Int) := by rw [IntKind.wrap_i64]; omega
  have hb1 : ((d1 : Int) == 1) = false := by rw [beq_eq_false_iff_ne]; rw [hd1.out]; omega
  obtain ⟨d2, hd2⟩ := named (b - m)
  have hd9 : (b : Int) - (m : Int) = (d2 : Int) := by rw [hd2.out]; omega
  have hwd2 : IntKind.i64.wrap (d2 : Int) = (d2 : Int) := by rw [IntKind.wrap_i64]; omega
  have hb2 : ((d2 : Int) == 1) = false := by rw [beq_eq_false_iff_ne]; rw [hd2.out]; omega
  have hhh : ((a : Int) + (b : Int)) / 2 = (mid : Int) := by rw [hmid]; omega
  have hwab : IntKind.i64.wrap ((a : Int) + (b : Int)) = (a : Int) + (b : Int) := by rw [IntKind.wrap_i64]; omega
  have hma : 2 * mid ≤ a + b := by rw [hmid]; omega
  have hmb' : a + b ≤ 2 * mid + 1 := by rw [hmid]; omega
  obtain ⟨Z, hZ⟩ := named (mid + m)
  have hz8 : (mid : Int) + (m : Int) = (Z : Int) := by rw [hZ.out]; omega
  have hwz : IntKind.i64.wrap (Z : Int) = (Z : Int) := by rw [IntKind.wrap_i64]; have := hZ.out; omega
  have hzz : Z = mid + m := hZ.out
  have HZZ := hide hzz
  have HMA := hide hma
  have HMB := hide hmb'
  clear hd1 hd2 h1 h2 hmid hZ hzz hma hmb'
  go_enter Tryd.func76, Tryd.ntmps76
  go_upto_if 140 with (first | (at_builtin; fail))
  clear hd8 hwd hb1 hd9 hwd2 hb2 hhh hwab
  go_cut [20, 21] (fun s t wx => ∃ i j : Nat, s = .int .i64 i ∧ t = .int .i64 j ∧ a ≤ i ∧ i ≤ j ∧ j ≤ b ∧ j ≤ Z ∧ Z ≤ b + i ∧ RowsAt wx g n ∧ w.grownBy wx (some g))
  case first =>
    have hzz := HZZ.out
    have hma := HMA.out
    have hmb' := HMB.out
    by_cases hgt : mid < m
    · have hgt' : (mid : Int) < (m : Int) := by omega
      obtain ⟨s0, hs0⟩ := named (Z - b)
      have hs8 : (Z : Int) - (b : Int) = (s0 : Int) := by rw [hs0.out]; omega
      have hws : IntKind.i64.wrap (s0 : Int) = (s0 : Int) := by rw [IntKind.wrap_i64]; have := hs0.out; omega
      have hss : s0 + b = Z := by rw [hs0.out]; omega
      have HSS := hide hss
      clear hs0 hss hzz hma hmb'
      go_wp2_with (first | (at_builtin; fail))
      go_meet
      case rel => exact ⟨s0, mid, rfl, rfl, by have := HSS.out; have := HZZ.out; have := HMA.out; have := HMB.out; omega, by have := HSS.out; have := HZZ.out; have := HMA.out; have := HMB.out; omega, by have := HSS.out; have := HZZ.out; have := HMA.out; have := HMB.out; omega, by have := HSS.out; have := HZZ.out; have := HMA.out; have := HMB.out; omega, by have := HSS.out; have := HZZ.out; have := HMA.out; have := HMB.out; omega, HR.out, World.grownBy.refl _ _⟩
    · have hgt' : ¬ (mid : Int) < (m : Int) := by omega
      clear hzz hma hmb'
      go_wp2_with (first | (at_builtin; fail))
      go_meet
      case rel => exact ⟨a, m, rfl, rfl, by omega, by omega, by omega, by have := HZZ.out; omega, by have := HZZ.out; have := HMA.out; omega, HR.out, World.grownBy.refl _ _⟩
  case rest =>
    obtain ⟨i0, j0, rfl, rfl, k1, k2, k3, k4, k5, hRA0, hgw0⟩ := hcut
    have HRA := hide hRA0
    have HGW := hide hgw0
    clear hRA0 hgw0 HR
    obtain ⟨z1, hz1⟩ := named (Z - 1)
    have hz9 : (Z : Int) - 1 = (z1 : Int) := by rw [hz1.out]; have := HZZ.out; omega
    have hwz1 : IntKind.i64.wrap (z1 : Int) = (z1 : Int) := by rw [IntKind.wrap_i64]; have := hz1.out; have := HZZ.out; omega
    have hzz1 : z1 + 1 = Z := by rw [hz1.out]; have := HZZ.out; omega
    have HZ1 := hide hzz1
    clear hz1 hzz1
    rename World => wo
    go_wp2_with (first | (at_builtin; fail))
    go_loopw [20, 21] (fun s t wr => ∃ i j : Nat, s = .int .i64 i ∧ t = .int .i64 j ∧ i0 ≤ i ∧ i ≤ j ∧ j ≤ j0 ∧ RowsAt wr g n ∧ w.grownBy wr (some g)) (fun s t _ => (intOf t).toNat - (intOf s).toNat)
    case atStart => exact ⟨i0, j0, rfl, rfl, by omega, by omega, by omega, HRA.out, HGW.out⟩
    case round =>
      clear HRA HGW
      obtain ⟨i, j, rfl, rfl, hmi, hij, hjb, hRA, hgw⟩ := hrel
      by_cases hlt : i < j
      · have hi1 : (i : Int) < (j : Int) := by omega
        obtain ⟨q, hq⟩ := named ((i + j) / 2)
        have hhh : (((i : Nat) : Int) + ((j : Nat) : Int)) / 2 = (q : Int) := by rw [hq.out]; omega
        have hh1 : i ≤ q := by rw [hq.out]; omega
        have hh2 : q < j := by rw [hq.out]; omega
        have hwij : IntKind.i64.wrap (((i : Nat) : Int) + ((j : Nat) : Int)) = ((i : Nat) : Int) + ((j : Nat) : Int) := by rw [IntKind.wrap_i64]; omega
        clear hq
        obtain ⟨p, hpp⟩ := named (z1 - q)
        have hzz := HZZ.out
        have hz1 := HZ1.out
        have hp8 : (z1 : Int) - (q : Int) = (p : Int) := by rw [hpp.out]; omega
        have hp9 : p < n := by rw [hpp.out]; omega
        have hq9 : q < n := by omega
        clear hpp
        obtain ⟨x, rp, hcp, hvp, hthp⟩ := hRA p hp9
        obtain ⟨y, rq, hcq, hvq, hthq⟩ := hRA q hq9
        have h7p := vAt_len hvp
        have h7q := vAt_len hvq
        have h1p := vAt_one hvp
        have h1q := vAt_one hvq
        have hp0 : (0 : Int) ≤ (p : Int) := by omega
        have hq0 : (0 : Int) ≤ (q : Int) := by omega
        have hpn : (p : Int) < (n : Int) := by omega
        have hqn : (q : Int) < (n : Int) := by omega
        have hwp : IntKind.i64.wrap (p : Int) = (p : Int) := by rw [IntKind.wrap_i64]; omega
        have hwq : IntKind.i64.wrap (q : Int) = (q : Int) := by rw [IntKind.wrap_i64]; omega
        clear hzz hz1
        go_upto_region 35 with (go_quiet (fail))
        refine region_auto (fun _ _ u => Below wr.heap.size wr u) (fun _ _ _ => True) _ (by kernel_rfl) (by kernel_rfl) (fun v => by simp only [putsV, Act.put, List.toList_toArray, List.setIfInBounds_toArray, List.set_cons_zero, List.set_cons_succ, Nat.reduceAdd, Nat.zero_add]; rfl) (Below.refl _ _).drew (fun _ _ _ _ _ h => h) ?_
        refine flatE_fix [] _ (fun L hL hcl v u hS hd K' hK => by
            simp only [Act.put, List.setIfInBounds_toArray, List.set_cons_zero, List.set_cons_succ] at hK
            go_simp
            exact hK.out _ ⟨hS, trivial⟩) (by kernel_rfl) (j := 1) rfl ?_
        refine flatE_fix [] _ (fun L hL hcl v u hS hd K' hK => by
            simp only [Act.put, List.setIfInBounds_toArray, List.set_cons_zero, List.set_cons_succ] at hK
            go_simp
            exact hK.out _ ⟨hS, trivial⟩) (by kernel_rfl) (j := 2) rfl ?_
        refine flatE_fix [] _ (fun L hL hcl v u hS hd K' hK => by
            simp only [Act.put, List.setIfInBounds_toArray, List.set_cons_zero, List.set_cons_succ] at hK
            go_simp
            exact hK.out _ ⟨hS, trivial⟩) (by kernel_rfl) (j := 3) rfl ?_
        refine flatE_fix [] _ (fun L hL hcl v u hS hd K' hK => by
            simp only [Act.put, List.setIfInBounds_toArray, List.set_cons_zero, List.set_cons_succ] at hK
            go_simp
            exact hK.out _ ⟨hS, trivial⟩) (by kernel_rfl) (j := 4) rfl ?_
        refine flatE_fix [2, 3] _ (fun L hL hcl v u hS hd K' hK => by
            simp only [held, relR, eqv, List.getD_cons_zero, List.getD_cons_succ, Nat.reduceSub] at hd
            simp only [Act.put, List.setIfInBounds_toArray, List.set_cons_zero, List.set_cons_succ] at hK
            try simp only [hd] at hK
            go_simp
            exact hK.out _ ⟨hS, trivial⟩) (by kernel_rfl) (j := 5) rfl ?_
        refine flatE_fix [1, 4] _ (fun L hL hcl v u hS hd K' hK => by
            simp only [held, relR, eqv, List.getD_cons_zero, List.getD_cons_succ, Nat.reduceSub] at hd
            simp only [Act.put, List.setIfInBounds_toArray, List.set_cons_zero, List.set_cons_succ] at hK
            try simp only [hd] at hK
            go_simp
            exact hK.out _ ⟨hS, trivial⟩) (by kernel_rfl) (j := 6) rfl ?_
        refine flatE_fix [5] _ (fun L hL hcl v u hS hd K' hK => by
            simp only [held, relR, eqv, List.getD_cons_zero, List.getD_cons_succ, Nat.reduceSub] at hd
            have hc9 : u.rangeAt g (p * 7) rp := fun i v hi => cell_below' (hcp i v hi) hS
            refine wanted_go3 (by first | rfl | exact hwant v hd) ?_
            refine wp_load_mid 37 _ rfl g (p * 7) hd rp _ hc9 Tryd.underlying37 rfl (kV7l h7p) ?_
            exact hK.out _ ⟨hS, trivial⟩) (by kernel_rfl) (j := 7) rfl ?_
        refine flatE_fix [] _ (fun L hL hcl v u hS hd K' hK => by
            simp only [Act.put, List.setIfInBounds_toArray, List.set_cons_zero, List.set_cons_succ] at hK
            go_simp
            exact hK.out _ ⟨hS, trivial⟩) (by kernel_rfl) (j := 8) rfl ?_
        refine flatE_fix [] _ (fun L hL hcl v u hS hd K' hK => by
            simp only [Act.put, List.setIfInBounds_toArray, List.set_cons_zero, List.set_cons_succ] at hK
            go_simp
            exact hK.out _ ⟨hS, trivial⟩) (by kernel_rfl) (j := 9) rfl ?_
        refine flatE_fix [7, 8] _ (fun L hL hcl v u hS hd K' hK => by
            simp only [held, relR, eqv, List.getD_cons_zero, List.getD_cons_succ, Nat.reduceSub] at hd
            simp only [Act.put, List.setIfInBounds_toArray, List.set_cons_zero, List.set_cons_succ] at hK
            try simp only [hd] at hK
            go_simp
            exact hK.out _ ⟨hS, trivial⟩) (by kernel_rfl) (j := 10) rfl ?_
        refine flatE_fix [9] _ (fun L hL hcl v u hS hd K' hK => by
            simp only [held, relR, eqv, List.getD_cons_zero, List.getD_cons_succ, Nat.reduceSub] at hd
            have hc9 : u.rangeAt g (q * 7) rq := fun i v hi => cell_below' (hcq i v hi) hS
            refine wanted_go3 (by first | rfl | exact hwant v hd) ?_
            refine wp_load_mid 37 _ rfl g (q * 7) hd rq _ hc9 Tryd.underlying37 rfl (kV7l h7q) ?_
            exact hK.out _ ⟨hS, trivial⟩) (by kernel_rfl) (j := 11) rfl ?_
        refine flatE_fix [0, 6, 10] _ (fun L hL hcl v u hS hd K' hK => by
            simp only [held, relR, eqv, List.getD_cons_zero, List.getD_cons_succ, Nat.reduceSub] at hd
            simp only [Act.put, List.setIfInBounds_toArray, List.set_cons_zero, List.set_cons_succ] at hK
            try simp only [hd] at hK
            go_simp
            refine (compare_n x.ht x y (Nat.le_refl _) (g + 1) (g + 1) rp rq u (hvp.below hS) (hvq.below hS)).mono ?_
            rintro e w9 ⟨rfl, hb9⟩
            exact hK.out _ ⟨bt hS hb9, trivial⟩) (by kernel_rfl) (j := 12) rfl ?_
        refine flatE_fix [11] _ (fun L hL hcl v u hS hd K' hK => by
            simp only [held, relR, eqv, List.getD_cons_zero, List.getD_cons_succ, Nat.reduceSub] at hd
            simp only [Act.put, List.setIfInBounds_toArray, List.set_cons_zero, List.set_cons_succ] at hK
            try simp only [hd] at hK
            go_simp
            exact hK.out _ ⟨hS, trivial⟩) (by kernel_rfl) (j := 13) rfl ?_
        refine flatE_fix [12] _ (fun L hL hcl v u hS hd K' hK => by
            simp only [held, relR, eqv, List.getD_cons_zero, List.getD_cons_succ, Nat.reduceSub] at hd
            simp only [Act.put, List.setIfInBounds_toArray, List.set_cons_zero, List.set_cons_succ] at hK
            try simp only [hd] at hK
            go_simp
            exact hK.out _ ⟨hS, trivial⟩) (by kernel_rfl) (j := 14) rfl ?_
        refine flatE_end [13] (by decide) ?_
        rintro v u hS hR
        simp only [held, relR, eqv, List.getD_cons_zero, List.getD_cons_succ, Nat.reduceSub] at hR
        simp only [hR]
        clear hR
        have hRA5 := hRA.below hS
        have hg5 := hgw.trans (grown_below hS (row := some g))
        obtain ⟨C, hC⟩ := named (decide (cmpV x y < 0))
        try rw [← hC.out]
        clear hC
        cases C with
        | true =>
          go_wp2_with (go_quiet (fail))
          go_roundw
          case rel => exact ⟨i, q, rfl, rfl, by omega, by omega, by omega, hRA5, hg5⟩
          case measure => simp [intOf]; omega
        | false =>
          go_wp2_with (go_quiet (fail))
          go_roundw
          case rel => exact ⟨q + 1, j, by go_num, rfl, by omega, by omega, by omega, hRA5, hg5⟩
          case measure => simp [intOf]; omega
      · have hi1 : ¬ (i : Int) < (j : Int) := by omega
        obtain ⟨e, he⟩ := named (Z - i)
        have he8 : (Z : Int) - (i : Int) = (e : Int) := by rw [he.out]; omega
        have hez : e + i = Z := by rw [he.out]; omega
        have hwe : IntKind.i64.wrap (e : Int) = (e : Int) := by rw [IntKind.wrap_i64]; have := HZZ.out; omega
        have HEZ := hide hez
        have HRA := hide hRA
        have HGW := hide hgw
        clear he hez hRA hgw
        rename World => w1
        by_cases b1 : i < m
        · have hc1 : (i : Int) < (m : Int) := by omega
          have hc1' : (mid : Int) < (e : Int) := by have := HEZ.out; have := HZZ.out; omega
          by_cases b2 : i < mid
          · have hc2 : (i : Int) < (mid : Int) := by omega
            have hc2' : (m : Int) < (e : Int) := by have := HEZ.out; have := HZZ.out; omega
            by_cases b3 : a < i
            · have hc3 : (a : Int) < (i : Int) := by omega
              by_cases b4 : e < b
              · have hc4 : (e : Int) < (b : Int) := by omega
                go_wp2_with (first | (at_builtin; fail))
                refine (rotate_n g n cap i m e _ w1 HRA.out (by have := HEZ.out; have := HZZ.out; omega) (by have := HEZ.out; have := HZZ.out; omega) (by have := HEZ.out; have := HZZ.out; omega) hn).mono ?_
                rintro e1 v1 ⟨rfl, r1, g1⟩
                go_wp2_with (first | (at_builtin; fail))
                refine (IH1.out i (by have := HEZ.out; have := HZZ.out; omega) (by have := HEZ.out; have := HZZ.out; omega) v1 r1).mono ?_
                rintro e2 v2 ⟨rfl, r2, g2⟩
                go_wp2_with (first | (at_builtin; fail))
                refine (IH2.out e (by have := HEZ.out; have := HZZ.out; omega) (by have := HEZ.out; have := HZZ.out; omega) v2 r2).mono ?_
                rintro e3 v3 ⟨rfl, r3, g3⟩
                go_wp2_with (first | (at_builtin; fail))
                go_end0
                exact ⟨rfl, r3, (((HGW.out.trans g1).trans g2).trans g3)⟩
              · have hc4 : ¬ (e : Int) < (b : Int) := by omega
                go_wp2_with (first | (at_builtin; fail))
                refine (rotate_n g n cap i m e _ w1 HRA.out (by have := HEZ.out; have := HZZ.out; omega) (by have := HEZ.out; have := HZZ.out; omega) (by have := HEZ.out; have := HZZ.out; omega) hn).mono ?_
                rintro e1 v1 ⟨rfl, r1, g1⟩
                go_wp2_with (first | (at_builtin; fail))
                refine (IH1.out i (by have := HEZ.out; have := HZZ.out; omega) (by have := HEZ.out; have := HZZ.out; omega) v1 r1).mono ?_
                rintro e2 v2 ⟨rfl, r2, g2⟩
                go_wp2_with (first | (at_builtin; fail))
                go_end0
                exact ⟨rfl, r2, ((HGW.out.trans g1).trans g2)⟩
            · have hc3 : ¬ (a : Int) < (i : Int) := by omega
              by_cases b4 : e < b
              · have hc4 : (e : Int) < (b : Int) := by omega
                go_wp2_with (first | (at_builtin; fail))
                refine (rotate_n g n cap i m e _ w1 HRA.out (by have := HEZ.out; have := HZZ.out; omega) (by have := HEZ.out; have := HZZ.out; omega) (by have := HEZ.out; have := HZZ.out; omega) hn).mono ?_
                rintro e1 v1 ⟨rfl, r1, g1⟩
                go_wp2_with (first | (at_builtin; fail))
                refine (IH2.out e (by have := HEZ.out; have := HZZ.out; omega) (by have := HEZ.out; have := HZZ.out; omega) v1 r1).mono ?_
                rintro e2 v2 ⟨rfl, r2, g2⟩
                go_wp2_with (first | (at_builtin; fail))
                go_end0
                exact ⟨rfl, r2, ((HGW.out.trans g1).trans g2)⟩
              · have hc4 : ¬ (e : Int) < (b : Int) := by omega
                go_wp2_with (first | (at_builtin; fail))
                refine (rotate_n g n cap i m e _ w1 HRA.out (by have := HEZ.out; have := HZZ.out; omega) (by have := HEZ.out; have := HZZ.out; omega) (by have := HEZ.out; have := HZZ.out; omega) hn).mono ?_
                rintro e1 v1 ⟨rfl, r1, g1⟩
                go_wp2_with (first | (at_builtin; fail))
                go_end0
                exact ⟨rfl, r1, (HGW.out.trans g1)⟩
          · have hc2 : ¬ (i : Int) < (mid : Int) := by omega
            have hc2' : ¬ (m : Int) < (e : Int) := by have := HEZ.out; have := HZZ.out; omega
            by_cases b3 : a < i
            · have hc3 : (a : Int) < (i : Int) := by omega
              by_cases b4 : e < b
              · have hc4 : (e : Int) < (b : Int) := by omega
                go_wp2_with (first | (at_builtin; fail))
                refine (IH2.out e (by have := HEZ.out; have := HZZ.out; omega) (by have := HEZ.out; have := HZZ.out; omega) w1 HRA.out).mono ?_
                rintro e1 v1 ⟨rfl, r1, g1⟩
                go_wp2_with (first | (at_builtin; fail))
                go_end0
                exact ⟨rfl, r1, (HGW.out.trans g1)⟩
              · have hc4 : ¬ (e : Int) < (b : Int) := by omega
                go_wp2_with (first | (at_builtin; fail))
                go_end0
                exact ⟨rfl, HRA.out, HGW.out⟩
            · have hc3 : ¬ (a : Int) < (i : Int) := by omega
              by_cases b4 : e < b
              · have hc4 : (e : Int) < (b : Int) := by omega
                go_wp2_with (first | (at_builtin; fail))
                refine (IH2.out e (by have := HEZ.out; have := HZZ.out; omega) (by have := HEZ.out; have := HZZ.out; omega) w1 HRA.out).mono ?_
                rintro e1 v1 ⟨rfl, r1, g1⟩
                go_wp2_with (first | (at_builtin; fail))
                go_end0
                exact ⟨rfl, r1, (HGW.out.trans g1)⟩
              · have hc4 : ¬ (e : Int) < (b : Int) := by omega
                go_wp2_with (first | (at_builtin; fail))
                go_end0
                exact ⟨rfl, HRA.out, HGW.out⟩
        · have hc1 : ¬ (i : Int) < (m : Int) := by omega
          have hc1' : ¬ (mid : Int) < (e : Int) := by have := HEZ.out; have := HZZ.out; omega
          by_cases b2 : i < mid
          · have hc2 : (i : Int) < (mid : Int) := by omega
            have hc2' : (m : Int) < (e : Int) := by have := HEZ.out; have := HZZ.out; omega
            by_cases b3 : a < i
            · have hc3 : (a : Int) < (i : Int) := by omega
              by_cases b4 : e < b
              · have hc4 : (e : Int) < (b : Int) := by omega
                go_wp2_with (first | (at_builtin; fail))
                refine (IH1.out i (by have := HEZ.out; have := HZZ.out; omega) (by have := HEZ.out; have := HZZ.out; omega) w1 HRA.out).mono ?_
                rintro e1 v1 ⟨rfl, r1, g1⟩
                go_wp2_with (first | (at_builtin; fail))
                go_end0
                exact ⟨rfl, r1, (HGW.out.trans g1)⟩
              · have hc4 : ¬ (e : Int) < (b : Int) := by omega
                go_wp2_with (first | (at_builtin; fail))
                refine (IH1.out i (by have := HEZ.out; have := HZZ.out; omega) (by have := HEZ.out; have := HZZ.out; omega) w1 HRA.out).mono ?_
                rintro e1 v1 ⟨rfl, r1, g1⟩
                go_wp2_with (first | (at_builtin; fail))
                go_end0
                exact ⟨rfl, r1, (HGW.out.trans g1)⟩
            · have hc3 : ¬ (a : Int) < (i : Int) := by omega
              by_cases b4 : e < b
              · have hc4 : (e : Int) < (b : Int) := by omega
                go_wp2_with (first | (at_builtin; fail))
                go_end0
                exact ⟨rfl, HRA.out, HGW.out⟩
              · have hc4 : ¬ (e : Int) < (b : Int) := by omega
                go_wp2_with (first | (at_builtin; fail))
                go_end0
                exact ⟨rfl, HRA.out, HGW.out⟩
          · have hc2 : ¬ (i : Int) < (mid : Int) := by omega
            have hc2' : ¬ (m : Int) < (e : Int) := by have := HEZ.out; have := HZZ.out; omega
            by_cases b3 : a < i
            · have hc3 : (a : Int) < (i : Int) := by omega
              by_cases b4 : e < b
              · have hc4 : (e : Int) < (b : Int) := by omega
                go_wp2_with (first | (at_builtin; fail))
                go_end0
                exact ⟨rfl, HRA.out, HGW.out⟩
              · have hc4 : ¬ (e : Int) < (b : Int) := by omega
                go_wp2_with (first | (at_builtin; fail))
                go_end0
                exact ⟨rfl, HRA.out, HGW.out⟩
            · have hc3 : ¬ (a : Int) < (i : Int) := by omega
              by_cases b4 : e < b
              · have hc4 : (e : Int) < (b : Int) := by omega
                go_wp2_with (first | (at_builtin; fail))
                go_end0
                exact ⟨rfl, HRA.out, HGW.out⟩
              · have hc4 : ¬ (e : Int) < (b : Int) := by omega
                go_wp2_with (first | (at_builtin; fail))
                go_end0
                exact ⟨rfl, HRA.out, HGW.out⟩
theorem sym_n (g n cap : Nat) (hn : n ≤ 1466015503701) : ∀ (N a m b : Nat), b - a ≤ N → a < m → m < b → b ≤ n → SymC g n cap a m b := by
  intro N
  induction N with
  | zero => intro a m b h h1 h2; omega
  | succ N ih =>
    intro a m b hN ham hmb hbn
    by_cases h1 : m = a + 1
    · exact sym_one g n cap a m b hn ham hmb hbn h1
    · by_cases h2 : b = m + 1
      · exact sym_two g n cap a m b hn ham hmb hbn h1 h2
      · exact sym_more g n cap a m b _ hn ham hmb hbn h1 h2 rfl (fun s h3 h4 => ih a s _ (by omega) h3 h4 (by omega)) (fun s h3 h4 => ih _ s b (by omega) h3 h4 hbn)
end Go.Proofs.YtmnfmgoolimlmaaDoor
end
section
/- slices.stableCmpFunc, slices.SortStableFunc at rows of values. -/
namespace Go.Proofs.YtmnfmgoolimlmaaDoor
set_option linter.unusedSimpArgs false
set_option linter.unusedVariables false
open Go.RowKit
set_option maxRecDepth 100000 in
set_option maxHeartbeats 2000000 in
theorem stable_n (g n cap : Nat) (w : World) (hR : RowsAt w g n) (hn : n ≤ 1466015503701) :
    Calls Tryd.prog 64 #[.slice (some ⟨g, 0, none⟩) n cap, .int .i64 n, .func (.func 34) #[] #[]] w fun e w' => e = .returned (.tuple #[]) ∧ RowsAt w' g n ∧ w.grownBy w' (some g) := by
  have HR := hide hR
  clear hR
  go_enter Tryd.func64, Tryd.ntmps64
  go_wp2_with (first | (at_builtin; fail))
  go_loopw [7, 8] (fun s t wr => ∃ a b : Nat, s = .int .i64 a ∧ t = .int .i64 b ∧ a ≤ n ∧ b = a + 20 ∧ RowsAt wr g n ∧ w.grownBy wr (some g)) (fun s _ _ => n - (intOf s).toNat)
  case atStart => exact ⟨0, 20, rfl, rfl, by omega, rfl, HR.out, World.grownBy.refl _ _⟩
  case round =>
    clear HR
    obtain ⟨a, b, rfl, rfl, han, hab, hRA, hgw⟩ := hrel
    have HAB := hide hab
    by_cases hlt : b ≤ n
    · have hb1 : (b : Int) ≤ (n : Int) := by omega
      obtain ⟨c, hc⟩ := named (b + 20)
      have hc8 : (b : Int) + 20 = (c : Int) := by rw [hc.out]; omega
      have hwc : IntKind.i64.wrap (c : Int) = (c : Int) := by rw [IntKind.wrap_i64]; have := hc.out; omega
      have hins := ins_n g n cap a b wr hRA hlt han hn
      have HC := hide hc.out
      clear hab hc
      go_wp2_with (first | (at_builtin; fail))
      refine hins.mono ?_
      rintro e w1 ⟨rfl, hR1, hg1⟩
      have hg2 := hgw.trans hg1
      go_wp2_with (first | (at_builtin; fail))
      go_roundw
      case rel => exact ⟨b, c, rfl, rfl, hlt, HC.out, hR1, hg2⟩
      case measure => have := HAB.out; simp [intOf]; omega
    · have hb1 : ¬ (b : Int) ≤ (n : Int) := by omega
      have hins := ins_n g n cap a n wr hRA (Nat.le_refl _) han hn
      clear hab
      go_wp2_with (first | (at_builtin; fail))
      refine hins.mono ?_
      rintro e w1 ⟨rfl, hR1, hg1⟩
      have HR1 := hide hR1
      have HG1 := hide (hgw.trans hg1)
      clear hR1 hg1 hRA hgw HAB hb1 hlt hins
      rename World => wo
      go_wp2_with (first | (at_builtin; fail))
      go_loopw [6] (fun s wr => ∃ bs : Nat, s = .int .i64 bs ∧ 0 < bs ∧ bs ≤ 2 * n + 20 ∧ RowsAt wr g n ∧ w.grownBy wr (some g)) (fun s _ => n - (intOf s).toNat)
      case atStart => exact ⟨20, rfl, by omega, by omega, HR1.out, HG1.out⟩
      case round =>
        clear HR1 HG1
        obtain ⟨bs, rfl, hbs, hbs2, hRA, hgw⟩ := hrel
        by_cases hlt2 : bs < n
        · have hb2 : (bs : Int) < (n : Int) := by omega
          obtain ⟨dd, hdd⟩ := named (2 * bs)
          have hd8 : (2 : Int) * (bs : Int) = (dd : Int) := by rw [hdd.out]; omega
          have hd9 : (bs : Int) * 2 = (dd : Int) := by rw [hdd.out]; omega
          have hwd : IntKind.i64.wrap (dd : Int) = (dd : Int) := by rw [IntKind.wrap_i64]; have := hdd.out; omega
          have HDD := hide hdd.out
          have HRA := hide hRA
          have HGW := hide hgw
          clear hdd hRA hgw
          rename World => w2
          go_wp2_with (first | (at_builtin; fail))
          go_loopw [7, 8] (fun s t wr => ∃ a b : Nat, s = .int .i64 a ∧ t = .int .i64 b ∧ a ≤ n ∧ b = a + dd ∧ RowsAt wr g n ∧ w.grownBy wr (some g)) (fun s _ _ => n - (intOf s).toNat)
          case atStart => exact ⟨0, dd, rfl, rfl, by omega, by omega, HRA.out, HGW.out⟩
          case round =>
            clear HRA HGW
            obtain ⟨a, b, rfl, rfl, han, hab, hRA, hgw⟩ := hrel
            obtain ⟨m, hm⟩ := named (a + bs)
            have hm8 : (a : Int) + (bs : Int) = (m : Int) := by rw [hm.out]; omega
            have hwm : IntKind.i64.wrap (m : Int) = (m : Int) := by rw [IntKind.wrap_i64]; have := hm.out; omega
            have hmm : m = a + bs := hm.out
            have HAB := hide hab
            have hdd := HDD.out
            by_cases hlt3 : b ≤ n
            · have hb3 : (b : Int) ≤ (n : Int) := by omega
              obtain ⟨c, hc⟩ := named (b + dd)
              have hc8 : (b : Int) + (dd : Int) = (c : Int) := by rw [hc.out]; omega
              have hwc : IntKind.i64.wrap (c : Int) = (c : Int) := by rw [IntKind.wrap_i64]; have := hc.out; omega
              have hsym := sym_n g n cap hn (b - a) a m b (Nat.le_refl _) (by omega) (by omega) hlt3 wr hRA
              have HC := hide hc.out
              clear hab hc hm hmm hdd
              go_wp2_with (first | (at_builtin; fail))
              refine hsym.mono ?_
              rintro e w3 ⟨rfl, hR3, hg3⟩
              have hg4 := hgw.trans hg3
              go_wp2_with (first | (at_builtin; fail))
              go_roundw
              case rel => exact ⟨b, c, rfl, rfl, hlt3, HC.out, hR3, hg4⟩
              case measure => have := HAB.out; have := HDD.out; simp [intOf]; omega
            · have hb3 : ¬ (b : Int) ≤ (n : Int) := by omega
              by_cases hlt4 : m < n
              · have hb4 : (m : Int) < (n : Int) := by omega
                have hsym := sym_n g n cap hn (n - a) a m n (Nat.le_refl _) (by omega) hlt4 (Nat.le_refl _) wr hRA
                clear hab hm hmm hdd
                go_wp2_with (first | (at_builtin; fail))
                refine hsym.mono ?_
                rintro e w3 ⟨rfl, hR3, hg3⟩
                have hg4 := hgw.trans hg3
                go_wp2_with (first | (at_builtin; fail))
                go_roundw
                case rel => exact ⟨dd, rfl, by have := HDD.out; omega, by have := HDD.out; omega, hR3, hg4⟩
                case measure => have := HDD.out; simp [intOf]; omega
              · have hb4 : ¬ (m : Int) < (n : Int) := by omega
                clear hab hm hmm hdd
                go_wp2_with (first | (at_builtin; fail))
                go_roundw
                case rel => exact ⟨dd, rfl, by have := HDD.out; omega, by have := HDD.out; omega, hRA, hgw⟩
                case measure => have := HDD.out; simp [intOf]; omega
        · have hb2 : ¬ (bs : Int) < (n : Int) := by omega
          go_wp2_with (first | (at_builtin; fail))
          go_end0
          exact ⟨rfl, hRA, hgw⟩
set_option maxRecDepth 100000 in
theorem sortStable_n (g n cap : Nat) (w : World) (hR : RowsAt w g n) (hn : n ≤ 1466015503701) :
    Calls Tryd.prog 40 #[.slice (some ⟨g, 0, none⟩) n cap, .func (.func 34) #[] #[]] w fun e w' => e = .returned (.tuple #[]) ∧ RowsAt w' g n ∧ w.grownBy w' (some g) := by
  have hs := stable_n g n cap w hR hn
  go_enter Tryd.func40, Tryd.ntmps40
  go_wp2_with (first | (at_builtin; fail))
  refine hs.mono ?_
  rintro e w1 ⟨rfl, hR1, hg1⟩
  go_wp2_with (first | (at_builtin; fail))
  go_end0
  exact ⟨rfl, hR1, hg1⟩
end Go.Proofs.YtmnfmgoolimlmaaDoor
end
section
/- slices.CompactFunc at rows of values. -/
namespace Go.Proofs.YtmnfmgoolimlmaaDoor
set_option linter.unusedSimpArgs false
set_option linter.unusedVariables false
open Go.RowKit
set_option maxRecDepth 100000 in
theorem eqV_w (x y : Vt) (bx by_ : Nat) (r q : List Value) (w : World) (hx : VAt w bx x r) (hy : VAt w by_ y q) :
    Calls Tryd.prog 42 #[.agg r.toArray, .agg q.toArray] w fun e w' => e = .returned (.bool (cmpV x y == 0)) ∧ Below w.heap.size w w' := by
  obtain ⟨k1, k2, b1⟩ := box2 w r q 37
  have hz : ∀ W, Below w.heap.size w W → Calls Tryd.prog 34 #[.agg r.toArray, .agg q.toArray] W fun e w' => e = .returned (.int .i64 (cmpV x y)) ∧ Below W.heap.size W w' := fun W hW =>
    compare_n x.ht x y (Nat.le_refl _) bx by_ r q W (hx.below hW) (hy.below hW)
  have hr7 := vAt_len hx
  have hq7 := vAt_len hy
  obtain ⟨c, hc⟩ := named (cmpV x y)
  rw [← hc.out] at hz ⊢
  clear hc hx hy
  obtain ⟨W1, HW1⟩ := named ((w.alloc (.cells r.toArray 37)).alloc (.cells q.toArray 37))
  go_enter Tryd.func42, Tryd.ntmps42
  go_upto_region 1 with (go_quiet (fail))
  rw [← HW1.out] at k1 k2 b1 ⊢
  clear HW1
  go_wp2_with (first
    | refine wpList_load_row rfl 37 _ rfl _ rfl 37 r.toArray (0, 0) _ k1 Tryd.underlying37 rfl (kV7 hr7) ?_
    | refine wpList_load_row rfl 37 _ rfl _ rfl 37 q.toArray (0, 0) _ k2 Tryd.underlying37 rfl (kV7 hq7) ?_)
  refine (hz _ b1).mono ?_
  rintro e w2 ⟨rfl, hb2⟩
  go_wp2_with (go_quiet (fail))
  go_ret
  exact ⟨rfl, bt b1 hb2⟩
def zeros (m : Nat) : List Value := (Builtin.zeroCells (Value.agg zeroRow.toArray).cells m).toList
theorem zeros_len (m : Nat) : (zeros m).length = m * 7 := by
  unfold zeros
  rw [Array.length_toList, size_zeroCells]
  rfl
theorem zeros_one (m : Nat) : ∀ v ∈ zeros m, v.oneCell' = true := by
  intro v hv
  unfold zeros Builtin.zeroCells at hv
  simp only [Array.toList_map, List.mem_map] at hv
  obtain ⟨i, _, rfl⟩ := hv
  have h7 : (Value.agg zeroRow.toArray).cells.size = 7 := rfl
  rw [h7]
  have : i % 7 < 7 := Nat.mod_lt _ (by decide)
  rcases (show i % 7 = 0 ∨ i % 7 = 1 ∨ i % 7 = 2 ∨ i % 7 = 3 ∨ i % 7 = 4 ∨ i % 7 = 5 ∨ i % 7 = 6 by omega) with h | h | h | h | h | h | h <;> rw [h] <;> rfl
theorem zeroV2 : ∀ w, (zeroValue 37).run Tryd.prog w = .ok (.agg zeroRow.toArray) w := fun w => by kernel_rfl
theorem run_clear_rows (w : World) (ty : TypeId) (b o m c : Nat) (hm : 0 < m) (ht : w.there b o (m * 7)) :
    (Builtin.clear_ #[33] ty #[.slice (some ⟨b, o, none⟩) m c]).run Tryd.prog w = .ok (.tuple #[]) (w.setCells b o (zeros m)) := by
  have hst := run_storeCells_cells (P := Tryd.prog) b o (zeros m) 0 w (fun j hj => by rw [zeros_len] at hj; exact (ht j hj).1) (fun j hj => by rw [zeros_len] at hj; exact (ht j hj).2) (zeros_one m)
  simp only [Nat.add_zero] at hst
  have h1 := run_underlying (P := Tryd.prog) Tryd.underlying33
  obtain ⟨m', rfl⟩ : ∃ m', m = m' + 1 := ⟨m - 1, by omega⟩
  have h3 : (Builtin.zeroCells (Value.agg #[.int .u8 0, .bool false, .int .i64 0, .string ⟨#[]⟩, .string ⟨#[]⟩, .slice none 0 0, .slice none 0 0]).cells (m' + 1)).toList = zeros (m' + 1) := rfl
  have h4 := zeroV2
  simp only [zeroRow, vRow] at h4
  simp [Builtin.clear_, h1, h4, h3, hst]
theorem there_rows {w : World} {g n : Nat} (h : RowsAt w g n) (k : Nat) : w.there g (k * 7) ((n - k) * 7) := by
  intro j hj
  obtain ⟨x, r, -, -, h3, -⟩ := h (k + j / 7) (by omega)
  have := h3 (j % 7) (by omega)
  rw [show (k + j / 7) * 7 + j % 7 = k * 7 + j by omega] at this
  exact this
theorem rows_set {w : World} {g n p : Nat} {r : List Value} {x : Vt} (h : RowsAt w g n) (hp : p < n) (h7 : r.length = 7) (hv : VAt w (g + 1) x r) (hw : Wr2 w r) : RowsAt (w.setCells g (p * 7) r) g n := by
  intro j hj
  obtain ⟨z, q, k1, k2, k3, k4⟩ := h j hj
  obtain ⟨_, _, _, _, kp, -⟩ := h p hp
  have hgr := grown_setCells w g (p * 7) r
  have hka := KA.grown (grown_setCells w g (p * 7) r)
  by_cases e : j = p
  · subst e
    exact ⟨x, r, World.rangeAt_setCells_same w g (j * 7) r (by rw [h7]; exact kp), hv.ka hka, there_set7 k3 _ _ _, hw.grown hgr hv⟩
  · exact ⟨z, q, World.rangeAt_setCells_apart k1 g (p * 7) r (by rw [vAt_len k2, h7]; omega), k2.ka hka, there_set7 k3 _ _ _, k4.grown hgr k2⟩
theorem rows_cut {w : World} {g n k : Nat} {vs : List Value} (h : RowsAt w g n) (hk : k ≤ n) : RowsAt (w.setCells g (k * 7) vs) g k := by
  intro j hj
  obtain ⟨z, q, k1, k2, k3, k4⟩ := h j (by omega)
  exact ⟨z, q, World.rangeAt_setCells_apart k1 g (k * 7) vs (by rw [vAt_len k2]; omega), k2.ka (KA.grown (grown_setCells w g (k * 7) vs)), there_set7 k3 _ _ _, k4.grown (grown_setCells w g (k * 7) vs) k2⟩
set_option maxRecDepth 100000 in
set_option maxHeartbeats 2000000 in
theorem compact_n (g n cap : Nat) (w : World) (hR : RowsAt w g n) (hn : n ≤ 1466015503701) (hcap : n ≤ cap) :
    Calls Tryd.prog 41 #[.slice (some ⟨g, 0, none⟩) n cap, .func (.func 42) #[] #[]] w fun e w' => ∃ k : Nat, k ≤ n ∧ e = .returned (.slice (some ⟨g, 0, none⟩) k cap) ∧ RowsAt w' g k ∧ w.grownBy w' (some g) := by
  have eg : ∀ args w, (callFunc 42 args).run Tryd.prog w = .ok (.enter 42 args) w := fun _ _ => by kernel_rfl
  have HR := hide hR
  clear hR
  by_cases h2 : n < 2
  · have hn2 : (n : Int) < 2 := by omega
    go_enter Tryd.func41, Tryd.ntmps41
    go_wp2_with (first | (at_builtin; fail))
    go_ret
    exact ⟨n, Nat.le_refl _, rfl, HR.out, World.grownBy.refl _ _⟩
  · have hn2 : ¬ (n : Int) < 2 := by omega
    go_enter Tryd.func41, Tryd.ntmps41
    go_wp2_with (first | (at_builtin; fail))
    go_loopw [5] (fun s wr => ∃ p : Nat, s = .int .i64 p ∧ 1 ≤ p ∧ p ≤ n ∧ RowsAt wr g n ∧ w.grownBy wr (some g)) (fun s _ => n - (intOf s).toNat)
    case atStart => exact ⟨1, rfl, by omega, by omega, HR.out, World.grownBy.refl _ _⟩
    case round =>
      clear HR
      obtain ⟨p, rfl, h1p, hpn', hRA, hgw⟩ := hrel
      by_cases hlt : p < n
      · have hlt' : (p : Int) < (n : Int) := by omega
        obtain ⟨q, hq⟩ := named (p - 1)
        have hq8 : (p : Int) - 1 = (q : Int) := by rw [hq.out]; omega
        have hp9 : p < n := hlt
        have hq9 : q < n := by rw [hq.out]; omega
        obtain ⟨x, rp, hcp, hvp, hthp⟩ := hRA p hp9
        obtain ⟨y, rq, hcq, hvq, hthq⟩ := hRA q hq9
        have h7p := vAt_len hvp
        have h7q := vAt_len hvq
        have hp0 : (0 : Int) ≤ (p : Int) := by omega
        have hq0 : (0 : Int) ≤ (q : Int) := by omega
        have hpn : (p : Int) < (n : Int) := by omega
        have hqn : (q : Int) < (n : Int) := by omega
        have hwp : IntKind.i64.wrap (p : Int) = (p : Int) := by rw [IntKind.wrap_i64]; omega
        have hwq : IntKind.i64.wrap (q : Int) = (q : Int) := by rw [IntKind.wrap_i64]; omega
        clear hq
        go_upto_region 6 with (go_quiet (fail))
        refine region_auto (fun _ _ u => Below wr.heap.size wr u) (fun _ _ _ => True) _ (by kernel_rfl) (by kernel_rfl) (fun v => by simp only [putsV, Act.put, List.toList_toArray, List.setIfInBounds_toArray, List.set_cons_zero, List.set_cons_succ, Nat.reduceAdd, Nat.zero_add]; rfl) (Below.refl _ _).drew (fun _ _ _ _ _ h => h) ?_
        refine flatE_fix [] _ (fun L hL hcl v u hS hd K' hK => by
            simp only [Act.put, List.setIfInBounds_toArray, List.set_cons_zero, List.set_cons_succ] at hK
            go_simp
            exact hK.out _ ⟨hS, trivial⟩) (by kernel_rfl) (j := 1) rfl ?_
        refine flatE_fix [] _ (fun L hL hcl v u hS hd K' hK => by
            simp only [Act.put, List.setIfInBounds_toArray, List.set_cons_zero, List.set_cons_succ] at hK
            go_simp
            exact hK.out _ ⟨hS, trivial⟩) (by kernel_rfl) (j := 2) rfl ?_
        refine flatE_fix [] _ (fun L hL hcl v u hS hd K' hK => by
            simp only [Act.put, List.setIfInBounds_toArray, List.set_cons_zero, List.set_cons_succ] at hK
            go_simp
            exact hK.out _ ⟨hS, trivial⟩) (by kernel_rfl) (j := 3) rfl ?_
        refine flatE_fix [1, 2] _ (fun L hL hcl v u hS hd K' hK => by
            simp only [held, relR, eqv, List.getD_cons_zero, List.getD_cons_succ, Nat.reduceSub] at hd
            simp only [Act.put, List.setIfInBounds_toArray, List.set_cons_zero, List.set_cons_succ] at hK
            try simp only [hd] at hK
            go_simp
            exact hK.out _ ⟨hS, trivial⟩) (by kernel_rfl) (j := 4) rfl ?_
        refine flatE_fix [3] _ (fun L hL hcl v u hS hd K' hK => by
            simp only [held, relR, eqv, List.getD_cons_zero, List.getD_cons_succ, Nat.reduceSub] at hd
            have hc9 : u.rangeAt g (p * 7) rp := fun i v hi => cell_below' (hcp i v hi) hS
            refine wanted_go3 (by first | rfl | exact hwant v hd) ?_
            refine wp_load_mid 37 _ rfl g (p * 7) hd rp _ hc9 Tryd.underlying37 rfl (kV7l h7p) ?_
            exact hK.out _ ⟨hS, trivial⟩) (by kernel_rfl) (j := 5) rfl ?_
        refine flatE_fix [] _ (fun L hL hcl v u hS hd K' hK => by
            simp only [Act.put, List.setIfInBounds_toArray, List.set_cons_zero, List.set_cons_succ] at hK
            go_simp
            exact hK.out _ ⟨hS, trivial⟩) (by kernel_rfl) (j := 6) rfl ?_
        refine flatE_fix [] _ (fun L hL hcl v u hS hd K' hK => by
            simp only [Act.put, List.setIfInBounds_toArray, List.set_cons_zero, List.set_cons_succ] at hK
            go_simp
            exact hK.out _ ⟨hS, trivial⟩) (by kernel_rfl) (j := 7) rfl ?_
        refine flatE_fix [6] _ (fun L hL hcl v u hS hd K' hK => by
            simp only [held, relR, eqv, List.getD_cons_zero, List.getD_cons_succ, Nat.reduceSub] at hd
            simp only [Act.put, List.setIfInBounds_toArray, List.set_cons_zero, List.set_cons_succ] at hK
            try simp only [hd] at hK
            go_simp
            exact hK.out _ ⟨hS, trivial⟩) (by kernel_rfl) (j := 8) rfl ?_
        refine flatE_fix [5, 7] _ (fun L hL hcl v u hS hd K' hK => by
            simp only [held, relR, eqv, List.getD_cons_zero, List.getD_cons_succ, Nat.reduceSub] at hd
            simp only [Act.put, List.setIfInBounds_toArray, List.set_cons_zero, List.set_cons_succ] at hK
            try simp only [hd] at hK
            go_simp
            exact hK.out _ ⟨hS, trivial⟩) (by kernel_rfl) (j := 9) rfl ?_
        refine flatE_fix [8] _ (fun L hL hcl v u hS hd K' hK => by
            simp only [held, relR, eqv, List.getD_cons_zero, List.getD_cons_succ, Nat.reduceSub] at hd
            have hc9 : u.rangeAt g (q * 7) rq := fun i v hi => cell_below' (hcq i v hi) hS
            refine wanted_go3 (by first | rfl | exact hwant v hd) ?_
            refine wp_load_mid 37 _ rfl g (q * 7) hd rq _ hc9 Tryd.underlying37 rfl (kV7l h7q) ?_
            exact hK.out _ ⟨hS, trivial⟩) (by kernel_rfl) (j := 10) rfl ?_
        refine flatE_fix [0, 4, 9] _ (fun L hL hcl v u hS hd K' hK => by
            simp only [held, relR, eqv, List.getD_cons_zero, List.getD_cons_succ, Nat.reduceSub] at hd
            simp only [Act.put, List.setIfInBounds_toArray, List.set_cons_zero, List.set_cons_succ] at hK
            try simp only [hd] at hK
            go_simp
            refine (eqV_w x y (g + 1) (g + 1) rp rq u (hvp.below hS) (hvq.below hS)).mono ?_
            rintro e w9 ⟨rfl, hb9⟩
            exact hK.out _ ⟨bt hS hb9, trivial⟩) (by kernel_rfl) (j := 11) rfl ?_
        refine flatE_end [10] (by decide) ?_
        rintro v u hS hR
        simp only [held, relR, eqv, List.getD_cons_zero, List.getD_cons_succ, Nat.reduceSub] at hR
        simp only [hR]
        clear hR
        have hRA5 := hRA.below hS
        have hg5 := hgw.trans (grown_below hS (row := some g))
        obtain ⟨C, hC⟩ := named (cmpV x y == 0)
        try rw [← hC.out]
        clear hC
        cases C with
        | false =>
          go_wp2_with (go_quiet (fail))
          go_roundw
          case rel => exact ⟨p + 1, by go_num, by omega, by omega, hRA5, hg5⟩
          case measure => simp [intOf]; omega
        | true =>
          have HRA := hide hRA5
          have HGW := hide hg5
          have hpc : (p : Int) ≤ (cap : Int) := by omega
          have hple : p ≤ cap := by omega
          obtain ⟨K, hK⟩ := named p
          rw [← hK.out] at h1p hp9 hpc hple hp0 hpn hwp ⊢
          have hKn : K ≤ n := by omega
          clear hK hRA hgw hRA5 hg5 hS hcp hvp hthp hcq hvq hthq h7p h7q hlt hpn' hlt' hq8 hq0 hqn hwq hq9
          rename World => w1
          go_wp2_with (first | (at_builtin; fail))
          obtain ⟨M, hM⟩ := named (n - K)
          rw [← hM.out]
          have hMn : K + M = n := by rw [hM.out]; omega
          have HMN := hide hMn
          clear hM hMn
          go_loopw [5, 7] (fun s t wr => ∃ k j : Nat, s = .int .i64 k ∧ t = .int .i64 j ∧ K ≤ k ∧ k < K + j ∧ j ≤ M ∧ RowsAt wr g n ∧ w.grownBy wr (some g)) (fun _ t _ => M - (intOf t).toNat)
          case atStart => exact ⟨K, 1, rfl, rfl, by omega, by omega, by have := HMN.out; omega, HRA.out, HGW.out⟩
          case round =>
            clear HRA HGW
            obtain ⟨k, j, rfl, rfl, hKk, hkj, hjM, hRA, hgw⟩ := hrel
            have hMn := HMN.out
            by_cases hlt2 : j < M
            · have hlt2' : (j : Int) < (M : Int) := by omega
              have hj0 : (0 : Int) ≤ (j : Int) := by omega
              obtain ⟨q, hq⟩ := named (j - 1)
              have hq8 : (j : Int) - 1 = (q : Int) := by rw [hq.out]; omega
              have hqM : (q : Int) < (M : Int) := by rw [hq.out]; omega
              have hq0 : (0 : Int) ≤ (q : Int) := by omega
              have hwq : IntKind.i64.wrap (q : Int) = (q : Int) := by rw [IntKind.wrap_i64]; omega
              obtain ⟨x, rp, hcp, hvp, hthp⟩ := hRA (K + j) (by omega)
              obtain ⟨y, rq, hcq, hvq, hthq⟩ := hRA (K + q) (by rw [hq.out]; omega)
              rw [Nat.add_mul] at hcp hcq
              have h7p := vAt_len hvp
              have h7q := vAt_len hvq
              have h1p := vAt_one hvp
              have hk0 : (0 : Int) ≤ (k : Int) := by omega
              have hkn : (k : Int) < (n : Int) := by omega
              have hkn' : k < n := by omega
              have hjb : j < 1466015503701 := by omega
              clear hq hMn
              go_upto_region 11 with (go_quiet (fail))
              refine region_auto (fun _ _ u => Below wr.heap.size wr u) (fun _ _ _ => True) _ (by kernel_rfl) (by kernel_rfl) (fun v => by simp only [putsV, Act.put, List.toList_toArray, List.setIfInBounds_toArray, List.set_cons_zero, List.set_cons_succ, Nat.reduceAdd, Nat.zero_add]; rfl) (Below.refl _ _).drew (fun _ _ _ _ _ h => h) ?_
              refine flatE_fix [] _ (fun L hL hcl v u hS hd K' hK => by
                  simp only [Act.put, List.setIfInBounds_toArray, List.set_cons_zero, List.set_cons_succ] at hK
                  go_simp
                  exact hK.out _ ⟨hS, trivial⟩) (by kernel_rfl) (j := 1) rfl ?_
              refine flatE_fix [] _ (fun L hL hcl v u hS hd K' hK => by
                  simp only [Act.put, List.setIfInBounds_toArray, List.set_cons_zero, List.set_cons_succ] at hK
                  go_simp
                  exact hK.out _ ⟨hS, trivial⟩) (by kernel_rfl) (j := 2) rfl ?_
              refine flatE_fix [] _ (fun L hL hcl v u hS hd K' hK => by
                  simp only [Act.put, List.setIfInBounds_toArray, List.set_cons_zero, List.set_cons_succ] at hK
                  go_simp
                  exact hK.out _ ⟨hS, trivial⟩) (by kernel_rfl) (j := 3) rfl ?_
              refine flatE_fix [1, 2] _ (fun L hL hcl v u hS hd K' hK => by
                  simp only [held, relR, eqv, List.getD_cons_zero, List.getD_cons_succ, Nat.reduceSub] at hd
                  simp only [Act.put, List.setIfInBounds_toArray, List.set_cons_zero, List.set_cons_succ] at hK
                  try simp only [hd] at hK
                  go_simp
                  exact hK.out _ ⟨hS, trivial⟩) (by kernel_rfl) (j := 4) rfl ?_
              refine flatE_fix [3] _ (fun L hL hcl v u hS hd K' hK => by
                  simp only [held, relR, eqv, List.getD_cons_zero, List.getD_cons_succ, Nat.reduceSub] at hd
                  have hc9 : u.rangeAt g (K * 7 + j * 7) rp := fun i v hi => cell_below' (hcp i v hi) hS
                  refine wanted_go3 (by first | rfl | exact hwant v hd) ?_
                  refine wp_load_mid 37 _ rfl g (K * 7 + j * 7) hd rp _ hc9 Tryd.underlying37 rfl (kV7l h7p) ?_
                  exact hK.out _ ⟨hS, trivial⟩) (by kernel_rfl) (j := 5) rfl ?_
              refine flatE_fix [] _ (fun L hL hcl v u hS hd K' hK => by
                  simp only [Act.put, List.setIfInBounds_toArray, List.set_cons_zero, List.set_cons_succ] at hK
                  go_simp
                  exact hK.out _ ⟨hS, trivial⟩) (by kernel_rfl) (j := 6) rfl ?_
              refine flatE_fix [] _ (fun L hL hcl v u hS hd K' hK => by
                  simp only [Act.put, List.setIfInBounds_toArray, List.set_cons_zero, List.set_cons_succ] at hK
                  go_simp
                  exact hK.out _ ⟨hS, trivial⟩) (by kernel_rfl) (j := 7) rfl ?_
              refine flatE_fix [6] _ (fun L hL hcl v u hS hd K' hK => by
                  simp only [held, relR, eqv, List.getD_cons_zero, List.getD_cons_succ, Nat.reduceSub] at hd
                  simp only [Act.put, List.setIfInBounds_toArray, List.set_cons_zero, List.set_cons_succ] at hK
                  try simp only [hd] at hK
                  go_simp
                  exact hK.out _ ⟨hS, trivial⟩) (by kernel_rfl) (j := 8) rfl ?_
              refine flatE_fix [5, 7] _ (fun L hL hcl v u hS hd K' hK => by
                  simp only [held, relR, eqv, List.getD_cons_zero, List.getD_cons_succ, Nat.reduceSub] at hd
                  simp only [Act.put, List.setIfInBounds_toArray, List.set_cons_zero, List.set_cons_succ] at hK
                  try simp only [hd] at hK
                  go_simp
                  exact hK.out _ ⟨hS, trivial⟩) (by kernel_rfl) (j := 9) rfl ?_
              refine flatE_fix [8] _ (fun L hL hcl v u hS hd K' hK => by
                  simp only [held, relR, eqv, List.getD_cons_zero, List.getD_cons_succ, Nat.reduceSub] at hd
                  have hc9 : u.rangeAt g (K * 7 + q * 7) rq := fun i v hi => cell_below' (hcq i v hi) hS
                  refine wanted_go3 (by first | rfl | exact hwant v hd) ?_
                  refine wp_load_mid 37 _ rfl g (K * 7 + q * 7) hd rq _ hc9 Tryd.underlying37 rfl (kV7l h7q) ?_
                  exact hK.out _ ⟨hS, trivial⟩) (by kernel_rfl) (j := 10) rfl ?_
              refine flatE_fix [0, 4, 9] _ (fun L hL hcl v u hS hd K' hK => by
                  simp only [held, relR, eqv, List.getD_cons_zero, List.getD_cons_succ, Nat.reduceSub] at hd
                  simp only [Act.put, List.setIfInBounds_toArray, List.set_cons_zero, List.set_cons_succ] at hK
                  try simp only [hd] at hK
                  go_simp
                  refine (eqV_w x y (g + 1) (g + 1) rp rq u (hvp.below hS) (hvq.below hS)).mono ?_
                  rintro e w9 ⟨rfl, hb9⟩
                  exact hK.out _ ⟨bt hS hb9, trivial⟩) (by kernel_rfl) (j := 11) rfl ?_
              refine flatE_fix [10] _ (fun L hL hcl v u hS hd K' hK => by
                  simp only [held, relR, eqv, List.getD_cons_zero, List.getD_cons_succ, Nat.reduceSub] at hd
                  simp only [Act.put, List.setIfInBounds_toArray, List.set_cons_zero, List.set_cons_succ] at hK
                  try simp only [hd] at hK
                  go_simp
                  exact hK.out _ ⟨hS, trivial⟩) (by kernel_rfl) (j := 12) rfl ?_
              refine flatE_end [11] (by decide) ?_
              rintro v u hS hR
              simp only [held, relR, eqv, List.getD_cons_zero, List.getD_cons_succ, Nat.reduceSub] at hR
              simp only [hR]
              clear hR
              have hRA5 := hRA.below hS
              have hg5 := hgw.trans (grown_below hS (row := some g))
              obtain ⟨C, hC⟩ := named (cmpV x y == 0)
              try rw [← hC.out]
              clear hC
              cases C with
              | true =>
                go_wp2_with (go_quiet (fail))
                go_roundw
                case rel => exact ⟨k, j + 1, rfl, by go_num, by omega, by omega, by omega, hRA5, hg5⟩
                case measure => simp [intOf]; omega
              | false =>
                have hcp5 : World.rangeAt _ g (K * 7 + j * 7) rp := fun i v hi => cell_below' (hcp i v hi) hS
                have hth5 := (hRA5 k hkn').choose_spec.choose_spec.2.2.1
                go_wp2_with (first
                  | refine wpList_load_mid rfl 37 _ rfl g (K * 7 + j * 7) rfl rp _ hcp5 Tryd.underlying37 rfl (kV7l h7p) ?_
                  | refine wpList_store_mid rfl 37 _ _ rfl g (k * 7) rp.toArray rfl rfl (by rw [List.size_toArray, h7p]; exact hth5) (kV7 h7p) (all_one h1p) ?_)
                go_roundw
                case rel => exact ⟨k + 1, j + 1, by go_num, by go_num, by omega, by omega, by omega, rows_set hRA5 hkn' h7p (hvp.below hS) (hthp.2.below hS), hg5.trans (grown_setCells _ _ _ _)⟩
                case measure => simp [intOf]; omega
            · have hlt2' : ¬ (j : Int) < (M : Int) := by omega
              have hkn : k < n := by omega
              have hk0 : (0 : Int) ≤ (k : Int) := by omega
              have hkn2 : (k : Int) ≤ (n : Int) := by omega
              have hkc : (k : Int) ≤ (cap : Int) := by omega
              have hkn3 : k ≤ n := by omega
              have hkc3 : k ≤ cap := by omega
              have hclr := fun ty => run_clear_rows wr ty g (k * 7) (n - k) (cap - k) (by omega) (there_rows hRA k)
              clear hMn
              go_wp2_with (first | (at_builtin; fail))
              go_ret
              exact ⟨k, hkn3, rfl, rows_cut hRA hkn3, hgw.trans (grown_setCells _ _ _ _)⟩
      · have hlt' : ¬ (p : Int) < (n : Int) := by omega
        go_wp2_with (first | (at_builtin; fail))
        go_ret
        exact ⟨n, Nat.le_refl _, rfl, hRA, hgw⟩
end Go.Proofs.YtmnfmgoolimlmaaDoor
end
