/- lictorref06.Same at two values that are one tree: true. -/
import Derived.Test.YtmnfmgoolimlmaaDoorVRow
import Derived.Test.YtmnfmgoolimlmaaDoorGF
namespace Go.Proofs.YtmnfmgoolimlmaaDoor
set_option linter.unusedSimpArgs false
set_option linter.unusedVariables false
open Go.RowKit
theorem texts_cell {w : World} {b o : Nat} {l : List ByteArray} {k : Nat} {x : ByteArray} (h : Texts w (some ⟨b, o, none⟩) l) (hx : l[k]? = some x) : w.cell? ⟨b, o + k, none⟩ = some (.string x) := by
  obtain ⟨hk, rfl⟩ := List.getElem?_eq_some_iff.1 hx
  obtain ⟨b', o', e, hc⟩ := h.at_ hk
  cases e
  exact hc
theorem texts_open {w : World} {A : Option Addr} {l : List ByteArray} {k : Nat} (h : Texts w A l) (hk : k < l.length) : ∃ b o, A = some ⟨b, o, none⟩ := by
  obtain ⟨b', o', e, hc⟩ := h.at_ hk
  exact ⟨b', o', e⟩
set_option maxRecDepth 100000 in
set_option maxHeartbeats 2000000 in
theorem same_n : ∀ (N : Nat) (x : Vt), x.ht ≤ N → ∀ (bx by_ : Nat) (r q : List Value) (w : World), VAt w bx x r → VAt w by_ x q →
    Calls Tryd.prog 18 #[.agg r.toArray, .agg q.toArray] w fun e w' => e = .returned (.bool true) ∧ Below w.heap.size w w' := by
  intro N
  induction N with
  | zero => intro x h; cases x; rw [Vt.ht] at h; omega
  | succ N ih =>
    intro x hht bx by_ r q w hx hy
    obtain ⟨k0, b, z, s, t, ns, l⟩ := x
    rw [Vt.ht] at hht
    rw [VAt] at hx hy
    obtain ⟨A, ca, B, cb, rows, rfl, -, hTa, -, ⟨hna, -, hla, -⟩, -, hLa, hVa⟩ := hx
    obtain ⟨A', ca', B', cb', rows', rfl, -, hTb, -, -, -, hLb, hVb⟩ := hy
    obtain ⟨k1, k2, hbw⟩ := box2 w (vRow k0 b z s t (.slice A ns.length ca) (.slice B l.length cb)) (vRow k0 b z s t (.slice A' ns.length ca') (.slice B' l.length cb')) 37
    obtain ⟨W, HW⟩ := named ((w.alloc (.cells (vRow k0 b z s t (.slice A ns.length ca) (.slice B l.length cb)).toArray 37)).alloc (.cells (vRow k0 b z s t (.slice A' ns.length ca') (.slice B' l.length cb')).toArray 37))
    unfold mLen at hna hla
    go_enter Tryd.func18, Tryd.ntmps18
    go_upto_region 1 with (go_quiet (fail))
    rw [← HW.out] at k1 k2 hbw ⊢
    clear HW
    have x0 : W.cell? ⟨w.heap.size, 0, none⟩ = some (.int .u8 (k0 : Int)) := k1.cell 0
    have x1 : W.cell? ⟨w.heap.size, 1, none⟩ = some (.bool b) := k1.cell 1
    have x2 : W.cell? ⟨w.heap.size, 2, none⟩ = some (.int .i64 z) := k1.cell 2
    have x3 : W.cell? ⟨w.heap.size, 3, none⟩ = some (.string s) := k1.cell 3
    have x4 : W.cell? ⟨w.heap.size, 4, none⟩ = some (.string t) := k1.cell 4
    have x5 : W.cell? ⟨w.heap.size, 5, none⟩ = some (.slice A ns.length ca) := k1.cell 5
    have x6 : W.cell? ⟨w.heap.size, 6, none⟩ = some (.slice B l.length cb) := k1.cell 6
    have y0 : W.cell? ⟨(w.heap.size + 1), 0, none⟩ = some (.int .u8 (k0 : Int)) := k2.cell 0
    have y1 : W.cell? ⟨(w.heap.size + 1), 1, none⟩ = some (.bool b) := k2.cell 1
    have y2 : W.cell? ⟨(w.heap.size + 1), 2, none⟩ = some (.int .i64 z) := k2.cell 2
    have y3 : W.cell? ⟨(w.heap.size + 1), 3, none⟩ = some (.string s) := k2.cell 3
    have y4 : W.cell? ⟨(w.heap.size + 1), 4, none⟩ = some (.string t) := k2.cell 4
    have y5 : W.cell? ⟨(w.heap.size + 1), 5, none⟩ = some (.slice A' ns.length ca') := k2.cell 5
    have y6 : W.cell? ⟨(w.heap.size + 1), 6, none⟩ = some (.slice B' l.length cb') := k2.cell 6
    have hbb : (b == b) = true := by simp
    have hss : (s.toList == s.toList) = true := by simp
    have htt : (t.toList == t.toList) = true := by simp
    have HTA := hide (hTa.below hbw)
    have HTB := hide (hTb.below hbw)
    have HLA := hide (hLa.below hbw)
    have HLB := hide (hLb.below hbw)
    have HVA := hide (hVa.below hbw)
    have HVB := hide (hVb.below hbw)
    clear hTa hTb hLa hLb hVa hVb
    go_wp2_with (first | (at_builtin; fail))
    clear hss htt hbb x0 x1 x2 x3 x4 y0 y1 y2 y3 y4
    have X5 := hide x5
    have X6 := hide x6
    have Y5 := hide y5
    have Y6 := hide y6
    have HB := hide hbw
    clear x5 x6 y5 y6 hbw k1 k2
    go_loopw [61] (fun i wr => ∃ k : Nat, k ≤ ns.length ∧ i = .int .i64 k ∧ Below W.heap.size W wr) (fun i _ => ns.length - (intOf i).toNat)
    case atStart => exact ⟨0, by omega, rfl, Below.refl _ _⟩
    case round =>
      obtain ⟨k, hk, rfl, hbw⟩ := hrel
      by_cases hlt : k < ns.length
      · have hi0 : (0 : Int) ≤ (k : Int) := by omega
        have hi1 : (k : Int) < (ns.length : Int) := by omega
        obtain ⟨ba, oa, rfl⟩ := texts_open HTA.out hlt
        obtain ⟨bc, oc, rfl⟩ := texts_open HTB.out hlt
        obtain ⟨nx, hnx⟩ : ∃ x, ns[k]? = some x := ⟨_, List.getElem?_eq_getElem hlt⟩
        have xa := cell_below' (texts_cell HTA.out hnx) hbw
        have ya := cell_below' (texts_cell HTB.out hnx) hbw
        have x5 := cell_below' X5.out hbw
        have y5 := cell_below' Y5.out hbw
        clear hnx
        have hnn : (nx.toList == nx.toList) = true := by simp
        go_upto_region 6 with (go_quiet (fail))
        refine region_auto (fun _ _ u => Below wr.heap.size wr u) (fun _ _ _ => True) _ (by kernel_rfl) (by kernel_rfl) (fun v => by simp only [putsV, Act.put, List.toList_toArray, List.setIfInBounds_toArray, List.set_cons_zero, List.set_cons_succ, Nat.reduceAdd, Nat.zero_add]; rfl) (Below.refl _ _).drew (fun _ _ _ _ _ h => h) ?_
        refine flatE_fix [] _ (fun L hL hcl v u hS hd K' hK => by
            simp only [Act.put, List.setIfInBounds_toArray, List.set_cons_zero, List.set_cons_succ] at hK
            go_simp
            exact hK.out _ ⟨hS, trivial⟩) (by kernel_rfl) (j := 1) rfl ?_
        refine flatE_fix [0] _ (fun L hL hcl v u hS hd K' hK => by
            simp only [held, relR, eqv, List.getD_cons_zero, List.getD_cons_succ, Nat.reduceSub] at hd
            simp only [Act.put, List.setIfInBounds_toArray, List.set_cons_zero, List.set_cons_succ] at hK
            try simp only [hd] at hK
            have c0 := cell_below' x5 hS
            go_simp
            exact hK.out _ ⟨hS, trivial⟩) (by kernel_rfl) (j := 2) rfl ?_
        refine flatE_fix [] _ (fun L hL hcl v u hS hd K' hK => by
            simp only [Act.put, List.setIfInBounds_toArray, List.set_cons_zero, List.set_cons_succ] at hK
            go_simp
            exact hK.out _ ⟨hS, trivial⟩) (by kernel_rfl) (j := 3) rfl ?_
        refine flatE_fix [1, 2] _ (fun L hL hcl v u hS hd K' hK => by
            simp only [held, relR, eqv, List.getD_cons_zero, List.getD_cons_succ, Nat.reduceSub] at hd
            simp only [Act.put, List.setIfInBounds_toArray, List.set_cons_zero, List.set_cons_succ] at hK
            try simp only [hd] at hK
            go_simp
            exact hK.out _ ⟨hS, trivial⟩) (by kernel_rfl) (j := 4) rfl ?_
        refine flatE_fix [3] _ (fun L hL hcl v u hS hd K' hK => by
            simp only [held, relR, eqv, List.getD_cons_zero, List.getD_cons_succ, Nat.reduceSub] at hd
            simp only [Act.put, List.setIfInBounds_toArray, List.set_cons_zero, List.set_cons_succ] at hK
            try simp only [hd] at hK
            have c0 := cell_below' xa hS
            go_simp
            exact hK.out _ ⟨hS, trivial⟩) (by kernel_rfl) (j := 5) rfl ?_
        refine flatE_fix [] _ (fun L hL hcl v u hS hd K' hK => by
            simp only [Act.put, List.setIfInBounds_toArray, List.set_cons_zero, List.set_cons_succ] at hK
            go_simp
            exact hK.out _ ⟨hS, trivial⟩) (by kernel_rfl) (j := 6) rfl ?_
        refine flatE_fix [5] _ (fun L hL hcl v u hS hd K' hK => by
            simp only [held, relR, eqv, List.getD_cons_zero, List.getD_cons_succ, Nat.reduceSub] at hd
            simp only [Act.put, List.setIfInBounds_toArray, List.set_cons_zero, List.set_cons_succ] at hK
            try simp only [hd] at hK
            have c0 := cell_below' y5 hS
            go_simp
            exact hK.out _ ⟨hS, trivial⟩) (by kernel_rfl) (j := 7) rfl ?_
        refine flatE_fix [] _ (fun L hL hcl v u hS hd K' hK => by
            simp only [Act.put, List.setIfInBounds_toArray, List.set_cons_zero, List.set_cons_succ] at hK
            go_simp
            exact hK.out _ ⟨hS, trivial⟩) (by kernel_rfl) (j := 8) rfl ?_
        refine flatE_fix [6, 7] _ (fun L hL hcl v u hS hd K' hK => by
            simp only [held, relR, eqv, List.getD_cons_zero, List.getD_cons_succ, Nat.reduceSub] at hd
            simp only [Act.put, List.setIfInBounds_toArray, List.set_cons_zero, List.set_cons_succ] at hK
            try simp only [hd] at hK
            go_simp
            exact hK.out _ ⟨hS, trivial⟩) (by kernel_rfl) (j := 9) rfl ?_
        refine flatE_fix [8] _ (fun L hL hcl v u hS hd K' hK => by
            simp only [held, relR, eqv, List.getD_cons_zero, List.getD_cons_succ, Nat.reduceSub] at hd
            simp only [Act.put, List.setIfInBounds_toArray, List.set_cons_zero, List.set_cons_succ] at hK
            try simp only [hd] at hK
            have c0 := cell_below' ya hS
            go_simp
            exact hK.out _ ⟨hS, trivial⟩) (by kernel_rfl) (j := 10) rfl ?_
        refine flatE_fix [4, 9] _ (fun L hL hcl v u hS hd K' hK => by
            simp only [held, relR, eqv, List.getD_cons_zero, List.getD_cons_succ, Nat.reduceSub] at hd
            simp only [Act.put, List.setIfInBounds_toArray, List.set_cons_zero, List.set_cons_succ] at hK
            try simp only [hd] at hK
            go_simp
            exact hK.out _ ⟨hS, trivial⟩) (by kernel_rfl) (j := 11) rfl ?_
        refine flatE_end [10] (by decide) ?_
        rintro v u hS hR
        simp only [held, relR, eqv, List.getD_cons_zero, List.getD_cons_succ, Nat.reduceSub] at hR
        have hbw := bt hbw hS
        simp only [hR]
        clear hR
        go_wp2_with (go_quiet (fail))
        go_roundw
        case rel => exact ⟨k + 1, by omega, by go_num, hbw⟩
        case measure => simp [intOf]; omega
      · have hi1 : ¬ (k : Int) < (ns.length : Int) := by omega
        have x6 := cell_below' X6.out hbw
        clear hlt
        go_wp2_with (first | (at_builtin; fail))
        clear x6 hi1 hk
        obtain ⟨W1, hW1⟩ := named wr
        have HB1 := hide hbw
        clear hbw
        go_loopw [79] (fun i wr => ∃ k : Nat, k ≤ l.length ∧ i = .int .i64 k ∧ Below W.heap.size W wr) (fun i _ => l.length - (intOf i).toNat)
        case atStart => exact ⟨0, by omega, rfl, HB1.out⟩
        case round =>
          obtain ⟨i, hi, rfl, hbw⟩ := hrel
          by_cases hlt : i < l.length
          · have hi0 : (0 : Int) ≤ (i : Int) := by omega
            have hi1 : (i : Int) < (l.length : Int) := by omega
            obtain ⟨x, hx⟩ : ∃ x, l[i]? = some x := ⟨_, List.getElem?_eq_getElem hlt⟩
            have hva := HVA.out
            have hvb := HVB.out
            obtain ⟨r, hr, hvr⟩ := vsAt_get hva i x hx
            obtain ⟨q, hq, hvq⟩ := vsAt_get hvb i x hx
            have hne : ∀ {base : Nat} {rows : List (List Value)}, VsAt W base l rows → rows.flatten ≠ [] := fun hv h0 => by
              have h9 := (vsAt_len hv).2
              rw [h0] at h9
              simp only [List.length_nil] at h9
              omega
            have hla2 := HLA.out
            have hlb2 := HLB.out
            obtain ⟨ba, oa, rfl, -⟩ := hla2.2 (hne hva)
            obtain ⟨bc, oc, rfl, -⟩ := hlb2.2 (hne hvb)
            have hloadA0 := cells_of_lies hla2 (vsAt_all7 hva) hr
            have hloadB0 := cells_of_lies hlb2 (vsAt_all7 hvb) hq
            have hcall0 : ∀ u, Below W.heap.size W u → Calls Tryd.prog 18 #[.agg r.toArray, .agg q.toArray] u fun e w' => e = .returned (.bool true) ∧ Below u.heap.size u w' := fun u hu => ih x (by have := Vt.ht_mem (List.mem_of_getElem? hx); omega) _ _ r q u (hvr.below hu) (hvq.below hu)
            obtain ⟨kk, bb, nn, ss, tt, ms, pp⟩ := x
            rw [VAt] at hvr hvq
            obtain ⟨A1, c1, B1, d1, -, rfl, -⟩ := hvr
            obtain ⟨A2, c2, B2, d2, -, rfl, -⟩ := hvq
            have hloadA := fun u hu => hloadA0 u (bt hbw hu)
            have hloadB := fun u hu => hloadB0 u (bt hbw hu)
            have hcall := fun u hu => hcall0 u (bt hbw hu)
            have x6 := cell_below' X6.out hbw
            have y6 := cell_below' Y6.out hbw
            clear hloadA0 hloadB0 hcall0 hva hvb hla2 hlb2 hr hq hne hx ih
            go_upto_region 12 with (go_quiet (fail))
            refine region_auto (fun _ _ u => Below wr.heap.size wr u) (fun _ _ _ => True) _ (by kernel_rfl) (by kernel_rfl) (fun v => by simp only [putsV, Act.put, List.toList_toArray, List.setIfInBounds_toArray, List.set_cons_zero, List.set_cons_succ, Nat.reduceAdd, Nat.zero_add]; rfl) (Below.refl _ _).drew (fun _ _ _ _ _ h => h) ?_
            refine flatE_fix [] _ (fun L hL hcl v u hS hd K' hK => by
                simp only [Act.put, List.setIfInBounds_toArray, List.set_cons_zero, List.set_cons_succ] at hK
                go_simp
                exact hK.out _ ⟨hS, trivial⟩) (by kernel_rfl) (j := 1) rfl ?_
            refine flatE_fix [0] _ (fun L hL hcl v u hS hd K' hK => by
                simp only [held, relR, eqv, List.getD_cons_zero, List.getD_cons_succ, Nat.reduceSub] at hd
                simp only [Act.put, List.setIfInBounds_toArray, List.set_cons_zero, List.set_cons_succ] at hK
                try simp only [hd] at hK
                have c0 := cell_below' x6 hS
                go_simp
                exact hK.out _ ⟨hS, trivial⟩) (by kernel_rfl) (j := 2) rfl ?_
            refine flatE_fix [] _ (fun L hL hcl v u hS hd K' hK => by
                simp only [Act.put, List.setIfInBounds_toArray, List.set_cons_zero, List.set_cons_succ] at hK
                go_simp
                exact hK.out _ ⟨hS, trivial⟩) (by kernel_rfl) (j := 3) rfl ?_
            refine flatE_fix [1, 2] _ (fun L hL hcl v u hS hd K' hK => by
                simp only [held, relR, eqv, List.getD_cons_zero, List.getD_cons_succ, Nat.reduceSub] at hd
                simp only [Act.put, List.setIfInBounds_toArray, List.set_cons_zero, List.set_cons_succ] at hK
                try simp only [hd] at hK
                go_simp
                exact hK.out _ ⟨hS, trivial⟩) (by kernel_rfl) (j := 4) rfl ?_
            refine flatE_fix [3] _ (fun L hL hcl v u hS hd K' hK => by
                simp only [held, relR, eqv, List.getD_cons_zero, List.getD_cons_succ, Nat.reduceSub] at hd
                simp only [Act.put, List.setIfInBounds_toArray, List.set_cons_zero, List.set_cons_succ] at hK
                try simp only [hd] at hK
                have l0 : u.cell? ⟨ba, oa + i * 7, none⟩ = some (.int .u8 (kk : Int)) := hloadA u hS 0 _ rfl
                have l1 : u.cell? ⟨ba, oa + i * 7 + 1, none⟩ = some (.bool bb) := hloadA u hS 1 _ rfl
                have l2 : u.cell? ⟨ba, oa + i * 7 + 2, none⟩ = some (.int .i64 nn) := hloadA u hS 2 _ rfl
                have l3 : u.cell? ⟨ba, oa + i * 7 + 3, none⟩ = some (.string ss) := hloadA u hS 3 _ rfl
                have l4 : u.cell? ⟨ba, oa + i * 7 + 4, none⟩ = some (.string tt) := hloadA u hS 4 _ rfl
                have l5 : u.cell? ⟨ba, oa + i * 7 + 5, none⟩ = some (.slice A1 ms.length c1) := hloadA u hS 5 _ rfl
                have l6 : u.cell? ⟨ba, oa + i * 7 + 6, none⟩ = some (.slice B1 pp.length d1) := hloadA u hS 6 _ rfl
                go_simp
                exact hK.out _ ⟨hS, trivial⟩) (by kernel_rfl) (j := 5) rfl ?_
            refine flatE_fix [] _ (fun L hL hcl v u hS hd K' hK => by
                simp only [Act.put, List.setIfInBounds_toArray, List.set_cons_zero, List.set_cons_succ] at hK
                go_simp
                exact hK.out _ ⟨hS, trivial⟩) (by kernel_rfl) (j := 6) rfl ?_
            refine flatE_fix [5] _ (fun L hL hcl v u hS hd K' hK => by
                simp only [held, relR, eqv, List.getD_cons_zero, List.getD_cons_succ, Nat.reduceSub] at hd
                simp only [Act.put, List.setIfInBounds_toArray, List.set_cons_zero, List.set_cons_succ] at hK
                try simp only [hd] at hK
                have c0 := cell_below' y6 hS
                go_simp
                exact hK.out _ ⟨hS, trivial⟩) (by kernel_rfl) (j := 7) rfl ?_
            refine flatE_fix [] _ (fun L hL hcl v u hS hd K' hK => by
                simp only [Act.put, List.setIfInBounds_toArray, List.set_cons_zero, List.set_cons_succ] at hK
                go_simp
                exact hK.out _ ⟨hS, trivial⟩) (by kernel_rfl) (j := 8) rfl ?_
            refine flatE_fix [6, 7] _ (fun L hL hcl v u hS hd K' hK => by
                simp only [held, relR, eqv, List.getD_cons_zero, List.getD_cons_succ, Nat.reduceSub] at hd
                simp only [Act.put, List.setIfInBounds_toArray, List.set_cons_zero, List.set_cons_succ] at hK
                try simp only [hd] at hK
                go_simp
                exact hK.out _ ⟨hS, trivial⟩) (by kernel_rfl) (j := 9) rfl ?_
            refine flatE_fix [8] _ (fun L hL hcl v u hS hd K' hK => by
                simp only [held, relR, eqv, List.getD_cons_zero, List.getD_cons_succ, Nat.reduceSub] at hd
                simp only [Act.put, List.setIfInBounds_toArray, List.set_cons_zero, List.set_cons_succ] at hK
                try simp only [hd] at hK
                have l0 : u.cell? ⟨bc, oc + i * 7, none⟩ = some (.int .u8 (kk : Int)) := hloadB u hS 0 _ rfl
                have l1 : u.cell? ⟨bc, oc + i * 7 + 1, none⟩ = some (.bool bb) := hloadB u hS 1 _ rfl
                have l2 : u.cell? ⟨bc, oc + i * 7 + 2, none⟩ = some (.int .i64 nn) := hloadB u hS 2 _ rfl
                have l3 : u.cell? ⟨bc, oc + i * 7 + 3, none⟩ = some (.string ss) := hloadB u hS 3 _ rfl
                have l4 : u.cell? ⟨bc, oc + i * 7 + 4, none⟩ = some (.string tt) := hloadB u hS 4 _ rfl
                have l5 : u.cell? ⟨bc, oc + i * 7 + 5, none⟩ = some (.slice A2 ms.length c2) := hloadB u hS 5 _ rfl
                have l6 : u.cell? ⟨bc, oc + i * 7 + 6, none⟩ = some (.slice B2 pp.length d2) := hloadB u hS 6 _ rfl
                go_simp
                exact hK.out _ ⟨hS, trivial⟩) (by kernel_rfl) (j := 10) rfl ?_
            refine flatE_fix [4, 9] _ (fun L hL hcl v u hS hd K' hK => by
                simp only [held, relR, eqv, List.getD_cons_zero, List.getD_cons_succ, Nat.reduceSub] at hd
                simp only [Act.put, List.setIfInBounds_toArray, List.set_cons_zero, List.set_cons_succ] at hK
                try simp only [hd] at hK
                go_simp
                refine (hcall u hS).mono ?_
                rintro e w2 ⟨rfl, hb2⟩
                exact hK.out _ ⟨bt hS hb2, trivial⟩) (by kernel_rfl) (j := 11) rfl ?_
            refine flatE_fix [10] _ (fun L hL hcl v u hS hd K' hK => by
                simp only [held, relR, eqv, List.getD_cons_zero, List.getD_cons_succ, Nat.reduceSub] at hd
                simp only [Act.put, List.setIfInBounds_toArray, List.set_cons_zero, List.set_cons_succ] at hK
                try simp only [hd] at hK
                go_simp
                exact hK.out _ ⟨hS, trivial⟩) (by kernel_rfl) (j := 12) rfl ?_
            refine flatE_end [11] (by decide) ?_
            rintro v u hS hR
            simp only [held, relR, eqv, List.getD_cons_zero, List.getD_cons_succ, Nat.reduceSub] at hR
            have hbw := bt hbw hS
            simp only [hR]
            clear hR
            go_wp2_with (go_quiet (fail))
            go_roundw
            case rel => exact ⟨i + 1, by omega, by go_num, hbw⟩
            case measure => simp [intOf]; omega
          · have hi1 : ¬ (i : Int) < (l.length : Int) := by omega
            go_wp2_with (first | (at_builtin; fail))
            go_ret
            exact ⟨rfl, bt HB.out hbw⟩
end Go.Proofs.YtmnfmgoolimlmaaDoor
