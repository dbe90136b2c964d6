/- lictorlaw06.ValueRecords. -/
import Derived.Test.YtmnfmgoolimlmaaDoorVRecord
import Derived.Test.YtmnfmgoolimlmaaDoorVLives
import Derived.Test.YtmnfmgoolimlmaaDoorGF
namespace Go.Proofs.YtmnfmgoolimlmaaDoor
set_option linter.unusedSimpArgs false
set_option linter.unusedVariables false
open Go.RowKit
theorem zero_at (w : World) : VAt w 0 (.mk 0 false 0 ⟨#[]⟩ ⟨#[]⟩ [] []) zeroRow := by
  rw [VAt]
  refine ⟨none, 0, none, 0, [], rfl, ⟨by decide, by decide, by decide, by decide, by decide⟩, Lies.nil _ _ _, (fun x h => by cases h), ⟨by decide, by decide, by decide, by decide⟩, ⟨(fun a h => by cases h), (fun a h => by cases h)⟩, Lies.nil _ _ _, by rw [VsAt]⟩
theorem tx_beq (a b : ByteArray) : (a.toList == b.toList) = true ↔ a = b := by
  rw [beq_iff_eq, ByteArray.toList_eq, ByteArray.toList_eq, Array.toList_inj]
  exact ⟨fun h => ByteArray.ext h, fun h => by rw [h]⟩
theorem nodup_at {l : List ByteArray} (h : l.Nodup) {i j : Nat} {x : ByteArray} (hi : l[i]? = some x) (hj : l[j]? = some x) : i = j := by
  obtain ⟨h1, e1⟩ := List.getElem?_eq_some_iff.1 hi
  obtain ⟨h2, e2⟩ := List.getElem?_eq_some_iff.1 hj
  exact (List.getElem_inj h).1 (e1.trans e2.symm)
set_option maxRecDepth 100000 in
set_option maxHeartbeats 2000000 in
theorem valuerecords_x (ns : List ByteArray) (l : List Vt) (o : ByteArray) (A B : Option Addr) (ca cb bx : Nat) (rows : List (List Value)) (w : World) (hT : Texts w A ns) (hnz : ∀ x ∈ ns, x.size ≤ mLen) (hns : ns.length * 16 ≤ mLen)
    (hL : Lies w B l.length 7 rows.flatten) (hV : VsAt w bx l rows) (hls : l.length * 96 ≤ mLen) (htab : Tb w) :
    Calls Tryd.prog 6 #[.slice A ns.length ca, .slice B l.length cb, .string o] w fun e w' => e = .returned (.bool true) ∧ Below w.heap.size w w' := by
  have h0 := lives6_w w htab
  have hns16 : ns.length * 16 ≤ 140737488351232 := hns
  have hls96 : l.length * 96 ≤ 140737488351232 := hls
  have hrec := fun W hW => record_w ns l A B ca cb bx rows W (hT.below hW) hnz hns (hL.below hW) (hV.below hW) hls (htab.below hW)
  have HREC := hide hrec
  have HT := hide hT
  have HL := hide hL
  have HV := hide hV
  have HTAB := hide htab
  clear hrec hT hL hV htab hnz hns hls
  obtain ⟨N, hN⟩ := named ns.length
  obtain ⟨M, hM⟩ := named l.length
  rw [← hN.out] at hns16 ⊢
  rw [← hM.out] at hls96 ⊢
  go_enter Tryd.func6, Tryd.ntmps6
  go_wp2_with fail
  refine h0.mono ?_
  rintro e w1 ⟨rfl, hb1⟩
  clear h0
  have hrec := HREC.out w1 hb1
  rw [← hN.out, ← hM.out] at hrec
  clear HREC
  go_wp2_with fail
  refine hrec.mono ?_
  rintro e w2 ⟨hb2, ⟨why, hwhy, rfl⟩ | ⟨hnd, hnl, ms, l', r', hperm, hll, hsel, hck, hvr, rfl⟩⟩
  · clear hrec
    have hw0 : (why == 0) = false := by rw [beq_eq_false_iff_ne]; exact hwhy
    have k7 := Blk.new w2 zeroRow 37
    have b7 := below_vrow (below_alloc w2 (.cells zeroRow.toArray 37)) (Nat.le_refl _) zeroRow.toArray
    have k7' := k7.vrow zeroRow
    have hs := fun W => same_n 1 (.mk 0 false 0 ⟨#[]⟩ ⟨#[]⟩ [] []) (by decide) 0 0 zeroRow zeroRow W (zero_at W) (zero_at W)
    go_wp2_with (first
      | refine wpList_store_row rfl 37 _ _ rfl _ zeroRow.toArray rfl rfl 37 zeroRow.toArray k7 (kV7 rfl) rfl (by kernel_rfl) ?_
      | refine wpList_load_row rfl 37 _ rfl _ rfl 37 zeroRow.toArray (0, 0) _ k7' Tryd.underlying37 rfl (kV7 rfl) ?_)
    refine (hs _).mono ?_
    rintro e w3 ⟨rfl, hb3⟩
    go_wp2_with fail
    go_ret
    exact ⟨rfl, bt (bt (bt hb1 hb2) b7) hb3⟩
  · clear hrec
    have h7 := vAt_len hvr
    have h1 := vAt_one hvr
    have hvr2 := hvr
    obtain ⟨X, hX⟩ : ∃ X, X = Vt.mk 5 false 0 ⟨#[]⟩ ⟨#[]⟩ ms l' := ⟨_, rfl⟩
    rw [← hX] at hvr hck
    rw [VAt] at hvr2
    obtain ⟨A1, c1, B1, d1, -, rfl, -⟩ := hvr2
    have HLL := hide hll
    have HNL := hide hnl
    clear hll hnl
    have k7 := Blk.new w2 zeroRow 37
    have b7 := below_vrow (below_alloc w2 (.cells zeroRow.toArray 37)) (Nat.le_refl _) (vRow 5 false 0 ⟨#[]⟩ ⟨#[]⟩ (.slice A1 ms.length c1) (.slice B1 l'.length d1)).toArray
    go_upto_region 7 with (first
      | refine wpList_store_row rfl 37 _ _ rfl _ (vRow 5 false 0 ⟨#[]⟩ ⟨#[]⟩ (.slice A1 ms.length c1) (.slice B1 l'.length d1)).toArray rfl rfl 37 zeroRow.toArray k7 (kV7 rfl) rfl (all_one h1) ?_)
    replace k7 := k7.vrow (vRow 5 false 0 ⟨#[]⟩ ⟨#[]⟩ (.slice A1 ms.length c1) (.slice B1 l'.length d1))
    have hvr3 := hvr.below b7
    have hb12 := bt (bt hb1 hb2) b7
    obtain ⟨W3, HW3⟩ := named ((w2.alloc (.cells zeroRow.toArray 37)).setRow w2.heap.size (vRow 5 false 0 ⟨#[]⟩ ⟨#[]⟩ (.slice A1 ms.length c1) (.slice B1 l'.length d1)).toArray)
    have HW4 : (w2.alloc (.cells #[.int .u8 0, .bool false, .int .i64 0, .string ⟨#[]⟩, .string ⟨#[]⟩, .slice none 0 0, .slice none 0 0] 37)).setRow w2.heap.size (vRow 5 false 0 ⟨#[]⟩ ⟨#[]⟩ (.slice A1 ms.length c1) (.slice B1 l'.length d1)).toArray = W3 := HW3.out.symm
    have HW5 := hide HW4
    clear HW4
    rw [← HW3.out] at k7 hvr3 hb12
    rw [HW5.out]
    clear HW3 HW5 b7 hvr hb1 hb2
    have HVR := hide hvr3
    have HB := hide hb12
    have K7 := hide k7
    have HND := hide hnd
    have HP := hide hperm
    have HS := hide hsel
    have HCK := hide hck
    have hw23 : w2.heap.size < W3.heap.size := k7.lt
    clear hvr3 hb12 k7 hnd hperm hsel hck
    go_wp2_with (first | (at_builtin; fail))
    go_loopw [9, 31] (fun kn i wr => ∃ (k : Nat) (b : Bool), k ≤ N ∧ kn = .bool b ∧ i = .int .i64 k ∧ Hid (b = true ↔ o ∈ ns.take k) ∧ Below W3.heap.size W3 wr) (fun _ i _ => N - (intOf i).toNat)
    case atStart => exact ⟨0, false, by omega, rfl, rfl, (by simp : (false = true ↔ o ∈ ns.take 0)), Below.refl _ _⟩
    case round =>
      obtain ⟨k, b, hk, rfl, rfl, HBK, hbw⟩ := hrel
      have k7 := K7.out.below hbw
      by_cases hlt : k < N
      · have hi0 : (0 : Int) ≤ (k : Int) := by omega
        have hi1 : (k : Int) < (N : Int) := by omega
        have hkn : k < ns.length := by rw [← hN.out]; exact hlt
        have hkl : k < l.length := by rw [← hM.out, ← HNL.out]; exact hlt
        have hkM : (k : Int) < (M : Int) := by have := HNL.out; omega
        have hkM' : ¬ (M : Int) ≤ (k : Int) := by omega
        have hkMn : k < M := by omega
        obtain ⟨x, hx⟩ : ∃ x, ns[k]? = some x := ⟨_, List.getElem?_eq_getElem hkn⟩
        obtain ⟨y, hy⟩ : ∃ y, l[k]? = some y := ⟨_, List.getElem?_eq_getElem hkl⟩
        obtain ⟨q, hq, hvq⟩ := vsAt_get HV.out k y hy
        obtain ⟨ba, oa, rfl⟩ := texts_open HT.out hkn
        have hL2 := HL.out
        obtain ⟨bb, ob, rfl, -⟩ := hL2.2 (fun h0 => by
          have h9 := (vsAt_len HV.out).2
          rw [h0] at h9
          simp only [List.length_nil] at h9
          omega)
        have xa := cell_below' (texts_cell HT.out hx) (bt HB.out hbw)
        have hload0 := cells_of_lies hL2 (vsAt_all7 HV.out) hq
        have hget := get_w false 0 ⟨#[]⟩ ⟨#[]⟩ x ms l' w1.heap.size _ wr (by have h := HVR.out.below hbw; rw [hX] at h; exact h) (by rw [HP.out.length_eq, HLL.out, ← HNL.out, hN.out])
        have hbx : (b || (x.toList == o.toList)) = true ↔ o ∈ ns.take (k + 1) := by
          obtain ⟨hk', e⟩ := List.getElem?_eq_some_iff.1 hx
          rw [List.take_succ_eq_append_getElem hk', e, Bool.or_eq_true, HBK.out, List.mem_append, List.mem_singleton]
          exact or_congr Iff.rfl ((tx_beq x o).trans ⟨fun h => h.symm, fun h => h.symm⟩)
        have hbxH := hide hbx
        clear hbx
        go_wp2_with (first | refine wpList_load_row rfl 37 _ rfl _ rfl 37 (vRow 5 false 0 ⟨#[]⟩ ⟨#[]⟩ (.slice A1 ms.length c1) (.slice B1 l'.length d1)).toArray (0, 0) _ k7 Tryd.underlying37 rfl (kV7 rfl) ?_ | (at_builtin; fail))
        refine hget.mono ?_
        rintro e w3 ⟨hb3, ⟨hno, -⟩ | ⟨k', y', r2, h1', h2', hv2, rfl⟩⟩
        · exact absurd (HP.out.mem_iff.2 (List.mem_of_getElem? hx)) hno
        · clear hget
          obtain ⟨i, hi1', hi2'⟩ := HS.out k' x h1'
          rw [hi2', nodup_at HND.out hi1' hx, hy] at h2'
          cases h2'
          clear hi1' hi2' h1'
          have hone := vAt_one hv2
          have hv2' := hv2
          have hvq' := hvq
          obtain ⟨kk, bo, nn, ss, tt, mm, pp⟩ := y
          rw [VAt] at hv2' hvq'
          obtain ⟨A2, c2, B2, d2, -, rfl, -⟩ := hv2'
          obtain ⟨A3, c3, B3, d3, -, rfl, -⟩ := hvq'
          have k12 := Blk.new w3 zeroRow 37
          have b12 := below_vrow (below_alloc w3 (.cells zeroRow.toArray 37)) (Nat.le_refl _) (vRow kk bo nn ss tt (.slice A2 mm.length c2) (.slice B2 pp.length d2)).toArray
          have HY := hide hy
          have HX2 := hide hx
          clear hq hy hx
          go_upto_region 11 with (first
            | refine wpList_store_row rfl 37 _ _ rfl _ (vRow kk bo nn ss tt (.slice A2 mm.length c2) (.slice B2 pp.length d2)).toArray rfl rfl 37 zeroRow.toArray k12 (kV7 rfl) rfl (all_one hone) ?_)
          replace k12 := k12.vrow (vRow kk bo nn ss tt (.slice A2 mm.length c2) (.slice B2 pp.length d2))
          have hv4 := hv2.below b12
          have hbw4 := bt (bt hbw hb3) b12
          obtain ⟨W4, HW3⟩ := named ((w3.alloc (.cells zeroRow.toArray 37)).setRow w3.heap.size (vRow kk bo nn ss tt (.slice A2 mm.length c2) (.slice B2 pp.length d2)).toArray)
          have HW4 : (w3.alloc (.cells #[.int .u8 0, .bool false, .int .i64 0, .string ⟨#[]⟩, .string ⟨#[]⟩, .slice none 0 0, .slice none 0 0] 37)).setRow w3.heap.size (vRow kk bo nn ss tt (.slice A2 mm.length c2) (.slice B2 pp.length d2)).toArray = W4 := HW3.out.symm
          have HW5 := hide HW4
          clear HW4
          rw [← HW3.out] at k12 hv4 hbw4
          rw [HW5.out]
          clear HW3 HW5 b12 hv2 xa k7
          have hload := fun u (hu : Below W4.heap.size W4 u) => hload0 u (bt (bt HB.out hbw4) hu)
          have hcall := fun u (hu : Below W4.heap.size W4 u) => same_n _ _ (Nat.le_refl _) _ _ _ _ u (hv4.below hu) (hvq.below (bt (bt HB.out hbw4) hu))
          clear hload0 hL2 hvq
          have hbx := hbxH.out
          refine region_auto (fun _ _ u => Below W4.heap.size W4 u) (fun _ _ _ => True) _ (by kernel_rfl) (by kernel_rfl) (fun v => by simp only [putsV, Act.put, List.toList_toArray, List.setIfInBounds_toArray, List.set_cons_zero, List.set_cons_succ, Nat.reduceAdd, Nat.zero_add]; rfl) (Below.refl _ _).drew (fun _ _ _ _ _ h => h) ?_
          refine flatE_fix [] _ (fun L hL hcl v u hS hd K' hK => by
              simp only [Act.put, List.setIfInBounds_toArray, List.set_cons_zero, List.set_cons_succ] at hK
              go_simp
              exact hK.out _ ⟨hS, trivial⟩) (by kernel_rfl) (j := 1) rfl ?_
          refine flatE_fix [0] _ (fun L hL hcl v u hS hd K' hK => by
              simp only [held, relR, eqv, List.getD_cons_zero, List.getD_cons_succ, Nat.reduceSub] at hd
              simp only [Act.put, List.setIfInBounds_toArray, List.set_cons_zero, List.set_cons_succ] at hK
              try simp only [hd] at hK
              go_simp
              exact hK.out _ ⟨hS, trivial⟩) (by kernel_rfl) (j := 2) rfl ?_
          refine flatE_fix [1] _ (fun L hL hcl v u hS hd K' hK => by
              simp only [held, relR, eqv, List.getD_cons_zero, List.getD_cons_succ, Nat.reduceSub] at hd
              simp only [Act.put, List.setIfInBounds_toArray, List.set_cons_zero, List.set_cons_succ] at hK
              try simp only [hd] at hK
              go_simp
              exact hK.out _ ⟨hS, trivial⟩) (by kernel_rfl) (j := 3) rfl ?_
          refine flatE_fix [2] _ (fun L hL hcl v u hS hd K' hK => by
              simp only [held, relR, eqv, List.getD_cons_zero, List.getD_cons_succ, Nat.reduceSub] at hd
              simp only [Act.put, List.setIfInBounds_toArray, List.set_cons_zero, List.set_cons_succ] at hK
              try simp only [hd] at hK
              go_simp
              exact hK.out _ ⟨hS, trivial⟩) (by kernel_rfl) (j := 4) rfl ?_
          refine flatE_fix [2] _ (fun L hL hcl v u hS hd K' hK => by
              simp only [held, relR, eqv, List.getD_cons_zero, List.getD_cons_succ, Nat.reduceSub] at hd
              simp only [Act.put, List.setIfInBounds_toArray, List.set_cons_zero, List.set_cons_succ] at hK
              try simp only [hd] at hK
              go_simp
              exact hK.out _ ⟨hS, trivial⟩) (by kernel_rfl) (j := 5) rfl ?_
          refine flatE_fix [2, 4] _ (fun L hL hcl v u hS hd K' hK => by
              simp only [held, relR, eqv, List.getD_cons_zero, List.getD_cons_succ, Nat.reduceSub] at hd
              simp only [Act.put, List.setIfInBounds_toArray, List.set_cons_zero, List.set_cons_succ] at hK
              try simp only [hd] at hK
              go_simp
              exact hK.out _ ⟨hS, trivial⟩) (by kernel_rfl) (j := 6) rfl ?_
          refine flatE_fix [2, 3, 5] _ (fun L hL hcl v u hS hd K' hK => by
              simp only [held, relR, eqv, List.getD_cons_zero, List.getD_cons_succ, Nat.reduceSub] at hd
              simp only [Act.put, List.setIfInBounds_toArray, List.set_cons_zero, List.set_cons_succ] at hK
              try simp only [hd] at hK
              go_simp
              exact hK.out _ ⟨hS, trivial⟩) (by kernel_rfl) (j := 7) rfl ?_
          refine flatE_fix [2, 6] _ (fun L hL hcl v u hS hd K' hK => by
              simp only [held, relR, eqv, List.getD_cons_zero, List.getD_cons_succ, Nat.reduceSub] at hd
              simp only [Act.put, List.setIfInBounds_toArray, List.set_cons_zero, List.set_cons_succ] at hK
              try simp only [hd] at hK
              go_simp
              exact hK.out _ ⟨hS, trivial⟩) (by kernel_rfl) (j := 8) rfl ?_
          refine flatE_fix [7] _ (fun L hL hcl v u hS hd K' hK => by
              simp only [held, relR, eqv, List.getD_cons_zero, List.getD_cons_succ, Nat.reduceSub] at hd
              simp only [Act.put, List.setIfInBounds_toArray, List.set_cons_zero, List.set_cons_succ] at hK
              try simp only [hd] at hK
              go_simp
              exact hK.out _ ⟨hS, trivial⟩) (by kernel_rfl) (j := 9) rfl ?_
          refine flatE_fix [8] _ (fun L hL hcl v u hS hd K' hK => by
              simp only [held, relR, eqv, List.getD_cons_zero, List.getD_cons_succ, Nat.reduceSub] at hd
              simp only [Act.put, List.setIfInBounds_toArray, List.set_cons_zero, List.set_cons_succ] at hK
              try simp only [hd] at hK
              have l0 : u.cell? ⟨w3.heap.size, 0, none⟩ = some (.int .u8 (kk : Int)) := cell_below' (k12.cell 0) hS
              have l1 : u.cell? ⟨w3.heap.size, 1, none⟩ = some (.bool bo) := cell_below' (k12.cell 1) hS
              have l2 : u.cell? ⟨w3.heap.size, 2, none⟩ = some (.int .i64 nn) := cell_below' (k12.cell 2) hS
              have l3 : u.cell? ⟨w3.heap.size, 3, none⟩ = some (.string ss) := cell_below' (k12.cell 3) hS
              have l4 : u.cell? ⟨w3.heap.size, 4, none⟩ = some (.string tt) := cell_below' (k12.cell 4) hS
              have l5 : u.cell? ⟨w3.heap.size, 5, none⟩ = some (.slice A2 mm.length c2) := cell_below' (k12.cell 5) hS
              have l6 : u.cell? ⟨w3.heap.size, 6, none⟩ = some (.slice B2 pp.length d2) := cell_below' (k12.cell 6) hS
              go_simp
              exact hK.out _ ⟨hS, trivial⟩) (by kernel_rfl) (j := 10) rfl ?_
          refine flatE_fix [8] _ (fun L hL hcl v u hS hd K' hK => by
              simp only [held, relR, eqv, List.getD_cons_zero, List.getD_cons_succ, Nat.reduceSub] at hd
              simp only [Act.put, List.setIfInBounds_toArray, List.set_cons_zero, List.set_cons_succ] at hK
              try simp only [hd] at hK
              go_simp
              exact hK.out _ ⟨hS, trivial⟩) (by kernel_rfl) (j := 11) rfl ?_
          refine flatE_fix [8] _ (fun L hL hcl v u hS hd K' hK => by
              simp only [held, relR, eqv, List.getD_cons_zero, List.getD_cons_succ, Nat.reduceSub] at hd
              simp only [Act.put, List.setIfInBounds_toArray, List.set_cons_zero, List.set_cons_succ] at hK
              try simp only [hd] at hK
              go_simp
              exact hK.out _ ⟨hS, trivial⟩) (by kernel_rfl) (j := 12) rfl ?_
          refine flatE_fix [8, 10, 11] _ (fun L hL hcl v u hS hd K' hK => by
              simp only [held, relR, eqv, List.getD_cons_zero, List.getD_cons_succ, Nat.reduceSub] at hd
              simp only [Act.put, List.setIfInBounds_toArray, List.set_cons_zero, List.set_cons_succ] at hK
              try simp only [hd] at hK
              go_simp
              exact hK.out _ ⟨hS, trivial⟩) (by kernel_rfl) (j := 13) rfl ?_
          refine flatE_fix [8, 12] _ (fun L hL hcl v u hS hd K' hK => by
              simp only [held, relR, eqv, List.getD_cons_zero, List.getD_cons_succ, Nat.reduceSub] at hd
              simp only [Act.put, List.setIfInBounds_toArray, List.set_cons_zero, List.set_cons_succ] at hK
              try simp only [hd] at hK
              have l0 : u.cell? ⟨bb, ob + k * 7, none⟩ = some (.int .u8 (kk : Int)) := hload u hS 0 _ rfl
              have l1 : u.cell? ⟨bb, ob + k * 7 + 1, none⟩ = some (.bool bo) := hload u hS 1 _ rfl
              have l2 : u.cell? ⟨bb, ob + k * 7 + 2, none⟩ = some (.int .i64 nn) := hload u hS 2 _ rfl
              have l3 : u.cell? ⟨bb, ob + k * 7 + 3, none⟩ = some (.string ss) := hload u hS 3 _ rfl
              have l4 : u.cell? ⟨bb, ob + k * 7 + 4, none⟩ = some (.string tt) := hload u hS 4 _ rfl
              have l5 : u.cell? ⟨bb, ob + k * 7 + 5, none⟩ = some (.slice A3 mm.length c3) := hload u hS 5 _ rfl
              have l6 : u.cell? ⟨bb, ob + k * 7 + 6, none⟩ = some (.slice B3 pp.length d3) := hload u hS 6 _ rfl
              go_simp
              exact hK.out _ ⟨hS, trivial⟩) (by kernel_rfl) (j := 14) rfl ?_
          refine flatE_fix [8, 9, 13] _ (fun L hL hcl v u hS hd K' hK => by
              simp only [held, relR, eqv, List.getD_cons_zero, List.getD_cons_succ, Nat.reduceSub] at hd
              simp only [Act.put, List.setIfInBounds_toArray, List.set_cons_zero, List.set_cons_succ] at hK
              try simp only [hd] at hK
              go_simp
              refine (hcall u hS).mono ?_
              rintro e w9 ⟨rfl, hb9⟩
              exact hK.out _ ⟨bt hS hb9, trivial⟩) (by kernel_rfl) (j := 15) rfl ?_
          refine flatE_fix [8, 14] _ (fun L hL hcl v u hS hd K' hK => by
              simp only [held, relR, eqv, List.getD_cons_zero, List.getD_cons_succ, Nat.reduceSub] at hd
              simp only [Act.put, List.setIfInBounds_toArray, List.set_cons_zero, List.set_cons_succ] at hK
              try simp only [hd] at hK
              go_simp
              exact hK.out _ ⟨hS, trivial⟩) (by kernel_rfl) (j := 16) rfl ?_
          refine flatE_fix [8, 15] _ (fun L hL hcl v u hS hd K' hK => by
              simp only [held, relR, eqv, List.getD_cons_zero, List.getD_cons_succ, Nat.reduceSub] at hd
              simp only [Act.put, List.setIfInBounds_toArray, List.set_cons_zero, List.set_cons_succ] at hK
              try simp only [hd] at hK
              go_simp
              exact hK.out _ ⟨hS, trivial⟩) (by kernel_rfl) (j := 17) rfl ?_
          refine flatE_end [16] (by decide) ?_
          rintro v u hS hR
          simp only [held, relR, eqv, List.getD_cons_zero, List.getD_cons_succ, Nat.reduceSub] at hR
          simp only [hR]
          clear hR
          have hbw5 := bt hbw4 hS
          cases b with
          | true =>
            go_wp2_with (go_quiet (fail))
            go_roundw
            case rel => exact ⟨k + 1, true, by omega, rfl, by go_num, (show (true = true ↔ o ∈ ns.take (k + 1)) from by simpa using hbx), hbw5⟩
            case measure => simp [intOf]; omega
          | false =>
            go_wp2_with (go_quiet (fail))
            go_roundw
            case rel => exact ⟨k + 1, (x.toList == o.toList), by omega, rfl, by go_num, (show ((x.toList == o.toList) = true ↔ o ∈ ns.take (k + 1)) from by simpa using hbx), hbw5⟩
            case measure => simp [intOf]; omega
      · have hi1 : ¬ (k : Int) < (N : Int) := by omega
        obtain rfl : k = N := by omega
        have hbk : b = true ↔ o ∈ ns := by
          have h := HBK.out
          rw [List.take_of_length_le (by rw [hN.out]; exact Nat.le_refl _)] at h
          exact h
        have HBK2 := hide hbk
        have hget := get_w false 0 ⟨#[]⟩ ⟨#[]⟩ o ms l' w1.heap.size _ wr (by have h := HVR.out.below hbw; rw [hX] at h; exact h) (by rw [HP.out.length_eq, HLL.out, ← HNL.out, hN.out])
        clear hbk
        go_wp2_with (first | refine wpList_load_row rfl 37 _ rfl _ rfl 37 (vRow 5 false 0 ⟨#[]⟩ ⟨#[]⟩ (.slice A1 ms.length c1) (.slice B1 l'.length d1)).toArray (0, 0) _ k7 Tryd.underlying37 rfl (kV7 rfl) ?_ | (at_builtin; fail))
        refine hget.mono ?_
        have hchk : ∀ U, Below wr.heap.size wr U → Calls Tryd.prog 20 #[.agg (vRow 5 false 0 ⟨#[]⟩ ⟨#[]⟩ (.slice A1 ms.length c1) (.slice B1 l'.length d1)).toArray] U fun e w' => e = .returned (.int .i64 0) ∧ Below U.heap.size U w' := fun U hU => by
          have h := check_n X _ _ U ((HVR.out.below hbw).below hU) (HTAB.out.below (bt (bt HB.out hbw) hU))
          rw [HCK.out] at h
          exact h
        have hlen : ((l'.length : Int) == (M : Int)) = true := by rw [beq_iff_eq]; have := HLL.out; omega
        rintro e w3 ⟨hb3, ⟨hno, rfl⟩ | ⟨k', y', r2, h1', h2', hv2, rfl⟩⟩
        · clear hget
          have hb0 : b = false := by
            cases b with
            | false => rfl
            | true => exact absurd (HP.out.mem_iff.2 (HBK2.out.1 rfl)) hno
          subst hb0
          have k12 := Blk.new w3 zeroRow 37
          have b12 := bt hb3 (below_vrow (below_alloc w3 (.cells zeroRow.toArray 37)) (Nat.le_refl _) (zeroRow).toArray)
          go_upto_region 16 with (first
            | refine wpList_store_row rfl 37 _ _ rfl _ (zeroRow).toArray rfl rfl 37 zeroRow.toArray k12 (kV7 rfl) rfl (by kernel_rfl) ?_)
          obtain ⟨W5, HW3⟩ := named ((w3.alloc (.cells zeroRow.toArray 37)).setRow w3.heap.size (zeroRow).toArray)
          have HW4 : (w3.alloc (.cells #[.int .u8 0, .bool false, .int .i64 0, .string ⟨#[]⟩, .string ⟨#[]⟩, .slice none 0 0, .slice none 0 0] 37)).setRow w3.heap.size (zeroRow).toArray = W5 := HW3.out.symm
          have HW5 := hide HW4
          clear HW4
          rw [← HW3.out] at b12
          rw [HW5.out]
          clear HW3 HW5 k12
          have k7' := k7.below b12
          have hck := hchk _ b12
          have c0 : W5.cell? ⟨w2.heap.size, 0, none⟩ = some (.int .u8 5) := k7'.cell 0
          have c1' : W5.cell? ⟨w2.heap.size, 1, none⟩ = some (.bool false) := k7'.cell 1
          have c2' : W5.cell? ⟨w2.heap.size, 2, none⟩ = some (.int .i64 0) := k7'.cell 2
          have c3' : W5.cell? ⟨w2.heap.size, 3, none⟩ = some (.string ⟨#[]⟩) := k7'.cell 3
          have c4' : W5.cell? ⟨w2.heap.size, 4, none⟩ = some (.string ⟨#[]⟩) := k7'.cell 4
          have c5' : W5.cell? ⟨w2.heap.size, 5, none⟩ = some (.slice A1 ms.length c1) := k7'.cell 5
          have c6' : W5.cell? ⟨w2.heap.size, 6, none⟩ = some (.slice B1 l'.length d1) := k7'.cell 6
          clear hchk HBK HBK2 k7
          go_wp2_with (first | (at_builtin; fail))
          refine hck.mono ?_
          rintro e w6 ⟨rfl, hb6⟩
          have c6 := cell_below' c6' hb6
          clear c0 c1' c2' c3' c4' c5' c6' hck
          go_wp2_with (first | (at_builtin; fail))
          go_ret
          exact ⟨rfl, bt (bt (bt HB.out hbw) b12) hb6⟩
        · clear hget
          have hb1 : b = true := HBK2.out.2 (HP.out.mem_iff.1 (List.mem_of_getElem? h1'))
          subst hb1
          have hone := vAt_one hv2
          obtain ⟨kk, bo, nn, ss, tt, mm, pp⟩ := y'
          rw [VAt] at hv2
          obtain ⟨A2, c2, B2, d2, -, rfl, -⟩ := hv2
          have k12 := Blk.new w3 zeroRow 37
          have b12 := bt hb3 (below_vrow (below_alloc w3 (.cells zeroRow.toArray 37)) (Nat.le_refl _) (vRow kk bo nn ss tt (.slice A2 mm.length c2) (.slice B2 pp.length d2)).toArray)
          go_upto_region 16 with (first
            | refine wpList_store_row rfl 37 _ _ rfl _ (vRow kk bo nn ss tt (.slice A2 mm.length c2) (.slice B2 pp.length d2)).toArray rfl rfl 37 zeroRow.toArray k12 (kV7 rfl) rfl (all_one hone) ?_)
          obtain ⟨W5, HW3⟩ := named ((w3.alloc (.cells zeroRow.toArray 37)).setRow w3.heap.size (vRow kk bo nn ss tt (.slice A2 mm.length c2) (.slice B2 pp.length d2)).toArray)
          have HW4 : (w3.alloc (.cells #[.int .u8 0, .bool false, .int .i64 0, .string ⟨#[]⟩, .string ⟨#[]⟩, .slice none 0 0, .slice none 0 0] 37)).setRow w3.heap.size (vRow kk bo nn ss tt (.slice A2 mm.length c2) (.slice B2 pp.length d2)).toArray = W5 := HW3.out.symm
          have HW5 := hide HW4
          clear HW4
          rw [← HW3.out] at b12
          rw [HW5.out]
          clear HW3 HW5 k12
          have k7' := k7.below b12
          have hck := hchk _ b12
          have c0 : W5.cell? ⟨w2.heap.size, 0, none⟩ = some (.int .u8 5) := k7'.cell 0
          have c1' : W5.cell? ⟨w2.heap.size, 1, none⟩ = some (.bool false) := k7'.cell 1
          have c2' : W5.cell? ⟨w2.heap.size, 2, none⟩ = some (.int .i64 0) := k7'.cell 2
          have c3' : W5.cell? ⟨w2.heap.size, 3, none⟩ = some (.string ⟨#[]⟩) := k7'.cell 3
          have c4' : W5.cell? ⟨w2.heap.size, 4, none⟩ = some (.string ⟨#[]⟩) := k7'.cell 4
          have c5' : W5.cell? ⟨w2.heap.size, 5, none⟩ = some (.slice A1 ms.length c1) := k7'.cell 5
          have c6' : W5.cell? ⟨w2.heap.size, 6, none⟩ = some (.slice B1 l'.length d1) := k7'.cell 6
          clear hchk HBK HBK2 k7
          go_wp2_with (first | (at_builtin; fail))
          refine hck.mono ?_
          rintro e w6 ⟨rfl, hb6⟩
          have c6 := cell_below' c6' hb6
          clear c0 c1' c2' c3' c4' c5' c6' hck
          go_wp2_with (first | (at_builtin; fail))
          go_ret
          exact ⟨rfl, bt (bt (bt HB.out hbw) b12) hb6⟩
theorem valuerecords_w (ns : List ByteArray) (A : Option Addr) (ca : Nat) (l : List Vt) (rows : List (List Value)) (B : Option Addr) (cb : Nat) (o : ByteArray) (w : World) (hT : Texts w A ns) (hnz : ∀ x ∈ ns, x.size ≤ mLen) (hns : ns.length * 16 ≤ mLen)
    (hL : Lies w B l.length 7 rows.flatten) (hV : VsAt w 0 l rows) (hls : l.length * 96 ≤ mLen) (htab : Tb w) :
    Calls Tryd.prog 6 #[.slice A ns.length ca, .slice B l.length cb, .string o] w fun e w' => e = .returned (.bool true) ∧ Below w.heap.size w w' :=
  valuerecords_x ns l o A B ca cb 0 rows w hT hnz hns hL hV hls htab
end Go.Proofs.YtmnfmgoolimlmaaDoor
