/- Several small texts of this proof, one behind the other. -/
import Derived.Test.YtmnfmgoolimlmaaDoorGK
import Derived.Test.YtmnfmgoolimlmaaDoorVRow
import Derived.Test.YtmnfmgoolimlmaaDoorGF
import Derived.Deep.MidRow
import Derived.Test.YtmnfmgoolimlmaaDoorVCmp
section
/- Rows of values that are sorted in place: what stays; slices.swapRangeCmpFunc. -/
namespace Go.Proofs.YtmnfmgoolimlmaaDoor
set_option linter.unusedSimpArgs false
set_option linter.unusedVariables false
open Go.RowKit
theorem wanted_go3 {c p q : Prop} [Decidable c] (h : c) (hp : p) : if c then p else q := by rw [if_pos h]; exact hp
theorem kV7l {r : List Value} (h : r.length = 7) : (Tryd.prog.info? 37).map (·.size) = some r.length := by rw [h]; exact kV
/-- n rows of values lie in block g from its head on; what they lead to lies behind g. -/
def RowsAt (w : World) (g n : Nat) : Prop := ∀ j, j < n → ∃ (x : Vt) (r : List Value), w.rangeAt g (j * 7) r ∧ VAt w (g + 1) x r ∧ w.there g (j * 7) 7 ∧ Wr2 w r
theorem grown_setCells (w : World) (b : Nat) : ∀ (o : Nat) (vs : List Value), w.grownBy (w.setCells b o vs) (some b) := by
  intro o vs
  induction vs generalizing w o with
  | nil => exact World.grownBy.refl _ _
  | cons v vs ih =>
    rw [World.setCells]
    have h1 : w.grownBy (w.setCell ⟨b, o, none⟩ v) (some b) := ⟨rfl, rfl, rfl, by simp [World.setCell], fun i _ hi => Below.heap_setCell w ⟨b, o, none⟩ v i (fun e => hi (by rw [e]))⟩
    exact h1.trans (ih _ _)
theorem there_set7 {w : World} {b o n : Nat} (h : w.there b o n) (b' o' : Nat) (vs : List Value) : (w.setCells b' o' vs).there b o n := fun j hj =>
  ⟨World.isSome_setCells b' vs o' w _ (h j hj).1, by rw [World.frozen?_setCells]; exact (h j hj).2⟩
theorem RowsAt.below {w w' : World} {g n : Nat} (h : RowsAt w g n) (hb : Below w.heap.size w w') : RowsAt w' g n := fun j hj => by
  obtain ⟨x, r, h1, h2, h3, h4⟩ := h j hj
  have hlt : g < w.heap.size := by
    have := (h3 0 (by omega)).1
    obtain ⟨v, hv⟩ := Option.isSome_iff_exists.1 this
    exact World.block_lt_of_cell? w _ hv
  refine ⟨x, r, fun i v hi => cell_below' (h1 i v hi) hb, h2.below hb, fun i hi => ?_, h4.below hb⟩
  have hc := h3 i hi
  rw [hb.cell (p := ⟨g, j * 7 + i, none⟩) hlt]
  refine ⟨hc.1, ?_⟩
  have := hc.2
  unfold World.frozen? at this ⊢
  rw [hb.block g hlt]
  exact this
theorem rows_swap {w u : World} {g n p q : Nat} {rp rq : List Value} {x y : Vt} (h : RowsAt w g n) (hp : p < n) (hq : q < n) (h1 : u.rangeAt g (p * 7) rq) (h2 : u.rangeAt g (q * 7) rp) (h7p : rp.length = 7) (h7q : rq.length = 7) (hvp : VAt w (g + 1) x rp) (hvq : VAt w (g + 1) y rq) (hwp : Wr2 w rp) (hwq : Wr2 w rq)
    (h3 : ∀ j r, j ≠ p → j ≠ q → r.length = 7 → w.rangeAt g (j * 7) r → u.rangeAt g (j * 7) r) (h4 : ∀ j, w.there g (j * 7) 7 → u.there g (j * 7) 7) (h5 : w.grownBy u (some g)) : RowsAt u g n := by
  intro j hj
  obtain ⟨z, r, k1, k2, k3, k4⟩ := h j hj
  have hka := KA.grown h5
  by_cases e : j = p
  · subst e
    exact ⟨y, rq, h1, hvq.ka hka, h4 _ k3, hwq.grown h5 hvq⟩
  · by_cases e2 : j = q
    · subst e2
      exact ⟨x, rp, h2, hvp.ka hka, h4 _ k3, hwp.grown h5 hvp⟩
    · exact ⟨z, r, h3 j r e e2 (vAt_len k2) k1, k2.ka hka, h4 _ k3, k4.grown h5 k2⟩
set_option maxRecDepth 100000 in
set_option maxHeartbeats 1000000 in
theorem swapRange_n (g n cap a b m : Nat) (cmp : Value) (w : World) (hR : RowsAt w g n) (ha : a + m ≤ n) (hb : b + m ≤ n) (hab : a ≠ b) (hn : n ≤ 1466015503701) :
    Calls Tryd.prog 106 #[.slice (some ⟨g, 0, none⟩) n cap, .int .i64 a, .int .i64 b, .int .i64 m, cmp] w fun e w' => e = .returned (.tuple #[]) ∧ RowsAt w' g n ∧ w.grownBy w' (some g) := by
  have HR := hide hR
  clear hR
  go_enter Tryd.func106, Tryd.ntmps106
  go_wp2_with (first | (at_builtin; fail))
  go_loopw [10] (fun i wr => ∃ k : Nat, k ≤ m ∧ i = .int .i64 k ∧ RowsAt wr g n ∧ w.grownBy wr (some g)) (fun i _ => m - (intOf i).toNat)
  case atStart => exact ⟨0, by omega, rfl, HR.out, World.grownBy.refl _ _⟩
  case round =>
    clear HR
    obtain ⟨i, hi, rfl, hRA, hgw⟩ := hrel
    by_cases hlt : i < m
    · have hi0 : (0 : Int) ≤ (i : Int) := by omega
      have hi1 : (i : Int) < (m : Int) := by omega
      obtain ⟨p, hp⟩ := named (a + i)
      obtain ⟨q, hq⟩ := named (b + i)
      have hp8 : (a : Int) + (i : Int) = (p : Int) := by rw [hp.out]; omega
      have hq8 : (b : Int) + (i : Int) = (q : Int) := by rw [hq.out]; omega
      have hp9 : p < n := by rw [hp.out]; omega
      have hq9 : q < n := by rw [hq.out]; omega
      have hpq : p ≠ q := by rw [hp.out, hq.out]; omega
      have hpi : (p : Int) < (n : Int) := by omega
      have hqi : (q : Int) < (n : Int) := by omega
      have hp0 : (0 : Int) ≤ (p : Int) := by omega
      have hq0 : (0 : Int) ≤ (q : Int) := by omega
      have hwp : IntKind.i64.wrap (p : Int) = (p : Int) := by rw [IntKind.wrap_i64]; omega
      have hwq : IntKind.i64.wrap (q : Int) = (q : Int) := by rw [IntKind.wrap_i64]; omega
      obtain ⟨x, rp, hcp, hvp, hthp⟩ := hRA p hp9
      obtain ⟨y, rq, hcq, hvq, hthq⟩ := hRA q hq9
      have h7p := vAt_len hvp
      have h7q := vAt_len hvq
      have h1p := vAt_one hvp
      have h1q := vAt_one hvq
      go_upto_region 3 with (go_quiet (fail))
      refine region_auto (fun L v u => u.rangeAt g (p * 7) (cond (L 21) rq rp) ∧ u.rangeAt g (q * 7) (cond (L 23) rp rq) ∧ (∀ j r, j ≠ p → j ≠ q → r.length = 7 → wr.rangeAt g (j * 7) r → u.rangeAt g (j * 7) r) ∧ (∀ j, wr.there g (j * 7) 7 → u.there g (j * 7) 7) ∧ wr.grownBy u (some g)) (fun _ _ _ => True) _ (by kernel_rfl) (by kernel_rfl) (fun v => by simp only [putsV, Act.put, List.toList_toArray, List.setIfInBounds_toArray, List.set_cons_zero, List.set_cons_succ, Nat.reduceAdd, Nat.zero_add]; rfl) ⟨hcp, hcq, fun _ _ _ _ _ h => h, fun _ h => h, ⟨rfl, rfl, rfl, Nat.le_refl _, fun _ _ _ => rfl⟩⟩ (fun L L' v u hL h => by rw [← hL 21 (by decide)]; rw [← hL 23 (by decide)]; exact h) ?_
      refine flatE_fix [] _ (fun L hL hcl v u hS hd K' hK => by
          simp only [Act.put, List.setIfInBounds_toArray, List.set_cons_zero, List.set_cons_succ] at hK
          go_simp
          exact hK.out _ ⟨hS, trivial⟩) (by kernel_rfl) (j := 1) rfl ?_
      refine flatE_fix [] _ (fun L hL hcl v u hS hd K' hK => by
          simp only [Act.put, List.setIfInBounds_toArray, List.set_cons_zero, List.set_cons_succ] at hK
          go_simp
          exact hK.out _ ⟨hS, trivial⟩) (by kernel_rfl) (j := 2) rfl ?_
      refine flatE_fix [] _ (fun L hL hcl v u hS hd K' hK => by
          simp only [Act.put, List.setIfInBounds_toArray, List.set_cons_zero, List.set_cons_succ] at hK
          go_simp
          exact hK.out _ ⟨hS, trivial⟩) (by kernel_rfl) (j := 3) rfl ?_
      refine flatE_fix [1, 2] _ (fun L hL hcl v u hS hd K' hK => by
          simp only [held, relR, eqv, List.getD_cons_zero, List.getD_cons_succ, Nat.reduceSub] at hd
          simp only [Act.put, List.setIfInBounds_toArray, List.set_cons_zero, List.set_cons_succ] at hK
          try simp only [hd] at hK
          go_simp
          exact hK.out _ ⟨hS, trivial⟩) (by kernel_rfl) (j := 4) rfl ?_
      refine flatE_fix [] _ (fun L hL hcl v u hS hd K' hK => by
          simp only [Act.put, List.setIfInBounds_toArray, List.set_cons_zero, List.set_cons_succ] at hK
          go_simp
          exact hK.out _ ⟨hS, trivial⟩) (by kernel_rfl) (j := 5) rfl ?_
      refine flatE_fix [] _ (fun L hL hcl v u hS hd K' hK => by
          simp only [Act.put, List.setIfInBounds_toArray, List.set_cons_zero, List.set_cons_succ] at hK
          go_simp
          exact hK.out _ ⟨hS, trivial⟩) (by kernel_rfl) (j := 6) rfl ?_
      refine flatE_fix [] _ (fun L hL hcl v u hS hd K' hK => by
          simp only [Act.put, List.setIfInBounds_toArray, List.set_cons_zero, List.set_cons_succ] at hK
          go_simp
          exact hK.out _ ⟨hS, trivial⟩) (by kernel_rfl) (j := 7) rfl ?_
      refine flatE_fix [5, 6] _ (fun L hL hcl v u hS hd K' hK => by
          simp only [held, relR, eqv, List.getD_cons_zero, List.getD_cons_succ, Nat.reduceSub] at hd
          simp only [Act.put, List.setIfInBounds_toArray, List.set_cons_zero, List.set_cons_succ] at hK
          try simp only [hd] at hK
          go_simp
          exact hK.out _ ⟨hS, trivial⟩) (by kernel_rfl) (j := 8) rfl ?_
      refine flatE_fix [] _ (fun L hL hcl v u hS hd K' hK => by
          simp only [Act.put, List.setIfInBounds_toArray, List.set_cons_zero, List.set_cons_succ] at hK
          go_simp
          exact hK.out _ ⟨hS, trivial⟩) (by kernel_rfl) (j := 9) rfl ?_
      refine flatE_fix [] _ (fun L hL hcl v u hS hd K' hK => by
          simp only [Act.put, List.setIfInBounds_toArray, List.set_cons_zero, List.set_cons_succ] at hK
          go_simp
          exact hK.out _ ⟨hS, trivial⟩) (by kernel_rfl) (j := 10) rfl ?_
      refine flatE_fix [] _ (fun L hL hcl v u hS hd K' hK => by
          simp only [Act.put, List.setIfInBounds_toArray, List.set_cons_zero, List.set_cons_succ] at hK
          go_simp
          exact hK.out _ ⟨hS, trivial⟩) (by kernel_rfl) (j := 11) rfl ?_
      refine flatE_fix [9, 10] _ (fun L hL hcl v u hS hd K' hK => by
          simp only [held, relR, eqv, List.getD_cons_zero, List.getD_cons_succ, Nat.reduceSub] at hd
          simp only [Act.put, List.setIfInBounds_toArray, List.set_cons_zero, List.set_cons_succ] at hK
          try simp only [hd] at hK
          go_simp
          exact hK.out _ ⟨hS, trivial⟩) (by kernel_rfl) (j := 12) rfl ?_
      refine flatE_fix [8, 11] _ (fun L hL hcl v u hS hd K' hK => by
          simp only [held, relR, eqv, List.getD_cons_zero, List.getD_cons_succ, Nat.reduceSub] at hd
          simp only [Act.put, List.setIfInBounds_toArray, List.set_cons_zero, List.set_cons_succ] at hK
          try simp only [hd] at hK
          go_simp
          exact hK.out _ ⟨hS, trivial⟩) (by kernel_rfl) (j := 13) rfl ?_
      refine flatE_fix [12] _ (fun L hL hcl v u hS hd K' hK => by
          simp only [held, relR, eqv, List.getD_cons_zero, List.getD_cons_succ, Nat.reduceSub] at hd
          have hL23 : L 23 = false := by
            cases h9 : L 23 with
            | false => rfl
            | true => have h8 := hcl 23 13 h9 (by kernel_rfl); rw [hL] at h8; cases h8
          have hc9 := hS.2.1
          rw [hL23] at hc9
          refine wanted_go3 rfl ?_
          refine wp_load_mid 37 _ rfl g (q * 7) hd rq _ hc9 Tryd.underlying37 rfl (kV7l h7q) ?_
          exact hK.out _ ⟨hS, trivial⟩) (by kernel_rfl) (j := 14) rfl ?_
      refine flatE_fix [] _ (fun L hL hcl v u hS hd K' hK => by
          simp only [Act.put, List.setIfInBounds_toArray, List.set_cons_zero, List.set_cons_succ] at hK
          go_simp
          exact hK.out _ ⟨hS, trivial⟩) (by kernel_rfl) (j := 15) rfl ?_
      refine flatE_fix [] _ (fun L hL hcl v u hS hd K' hK => by
          simp only [Act.put, List.setIfInBounds_toArray, List.set_cons_zero, List.set_cons_succ] at hK
          go_simp
          exact hK.out _ ⟨hS, trivial⟩) (by kernel_rfl) (j := 16) rfl ?_
      refine flatE_fix [] _ (fun L hL hcl v u hS hd K' hK => by
          simp only [Act.put, List.setIfInBounds_toArray, List.set_cons_zero, List.set_cons_succ] at hK
          go_simp
          exact hK.out _ ⟨hS, trivial⟩) (by kernel_rfl) (j := 17) rfl ?_
      refine flatE_fix [15, 16] _ (fun L hL hcl v u hS hd K' hK => by
          simp only [held, relR, eqv, List.getD_cons_zero, List.getD_cons_succ, Nat.reduceSub] at hd
          simp only [Act.put, List.setIfInBounds_toArray, List.set_cons_zero, List.set_cons_succ] at hK
          try simp only [hd] at hK
          go_simp
          exact hK.out _ ⟨hS, trivial⟩) (by kernel_rfl) (j := 18) rfl ?_
      refine flatE_fix [14, 17] _ (fun L hL hcl v u hS hd K' hK => by
          simp only [held, relR, eqv, List.getD_cons_zero, List.getD_cons_succ, Nat.reduceSub] at hd
          simp only [Act.put, List.setIfInBounds_toArray, List.set_cons_zero, List.set_cons_succ] at hK
          try simp only [hd] at hK
          go_simp
          exact hK.out _ ⟨hS, trivial⟩) (by kernel_rfl) (j := 19) rfl ?_
      refine flatE_fix [18] _ (fun L hL hcl v u hS hd K' hK => by
          simp only [held, relR, eqv, List.getD_cons_zero, List.getD_cons_succ, Nat.reduceSub] at hd
          have hL21 : L 21 = false := by
            cases h9 : L 21 with
            | false => rfl
            | true => have h8 := hcl 21 19 h9 (by kernel_rfl); rw [hL] at h8; cases h8
          have hc9 := hS.1
          rw [hL21] at hc9
          refine wanted_go3 rfl ?_
          refine wp_load_mid 37 _ rfl g (p * 7) hd rp _ hc9 Tryd.underlying37 rfl (kV7l h7p) ?_
          exact hK.out _ ⟨hS, trivial⟩) (by kernel_rfl) (j := 20) rfl ?_
      refine flatE_fix [0, 3] _ (fun L hL hcl v u hS hd K' hK => by
          simp only [held, relR, eqv, List.getD_cons_zero, List.getD_cons_succ, Nat.reduceSub] at hd
          simp only [Act.put, List.setIfInBounds_toArray, List.set_cons_zero, List.set_cons_succ] at hK
          try simp only [hd] at hK
          go_simp
          exact hK.out _ ⟨hS, trivial⟩) (by kernel_rfl) (j := 21) rfl ?_
      refine flatE_any [13, 20] (fun _ _ => True) (fun _ _ _ _ _ _ _ => trivial) (fun L hL hcl v u hS hd K' hK => by
          simp only [held, relR, eqv, List.getD_cons_zero, List.getD_cons_succ, Nat.reduceSub] at hd
          have hv7 : rq.length = 7 := h7q
          have hth : u.there g (p * 7) 7 := hS.2.2.2.1 p hthp.1
          have hsame := World.rangeAt_setCells_same u g (p * 7) rq (by rw [hv7]; exact hth)
          have hap := fun j r (hj : j ≠ p) (hr : r.length = 7) (h : u.rangeAt g (j * 7) r) => World.rangeAt_setCells_apart h g (p * 7) rq (by rw [hr, hv7]; omega)
          have ho7 : (cond (L 23) rp rq).length = 7 := by cases L 23 <;> first | exact h7p | exact h7q
          refine wanted_go3 rfl ?_
          refine wp_store_mid 37 _ _ rfl g (p * 7) rq.toArray hd.2 hd.1 (by rw [List.size_toArray, hv7]; exact hth) (kV7 hv7) (all_one h1q) ?_
          exact hK.out undef _ ⟨⟨hsame, hap q _ (by omega) ho7 hS.2.1, fun j r hj1 hj2 hr h => hap j r (by omega) hr (hS.2.2.1 j r hj1 hj2 hr h), fun j h => there_set7 (hS.2.2.2.1 j h) _ _ _, hS.2.2.2.2.trans (grown_setCells u g (p * 7) rq)⟩, trivial, trivial⟩) (by kernel_rfl) (j := 22) rfl ?_
      refine flatE_fix [4, 7] _ (fun L hL hcl v u hS hd K' hK => by
          simp only [held, relR, eqv, List.getD_cons_zero, List.getD_cons_succ, Nat.reduceSub] at hd
          simp only [Act.put, List.setIfInBounds_toArray, List.set_cons_zero, List.set_cons_succ] at hK
          try simp only [hd] at hK
          go_simp
          exact hK.out _ ⟨hS, trivial⟩) (by kernel_rfl) (j := 23) rfl ?_
      refine flatE_any [19, 22] (fun _ _ => True) (fun _ _ _ _ _ _ _ => trivial) (fun L hL hcl v u hS hd K' hK => by
          simp only [held, relR, eqv, List.getD_cons_zero, List.getD_cons_succ, Nat.reduceSub] at hd
          have hv7 : rp.length = 7 := h7p
          have hth : u.there g (q * 7) 7 := hS.2.2.2.1 q hthq.1
          have hsame := World.rangeAt_setCells_same u g (q * 7) rp (by rw [hv7]; exact hth)
          have hap := fun j r (hj : j ≠ q) (hr : r.length = 7) (h : u.rangeAt g (j * 7) r) => World.rangeAt_setCells_apart h g (q * 7) rp (by rw [hr, hv7]; omega)
          have ho7 : (cond (L 21) rq rp).length = 7 := by cases L 21 <;> first | exact h7p | exact h7q
          refine wanted_go3 rfl ?_
          refine wp_store_mid 37 _ _ rfl g (q * 7) rp.toArray hd.2 hd.1 (by rw [List.size_toArray, hv7]; exact hth) (kV7 hv7) (all_one h1p) ?_
          exact hK.out undef _ ⟨⟨hap p _ (by omega) ho7 hS.1, hsame, fun j r hj1 hj2 hr h => hap j r (by omega) hr (hS.2.2.1 j r hj1 hj2 hr h), fun j h => there_set7 (hS.2.2.2.1 j h) _ _ _, hS.2.2.2.2.trans (grown_setCells u g (q * 7) rp)⟩, trivial, trivial⟩) (by kernel_rfl) (j := 24) rfl ?_
      refine flatE_end [] (by decide) ?_
      rintro v u hS hR
      have hrows := rows_swap hRA hp9 hq9 hS.1 hS.2.1 h7p h7q hvp hvq hthp.2 hthq.2 hS.2.2.1 hS.2.2.2.1 hS.2.2.2.2
      have hgr := hS.2.2.2.2
      clear hS hR
      have hg2 := hgw.trans hgr
      go_wp2_with (go_quiet (fail))
      go_roundw
      case rel => exact ⟨i + 1, by omega, by go_num, hrows, hg2⟩
      case measure => simp [intOf]; omega
    · have hi1 : ¬ (i : Int) < (m : Int) := by omega
      go_wp2_with (first | (at_builtin; fail))
      go_end0
      exact ⟨rfl, hRA, hgw⟩
end Go.Proofs.YtmnfmgoolimlmaaDoor
end
section
/- slices.rotateCmpFunc, slices.insertionSortCmpFunc at rows of values. -/
namespace Go.Proofs.YtmnfmgoolimlmaaDoor
set_option linter.unusedSimpArgs false
set_option linter.unusedVariables false
open Go.RowKit
theorem grown_below {w w' : World} (h : Below w.heap.size w w') {row : Option Nat} : w.grownBy w' row := ⟨h.os, h.tape, h.output, h.size, fun i hi _ => h.block i hi⟩
set_option maxRecDepth 100000 in
set_option maxHeartbeats 1000000 in
theorem rotate_n (g n cap a m b : Nat) (cmp : Value) (w : World) (hR : RowsAt w g n) (ha : a < m) (hm : m < b) (hb : b ≤ n) (hn : n ≤ 1466015503701) :
    Calls Tryd.prog 95 #[.slice (some ⟨g, 0, none⟩) n cap, .int .i64 a, .int .i64 m, .int .i64 b, cmp] w fun e w' => e = .returned (.tuple #[]) ∧ RowsAt w' g n ∧ w.grownBy w' (some g) := by
  have HR := hide hR
  clear hR
  obtain ⟨i0, hi0⟩ := named (m - a)
  obtain ⟨j0, hj0⟩ := named (b - m)
  have e1 : (m : Int) - (a : Int) = (i0 : Int) := by rw [hi0.out]; omega
  have e2 : (b : Int) - (m : Int) = (j0 : Int) := by rw [hj0.out]; omega
  have w1 : IntKind.i64.wrap (i0 : Int) = (i0 : Int) := by rw [IntKind.wrap_i64]; omega
  have w2 : IntKind.i64.wrap (j0 : Int) = (j0 : Int) := by rw [IntKind.wrap_i64]; omega
  have hi00 : 0 < i0 := by rw [hi0.out]; omega
  have hj00 : 0 < j0 := by rw [hj0.out]; omega
  have him : i0 ≤ m := by rw [hi0.out]; omega
  have hjm : m + j0 ≤ n := by rw [hj0.out]; omega
  clear hi0 hj0
  go_enter Tryd.func95, Tryd.ntmps95
  go_wp2_with (first | (at_builtin; fail))
  clear e1 e2 w1 w2
  go_loopw [10, 11] (fun s t wr => ∃ i j : Nat, s = .int .i64 i ∧ t = .int .i64 j ∧ 0 < i ∧ 0 < j ∧ i ≤ m ∧ m + j ≤ n ∧ RowsAt wr g n ∧ w.grownBy wr (some g)) (fun s t _ => (intOf s).toNat + (intOf t).toNat)
  case atStart => exact ⟨i0, j0, rfl, rfl, hi00, hj00, him, hjm, HR.out, World.grownBy.refl _ _⟩
  case round =>
    clear hi00 hj00 him hjm HR
    obtain ⟨i, j, rfl, rfl, hi0, hj0, him, hjm, hRA, hgw⟩ := hrel
    obtain ⟨p, hp⟩ := named (m - i)
    have hp8 : (m : Int) - (i : Int) = (p : Int) := by rw [hp.out]; omega
    have hwp : IntKind.i64.wrap (p : Int) = (p : Int) := by rw [IntKind.wrap_i64]; omega
    have hpm : p + i = m := by rw [hp.out]; omega
    clear hp
    have HPM := hide hpm
    by_cases hij : i = j
    · subst hij
      have hs := swapRange_n g n cap p m i cmp wr hRA (by omega) hjm (by omega) hn
      have hne : ((i : Int) != (i : Int)) = false := by simp
      clear hpm
      go_wp2_with (first | (at_builtin; fail))
      refine hs.mono ?_
      rintro e w3 ⟨rfl, hR3, hg3⟩
      go_wp2_with (first | (at_builtin; fail))
      go_end0
      exact ⟨rfl, hR3, hgw.trans hg3⟩
    · have hne : ((i : Int) == (j : Int)) = false := by rw [beq_eq_false_iff_ne]; omega
      by_cases hgt : j < i
      · have hgt' : (j : Int) < (i : Int) := by omega
        obtain ⟨d, hd⟩ := named (i - j)
        have hd8 : (i : Int) - (j : Int) = (d : Int) := by rw [hd.out]; omega
        have hwd : IntKind.i64.wrap (d : Int) = (d : Int) := by rw [IntKind.wrap_i64]; omega
        have hdi : d + j = i := by rw [hd.out]; omega
        have HDI := hide hdi
        have hs := swapRange_n g n cap p m j cmp wr hRA (by omega) hjm (by omega) hn
        clear hd hpm hdi
        go_wp2_with (first | (at_builtin; fail))
        refine hs.mono ?_
        rintro e w3 ⟨rfl, hR3, hg3⟩
        have hg4 := hgw.trans hg3
        clear hs
        go_wp2_with (first | (at_builtin; fail))
        go_roundw
        case rel => exact ⟨d, j, rfl, rfl, by have := HDI.out; omega, hj0, by have := HDI.out; omega, hjm, hR3, hg4⟩
        case measure => have := HDI.out; simp [intOf]; omega
      · have hgt' : ¬ (j : Int) < (i : Int) := by omega
        obtain ⟨d, hd⟩ := named (j - i)
        have hd8 : (j : Int) - (i : Int) = (d : Int) := by rw [hd.out]; omega
        have hwd : IntKind.i64.wrap (d : Int) = (d : Int) := by rw [IntKind.wrap_i64]; omega
        have hdi : d + i = j := by rw [hd.out]; omega
        obtain ⟨q, hq⟩ := named (m + d)
        have hq7 : (m : Int) + (j : Int) - (i : Int) = (q : Int) := by rw [hq.out]; omega
        have hwm : IntKind.i64.wrap ((m : Int) + (j : Int)) = (m : Int) + (j : Int) := by rw [IntKind.wrap_i64]; omega
        have hwq : IntKind.i64.wrap (q : Int) = (q : Int) := by rw [IntKind.wrap_i64]; omega
        have HDI := hide hdi
        have hs := swapRange_n g n cap p q i cmp wr hRA (by omega) (by rw [hq.out]; omega) (by rw [hq.out]; omega) hn
        clear hd hq hpm hdi
        go_wp2_with (first | (at_builtin; fail))
        refine hs.mono ?_
        rintro e w3 ⟨rfl, hR3, hg3⟩
        have hg4 := hgw.trans hg3
        clear hs
        go_wp2_with (first | (at_builtin; fail))
        go_roundw
        case rel => exact ⟨i, d, rfl, rfl, hi0, by have := HDI.out; omega, him, by have := HDI.out; omega, hR3, hg4⟩
        case measure => have := HDI.out; simp [intOf]; omega
end Go.Proofs.YtmnfmgoolimlmaaDoor
end
section
/- slices.insertionSortCmpFunc at rows of values. -/
namespace Go.Proofs.YtmnfmgoolimlmaaDoor
set_option linter.unusedSimpArgs false
set_option linter.unusedVariables false
open Go.RowKit
set_option maxRecDepth 100000 in
set_option maxHeartbeats 2000000 in
theorem ins_n (g n cap a b : Nat) (w : World) (hR : RowsAt w g n) (hb : b ≤ n) (ha : a ≤ n) (hn : n ≤ 1466015503701) :
    Calls Tryd.prog 75 #[.slice (some ⟨g, 0, none⟩) n cap, .int .i64 a, .int .i64 b, .func (.func 34) #[] #[]] w fun e w' => e = .returned (.tuple #[]) ∧ RowsAt w' g n ∧ w.grownBy w' (some g) := by
  have eg : ∀ args w, (callFunc 34 args).run Tryd.prog w = .ok (.enter 34 args) w := fun _ _ => by kernel_rfl
  have HR := hide hR
  clear hR
  go_enter Tryd.func75, Tryd.ntmps75
  go_wp2_with (first | (at_builtin; fail))
  go_loopw [8] (fun s wr => ∃ i : Nat, a + 1 ≤ i ∧ s = .int .i64 i ∧ RowsAt wr g n ∧ w.grownBy wr (some g)) (fun s _ => b - (intOf s).toNat)
  case atStart => exact ⟨a + 1, by omega, by go_num, HR.out, World.grownBy.refl _ _⟩
  case round =>
    clear HR
    obtain ⟨i, hai, rfl, hRA0, hgw0⟩ := hrel
    by_cases hlt : i < b
    · have hi0 : (0 : Int) ≤ (i : Int) := by omega
      have hi1 : (i : Int) < (b : Int) := by omega
      have HRA := hide hRA0
      have HGW := hide hgw0
      clear hRA0 hgw0
      rename World => wo
      go_wp2_with (first | (at_builtin; fail))
      go_loopw [9] (fun s wr => ∃ p : Nat, s = .int .i64 p ∧ a ≤ p ∧ p ≤ i ∧ RowsAt wr g n ∧ w.grownBy wr (some g)) (fun s _ => (intOf s).toNat)
      case atStart => exact ⟨i, rfl, by omega, by omega, HRA.out, HGW.out⟩
      case round =>
        clear HRA HGW
        obtain ⟨p, rfl, hap, hpi, hRA, hgw⟩ := hrel
        by_cases hgt : a < p
        · have hgt' : (a : Int) < (p : Int) := by omega
          obtain ⟨q, hq⟩ := named (p - 1)
          have hq8 : (p : Int) - 1 = (q : Int) := by rw [hq.out]; omega
          have hqp : q + 1 = p := by rw [hq.out]; omega
          have hwq : IntKind.i64.wrap (q : Int) = (q : Int) := by rw [IntKind.wrap_i64]; omega
          have hp9 : p < n := by omega
          have hq9 : q < n := by omega
          have hpq : p ≠ q := by omega
          have hp0 : (0 : Int) ≤ (p : Int) := by omega
          have hq0 : (0 : Int) ≤ (q : Int) := by omega
          have hpn : (p : Int) < (n : Int) := by omega
          have hqn : (q : Int) < (n : Int) := by omega
          have HQP := hide hqp
          clear hq hqp
          obtain ⟨x, rp, hcp, hvp, hthp⟩ := hRA p hp9
          obtain ⟨y, rq, hcq, hvq, hthq⟩ := hRA q hq9
          obtain ⟨kx, bx, nx, sx, tx, mx, lx⟩ := x
          obtain ⟨kz, bz, nz, sz, tz, mz, lz⟩ := y
          have hvp' := hvp
          have hvq' := hvq
          rw [VAt] at hvp' hvq'
          obtain ⟨Ax, cx, Bx, dx, -, rfl, -⟩ := hvp'
          obtain ⟨Az, cz, Bz, dz, -, rfl, -⟩ := hvq'
          go_upto_region 4 with (go_quiet (fail))
          refine region_auto (fun _ _ u => Below wr.heap.size wr u) (fun _ _ _ => True) _ (by kernel_rfl) (by kernel_rfl) (fun v => by simp only [putsV, Act.put, List.toList_toArray, List.setIfInBounds_toArray, List.set_cons_zero, List.set_cons_succ, Nat.reduceAdd, Nat.zero_add]; rfl) (Below.refl _ _).drew (fun _ _ _ _ _ h => h) ?_
          refine flatE_fix [] _ (fun L hL hcl v u hS hd K' hK => by
              simp only [Act.put, List.setIfInBounds_toArray, List.set_cons_zero, List.set_cons_succ] at hK
              go_simp
              exact hK.out _ ⟨hS, trivial⟩) (by kernel_rfl) (j := 1) rfl ?_
          refine flatE_fix [] _ (fun L hL hcl v u hS hd K' hK => by
              simp only [Act.put, List.setIfInBounds_toArray, List.set_cons_zero, List.set_cons_succ] at hK
              go_simp
              exact hK.out _ ⟨hS, trivial⟩) (by kernel_rfl) (j := 2) rfl ?_
          refine flatE_fix [0, 1] _ (fun L hL hcl v u hS hd K' hK => by
              simp only [held, relR, eqv, List.getD_cons_zero, List.getD_cons_succ, Nat.reduceSub] at hd
              simp only [Act.put, List.setIfInBounds_toArray, List.set_cons_zero, List.set_cons_succ] at hK
              try simp only [hd] at hK
              go_simp
              exact hK.out _ ⟨hS, trivial⟩) (by kernel_rfl) (j := 3) rfl ?_
          refine flatE_fix [2] _ (fun L hL hcl v u hS hd K' hK => by
              simp only [held, relR, eqv, List.getD_cons_zero, List.getD_cons_succ, Nat.reduceSub] at hd
              simp only [Act.put, List.setIfInBounds_toArray, List.set_cons_zero, List.set_cons_succ] at hK
              try simp only [hd] at hK
              go_simp
              exact hK.out _ ⟨hS, trivial⟩) (by kernel_rfl) (j := 4) rfl ?_
          refine flatE_fix [3] _ (fun L hL hcl v u hS hd K' hK => by
              simp only [held, relR, eqv, List.getD_cons_zero, List.getD_cons_succ, Nat.reduceSub] at hd
              simp only [Act.put, List.setIfInBounds_toArray, List.set_cons_zero, List.set_cons_succ] at hK
              try simp only [hd] at hK
              go_simp
              exact hK.out _ ⟨hS, trivial⟩) (by kernel_rfl) (j := 5) rfl ?_
          refine flatE_fix [3] _ (fun L hL hcl v u hS hd K' hK => by
              simp only [held, relR, eqv, List.getD_cons_zero, List.getD_cons_succ, Nat.reduceSub] at hd
              simp only [Act.put, List.setIfInBounds_toArray, List.set_cons_zero, List.set_cons_succ] at hK
              try simp only [hd] at hK
              go_simp
              exact hK.out _ ⟨hS, trivial⟩) (by kernel_rfl) (j := 6) rfl ?_
          refine flatE_fix [3] _ (fun L hL hcl v u hS hd K' hK => by
              simp only [held, relR, eqv, List.getD_cons_zero, List.getD_cons_succ, Nat.reduceSub] at hd
              simp only [Act.put, List.setIfInBounds_toArray, List.set_cons_zero, List.set_cons_succ] at hK
              try simp only [hd] at hK
              go_simp
              exact hK.out _ ⟨hS, trivial⟩) (by kernel_rfl) (j := 7) rfl ?_
          refine flatE_fix [3, 5, 6] _ (fun L hL hcl v u hS hd K' hK => by
              simp only [held, relR, eqv, List.getD_cons_zero, List.getD_cons_succ, Nat.reduceSub] at hd
              simp only [Act.put, List.setIfInBounds_toArray, List.set_cons_zero, List.set_cons_succ] at hK
              try simp only [hd] at hK
              go_simp
              exact hK.out _ ⟨hS, trivial⟩) (by kernel_rfl) (j := 8) rfl ?_
          refine flatE_fix [3, 7] _ (fun L hL hcl v u hS hd K' hK => by
              simp only [held, relR, eqv, List.getD_cons_zero, List.getD_cons_succ, Nat.reduceSub] at hd
              simp only [Act.put, List.setIfInBounds_toArray, List.set_cons_zero, List.set_cons_succ] at hK
              try simp only [hd] at hK
              have l0 : u.cell? ⟨g, p * 7, none⟩ = some (.int .u8 (kx : Int)) := cell_below' (hcp 0 _ rfl) hS
              have l1 : u.cell? ⟨g, p * 7 + 1, none⟩ = some (.bool bx) := cell_below' (hcp 1 _ rfl) hS
              have l2 : u.cell? ⟨g, p * 7 + 2, none⟩ = some (.int .i64 nx) := cell_below' (hcp 2 _ rfl) hS
              have l3 : u.cell? ⟨g, p * 7 + 3, none⟩ = some (.string sx) := cell_below' (hcp 3 _ rfl) hS
              have l4 : u.cell? ⟨g, p * 7 + 4, none⟩ = some (.string tx) := cell_below' (hcp 4 _ rfl) hS
              have l5 : u.cell? ⟨g, p * 7 + 5, none⟩ = some (.slice Ax mx.length cx) := cell_below' (hcp 5 _ rfl) hS
              have l6 : u.cell? ⟨g, p * 7 + 6, none⟩ = some (.slice Bx lx.length dx) := cell_below' (hcp 6 _ rfl) hS
              go_simp
              exact hK.out _ ⟨hS, trivial⟩) (by kernel_rfl) (j := 9) rfl ?_
          refine flatE_fix [3] _ (fun L hL hcl v u hS hd K' hK => by
              simp only [held, relR, eqv, List.getD_cons_zero, List.getD_cons_succ, Nat.reduceSub] at hd
              simp only [Act.put, List.setIfInBounds_toArray, List.set_cons_zero, List.set_cons_succ] at hK
              try simp only [hd] at hK
              go_simp
              exact hK.out _ ⟨hS, trivial⟩) (by kernel_rfl) (j := 10) rfl ?_
          refine flatE_fix [3] _ (fun L hL hcl v u hS hd K' hK => by
              simp only [held, relR, eqv, List.getD_cons_zero, List.getD_cons_succ, Nat.reduceSub] at hd
              simp only [Act.put, List.setIfInBounds_toArray, List.set_cons_zero, List.set_cons_succ] at hK
              try simp only [hd] at hK
              go_simp
              exact hK.out _ ⟨hS, trivial⟩) (by kernel_rfl) (j := 11) rfl ?_
          refine flatE_fix [3, 10] _ (fun L hL hcl v u hS hd K' hK => by
              simp only [held, relR, eqv, List.getD_cons_zero, List.getD_cons_succ, Nat.reduceSub] at hd
              simp only [Act.put, List.setIfInBounds_toArray, List.set_cons_zero, List.set_cons_succ] at hK
              try simp only [hd] at hK
              go_simp
              exact hK.out _ ⟨hS, trivial⟩) (by kernel_rfl) (j := 12) rfl ?_
          refine flatE_fix [3, 9, 11] _ (fun L hL hcl v u hS hd K' hK => by
              simp only [held, relR, eqv, List.getD_cons_zero, List.getD_cons_succ, Nat.reduceSub] at hd
              simp only [Act.put, List.setIfInBounds_toArray, List.set_cons_zero, List.set_cons_succ] at hK
              try simp only [hd] at hK
              go_simp
              exact hK.out _ ⟨hS, trivial⟩) (by kernel_rfl) (j := 13) rfl ?_
          refine flatE_fix [3, 12] _ (fun L hL hcl v u hS hd K' hK => by
              simp only [held, relR, eqv, List.getD_cons_zero, List.getD_cons_succ, Nat.reduceSub] at hd
              simp only [Act.put, List.setIfInBounds_toArray, List.set_cons_zero, List.set_cons_succ] at hK
              try simp only [hd] at hK
              have l0 : u.cell? ⟨g, q * 7, none⟩ = some (.int .u8 (kz : Int)) := cell_below' (hcq 0 _ rfl) hS
              have l1 : u.cell? ⟨g, q * 7 + 1, none⟩ = some (.bool bz) := cell_below' (hcq 1 _ rfl) hS
              have l2 : u.cell? ⟨g, q * 7 + 2, none⟩ = some (.int .i64 nz) := cell_below' (hcq 2 _ rfl) hS
              have l3 : u.cell? ⟨g, q * 7 + 3, none⟩ = some (.string sz) := cell_below' (hcq 3 _ rfl) hS
              have l4 : u.cell? ⟨g, q * 7 + 4, none⟩ = some (.string tz) := cell_below' (hcq 4 _ rfl) hS
              have l5 : u.cell? ⟨g, q * 7 + 5, none⟩ = some (.slice Az mz.length cz) := cell_below' (hcq 5 _ rfl) hS
              have l6 : u.cell? ⟨g, q * 7 + 6, none⟩ = some (.slice Bz lz.length dz) := cell_below' (hcq 6 _ rfl) hS
              go_simp
              exact hK.out _ ⟨hS, trivial⟩) (by kernel_rfl) (j := 14) rfl ?_
          refine flatE_fix [3, 4, 8, 13] _ (fun L hL hcl v u hS hd K' hK => by
              simp only [held, relR, eqv, List.getD_cons_zero, List.getD_cons_succ, Nat.reduceSub] at hd
              simp only [Act.put, List.setIfInBounds_toArray, List.set_cons_zero, List.set_cons_succ] at hK
              try simp only [hd] at hK
              go_simp
              refine (compare_n _ _ _ (Nat.le_refl _) (g + 1) (g + 1) _ _ u (hvp.below hS) (hvq.below hS)).mono ?_
              rintro e w9 ⟨rfl, hb9⟩
              exact hK.out _ ⟨bt hS hb9, trivial⟩) (by kernel_rfl) (j := 15) rfl ?_
          refine flatE_fix [3, 14] _ (fun L hL hcl v u hS hd K' hK => by
              simp only [held, relR, eqv, List.getD_cons_zero, List.getD_cons_succ, Nat.reduceSub] at hd
              simp only [Act.put, List.setIfInBounds_toArray, List.set_cons_zero, List.set_cons_succ] at hK
              try simp only [hd] at hK
              go_simp
              exact hK.out _ ⟨hS, trivial⟩) (by kernel_rfl) (j := 16) rfl ?_
          refine flatE_fix [3, 15] _ (fun L hL hcl v u hS hd K' hK => by
              simp only [held, relR, eqv, List.getD_cons_zero, List.getD_cons_succ, Nat.reduceSub] at hd
              simp only [Act.put, List.setIfInBounds_toArray, List.set_cons_zero, List.set_cons_succ] at hK
              try simp only [hd] at hK
              go_simp
              exact hK.out _ ⟨hS, trivial⟩) (by kernel_rfl) (j := 17) rfl ?_
          refine flatE_end [16] (by decide) ?_
          rintro v u hS hR
          simp only [held, relR, eqv, List.getD_cons_zero, List.getD_cons_succ, Nat.reduceSub] at hR
          simp only [hR]
          clear hR
          have hRA5 := hRA.below hS
          have hg1 := hgw.trans (grown_below hS)
          obtain ⟨C, hC⟩ := named (decide (cmpV (.mk kx bx nx sx tx mx lx) (.mk kz bz nz sz tz mz lz) < 0))
          try rw [← hC.out]
          have hC2 := hC.out.symm
          cases C with
          | false =>
            have hC3 : ¬ cmpV (.mk kx bx nx sx tx mx lx) (.mk kz bz nz sz tz mz lz) < 0 := of_decide_eq_false hC2
            go_wp2_with (go_quiet (fail))
            go_roundw
            case rel => exact ⟨i + 1, by omega, by go_num, hRA5, hg1⟩
            case measure => simp [intOf]; omega
          | true =>
            have hC3 : cmpV (.mk kx bx nx sx tx mx lx) (.mk kz bz nz sz tz mz lz) < 0 := of_decide_eq_true hC2
            clear hRA hgw
            rename World => w5
            obtain ⟨x, rp, hcp, hvp, hthp⟩ := hRA5 p hp9
            obtain ⟨y, rq, hcq, hvq, hthq⟩ := hRA5 q hq9
            have h7p := vAt_len hvp
            have h7q := vAt_len hvq
            have h1p := vAt_one hvp
            have h1q := vAt_one hvq
            have hRA := hRA5
            go_upto_region 6 with (go_quiet (fail))
            refine region_auto (fun L v u => u.rangeAt g (p * 7) (cond (L 15) rq rp) ∧ u.rangeAt g (q * 7) (cond (L 17) rp rq) ∧ (∀ j r, j ≠ p → j ≠ q → r.length = 7 → w5.rangeAt g (j * 7) r → u.rangeAt g (j * 7) r) ∧ (∀ j, w5.there g (j * 7) 7 → u.there g (j * 7) 7) ∧ w5.grownBy u (some g)) (fun _ _ _ => True) _ (by kernel_rfl) (by kernel_rfl) (fun v => by simp only [putsV, Act.put, List.toList_toArray, List.setIfInBounds_toArray, List.set_cons_zero, List.set_cons_succ, Nat.reduceAdd, Nat.zero_add]; rfl) ⟨hcp, hcq, fun _ _ _ _ _ h => h, fun _ h => h, ⟨rfl, rfl, rfl, Nat.le_refl _, fun _ _ _ => rfl⟩⟩ (fun L L' v u hL h => by rw [← hL 15 (by decide)]; rw [← hL 17 (by decide)]; exact h) ?_
            refine flatE_fix [] _ (fun L hL hcl v u hS hd K' hK => by
                simp only [Act.put, List.setIfInBounds_toArray, List.set_cons_zero, List.set_cons_succ] at hK
                go_simp
                exact hK.out _ ⟨hS, trivial⟩) (by kernel_rfl) (j := 1) rfl ?_
            refine flatE_fix [] _ (fun L hL hcl v u hS hd K' hK => by
                simp only [Act.put, List.setIfInBounds_toArray, List.set_cons_zero, List.set_cons_succ] at hK
                go_simp
                exact hK.out _ ⟨hS, trivial⟩) (by kernel_rfl) (j := 2) rfl ?_
            refine flatE_fix [] _ (fun L hL hcl v u hS hd K' hK => by
                simp only [Act.put, List.setIfInBounds_toArray, List.set_cons_zero, List.set_cons_succ] at hK
                go_simp
                exact hK.out _ ⟨hS, trivial⟩) (by kernel_rfl) (j := 3) rfl ?_
            refine flatE_fix [] _ (fun L hL hcl v u hS hd K' hK => by
                simp only [Act.put, List.setIfInBounds_toArray, List.set_cons_zero, List.set_cons_succ] at hK
                go_simp
                exact hK.out _ ⟨hS, trivial⟩) (by kernel_rfl) (j := 4) rfl ?_
            refine flatE_fix [3] _ (fun L hL hcl v u hS hd K' hK => by
                simp only [held, relR, eqv, List.getD_cons_zero, List.getD_cons_succ, Nat.reduceSub] at hd
                simp only [Act.put, List.setIfInBounds_toArray, List.set_cons_zero, List.set_cons_succ] at hK
                try simp only [hd] at hK
                go_simp
                exact hK.out _ ⟨hS, trivial⟩) (by kernel_rfl) (j := 5) rfl ?_
            refine flatE_fix [] _ (fun L hL hcl v u hS hd K' hK => by
                simp only [Act.put, List.setIfInBounds_toArray, List.set_cons_zero, List.set_cons_succ] at hK
                go_simp
                exact hK.out _ ⟨hS, trivial⟩) (by kernel_rfl) (j := 6) rfl ?_
            refine flatE_fix [] _ (fun L hL hcl v u hS hd K' hK => by
                simp only [Act.put, List.setIfInBounds_toArray, List.set_cons_zero, List.set_cons_succ] at hK
                go_simp
                exact hK.out _ ⟨hS, trivial⟩) (by kernel_rfl) (j := 7) rfl ?_
            refine flatE_fix [6] _ (fun L hL hcl v u hS hd K' hK => by
                simp only [held, relR, eqv, List.getD_cons_zero, List.getD_cons_succ, Nat.reduceSub] at hd
                simp only [Act.put, List.setIfInBounds_toArray, List.set_cons_zero, List.set_cons_succ] at hK
                try simp only [hd] at hK
                go_simp
                exact hK.out _ ⟨hS, trivial⟩) (by kernel_rfl) (j := 8) rfl ?_
            refine flatE_fix [5, 7] _ (fun L hL hcl v u hS hd K' hK => by
                simp only [held, relR, eqv, List.getD_cons_zero, List.getD_cons_succ, Nat.reduceSub] at hd
                simp only [Act.put, List.setIfInBounds_toArray, List.set_cons_zero, List.set_cons_succ] at hK
                try simp only [hd] at hK
                go_simp
                exact hK.out _ ⟨hS, trivial⟩) (by kernel_rfl) (j := 9) rfl ?_
            refine flatE_fix [8] _ (fun L hL hcl v u hS hd K' hK => by
                simp only [held, relR, eqv, List.getD_cons_zero, List.getD_cons_succ, Nat.reduceSub] at hd
                have hL17 : L 17 = false := by
                  cases h9 : L 17 with
                  | false => rfl
                  | true => have h8 := hcl 17 9 h9 (by kernel_rfl); rw [hL] at h8; cases h8
                have hc9 := hS.2.1
                rw [hL17] at hc9
                refine wanted_go3 rfl ?_
                refine wp_load_mid 37 _ rfl g (q * 7) hd rq _ hc9 Tryd.underlying37 rfl (kV7l h7q) ?_
                exact hK.out _ ⟨hS, trivial⟩) (by kernel_rfl) (j := 10) rfl ?_
            refine flatE_fix [] _ (fun L hL hcl v u hS hd K' hK => by
                simp only [Act.put, List.setIfInBounds_toArray, List.set_cons_zero, List.set_cons_succ] at hK
                go_simp
                exact hK.out _ ⟨hS, trivial⟩) (by kernel_rfl) (j := 11) rfl ?_
            refine flatE_fix [] _ (fun L hL hcl v u hS hd K' hK => by
                simp only [Act.put, List.setIfInBounds_toArray, List.set_cons_zero, List.set_cons_succ] at hK
                go_simp
                exact hK.out _ ⟨hS, trivial⟩) (by kernel_rfl) (j := 12) rfl ?_
            refine flatE_fix [10, 11] _ (fun L hL hcl v u hS hd K' hK => by
                simp only [held, relR, eqv, List.getD_cons_zero, List.getD_cons_succ, Nat.reduceSub] at hd
                simp only [Act.put, List.setIfInBounds_toArray, List.set_cons_zero, List.set_cons_succ] at hK
                try simp only [hd] at hK
                go_simp
                exact hK.out _ ⟨hS, trivial⟩) (by kernel_rfl) (j := 13) rfl ?_
            refine flatE_fix [12] _ (fun L hL hcl v u hS hd K' hK => by
                simp only [held, relR, eqv, List.getD_cons_zero, List.getD_cons_succ, Nat.reduceSub] at hd
                have hL15 : L 15 = false := by
                  cases h9 : L 15 with
                  | false => rfl
                  | true => have h8 := hcl 15 13 h9 (by kernel_rfl); rw [hL] at h8; cases h8
                have hc9 := hS.1
                rw [hL15] at hc9
                refine wanted_go3 rfl ?_
                refine wp_load_mid 37 _ rfl g (p * 7) hd rp _ hc9 Tryd.underlying37 rfl (kV7l h7p) ?_
                exact hK.out _ ⟨hS, trivial⟩) (by kernel_rfl) (j := 14) rfl ?_
            refine flatE_fix [0, 1] _ (fun L hL hcl v u hS hd K' hK => by
                simp only [held, relR, eqv, List.getD_cons_zero, List.getD_cons_succ, Nat.reduceSub] at hd
                simp only [Act.put, List.setIfInBounds_toArray, List.set_cons_zero, List.set_cons_succ] at hK
                try simp only [hd] at hK
                go_simp
                exact hK.out _ ⟨hS, trivial⟩) (by kernel_rfl) (j := 15) rfl ?_
            refine flatE_any [9, 14] (fun _ _ => True) (fun _ _ _ _ _ _ _ => trivial) (fun L hL hcl v u hS hd K' hK => by
                simp only [held, relR, eqv, List.getD_cons_zero, List.getD_cons_succ, Nat.reduceSub] at hd
                have hv7 : rq.length = 7 := h7q
                have hth : u.there g (p * 7) 7 := hS.2.2.2.1 p hthp.1
                have hsame := World.rangeAt_setCells_same u g (p * 7) rq (by rw [hv7]; exact hth)
                have hap := fun j r (hj : j ≠ p) (hr : r.length = 7) (h : u.rangeAt g (j * 7) r) => World.rangeAt_setCells_apart h g (p * 7) rq (by rw [hr, hv7]; omega)
                have ho7 : (cond (L 17) rp rq).length = 7 := by cases L 17 <;> first | exact h7p | exact h7q
                refine wanted_go3 rfl ?_
                refine wp_store_mid 37 _ _ rfl g (p * 7) rq.toArray hd.2 hd.1 (by rw [List.size_toArray, hv7]; exact hth) (kV7 hv7) (all_one h1q) ?_
                exact hK.out undef _ ⟨⟨hsame, hap q _ (by omega) ho7 hS.2.1, fun j r hj1 hj2 hr h => hap j r (by omega) hr (hS.2.2.1 j r hj1 hj2 hr h), fun j h => there_set7 (hS.2.2.2.1 j h) _ _ _, hS.2.2.2.2.trans (grown_setCells u g (p * 7) rq)⟩, trivial, trivial⟩) (by kernel_rfl) (j := 16) rfl ?_
            refine flatE_fix [2, 4] _ (fun L hL hcl v u hS hd K' hK => by
                simp only [held, relR, eqv, List.getD_cons_zero, List.getD_cons_succ, Nat.reduceSub] at hd
                simp only [Act.put, List.setIfInBounds_toArray, List.set_cons_zero, List.set_cons_succ] at hK
                try simp only [hd] at hK
                go_simp
                exact hK.out _ ⟨hS, trivial⟩) (by kernel_rfl) (j := 17) rfl ?_
            refine flatE_any [13, 16] (fun _ _ => True) (fun _ _ _ _ _ _ _ => trivial) (fun L hL hcl v u hS hd K' hK => by
                simp only [held, relR, eqv, List.getD_cons_zero, List.getD_cons_succ, Nat.reduceSub] at hd
                have hv7 : rp.length = 7 := h7p
                have hth : u.there g (q * 7) 7 := hS.2.2.2.1 q hthq.1
                have hsame := World.rangeAt_setCells_same u g (q * 7) rp (by rw [hv7]; exact hth)
                have hap := fun j r (hj : j ≠ q) (hr : r.length = 7) (h : u.rangeAt g (j * 7) r) => World.rangeAt_setCells_apart h g (q * 7) rp (by rw [hr, hv7]; omega)
                have ho7 : (cond (L 15) rq rp).length = 7 := by cases L 15 <;> first | exact h7p | exact h7q
                refine wanted_go3 rfl ?_
                refine wp_store_mid 37 _ _ rfl g (q * 7) rp.toArray hd.2 hd.1 (by rw [List.size_toArray, hv7]; exact hth) (kV7 hv7) (all_one h1p) ?_
                exact hK.out undef _ ⟨⟨hap p _ (by omega) ho7 hS.1, hsame, fun j r hj1 hj2 hr h => hap j r (by omega) hr (hS.2.2.1 j r hj1 hj2 hr h), fun j h => there_set7 (hS.2.2.2.1 j h) _ _ _, hS.2.2.2.2.trans (grown_setCells u g (q * 7) rp)⟩, trivial, trivial⟩) (by kernel_rfl) (j := 18) rfl ?_
            refine flatE_end [] (by decide) ?_
            rintro v u hS hR
            have hrows := rows_swap hRA hp9 hq9 hS.1 hS.2.1 h7p h7q hvp hvq hthp.2 hthq.2 hS.2.2.1 hS.2.2.2.1 hS.2.2.2.2
            have hgr := hS.2.2.2.2
            clear hS hR
            have hg2 := hg1.trans hgr
            go_wp2_with (go_quiet (fail))
            go_roundw
            case rel => exact ⟨q, rfl, by omega, by omega, hrows, hg2⟩
            case measure => simp [intOf]; omega
        · have hgt' : ¬ (a : Int) < (p : Int) := by omega
          go_upto_region 4 with (go_quiet (fail))
          refine region_auto (fun _ _ u => Below wr.heap.size wr u) (fun _ _ _ => True) _ (by kernel_rfl) (by kernel_rfl) (fun v => by simp only [putsV, Act.put, List.toList_toArray, List.setIfInBounds_toArray, List.set_cons_zero, List.set_cons_succ, Nat.reduceAdd, Nat.zero_add]; rfl) (Below.refl _ _).drew (fun _ _ _ _ _ h => h) ?_
          refine flatE_fix [] _ (fun L hL hcl v u hS hd K' hK => by
              simp only [Act.put, List.setIfInBounds_toArray, List.set_cons_zero, List.set_cons_succ] at hK
              go_simp
              exact hK.out _ ⟨hS, trivial⟩) (by kernel_rfl) (j := 1) rfl ?_
          refine flatE_fix [] _ (fun L hL hcl v u hS hd K' hK => by
              simp only [Act.put, List.setIfInBounds_toArray, List.set_cons_zero, List.set_cons_succ] at hK
              go_simp
              exact hK.out _ ⟨hS, trivial⟩) (by kernel_rfl) (j := 2) rfl ?_
          refine flatE_fix [0, 1] _ (fun L hL hcl v u hS hd K' hK => by
              simp only [held, relR, eqv, List.getD_cons_zero, List.getD_cons_succ, Nat.reduceSub] at hd
              simp only [Act.put, List.setIfInBounds_toArray, List.set_cons_zero, List.set_cons_succ] at hK
              try simp only [hd] at hK
              go_simp
              exact hK.out _ ⟨hS, trivial⟩) (by kernel_rfl) (j := 3) rfl ?_
          refine flatE_fix [2] _ (fun L hL hcl v u hS hd K' hK => by
              simp only [held, relR, eqv, List.getD_cons_zero, List.getD_cons_succ, Nat.reduceSub] at hd
              simp only [Act.put, List.setIfInBounds_toArray, List.set_cons_zero, List.set_cons_succ] at hK
              try simp only [hd] at hK
              go_simp
              exact hK.out _ ⟨hS, trivial⟩) (by kernel_rfl) (j := 4) rfl ?_
          refine flatE_fix [3] _ (fun L hL hcl v u hS hd K' hK => by
              simp only [held, relR, eqv, List.getD_cons_zero, List.getD_cons_succ, Nat.reduceSub] at hd
              simp only [Act.put, List.setIfInBounds_toArray, List.set_cons_zero, List.set_cons_succ] at hK
              try simp only [hd] at hK
              go_simp
              exact hK.out _ ⟨hS, trivial⟩) (by kernel_rfl) (j := 5) rfl ?_
          refine flatE_fix [3] _ (fun L hL hcl v u hS hd K' hK => by
              simp only [held, relR, eqv, List.getD_cons_zero, List.getD_cons_succ, Nat.reduceSub] at hd
              simp only [Act.put, List.setIfInBounds_toArray, List.set_cons_zero, List.set_cons_succ] at hK
              try simp only [hd] at hK
              go_simp
              exact hK.out _ ⟨hS, trivial⟩) (by kernel_rfl) (j := 6) rfl ?_
          refine flatE_fix [3] _ (fun L hL hcl v u hS hd K' hK => by
              simp only [held, relR, eqv, List.getD_cons_zero, List.getD_cons_succ, Nat.reduceSub] at hd
              simp only [Act.put, List.setIfInBounds_toArray, List.set_cons_zero, List.set_cons_succ] at hK
              try simp only [hd] at hK
              go_simp
              exact hK.out _ ⟨hS, trivial⟩) (by kernel_rfl) (j := 7) rfl ?_
          refine flatE_fix [3, 5, 6] _ (fun L hL hcl v u hS hd K' hK => by
              simp only [held, relR, eqv, List.getD_cons_zero, List.getD_cons_succ, Nat.reduceSub] at hd
              simp only [Act.put, List.setIfInBounds_toArray, List.set_cons_zero, List.set_cons_succ] at hK
              try simp only [hd] at hK
              go_simp
              exact hK.out _ ⟨hS, trivial⟩) (by kernel_rfl) (j := 8) rfl ?_
          refine flatE_fix [3, 7] _ (fun L hL hcl v u hS hd K' hK => by
              simp only [held, relR, eqv, List.getD_cons_zero, List.getD_cons_succ, Nat.reduceSub] at hd
              simp only [Act.put, List.setIfInBounds_toArray, List.set_cons_zero, List.set_cons_succ] at hK
              try simp only [hd] at hK
              go_simp
              exact hK.out _ ⟨hS, trivial⟩) (by kernel_rfl) (j := 9) rfl ?_
          refine flatE_fix [3] _ (fun L hL hcl v u hS hd K' hK => by
              simp only [held, relR, eqv, List.getD_cons_zero, List.getD_cons_succ, Nat.reduceSub] at hd
              simp only [Act.put, List.setIfInBounds_toArray, List.set_cons_zero, List.set_cons_succ] at hK
              try simp only [hd] at hK
              go_simp
              exact hK.out _ ⟨hS, trivial⟩) (by kernel_rfl) (j := 10) rfl ?_
          refine flatE_fix [3] _ (fun L hL hcl v u hS hd K' hK => by
              simp only [held, relR, eqv, List.getD_cons_zero, List.getD_cons_succ, Nat.reduceSub] at hd
              simp only [Act.put, List.setIfInBounds_toArray, List.set_cons_zero, List.set_cons_succ] at hK
              try simp only [hd] at hK
              go_simp
              exact hK.out _ ⟨hS, trivial⟩) (by kernel_rfl) (j := 11) rfl ?_
          refine flatE_fix [3, 10] _ (fun L hL hcl v u hS hd K' hK => by
              simp only [held, relR, eqv, List.getD_cons_zero, List.getD_cons_succ, Nat.reduceSub] at hd
              simp only [Act.put, List.setIfInBounds_toArray, List.set_cons_zero, List.set_cons_succ] at hK
              try simp only [hd] at hK
              go_simp
              exact hK.out _ ⟨hS, trivial⟩) (by kernel_rfl) (j := 12) rfl ?_
          refine flatE_fix [3, 9, 11] _ (fun L hL hcl v u hS hd K' hK => by
              simp only [held, relR, eqv, List.getD_cons_zero, List.getD_cons_succ, Nat.reduceSub] at hd
              simp only [Act.put, List.setIfInBounds_toArray, List.set_cons_zero, List.set_cons_succ] at hK
              try simp only [hd] at hK
              go_simp
              exact hK.out _ ⟨hS, trivial⟩) (by kernel_rfl) (j := 13) rfl ?_
          refine flatE_fix [3, 12] _ (fun L hL hcl v u hS hd K' hK => by
              simp only [held, relR, eqv, List.getD_cons_zero, List.getD_cons_succ, Nat.reduceSub] at hd
              simp only [Act.put, List.setIfInBounds_toArray, List.set_cons_zero, List.set_cons_succ] at hK
              try simp only [hd] at hK
              go_simp
              exact hK.out _ ⟨hS, trivial⟩) (by kernel_rfl) (j := 14) rfl ?_
          refine flatE_fix [3, 4, 8, 13] _ (fun L hL hcl v u hS hd K' hK => by
              simp only [held, relR, eqv, List.getD_cons_zero, List.getD_cons_succ, Nat.reduceSub] at hd
              simp only [Act.put, List.setIfInBounds_toArray, List.set_cons_zero, List.set_cons_succ] at hK
              try simp only [hd] at hK
              go_simp
              exact hK.out _ ⟨hS, trivial⟩) (by kernel_rfl) (j := 15) rfl ?_
          refine flatE_fix [3, 14] _ (fun L hL hcl v u hS hd K' hK => by
              simp only [held, relR, eqv, List.getD_cons_zero, List.getD_cons_succ, Nat.reduceSub] at hd
              simp only [Act.put, List.setIfInBounds_toArray, List.set_cons_zero, List.set_cons_succ] at hK
              try simp only [hd] at hK
              go_simp
              exact hK.out _ ⟨hS, trivial⟩) (by kernel_rfl) (j := 16) rfl ?_
          refine flatE_fix [3, 15] _ (fun L hL hcl v u hS hd K' hK => by
              simp only [held, relR, eqv, List.getD_cons_zero, List.getD_cons_succ, Nat.reduceSub] at hd
              simp only [Act.put, List.setIfInBounds_toArray, List.set_cons_zero, List.set_cons_succ] at hK
              try simp only [hd] at hK
              go_simp
              exact hK.out _ ⟨hS, trivial⟩) (by kernel_rfl) (j := 17) rfl ?_
          refine flatE_end [16] (by decide) ?_
          rintro v u hS hR
          simp only [held, relR, eqv, List.getD_cons_zero, List.getD_cons_succ, Nat.reduceSub] at hR
          simp only [hR]
          clear hR
          have hRA5 := hRA.below hS
          have hg1 := hgw.trans (grown_below hS)
          go_wp2_with (go_quiet (fail))
          go_roundw
          case rel => exact ⟨i + 1, by omega, by go_num, hRA5, hg1⟩
          case measure => simp [intOf]; omega
    · have hi1 : ¬ (i : Int) < (b : Int) := by omega
      go_wp2_with (first | (at_builtin; fail))
      go_end0
      exact ⟨rfl, hRA0, hgw0⟩
end Go.Proofs.YtmnfmgoolimlmaaDoor
end
section
/- slices.symMergeCmpFunc at rows of values. -/
namespace Go.Proofs.YtmnfmgoolimlmaaDoor
set_option linter.unusedSimpArgs false
set_option linter.unusedVariables false
open Go.RowKit
def SymC (g n cap a m b : Nat) : Prop := ∀ w : World, RowsAt w g n → Calls Tryd.prog 76 #[.slice (some ⟨g, 0, none⟩) n cap, .int .i64 a, .int .i64 m, .int .i64 b, .func (.func 34) #[] #[]] w fun e w' => e = .returned (.tuple #[]) ∧ RowsAt w' g n ∧ w.grownBy w' (some g)
set_option maxRecDepth 100000 in
set_option maxHeartbeats 2000000 in
theorem sym_one (g n cap a m b : Nat) (hn : n ≤ 1466015503701) (ham : a < m) (hmb : m < b) (hbn : b ≤ n) (h1 : m = a + 1) : SymC g n cap a m b := by
  intro w hR
  have eg : ∀ args w, (callFunc 34 args).run Tryd.prog w = .ok (.enter 34 args) w := fun _ _ => by kernel_rfl
  have HR := hide hR
  clear hR
  have hd8 : (m : Int) - (a : Int) = 1 := by omega
  clear h1
  go_enter Tryd.func76, Tryd.ntmps76
  go_wp2_with (first | (at_builtin; fail))
  have HD8 := hide hd8
  clear hd8
  go_loopw [10, 11] (fun s t wr => ∃ i j : Nat, s = .int .i64 i ∧ t = .int .i64 j ∧ m ≤ i ∧ i ≤ j ∧ j ≤ b ∧ RowsAt wr g n ∧ w.grownBy wr (some g)) (fun s t _ => (intOf t).toNat - (intOf s).toNat)
  case atStart => exact ⟨m, b, rfl, rfl, by omega, by omega, by omega, HR.out, World.grownBy.refl _ _⟩
  case round =>
    clear HR
    obtain ⟨i, j, rfl, rfl, hmi, hij, hjb, hRA, hgw⟩ := hrel
    by_cases hlt : i < j
    · have hi1 : (i : Int) < (j : Int) := by omega
      obtain ⟨p, hp⟩ := named ((i + j) / 2)
      have hhh : (((i : Nat) : Int) + ((j : Nat) : Int)) / 2 = (p : Int) := by rw [hp.out]; omega
      have hh1 : i ≤ p := by rw [hp.out]; omega
      have hh2 : p < j := by rw [hp.out]; omega
      have hwij : IntKind.i64.wrap (((i : Nat) : Int) + ((j : Nat) : Int)) = ((i : Nat) : Int) + ((j : Nat) : Int) := by rw [IntKind.wrap_i64]; omega
      clear hp
      obtain ⟨q, hqa⟩ := named a
      have hp9 : p < n := by omega
      have hq9 : q < n := by rw [hqa.out]; omega
      have HQA := hide hqa.out.symm
      clear hqa
      obtain ⟨x, rp, hcp, hvp, hthp⟩ := hRA p hp9
      obtain ⟨y, rq, hcq, hvq, hthq⟩ := hRA q hq9
      have h7p := vAt_len hvp
      have h7q := vAt_len hvq
      have h1p := vAt_one hvp
      have h1q := vAt_one hvq
      have hp0 : (0 : Int) ≤ (p : Int) := by omega
      have hq0 : (0 : Int) ≤ (q : Int) := by omega
      have hpn : (p : Int) < (n : Int) := by omega
      have hqn : (q : Int) < (n : Int) := by omega
      have hwp : IntKind.i64.wrap (p : Int) = (p : Int) := by rw [IntKind.wrap_i64]; omega
      have hwq : IntKind.i64.wrap (q : Int) = (q : Int) := by rw [IntKind.wrap_i64]; omega
      rw [HQA.out]
      go_upto_region 5 with (go_quiet (fail))
      refine region_auto (fun _ _ u => Below wr.heap.size wr u) (fun _ _ _ => True) _ (by kernel_rfl) (by kernel_rfl) (fun v => by simp only [putsV, Act.put, List.toList_toArray, List.setIfInBounds_toArray, List.set_cons_zero, List.set_cons_succ, Nat.reduceAdd, Nat.zero_add]; rfl) (Below.refl _ _).drew (fun _ _ _ _ _ h => h) ?_
      refine flatE_fix [] _ (fun L hL hcl v u hS hd K' hK => by
          simp only [Act.put, List.setIfInBounds_toArray, List.set_cons_zero, List.set_cons_succ] at hK
          go_simp
          exact hK.out _ ⟨hS, trivial⟩) (by kernel_rfl) (j := 1) rfl ?_
      refine flatE_fix [] _ (fun L hL hcl v u hS hd K' hK => by
          simp only [Act.put, List.setIfInBounds_toArray, List.set_cons_zero, List.set_cons_succ] at hK
          go_simp
          exact hK.out _ ⟨hS, trivial⟩) (by kernel_rfl) (j := 2) rfl ?_
      refine flatE_fix [] _ (fun L hL hcl v u hS hd K' hK => by
          simp only [Act.put, List.setIfInBounds_toArray, List.set_cons_zero, List.set_cons_succ] at hK
          go_simp
          exact hK.out _ ⟨hS, trivial⟩) (by kernel_rfl) (j := 3) rfl ?_
      refine flatE_fix [1, 2] _ (fun L hL hcl v u hS hd K' hK => by
          simp only [held, relR, eqv, List.getD_cons_zero, List.getD_cons_succ, Nat.reduceSub] at hd
          simp only [Act.put, List.setIfInBounds_toArray, List.set_cons_zero, List.set_cons_succ] at hK
          try simp only [hd] at hK
          go_simp
          exact hK.out _ ⟨hS, trivial⟩) (by kernel_rfl) (j := 4) rfl ?_
      refine flatE_fix [3] _ (fun L hL hcl v u hS hd K' hK => by
          simp only [held, relR, eqv, List.getD_cons_zero, List.getD_cons_succ, Nat.reduceSub] at hd
          have hc9 : u.rangeAt g (p * 7) rp := fun i v hi => cell_below' (hcp i v hi) hS
          refine wanted_go3 (by first | rfl | exact hwant v hd) ?_
          refine wp_load_mid 37 _ rfl g (p * 7) hd rp _ hc9 Tryd.underlying37 rfl (kV7l h7p) ?_
          exact hK.out _ ⟨hS, trivial⟩) (by kernel_rfl) (j := 5) rfl ?_
      refine flatE_fix [] _ (fun L hL hcl v u hS hd K' hK => by
          simp only [Act.put, List.setIfInBounds_toArray, List.set_cons_zero, List.set_cons_succ] at hK
          go_simp
          exact hK.out _ ⟨hS, trivial⟩) (by kernel_rfl) (j := 6) rfl ?_
      refine flatE_fix [] _ (fun L hL hcl v u hS hd K' hK => by
          simp only [Act.put, List.setIfInBounds_toArray, List.set_cons_zero, List.set_cons_succ] at hK
          go_simp
          exact hK.out _ ⟨hS, trivial⟩) (by kernel_rfl) (j := 7) rfl ?_
      refine flatE_fix [5, 6] _ (fun L hL hcl v u hS hd K' hK => by
          simp only [held, relR, eqv, List.getD_cons_zero, List.getD_cons_succ, Nat.reduceSub] at hd
          simp only [Act.put, List.setIfInBounds_toArray, List.set_cons_zero, List.set_cons_succ] at hK
          try simp only [hd] at hK
          go_simp
          exact hK.out _ ⟨hS, trivial⟩) (by kernel_rfl) (j := 8) rfl ?_
      refine flatE_fix [7] _ (fun L hL hcl v u hS hd K' hK => by
          simp only [held, relR, eqv, List.getD_cons_zero, List.getD_cons_succ, Nat.reduceSub] at hd
          have hc9 : u.rangeAt g (q * 7) rq := fun i v hi => cell_below' (hcq i v hi) hS
          refine wanted_go3 (by first | rfl | exact hwant v hd) ?_
          refine wp_load_mid 37 _ rfl g (q * 7) hd rq _ hc9 Tryd.underlying37 rfl (kV7l h7q) ?_
          exact hK.out _ ⟨hS, trivial⟩) (by kernel_rfl) (j := 9) rfl ?_
      refine flatE_fix [0, 4, 8] _ (fun L hL hcl v u hS hd K' hK => by
          simp only [held, relR, eqv, List.getD_cons_zero, List.getD_cons_succ, Nat.reduceSub] at hd
          simp only [Act.put, List.setIfInBounds_toArray, List.set_cons_zero, List.set_cons_succ] at hK
          try simp only [hd] at hK
          go_simp
          refine (compare_n x.ht x y (Nat.le_refl _) (g + 1) (g + 1) rp rq u (hvp.below hS) (hvq.below hS)).mono ?_
          rintro e w9 ⟨rfl, hb9⟩
          exact hK.out _ ⟨bt hS hb9, trivial⟩) (by kernel_rfl) (j := 10) rfl ?_
      refine flatE_fix [9] _ (fun L hL hcl v u hS hd K' hK => by
          simp only [held, relR, eqv, List.getD_cons_zero, List.getD_cons_succ, Nat.reduceSub] at hd
          simp only [Act.put, List.setIfInBounds_toArray, List.set_cons_zero, List.set_cons_succ] at hK
          try simp only [hd] at hK
          go_simp
          exact hK.out _ ⟨hS, trivial⟩) (by kernel_rfl) (j := 11) rfl ?_
      refine flatE_end [10] (by decide) ?_
      rintro v u hS hR
      simp only [held, relR, eqv, List.getD_cons_zero, List.getD_cons_succ, Nat.reduceSub] at hR
      simp only [hR]
      clear hR
      have hRA5 := hRA.below hS
      have hg5 := hgw.trans (grown_below hS (row := some g))
      obtain ⟨C, hC⟩ := named (decide (cmpV x y < 0))
      try rw [← hC.out]
      clear hC
      cases C with
      | true =>
        go_wp2_with (go_quiet (fail))
        go_roundw
        case rel => exact ⟨p + 1, j, by go_num, rfl, by omega, by omega, by omega, hRA5, hg5⟩
        case measure => simp [intOf]; omega
      | false =>
        go_wp2_with (go_quiet (fail))
        go_roundw
        case rel => exact ⟨i, p, rfl, rfl, by omega, by omega, by omega, hRA5, hg5⟩
        case measure => simp [intOf]; omega
    · have hi1 : ¬ (i : Int) < (j : Int) := by omega
      obtain ⟨i1, hi1'⟩ := named (i - 1)
      have hi8 : (i : Int) - 1 = (i1 : Int) := by rw [hi1'.out]; omega
      have hwi : IntKind.i64.wrap (i1 : Int) = (i1 : Int) := by rw [IntKind.wrap_i64]; omega
      have hii : i1 + 1 = i := by rw [hi1'.out]; omega
      have HII := hide hii
      have HRA := hide hRA
      have HGW := hide hgw
      clear hi1' hii hRA hgw
      rename World => wo
      go_wp2_with (first | (at_builtin; fail))
      go_loopw [13] (fun s wr => ∃ p : Nat, s = .int .i64 p ∧ a ≤ p ∧ RowsAt wr g n ∧ w.grownBy wr (some g)) (fun s _ => i1 - (intOf s).toNat)
      case atStart => exact ⟨a, rfl, by omega, HRA.out, HGW.out⟩
      case round =>
        clear HRA HGW
        obtain ⟨p, rfl, hap, hRA, hgw⟩ := hrel
        by_cases hlt2 : p < i1
        · have hpl : (p : Int) < (i1 : Int) := by omega
          obtain ⟨q, hq⟩ := named (p + 1)
          have hq8 : (p : Int) + 1 = (q : Int) := by rw [hq.out]; omega
          have hqp : q = p + 1 := hq.out
          have hii := HII.out
          have hp9 : p < n := by omega
          have hq9 : q < n := by omega
          have hpq : p ≠ q := by omega
          obtain ⟨x, rp, hcp, hvp, hthp⟩ := hRA p hp9
          obtain ⟨y, rq, hcq, hvq, hthq⟩ := hRA q hq9
          have h7p := vAt_len hvp
          have h7q := vAt_len hvq
          have h1p := vAt_one hvp
          have h1q := vAt_one hvq
          have hp0 : (0 : Int) ≤ (p : Int) := by omega
          have hq0 : (0 : Int) ≤ (q : Int) := by omega
          have hpn : (p : Int) < (n : Int) := by omega
          have hqn : (q : Int) < (n : Int) := by omega
          have hwp : IntKind.i64.wrap (p : Int) = (p : Int) := by rw [IntKind.wrap_i64]; omega
          have hwq : IntKind.i64.wrap (q : Int) = (q : Int) := by rw [IntKind.wrap_i64]; omega
          have HQP := hide hqp
          clear hq hqp hii
          go_upto_region 11 with (go_quiet (fail))
          refine region_auto (fun L v u => u.rangeAt g (p * 7) (cond (L 15) rq rp) ∧ u.rangeAt g (q * 7) (cond (L 17) rp rq) ∧ (∀ j r, j ≠ p → j ≠ q → r.length = 7 → wr.rangeAt g (j * 7) r → u.rangeAt g (j * 7) r) ∧ (∀ j, wr.there g (j * 7) 7 → u.there g (j * 7) 7) ∧ wr.grownBy u (some g)) (fun _ _ _ => True) _ (by kernel_rfl) (by kernel_rfl) (fun v => by simp only [putsV, Act.put, List.toList_toArray, List.setIfInBounds_toArray, List.set_cons_zero, List.set_cons_succ, Nat.reduceAdd, Nat.zero_add]; rfl) ⟨hcp, hcq, fun _ _ _ _ _ h => h, fun _ h => h, ⟨rfl, rfl, rfl, Nat.le_refl _, fun _ _ _ => rfl⟩⟩ (fun L L' v u hL h => by rw [← hL 15 (by decide)]; rw [← hL 17 (by decide)]; exact h) ?_
          refine flatE_fix [] _ (fun L hL hcl v u hS hd K' hK => by
              simp only [Act.put, List.setIfInBounds_toArray, List.set_cons_zero, List.set_cons_succ] at hK
              go_simp
              exact hK.out _ ⟨hS, trivial⟩) (by kernel_rfl) (j := 1) rfl ?_
          refine flatE_fix [] _ (fun L hL hcl v u hS hd K' hK => by
              simp only [Act.put, List.setIfInBounds_toArray, List.set_cons_zero, List.set_cons_succ] at hK
              go_simp
              exact hK.out _ ⟨hS, trivial⟩) (by kernel_rfl) (j := 2) rfl ?_
          refine flatE_fix [] _ (fun L hL hcl v u hS hd K' hK => by
              simp only [Act.put, List.setIfInBounds_toArray, List.set_cons_zero, List.set_cons_succ] at hK
              go_simp
              exact hK.out _ ⟨hS, trivial⟩) (by kernel_rfl) (j := 3) rfl ?_
          refine flatE_fix [] _ (fun L hL hcl v u hS hd K' hK => by
              simp only [Act.put, List.setIfInBounds_toArray, List.set_cons_zero, List.set_cons_succ] at hK
              go_simp
              exact hK.out _ ⟨hS, trivial⟩) (by kernel_rfl) (j := 4) rfl ?_
          refine flatE_fix [3] _ (fun L hL hcl v u hS hd K' hK => by
              simp only [held, relR, eqv, List.getD_cons_zero, List.getD_cons_succ, Nat.reduceSub] at hd
              simp only [Act.put, List.setIfInBounds_toArray, List.set_cons_zero, List.set_cons_succ] at hK
              try simp only [hd] at hK
              go_simp
              exact hK.out _ ⟨hS, trivial⟩) (by kernel_rfl) (j := 5) rfl ?_
          refine flatE_fix [] _ (fun L hL hcl v u hS hd K' hK => by
              simp only [Act.put, List.setIfInBounds_toArray, List.set_cons_zero, List.set_cons_succ] at hK
              go_simp
              exact hK.out _ ⟨hS, trivial⟩) (by kernel_rfl) (j := 6) rfl ?_
          refine flatE_fix [] _ (fun L hL hcl v u hS hd K' hK => by
              simp only [Act.put, List.setIfInBounds_toArray, List.set_cons_zero, List.set_cons_succ] at hK
              go_simp
              exact hK.out _ ⟨hS, trivial⟩) (by kernel_rfl) (j := 7) rfl ?_
          refine flatE_fix [6] _ (fun L hL hcl v u hS hd K' hK => by
              simp only [held, relR, eqv, List.getD_cons_zero, List.getD_cons_succ, Nat.reduceSub] at hd
              simp only [Act.put, List.setIfInBounds_toArray, List.set_cons_zero, List.set_cons_succ] at hK
              try simp only [hd] at hK
              go_simp
              exact hK.out _ ⟨hS, trivial⟩) (by kernel_rfl) (j := 8) rfl ?_
          refine flatE_fix [5, 7] _ (fun L hL hcl v u hS hd K' hK => by
              simp only [held, relR, eqv, List.getD_cons_zero, List.getD_cons_succ, Nat.reduceSub] at hd
              simp only [Act.put, List.setIfInBounds_toArray, List.set_cons_zero, List.set_cons_succ] at hK
              try simp only [hd] at hK
              go_simp
              exact hK.out _ ⟨hS, trivial⟩) (by kernel_rfl) (j := 9) rfl ?_
          refine flatE_fix [8] _ (fun L hL hcl v u hS hd K' hK => by
              simp only [held, relR, eqv, List.getD_cons_zero, List.getD_cons_succ, Nat.reduceSub] at hd
              have hL17 : L 17 = false := by
                cases h9 : L 17 with
                | false => rfl
                | true => have h8 := hcl 17 9 h9 (by kernel_rfl); rw [hL] at h8; cases h8
              have hc9 := hS.2.1
              rw [hL17] at hc9
              refine wanted_go3 rfl ?_
              refine wp_load_mid 37 _ rfl g (q * 7) hd rq _ hc9 Tryd.underlying37 rfl (kV7l h7q) ?_
              exact hK.out _ ⟨hS, trivial⟩) (by kernel_rfl) (j := 10) rfl ?_
          refine flatE_fix [] _ (fun L hL hcl v u hS hd K' hK => by
              simp only [Act.put, List.setIfInBounds_toArray, List.set_cons_zero, List.set_cons_succ] at hK
              go_simp
              exact hK.out _ ⟨hS, trivial⟩) (by kernel_rfl) (j := 11) rfl ?_
          refine flatE_fix [] _ (fun L hL hcl v u hS hd K' hK => by
              simp only [Act.put, List.setIfInBounds_toArray, List.set_cons_zero, List.set_cons_succ] at hK
              go_simp
              exact hK.out _ ⟨hS, trivial⟩) (by kernel_rfl) (j := 12) rfl ?_
          refine flatE_fix [10, 11] _ (fun L hL hcl v u hS hd K' hK => by
              simp only [held, relR, eqv, List.getD_cons_zero, List.getD_cons_succ, Nat.reduceSub] at hd
              simp only [Act.put, List.setIfInBounds_toArray, List.set_cons_zero, List.set_cons_succ] at hK
              try simp only [hd] at hK
              go_simp
              exact hK.out _ ⟨hS, trivial⟩) (by kernel_rfl) (j := 13) rfl ?_
          refine flatE_fix [12] _ (fun L hL hcl v u hS hd K' hK => by
              simp only [held, relR, eqv, List.getD_cons_zero, List.getD_cons_succ, Nat.reduceSub] at hd
              have hL15 : L 15 = false := by
                cases h9 : L 15 with
                | false => rfl
                | true => have h8 := hcl 15 13 h9 (by kernel_rfl); rw [hL] at h8; cases h8
              have hc9 := hS.1
              rw [hL15] at hc9
              refine wanted_go3 rfl ?_
              refine wp_load_mid 37 _ rfl g (p * 7) hd rp _ hc9 Tryd.underlying37 rfl (kV7l h7p) ?_
              exact hK.out _ ⟨hS, trivial⟩) (by kernel_rfl) (j := 14) rfl ?_
          refine flatE_fix [0, 1] _ (fun L hL hcl v u hS hd K' hK => by
              simp only [held, relR, eqv, List.getD_cons_zero, List.getD_cons_succ, Nat.reduceSub] at hd
              simp only [Act.put, List.setIfInBounds_toArray, List.set_cons_zero, List.set_cons_succ] at hK
              try simp only [hd] at hK
              go_simp
              exact hK.out _ ⟨hS, trivial⟩) (by kernel_rfl) (j := 15) rfl ?_
          refine flatE_any [9, 14] (fun _ _ => True) (fun _ _ _ _ _ _ _ => trivial) (fun L hL hcl v u hS hd K' hK => by
              simp only [held, relR, eqv, List.getD_cons_zero, List.getD_cons_succ, Nat.reduceSub] at hd
              have hv7 : rq.length = 7 := h7q
              have hth : u.there g (p * 7) 7 := hS.2.2.2.1 p hthp.1
              have hsame := World.rangeAt_setCells_same u g (p * 7) rq (by rw [hv7]; exact hth)
              have hap := fun j r (hj : j ≠ p) (hr : r.length = 7) (h : u.rangeAt g (j * 7) r) => World.rangeAt_setCells_apart h g (p * 7) rq (by rw [hr, hv7]; omega)
              have ho7 : (cond (L 17) rp rq).length = 7 := by cases L 17 <;> first | exact h7p | exact h7q
              refine wanted_go3 rfl ?_
              refine wp_store_mid 37 _ _ rfl g (p * 7) rq.toArray hd.2 hd.1 (by rw [List.size_toArray, hv7]; exact hth) (kV7 hv7) (all_one h1q) ?_
              exact hK.out undef _ ⟨⟨hsame, hap q _ (by omega) ho7 hS.2.1, fun j r hj1 hj2 hr h => hap j r (by omega) hr (hS.2.2.1 j r hj1 hj2 hr h), fun j h => there_set7 (hS.2.2.2.1 j h) _ _ _, hS.2.2.2.2.trans (grown_setCells u g (p * 7) rq)⟩, trivial, trivial⟩) (by kernel_rfl) (j := 16) rfl ?_
          refine flatE_fix [2, 4] _ (fun L hL hcl v u hS hd K' hK => by
              simp only [held, relR, eqv, List.getD_cons_zero, List.getD_cons_succ, Nat.reduceSub] at hd
              simp only [Act.put, List.setIfInBounds_toArray, List.set_cons_zero, List.set_cons_succ] at hK
              try simp only [hd] at hK
              go_simp
              exact hK.out _ ⟨hS, trivial⟩) (by kernel_rfl) (j := 17) rfl ?_
          refine flatE_any [13, 16] (fun _ _ => True) (fun _ _ _ _ _ _ _ => trivial) (fun L hL hcl v u hS hd K' hK => by
              simp only [held, relR, eqv, List.getD_cons_zero, List.getD_cons_succ, Nat.reduceSub] at hd
              have hv7 : rp.length = 7 := h7p
              have hth : u.there g (q * 7) 7 := hS.2.2.2.1 q hthq.1
              have hsame := World.rangeAt_setCells_same u g (q * 7) rp (by rw [hv7]; exact hth)
              have hap := fun j r (hj : j ≠ q) (hr : r.length = 7) (h : u.rangeAt g (j * 7) r) => World.rangeAt_setCells_apart h g (q * 7) rp (by rw [hr, hv7]; omega)
              have ho7 : (cond (L 15) rq rp).length = 7 := by cases L 15 <;> first | exact h7p | exact h7q
              refine wanted_go3 rfl ?_
              refine wp_store_mid 37 _ _ rfl g (q * 7) rp.toArray hd.2 hd.1 (by rw [List.size_toArray, hv7]; exact hth) (kV7 hv7) (all_one h1p) ?_
              exact hK.out undef _ ⟨⟨hap p _ (by omega) ho7 hS.1, hsame, fun j r hj1 hj2 hr h => hap j r (by omega) hr (hS.2.2.1 j r hj1 hj2 hr h), fun j h => there_set7 (hS.2.2.2.1 j h) _ _ _, hS.2.2.2.2.trans (grown_setCells u g (q * 7) rp)⟩, trivial, trivial⟩) (by kernel_rfl) (j := 18) rfl ?_
          refine flatE_end [] (by decide) ?_
          rintro v u hS hR
          have hrows := rows_swap hRA hp9 hq9 hS.1 hS.2.1 h7p h7q hvp hvq hthp.2 hthq.2 hS.2.2.1 hS.2.2.2.1 hS.2.2.2.2
          have hgr := hS.2.2.2.2
          clear hS hR
          have hg2 := hgw.trans hgr
          go_wp2_with (go_quiet (fail))
          go_roundw
          case rel => exact ⟨p + 1, by go_num, by omega, hrows, hg2⟩
          case measure => simp [intOf]; omega
        · have hpl : ¬ (p : Int) < (i1 : Int) := by omega
          go_wp2_with (first | (at_builtin; fail))
          refine bodyPost_ret (v := .tuple #[]) (by simp [results, Tryd.results76, go_sem]) rfl ?_
          exact ⟨rfl, hRA, hgw⟩
set_option maxRecDepth 100000 in
set_option maxHeartbeats 2000000 in
theorem sym_two (g n cap a m b : Nat) (hn : n ≤ 1466015503701) (ham : a < m) (hmb : m < b) (hbn : b ≤ n) (h1 : m ≠ a + 1) (h2 : b = m + 1) : SymC g n cap a m b := by
  intro w hR
  have eg : ∀ args w, (callFunc 34 args).run Tryd.prog w = .ok (.enter 34 args) w := fun _ _ => by kernel_rfl
  have HR := hide hR
  clear hR
  obtain ⟨d1, hd1⟩ := named (m - a)
  have hd8 : (m : Int) - (a : Int) = (d1 : Int) := by rw [hd1.out]; omega
  have hwd : IntKind.i64.wrap (d1 : Int) = (d1 : Int) := by rw [IntKind.wrap_i64]; omega
  have hb1 : ((d1 : Int) == 1) = false := by rw [beq_eq_false_iff_ne]; rw [hd1.out]; omega
  have hd9 : (b : Int) - (m : Int) = 1 := by omega
  clear hd1 h1 h2
  go_enter Tryd.func76, Tryd.ntmps76
  go_wp2_with (first | (at_builtin; fail))
  have HD9 := hide hd9
  clear hd8 hwd hb1 hd9
  go_loopw [14, 15] (fun s t wr => ∃ i j : Nat, s = .int .i64 i ∧ t = .int .i64 j ∧ a ≤ i ∧ i ≤ j ∧ j ≤ m ∧ RowsAt wr g n ∧ w.grownBy wr (some g)) (fun s t _ => (intOf t).toNat - (intOf s).toNat)
  case atStart => exact ⟨a, m, rfl, rfl, by omega, by omega, by omega, HR.out, World.grownBy.refl _ _⟩
  case round =>
    clear HR
    obtain ⟨i, j, rfl, rfl, hmi, hij, hjb, hRA, hgw⟩ := hrel
    by_cases hlt : i < j
    · have hi1 : (i : Int) < (j : Int) := by omega
      obtain ⟨q, hq⟩ := named ((i + j) / 2)
      have hhh : (((i : Nat) : Int) + ((j : Nat) : Int)) / 2 = (q : Int) := by rw [hq.out]; omega
      have hh1 : i ≤ q := by rw [hq.out]; omega
      have hh2 : q < j := by rw [hq.out]; omega
      have hwij : IntKind.i64.wrap (((i : Nat) : Int) + ((j : Nat) : Int)) = ((i : Nat) : Int) + ((j : Nat) : Int) := by rw [IntKind.wrap_i64]; omega
      clear hq
      obtain ⟨p, hqa⟩ := named m
      have hp9 : p < n := by rw [hqa.out]; omega
      have hq9 : q < n := by omega
      have HQA := hide hqa.out.symm
      clear hqa
      obtain ⟨x, rp, hcp, hvp, hthp⟩ := hRA p hp9
      obtain ⟨y, rq, hcq, hvq, hthq⟩ := hRA q hq9
      have h7p := vAt_len hvp
      have h7q := vAt_len hvq
      have h1p := vAt_one hvp
      have h1q := vAt_one hvq
      have hp0 : (0 : Int) ≤ (p : Int) := by omega
      have hq0 : (0 : Int) ≤ (q : Int) := by omega
      have hpn : (p : Int) < (n : Int) := by omega
      have hqn : (q : Int) < (n : Int) := by omega
      have hwp : IntKind.i64.wrap (p : Int) = (p : Int) := by rw [IntKind.wrap_i64]; omega
      have hwq : IntKind.i64.wrap (q : Int) = (q : Int) := by rw [IntKind.wrap_i64]; omega
      have hjm : j ≤ m := hjb
      rw [HQA.out]
      go_upto_region 17 with (go_quiet (fail))
      refine region_auto (fun _ _ u => Below wr.heap.size wr u) (fun _ _ _ => True) _ (by kernel_rfl) (by kernel_rfl) (fun v => by simp only [putsV, Act.put, List.toList_toArray, List.setIfInBounds_toArray, List.set_cons_zero, List.set_cons_succ, Nat.reduceAdd, Nat.zero_add]; rfl) (Below.refl _ _).drew (fun _ _ _ _ _ h => h) ?_
      refine flatE_fix [] _ (fun L hL hcl v u hS hd K' hK => by
          simp only [Act.put, List.setIfInBounds_toArray, List.set_cons_zero, List.set_cons_succ] at hK
          go_simp
          exact hK.out _ ⟨hS, trivial⟩) (by kernel_rfl) (j := 1) rfl ?_
      refine flatE_fix [] _ (fun L hL hcl v u hS hd K' hK => by
          simp only [Act.put, List.setIfInBounds_toArray, List.set_cons_zero, List.set_cons_succ] at hK
          go_simp
          exact hK.out _ ⟨hS, trivial⟩) (by kernel_rfl) (j := 2) rfl ?_
      refine flatE_fix [] _ (fun L hL hcl v u hS hd K' hK => by
          simp only [Act.put, List.setIfInBounds_toArray, List.set_cons_zero, List.set_cons_succ] at hK
          go_simp
          exact hK.out _ ⟨hS, trivial⟩) (by kernel_rfl) (j := 3) rfl ?_
      refine flatE_fix [1, 2] _ (fun L hL hcl v u hS hd K' hK => by
          simp only [held, relR, eqv, List.getD_cons_zero, List.getD_cons_succ, Nat.reduceSub] at hd
          simp only [Act.put, List.setIfInBounds_toArray, List.set_cons_zero, List.set_cons_succ] at hK
          try simp only [hd] at hK
          go_simp
          exact hK.out _ ⟨hS, trivial⟩) (by kernel_rfl) (j := 4) rfl ?_
      refine flatE_fix [3] _ (fun L hL hcl v u hS hd K' hK => by
          simp only [held, relR, eqv, List.getD_cons_zero, List.getD_cons_succ, Nat.reduceSub] at hd
          have hc9 : u.rangeAt g (p * 7) rp := fun i v hi => cell_below' (hcp i v hi) hS
          refine wanted_go3 (by first | rfl | exact hwant v hd) ?_
          refine wp_load_mid 37 _ rfl g (p * 7) hd rp _ hc9 Tryd.underlying37 rfl (kV7l h7p) ?_
          exact hK.out _ ⟨hS, trivial⟩) (by kernel_rfl) (j := 5) rfl ?_
      refine flatE_fix [] _ (fun L hL hcl v u hS hd K' hK => by
          simp only [Act.put, List.setIfInBounds_toArray, List.set_cons_zero, List.set_cons_succ] at hK
          go_simp
          exact hK.out _ ⟨hS, trivial⟩) (by kernel_rfl) (j := 6) rfl ?_
      refine flatE_fix [] _ (fun L hL hcl v u hS hd K' hK => by
          simp only [Act.put, List.setIfInBounds_toArray, List.set_cons_zero, List.set_cons_succ] at hK
          go_simp
          exact hK.out _ ⟨hS, trivial⟩) (by kernel_rfl) (j := 7) rfl ?_
      refine flatE_fix [5, 6] _ (fun L hL hcl v u hS hd K' hK => by
          simp only [held, relR, eqv, List.getD_cons_zero, List.getD_cons_succ, Nat.reduceSub] at hd
          simp only [Act.put, List.setIfInBounds_toArray, List.set_cons_zero, List.set_cons_succ] at hK
          try simp only [hd] at hK
          go_simp
          exact hK.out _ ⟨hS, trivial⟩) (by kernel_rfl) (j := 8) rfl ?_
      refine flatE_fix [7] _ (fun L hL hcl v u hS hd K' hK => by
          simp only [held, relR, eqv, List.getD_cons_zero, List.getD_cons_succ, Nat.reduceSub] at hd
          have hc9 : u.rangeAt g (q * 7) rq := fun i v hi => cell_below' (hcq i v hi) hS
          refine wanted_go3 (by first | rfl | exact hwant v hd) ?_
          refine wp_load_mid 37 _ rfl g (q * 7) hd rq _ hc9 Tryd.underlying37 rfl (kV7l h7q) ?_
          exact hK.out _ ⟨hS, trivial⟩) (by kernel_rfl) (j := 9) rfl ?_
      refine flatE_fix [0, 4, 8] _ (fun L hL hcl v u hS hd K' hK => by
          simp only [held, relR, eqv, List.getD_cons_zero, List.getD_cons_succ, Nat.reduceSub] at hd
          simp only [Act.put, List.setIfInBounds_toArray, List.set_cons_zero, List.set_cons_succ] at hK
          try simp only [hd] at hK
          go_simp
          refine (compare_n x.ht x y (Nat.le_refl _) (g + 1) (g + 1) rp rq u (hvp.below hS) (hvq.below hS)).mono ?_
          rintro e w9 ⟨rfl, hb9⟩
          exact hK.out _ ⟨bt hS hb9, trivial⟩) (by kernel_rfl) (j := 10) rfl ?_
      refine flatE_fix [9] _ (fun L hL hcl v u hS hd K' hK => by
          simp only [held, relR, eqv, List.getD_cons_zero, List.getD_cons_succ, Nat.reduceSub] at hd
          simp only [Act.put, List.setIfInBounds_toArray, List.set_cons_zero, List.set_cons_succ] at hK
          try simp only [hd] at hK
          go_simp
          exact hK.out _ ⟨hS, trivial⟩) (by kernel_rfl) (j := 11) rfl ?_
      refine flatE_fix [10] _ (fun L hL hcl v u hS hd K' hK => by
          simp only [held, relR, eqv, List.getD_cons_zero, List.getD_cons_succ, Nat.reduceSub] at hd
          simp only [Act.put, List.setIfInBounds_toArray, List.set_cons_zero, List.set_cons_succ] at hK
          try simp only [hd] at hK
          go_simp
          exact hK.out _ ⟨hS, trivial⟩) (by kernel_rfl) (j := 12) rfl ?_
      refine flatE_end [11] (by decide) ?_
      rintro v u hS hR
      simp only [held, relR, eqv, List.getD_cons_zero, List.getD_cons_succ, Nat.reduceSub] at hR
      simp only [hR]
      clear hR
      have hRA5 := hRA.below hS
      have hg5 := hgw.trans (grown_below hS (row := some g))
      obtain ⟨C, hC⟩ := named (decide (cmpV x y < 0))
      try rw [← hC.out]
      clear hC
      cases C with
      | true =>
        go_wp2_with (go_quiet (fail))
        go_roundw
        case rel => exact ⟨i, q, rfl, rfl, by omega, by omega, by have := HQA.out; omega, hRA5, hg5⟩
        case measure => simp [intOf]; omega
      | false =>
        go_wp2_with (go_quiet (fail))
        go_roundw
        case rel => exact ⟨q + 1, j, by go_num, rfl, by omega, by omega, by have := HQA.out; omega, hRA5, hg5⟩
        case measure => simp [intOf]; omega
    · have hi1 : ¬ (i : Int) < (j : Int) := by omega
      have HRA := hide hRA
      have HGW := hide hgw
      clear hRA hgw
      rename World => wo
      go_wp2_with (first | (at_builtin; fail))
      go_loopw [17] (fun s wr => ∃ p : Nat, s = .int .i64 p ∧ i ≤ p ∧ p ≤ m ∧ RowsAt wr g n ∧ w.grownBy wr (some g)) (fun s _ => (intOf s).toNat)
      case atStart => exact ⟨m, rfl, by omega, by omega, HRA.out, HGW.out⟩
      case round =>
        clear HRA HGW
        obtain ⟨p, rfl, hap, hpm, hRA, hgw⟩ := hrel
        by_cases hlt2 : i < p
        · have hpl : (i : Int) < (p : Int) := by omega
          obtain ⟨q, hq⟩ := named (p - 1)
          have hq8 : (p : Int) - 1 = (q : Int) := by rw [hq.out]; omega
          have hqp : q + 1 = p := by rw [hq.out]; omega
          have hp9 : p < n := by omega
          have hq9 : q < n := by omega
          have hpq : p ≠ q := by omega
          obtain ⟨x, rp, hcp, hvp, hthp⟩ := hRA p hp9
          obtain ⟨y, rq, hcq, hvq, hthq⟩ := hRA q hq9
          have h7p := vAt_len hvp
          have h7q := vAt_len hvq
          have h1p := vAt_one hvp
          have h1q := vAt_one hvq
          have hp0 : (0 : Int) ≤ (p : Int) := by omega
          have hq0 : (0 : Int) ≤ (q : Int) := by omega
          have hpn : (p : Int) < (n : Int) := by omega
          have hqn : (q : Int) < (n : Int) := by omega
          have hwp : IntKind.i64.wrap (p : Int) = (p : Int) := by rw [IntKind.wrap_i64]; omega
          have hwq : IntKind.i64.wrap (q : Int) = (q : Int) := by rw [IntKind.wrap_i64]; omega
          have HQP := hide hqp
          clear hq hqp
          go_upto_region 23 with (go_quiet (fail))
          refine region_auto (fun L v u => u.rangeAt g (p * 7) (cond (L 15) rq rp) ∧ u.rangeAt g (q * 7) (cond (L 17) rp rq) ∧ (∀ j r, j ≠ p → j ≠ q → r.length = 7 → wr.rangeAt g (j * 7) r → u.rangeAt g (j * 7) r) ∧ (∀ j, wr.there g (j * 7) 7 → u.there g (j * 7) 7) ∧ wr.grownBy u (some g)) (fun _ _ _ => True) _ (by kernel_rfl) (by kernel_rfl) (fun v => by simp only [putsV, Act.put, List.toList_toArray, List.setIfInBounds_toArray, List.set_cons_zero, List.set_cons_succ, Nat.reduceAdd, Nat.zero_add]; rfl) ⟨hcp, hcq, fun _ _ _ _ _ h => h, fun _ h => h, ⟨rfl, rfl, rfl, Nat.le_refl _, fun _ _ _ => rfl⟩⟩ (fun L L' v u hL h => by rw [← hL 15 (by decide)]; rw [← hL 17 (by decide)]; exact h) ?_
          refine flatE_fix [] _ (fun L hL hcl v u hS hd K' hK => by
              simp only [Act.put, List.setIfInBounds_toArray, List.set_cons_zero, List.set_cons_succ] at hK
              go_simp
              exact hK.out _ ⟨hS, trivial⟩) (by kernel_rfl) (j := 1) rfl ?_
          refine flatE_fix [] _ (fun L hL hcl v u hS hd K' hK => by
              simp only [Act.put, List.setIfInBounds_toArray, List.set_cons_zero, List.set_cons_succ] at hK
              go_simp
              exact hK.out _ ⟨hS, trivial⟩) (by kernel_rfl) (j := 2) rfl ?_
          refine flatE_fix [] _ (fun L hL hcl v u hS hd K' hK => by
              simp only [Act.put, List.setIfInBounds_toArray, List.set_cons_zero, List.set_cons_succ] at hK
              go_simp
              exact hK.out _ ⟨hS, trivial⟩) (by kernel_rfl) (j := 3) rfl ?_
          refine flatE_fix [] _ (fun L hL hcl v u hS hd K' hK => by
              simp only [Act.put, List.setIfInBounds_toArray, List.set_cons_zero, List.set_cons_succ] at hK
              go_simp
              exact hK.out _ ⟨hS, trivial⟩) (by kernel_rfl) (j := 4) rfl ?_
          refine flatE_fix [3] _ (fun L hL hcl v u hS hd K' hK => by
              simp only [held, relR, eqv, List.getD_cons_zero, List.getD_cons_succ, Nat.reduceSub] at hd
              simp only [Act.put, List.setIfInBounds_toArray, List.set_cons_zero, List.set_cons_succ] at hK
              try simp only [hd] at hK
              go_simp
              exact hK.out _ ⟨hS, trivial⟩) (by kernel_rfl) (j := 5) rfl ?_
          refine flatE_fix [] _ (fun L hL hcl v u hS hd K' hK => by
              simp only [Act.put, List.setIfInBounds_toArray, List.set_cons_zero, List.set_cons_succ] at hK
              go_simp
              exact hK.out _ ⟨hS, trivial⟩) (by kernel_rfl) (j := 6) rfl ?_
          refine flatE_fix [] _ (fun L hL hcl v u hS hd K' hK => by
              simp only [Act.put, List.setIfInBounds_toArray, List.set_cons_zero, List.set_cons_succ] at hK
              go_simp
              exact hK.out _ ⟨hS, trivial⟩) (by kernel_rfl) (j := 7) rfl ?_
          refine flatE_fix [6] _ (fun L hL hcl v u hS hd K' hK => by
              simp only [held, relR, eqv, List.getD_cons_zero, List.getD_cons_succ, Nat.reduceSub] at hd
              simp only [Act.put, List.setIfInBounds_toArray, List.set_cons_zero, List.set_cons_succ] at hK
              try simp only [hd] at hK
              go_simp
              exact hK.out _ ⟨hS, trivial⟩) (by kernel_rfl) (j := 8) rfl ?_
          refine flatE_fix [5, 7] _ (fun L hL hcl v u hS hd K' hK => by
              simp only [held, relR, eqv, List.getD_cons_zero, List.getD_cons_succ, Nat.reduceSub] at hd
              simp only [Act.put, List.setIfInBounds_toArray, List.set_cons_zero, List.set_cons_succ] at hK
              try simp only [hd] at hK
              go_simp
              exact hK.out _ ⟨hS, trivial⟩) (by kernel_rfl) (j := 9) rfl ?_
          refine flatE_fix [8] _ (fun L hL hcl v u hS hd K' hK => by
              simp only [held, relR, eqv, List.getD_cons_zero, List.getD_cons_succ, Nat.reduceSub] at hd
              have hL17 : L 17 = false := by
                cases h9 : L 17 with
                | false => rfl
                | true => have h8 := hcl 17 9 h9 (by kernel_rfl); rw [hL] at h8; cases h8
              have hc9 := hS.2.1
              rw [hL17] at hc9
              refine wanted_go3 rfl ?_
              refine wp_load_mid 37 _ rfl g (q * 7) hd rq _ hc9 Tryd.underlying37 rfl (kV7l h7q) ?_
              exact hK.out _ ⟨hS, trivial⟩) (by kernel_rfl) (j := 10) rfl ?_
          refine flatE_fix [] _ (fun L hL hcl v u hS hd K' hK => by
              simp only [Act.put, List.setIfInBounds_toArray, List.set_cons_zero, List.set_cons_succ] at hK
              go_simp
              exact hK.out _ ⟨hS, trivial⟩) (by kernel_rfl) (j := 11) rfl ?_
          refine flatE_fix [] _ (fun L hL hcl v u hS hd K' hK => by
              simp only [Act.put, List.setIfInBounds_toArray, List.set_cons_zero, List.set_cons_succ] at hK
              go_simp
              exact hK.out _ ⟨hS, trivial⟩) (by kernel_rfl) (j := 12) rfl ?_
          refine flatE_fix [10, 11] _ (fun L hL hcl v u hS hd K' hK => by
              simp only [held, relR, eqv, List.getD_cons_zero, List.getD_cons_succ, Nat.reduceSub] at hd
              simp only [Act.put, List.setIfInBounds_toArray, List.set_cons_zero, List.set_cons_succ] at hK
              try simp only [hd] at hK
              go_simp
              exact hK.out _ ⟨hS, trivial⟩) (by kernel_rfl) (j := 13) rfl ?_
          refine flatE_fix [12] _ (fun L hL hcl v u hS hd K' hK => by
              simp only [held, relR, eqv, List.getD_cons_zero, List.getD_cons_succ, Nat.reduceSub] at hd
              have hL15 : L 15 = false := by
                cases h9 : L 15 with
                | false => rfl
                | true => have h8 := hcl 15 13 h9 (by kernel_rfl); rw [hL] at h8; cases h8
              have hc9 := hS.1
              rw [hL15] at hc9
              refine wanted_go3 rfl ?_
              refine wp_load_mid 37 _ rfl g (p * 7) hd rp _ hc9 Tryd.underlying37 rfl (kV7l h7p) ?_
              exact hK.out _ ⟨hS, trivial⟩) (by kernel_rfl) (j := 14) rfl ?_
          refine flatE_fix [0, 1] _ (fun L hL hcl v u hS hd K' hK => by
              simp only [held, relR, eqv, List.getD_cons_zero, List.getD_cons_succ, Nat.reduceSub] at hd
              simp only [Act.put, List.setIfInBounds_toArray, List.set_cons_zero, List.set_cons_succ] at hK
              try simp only [hd] at hK
              go_simp
              exact hK.out _ ⟨hS, trivial⟩) (by kernel_rfl) (j := 15) rfl ?_
          refine flatE_any [9, 14] (fun _ _ => True) (fun _ _ _ _ _ _ _ => trivial) (fun L hL hcl v u hS hd K' hK => by
              simp only [held, relR, eqv, List.getD_cons_zero, List.getD_cons_succ, Nat.reduceSub] at hd
              have hv7 : rq.length = 7 := h7q
              have hth : u.there g (p * 7) 7 := hS.2.2.2.1 p hthp.1
              have hsame := World.rangeAt_setCells_same u g (p * 7) rq (by rw [hv7]; exact hth)
              have hap := fun j r (hj : j ≠ p) (hr : r.length = 7) (h : u.rangeAt g (j * 7) r) => World.rangeAt_setCells_apart h g (p * 7) rq (by rw [hr, hv7]; omega)
              have ho7 : (cond (L 17) rp rq).length = 7 := by cases L 17 <;> first | exact h7p | exact h7q
              refine wanted_go3 rfl ?_
              refine wp_store_mid 37 _ _ rfl g (p * 7) rq.toArray hd.2 hd.1 (by rw [List.size_toArray, hv7]; exact hth) (kV7 hv7) (all_one h1q) ?_
              exact hK.out undef _ ⟨⟨hsame, hap q _ (by omega) ho7 hS.2.1, fun j r hj1 hj2 hr h => hap j r (by omega) hr (hS.2.2.1 j r hj1 hj2 hr h), fun j h => there_set7 (hS.2.2.2.1 j h) _ _ _, hS.2.2.2.2.trans (grown_setCells u g (p * 7) rq)⟩, trivial, trivial⟩) (by kernel_rfl) (j := 16) rfl ?_
          refine flatE_fix [2, 4] _ (fun L hL hcl v u hS hd K' hK => by
              simp only [held, relR, eqv, List.getD_cons_zero, List.getD_cons_succ, Nat.reduceSub] at hd
              simp only [Act.put, List.setIfInBounds_toArray, List.set_cons_zero, List.set_cons_succ] at hK
              try simp only [hd] at hK
              go_simp
              exact hK.out _ ⟨hS, trivial⟩) (by kernel_rfl) (j := 17) rfl ?_
          refine flatE_any [13, 16] (fun _ _ => True) (fun _ _ _ _ _ _ _ => trivial) (fun L hL hcl v u hS hd K' hK => by
              simp only [held, relR, eqv, List.getD_cons_zero, List.getD_cons_succ, Nat.reduceSub] at hd
              have hv7 : rp.length = 7 := h7p
              have hth : u.there g (q * 7) 7 := hS.2.2.2.1 q hthq.1
              have hsame := World.rangeAt_setCells_same u g (q * 7) rp (by rw [hv7]; exact hth)
              have hap := fun j r (hj : j ≠ q) (hr : r.length = 7) (h : u.rangeAt g (j * 7) r) => World.rangeAt_setCells_apart h g (q * 7) rp (by rw [hr, hv7]; omega)
              have ho7 : (cond (L 15) rq rp).length = 7 := by cases L 15 <;> first | exact h7p | exact h7q
              refine wanted_go3 rfl ?_
              refine wp_store_mid 37 _ _ rfl g (q * 7) rp.toArray hd.2 hd.1 (by rw [List.size_toArray, hv7]; exact hth) (kV7 hv7) (all_one h1p) ?_
              exact hK.out undef _ ⟨⟨hap p _ (by omega) ho7 hS.1, hsame, fun j r hj1 hj2 hr h => hap j r (by omega) hr (hS.2.2.1 j r hj1 hj2 hr h), fun j h => there_set7 (hS.2.2.2.1 j h) _ _ _, hS.2.2.2.2.trans (grown_setCells u g (q * 7) rp)⟩, trivial, trivial⟩) (by kernel_rfl) (j := 18) rfl ?_
          refine flatE_end [] (by decide) ?_
          rintro v u hS hR
          have hrows := rows_swap hRA hp9 hq9 hS.1 hS.2.1 h7p h7q hvp hvq hthp.2 hthq.2 hS.2.2.1 hS.2.2.2.1 hS.2.2.2.2
          have hgr := hS.2.2.2.2
          clear hS hR
          have hg2 := hgw.trans hgr
          go_wp2_with (go_quiet (fail))
          go_roundw
          case rel => exact ⟨q, rfl, by omega, by omega, hrows, hg2⟩
          case measure => simp [intOf]; omega
        · have hpl : ¬ (i : Int) < (p : Int) := by omega
          go_wp2_with (first | (at_builtin; fail))
          refine bodyPost_ret (v := .tuple #[]) (by simp [results, Tryd.results76, go_sem]) rfl ?_
          exact ⟨rfl, hRA, hgw⟩
end Go.Proofs.YtmnfmgoolimlmaaDoor
end
