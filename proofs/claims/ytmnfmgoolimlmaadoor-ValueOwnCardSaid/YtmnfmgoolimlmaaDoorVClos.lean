/- The closure of value.Compare. -/
import Derived.Test.YtmnfmgoolimlmaaDoorVRow
namespace Go.Proofs.YtmnfmgoolimlmaaDoor
set_option linter.unusedSimpArgs false
set_option linter.unusedVariables false
open Go.RowKit
/-- Names come first. -/
def nmc (ns ms : List ByteArray) (d : Int) : Int :=
  match ns, ms with
  | a :: _, b :: _ => if (a.toList == b.toList) = true then d else cmpS a b
  | _, _ => d
theorem nmc_out {ns ms : List ByteArray} {i : Nat} {d : Int} (h : min ns.length ms.length ≤ i) : nmc (ns.drop i) (ms.drop i) d = d := by
  rcases Nat.lt_or_ge i ns.length with h1 | h1
  · have : ms.drop i = [] := List.drop_eq_nil_of_le (by omega)
    rw [this]
    unfold nmc
    split <;> simp_all
  · have : ns.drop i = [] := List.drop_eq_nil_of_le h1
    rw [this]
    rfl
theorem nmc_in {ns ms : List ByteArray} {i : Nat} {d : Int} {a b : ByteArray} (ha : ns[i]? = some a) (hb : ms[i]? = some b) : nmc (ns.drop i) (ms.drop i) d = if (a.toList == b.toList) = true then d else cmpS a b := by
  have e1 : ns.drop i = a :: ns.drop (i + 1) := by
    obtain ⟨h, rfl⟩ := List.getElem?_eq_some_iff.1 ha
    exact List.drop_eq_getElem_cons h
  have e2 : ms.drop i = b :: ms.drop (i + 1) := by
    obtain ⟨h, rfl⟩ := List.getElem?_eq_some_iff.1 hb
    exact List.drop_eq_getElem_cons h
  rw [e1, e2]
  rfl
theorem text_cell {w : World} {b o : Nat} {l : List ByteArray} {i : Nat} {x : ByteArray} (h : Texts w (some ⟨b, o, none⟩) l) (hx : l[i]? = some x) : w.cell? ⟨b, o + i, none⟩ = some (.string x) := by
  obtain ⟨hi, rfl⟩ := List.getElem?_eq_some_iff.1 hx
  obtain ⟨b', o', e, hc⟩ := h.at_ hi
  cases e
  exact hc
set_option maxRecDepth 100000 in
set_option maxHeartbeats 2000000 in
theorem clos_w (i ga gb : Nat) (r q : List Value) (A B : Option Addr) (ca cc : Nat) (ns ms : List ByteArray) (d : Int) (w : World) (h7r : r.length = 7) (h7q : q.length = 7) (hi : i ≤ mLen)
    (hfa0 : w.cell? ⟨ga, 5, none⟩ = some (.slice A ns.length ca)) (hfb0 : w.cell? ⟨gb, 5, none⟩ = some (.slice B ms.length cc)) (hTa : Texts w A ns) (hTb : Texts w B ms)
    (hna : ns.length ≤ mLen) (hnb : ms.length ≤ mLen)
    (hC : ∀ W, Below w.heap.size w W → Calls Tryd.prog 34 #[.agg r.toArray, .agg q.toArray] W fun e w' => e = .returned (.int .i64 d) ∧ Below W.heap.size W w') :
    Calls Tryd.prog 59 #[.int .i64 (i : Int), .agg r.toArray, .agg q.toArray, .pointer (some ⟨ga, 0, none⟩), .pointer (some ⟨gb, 0, none⟩)] w fun e w' => e = .returned (.int .i64 (nmc (ns.drop i) (ms.drop i) d)) ∧ Below w.heap.size w w' := by
  unfold mLen at hi hna hnb
  obtain ⟨K1, K2, hbw⟩ := box2 w r q 37
  obtain ⟨W2, HW2⟩ := named ((w.alloc (.cells r.toArray 37)).alloc (.cells q.toArray 37))
  obtain ⟨R, HR⟩ := named (nmc (ns.drop i) (ms.drop i) d)
  rw [← HR.out]
  have hmin : min (ns.length : Int) (ms.length : Int) = ((min ns.length ms.length : Nat) : Int) := by omega
  go_enter Tryd.func59, Tryd.ntmps59
  go_upto_region 1 with (go_quiet (fail))
  rw [← HW2.out] at K1 K2 hbw ⊢
  clear HW2
  have hfa : ∀ u, Below W2.heap.size W2 u → u.cell? ⟨ga, 5, none⟩ = some (.slice A ns.length ca) := fun u hu => cell_below' hfa0 (bt hbw hu)
  have hfb : ∀ u, Below W2.heap.size W2 u → u.cell? ⟨gb, 5, none⟩ = some (.slice B ms.length cc) := fun u hu => cell_below' hfb0 (bt hbw hu)
  by_cases hlt : i < min ns.length ms.length
  · have hi1 : (i : Int) < ((min ns.length ms.length : Nat) : Int) := by omega
    obtain ⟨na, hna1⟩ : ∃ x, ns[i]? = some x := ⟨ns[i]'(by omega), List.getElem?_eq_getElem _⟩
    obtain ⟨nb, hnb1⟩ : ∃ x, ms[i]? = some x := ⟨ms[i]'(by omega), List.getElem?_eq_getElem _⟩
    obtain ⟨ba, oa, rfl, -⟩ := hTa.at_ (show i < ns.length by omega)
    obtain ⟨bb, ob, rfl, -⟩ := hTb.at_ (show i < ms.length by omega)
    have hcna := text_cell hTa hna1
    have hcnb := text_cell hTb hnb1
    have hna : ∀ u, Below W2.heap.size W2 u → u.cell? ⟨ba, oa + i, none⟩ = some (.string na) := fun u hu => cell_below' hcna (bt hbw hu)
    have hnb : ∀ u, Below W2.heap.size W2 u → u.cell? ⟨bb, ob + i, none⟩ = some (.string nb) := fun u hu => cell_below' hcnb (bt hbw hu)
    have hR1 := HR.out
    rw [nmc_in hna1 hnb1] at hR1
    have hi0 : (0 : Int) ≤ (i : Int) := by omega
    have hia : (i : Int) < (ns.length : Int) := by omega
    have hib : (i : Int) < (ms.length : Int) := by omega
    clear hna1 hnb1 hcna hcnb hTa hTb hfa0 hfb0 HR
    cases hq : (na.toList == nb.toList) with
    | true =>
      rw [if_pos hq] at hR1
      have HR0 := hide hR1
      have hR0 : Hid (R = d) := HR0
      clear hR1 HR0
      refine region_flat _ (fun u => Below W2.heap.size W2 u) (fun u u' => Below u.heap.size u u')
        (rel [fun v _ => v = .int .i64 (i : Int),
          fun v _ => v = .pointer (some ⟨ga, 5, none⟩),
          fun v _ => v = .slice (some ⟨ba, oa, none⟩) ns.length ca,
          fun v _ => v = .int .i64 (ns.length : Int),
          fun v _ => v = .pointer (some ⟨gb, 5, none⟩),
          fun v _ => v = .slice (some ⟨bb, ob, none⟩) ms.length cc,
          fun v _ => v = .int .i64 (ms.length : Int),
          fun v _ => v = .int .i64 ((min ns.length ms.length : Nat) : Int),
          fun v _ => v = .bool true,
          fun v _ => v = .bool true,
          fun v _ => v = .pointer (some ⟨ga, 5, none⟩),
          fun v _ => v = .slice (some ⟨ba, oa, none⟩) ns.length ca,
          fun v _ => v = .int .i64 (i : Int),
          fun v _ => v = .pointer (some ⟨ba, oa + i, none⟩),
          fun v _ => v = .string na,
          fun v _ => v = .pointer (some ⟨gb, 5, none⟩),
          fun v _ => v = .slice (some ⟨bb, ob, none⟩) ms.length cc,
          fun v _ => v = .int .i64 (i : Int),
          fun v _ => v = .pointer (some ⟨bb, ob + i, none⟩),
          fun v _ => v = .string nb,
          fun v _ => v = .bool false,
          fun v _ => v = .bool false])
        (by kernel_rfl) (by kernel_rfl) (fun v => by simp only [putsV, Act.put, List.toList_toArray, List.setIfInBounds_toArray, List.set_cons_zero, List.set_cons_succ, Nat.reduceAdd, Nat.zero_add]; rfl) ?_ (Below.refl _ _).drew ?_ ?_
      · intro j x u u' hb h
        match j with
        | 0 => exact h
        | 1 => exact h
        | 2 => exact h
        | 3 => exact h
        | 4 => exact h
        | 5 => exact h
        | 6 => exact h
        | 7 => exact h
        | 8 => exact h
        | 9 => exact h
        | 10 => exact h
        | 11 => exact h
        | 12 => exact h
        | 13 => exact h
        | 14 => exact h
        | 15 => exact h
        | 16 => exact h
        | 17 => exact h
        | 18 => exact h
        | 19 => exact h
        | 20 => exact h
        | 21 => exact h
        | _ + 22 => trivial
      · refine ⟨?_, ?_, ?_, ?_, ?_, ?_, ?_, ?_, ?_, ?_, ?_, ?_, ?_, ?_, ?_, ?_, ?_, ?_, ?_, ?_, ?_, ?_, trivial⟩
        · intro v u hS hd K' hK
          simp only [waited, List.toList_toArray, Region.binds, rel, List.getD_cons_zero, List.getD_cons_succ, true_imp_iff, and_true] at hd
          simp only [rel, List.getD_cons_zero, List.getD_cons_succ, Act.put, List.setIfInBounds_toArray, List.set_cons_zero, List.set_cons_succ] at hK
          try simp only [hd] at hK
          have hS1 := hS
          go_simp
          exact hK.out _ _ ⟨hS1, Below.refl _ _, rfl⟩
        · intro v u hS hd K' hK
          simp only [waited, List.toList_toArray, Region.binds, rel, List.getD_cons_zero, List.getD_cons_succ, true_imp_iff, and_true] at hd
          simp only [rel, List.getD_cons_zero, List.getD_cons_succ, Act.put, List.setIfInBounds_toArray, List.set_cons_zero, List.set_cons_succ] at hK
          try simp only [hd] at hK
          have hS1 := hS
          go_simp
          exact hK.out _ _ ⟨hS1, Below.refl _ _, rfl⟩
        · intro v u hS hd K' hK
          simp only [waited, List.toList_toArray, Region.binds, rel, List.getD_cons_zero, List.getD_cons_succ, true_imp_iff, and_true] at hd
          simp only [rel, List.getD_cons_zero, List.getD_cons_succ, Act.put, List.setIfInBounds_toArray, List.set_cons_zero, List.set_cons_succ] at hK
          try simp only [hd] at hK
          have hS1 := hS
          have x0 := hfa u hS1
          go_simp
          exact hK.out _ _ ⟨hS1, Below.refl _ _, rfl⟩
        · intro v u hS hd K' hK
          simp only [waited, List.toList_toArray, Region.binds, rel, List.getD_cons_zero, List.getD_cons_succ, true_imp_iff, and_true] at hd
          simp only [rel, List.getD_cons_zero, List.getD_cons_succ, Act.put, List.setIfInBounds_toArray, List.set_cons_zero, List.set_cons_succ] at hK
          try simp only [hd] at hK
          have hS1 := hS
          go_simp
          exact hK.out _ _ ⟨hS1, Below.refl _ _, rfl⟩
        · intro v u hS hd K' hK
          simp only [waited, List.toList_toArray, Region.binds, rel, List.getD_cons_zero, List.getD_cons_succ, true_imp_iff, and_true] at hd
          simp only [rel, List.getD_cons_zero, List.getD_cons_succ, Act.put, List.setIfInBounds_toArray, List.set_cons_zero, List.set_cons_succ] at hK
          try simp only [hd] at hK
          have hS1 := hS
          go_simp
          exact hK.out _ _ ⟨hS1, Below.refl _ _, rfl⟩
        · intro v u hS hd K' hK
          simp only [waited, List.toList_toArray, Region.binds, rel, List.getD_cons_zero, List.getD_cons_succ, true_imp_iff, and_true] at hd
          simp only [rel, List.getD_cons_zero, List.getD_cons_succ, Act.put, List.setIfInBounds_toArray, List.set_cons_zero, List.set_cons_succ] at hK
          try simp only [hd] at hK
          have hS1 := hS
          have x0 := hfb u hS1
          go_simp
          exact hK.out _ _ ⟨hS1, Below.refl _ _, rfl⟩
        · intro v u hS hd K' hK
          simp only [waited, List.toList_toArray, Region.binds, rel, List.getD_cons_zero, List.getD_cons_succ, true_imp_iff, and_true] at hd
          simp only [rel, List.getD_cons_zero, List.getD_cons_succ, Act.put, List.setIfInBounds_toArray, List.set_cons_zero, List.set_cons_succ] at hK
          try simp only [hd] at hK
          have hS1 := hS
          go_simp
          exact hK.out _ _ ⟨hS1, Below.refl _ _, rfl⟩
        · intro v u hS hd K' hK
          simp only [waited, List.toList_toArray, Region.binds, rel, List.getD_cons_zero, List.getD_cons_succ, true_imp_iff, and_true] at hd
          simp only [rel, List.getD_cons_zero, List.getD_cons_succ, Act.put, List.setIfInBounds_toArray, List.set_cons_zero, List.set_cons_succ] at hK
          try simp only [hd] at hK
          have hS1 := hS
          go_simp
          exact hK.out _ _ ⟨hS1, Below.refl _ _, rfl⟩
        · intro v u hS hd K' hK
          simp only [waited, List.toList_toArray, Region.binds, rel, List.getD_cons_zero, List.getD_cons_succ, true_imp_iff, and_true] at hd
          simp only [rel, List.getD_cons_zero, List.getD_cons_succ, Act.put, List.setIfInBounds_toArray, List.set_cons_zero, List.set_cons_succ] at hK
          try simp only [hd] at hK
          have hS1 := hS
          go_simp
          exact hK.out _ _ ⟨hS1, Below.refl _ _, rfl⟩
        · intro v u hS hd K' hK
          simp only [waited, List.toList_toArray, Region.binds, rel, List.getD_cons_zero, List.getD_cons_succ, true_imp_iff, and_true] at hd
          simp only [rel, List.getD_cons_zero, List.getD_cons_succ, Act.put, List.setIfInBounds_toArray, List.set_cons_zero, List.set_cons_succ] at hK
          try simp only [hd] at hK
          have hS1 := hS
          go_simp
          exact hK.out _ _ ⟨hS1, Below.refl _ _, rfl⟩
        · intro v u hS hd K' hK
          simp only [waited, List.toList_toArray, Region.binds, rel, List.getD_cons_zero, List.getD_cons_succ, true_imp_iff, and_true] at hd
          simp only [rel, List.getD_cons_zero, List.getD_cons_succ, Act.put, List.setIfInBounds_toArray, List.set_cons_zero, List.set_cons_succ] at hK
          try simp only [hd] at hK
          have hS1 := hS
          go_simp
          exact hK.out _ _ ⟨hS1, Below.refl _ _, rfl⟩
        · intro v u hS hd K' hK
          simp only [waited, List.toList_toArray, Region.binds, rel, List.getD_cons_zero, List.getD_cons_succ, true_imp_iff, and_true] at hd
          simp only [rel, List.getD_cons_zero, List.getD_cons_succ, Act.put, List.setIfInBounds_toArray, List.set_cons_zero, List.set_cons_succ] at hK
          try simp only [hd] at hK
          have hS1 := hS
          have x0 := hfa u hS1
          go_simp
          exact hK.out _ _ ⟨hS1, Below.refl _ _, rfl⟩
        · intro v u hS hd K' hK
          simp only [waited, List.toList_toArray, Region.binds, rel, List.getD_cons_zero, List.getD_cons_succ, true_imp_iff, and_true] at hd
          simp only [rel, List.getD_cons_zero, List.getD_cons_succ, Act.put, List.setIfInBounds_toArray, List.set_cons_zero, List.set_cons_succ] at hK
          try simp only [hd] at hK
          have hS1 := hS
          go_simp
          exact hK.out _ _ ⟨hS1, Below.refl _ _, rfl⟩
        · intro v u hS hd K' hK
          simp only [waited, List.toList_toArray, Region.binds, rel, List.getD_cons_zero, List.getD_cons_succ, true_imp_iff, and_true] at hd
          simp only [rel, List.getD_cons_zero, List.getD_cons_succ, Act.put, List.setIfInBounds_toArray, List.set_cons_zero, List.set_cons_succ] at hK
          try simp only [hd] at hK
          have hS1 := hS
          go_simp
          exact hK.out _ _ ⟨hS1, Below.refl _ _, rfl⟩
        · intro v u hS hd K' hK
          simp only [waited, List.toList_toArray, Region.binds, rel, List.getD_cons_zero, List.getD_cons_succ, true_imp_iff, and_true] at hd
          simp only [rel, List.getD_cons_zero, List.getD_cons_succ, Act.put, List.setIfInBounds_toArray, List.set_cons_zero, List.set_cons_succ] at hK
          try simp only [hd] at hK
          have hS1 := hS
          have x0 := hna u hS1
          go_simp
          exact hK.out _ _ ⟨hS1, Below.refl _ _, rfl⟩
        · intro v u hS hd K' hK
          simp only [waited, List.toList_toArray, Region.binds, rel, List.getD_cons_zero, List.getD_cons_succ, true_imp_iff, and_true] at hd
          simp only [rel, List.getD_cons_zero, List.getD_cons_succ, Act.put, List.setIfInBounds_toArray, List.set_cons_zero, List.set_cons_succ] at hK
          try simp only [hd] at hK
          have hS1 := hS
          go_simp
          exact hK.out _ _ ⟨hS1, Below.refl _ _, rfl⟩
        · intro v u hS hd K' hK
          simp only [waited, List.toList_toArray, Region.binds, rel, List.getD_cons_zero, List.getD_cons_succ, true_imp_iff, and_true] at hd
          simp only [rel, List.getD_cons_zero, List.getD_cons_succ, Act.put, List.setIfInBounds_toArray, List.set_cons_zero, List.set_cons_succ] at hK
          try simp only [hd] at hK
          have hS1 := hS
          have x0 := hfb u hS1
          go_simp
          exact hK.out _ _ ⟨hS1, Below.refl _ _, rfl⟩
        · intro v u hS hd K' hK
          simp only [waited, List.toList_toArray, Region.binds, rel, List.getD_cons_zero, List.getD_cons_succ, true_imp_iff, and_true] at hd
          simp only [rel, List.getD_cons_zero, List.getD_cons_succ, Act.put, List.setIfInBounds_toArray, List.set_cons_zero, List.set_cons_succ] at hK
          try simp only [hd] at hK
          have hS1 := hS
          go_simp
          exact hK.out _ _ ⟨hS1, Below.refl _ _, rfl⟩
        · intro v u hS hd K' hK
          simp only [waited, List.toList_toArray, Region.binds, rel, List.getD_cons_zero, List.getD_cons_succ, true_imp_iff, and_true] at hd
          simp only [rel, List.getD_cons_zero, List.getD_cons_succ, Act.put, List.setIfInBounds_toArray, List.set_cons_zero, List.set_cons_succ] at hK
          try simp only [hd] at hK
          have hS1 := hS
          go_simp
          exact hK.out _ _ ⟨hS1, Below.refl _ _, rfl⟩
        · intro v u hS hd K' hK
          simp only [waited, List.toList_toArray, Region.binds, rel, List.getD_cons_zero, List.getD_cons_succ, true_imp_iff, and_true] at hd
          simp only [rel, List.getD_cons_zero, List.getD_cons_succ, Act.put, List.setIfInBounds_toArray, List.set_cons_zero, List.set_cons_succ] at hK
          try simp only [hd] at hK
          have hS1 := hS
          have x0 := hnb u hS1
          go_simp
          exact hK.out _ _ ⟨hS1, Below.refl _ _, rfl⟩
        · intro v u hS hd K' hK
          simp only [waited, List.toList_toArray, Region.binds, rel, List.getD_cons_zero, List.getD_cons_succ, true_imp_iff, and_true] at hd
          simp only [rel, List.getD_cons_zero, List.getD_cons_succ, Act.put, List.setIfInBounds_toArray, List.set_cons_zero, List.set_cons_succ] at hK
          try simp only [hd] at hK
          have hS1 := hS
          go_simp
          exact hK.out _ _ ⟨hS1, Below.refl _ _, rfl⟩
        · intro v u hS hd K' hK
          simp only [waited, List.toList_toArray, Region.binds, rel, List.getD_cons_zero, List.getD_cons_succ, true_imp_iff, and_true] at hd
          simp only [rel, List.getD_cons_zero, List.getD_cons_succ, Act.put, List.setIfInBounds_toArray, List.set_cons_zero, List.set_cons_succ] at hK
          try simp only [hd] at hK
          have hS1 := hS
          go_simp
          exact hK.out _ _ ⟨hS1, Below.refl _ _, rfl⟩
      · rintro v u hS1 hR
        simp only [holdAll, List.size_toArray, List.length_cons, List.length_nil, Nat.reduceAdd, rel, List.getD_cons_zero, List.getD_cons_succ] at hR
        obtain ⟨-, h28⟩ := hR
        simp only [h28]
        clear h28
        have k1 := K1.below hS1
        have k2 := K2.below hS1
        go_wp2_with (first | refine wpList_load_row rfl 37 _ rfl _ rfl 37 r.toArray (0, 0) _ k1 Tryd.underlying37 rfl (kV7 h7r) ?_ | refine wpList_load_row rfl 37 _ rfl _ rfl 37 q.toArray (0, 0) _ k2 Tryd.underlying37 rfl (kV7 h7q) ?_)
        refine (hC _ (bt hbw hS1)).mono ?_
        rintro e w2 ⟨rfl, hb2⟩
        go_wp2_with fail
        go_ret
        exact ⟨by rw [hR0.out]; rfl, bt (bt hbw hS1) hb2⟩
    | false =>
      rw [if_neg (by rw [hq]; decide)] at hR1
      have hR0 : Hid (R = cmpS na nb) := hR1
      clear hR1
      refine region_flat _ (fun u => Below W2.heap.size W2 u) (fun u u' => Below u.heap.size u u')
        (rel [fun v _ => v = .int .i64 (i : Int),
          fun v _ => v = .pointer (some ⟨ga, 5, none⟩),
          fun v _ => v = .slice (some ⟨ba, oa, none⟩) ns.length ca,
          fun v _ => v = .int .i64 (ns.length : Int),
          fun v _ => v = .pointer (some ⟨gb, 5, none⟩),
          fun v _ => v = .slice (some ⟨bb, ob, none⟩) ms.length cc,
          fun v _ => v = .int .i64 (ms.length : Int),
          fun v _ => v = .int .i64 ((min ns.length ms.length : Nat) : Int),
          fun v _ => v = .bool true,
          fun v _ => v = .bool true,
          fun v _ => v = .pointer (some ⟨ga, 5, none⟩),
          fun v _ => v = .slice (some ⟨ba, oa, none⟩) ns.length ca,
          fun v _ => v = .int .i64 (i : Int),
          fun v _ => v = .pointer (some ⟨ba, oa + i, none⟩),
          fun v _ => v = .string na,
          fun v _ => v = .pointer (some ⟨gb, 5, none⟩),
          fun v _ => v = .slice (some ⟨bb, ob, none⟩) ms.length cc,
          fun v _ => v = .int .i64 (i : Int),
          fun v _ => v = .pointer (some ⟨bb, ob + i, none⟩),
          fun v _ => v = .string nb,
          fun v _ => v = .bool true,
          fun v _ => v = .bool true])
        (by kernel_rfl) (by kernel_rfl) (fun v => by simp only [putsV, Act.put, List.toList_toArray, List.setIfInBounds_toArray, List.set_cons_zero, List.set_cons_succ, Nat.reduceAdd, Nat.zero_add]; rfl) ?_ (Below.refl _ _).drew ?_ ?_
      · intro j x u u' hb h
        match j with
        | 0 => exact h
        | 1 => exact h
        | 2 => exact h
        | 3 => exact h
        | 4 => exact h
        | 5 => exact h
        | 6 => exact h
        | 7 => exact h
        | 8 => exact h
        | 9 => exact h
        | 10 => exact h
        | 11 => exact h
        | 12 => exact h
        | 13 => exact h
        | 14 => exact h
        | 15 => exact h
        | 16 => exact h
        | 17 => exact h
        | 18 => exact h
        | 19 => exact h
        | 20 => exact h
        | 21 => exact h
        | _ + 22 => trivial
      · refine ⟨?_, ?_, ?_, ?_, ?_, ?_, ?_, ?_, ?_, ?_, ?_, ?_, ?_, ?_, ?_, ?_, ?_, ?_, ?_, ?_, ?_, ?_, trivial⟩
        · intro v u hS hd K' hK
          simp only [waited, List.toList_toArray, Region.binds, rel, List.getD_cons_zero, List.getD_cons_succ, true_imp_iff, and_true] at hd
          simp only [rel, List.getD_cons_zero, List.getD_cons_succ, Act.put, List.setIfInBounds_toArray, List.set_cons_zero, List.set_cons_succ] at hK
          try simp only [hd] at hK
          have hS1 := hS
          go_simp
          exact hK.out _ _ ⟨hS1, Below.refl _ _, rfl⟩
        · intro v u hS hd K' hK
          simp only [waited, List.toList_toArray, Region.binds, rel, List.getD_cons_zero, List.getD_cons_succ, true_imp_iff, and_true] at hd
          simp only [rel, List.getD_cons_zero, List.getD_cons_succ, Act.put, List.setIfInBounds_toArray, List.set_cons_zero, List.set_cons_succ] at hK
          try simp only [hd] at hK
          have hS1 := hS
          go_simp
          exact hK.out _ _ ⟨hS1, Below.refl _ _, rfl⟩
        · intro v u hS hd K' hK
          simp only [waited, List.toList_toArray, Region.binds, rel, List.getD_cons_zero, List.getD_cons_succ, true_imp_iff, and_true] at hd
          simp only [rel, List.getD_cons_zero, List.getD_cons_succ, Act.put, List.setIfInBounds_toArray, List.set_cons_zero, List.set_cons_succ] at hK
          try simp only [hd] at hK
          have hS1 := hS
          have x0 := hfa u hS1
          go_simp
          exact hK.out _ _ ⟨hS1, Below.refl _ _, rfl⟩
        · intro v u hS hd K' hK
          simp only [waited, List.toList_toArray, Region.binds, rel, List.getD_cons_zero, List.getD_cons_succ, true_imp_iff, and_true] at hd
          simp only [rel, List.getD_cons_zero, List.getD_cons_succ, Act.put, List.setIfInBounds_toArray, List.set_cons_zero, List.set_cons_succ] at hK
          try simp only [hd] at hK
          have hS1 := hS
          go_simp
          exact hK.out _ _ ⟨hS1, Below.refl _ _, rfl⟩
        · intro v u hS hd K' hK
          simp only [waited, List.toList_toArray, Region.binds, rel, List.getD_cons_zero, List.getD_cons_succ, true_imp_iff, and_true] at hd
          simp only [rel, List.getD_cons_zero, List.getD_cons_succ, Act.put, List.setIfInBounds_toArray, List.set_cons_zero, List.set_cons_succ] at hK
          try simp only [hd] at hK
          have hS1 := hS
          go_simp
          exact hK.out _ _ ⟨hS1, Below.refl _ _, rfl⟩
        · intro v u hS hd K' hK
          simp only [waited, List.toList_toArray, Region.binds, rel, List.getD_cons_zero, List.getD_cons_succ, true_imp_iff, and_true] at hd
          simp only [rel, List.getD_cons_zero, List.getD_cons_succ, Act.put, List.setIfInBounds_toArray, List.set_cons_zero, List.set_cons_succ] at hK
          try simp only [hd] at hK
          have hS1 := hS
          have x0 := hfb u hS1
          go_simp
          exact hK.out _ _ ⟨hS1, Below.refl _ _, rfl⟩
        · intro v u hS hd K' hK
          simp only [waited, List.toList_toArray, Region.binds, rel, List.getD_cons_zero, List.getD_cons_succ, true_imp_iff, and_true] at hd
          simp only [rel, List.getD_cons_zero, List.getD_cons_succ, Act.put, List.setIfInBounds_toArray, List.set_cons_zero, List.set_cons_succ] at hK
          try simp only [hd] at hK
          have hS1 := hS
          go_simp
          exact hK.out _ _ ⟨hS1, Below.refl _ _, rfl⟩
        · intro v u hS hd K' hK
          simp only [waited, List.toList_toArray, Region.binds, rel, List.getD_cons_zero, List.getD_cons_succ, true_imp_iff, and_true] at hd
          simp only [rel, List.getD_cons_zero, List.getD_cons_succ, Act.put, List.setIfInBounds_toArray, List.set_cons_zero, List.set_cons_succ] at hK
          try simp only [hd] at hK
          have hS1 := hS
          go_simp
          exact hK.out _ _ ⟨hS1, Below.refl _ _, rfl⟩
        · intro v u hS hd K' hK
          simp only [waited, List.toList_toArray, Region.binds, rel, List.getD_cons_zero, List.getD_cons_succ, true_imp_iff, and_true] at hd
          simp only [rel, List.getD_cons_zero, List.getD_cons_succ, Act.put, List.setIfInBounds_toArray, List.set_cons_zero, List.set_cons_succ] at hK
          try simp only [hd] at hK
          have hS1 := hS
          go_simp
          exact hK.out _ _ ⟨hS1, Below.refl _ _, rfl⟩
        · intro v u hS hd K' hK
          simp only [waited, List.toList_toArray, Region.binds, rel, List.getD_cons_zero, List.getD_cons_succ, true_imp_iff, and_true] at hd
          simp only [rel, List.getD_cons_zero, List.getD_cons_succ, Act.put, List.setIfInBounds_toArray, List.set_cons_zero, List.set_cons_succ] at hK
          try simp only [hd] at hK
          have hS1 := hS
          go_simp
          exact hK.out _ _ ⟨hS1, Below.refl _ _, rfl⟩
        · intro v u hS hd K' hK
          simp only [waited, List.toList_toArray, Region.binds, rel, List.getD_cons_zero, List.getD_cons_succ, true_imp_iff, and_true] at hd
          simp only [rel, List.getD_cons_zero, List.getD_cons_succ, Act.put, List.setIfInBounds_toArray, List.set_cons_zero, List.set_cons_succ] at hK
          try simp only [hd] at hK
          have hS1 := hS
          go_simp
          exact hK.out _ _ ⟨hS1, Below.refl _ _, rfl⟩
        · intro v u hS hd K' hK
          simp only [waited, List.toList_toArray, Region.binds, rel, List.getD_cons_zero, List.getD_cons_succ, true_imp_iff, and_true] at hd
          simp only [rel, List.getD_cons_zero, List.getD_cons_succ, Act.put, List.setIfInBounds_toArray, List.set_cons_zero, List.set_cons_succ] at hK
          try simp only [hd] at hK
          have hS1 := hS
          have x0 := hfa u hS1
          go_simp
          exact hK.out _ _ ⟨hS1, Below.refl _ _, rfl⟩
        · intro v u hS hd K' hK
          simp only [waited, List.toList_toArray, Region.binds, rel, List.getD_cons_zero, List.getD_cons_succ, true_imp_iff, and_true] at hd
          simp only [rel, List.getD_cons_zero, List.getD_cons_succ, Act.put, List.setIfInBounds_toArray, List.set_cons_zero, List.set_cons_succ] at hK
          try simp only [hd] at hK
          have hS1 := hS
          go_simp
          exact hK.out _ _ ⟨hS1, Below.refl _ _, rfl⟩
        · intro v u hS hd K' hK
          simp only [waited, List.toList_toArray, Region.binds, rel, List.getD_cons_zero, List.getD_cons_succ, true_imp_iff, and_true] at hd
          simp only [rel, List.getD_cons_zero, List.getD_cons_succ, Act.put, List.setIfInBounds_toArray, List.set_cons_zero, List.set_cons_succ] at hK
          try simp only [hd] at hK
          have hS1 := hS
          go_simp
          exact hK.out _ _ ⟨hS1, Below.refl _ _, rfl⟩
        · intro v u hS hd K' hK
          simp only [waited, List.toList_toArray, Region.binds, rel, List.getD_cons_zero, List.getD_cons_succ, true_imp_iff, and_true] at hd
          simp only [rel, List.getD_cons_zero, List.getD_cons_succ, Act.put, List.setIfInBounds_toArray, List.set_cons_zero, List.set_cons_succ] at hK
          try simp only [hd] at hK
          have hS1 := hS
          have x0 := hna u hS1
          go_simp
          exact hK.out _ _ ⟨hS1, Below.refl _ _, rfl⟩
        · intro v u hS hd K' hK
          simp only [waited, List.toList_toArray, Region.binds, rel, List.getD_cons_zero, List.getD_cons_succ, true_imp_iff, and_true] at hd
          simp only [rel, List.getD_cons_zero, List.getD_cons_succ, Act.put, List.setIfInBounds_toArray, List.set_cons_zero, List.set_cons_succ] at hK
          try simp only [hd] at hK
          have hS1 := hS
          go_simp
          exact hK.out _ _ ⟨hS1, Below.refl _ _, rfl⟩
        · intro v u hS hd K' hK
          simp only [waited, List.toList_toArray, Region.binds, rel, List.getD_cons_zero, List.getD_cons_succ, true_imp_iff, and_true] at hd
          simp only [rel, List.getD_cons_zero, List.getD_cons_succ, Act.put, List.setIfInBounds_toArray, List.set_cons_zero, List.set_cons_succ] at hK
          try simp only [hd] at hK
          have hS1 := hS
          have x0 := hfb u hS1
          go_simp
          exact hK.out _ _ ⟨hS1, Below.refl _ _, rfl⟩
        · intro v u hS hd K' hK
          simp only [waited, List.toList_toArray, Region.binds, rel, List.getD_cons_zero, List.getD_cons_succ, true_imp_iff, and_true] at hd
          simp only [rel, List.getD_cons_zero, List.getD_cons_succ, Act.put, List.setIfInBounds_toArray, List.set_cons_zero, List.set_cons_succ] at hK
          try simp only [hd] at hK
          have hS1 := hS
          go_simp
          exact hK.out _ _ ⟨hS1, Below.refl _ _, rfl⟩
        · intro v u hS hd K' hK
          simp only [waited, List.toList_toArray, Region.binds, rel, List.getD_cons_zero, List.getD_cons_succ, true_imp_iff, and_true] at hd
          simp only [rel, List.getD_cons_zero, List.getD_cons_succ, Act.put, List.setIfInBounds_toArray, List.set_cons_zero, List.set_cons_succ] at hK
          try simp only [hd] at hK
          have hS1 := hS
          go_simp
          exact hK.out _ _ ⟨hS1, Below.refl _ _, rfl⟩
        · intro v u hS hd K' hK
          simp only [waited, List.toList_toArray, Region.binds, rel, List.getD_cons_zero, List.getD_cons_succ, true_imp_iff, and_true] at hd
          simp only [rel, List.getD_cons_zero, List.getD_cons_succ, Act.put, List.setIfInBounds_toArray, List.set_cons_zero, List.set_cons_succ] at hK
          try simp only [hd] at hK
          have hS1 := hS
          have x0 := hnb u hS1
          go_simp
          exact hK.out _ _ ⟨hS1, Below.refl _ _, rfl⟩
        · intro v u hS hd K' hK
          simp only [waited, List.toList_toArray, Region.binds, rel, List.getD_cons_zero, List.getD_cons_succ, true_imp_iff, and_true] at hd
          simp only [rel, List.getD_cons_zero, List.getD_cons_succ, Act.put, List.setIfInBounds_toArray, List.set_cons_zero, List.set_cons_succ] at hK
          try simp only [hd] at hK
          have hS1 := hS
          go_simp
          exact hK.out _ _ ⟨hS1, Below.refl _ _, rfl⟩
        · intro v u hS hd K' hK
          simp only [waited, List.toList_toArray, Region.binds, rel, List.getD_cons_zero, List.getD_cons_succ, true_imp_iff, and_true] at hd
          simp only [rel, List.getD_cons_zero, List.getD_cons_succ, Act.put, List.setIfInBounds_toArray, List.set_cons_zero, List.set_cons_succ] at hK
          try simp only [hd] at hK
          have hS1 := hS
          go_simp
          exact hK.out _ _ ⟨hS1, Below.refl _ _, rfl⟩
      · rintro v u hS1 hR
        simp only [holdAll, List.size_toArray, List.length_cons, List.length_nil, Nat.reduceAdd, rel, List.getD_cons_zero, List.getD_cons_succ] at hR
        obtain ⟨-, h28⟩ := hR
        simp only [h28]
        clear h28
        go_upto_region 2 with (go_quiet (fail))
        have hS0 := hS1
        have hfa2 := fun u2 (h : Below u.heap.size u u2) => hfa u2 (bt hS0 h)
        have hfb2 := fun u2 (h : Below u.heap.size u u2) => hfb u2 (bt hS0 h)
        have hna2 := fun u2 (h : Below u.heap.size u u2) => hna u2 (bt hS0 h)
        have hnb2 := fun u2 (h : Below u.heap.size u u2) => hnb u2 (bt hS0 h)
        clear hfa hfb hna hnb hS1
        refine region_flat _ (fun u2 => Below u.heap.size u u2) (fun u u' => Below u.heap.size u u')
          (rel [fun v _ => v = .pointer (some ⟨ga, 5, none⟩),
            fun v _ => v = .slice (some ⟨ba, oa, none⟩) ns.length ca,
            fun v _ => v = .int .i64 (i : Int),
            fun v _ => v = .pointer (some ⟨ba, oa + i, none⟩),
            fun v _ => v = .string na,
            fun v _ => v = .pointer (some ⟨gb, 5, none⟩),
            fun v _ => v = .slice (some ⟨bb, ob, none⟩) ms.length cc,
            fun v _ => v = .int .i64 (i : Int),
            fun v _ => v = .pointer (some ⟨bb, ob + i, none⟩),
            fun v _ => v = .string nb,
            fun v _ => v = .int .i64 (cmpS na nb),
            fun v _ => v = .int .i64 (cmpS na nb)])
          (by kernel_rfl) (by kernel_rfl) (fun v => by simp only [putsV, Act.put, List.toList_toArray, List.setIfInBounds_toArray, List.set_cons_zero, List.set_cons_succ, Nat.reduceAdd, Nat.zero_add]; rfl) ?_ (Below.refl _ _).drew ?_ ?_
        · intro j x u u' hb h
          match j with
          | 0 => exact h
          | 1 => exact h
          | 2 => exact h
          | 3 => exact h
          | 4 => exact h
          | 5 => exact h
          | 6 => exact h
          | 7 => exact h
          | 8 => exact h
          | 9 => exact h
          | 10 => exact h
          | 11 => exact h
          | _ + 12 => trivial
        · refine ⟨?_, ?_, ?_, ?_, ?_, ?_, ?_, ?_, ?_, ?_, ?_, ?_, trivial⟩
          · intro v u hS hd K' hK
            simp only [waited, List.toList_toArray, Region.binds, rel, List.getD_cons_zero, List.getD_cons_succ, true_imp_iff, and_true] at hd
            simp only [rel, List.getD_cons_zero, List.getD_cons_succ, Act.put, List.setIfInBounds_toArray, List.set_cons_zero, List.set_cons_succ] at hK
            try simp only [hd] at hK
            have hS1 := hS
            go_simp
            exact hK.out _ _ ⟨hS1, Below.refl _ _, rfl⟩
          · intro v u hS hd K' hK
            simp only [waited, List.toList_toArray, Region.binds, rel, List.getD_cons_zero, List.getD_cons_succ, true_imp_iff, and_true] at hd
            simp only [rel, List.getD_cons_zero, List.getD_cons_succ, Act.put, List.setIfInBounds_toArray, List.set_cons_zero, List.set_cons_succ] at hK
            try simp only [hd] at hK
            have hS1 := hS
            have x0 := hfa2 u hS1
            go_simp
            exact hK.out _ _ ⟨hS1, Below.refl _ _, rfl⟩
          · intro v u hS hd K' hK
            simp only [waited, List.toList_toArray, Region.binds, rel, List.getD_cons_zero, List.getD_cons_succ, true_imp_iff, and_true] at hd
            simp only [rel, List.getD_cons_zero, List.getD_cons_succ, Act.put, List.setIfInBounds_toArray, List.set_cons_zero, List.set_cons_succ] at hK
            try simp only [hd] at hK
            have hS1 := hS
            go_simp
            exact hK.out _ _ ⟨hS1, Below.refl _ _, rfl⟩
          · intro v u hS hd K' hK
            simp only [waited, List.toList_toArray, Region.binds, rel, List.getD_cons_zero, List.getD_cons_succ, true_imp_iff, and_true] at hd
            simp only [rel, List.getD_cons_zero, List.getD_cons_succ, Act.put, List.setIfInBounds_toArray, List.set_cons_zero, List.set_cons_succ] at hK
            try simp only [hd] at hK
            have hS1 := hS
            go_simp
            exact hK.out _ _ ⟨hS1, Below.refl _ _, rfl⟩
          · intro v u hS hd K' hK
            simp only [waited, List.toList_toArray, Region.binds, rel, List.getD_cons_zero, List.getD_cons_succ, true_imp_iff, and_true] at hd
            simp only [rel, List.getD_cons_zero, List.getD_cons_succ, Act.put, List.setIfInBounds_toArray, List.set_cons_zero, List.set_cons_succ] at hK
            try simp only [hd] at hK
            have hS1 := hS
            have x0 := hna2 u hS1
            go_simp
            exact hK.out _ _ ⟨hS1, Below.refl _ _, rfl⟩
          · intro v u hS hd K' hK
            simp only [waited, List.toList_toArray, Region.binds, rel, List.getD_cons_zero, List.getD_cons_succ, true_imp_iff, and_true] at hd
            simp only [rel, List.getD_cons_zero, List.getD_cons_succ, Act.put, List.setIfInBounds_toArray, List.set_cons_zero, List.set_cons_succ] at hK
            try simp only [hd] at hK
            have hS1 := hS
            go_simp
            exact hK.out _ _ ⟨hS1, Below.refl _ _, rfl⟩
          · intro v u hS hd K' hK
            simp only [waited, List.toList_toArray, Region.binds, rel, List.getD_cons_zero, List.getD_cons_succ, true_imp_iff, and_true] at hd
            simp only [rel, List.getD_cons_zero, List.getD_cons_succ, Act.put, List.setIfInBounds_toArray, List.set_cons_zero, List.set_cons_succ] at hK
            try simp only [hd] at hK
            have hS1 := hS
            have x0 := hfb2 u hS1
            go_simp
            exact hK.out _ _ ⟨hS1, Below.refl _ _, rfl⟩
          · intro v u hS hd K' hK
            simp only [waited, List.toList_toArray, Region.binds, rel, List.getD_cons_zero, List.getD_cons_succ, true_imp_iff, and_true] at hd
            simp only [rel, List.getD_cons_zero, List.getD_cons_succ, Act.put, List.setIfInBounds_toArray, List.set_cons_zero, List.set_cons_succ] at hK
            try simp only [hd] at hK
            have hS1 := hS
            go_simp
            exact hK.out _ _ ⟨hS1, Below.refl _ _, rfl⟩
          · intro v u hS hd K' hK
            simp only [waited, List.toList_toArray, Region.binds, rel, List.getD_cons_zero, List.getD_cons_succ, true_imp_iff, and_true] at hd
            simp only [rel, List.getD_cons_zero, List.getD_cons_succ, Act.put, List.setIfInBounds_toArray, List.set_cons_zero, List.set_cons_succ] at hK
            try simp only [hd] at hK
            have hS1 := hS
            go_simp
            exact hK.out _ _ ⟨hS1, Below.refl _ _, rfl⟩
          · intro v u hS hd K' hK
            simp only [waited, List.toList_toArray, Region.binds, rel, List.getD_cons_zero, List.getD_cons_succ, true_imp_iff, and_true] at hd
            simp only [rel, List.getD_cons_zero, List.getD_cons_succ, Act.put, List.setIfInBounds_toArray, List.set_cons_zero, List.set_cons_succ] at hK
            try simp only [hd] at hK
            have hS1 := hS
            have x0 := hnb2 u hS1
            go_simp
            exact hK.out _ _ ⟨hS1, Below.refl _ _, rfl⟩
          · intro v u hS hd K' hK
            simp only [waited, List.toList_toArray, Region.binds, rel, List.getD_cons_zero, List.getD_cons_succ, true_imp_iff, and_true] at hd
            simp only [rel, List.getD_cons_zero, List.getD_cons_succ, Act.put, List.setIfInBounds_toArray, List.set_cons_zero, List.set_cons_succ] at hK
            try simp only [hd] at hK
            have hS1 := hS
            go_simp
            refine (cmpS_w na nb _).mono ?_
            rintro e w2 ⟨rfl, rfl⟩
            exact hK.out _ _ ⟨hS1, Below.refl _ _, rfl⟩
          · intro v u hS hd K' hK
            simp only [waited, List.toList_toArray, Region.binds, rel, List.getD_cons_zero, List.getD_cons_succ, true_imp_iff, and_true] at hd
            simp only [rel, List.getD_cons_zero, List.getD_cons_succ, Act.put, List.setIfInBounds_toArray, List.set_cons_zero, List.set_cons_succ] at hK
            try simp only [hd] at hK
            have hS1 := hS
            go_simp
            exact hK.out _ _ ⟨hS1, Below.refl _ _, rfl⟩
        · rintro v u hS1 hR
          simp only [holdAll, List.size_toArray, List.length_cons, List.length_nil, Nat.reduceAdd, rel, List.getD_cons_zero, List.getD_cons_succ] at hR
          obtain ⟨-, h28⟩ := hR
          simp only [h28]
          clear h28
          go_wp2_with fail
          go_ret
          exact ⟨by rw [hR0.out]; rfl, bt (bt hbw hS0) hS1⟩
  · have hi1 : ¬ (i : Int) < ((min ns.length ms.length : Nat) : Int) := by omega
    have hR0 : Hid (R = d) := by rw [HR.out]; exact nmc_out (by omega)
    clear HR hTa hTb hfa0 hfb0
    refine region_flat _ (fun u => Below W2.heap.size W2 u) (fun u u' => Below u.heap.size u u')
      (rel [fun v _ => v = .int .i64 (i : Int),
        fun v _ => v = .pointer (some ⟨ga, 5, none⟩),
        fun v _ => v = .slice A ns.length ca,
        fun v _ => v = .int .i64 (ns.length : Int),
        fun v _ => v = .pointer (some ⟨gb, 5, none⟩),
        fun v _ => v = .slice B ms.length cc,
        fun v _ => v = .int .i64 (ms.length : Int),
        fun v _ => v = .int .i64 ((min ns.length ms.length : Nat) : Int),
        fun v _ => v = .bool false,
        fun v _ => v = .bool false,
        fun v _ => v = undef,
        fun v _ => v = undef,
        fun v _ => v = undef,
        fun v _ => v = undef,
        fun v _ => v = undef,
        fun v _ => v = undef,
        fun v _ => v = undef,
        fun v _ => v = undef,
        fun v _ => v = undef,
        fun v _ => v = undef,
        fun v _ => v = undef,
        fun v _ => v = .bool false])
      (by kernel_rfl) (by kernel_rfl) (fun v => by simp only [putsV, Act.put, List.toList_toArray, List.setIfInBounds_toArray, List.set_cons_zero, List.set_cons_succ, Nat.reduceAdd, Nat.zero_add]; rfl) ?_ (Below.refl _ _).drew ?_ ?_
    · intro j x u u' hb h
      match j with
      | 0 => exact h
      | 1 => exact h
      | 2 => exact h
      | 3 => exact h
      | 4 => exact h
      | 5 => exact h
      | 6 => exact h
      | 7 => exact h
      | 8 => exact h
      | 9 => exact h
      | 10 => exact h
      | 11 => exact h
      | 12 => exact h
      | 13 => exact h
      | 14 => exact h
      | 15 => exact h
      | 16 => exact h
      | 17 => exact h
      | 18 => exact h
      | 19 => exact h
      | 20 => exact h
      | 21 => exact h
      | _ + 22 => trivial
    · refine ⟨?_, ?_, ?_, ?_, ?_, ?_, ?_, ?_, ?_, ?_, ?_, ?_, ?_, ?_, ?_, ?_, ?_, ?_, ?_, ?_, ?_, ?_, trivial⟩
      · intro v u hS hd K' hK
        simp only [waited, List.toList_toArray, Region.binds, rel, List.getD_cons_zero, List.getD_cons_succ, true_imp_iff, and_true] at hd
        simp only [rel, List.getD_cons_zero, List.getD_cons_succ, Act.put, List.setIfInBounds_toArray, List.set_cons_zero, List.set_cons_succ] at hK
        try simp only [hd] at hK
        have hS1 := hS
        go_simp
        exact hK.out _ _ ⟨hS1, Below.refl _ _, rfl⟩
      · intro v u hS hd K' hK
        simp only [waited, List.toList_toArray, Region.binds, rel, List.getD_cons_zero, List.getD_cons_succ, true_imp_iff, and_true] at hd
        simp only [rel, List.getD_cons_zero, List.getD_cons_succ, Act.put, List.setIfInBounds_toArray, List.set_cons_zero, List.set_cons_succ] at hK
        try simp only [hd] at hK
        have hS1 := hS
        go_simp
        exact hK.out _ _ ⟨hS1, Below.refl _ _, rfl⟩
      · intro v u hS hd K' hK
        simp only [waited, List.toList_toArray, Region.binds, rel, List.getD_cons_zero, List.getD_cons_succ, true_imp_iff, and_true] at hd
        simp only [rel, List.getD_cons_zero, List.getD_cons_succ, Act.put, List.setIfInBounds_toArray, List.set_cons_zero, List.set_cons_succ] at hK
        try simp only [hd] at hK
        have hS1 := hS
        have x0 := hfa u hS1
        go_simp
        exact hK.out _ _ ⟨hS1, Below.refl _ _, rfl⟩
      · intro v u hS hd K' hK
        simp only [waited, List.toList_toArray, Region.binds, rel, List.getD_cons_zero, List.getD_cons_succ, true_imp_iff, and_true] at hd
        simp only [rel, List.getD_cons_zero, List.getD_cons_succ, Act.put, List.setIfInBounds_toArray, List.set_cons_zero, List.set_cons_succ] at hK
        try simp only [hd] at hK
        have hS1 := hS
        go_simp
        exact hK.out _ _ ⟨hS1, Below.refl _ _, rfl⟩
      · intro v u hS hd K' hK
        simp only [waited, List.toList_toArray, Region.binds, rel, List.getD_cons_zero, List.getD_cons_succ, true_imp_iff, and_true] at hd
        simp only [rel, List.getD_cons_zero, List.getD_cons_succ, Act.put, List.setIfInBounds_toArray, List.set_cons_zero, List.set_cons_succ] at hK
        try simp only [hd] at hK
        have hS1 := hS
        go_simp
        exact hK.out _ _ ⟨hS1, Below.refl _ _, rfl⟩
      · intro v u hS hd K' hK
        simp only [waited, List.toList_toArray, Region.binds, rel, List.getD_cons_zero, List.getD_cons_succ, true_imp_iff, and_true] at hd
        simp only [rel, List.getD_cons_zero, List.getD_cons_succ, Act.put, List.setIfInBounds_toArray, List.set_cons_zero, List.set_cons_succ] at hK
        try simp only [hd] at hK
        have hS1 := hS
        have x0 := hfb u hS1
        go_simp
        exact hK.out _ _ ⟨hS1, Below.refl _ _, rfl⟩
      · intro v u hS hd K' hK
        simp only [waited, List.toList_toArray, Region.binds, rel, List.getD_cons_zero, List.getD_cons_succ, true_imp_iff, and_true] at hd
        simp only [rel, List.getD_cons_zero, List.getD_cons_succ, Act.put, List.setIfInBounds_toArray, List.set_cons_zero, List.set_cons_succ] at hK
        try simp only [hd] at hK
        have hS1 := hS
        go_simp
        exact hK.out _ _ ⟨hS1, Below.refl _ _, rfl⟩
      · intro v u hS hd K' hK
        simp only [waited, List.toList_toArray, Region.binds, rel, List.getD_cons_zero, List.getD_cons_succ, true_imp_iff, and_true] at hd
        simp only [rel, List.getD_cons_zero, List.getD_cons_succ, Act.put, List.setIfInBounds_toArray, List.set_cons_zero, List.set_cons_succ] at hK
        try simp only [hd] at hK
        have hS1 := hS
        go_simp
        exact hK.out _ _ ⟨hS1, Below.refl _ _, rfl⟩
      · intro v u hS hd K' hK
        simp only [waited, List.toList_toArray, Region.binds, rel, List.getD_cons_zero, List.getD_cons_succ, true_imp_iff, and_true] at hd
        simp only [rel, List.getD_cons_zero, List.getD_cons_succ, Act.put, List.setIfInBounds_toArray, List.set_cons_zero, List.set_cons_succ] at hK
        try simp only [hd] at hK
        have hS1 := hS
        go_simp
        exact hK.out _ _ ⟨hS1, Below.refl _ _, rfl⟩
      · intro v u hS hd K' hK
        simp only [waited, List.toList_toArray, Region.binds, rel, List.getD_cons_zero, List.getD_cons_succ, true_imp_iff, and_true] at hd
        simp only [rel, List.getD_cons_zero, List.getD_cons_succ, Act.put, List.setIfInBounds_toArray, List.set_cons_zero, List.set_cons_succ] at hK
        try simp only [hd] at hK
        have hS1 := hS
        go_simp
        exact hK.out _ _ ⟨hS1, Below.refl _ _, rfl⟩
      · intro v u hS hd K' hK
        simp only [waited, List.toList_toArray, Region.binds, rel, List.getD_cons_zero, List.getD_cons_succ, true_imp_iff, and_true] at hd
        simp only [rel, List.getD_cons_zero, List.getD_cons_succ, Act.put, List.setIfInBounds_toArray, List.set_cons_zero, List.set_cons_succ] at hK
        try simp only [hd] at hK
        have hS1 := hS
        go_simp
        exact hK.out _ _ ⟨hS1, Below.refl _ _, rfl⟩
      · intro v u hS hd K' hK
        simp only [waited, List.toList_toArray, Region.binds, rel, List.getD_cons_zero, List.getD_cons_succ, true_imp_iff, and_true] at hd
        simp only [rel, List.getD_cons_zero, List.getD_cons_succ, Act.put, List.setIfInBounds_toArray, List.set_cons_zero, List.set_cons_succ] at hK
        try simp only [hd] at hK
        have hS1 := hS
        go_simp
        exact hK.out _ _ ⟨hS1, Below.refl _ _, rfl⟩
      · intro v u hS hd K' hK
        simp only [waited, List.toList_toArray, Region.binds, rel, List.getD_cons_zero, List.getD_cons_succ, true_imp_iff, and_true] at hd
        simp only [rel, List.getD_cons_zero, List.getD_cons_succ, Act.put, List.setIfInBounds_toArray, List.set_cons_zero, List.set_cons_succ] at hK
        try simp only [hd] at hK
        have hS1 := hS
        go_simp
        exact hK.out _ _ ⟨hS1, Below.refl _ _, rfl⟩
      · intro v u hS hd K' hK
        simp only [waited, List.toList_toArray, Region.binds, rel, List.getD_cons_zero, List.getD_cons_succ, true_imp_iff, and_true] at hd
        simp only [rel, List.getD_cons_zero, List.getD_cons_succ, Act.put, List.setIfInBounds_toArray, List.set_cons_zero, List.set_cons_succ] at hK
        try simp only [hd] at hK
        have hS1 := hS
        go_simp
        exact hK.out _ _ ⟨hS1, Below.refl _ _, rfl⟩
      · intro v u hS hd K' hK
        simp only [waited, List.toList_toArray, Region.binds, rel, List.getD_cons_zero, List.getD_cons_succ, true_imp_iff, and_true] at hd
        simp only [rel, List.getD_cons_zero, List.getD_cons_succ, Act.put, List.setIfInBounds_toArray, List.set_cons_zero, List.set_cons_succ] at hK
        try simp only [hd] at hK
        have hS1 := hS
        go_simp
        exact hK.out _ _ ⟨hS1, Below.refl _ _, rfl⟩
      · intro v u hS hd K' hK
        simp only [waited, List.toList_toArray, Region.binds, rel, List.getD_cons_zero, List.getD_cons_succ, true_imp_iff, and_true] at hd
        simp only [rel, List.getD_cons_zero, List.getD_cons_succ, Act.put, List.setIfInBounds_toArray, List.set_cons_zero, List.set_cons_succ] at hK
        try simp only [hd] at hK
        have hS1 := hS
        go_simp
        exact hK.out _ _ ⟨hS1, Below.refl _ _, rfl⟩
      · intro v u hS hd K' hK
        simp only [waited, List.toList_toArray, Region.binds, rel, List.getD_cons_zero, List.getD_cons_succ, true_imp_iff, and_true] at hd
        simp only [rel, List.getD_cons_zero, List.getD_cons_succ, Act.put, List.setIfInBounds_toArray, List.set_cons_zero, List.set_cons_succ] at hK
        try simp only [hd] at hK
        have hS1 := hS
        go_simp
        exact hK.out _ _ ⟨hS1, Below.refl _ _, rfl⟩
      · intro v u hS hd K' hK
        simp only [waited, List.toList_toArray, Region.binds, rel, List.getD_cons_zero, List.getD_cons_succ, true_imp_iff, and_true] at hd
        simp only [rel, List.getD_cons_zero, List.getD_cons_succ, Act.put, List.setIfInBounds_toArray, List.set_cons_zero, List.set_cons_succ] at hK
        try simp only [hd] at hK
        have hS1 := hS
        go_simp
        exact hK.out _ _ ⟨hS1, Below.refl _ _, rfl⟩
      · intro v u hS hd K' hK
        simp only [waited, List.toList_toArray, Region.binds, rel, List.getD_cons_zero, List.getD_cons_succ, true_imp_iff, and_true] at hd
        simp only [rel, List.getD_cons_zero, List.getD_cons_succ, Act.put, List.setIfInBounds_toArray, List.set_cons_zero, List.set_cons_succ] at hK
        try simp only [hd] at hK
        have hS1 := hS
        go_simp
        exact hK.out _ _ ⟨hS1, Below.refl _ _, rfl⟩
      · intro v u hS hd K' hK
        simp only [waited, List.toList_toArray, Region.binds, rel, List.getD_cons_zero, List.getD_cons_succ, true_imp_iff, and_true] at hd
        simp only [rel, List.getD_cons_zero, List.getD_cons_succ, Act.put, List.setIfInBounds_toArray, List.set_cons_zero, List.set_cons_succ] at hK
        try simp only [hd] at hK
        have hS1 := hS
        go_simp
        exact hK.out _ _ ⟨hS1, Below.refl _ _, rfl⟩
      · intro v u hS hd K' hK
        simp only [waited, List.toList_toArray, Region.binds, rel, List.getD_cons_zero, List.getD_cons_succ, true_imp_iff, and_true] at hd
        simp only [rel, List.getD_cons_zero, List.getD_cons_succ, Act.put, List.setIfInBounds_toArray, List.set_cons_zero, List.set_cons_succ] at hK
        try simp only [hd] at hK
        have hS1 := hS
        go_simp
        exact hK.out _ _ ⟨hS1, Below.refl _ _, rfl⟩
      · intro v u hS hd K' hK
        simp only [waited, List.toList_toArray, Region.binds, rel, List.getD_cons_zero, List.getD_cons_succ, true_imp_iff, and_true] at hd
        simp only [rel, List.getD_cons_zero, List.getD_cons_succ, Act.put, List.setIfInBounds_toArray, List.set_cons_zero, List.set_cons_succ] at hK
        try simp only [hd] at hK
        have hS1 := hS
        go_simp
        exact hK.out _ _ ⟨hS1, Below.refl _ _, rfl⟩
    · rintro v u hS1 hR
      simp only [holdAll, List.size_toArray, List.length_cons, List.length_nil, Nat.reduceAdd, rel, List.getD_cons_zero, List.getD_cons_succ] at hR
      obtain ⟨-, h28⟩ := hR
      simp only [h28]
      clear h28
      have k1 := K1.below hS1
      have k2 := K2.below hS1
      go_wp2_with (first | refine wpList_load_row rfl 37 _ rfl _ rfl 37 r.toArray (0, 0) _ k1 Tryd.underlying37 rfl (kV7 h7r) ?_ | refine wpList_load_row rfl 37 _ rfl _ rfl 37 q.toArray (0, 0) _ k2 Tryd.underlying37 rfl (kV7 h7q) ?_)
      refine (hC _ (bt hbw hS1)).mono ?_
      rintro e w2 ⟨rfl, hb2⟩
      go_wp2_with fail
      go_ret
      exact ⟨by rw [hR0.out]; rfl, bt (bt hbw hS1) hb2⟩
end Go.Proofs.YtmnfmgoolimlmaaDoor
