/- value.Compare of any two values. -/
import Derived.Test.YtmnfmgoolimlmaaDoorVClos
namespace Go.Proofs.YtmnfmgoolimlmaaDoor
set_option linter.unusedSimpArgs false
set_option linter.unusedVariables false
open Go.RowKit
instance : Inhabited Vt := ⟨.mk 0 false 0 ⟨#[]⟩ ⟨#[]⟩ [] []⟩
mutual
/-- The order of values. -/
def cmpV : Vt → Vt → Int
  | .mk k b n s t ns l, .mk k' b' n' s' t' ns' l' =>
    if k ≠ k' then cmpI (k : Int) (k' : Int) else
    if k = 0 then (if b = b' then 0 else if b = true then 1 else -1) else
    if k = 1 then cmpI n n' else
    if k = 2 then cmpS s s' else
    if k = 3 then (if cmpS t t' = 0 then cmpS s s' else cmpS t t') else
    if k = 4 ∨ k = 5 then rowV ns ns' l l' else 0
def rowV : List ByteArray → List ByteArray → List Vt → List Vt → Int
  | ns, ms, x :: l, y :: m => if nmc ns ms (cmpV x y) = 0 then rowV ns.tail ms.tail l m else nmc ns ms (cmpV x y)
  | _, _, [], m => cmpI 0 m.length
  | _, _, x :: l, [] => cmpI (l.length + 1) 0
end
theorem cmpI_shift (a b c : Int) : cmpI (a + c) (b + c) = cmpI a b := by
  unfold cmpI
  split <;> split <;> (try split) <;> (try split) <;> omega
theorem rowR_V (ns ms : List ByteArray) : ∀ (k i : Nat) (l m : List Vt) (L M : List Vt), k = min (l.length - i) (m.length - i) → i ≤ l.length → i ≤ m.length →
    rowR (fun j => nmc (ns.drop j) (ms.drop j) (cmpV (l.getD j default) (m.getD j default))) (cmpI l.length m.length) k i = rowV (ns.drop i) (ms.drop i) (l.drop i) (m.drop i) := by
  intro k
  induction k with
  | zero =>
    intro i l m L M hk hl hm
    rw [rowR]
    rcases Nat.lt_or_ge i l.length with h1 | h1
    · have h2 : i = m.length := by omega
      have e2 : m.drop i = [] := List.drop_eq_nil_of_le (by omega)
      rw [e2, List.drop_eq_getElem_cons h1, rowV]
      rw [List.length_drop, ← cmpI_shift ((l.length - (i + 1) : Nat) + 1 : Int) 0 (i : Int)]
      congr 1 <;> omega
    · have e1 : l.drop i = [] := List.drop_eq_nil_of_le h1
      rw [e1, rowV, List.length_drop, ← cmpI_shift 0 ((m.length - i : Nat) : Int) (i : Int)]
      congr 1 <;> omega
  | succ k ih =>
    intro i l m L M hk hl hm
    have h1 : i < l.length := by omega
    have h2 : i < m.length := by omega
    rw [rowR, List.drop_eq_getElem_cons h1, List.drop_eq_getElem_cons h2, rowV]
    simp only [List.getD_eq_getElem?_getD, List.getElem?_eq_getElem h1, List.getElem?_eq_getElem h2, Option.getD_some]
    rw [List.tail_drop, List.tail_drop, ← ih (i + 1) l m L M (by omega) (by omega) (by omega)]
    rfl
set_option maxRecDepth 100000 in
set_option maxHeartbeats 4000000 in
theorem compare_n : ∀ (n : Nat) (x y : Vt), x.ht ≤ n → ∀ (bx by_ : Nat) (r q : List Value) (w : World), VAt w bx x r → VAt w by_ y q →
    Calls Tryd.prog 34 #[.agg r.toArray, .agg q.toArray] w fun e w' => e = .returned (.int .i64 (cmpV x y)) ∧ Below w.heap.size w w' := by
  intro n
  induction n with
  | zero => intro x y h; cases x; rw [Vt.ht] at h; omega
  | succ n ih =>
    intro x y hht bx by_ r q w hx hy
    obtain ⟨k, b, z, s, t, ns, l⟩ := x
    obtain ⟨k', b', z', s', t', ms, m⟩ := y
    rw [Vt.ht] at hht
    obtain ⟨R, HR⟩ := named (cmpV (.mk k b z s t ns l) (.mk k' b' z' s' t' ms m))
    rw [← HR.out]
    have HRR := HR.out
    rw [cmpV] at HRR
    have HR1 := hide HRR
    clear HRR HR
    rw [VAt] at hx hy
    obtain ⟨A, ca, B, cb, rows, rfl, ⟨hk256, -, -, -, -⟩, hTa, -, ⟨hna, -, hla, -⟩, -, hLa, hVa⟩ := hx
    obtain ⟨A', ca', B', cb', rows', rfl, ⟨hk256', -, -, -, -⟩, hTb, -, ⟨hnb, -, hlb, -⟩, -, hLb, hVb⟩ := hy
    obtain ⟨k1, k2, hbw⟩ := box2 w (vRow k b z s t (.slice A ns.length ca) (.slice B l.length cb)) (vRow k' b' z' s' t' (.slice A' ms.length ca') (.slice B' m.length cb')) 37
    obtain ⟨W, HW⟩ := named ((w.alloc (.cells (vRow k b z s t (.slice A ns.length ca) (.slice B l.length cb)).toArray 37)).alloc (.cells (vRow k' b' z' s' t' (.slice A' ms.length ca') (.slice B' m.length cb')).toArray 37))
    have h58 := fun (W : World) => W
    go_enter Tryd.func34, Tryd.ntmps34
    go_upto_region 1 with (go_quiet (fail))
    rw [← HW.out] at k1 k2 hbw ⊢
    clear HW h58
    have x0 : W.cell? ⟨w.heap.size, 0, none⟩ = some (.int .u8 (k : Int)) := k1.cell 0
    have x1 : W.cell? ⟨w.heap.size, 1, none⟩ = some (.bool b) := k1.cell 1
    have x2 : W.cell? ⟨w.heap.size, 2, none⟩ = some (.int .i64 z) := k1.cell 2
    have x3 : W.cell? ⟨w.heap.size, 3, none⟩ = some (.string s) := k1.cell 3
    have x4 : W.cell? ⟨w.heap.size, 4, none⟩ = some (.string t) := k1.cell 4
    have x5 : W.cell? ⟨w.heap.size, 5, none⟩ = some (.slice A ns.length ca) := k1.cell 5
    have x6 : W.cell? ⟨w.heap.size, 6, none⟩ = some (.slice B l.length cb) := k1.cell 6
    have y0 : W.cell? ⟨(w.heap.size + 1), 0, none⟩ = some (.int .u8 (k' : Int)) := k2.cell 0
    have y1 : W.cell? ⟨(w.heap.size + 1), 1, none⟩ = some (.bool b') := k2.cell 1
    have y2 : W.cell? ⟨(w.heap.size + 1), 2, none⟩ = some (.int .i64 z') := k2.cell 2
    have y3 : W.cell? ⟨(w.heap.size + 1), 3, none⟩ = some (.string s') := k2.cell 3
    have y4 : W.cell? ⟨(w.heap.size + 1), 4, none⟩ = some (.string t') := k2.cell 4
    have y5 : W.cell? ⟨(w.heap.size + 1), 5, none⟩ = some (.slice A' ms.length ca') := k2.cell 5
    have y6 : W.cell? ⟨(w.heap.size + 1), 6, none⟩ = some (.slice B' m.length cb') := k2.cell 6
    by_cases hkk : k = k'
    · subst hkk
      have HR2 := HR1.out
      rw [if_neg (by omega)] at HR2
      have hkb : ((k : Int) == (k : Int)) = true := by simp
      rcases (show k = 0 ∨ k = 1 ∨ k = 2 ∨ k = 3 ∨ (k = 4 ∨ k = 5) ∨ 6 ≤ k by omega) with hk | hk | hk | hk | hk | hk
      · subst hk
        have HR3 : Hid (R = if b = b' then 0 else if b = true then 1 else -1) := by rw [if_pos rfl] at HR2; exact HR2
        clear HR2 HR1 hTa hTb hLa hLb hVa hVb k1 k2 ih x2 x3 x4 x5 x6 y2 y3 y4 y5 y6
        cases b <;> cases b' <;> (go_wp2_with (go_quiet (fail)); go_ret; exact ⟨by rw [HR3.out]; rfl, hbw⟩)
      · subst hk
        have HR3 : Hid (R = cmpI z z') := by rw [if_neg (by decide), if_pos rfl] at HR2; exact HR2
        clear HR2 HR1 hTa hTb hLa hLb hVa hVb k1 k2 ih x1 x3 x4 x5 x6 y1 y3 y4 y5 y6
        have hc := cmp64_w z z'
        go_wp2_with fail
        refine (hc _).mono ?_
        rintro e w1 ⟨rfl, rfl⟩
        go_wp2_with fail
        go_ret
        exact ⟨by rw [HR3.out]; rfl, hbw⟩
      · subst hk
        have HR3 : Hid (R = cmpS s s') := by rw [if_neg (by decide), if_neg (by decide), if_pos rfl] at HR2; exact HR2
        clear HR2 HR1 hTa hTb hLa hLb hVa hVb k1 k2 ih x1 x2 x4 x5 x6 y1 y2 y4 y5 y6
        have hc := cmpS_w s s'
        go_wp2_with fail
        refine (hc _).mono ?_
        rintro e w1 ⟨rfl, rfl⟩
        go_wp2_with fail
        go_ret
        exact ⟨by rw [HR3.out]; rfl, hbw⟩
      · subst hk
        have HR3 : Hid (R = if cmpS t t' = 0 then cmpS s s' else cmpS t t') := by rw [if_neg (by decide), if_neg (by decide), if_neg (by decide), if_pos rfl] at HR2; exact HR2
        clear HR2 HR1 hTa hTb hLa hLb hVa hVb k1 k2 ih x1 x2 x5 x6 y1 y2 y5 y6
        obtain ⟨Z, hZ⟩ := named (if cmpS t t' = 0 then cmpS s s' else cmpS t t')
        have HR4 : Hid (R = Z) := HR3.out.trans hZ.out.symm
        clear HR3
        have HR3 := HR4
        clear HR4
        go_upto_region 16 with (go_quiet (fail))
        refine region_flat _ (fun u => Below W.heap.size W u) (fun u u' => Below u.heap.size u u')
          (rel [fun v _ => v = .pointer (some ⟨w.heap.size, 4, none⟩),
            fun v _ => v = .string t,
            fun v _ => v = .pointer (some ⟨(w.heap.size + 1), 4, none⟩),
            fun v _ => v = .string t',
            fun v _ => v = .int .i64 (cmpS t t'),
            fun v _ => v = .pointer (some ⟨w.heap.size, 3, none⟩),
            fun v _ => v = .string s,
            fun v _ => v = .pointer (some ⟨(w.heap.size + 1), 3, none⟩),
            fun v _ => v = .string s',
            fun v _ => v = .int .i64 (cmpS s s'),
            fun v u => ∃ gN, v = .slice (some ⟨gN, 0, none⟩) 2 2 ∧ Blk u gN [.int .i64 (cmpS t t'), .int .i64 (cmpS s s')] 3,
            fun v _ => v = .int .i64 Z,
            fun v _ => v = .int .i64 Z])
          (by kernel_rfl) (by kernel_rfl) (fun v => by simp only [putsV, Act.put, List.toList_toArray, List.setIfInBounds_toArray, List.set_cons_zero, List.set_cons_succ, Nat.reduceAdd, Nat.zero_add]; rfl) ?_ (Below.refl _ _).drew ?_ ?_
        · intro j x u u' hb h
          match j with
          | 0 => exact h
          | 1 => exact h
          | 2 => exact h
          | 3 => exact h
          | 4 => exact h
          | 5 => exact h
          | 6 => exact h
          | 7 => exact h
          | 8 => exact h
          | 9 => exact h
          | 10 => exact by obtain ⟨g, e, k⟩ := h; exact ⟨g, e, k.below hb⟩
          | 11 => exact h
          | 12 => exact h
          | _ + 13 => trivial
        · refine ⟨?_, ?_, ?_, ?_, ?_, ?_, ?_, ?_, ?_, ?_, ?_, ?_, ?_, trivial⟩
          · intro v u hS hd K' hK
            simp only [waited, List.toList_toArray, Region.binds, rel, List.getD_cons_zero, List.getD_cons_succ, true_imp_iff, and_true] at hd
            simp only [rel, List.getD_cons_zero, List.getD_cons_succ, Act.put, List.setIfInBounds_toArray, List.set_cons_zero, List.set_cons_succ] at hK
            try simp only [hd] at hK
            have hS1 := hS
            go_simp
            exact hK.out _ _ ⟨hS1, Below.refl _ _, rfl⟩
          · intro v u hS hd K' hK
            simp only [waited, List.toList_toArray, Region.binds, rel, List.getD_cons_zero, List.getD_cons_succ, true_imp_iff, and_true] at hd
            simp only [rel, List.getD_cons_zero, List.getD_cons_succ, Act.put, List.setIfInBounds_toArray, List.set_cons_zero, List.set_cons_succ] at hK
            try simp only [hd] at hK
            have hS1 := hS
            have x0 : u.cell? ⟨w.heap.size, 4, none⟩ = some (.string t) := cell_below' x4 hS1
            go_simp
            exact hK.out _ _ ⟨hS1, Below.refl _ _, rfl⟩
          · intro v u hS hd K' hK
            simp only [waited, List.toList_toArray, Region.binds, rel, List.getD_cons_zero, List.getD_cons_succ, true_imp_iff, and_true] at hd
            simp only [rel, List.getD_cons_zero, List.getD_cons_succ, Act.put, List.setIfInBounds_toArray, List.set_cons_zero, List.set_cons_succ] at hK
            try simp only [hd] at hK
            have hS1 := hS
            go_simp
            exact hK.out _ _ ⟨hS1, Below.refl _ _, rfl⟩
          · intro v u hS hd K' hK
            simp only [waited, List.toList_toArray, Region.binds, rel, List.getD_cons_zero, List.getD_cons_succ, true_imp_iff, and_true] at hd
            simp only [rel, List.getD_cons_zero, List.getD_cons_succ, Act.put, List.setIfInBounds_toArray, List.set_cons_zero, List.set_cons_succ] at hK
            try simp only [hd] at hK
            have hS1 := hS
            have x0 : u.cell? ⟨(w.heap.size + 1), 4, none⟩ = some (.string t') := cell_below' y4 hS1
            go_simp
            exact hK.out _ _ ⟨hS1, Below.refl _ _, rfl⟩
          · intro v u hS hd K' hK
            simp only [waited, List.toList_toArray, Region.binds, rel, List.getD_cons_zero, List.getD_cons_succ, true_imp_iff, and_true] at hd
            simp only [rel, List.getD_cons_zero, List.getD_cons_succ, Act.put, List.setIfInBounds_toArray, List.set_cons_zero, List.set_cons_succ] at hK
            try simp only [hd] at hK
            have hS1 := hS
            go_simp
            refine (cmpS_w t t' _).mono ?_
            rintro e w2 ⟨rfl, rfl⟩
            exact hK.out _ _ ⟨hS1, Below.refl _ _, rfl⟩
          · intro v u hS hd K' hK
            simp only [waited, List.toList_toArray, Region.binds, rel, List.getD_cons_zero, List.getD_cons_succ, true_imp_iff, and_true] at hd
            simp only [rel, List.getD_cons_zero, List.getD_cons_succ, Act.put, List.setIfInBounds_toArray, List.set_cons_zero, List.set_cons_succ] at hK
            try simp only [hd] at hK
            have hS1 := hS
            go_simp
            exact hK.out _ _ ⟨hS1, Below.refl _ _, rfl⟩
          · intro v u hS hd K' hK
            simp only [waited, List.toList_toArray, Region.binds, rel, List.getD_cons_zero, List.getD_cons_succ, true_imp_iff, and_true] at hd
            simp only [rel, List.getD_cons_zero, List.getD_cons_succ, Act.put, List.setIfInBounds_toArray, List.set_cons_zero, List.set_cons_succ] at hK
            try simp only [hd] at hK
            have hS1 := hS
            have x0 : u.cell? ⟨w.heap.size, 3, none⟩ = some (.string s) := cell_below' x3 hS1
            go_simp
            exact hK.out _ _ ⟨hS1, Below.refl _ _, rfl⟩
          · intro v u hS hd K' hK
            simp only [waited, List.toList_toArray, Region.binds, rel, List.getD_cons_zero, List.getD_cons_succ, true_imp_iff, and_true] at hd
            simp only [rel, List.getD_cons_zero, List.getD_cons_succ, Act.put, List.setIfInBounds_toArray, List.set_cons_zero, List.set_cons_succ] at hK
            try simp only [hd] at hK
            have hS1 := hS
            go_simp
            exact hK.out _ _ ⟨hS1, Below.refl _ _, rfl⟩
          · intro v u hS hd K' hK
            simp only [waited, List.toList_toArray, Region.binds, rel, List.getD_cons_zero, List.getD_cons_succ, true_imp_iff, and_true] at hd
            simp only [rel, List.getD_cons_zero, List.getD_cons_succ, Act.put, List.setIfInBounds_toArray, List.set_cons_zero, List.set_cons_succ] at hK
            try simp only [hd] at hK
            have hS1 := hS
            have x0 : u.cell? ⟨(w.heap.size + 1), 3, none⟩ = some (.string s') := cell_below' y3 hS1
            go_simp
            exact hK.out _ _ ⟨hS1, Below.refl _ _, rfl⟩
          · intro v u hS hd K' hK
            simp only [waited, List.toList_toArray, Region.binds, rel, List.getD_cons_zero, List.getD_cons_succ, true_imp_iff, and_true] at hd
            simp only [rel, List.getD_cons_zero, List.getD_cons_succ, Act.put, List.setIfInBounds_toArray, List.set_cons_zero, List.set_cons_succ] at hK
            try simp only [hd] at hK
            have hS1 := hS
            go_simp
            refine (cmpS_w s s' _).mono ?_
            rintro e w2 ⟨rfl, rfl⟩
            exact hK.out _ _ ⟨hS1, Below.refl _ _, rfl⟩
          · intro v u hS hd K' hK
            simp only [waited, List.toList_toArray, Region.binds, rel, List.getD_cons_zero, List.getD_cons_succ, true_imp_iff, and_true] at hd
            simp only [rel, List.getD_cons_zero, List.getD_cons_succ, Act.put, List.setIfInBounds_toArray, List.set_cons_zero, List.set_cons_succ] at hK
            try simp only [hd] at hK
            have hS1 := hS
            go_simp
            exact hK.out _ _ ⟨bt hS1 (below_alloc _ _), below_alloc _ _, _, rfl, Blk.new u [.int .i64 (cmpS t t'), .int .i64 (cmpS s s')] _⟩
          · intro v u hS hd K' hK
            simp only [waited, List.toList_toArray, Region.binds, rel, List.getD_cons_zero, List.getD_cons_succ, true_imp_iff, and_true] at hd
            simp only [rel, List.getD_cons_zero, List.getD_cons_succ, Act.put, List.setIfInBounds_toArray, List.set_cons_zero, List.set_cons_succ] at hK
            try simp only [hd] at hK
            have hS1 := hS
            obtain ⟨gN, e10, kN⟩ : ∃ gN, v 10 = .slice (some ⟨gN, 0, none⟩) 2 2 ∧ Blk u gN [.int .i64 (cmpS t t'), .int .i64 (cmpS s s')] 3 := by first | exact hd | exact hd.1 | exact hd.2 | exact hd.2.1 | exact hd.1.2
            have h9 : v 9 = .int .i64 (cmpS s s') := by first | exact hd.2 | exact hd.1 | exact hd.2.1 | exact hd.2.2
            clear hd
            simp only [h9, e10] at hK ⊢
            go_simp
            have ho := or_w gN 2 (cmpS t t') (cmpS s s') u (kN.cell 0) (kN.cell 1)
            rw [← hZ.out] at ho
            refine ho.mono ?_
            rintro e w2 ⟨rfl, rfl⟩
            exact hK.out _ _ ⟨hS1, Below.refl _ _, rfl⟩
          · intro v u hS hd K' hK
            simp only [waited, List.toList_toArray, Region.binds, rel, List.getD_cons_zero, List.getD_cons_succ, true_imp_iff, and_true] at hd
            simp only [rel, List.getD_cons_zero, List.getD_cons_succ, Act.put, List.setIfInBounds_toArray, List.set_cons_zero, List.set_cons_succ] at hK
            try simp only [hd] at hK
            have hS1 := hS
            go_simp
            exact hK.out _ _ ⟨hS1, Below.refl _ _, rfl⟩
        · rintro v u hS1 hR
          simp only [holdAll, List.size_toArray, List.length_cons, List.length_nil, Nat.reduceAdd, rel, List.getD_cons_zero, List.getD_cons_succ] at hR
          obtain ⟨-, h28⟩ := hR
          simp only [h28]
          clear h28
          go_wp2_with fail
          go_ret
          exact ⟨by rw [HR3.out]; rfl, bt hbw hS1⟩
      · have HR3 : Hid (R = rowV ns ms l m) := by rw [if_neg (by omega), if_neg (by omega), if_neg (by omega), if_neg (by omega), if_pos hk] at HR2; exact HR2
        clear HR2 HR1
        unfold mLen at hna hnb hla hlb
        have hrow := row_w (fun j => nmc (ns.drop j) (ms.drop j) (cmpV (l.getD j default) (m.getD j default))) rows rows' B B' l.length m.length cb cb' #[.pointer (some ⟨w.heap.size, 0, none⟩), .pointer (some ⟨w.heap.size + 1, 0, none⟩)] W (Lies.below hLa hbw) (Lies.below hLb hbw) (vsAt_len hVa).1 (vsAt_len hVb).1 (vsAt_all7 hVa) (vsAt_all7 hVb) (by unfold mLen; omega) (by unfold mLen; omega)
          (fun i r q hr hq V hV => by
            have hil : i < l.length := by rw [← (vsAt_len hVa).1]; exact (List.getElem?_eq_some_iff.1 hr).1
            have him : i < m.length := by rw [← (vsAt_len hVb).1]; exact (List.getElem?_eq_some_iff.1 hq).1
            have hxl := List.getElem?_eq_getElem hil
            have hxm := List.getElem?_eq_getElem him
            obtain ⟨r2, hr2, hv1⟩ := vsAt_get hVa i _ hxl
            obtain ⟨q2, hq2, hv2⟩ := vsAt_get hVb i _ hxm
            rw [hr] at hr2
            rw [hq] at hq2
            cases hr2
            cases hq2
            have e1 : l.getD i default = l[i] := by rw [List.getD_eq_getElem?_getD, hxl]; rfl
            have e2 : m.getD i default = m[i] := by rw [List.getD_eq_getElem?_getD, hxm]; rfl
            have hht1 := Vt.ht_mem (List.mem_of_getElem? hxl)
            have hbV := bt hbw hV
            refine clos_w i w.heap.size (w.heap.size + 1) r q A A' ca ca' ns ms _ V (vAt_len hv1) (vAt_len hv2) (by unfold mLen; omega) (cell_below' x5 hV) (cell_below' y5 hV) (Texts.below hTa hbV) (Texts.below hTb hbV) (by unfold mLen; omega) (by unfold mLen; omega) (fun V2 hV2 => ?_)
            rw [e1, e2]
            exact ih l[i] m[i] (by omega) bx by_ r q V2 (hv1.below (bt hbV hV2)) (hv2.below (bt hbV hV2)))
        have hlink := rowR_V ns ms (min l.length m.length) 0 l m [] [] (by simp) (by omega) (by omega)
        simp only [List.drop_zero] at hlink
        rw [hlink, ← HR3.out] at hrow
        clear hlink hTa hTb hLa hLb hVa hVb k1 k2 ih x1 x2 x3 x4 x5 y1 y2 y3 y4 y5
        rcases hk with rfl | rfl
        · go_wp2_with fail
          refine hrow.mono ?_
          rintro e w1 ⟨rfl, hb1⟩
          go_wp2_with fail
          go_ret
          exact ⟨rfl, bt hbw hb1⟩
        · go_wp2_with fail
          refine hrow.mono ?_
          rintro e w1 ⟨rfl, hb1⟩
          go_wp2_with fail
          go_ret
          exact ⟨rfl, bt hbw hb1⟩
      · have HR3 : Hid (R = 0) := by rw [if_neg (by omega), if_neg (by omega), if_neg (by omega), if_neg (by omega), if_neg (by omega)] at HR2; exact HR2
        clear HR2 HR1 hTa hTb hLa hLb hVa hVb k1 k2 ih x1 x2 x3 x4 x5 x6 y1 y2 y3 y4 y5 y6
        have f0 : ((k : Int) == 0) = false := by rw [beq_eq_false_iff_ne]; omega
        have f1 : ((k : Int) == 1) = false := by rw [beq_eq_false_iff_ne]; omega
        have f2 : ((k : Int) == 2) = false := by rw [beq_eq_false_iff_ne]; omega
        have f3 : ((k : Int) == 3) = false := by rw [beq_eq_false_iff_ne]; omega
        have f4 : ((k : Int) == 4) = false := by rw [beq_eq_false_iff_ne]; omega
        have f5 : ((k : Int) == 5) = false := by rw [beq_eq_false_iff_ne]; omega
        have n0 : ¬ k = 0 := by omega
        have n1 : ¬ k = 1 := by omega
        have n2 : ¬ k = 2 := by omega
        have n3 : ¬ k = 3 := by omega
        have n4 : ¬ k = 4 := by omega
        have n5 : ¬ k = 5 := by omega
        go_wp2_with (go_quiet (fail))
        go_ret
        exact ⟨by rw [HR3.out]; rfl, hbw⟩
    · have HR2 : Hid (R = cmpI (k : Int) (k' : Int)) := by have h := HR1.out; rw [if_pos hkk] at h; exact h
      have hkb : ((k : Int) == (k' : Int)) = false := by rw [beq_eq_false_iff_ne]; omega
      have hc := cmpK_w (k : Int) (k' : Int)
      clear HR1 hTa hTb hLa hLb hVa hVb k1 k2 ih x1 x2 x3 x4 x5 x6 y1 y2 y3 y4 y5 y6
      go_wp2_with fail
      refine (hc _).mono ?_
      rintro e w1 ⟨rfl, rfl⟩
      go_wp2_with fail
      go_ret
      exact ⟨by rw [HR2.out]; rfl, hbw⟩
end Go.Proofs.YtmnfmgoolimlmaaDoor
