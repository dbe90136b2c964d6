/- value.row: lists held against each other. -/
import Derived.Test.YtmnfmgoolimlmaaDoorVCmp0
import Derived.Test.YtmnfmgoolimlmaaDoorVt
import Derived.Test.YtmnfmgoolimlmaaDoorVSort
import Derived.Test.YtmnfmgoolimlmaaDoorFlat
namespace Go.Proofs.YtmnfmgoolimlmaaDoor
set_option linter.unusedSimpArgs false
set_option linter.unusedVariables false
open Go.RowKit
/-- The first that is not nought, from place i on. -/
def rowR (f : Nat → Int) (e : Int) : Nat → Nat → Int
  | 0, _ => e
  | n + 1, i => if f i = 0 then rowR f e n (i + 1) else f i
theorem cell_below' {w w' : World} {a : Addr} {v : Value} (h : w.cell? a = some v) (hb : Below w.heap.size w w') : w'.cell? a = some v := by
  rw [hb.cell (World.block_lt_of_cell? w _ h)]
  exact h
theorem list7 {r : List Value} (h : r.length = 7) : ∃ a b c d e f g, r = [a, b, c, d, e, f, g] := by
  match r, h with
  | [a, b, c, d, e, f, g], _ => exact ⟨a, b, c, d, e, f, g, rfl⟩
theorem cells_of_lies {w : World} {b o n : Nat} {rows : List (List Value)} {i : Nat} {r : List Value} (hl : Lies w (some ⟨b, o, none⟩) n 7 rows.flatten) (h7 : ∀ r ∈ rows, r.length = 7) (hr : rows[i]? = some r) :
    ∀ u, Below w.heap.size w u → ∀ (j : Nat) (v : Value), r[j]? = some v → u.cell? ⟨b, o + i * 7 + j, none⟩ = some v := by
  intro u hu j v hj
  have hf := flat_at h7 i j r v hr hj
  obtain ⟨b', o', e, hc⟩ := hl.2 (by intro h0; rw [h0] at hf; cases hf)
  cases e
  rw [Nat.add_assoc]
  exact cell_below' (hc _ _ hf) hu
set_option maxRecDepth 100000 in
set_option maxHeartbeats 2000000 in
theorem row_w (f : Nat → Int) (rows qs : List (List Value)) (A B : Option Addr) (la lb ca cc : Nat) (cb : Array Value) (w : World) (hA : Lies w A la 7 rows.flatten) (hB : Lies w B lb 7 qs.flatten) (hra : rows.length = la) (hrb : qs.length = lb)
    (h7a : ∀ r ∈ rows, r.length = 7) (h7b : ∀ r ∈ qs, r.length = 7) (hla : la ≤ mLen) (hlb : lb ≤ mLen)
    (hf : ∀ (i : Nat) (r q : List Value), rows[i]? = some r → qs[i]? = some q → ∀ W, Below w.heap.size w W → Calls Tryd.prog 59 (#[.int .i64 (i : Int), .agg r.toArray, .agg q.toArray] ++ cb) W fun e w' => e = .returned (.int .i64 (f i)) ∧ Below W.heap.size W w') :
    Calls Tryd.prog 58 #[.slice A la ca, .slice B lb cc, .func (.func 59) #[] cb] w fun e w' => e = .returned (.int .i64 (rowR f (cmpI la lb) (min la lb) 0)) ∧ Below w.heap.size w w' := by
  have hcmp := fun W => cmpInt_w (la : Int) (lb : Int) W
  have eg : ∀ args w, (callFunc 59 args).run Tryd.prog w = .ok (.enter 59 args) w := fun _ _ => by kernel_rfl
  have hag := aggV
  have hsz := sizeV
  unfold mLen at hla hlb
  obtain ⟨E, hE⟩ := named (cmpI (la : Int) (lb : Int))
  rw [← hE.out] at hcmp ⊢
  clear hE
  obtain ⟨R, HR⟩ := named (rowR f E (min la lb) 0)
  rw [← HR.out]
  have HF := hide hf
  have HAl := hide hA
  have HBl := hide hB
  have H7a := hide h7a
  have H7b := hide h7b
  have Hra := hide hra
  have Hrb := hide hrb
  clear hf hA hB h7a h7b hra hrb
  have hR0 : Hid (R = rowR f E (min la lb - 0) 0) := HR
  clear HR
  have hmin : min (la : Int) (lb : Int) = ((min la lb : Nat) : Int) := by omega
  obtain ⟨m, hm⟩ := named (min la lb)
  have hma : m ≤ la := by rw [hm.out]; omega
  have hmb : m ≤ lb := by rw [hm.out]; omega
  rw [← hm.out] at hmin hR0
  clear hm
  go_enter Tryd.func58, Tryd.ntmps58
  go_wp2_with (first | (at_builtin; fail))
  go_loopw [14] (fun i wr => ∃ k : Nat, k ≤ m ∧ i = .int .i64 k ∧ Hid (R = rowR f E (m - k) k) ∧ Below w.heap.size w wr) (fun i _ => m - (intOf i).toNat)
  case atStart => exact ⟨0, by omega, rfl, hR0, Below.refl _ _⟩
  case round =>
    clear hR0
    obtain ⟨i, hi, rfl, HL, hbw⟩ := hrel
    by_cases hlt : i < m
    · have hi0 : (0 : Int) ≤ (i : Int) := by omega
      have hi1 : (i : Int) < (m : Int) := by omega
      have hia : (i : Int) < (la : Int) := by omega
      have hib : (i : Int) < (lb : Int) := by omega
      have hra := Hra.out
      have hrb := Hrb.out
      obtain ⟨r, hr⟩ : ∃ r, rows[i]? = some r := ⟨rows[i]'(by omega), List.getElem?_eq_getElem _⟩
      obtain ⟨q, hq⟩ : ∃ q, qs[i]? = some q := ⟨qs[i]'(by omega), List.getElem?_eq_getElem _⟩
      have hne : ∀ (n : Nat) (l : List (List Value)), l.length = n → i < n → (∀ r ∈ l, r.length = 7) → l.flatten ≠ [] := by
        intro n l hl hn h7 h0
        have hx : l[i]? = some (l[i]'(by omega)) := List.getElem?_eq_getElem _
        have h77 := h7 _ (List.getElem_mem (show i < l.length by omega))
        have := flat_at h7 i 0 _ (l[i]'(by omega))[0] hx (List.getElem?_eq_getElem (by omega))
        rw [h0] at this
        cases this
      have hA2 := HAl.out
      have hB2 := HBl.out
      obtain ⟨ba, oa, rfl, -⟩ := hA2.2 (hne la rows hra (by omega) H7a.out)
      obtain ⟨bb, ob, rfl, -⟩ := hB2.2 (hne lb qs hrb (by omega) H7b.out)
      have hloadA := cells_of_lies hA2 H7a.out hr
      have hloadB := cells_of_lies hB2 H7b.out hq
      have hcall := HF.out i r q hr hq
      obtain ⟨z, hz⟩ := named (f i)
      rw [← hz.out] at hcall
      have hstep0 : z = 0 → Hid (R = rowR f E (m - (i + 1)) (i + 1)) := fun h => by
        have h1 := HL.out
        rw [show m - i = (m - (i + 1)) + 1 by omega] at h1
        rw [rowR, if_pos (by rw [← hz.out]; exact h)] at h1
        exact h1
      have hstep1 : z ≠ 0 → R = z := fun h => by
        have h1 := HL.out
        rw [show m - i = (m - (i + 1)) + 1 by omega] at h1
        rw [rowR, if_neg (by rw [← hz.out]; exact h)] at h1
        rw [h1, hz.out]
      obtain ⟨r0, r1, r2, r3, r4, r5, r6, rfl⟩ := list7 (H7a.out r (List.mem_of_getElem? hr))
      obtain ⟨q0, q1, q2, q3, q4, q5, q6, rfl⟩ := list7 (H7b.out q (List.mem_of_getElem? hq))
      clear hz HL hne hr hq hA2 hB2 hra hrb HAl HBl
      go_upto_region 4 with (go_quiet (fail))
      refine region_flat _ (fun u => Below w.heap.size w u) (fun u u' => Below u.heap.size u u')
        (rel [fun v _ => v = .func (.func 59) #[] cb,
          fun v _ => v = .int .i64 (i : Int),
          fun v _ => v = .slice (some ⟨ba, oa, none⟩) la ca,
          fun v _ => v = .int .i64 (i : Int),
          fun v _ => v = .pointer (some ⟨ba, oa + i * 7, none⟩),
          fun v _ => v = .agg #[r0, r1, r2, r3, r4, r5, r6],
          fun v _ => v = .slice (some ⟨bb, ob, none⟩) lb cc,
          fun v _ => v = .int .i64 (i : Int),
          fun v _ => v = .pointer (some ⟨bb, ob + i * 7, none⟩),
          fun v _ => v = .agg #[q0, q1, q2, q3, q4, q5, q6],
          fun v _ => v = .int .i64 (z : Int),
          fun v _ => v = .int .i64 (z : Int)])
        (by kernel_rfl) (by kernel_rfl) (fun v => by simp only [putsV, Act.put, List.toList_toArray, List.setIfInBounds_toArray, List.set_cons_zero, List.set_cons_succ, Nat.reduceAdd, Nat.zero_add]; rfl) ?_ hbw.drew ?_ ?_
      · intro j x u u' hb h
        match j with
        | 0 => exact h
        | 1 => exact h
        | 2 => exact h
        | 3 => exact h
        | 4 => exact h
        | 5 => exact h
        | 6 => exact h
        | 7 => exact h
        | 8 => exact h
        | 9 => exact h
        | 10 => exact h
        | 11 => exact h
        | _ + 12 => trivial
      · refine ⟨?_, ?_, ?_, ?_, ?_, ?_, ?_, ?_, ?_, ?_, ?_, ?_, trivial⟩
        · intro v u hS hd K' hK
          simp only [waited, List.toList_toArray, Region.binds, rel, List.getD_cons_zero, List.getD_cons_succ, true_imp_iff, and_true] at hd
          simp only [rel, List.getD_cons_zero, List.getD_cons_succ, Act.put, List.setIfInBounds_toArray, List.set_cons_zero, List.set_cons_succ] at hK
          try simp only [hd] at hK
          have hS1 := hS
          go_simp
          exact hK.out _ _ ⟨hS1, Below.refl _ _, rfl⟩
        · intro v u hS hd K' hK
          simp only [waited, List.toList_toArray, Region.binds, rel, List.getD_cons_zero, List.getD_cons_succ, true_imp_iff, and_true] at hd
          simp only [rel, List.getD_cons_zero, List.getD_cons_succ, Act.put, List.setIfInBounds_toArray, List.set_cons_zero, List.set_cons_succ] at hK
          try simp only [hd] at hK
          have hS1 := hS
          go_simp
          exact hK.out _ _ ⟨hS1, Below.refl _ _, rfl⟩
        · intro v u hS hd K' hK
          simp only [waited, List.toList_toArray, Region.binds, rel, List.getD_cons_zero, List.getD_cons_succ, true_imp_iff, and_true] at hd
          simp only [rel, List.getD_cons_zero, List.getD_cons_succ, Act.put, List.setIfInBounds_toArray, List.set_cons_zero, List.set_cons_succ] at hK
          try simp only [hd] at hK
          have hS1 := hS
          go_simp
          exact hK.out _ _ ⟨hS1, Below.refl _ _, rfl⟩
        · intro v u hS hd K' hK
          simp only [waited, List.toList_toArray, Region.binds, rel, List.getD_cons_zero, List.getD_cons_succ, true_imp_iff, and_true] at hd
          simp only [rel, List.getD_cons_zero, List.getD_cons_succ, Act.put, List.setIfInBounds_toArray, List.set_cons_zero, List.set_cons_succ] at hK
          try simp only [hd] at hK
          have hS1 := hS
          go_simp
          exact hK.out _ _ ⟨hS1, Below.refl _ _, rfl⟩
        · intro v u hS hd K' hK
          simp only [waited, List.toList_toArray, Region.binds, rel, List.getD_cons_zero, List.getD_cons_succ, true_imp_iff, and_true] at hd
          simp only [rel, List.getD_cons_zero, List.getD_cons_succ, Act.put, List.setIfInBounds_toArray, List.set_cons_zero, List.set_cons_succ] at hK
          try simp only [hd] at hK
          have hS1 := hS
          go_simp
          exact hK.out _ _ ⟨hS1, Below.refl _ _, rfl⟩
        · intro v u hS hd K' hK
          simp only [waited, List.toList_toArray, Region.binds, rel, List.getD_cons_zero, List.getD_cons_succ, true_imp_iff, and_true] at hd
          simp only [rel, List.getD_cons_zero, List.getD_cons_succ, Act.put, List.setIfInBounds_toArray, List.set_cons_zero, List.set_cons_succ] at hK
          try simp only [hd] at hK
          have hS1 := hS
          have l0 : u.cell? ⟨ba, oa + i * 7, none⟩ = some r0 := hloadA u hS1 0 r0 rfl
          have l1 : u.cell? ⟨ba, oa + i * 7 + 1, none⟩ = some r1 := hloadA u hS1 1 r1 rfl
          have l2 : u.cell? ⟨ba, oa + i * 7 + 2, none⟩ = some r2 := hloadA u hS1 2 r2 rfl
          have l3 : u.cell? ⟨ba, oa + i * 7 + 3, none⟩ = some r3 := hloadA u hS1 3 r3 rfl
          have l4 : u.cell? ⟨ba, oa + i * 7 + 4, none⟩ = some r4 := hloadA u hS1 4 r4 rfl
          have l5 : u.cell? ⟨ba, oa + i * 7 + 5, none⟩ = some r5 := hloadA u hS1 5 r5 rfl
          have l6 : u.cell? ⟨ba, oa + i * 7 + 6, none⟩ = some r6 := hloadA u hS1 6 r6 rfl
          go_simp
          exact hK.out _ _ ⟨hS1, Below.refl _ _, rfl⟩
        · intro v u hS hd K' hK
          simp only [waited, List.toList_toArray, Region.binds, rel, List.getD_cons_zero, List.getD_cons_succ, true_imp_iff, and_true] at hd
          simp only [rel, List.getD_cons_zero, List.getD_cons_succ, Act.put, List.setIfInBounds_toArray, List.set_cons_zero, List.set_cons_succ] at hK
          try simp only [hd] at hK
          have hS1 := hS
          go_simp
          exact hK.out _ _ ⟨hS1, Below.refl _ _, rfl⟩
        · intro v u hS hd K' hK
          simp only [waited, List.toList_toArray, Region.binds, rel, List.getD_cons_zero, List.getD_cons_succ, true_imp_iff, and_true] at hd
          simp only [rel, List.getD_cons_zero, List.getD_cons_succ, Act.put, List.setIfInBounds_toArray, List.set_cons_zero, List.set_cons_succ] at hK
          try simp only [hd] at hK
          have hS1 := hS
          go_simp
          exact hK.out _ _ ⟨hS1, Below.refl _ _, rfl⟩
        · intro v u hS hd K' hK
          simp only [waited, List.toList_toArray, Region.binds, rel, List.getD_cons_zero, List.getD_cons_succ, true_imp_iff, and_true] at hd
          simp only [rel, List.getD_cons_zero, List.getD_cons_succ, Act.put, List.setIfInBounds_toArray, List.set_cons_zero, List.set_cons_succ] at hK
          try simp only [hd] at hK
          have hS1 := hS
          go_simp
          exact hK.out _ _ ⟨hS1, Below.refl _ _, rfl⟩
        · intro v u hS hd K' hK
          simp only [waited, List.toList_toArray, Region.binds, rel, List.getD_cons_zero, List.getD_cons_succ, true_imp_iff, and_true] at hd
          simp only [rel, List.getD_cons_zero, List.getD_cons_succ, Act.put, List.setIfInBounds_toArray, List.set_cons_zero, List.set_cons_succ] at hK
          try simp only [hd] at hK
          have hS1 := hS
          have l0 : u.cell? ⟨bb, ob + i * 7, none⟩ = some q0 := hloadB u hS1 0 q0 rfl
          have l1 : u.cell? ⟨bb, ob + i * 7 + 1, none⟩ = some q1 := hloadB u hS1 1 q1 rfl
          have l2 : u.cell? ⟨bb, ob + i * 7 + 2, none⟩ = some q2 := hloadB u hS1 2 q2 rfl
          have l3 : u.cell? ⟨bb, ob + i * 7 + 3, none⟩ = some q3 := hloadB u hS1 3 q3 rfl
          have l4 : u.cell? ⟨bb, ob + i * 7 + 4, none⟩ = some q4 := hloadB u hS1 4 q4 rfl
          have l5 : u.cell? ⟨bb, ob + i * 7 + 5, none⟩ = some q5 := hloadB u hS1 5 q5 rfl
          have l6 : u.cell? ⟨bb, ob + i * 7 + 6, none⟩ = some q6 := hloadB u hS1 6 q6 rfl
          go_simp
          exact hK.out _ _ ⟨hS1, Below.refl _ _, rfl⟩
        · intro v u hS hd K' hK
          simp only [waited, List.toList_toArray, Region.binds, rel, List.getD_cons_zero, List.getD_cons_succ, true_imp_iff, and_true] at hd
          simp only [rel, List.getD_cons_zero, List.getD_cons_succ, Act.put, List.setIfInBounds_toArray, List.set_cons_zero, List.set_cons_succ] at hK
          try simp only [hd] at hK
          have hS1 := hS
          go_simp
          refine (hcall _ hS1).mono ?_
          rintro e w2 ⟨rfl, hb2⟩
          exact hK.out _ _ ⟨bt hS1 hb2, hb2, rfl⟩
        · intro v u hS hd K' hK
          simp only [waited, List.toList_toArray, Region.binds, rel, List.getD_cons_zero, List.getD_cons_succ, true_imp_iff, and_true] at hd
          simp only [rel, List.getD_cons_zero, List.getD_cons_succ, Act.put, List.setIfInBounds_toArray, List.set_cons_zero, List.set_cons_succ] at hK
          try simp only [hd] at hK
          have hS1 := hS
          go_simp
          exact hK.out _ _ ⟨hS1, Below.refl _ _, rfl⟩
      · rintro v u hS1 hR
        simp only [holdAll, List.size_toArray, List.length_cons, List.length_nil, Nat.reduceAdd, rel, List.getD_cons_zero, List.getD_cons_succ] at hR
        obtain ⟨_, h28⟩ := hR
        simp only [h28]
        clear h28 hcall
        by_cases hz0 : z = 0
        · have hzb : (z == 0) = true := by simp [hz0]
          go_wp2_with (go_quiet (fail))
          go_roundw
          case rel => exact ⟨i + 1, by omega, by go_num, hstep0 hz0, hS1⟩
          case measure => simp [intOf]; omega
        · have hzb : (z == 0) = false := by rw [beq_eq_false_iff_ne]; exact hz0
          go_wp2_with (go_quiet (fail))
          go_ret
          exact ⟨by rw [hstep1 hz0]; rfl, hS1⟩
    · have hk2 : i = m := by omega
      subst hk2
      have hRE : R = E := by
        have h1 := HL.out
        rw [Nat.sub_self, rowR] at h1
        exact h1
      clear HL
      go_wp2_with fail
      refine (hcmp _).mono ?_
      rintro e w2 ⟨rfl, rfl⟩
      go_wp2_with fail
      go_ret
      exact ⟨by rw [hRE]; rfl, hbw⟩
end Go.Proofs.YtmnfmgoolimlmaaDoor
