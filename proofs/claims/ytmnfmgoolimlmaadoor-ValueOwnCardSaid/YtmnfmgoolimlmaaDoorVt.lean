/- Values as trees, and where they lie. -/
import Derived.Test.YtmnfmgoolimlmaaDoorVal0
namespace Go.Proofs.YtmnfmgoolimlmaaDoor
set_option linter.unusedSimpArgs false
set_option linter.unusedVariables false
open Go.RowKit
inductive Vt where
  | mk (k : Nat) (b : Bool) (n : Int) (s t : ByteArray) (ns : List ByteArray) (l : List Vt)
def mLen : Nat := 140737488351232
mutual
/-- How high a tree is. -/
def Vt.ht : Vt → Nat
  | .mk _ _ _ _ _ _ l => Vt.hts l + 1
def Vt.hts : List Vt → Nat
  | [] => 0
  | x :: l => max x.ht (Vt.hts l)
end
theorem Vt.ht_mem {x : Vt} {l : List Vt} (h : x ∈ l) : x.ht ≤ Vt.hts l := by
  induction l with
  | nil => cases h
  | cons y l ih =>
    rw [Vt.hts]
    rcases List.mem_cons.1 h with rfl | h
    · omega
    · have := ih h; omega
mutual
/-- In the world w the cells r are the tree; what they lead to lies in no block below 'base'. -/
def VAt (w : World) (base : Nat) : Vt → List Value → Prop
  | .mk k b n s t ns l, r => ∃ (A : Option Addr) (c : Nat) (B : Option Addr) (d : Nat) (rows : List (List Value)),
      r = vRow k b n s t (.slice A ns.length c) (.slice B l.length d) ∧ (k < 256 ∧ -9223372036854775808 ≤ n ∧ n ≤ 9223372036854775807 ∧ s.size ≤ mLen ∧ t.size ≤ mLen) ∧
      Texts w A ns ∧ (∀ x ∈ ns, x.size ≤ mLen) ∧ (ns.length * 16 ≤ mLen ∧ ns.length ≤ c ∧ l.length * 96 ≤ mLen ∧ l.length ≤ d) ∧
      ((∀ a, A = some a → base ≤ a.block) ∧ (∀ a, B = some a → base ≤ a.block)) ∧ Lies w B l.length 7 rows.flatten ∧ VsAt w base l rows
def VsAt (w : World) (base : Nat) : List Vt → List (List Value) → Prop
  | [], rows => rows = []
  | x :: l, rows => ∃ r rs, rows = r :: rs ∧ VAt w base x r ∧ VsAt w base l rs
end
theorem vAt_len {w : World} {base : Nat} {t : Vt} {r : List Value} (h : VAt w base t r) : r.length = 7 := by
  cases t
  rw [VAt] at h
  obtain ⟨A, c, B, d, rows, rfl, _⟩ := h
  rfl
theorem vsAt_len {w : World} {base : Nat} : ∀ {l : List Vt} {rows : List (List Value)}, VsAt w base l rows → rows.length = l.length ∧ rows.flatten.length = l.length * 7 := by
  intro l
  induction l with
  | nil => intro rows h; rw [VsAt] at h; subst h; exact ⟨rfl, rfl⟩
  | cons x l ih =>
    intro rows h
    rw [VsAt] at h
    obtain ⟨r, rs, rfl, h1, h2⟩ := h
    obtain ⟨i1, i2⟩ := ih h2
    refine ⟨by simp [i1], ?_⟩
    rw [List.flatten_cons, List.length_append, i2, vAt_len h1, List.length_cons]
    omega
theorem vsAt_get {w : World} {base : Nat} : ∀ {l : List Vt} {rows : List (List Value)}, VsAt w base l rows → ∀ (i : Nat) (x : Vt), l[i]? = some x → ∃ r, rows[i]? = some r ∧ VAt w base x r := by
  intro l
  induction l with
  | nil => intro rows _ i x h; cases h
  | cons y l ih =>
    intro rows h i x hx
    rw [VsAt] at h
    obtain ⟨r, rs, rfl, h1, h2⟩ := h
    cases i with
    | zero => simp only [List.getElem?_cons_zero, Option.some.injEq] at hx; subst hx; exact ⟨r, rfl, h1⟩
    | succ i => rw [List.getElem?_cons_succ] at hx ⊢; exact ih h2 i x hx
theorem vsAt_mk {w : World} {base : Nat} : ∀ {l : List Vt} {rows : List (List Value)}, rows.length = l.length → (∀ (i : Nat) (x : Vt) (r : List Value), l[i]? = some x → rows[i]? = some r → VAt w base x r) → VsAt w base l rows := by
  intro l
  induction l with
  | nil => intro rows h _; rw [VsAt]; exact List.eq_nil_of_length_eq_zero h
  | cons x l ih =>
    intro rows h hr
    match rows, h with
    | r :: rs, h =>
      rw [VsAt]
      exact ⟨r, rs, rfl, hr 0 x r rfl rfl, ih (by simpa using h) fun i y q h1 h2 => hr (i + 1) y q h1 h2⟩
/-- A change of the world that leaves the blocks that matter. -/
theorem vAt_keep {w w' : World} {base : Nat} (hk : ∀ p : Addr, base ≤ p.block → p.block < w.heap.size → w'.cell? p = w.cell? p) : ∀ (n : Nat) (t : Vt) (r : List Value), t.ht ≤ n → VAt w base t r → VAt w' base t r := by
  intro n
  induction n with
  | zero => intro t r h; cases t; rw [Vt.ht] at h; omega
  | succ n ih =>
    intro t r h hv
    cases t with
    | mk k b m s u ns l =>
      rw [Vt.ht] at h
      rw [VAt] at hv ⊢
      obtain ⟨A, c, B, d, rows, e, h1, h2, h3, h4, ⟨h5, h5'⟩, h6, h7⟩ := hv
      have lies : ∀ {X : Option Addr} {q size : Nat} {xs : List Value}, (∀ a, X = some a → base ≤ a.block) → Lies w X q size xs → Lies w' X q size xs := by
        intro X q size xs hX hL
        refine ⟨hL.1, fun hn => ?_⟩
        obtain ⟨bb, o, e, hc⟩ := hL.2 hn
        refine ⟨bb, o, e, fun j v hj => ?_⟩
        have hcj := hc j v hj
        rw [hk ⟨bb, o + j, none⟩ (show base ≤ bb from hX ⟨bb, o, none⟩ e) (World.block_lt_of_cell? w ⟨bb, o + j, none⟩ hcj)]
        exact hcj
      refine ⟨A, c, B, d, rows, e, h1, lies h5 h2, h3, h4, ⟨h5, h5'⟩, lies h5' h6, ?_⟩
      have hl := (vsAt_len h7).1
      refine vsAt_mk hl fun i x q hx hq => ?_
      obtain ⟨q', hq', hv'⟩ := vsAt_get h7 i x hx
      rw [hq] at hq'
      cases hq'
      exact ih x q (by have := Vt.ht_mem (List.mem_of_getElem? hx); omega) hv'
theorem VAt.below {w w' : World} {base : Nat} {t : Vt} {r : List Value} (h : VAt w base t r) (hb : Below w.heap.size w w') : VAt w' base t r :=
  vAt_keep (fun p _ hp => hb.cell hp) t.ht t r (Nat.le_refl _) h
theorem VAt.far {w : World} {base : Nat} {t : Vt} {r : List Value} (h : VAt w base t r) {p : Addr} (hp : p.block < base) (u : Value) : VAt (w.setCell p u) base t r :=
  vAt_keep (fun q hq _ => World.cell?_setCell_other w p q u (fun e => by rw [e] at hp; omega)) t.ht t r (Nat.le_refl _) h
theorem VsAt.below {w w' : World} {base : Nat} {l : List Vt} {rows : List (List Value)} (h : VsAt w base l rows) (hb : Below w.heap.size w w') : VsAt w' base l rows :=
  vsAt_mk (vsAt_len h).1 fun i x q hx hq => by
    obtain ⟨q', hq', hv⟩ := vsAt_get h i x hx
    rw [hq] at hq'
    cases hq'
    exact hv.below hb
/-- A lower bound that asks less. -/
theorem vAt_mono {w : World} {base base' : Nat} (hb : base' ≤ base) : ∀ (n : Nat) (t : Vt) (r : List Value), t.ht ≤ n → VAt w base t r → VAt w base' t r := by
  intro n
  induction n with
  | zero => intro t r h; cases t; rw [Vt.ht] at h; omega
  | succ n ih =>
    intro t r h hv
    cases t with
    | mk k b m s u ns l =>
      rw [Vt.ht] at h
      rw [VAt] at hv ⊢
      obtain ⟨A, c, B, d, rows, e, h1, h2, h3, h4, ⟨h5, h5'⟩, h6, h7⟩ := hv
      refine ⟨A, c, B, d, rows, e, h1, h2, h3, h4, ⟨fun a ha => Nat.le_trans hb (h5 a ha), fun a ha => Nat.le_trans hb (h5' a ha)⟩, h6, ?_⟩
      refine vsAt_mk (vsAt_len h7).1 fun i x q hx hq => ?_
      obtain ⟨q', hq', hv'⟩ := vsAt_get h7 i x hx
      rw [hq] at hq'
      cases hq'
      exact ih x q (by have := Vt.ht_mem (List.mem_of_getElem? hx); omega) hv'
theorem VAt.mono {w : World} {base base' : Nat} {t : Vt} {r : List Value} (h : VAt w base t r) (hb : base' ≤ base) : VAt w base' t r := vAt_mono hb t.ht t r (Nat.le_refl _) h
theorem flat_at {rows : List (List Value)} (h : ∀ r ∈ rows, r.length = 7) : ∀ (k i : Nat) (r : List Value) (v : Value), rows[k]? = some r → r[i]? = some v → rows.flatten[k * 7 + i]? = some v := by
  induction rows with
  | nil => intro k i r v h; cases h
  | cons q rows ih =>
    intro k i r v hr hv
    have hq := h q (by simp)
    rw [List.flatten_cons]
    cases k with
    | zero =>
      simp only [List.getElem?_cons_zero, Option.some.injEq] at hr
      subst hr
      rw [Nat.zero_mul, Nat.zero_add, List.getElem?_append_left (List.getElem?_eq_some_iff.1 hv).1]
      exact hv
    | succ k =>
      rw [List.getElem?_cons_succ] at hr
      rw [List.getElem?_append_right (by omega), hq, show (k + 1) * 7 + i - 7 = k * 7 + i by omega]
      exact ih (fun r hr => h r (by simp [hr])) k i r v hr hv
theorem vsAt_all7 {w : World} {base : Nat} {l : List Vt} {rows : List (List Value)} (h : VsAt w base l rows) : ∀ r ∈ rows, r.length = 7 := by
  intro r hr
  obtain ⟨i, hi, e⟩ := List.mem_iff_getElem.1 hr
  have hl := (vsAt_len h).1
  have hx : l[i]? = some l[i] := List.getElem?_eq_getElem (by omega)
  obtain ⟨q, hq, hv⟩ := vsAt_get h i _ hx
  rw [List.getElem?_eq_getElem hi, e] at hq
  cases hq
  exact vAt_len hv
end Go.Proofs.YtmnfmgoolimlmaaDoor
