/- Several small texts of this proof, one behind the other. -/
import Derived.Test.YtmnfmgoolimlmaaDoorVClone
import Derived.Test.YtmnfmgoolimlmaaDoorVOwn2
import Derived.Test.YtmnfmgoolimlmaaDoorVt
import Derived.Test.YtmnfmgoolimlmaaDoorGF
import Derived.Test.YtmnfmgoolimlmaaDoorVRow
import Derived.Test.YtmnfmgoolimlmaaDoorVCheck
section
/- Trees of values under changes that keep the blocks above one. -/
namespace Go.Proofs.YtmnfmgoolimlmaaDoor
set_option linter.unusedSimpArgs false
set_option linter.unusedVariables false
open Go.RowKit
/-- What lies above block g stays. -/
def KA (g : Nat) (w w' : World) : Prop := ∀ (p : Addr) (v : Value), g < p.block → w.cell? p = some v → w'.cell? p = some v
theorem KA.refl (g : Nat) (w : World) : KA g w w := fun _ _ _ h => h
theorem KA.trans {g : Nat} {w w' w'' : World} (h : KA g w w') (h' : KA g w' w'') : KA g w w'' := fun p v hp hc => h' p v hp (h p v hp hc)
theorem KA.below {g : Nat} {w w' : World} (h : Below w.heap.size w w') : KA g w w' := fun p v _ hc => by
  rw [h.cell (World.block_lt_of_cell? w p hc)]
  exact hc
theorem KA.set {g : Nat} {w : World} {p : Addr} (hp : p.block ≤ g) (x : Value) : KA g w (w.setCell p x) := fun q v hq hc =>
  (World.cell?_setCell_other w p q x (fun e => by rw [← e] at hq; omega)).trans hc
theorem Lies.ka {g : Nat} {w w' : World} {A : Option Addr} {n size : Nat} {xs : List Value} (h : Lies w A n size xs) (hA : ∀ a, A = some a → g < a.block) (hk : KA g w w') : Lies w' A n size xs := by
  refine ⟨h.1, fun hn => ?_⟩
  obtain ⟨b, o, e, hc⟩ := h.2 hn
  exact ⟨b, o, e, fun j v hj => hk ⟨b, o + j, none⟩ v (show g < b from hA ⟨b, o, none⟩ e) (hc j v hj)⟩
theorem vAt_ka {g : Nat} {w w' : World} (hk : KA g w w') : ∀ (n : Nat) (t : Vt) (r : List Value), t.ht ≤ n → VAt w (g + 1) t r → VAt w' (g + 1) t r := by
  intro n
  induction n with
  | zero => intro t r h; cases t; rw [Vt.ht] at h; omega
  | succ n ih =>
    intro t r h hv
    cases t with
    | mk k b m s u ns l =>
      rw [Vt.ht] at h
      rw [VAt] at hv ⊢
      obtain ⟨A, c, B, d, rows, e, h1, h2, h3, h4, ⟨h5, h5'⟩, h6, h7⟩ := hv
      refine ⟨A, c, B, d, rows, e, h1, Lies.ka h2 (fun a ha => h5 a ha) hk, h3, h4, ⟨h5, h5'⟩, h6.ka (fun a ha => h5' a ha) hk, ?_⟩
      refine vsAt_mk (vsAt_len h7).1 fun i x q hx hq => ?_
      obtain ⟨q', hq', hv'⟩ := vsAt_get h7 i x hx
      rw [hq] at hq'
      cases hq'
      exact ih x q (by have := Vt.ht_mem (List.mem_of_getElem? hx); omega) hv'
theorem VAt.ka {g : Nat} {w w' : World} {t : Vt} {r : List Value} (h : VAt w (g + 1) t r) (hk : KA g w w') : VAt w' (g + 1) t r := vAt_ka hk t.ht t r (Nat.le_refl _) h
theorem VsAt.ka {g : Nat} {w w' : World} {l : List Vt} {rows : List (List Value)} (h : VsAt w (g + 1) l rows) (hk : KA g w w') : VsAt w' (g + 1) l rows :=
  vsAt_mk (vsAt_len h).1 fun i x q hx hq => by
    obtain ⟨q', hq', hv⟩ := vsAt_get h i x hx
    rw [hq] at hq'
    cases hq'
    exact hv.ka hk
theorem VsAt.mono {w : World} {base base' : Nat} {l : List Vt} {rows : List (List Value)} (h : VsAt w base l rows) (hb : base' ≤ base) : VsAt w base' l rows :=
  vsAt_mk (vsAt_len h).1 fun i x q hx hq => by
    obtain ⟨q', hq', hv⟩ := vsAt_get h i x hx
    rw [hq] at hq'
    cases hq'
    exact hv.mono hb
theorem vAt_one {w : World} {base : Nat} {t : Vt} {r : List Value} (h : VAt w base t r) : ∀ v ∈ r, v.oneCell' = true := by
  cases t
  rw [VAt] at h
  obtain ⟨A, c, B, d, rows, rfl, _⟩ := h
  intro v hv
  simp only [vRow, List.mem_cons, List.not_mem_nil, or_false] at hv
  rcases hv with rfl | rfl | rfl | rfl | rfl | rfl | rfl <;> rfl
theorem vsAt_one {w : World} {base : Nat} {l : List Vt} {rows : List (List Value)} (h : VsAt w base l rows) : ∀ v ∈ rows.flatten, v.oneCell' = true := by
  intro v hv
  obtain ⟨r, hr, hv⟩ := List.mem_flatten.1 hv
  obtain ⟨i, hi, e⟩ := List.mem_iff_getElem.1 hr
  have hl := (vsAt_len h).1
  obtain ⟨q, hq, hq'⟩ := vsAt_get h i _ (List.getElem?_eq_getElem (show i < l.length by omega))
  rw [List.getElem?_eq_getElem hi, e] at hq
  cases hq
  exact vAt_one hq' v hv
/-- A family of rows is a list of them. -/
theorem rows_of {α : Type} (R : Nat → α → List Value → Prop) : ∀ (l : List α), (∀ j x, l[j]? = some x → ∃ r, R j x r) → ∃ rows : List (List Value), rows.length = l.length ∧ ∀ j x r, l[j]? = some x → rows[j]? = some r → R j x r := by
  intro l
  induction l generalizing R with
  | nil => intro _; exact ⟨[], rfl, fun j x r h => by cases h⟩
  | cons y l ih =>
    intro h
    obtain ⟨r, hr⟩ := h 0 y rfl
    obtain ⟨rows, h1, h2⟩ := ih (fun j => R (j + 1)) (fun j x hx => h (j + 1) x hx)
    refine ⟨r :: rows, by simp [h1], fun j x q hx hq => ?_⟩
    cases j with
    | zero =>
      simp only [List.getElem?_cons_zero, Option.some.injEq] at hx hq
      subst hx hq
      exact hr
    | succ j => exact h2 j x q hx hq
theorem flat_get {rows : List (List Value)} (h : ∀ r ∈ rows, r.length = 7) : ∀ (j : Nat) (v : Value), rows.flatten[j]? = some v → ∃ r, rows[j / 7]? = some r ∧ r[j % 7]? = some v := by
  induction rows with
  | nil => intro j v h; cases h
  | cons q rows ih =>
    intro j v hv
    have hq := h q (by simp)
    rw [List.flatten_cons] at hv
    rcases Nat.lt_or_ge j 7 with hj | hj
    · rw [List.getElem?_append_left (by omega)] at hv
      exact ⟨q, by rw [Nat.div_eq_of_lt hj]; rfl, by rw [Nat.mod_eq_of_lt hj]; exact hv⟩
    · rw [List.getElem?_append_right (by omega), hq] at hv
      obtain ⟨r, h1, h2⟩ := ih (fun r hr => h r (by simp [hr])) (j - 7) v hv
      refine ⟨r, ?_, ?_⟩
      · rw [show j / 7 = (j - 7) / 7 + 1 by omega, List.getElem?_cons_succ]
        exact h1
      · rw [show j % 7 = (j - 7) % 7 by omega]
        exact h2
/-- A block's cells, row by row. -/
def RowsIn (vs : List Value) (rows : List (List Value)) : Prop := ∀ q r i v, rows[q]? = some r → r[i]? = some v → vs[q * 7 + i]? = some v
theorem lies_rows {w : World} {g : Nat} {vs : List Value} {t : TypeId} {rows : List (List Value)} (hb : Blk w g vs t) (h7 : ∀ r ∈ rows, r.length = 7) (hr : RowsIn vs rows) : Lies w (some ⟨g, 0, none⟩) rows.length 7 rows.flatten := by
  refine ⟨?_, fun _ => ⟨g, 0, rfl, fun j v hj => ?_⟩⟩
  · clear hr hb
    induction rows with
    | nil => rfl
    | cons r rows ih =>
      rw [List.flatten_cons, List.length_append, ih (fun q hq => h7 q (by simp [hq])), h7 r (by simp), List.length_cons]
      omega
  · obtain ⟨r, h1, h2⟩ := flat_get h7 j v hj
    rw [Nat.zero_add, hb.cell]
    have := hr _ _ _ _ h1 h2
    rw [show j / 7 * 7 + j % 7 = j by omega] at this
    exact this
/-- The cells of a slice may be written. -/
def WrA (w : World) (A : Option Addr) (n : Nat) : Prop := ∀ a, A = some a → a = ⟨a.block, 0, none⟩ ∧ ∀ j, j < n → (w.cell? (a.add j)).isSome = true ∧ w.frozen? (a.add j) = false
theorem addr_blk (a : Addr) (j : Nat) : (a.add j).block = a.block := by
  unfold Addr.add
  split <;> rfl
theorem WrA.grown {w w' : World} {A : Option Addr} {n : Nat} {row : Option Nat} (h : WrA w A n) (hg : w.grownBy w' row) (hne : ∀ a, A = some a → some a.block ≠ row) : WrA w' A n := by
  intro a ha
  refine ⟨(h a ha).1, fun j hj => ?_⟩
  obtain ⟨h1, h2⟩ := (h a ha).2 j hj
  obtain ⟨v, hv⟩ := Option.isSome_iff_exists.1 h1
  have hlt := World.block_lt_of_cell? w _ hv
  rw [addr_blk] at hlt
  have hb := hg.block a.block hlt (hne a ha)
  refine ⟨by rw [hg.cell hv (by rw [addr_blk]; exact hne a ha)]; rfl, ?_⟩
  unfold World.frozen? at h2 ⊢
  rw [addr_blk] at h2 ⊢
  rw [hb]
  exact h2
theorem grown_of_below {w w' : World} (h : Below w.heap.size w w') (row : Option Nat) : w.grownBy w' row := ⟨h.os, h.tape, h.output, h.size, fun i hi _ => h.block i hi⟩
theorem WrA.below {w w' : World} {A : Option Addr} {n : Nat} (h : WrA w A n) (hb : Below w.heap.size w w') : WrA w' A n := h.grown (grown_of_below hb none) (fun _ _ e => by cases e)
/-- A value's parts may be written. -/
def Wr2 (w : World) (r : List Value) : Prop := ∀ (A : Option Addr) (m c : Nat), r[6]? = some (.slice A m c) → WrA w A (m * 7)
theorem Wr2.below {w w' : World} {r : List Value} (h : Wr2 w r) (hb : Below w.heap.size w w') : Wr2 w' r := fun A m c e => (h A m c e).below hb
theorem Wr2.grown {w w' : World} {g : Nat} {x : Vt} {r : List Value} (h : Wr2 w r) (hg : w.grownBy w' (some g)) (hv : VAt w (g + 1) x r) : Wr2 w' r := fun A m c e => (h A m c e).grown hg (fun a ha e2 => by
  cases x
  rw [VAt] at hv
  obtain ⟨A', c', B', d', rows, rfl, _, _, _, _, ⟨_, h5⟩, _⟩ := hv
  cases e
  have := h5 a ha
  have := Option.some.inj e2
  omega)
/-- A slice of values of its own memory: a block made behind 'base', all that its values lead to made behind that block. -/
def OwnAt (w : World) (base : Nat) (v : Value) (l : List Vt) : Prop :=
  (l = [] ∧ v = .slice none 0 0) ∨ ∃ (g cap : Nat) (vs : List Value) (rows : List (List Value)), v = .slice (some ⟨g, 0, none⟩) l.length cap ∧ base ≤ g ∧ Blk w g vs 37 ∧ l.length ≤ cap ∧ RowsIn vs rows ∧ VsAt w (g + 1) l rows ∧ ∀ r ∈ rows, Wr2 w r
theorem OwnAt.open_ {w : World} {base : Nat} {v : Value} {l : List Vt} (h : OwnAt w base v l) : ∃ A c rows, v = .slice A l.length c ∧ l.length ≤ c ∧ (∀ a, A = some a → base ≤ a.block) ∧ Lies w A l.length 7 rows.flatten ∧ VsAt w base l rows := by
  rcases h with ⟨rfl, rfl⟩ | ⟨g, cap, vs, rows, rfl, hg, hb, hc, hr, hv⟩
  · exact ⟨none, 0, [], rfl, Nat.le_refl _, (fun a h => by cases h), Lies.nil _ _ _, by rw [VsAt]⟩
  · obtain ⟨hv, -⟩ := hv
    refine ⟨_, cap, rows, rfl, hc, (fun a h => by cases h; exact hg), ?_, hv.mono (by omega)⟩
    have := lies_rows hb (vsAt_all7 hv) hr
    rw [(vsAt_len hv).1] at this
    exact this
theorem OwnAt.below {w w' : World} {base : Nat} {v : Value} {l : List Vt} (h : OwnAt w base v l) (hb : Below w.heap.size w w') : OwnAt w' base v l := by
  rcases h with h | ⟨g, cap, vs, rows, rfl, hg, hk, hc, hr, hv⟩
  · exact .inl h
  · exact .inr ⟨g, cap, vs, rows, rfl, hg, hk.below hb, hc, hr, hv.1.below hb, fun r hr => (hv.2 r hr).below hb⟩
theorem OwnAt.base {w : World} {b b' : Nat} {v : Value} {l : List Vt} (h : OwnAt w b v l) (hb : b' ≤ b) : OwnAt w b' v l := by
  rcases h with h | ⟨g, cap, vs, rows, rfl, hg, hk, hc, hr, hv⟩
  · exact .inl h
  · exact .inr ⟨g, cap, vs, rows, rfl, by omega, hk, hc, hr, hv⟩
theorem OwnAt.grown {w w' : World} {base q : Nat} {v : Value} {l : List Vt} (h : OwnAt w base v l) (hg : w.grownBy w' (some q)) (hq : q < base) : OwnAt w' base v l := by
  rcases h with h | ⟨g, cap, vs, rows, rfl, hb, hk, hc, hr, hv, hw⟩
  · exact .inl h
  · have hka : KA g w w' := fun p v hp hc => hg.cell hc (fun e => by have := Option.some.inj e; omega)
    refine .inr ⟨g, cap, vs, rows, rfl, hb, (hg.block g hk.lt (fun e => by have := Option.some.inj e; omega)).trans hk, hc, hr, hv.ka hka, fun r hr => ?_⟩
    obtain ⟨i, hi, e⟩ := List.mem_iff_getElem.1 hr
    have hl := (vsAt_len hv).1
    obtain ⟨r', hr', hv'⟩ := vsAt_get hv i _ (List.getElem?_eq_getElem (show i < l.length by omega))
    rw [List.getElem?_eq_getElem hi, e] at hr'
    cases hr'
    intro A m c e2
    refine (hw r hr A m c e2).grown hg (fun a ha e3 => ?_)
    generalize l[i] = x at hv'
    cases x
    rw [VAt] at hv'
    obtain ⟨A', c', B', d', rows', rfl, _, _, _, _, ⟨_, h5⟩, _⟩ := hv'
    cases e2
    have := h5 a ha
    have := Option.some.inj e3
    omega
theorem OwnAt.wr {w : World} {base : Nat} {l : List Vt} {A : Option Addr} {n c : Nat} (h : OwnAt w base (.slice A n c) l) : WrA w A (l.length * 7) := by
  rcases h with ⟨rfl, e⟩ | ⟨g, cap, vs, rows, e, hg, hk, hc, hr, hv, -⟩
  · cases e
    intro a ha
    cases ha
  · cases e
    intro a ha
    cases ha
    refine ⟨rfl, fun j hj => ?_⟩
    rw [addr_add, Nat.zero_add]
    have hl := (vsAt_len hv).1
    have h7 := vsAt_all7 hv
    have hq : j / 7 < rows.length := by omega
    have h77 := h7 _ (List.getElem_mem hq)
    have := hr (j / 7) rows[j / 7] (j % 7) _ (List.getElem?_eq_getElem hq) (List.getElem?_eq_getElem (by omega))
    rw [show j / 7 * 7 + j % 7 = j by omega] at this
    exact ⟨by rw [hk.cell, this]; rfl, hk.free j⟩
end Go.Proofs.YtmnfmgoolimlmaaDoor
end
section
/- value.own at any values. -/
namespace Go.Proofs.YtmnfmgoolimlmaaDoor
set_option linter.unusedSimpArgs false
set_option linter.unusedVariables false
open Go.RowKit
/-- The rounds of value.own: rows before k are new, from k on old. -/
def OwnMix (w : World) (g : Nat) (l : List Vt) (rows : List (List Value)) (vs : List Value) (k : Nat) : Prop :=
  ∀ j x, l[j]? = some x → ∃ r : List Value, (∀ (i : Nat) v, r[i]? = some v → vs[j * 7 + i]? = some v) ∧ (j < k → VAt w (g + 1) x r ∧ Wr2 w r) ∧ (k ≤ j → rows[j]? = some r)
theorem KA.grown {g : Nat} {w w' : World} (h : w.grownBy w' (some g)) : KA g w w' := fun p v hp hc => h.cell hc (fun e => by have := Option.some.inj e; omega)
theorem grown_set {g : Nat} {w : World} {p : Addr} (hp : p.block = g) (x : Value) : w.grownBy (w.setCell p x) (some g) := ⟨rfl, rfl, rfl, by simp [World.setCell], fun i _ hi => Below.heap_setCell w p x i (fun e => hi (by rw [e, hp]))⟩
theorem own_next {w w' : World} {g k : Nat} {l : List Vt} {rows : List (List Value)} {vs vs' : List Value} {kk : Nat} {b : Bool} {n : Int} {s t : ByteArray} {ns : List ByteArray} {l' : List Vt}
    {ca cb c1 c2 : Nat} {A' B' A1 A2 : Option Addr} {rows2 : List (List Value)} (hMix : OwnMix w g l rows vs k) (hx : l[k]? = some (.mk kk b n s t ns l'))
    (hrow : rows[k]? = some (vRow kk b n s t (.slice A' ns.length ca) (.slice B' l'.length cb)) ∧ (kk < 256 ∧ -9223372036854775808 ≤ n ∧ n ≤ 9223372036854775807 ∧ s.size ≤ mLen ∧ t.size ≤ mLen) ∧ (∀ x ∈ ns, x.size ≤ mLen) ∧ (ns.length * 16 ≤ mLen ∧ l'.length * 96 ≤ mLen))
    (hoth : ∀ j, j ≠ k * 7 + 5 → j ≠ k * 7 + 6 → vs'[j]? = vs[j]?) (g5 : vs'[k * 7 + 5]? = some (.slice A1 ns.length c1)) (g6 : vs'[k * 7 + 6]? = some (.slice A2 l'.length c2))
    (hgr : w.grownBy w' (some g)) (hc1 : ns.length ≤ c1) (hl1 : Texts w' A1 ns) (hA1 : ∀ a, A1 = some a → g < a.block) (hc2 : l'.length ≤ c2) (hA2 : ∀ a, A2 = some a → g < a.block)
    (hl2 : Lies w' A2 l'.length 7 rows2.flatten) (hv2 : VsAt w' (g + 1) l' rows2) (hw2 : WrA w' A2 (l'.length * 7)) : OwnMix w' g l rows vs' (k + 1) := by
  have hka := KA.grown hgr
  intro j x hj
  obtain ⟨r, h1, h2, h3⟩ := hMix j x hj
  by_cases hjk : j = k
  · subst hjk
    rw [hx] at hj
    cases hj
    have e := h3 (Nat.le_refl _)
    rw [hrow.1] at e
    cases e
    refine ⟨vRow kk b n s t (.slice A1 ns.length c1) (.slice A2 l'.length c2), fun i v hi => ?_, fun _ => ?_, fun h => by omega⟩
    · rcases (show i = 5 ∨ i = 6 ∨ i < 5 ∨ 7 ≤ i by omega) with rfl | rfl | hi' | hi'
      · cases hi; exact g5
      · cases hi; exact g6
      · rw [hoth _ (by omega) (by omega)]
        refine h1 i v ?_
        rcases (show i = 0 ∨ i = 1 ∨ i = 2 ∨ i = 3 ∨ i = 4 by omega) with rfl | rfl | rfl | rfl | rfl <;> exact hi
      · rw [List.getElem?_eq_none (by show 7 ≤ i; exact hi')] at hi
        cases hi
    · refine ⟨?_, fun A m c e => by cases e; exact hw2⟩
      rw [VAt]
      exact ⟨A1, c1, A2, c2, rows2, rfl, hrow.2.1, hl1, hrow.2.2.1, ⟨hrow.2.2.2.1, hc1, hrow.2.2.2.2, hc2⟩, ⟨fun a ha => hA1 a ha, fun a ha => hA2 a ha⟩, hl2, hv2⟩
  · rcases Nat.lt_or_ge j k with hlt | hge
    · obtain ⟨hv, hwv⟩ := h2 hlt
      have h7 := vAt_len hv
      refine ⟨r, fun i v hi => ?_, fun _ => ⟨hv.ka hka, hwv.grown hgr hv⟩, fun h => by omega⟩
      have := (List.getElem?_eq_some_iff.1 hi).1
      rw [hoth _ (by omega) (by omega)]
      exact h1 i v hi
    · refine ⟨r, fun i v hi => ?_, fun h => by omega, fun _ => h3 hge⟩
      have hj6 : k * 7 + 7 ≤ j * 7 := by omega
      rw [hoth _ (by omega) (by omega)]
      exact h1 i v hi
set_option maxRecDepth 100000 in
set_option maxHeartbeats 2000000 in
theorem own_n : ∀ (N : Nat) (l : List Vt), Vt.hts l = N → ∀ (bx : Nat) (A : Option Addr) (c : Nat) (rows : List (List Value)) (w : World), Lies w A l.length 7 rows.flatten → VsAt w bx l rows → l.length * 96 ≤ mLen →
    Calls Tryd.prog 39 #[.slice A l.length c] w fun e w' => ∃ v, e = .returned v ∧ OwnAt w' w.heap.size v l ∧ Below w.heap.size w w' := by
  intro N
  induction N using Nat.strongRecOn with
  | _ N ih =>
  intro l hN bx A c rows w hl hv hn
  have h0 := cloneVL_w A l.length c rows.flatten w hl (vsAt_one hv) hn
  have hrec : ∀ (l' : List Vt), (∃ x ∈ l, Vt.hts l' < x.ht) → ∀ (bx : Nat) (A : Option Addr) (c : Nat) (rows : List (List Value)) (w : World), Lies w A l'.length 7 rows.flatten → VsAt w bx l' rows → l'.length * 96 ≤ mLen →
      Calls Tryd.prog 39 #[.slice A l'.length c] w fun e w' => ∃ v, e = .returned v ∧ OwnAt w' w.heap.size v l' ∧ Below w.heap.size w w' := by
    rintro l' ⟨x, hx, hlt⟩
    have := Vt.ht_mem hx
    exact ih (Vt.hts l') (by omega) l' rfl
  clear ih hN
  have HREC := hide hrec
  clear hrec
  have hlen : l.length ≤ 1466015503701 := by unfold mLen at hn; omega
  obtain ⟨n, hn'⟩ := named l.length
  rw [← hn'.out] at h0 hlen ⊢
  clear hn
  go_enter Tryd.func39, Tryd.ntmps39
  go_wp2_with fail
  refine h0.mono ?_
  rintro e w1 ⟨v, rfl, hown1, hbw⟩
  clear h0
  have hV1 := hide (hv.below hbw)
  rcases Classical.em (v = .slice none 0 0) with hv0 | hv0
  · subst hv0
    have hn0 : n = 0 := by
      rcases hown1.2 with ⟨h, -⟩ | ⟨g, cap, cur, h, -⟩
      · have := hown1.1
        simp only [World.ownsRow] at hown1
        rcases hown1.2 with ⟨-, h9⟩ | ⟨_, _, _, h9, _⟩
        · omega
        · cases h9
      · cases h
    have hl0 : l = [] := List.eq_nil_of_length_eq_zero (by rw [← hn'.out, hn0])
    clear hn' hV1 hown1 HREC hl hv
    subst hn0
    go_wp2_with (first | (at_builtin; fail))
    go_loopw [8] (fun i wr => i = .int .i64 0 ∧ wr = w1) (fun _ _ => 0)
    case atStart => exact ⟨rfl, rfl⟩
    case round =>
      obtain ⟨rfl, rfl⟩ := hrel
      go_wp2_with (first | (at_builtin; fail))
      go_ret
      exact ⟨_, rfl, .inl ⟨hl0, rfl⟩, hbw⟩
  · obtain ⟨g, cap, vs, rfl, hg, hk1, hvs, hcap, hvl⟩ := own_open hown1 hv0
    clear hown1 hv0
    have hM0 : OwnMix w1 g l rows vs 0 := fun j x hj => by
      obtain ⟨r, hr, hvr⟩ := vsAt_get hv j x hj
      exact ⟨r, fun i v hi => hvs _ _ (flat_at (vsAt_all7 hv) j i r v hr hi), fun h => by omega, fun _ => hr⟩
    clear hvs
    have HM0 := hide hM0
    clear hM0
    have HV := hide hv
    have HL := hide hl
    clear hv hl hvl
    go_wp2_with (first | (at_builtin; fail))
    go_loopw [8] (fun i wr => ∃ (k : Nat) (vs : List Value), k ≤ n ∧ i = .int .i64 k ∧ Blk wr g vs 37 ∧ OwnMix wr g l rows vs k ∧ Below w.heap.size w wr) (fun i _ => n - (intOf i).toNat)
    case atStart => exact ⟨0, vs, by omega, rfl, hk1, HM0.out, hbw⟩
    case round =>
      clear hk1 hbw HM0 vs hV1
      obtain ⟨k, vs, hk, rfl, hk1, hMix, hbw⟩ := hrel
      by_cases hlt : k < n
      · have hi0 : (0 : Int) ≤ (k : Int) := by omega
        have hi1 : (k : Int) < (n : Int) := by omega
        have hkl : k < l.length := by rw [← hn'.out]; exact hlt
        obtain ⟨x, hx⟩ : ∃ x, l[k]? = some x := ⟨_, List.getElem?_eq_getElem hkl⟩
        obtain ⟨r, hr, hvx⟩ := vsAt_get HV.out k x hx
        obtain ⟨r', h1', -, h3'⟩ := hMix k x hx
        have e' := h3' (Nat.le_refl _)
        rw [hr] at e'
        cases e'
        obtain ⟨kk, b, m, s, t, ns, l'⟩ := x
        have hrec := HREC.out l' ⟨_, List.mem_of_getElem? hx, by rw [Vt.ht]; omega⟩
        rw [VAt] at hvx
        obtain ⟨A', ca, B', cb, rows', rfl, hnum, hTx, hnsz, ⟨hns, -, hls, -⟩, -, hLp, hVp⟩ := hvx
        have hrow : rows[k]? = some (vRow kk b m s t (.slice A' ns.length ca) (.slice B' l'.length cb)) ∧ (kk < 256 ∧ -9223372036854775808 ≤ m ∧ m ≤ 9223372036854775807 ∧ s.size ≤ mLen ∧ t.size ≤ mLen) ∧ (∀ x ∈ ns, x.size ≤ mLen) ∧ (ns.length * 16 ≤ mLen ∧ l'.length * 96 ≤ mLen) := ⟨hr, hnum, hnsz, hns, hls⟩
        have hv5 : vs[k * 7 + 5]? = some (.slice A' ns.length ca) := h1' 5 _ rfl
        have hv6 : vs[k * 7 + 6]? = some (.slice B' l'.length cb) := h1' 6 _ rfl
        replace hrec := fun bx A c rows w h1 h2 => hrec bx A c rows w h1 h2 hls
        have HREC2 := hide hrec
        have HROW := hide hrow
        have HMIX := hide hMix
        have HNZ := hide hnsz
        clear h1' h3' hr hnum hrec hrow hMix hnsz hns hls
        have hns := HROW.out.2.2.2.1
        unfold mLen at hns
        go_upto_region 5 with (go_quiet (fail))
        refine region_auto (fun L v u => (∃ vs' : List Value, Blk u g vs' 37 ∧ (∀ j, j ≠ k * 7 + 5 → j ≠ k * 7 + 6 → vs'[j]? = vs[j]?) ∧ vs'[k * 7 + 5]? = some (cond (L 18) (v 9) (.slice A' ns.length ca)) ∧ vs'[k * 7 + 6]? = some (cond (L 21) (v 15) (.slice B' l'.length cb))) ∧ Below w.heap.size w u ∧ wr.grownBy u (some g)) (fun _ u u' => u.grownBy u' (some g)) _ (by kernel_rfl) (by kernel_rfl) (fun v => by simp only [putsV, Act.put, List.toList_toArray, List.setIfInBounds_toArray, List.set_cons_zero, List.set_cons_succ, Nat.reduceAdd, Nat.zero_add]; rfl) ⟨⟨vs, hk1, fun _ _ _ => rfl, hv5, hv6⟩, hbw.drew, ⟨rfl, rfl, rfl, Nat.le_refl _, fun _ _ _ => rfl⟩⟩ (fun L L' v u hL h => by rw [← hL 18 (by decide)]; rw [← hL 21 (by decide)]; exact h) ?_
        refine flatE_fix [] _ (fun L hL hcl v u hS hd K' hK => by
            simp only [Act.put, List.setIfInBounds_toArray, List.set_cons_zero, List.set_cons_succ] at hK
            go_simp
            exact hK.out _ ⟨hS, World.grownBy.refl _ _⟩) (by kernel_rfl) (j := 1) rfl ?_
        refine flatE_fix [] _ (fun L hL hcl v u hS hd K' hK => by
            simp only [Act.put, List.setIfInBounds_toArray, List.set_cons_zero, List.set_cons_succ] at hK
            go_simp
            exact hK.out _ ⟨hS, World.grownBy.refl _ _⟩) (by kernel_rfl) (j := 2) rfl ?_
        refine flatE_fix [] _ (fun L hL hcl v u hS hd K' hK => by
            simp only [Act.put, List.setIfInBounds_toArray, List.set_cons_zero, List.set_cons_succ] at hK
            go_simp
            exact hK.out _ ⟨hS, World.grownBy.refl _ _⟩) (by kernel_rfl) (j := 3) rfl ?_
        refine flatE_fix [] _ (fun L hL hcl v u hS hd K' hK => by
            simp only [Act.put, List.setIfInBounds_toArray, List.set_cons_zero, List.set_cons_succ] at hK
            go_simp
            exact hK.out _ ⟨hS, World.grownBy.refl _ _⟩) (by kernel_rfl) (j := 4) rfl ?_
        refine flatE_fix [] _ (fun L hL hcl v u hS hd K' hK => by
            simp only [Act.put, List.setIfInBounds_toArray, List.set_cons_zero, List.set_cons_succ] at hK
            go_simp
            exact hK.out _ ⟨hS, World.grownBy.refl _ _⟩) (by kernel_rfl) (j := 5) rfl ?_
        refine flatE_fix [] _ (fun L hL hcl v u hS hd K' hK => by
            simp only [Act.put, List.setIfInBounds_toArray, List.set_cons_zero, List.set_cons_succ] at hK
            go_simp
            exact hK.out _ ⟨hS, World.grownBy.refl _ _⟩) (by kernel_rfl) (j := 6) rfl ?_
        refine flatE_fix [4, 5] _ (fun L hL hcl v u hS hd K' hK => by
            simp only [held, relR, eqv, List.getD_cons_zero, List.getD_cons_succ, Nat.reduceSub] at hd
            simp only [Act.put, List.setIfInBounds_toArray, List.set_cons_zero, List.set_cons_succ] at hK
            try simp only [hd] at hK
            go_simp
            exact hK.out _ ⟨hS, World.grownBy.refl _ _⟩) (by kernel_rfl) (j := 7) rfl ?_
        refine flatE_fix [6] _ (fun L hL hcl v u hS hd K' hK => by
            simp only [held, relR, eqv, List.getD_cons_zero, List.getD_cons_succ, Nat.reduceSub] at hd
            simp only [Act.put, List.setIfInBounds_toArray, List.set_cons_zero, List.set_cons_succ] at hK
            try simp only [hd] at hK
            go_simp
            exact hK.out _ ⟨hS, World.grownBy.refl _ _⟩) (by kernel_rfl) (j := 8) rfl ?_
        refine flatE_fix [7] _ (fun L hL hcl v u hS hd K' hK => by
            simp only [held, relR, eqv, List.getD_cons_zero, List.getD_cons_succ, Nat.reduceSub] at hd
            simp only [Act.put, List.setIfInBounds_toArray, List.set_cons_zero, List.set_cons_succ] at hK
            try simp only [hd] at hK
            have hL18 : L 18 = false := by
              cases h9 : L 18 with
              | false => rfl
              | true => have h8 := hcl 18 8 h9 (by kernel_rfl); rw [hL] at h8; cases h8
            have hS2 := hS
            obtain ⟨⟨vs', hb', -, h5, h6⟩, -, -⟩ := hS2
            rw [hL18] at h5
            have x0 : u.cell? ⟨g, k * 7 + 5, none⟩ = some (.slice A' ns.length ca) := (hb'.cell _).trans h5
            go_simp
            exact hK.out _ ⟨hS, World.grownBy.refl _ _⟩) (by kernel_rfl) (j := 9) rfl ?_
        refine flatE_any [8] (fun v u => ∃ A1 c1, v = .slice A1 ns.length c1 ∧ ns.length ≤ c1 ∧ Texts u A1 ns ∧ ∀ a, A1 = some a → g < a.block) (fun _ _ _ _ _ hg => by rintro ⟨A1, c1, e, h1, h2, h3⟩; exact ⟨A1, c1, e, h1, Lies.ka h2 h3 (KA.grown hg), h3⟩) (fun L hL hcl v u hS hd K' hK => by
            simp only [held, relR, eqv, List.getD_cons_zero, List.getD_cons_succ, Nat.reduceSub] at hd
            simp only [Act.put, List.setIfInBounds_toArray, List.set_cons_zero, List.set_cons_succ] at hK
            try simp only [hd] at hK
            have hL18 : L 18 = false := by
              cases h9 : L 18 with
              | false => rfl
              | true => have h8 := hcl 18 9 h9 (by kernel_rfl); rw [hL] at h8; cases h8
            obtain ⟨⟨vs', hb', hoth, h5, h6⟩, hbl, hka⟩ := hS
            go_simp
            refine (cloneSL_w A' ca ns u (hTx.below hbl) hns).mono ?_
            rintro e w9 ⟨v9, rfl, hown9, hb9⟩
            obtain ⟨A1, c1, rfl, hc1, -, hl1, hA1⟩ := Lies.of_own hown9
            exact hK.out _ _ ⟨⟨⟨vs', hb'.below hb9, hoth, by show _ = some (cond (decide (18 = 9) || L 18) _ _); rw [hL18] at h5 ⊢; exact h5, h6⟩, bt hbl hb9, hka.trans (grown_of_below hb9 _)⟩, grown_of_below hb9 _, A1, c1, rfl, hc1, hl1, fun a ha => Nat.lt_of_lt_of_le hb'.lt (hA1 a ha)⟩) (by kernel_rfl) (j := 10) rfl ?_
        refine flatE_fix [] _ (fun L hL hcl v u hS hd K' hK => by
            simp only [Act.put, List.setIfInBounds_toArray, List.set_cons_zero, List.set_cons_succ] at hK
            go_simp
            exact hK.out _ ⟨hS, World.grownBy.refl _ _⟩) (by kernel_rfl) (j := 11) rfl ?_
        refine flatE_fix [] _ (fun L hL hcl v u hS hd K' hK => by
            simp only [Act.put, List.setIfInBounds_toArray, List.set_cons_zero, List.set_cons_succ] at hK
            go_simp
            exact hK.out _ ⟨hS, World.grownBy.refl _ _⟩) (by kernel_rfl) (j := 12) rfl ?_
        refine flatE_fix [10, 11] _ (fun L hL hcl v u hS hd K' hK => by
            simp only [held, relR, eqv, List.getD_cons_zero, List.getD_cons_succ, Nat.reduceSub] at hd
            simp only [Act.put, List.setIfInBounds_toArray, List.set_cons_zero, List.set_cons_succ] at hK
            try simp only [hd] at hK
            go_simp
            exact hK.out _ ⟨hS, World.grownBy.refl _ _⟩) (by kernel_rfl) (j := 13) rfl ?_
        refine flatE_fix [12] _ (fun L hL hcl v u hS hd K' hK => by
            simp only [held, relR, eqv, List.getD_cons_zero, List.getD_cons_succ, Nat.reduceSub] at hd
            simp only [Act.put, List.setIfInBounds_toArray, List.set_cons_zero, List.set_cons_succ] at hK
            try simp only [hd] at hK
            go_simp
            exact hK.out _ ⟨hS, World.grownBy.refl _ _⟩) (by kernel_rfl) (j := 14) rfl ?_
        refine flatE_fix [13] _ (fun L hL hcl v u hS hd K' hK => by
            simp only [held, relR, eqv, List.getD_cons_zero, List.getD_cons_succ, Nat.reduceSub] at hd
            simp only [Act.put, List.setIfInBounds_toArray, List.set_cons_zero, List.set_cons_succ] at hK
            try simp only [hd] at hK
            have hL21 : L 21 = false := by
              cases h9 : L 21 with
              | false => rfl
              | true => have h8 := hcl 21 14 h9 (by kernel_rfl); rw [hL] at h8; cases h8
            have hS2 := hS
            obtain ⟨⟨vs', hb', -, h5, h6⟩, -, -⟩ := hS2
            rw [hL21] at h6
            have x0 : u.cell? ⟨g, k * 7 + 6, none⟩ = some (.slice B' l'.length cb) := (hb'.cell _).trans h6
            go_simp
            exact hK.out _ ⟨hS, World.grownBy.refl _ _⟩) (by kernel_rfl) (j := 15) rfl ?_
        refine flatE_any [14] (fun v u => ∃ A2 c2 rows2, v = .slice A2 l'.length c2 ∧ l'.length ≤ c2 ∧ (∀ a, A2 = some a → g < a.block) ∧ Lies u A2 l'.length 7 rows2.flatten ∧ VsAt u (g + 1) l' rows2 ∧ WrA u A2 (l'.length * 7)) (fun _ _ _ _ _ hg => by rintro ⟨A2, c2, rows2, e, h1, h2, h3, h4, h5⟩; exact ⟨A2, c2, rows2, e, h1, h2, Lies.ka h3 h2 (KA.grown hg), h4.ka (KA.grown hg), h5.grown hg (fun a ha e => by have := h2 a ha; have := Option.some.inj e; omega)⟩) (fun L hL hcl v u hS hd K' hK => by
            simp only [held, relR, eqv, List.getD_cons_zero, List.getD_cons_succ, Nat.reduceSub] at hd
            simp only [Act.put, List.setIfInBounds_toArray, List.set_cons_zero, List.set_cons_succ] at hK
            try simp only [hd] at hK
            have hL21 : L 21 = false := by
              cases h9 : L 21 with
              | false => rfl
              | true => have h8 := hcl 21 15 h9 (by kernel_rfl); rw [hL] at h8; cases h8
            obtain ⟨⟨vs', hb', hoth, h5, h6⟩, hbl, hka⟩ := hS
            go_simp
            refine (HREC2.out bx B' cb rows' u (hLp.below hbl) (hVp.below hbl)).mono ?_
            rintro e w9 ⟨v9, rfl, hown9, hb9⟩
            have hop9 := hown9.open_
            obtain ⟨A2, c2, rows2, rfl, hc2, hA2, hl2, hv2⟩ := hop9
            have hwr9 := hown9.wr
            have hgu := hb'.lt
            exact hK.out _ _ ⟨⟨⟨vs', hb'.below hb9, hoth, h5, by show _ = some (cond (decide (21 = 15) || L 21) _ _); rw [hL21] at h6 ⊢; exact h6⟩, bt hbl hb9, hka.trans (grown_of_below hb9 _)⟩, grown_of_below hb9 _, A2, c2, rows2, rfl, hc2, fun a ha => Nat.lt_of_lt_of_le hb'.lt (hA2 a ha), hl2, hv2.mono (by omega), hwr9⟩) (by kernel_rfl) (j := 16) rfl ?_
        refine flatE_fix [0, 1] _ (fun L hL hcl v u hS hd K' hK => by
            simp only [held, relR, eqv, List.getD_cons_zero, List.getD_cons_succ, Nat.reduceSub] at hd
            simp only [Act.put, List.setIfInBounds_toArray, List.set_cons_zero, List.set_cons_succ] at hK
            try simp only [hd] at hK
            go_simp
            exact hK.out _ ⟨hS, World.grownBy.refl _ _⟩) (by kernel_rfl) (j := 17) rfl ?_
        refine flatE_fix [16] _ (fun L hL hcl v u hS hd K' hK => by
            simp only [held, relR, eqv, List.getD_cons_zero, List.getD_cons_succ, Nat.reduceSub] at hd
            simp only [Act.put, List.setIfInBounds_toArray, List.set_cons_zero, List.set_cons_succ] at hK
            try simp only [hd] at hK
            go_simp
            exact hK.out _ ⟨hS, World.grownBy.refl _ _⟩) (by kernel_rfl) (j := 18) rfl ?_
        refine flatE_any [9, 17] (fun _ _ => True) (fun _ _ _ _ _ _ _ => trivial) (fun L hL hcl v u hS hd K' hK => by
            simp only [held, relR, eqv, List.getD_cons_zero, List.getD_cons_succ, Nat.reduceSub] at hd
            simp only [Act.put, List.setIfInBounds_toArray, List.set_cons_zero, List.set_cons_succ] at hK
            try simp only [hd] at hK
            obtain ⟨⟨vs', hb', hoth, h5, h6⟩, hbl, hka⟩ := hS
            obtain ⟨A1, c1, e9, hc1, hl1, hA1⟩ := hd.1
            have x0 : u.cell? ⟨g, k * 7 + 5, none⟩ = some _ := (hb'.cell _).trans h5
            have z0 := hb'.free (k * 7 + 5)
            simp only [e9] at hK ⊢
            go_simp
            refine hK.out undef _ ⟨⟨⟨_, hb'.set (k * 7 + 5) _, fun q h1 h2 => ?_, ?_, ?_⟩, hbl.setCell (p := ⟨g, k * 7 + 5, none⟩) hg _, hka.trans (grown_set (p := ⟨g, k * 7 + 5, none⟩) rfl _)⟩, grown_set (p := ⟨g, k * 7 + 5, none⟩) rfl _, trivial⟩
            · rw [List.getElem?_set_ne (by omega)]; exact hoth q h1 h2
            · rw [List.getElem?_set_self (by exact (List.getElem?_eq_some_iff.1 h5).1)]; exact congrArg some e9.symm
            · rw [List.getElem?_set_ne (by omega)]; exact h6) (by kernel_rfl) (j := 19) rfl ?_
        refine flatE_fix [2, 3] _ (fun L hL hcl v u hS hd K' hK => by
            simp only [held, relR, eqv, List.getD_cons_zero, List.getD_cons_succ, Nat.reduceSub] at hd
            simp only [Act.put, List.setIfInBounds_toArray, List.set_cons_zero, List.set_cons_succ] at hK
            try simp only [hd] at hK
            go_simp
            exact hK.out _ ⟨hS, World.grownBy.refl _ _⟩) (by kernel_rfl) (j := 20) rfl ?_
        refine flatE_fix [19] _ (fun L hL hcl v u hS hd K' hK => by
            simp only [held, relR, eqv, List.getD_cons_zero, List.getD_cons_succ, Nat.reduceSub] at hd
            simp only [Act.put, List.setIfInBounds_toArray, List.set_cons_zero, List.set_cons_succ] at hK
            try simp only [hd] at hK
            go_simp
            exact hK.out _ ⟨hS, World.grownBy.refl _ _⟩) (by kernel_rfl) (j := 21) rfl ?_
        refine flatE_any [15, 20] (fun _ _ => True) (fun _ _ _ _ _ _ _ => trivial) (fun L hL hcl v u hS hd K' hK => by
            simp only [held, relR, eqv, List.getD_cons_zero, List.getD_cons_succ, Nat.reduceSub] at hd
            simp only [Act.put, List.setIfInBounds_toArray, List.set_cons_zero, List.set_cons_succ] at hK
            try simp only [hd] at hK
            obtain ⟨⟨vs', hb', hoth, h5, h6⟩, hbl, hka⟩ := hS
            obtain ⟨A2, c2, rows2, e9, hc2, hA2, hl2, hv2, hw2⟩ := hd.1
            have x0 : u.cell? ⟨g, k * 7 + 6, none⟩ = some _ := (hb'.cell _).trans h6
            have z0 := hb'.free (k * 7 + 6)
            simp only [e9] at hK ⊢
            go_simp
            refine hK.out undef _ ⟨⟨⟨_, hb'.set (k * 7 + 6) _, fun q h1 h2 => ?_, ?_, ?_⟩, hbl.setCell (p := ⟨g, k * 7 + 6, none⟩) hg _, hka.trans (grown_set (p := ⟨g, k * 7 + 6, none⟩) rfl _)⟩, grown_set (p := ⟨g, k * 7 + 6, none⟩) rfl _, trivial⟩
            · rw [List.getElem?_set_ne (by omega)]; exact hoth q h1 h2
            · rw [List.getElem?_set_ne (by omega)]; exact h5
            · rw [List.getElem?_set_self (by exact (List.getElem?_eq_some_iff.1 h6).1)]; exact congrArg some e9.symm) (by kernel_rfl) (j := 22) rfl ?_
        refine flatE_end [9, 15] (by decide) ?_
        rintro v u hS hR
        simp only [held, relR, eqv, List.getD_cons_zero, List.getD_cons_succ, Nat.reduceSub] at hR
        obtain ⟨⟨vs', hb', hoth, h5, h6⟩, hbl, hka⟩ := hS
        obtain ⟨h9, h15⟩ := hR
        obtain ⟨A1, c1, e9, hc1, hl1, hA1⟩ := h9
        obtain ⟨A2, c2, rows2, e15, hc2, hA2, hl2, hv2, hw2⟩ := h15
        have g5 : vs'[k * 7 + 5]? = some (.slice A1 ns.length c1) := h5.trans (congrArg some e9)
        have g6 : vs'[k * 7 + 6]? = some (.slice A2 l'.length c2) := h6.trans (congrArg some e15)
        clear e9 e15 h5 h6
        go_wp2_with (go_quiet (fail))
        go_roundw
        case rel => exact ⟨k + 1, vs', by omega, by go_num, hb', own_next HMIX.out hx HROW.out hoth g5 g6 hka hc1 hl1 hA1 hc2 hA2 hl2 hv2 hw2, hbl⟩
        case measure => simp [intOf]; omega
      · have hi1 : ¬ (k : Int) < (n : Int) := by omega
        obtain rfl : k = n := by omega
        go_wp2_with (first | (at_builtin; fail))
        go_ret
        obtain ⟨rows9, hr9, hr9'⟩ := rows_of (fun j x r => (∀ (i : Nat) v, r[i]? = some v → vs[j * 7 + i]? = some v) ∧ VAt wr (g + 1) x r ∧ Wr2 wr r) l (fun j x hj => by
          obtain ⟨r, h1, h2, h3⟩ := hMix j x hj
          have : j < l.length := (List.getElem?_eq_some_iff.1 hj).1
          exact ⟨r, h1, h2 (by rw [hn'.out]; exact this)⟩)
        refine ⟨_, rfl, .inr ⟨g, cap, vs, rows9, by rw [hn'.out]; rfl, hg, hk1, by rw [← hn'.out]; exact hcap, fun q r i v hq hi => ?_, vsAt_mk hr9 fun j x r hx hr => (hr9' j x r hx hr).2.1, fun r hr => ?_⟩, hbw⟩
        · have hql : q < l.length := by rw [← hr9]; exact (List.getElem?_eq_some_iff.1 hq).1
          exact (hr9' q l[q] r (List.getElem?_eq_getElem hql) hq).1 i v hi
        · obtain ⟨q, hq, e⟩ := List.mem_iff_getElem.1 hr
          have hql : q < l.length := by rw [← hr9]; exact hq
          exact (hr9' q l[q] r (List.getElem?_eq_getElem hql) (by rw [List.getElem?_eq_getElem hq, e])).2.2
end Go.Proofs.YtmnfmgoolimlmaaDoor
end
section
/- lictorref06.Copy and CopyAll at any values. -/
namespace Go.Proofs.YtmnfmgoolimlmaaDoor
set_option linter.unusedSimpArgs false
set_option linter.unusedVariables false
open Go.RowKit
mutual
/-- In the world w the cells r are the tree; all that they lead to lies in blocks of P. -/
def VAtP (w : World) (P : Nat → Prop) : Vt → List Value → Prop
  | .mk k b n s t ns l, r => ∃ (A : Option Addr) (c : Nat) (B : Option Addr) (d : Nat) (rows : List (List Value)),
      r = vRow k b n s t (.slice A ns.length c) (.slice B l.length d) ∧ (k < 256 ∧ -9223372036854775808 ≤ n ∧ n ≤ 9223372036854775807 ∧ s.size ≤ mLen ∧ t.size ≤ mLen) ∧
      Texts w A ns ∧ (∀ x ∈ ns, x.size ≤ mLen) ∧ (ns.length * 16 ≤ mLen ∧ ns.length ≤ c ∧ l.length * 96 ≤ mLen ∧ l.length ≤ d) ∧
      ((∀ a, A = some a → P a.block) ∧ (∀ a, B = some a → P a.block)) ∧ Lies w B l.length 7 rows.flatten ∧ VsAtP w P l rows
def VsAtP (w : World) (P : Nat → Prop) : List Vt → List (List Value) → Prop
  | [], rows => rows = []
  | x :: l, rows => ∃ r rs, rows = r :: rs ∧ VAtP w P x r ∧ VsAtP w P l rs
end
theorem vsAtP_get {w : World} {P : Nat → Prop} : ∀ {l : List Vt} {rows : List (List Value)}, VsAtP w P l rows → rows.length = l.length ∧ ∀ (i : Nat) (x : Vt), l[i]? = some x → ∃ r, rows[i]? = some r ∧ VAtP w P x r := by
  intro l
  induction l with
  | nil => intro rows h; rw [VsAtP] at h; subst h; exact ⟨rfl, fun i x h => by cases h⟩
  | cons y l ih =>
    intro rows h
    rw [VsAtP] at h
    obtain ⟨r, rs, rfl, h1, h2⟩ := h
    obtain ⟨i1, i2⟩ := ih h2
    refine ⟨by simp [i1], fun i x hx => ?_⟩
    cases i with
    | zero => simp only [List.getElem?_cons_zero, Option.some.injEq] at hx; subst hx; exact ⟨r, rfl, h1⟩
    | succ i => rw [List.getElem?_cons_succ] at hx ⊢; exact i2 i x hx
theorem vsAtP_mk {w : World} {P : Nat → Prop} : ∀ {l : List Vt} {rows : List (List Value)}, rows.length = l.length → (∀ (i : Nat) (x : Vt) (r : List Value), l[i]? = some x → rows[i]? = some r → VAtP w P x r) → VsAtP w P l rows := by
  intro l
  induction l with
  | nil => intro rows h _; rw [VsAtP]; exact List.eq_nil_of_length_eq_zero h
  | cons x l ih =>
    intro rows h hr
    match rows, h with
    | r :: rs, h =>
      rw [VsAtP]
      exact ⟨r, rs, rfl, hr 0 x r rfl rfl, ih (by simpa using h) fun i y q h1 h2 => hr (i + 1) y q h1 h2⟩
theorem vsAtP_map {w w' : World} {P Q : Nat → Prop} {l : List Vt} {rows : List (List Value)} (h : VsAtP w P l rows) (f : ∀ x r, x ∈ l → VAtP w P x r → VAtP w' Q x r) : VsAtP w' Q l rows :=
  vsAtP_mk (vsAtP_get h).1 fun i x q hx hq => by
    obtain ⟨q', hq', hv⟩ := (vsAtP_get h).2 i x hx
    rw [hq] at hq'
    cases hq'
    exact f x q (List.mem_of_getElem? hx) hv
theorem vsAtP_snoc {w : World} {P : Nat → Prop} {l : List Vt} {rows : List (List Value)} {x : Vt} {r : List Value} (h : VsAtP w P l rows) (hx : VAtP w P x r) : VsAtP w P (l ++ [x]) (rows ++ [r]) := by
  induction l generalizing rows with
  | nil => rw [VsAtP] at h; subst h; rw [List.nil_append, List.nil_append, VsAtP]; exact ⟨r, [], rfl, hx, by rw [VsAtP]⟩
  | cons y l ih =>
    rw [VsAtP] at h
    obtain ⟨q, rs, rfl, h1, h2⟩ := h
    rw [List.cons_append, List.cons_append, VsAtP]
    exact ⟨q, rs ++ [r], rfl, h1, ih h2⟩
theorem lies_keepP {w w' : World} {P : Nat → Prop} (hk : ∀ (p : Addr) v, P p.block → w.cell? p = some v → w'.cell? p = some v) {X : Option Addr} {q size : Nat} {xs : List Value} (hX : ∀ a, X = some a → P a.block) (hL : Lies w X q size xs) : Lies w' X q size xs := by
  refine ⟨hL.1, fun hn => ?_⟩
  obtain ⟨bb, o, e, hc⟩ := hL.2 hn
  exact ⟨bb, o, e, fun j v hj => hk ⟨bb, o + j, none⟩ v (show P bb from hX ⟨bb, o, none⟩ e) (hc j v hj)⟩
theorem vAtP_keepn {w w' : World} {P Q : Nat → Prop} (hk : ∀ (p : Addr) v, P p.block → w.cell? p = some v → w'.cell? p = some v) (hPQ : ∀ b, P b → Q b) : ∀ (n : Nat) (t : Vt) (r : List Value), t.ht ≤ n → VAtP w P t r → VAtP w' Q t r := by
  intro n
  induction n with
  | zero => intro t r h; cases t; rw [Vt.ht] at h; omega
  | succ n ih =>
    intro t r h hv
    cases t with
    | mk k b m s u ns l =>
      rw [Vt.ht] at h
      rw [VAtP] at hv ⊢
      obtain ⟨A, c, B, d, rows, e, h1, h2, h3, h4, ⟨h5, h5'⟩, h6, h7⟩ := hv
      exact ⟨A, c, B, d, rows, e, h1, lies_keepP hk h5 h2, h3, h4, ⟨fun a ha => hPQ _ (h5 a ha), fun a ha => hPQ _ (h5' a ha)⟩, lies_keepP hk h5' h6, vsAtP_map h7 fun x r hx hv => ih x r (by have := Vt.ht_mem hx; omega) hv⟩
theorem VAtP.keep {w w' : World} {P Q : Nat → Prop} {t : Vt} {r : List Value} (h : VAtP w P t r) (hk : ∀ (p : Addr) v, P p.block → w.cell? p = some v → w'.cell? p = some v) (hPQ : ∀ b, P b → Q b) : VAtP w' Q t r := vAtP_keepn hk hPQ t.ht t r (Nat.le_refl _) h
theorem VAtP.below {w w' : World} {P : Nat → Prop} {t : Vt} {r : List Value} (h : VAtP w P t r) (hb : Below w.heap.size w w') : VAtP w' P t r :=
  h.keep (fun p v _ hc => by rw [hb.cell (World.block_lt_of_cell? w p hc)]; exact hc) fun _ h => h
/-- All that a tree leads to was made before now. -/
theorem vAtP_ltn {w : World} {P : Nat → Prop} (hemp : ∀ b, P b → b < w.heap.size) : True := trivial
theorem vAt_toPn {w : World} {base : Nat} : ∀ (n : Nat) (t : Vt) (r : List Value), t.ht ≤ n → VAt w base t r → VAtP w (fun b => base ≤ b) t r := by
  intro n
  induction n with
  | zero => intro t r h; cases t; rw [Vt.ht] at h; omega
  | succ n ih =>
    intro t r h hv
    cases t with
    | mk k b m s u ns l =>
      rw [Vt.ht] at h
      rw [VAt] at hv
      rw [VAtP]
      obtain ⟨A, c, B, d, rows, e, h1, h2, h3, h4, ⟨h5, h5'⟩, h6, h7⟩ := hv
      refine ⟨A, c, B, d, rows, e, h1, h2, h3, h4, ⟨h5, h5'⟩, h6, vsAtP_mk (vsAt_len h7).1 fun i x q hx hq => ?_⟩
      obtain ⟨q', hq', hv'⟩ := vsAt_get h7 i x hx
      rw [hq] at hq'
      cases hq'
      exact ih x q (by have := Vt.ht_mem (List.mem_of_getElem? hx); omega) hv'
theorem vAtP_ofn {w : World} {P : Nat → Prop} {base : Nat} (hP : ∀ b, P b → base ≤ b) : ∀ (n : Nat) (t : Vt) (r : List Value), t.ht ≤ n → VAtP w P t r → VAt w base t r := by
  intro n
  induction n with
  | zero => intro t r h; cases t; rw [Vt.ht] at h; omega
  | succ n ih =>
    intro t r h hv
    cases t with
    | mk k b m s u ns l =>
      rw [Vt.ht] at h
      rw [VAtP] at hv
      rw [VAt]
      obtain ⟨A, c, B, d, rows, e, h1, h2, h3, h4, ⟨h5, h5'⟩, h6, h7⟩ := hv
      refine ⟨A, c, B, d, rows, e, h1, h2, h3, h4, ⟨fun a ha => hP _ (h5 a ha), fun a ha => hP _ (h5' a ha)⟩, h6, vsAt_mk (vsAtP_get h7).1 fun i x q hx hq => ?_⟩
      obtain ⟨q', hq', hv'⟩ := (vsAtP_get h7).2 i x hx
      rw [hq] at hq'
      cases hq'
      exact ih x q (by have := Vt.ht_mem (List.mem_of_getElem? hx); omega) hv'
theorem VAt.toP {w : World} {base : Nat} {t : Vt} {r : List Value} (h : VAt w base t r) : VAtP w (fun b => base ≤ b) t r := vAt_toPn t.ht t r (Nat.le_refl _) h
theorem VAtP.of {w : World} {P : Nat → Prop} {base : Nat} {t : Vt} {r : List Value} (h : VAtP w P t r) (hP : ∀ b, P b → base ≤ b) : VAt w base t r := vAtP_ofn hP t.ht t r (Nat.le_refl _) h
theorem vAtP_len {w : World} {P : Nat → Prop} {t : Vt} {r : List Value} (h : VAtP w P t r) : r.length = 7 := by
  cases t
  rw [VAtP] at h
  obtain ⟨A, c, B, d, rows, rfl, _⟩ := h
  rfl
theorem vAtP_one {w : World} {P : Nat → Prop} {t : Vt} {r : List Value} (h : VAtP w P t r) : ∀ v ∈ r, v.oneCell' = true := vAt_one (h.of (base := 0) fun _ _ => Nat.zero_le _)
theorem own_lt {w : World} {base n size : Nat} {e : TypeId} {v : Value} {xs : List Value} (h : w.ownsRow base e size v n xs) : ∀ b, v.ownBlock = some b → b < w.heap.size := by
  intro b hb
  rcases h.2 with ⟨rfl, -⟩ | ⟨g, cap, cur, rfl, -, hh, -⟩
  · cases hb
  · simp only [Value.ownBlock, Option.some.injEq] at hb
    subst hb
    exact (Array.getElem?_eq_some_iff.1 hh).1
theorem own_below {w w' : World} {base n size : Nat} {e : TypeId} {v : Value} {xs : List Value} (h : w.ownsRow base e size v n xs) (hb : Below w.heap.size w w') : w'.ownsRow base e size v n xs := by
  refine ⟨h.1, ?_⟩
  rcases h.2 with h1 | ⟨g, cap, cur, e1, h2, h3, h4⟩
  · exact .inl h1
  · exact .inr ⟨g, cap, cur, e1, h2, (hb.block g (Array.getElem?_eq_some_iff.1 h3).1).trans h3, h4⟩
def CopyC (x : Vt) : Prop := ∀ (bx : Nat) (r : List Value) (w : World), VAt w bx x r → Calls Tryd.prog 36 #[.agg r.toArray] w fun e w' => ∃ r', e = .returned (.agg r'.toArray) ∧ VAtP w' (fun b => w.heap.size ≤ b ∧ b < w'.heap.size) x r' ∧ Below w.heap.size w w'
def CopyAllC (l : List Vt) : Prop := ∀ (bx : Nat) (A : Option Addr) (c : Nat) (rows : List (List Value)) (w : World), Lies w A l.length 7 rows.flatten → VsAt w bx l rows → l.length * 96 ≤ mLen →
  Calls Tryd.prog 15 #[.slice A l.length c] w fun e w' => ∃ v rows', e = .returned v ∧ w'.ownsRow w.heap.size 37 7 v l.length rows'.flatten ∧ VsAtP w' (fun b => w.heap.size ≤ b ∧ b < w'.heap.size) l rows' ∧ Below w.heap.size w w'
theorem Tryd.infoS : (Tryd.prog.info? 9).map (fun i => (i.zero, i.size, i.bytes)) = some (some (.string ⟨#[]⟩), 1, 16) := by kernel_rfl
set_option maxRecDepth 100000 in
set_option maxHeartbeats 1000000 in
theorem copy_of (x : Vt) (hA : ∀ k b n s t ns l, x = .mk k b n s t ns l → CopyAllC l) : CopyC x := by
  intro bx r w hx
  obtain ⟨k, b, n, s, t, ns, l⟩ := x
  have hall := hA k b n s t ns l rfl
  rw [VAt] at hx
  obtain ⟨A, ca, B, cb, rows, rfl, hnum, hT, hnz, ⟨hns, -, hls, -⟩, -, hL, hV⟩ := hx
  obtain ⟨i0, hi, hz0, hz1, hz2⟩ := info_parts Tryd.infoS
  obtain ⟨k1, k2, hbw⟩ := box2 w (vRow k b n s t (.slice A ns.length ca) (.slice B l.length cb)) zeroRow 37
  have hs2 : ((w.alloc (.cells (vRow k b n s t (.slice A ns.length ca) (.slice B l.length cb)).toArray 37)).alloc (.cells zeroRow.toArray 37)).heap.size = w.heap.size + 2 := by
    show ((w.heap.push _).push _).size = _
    simp
  obtain ⟨W, HW⟩ := named ((w.alloc (.cells (vRow k b n s t (.slice A ns.length ca) (.slice B l.length cb)).toArray 37)).alloc (.cells zeroRow.toArray 37))
  have HW2 : W = (w.alloc (.cells (vRow k b n s t (.slice A ns.length ca) (.slice B l.length cb)).toArray 37)).alloc (.cells #[.int .u8 0, .bool false, .int .i64 0, .string ⟨#[]⟩, .string ⟨#[]⟩, .slice none 0 0, .slice none 0 0] 37) := HW.out
  have HW3 := hide HW2
  clear HW2
  have hns16 : ns.length * 16 ≤ 140737488351232 := hns
  go_enter Tryd.func36, Tryd.ntmps36
  go_upto_region 1 with (go_quiet (fail))
  rw [← HW3.out]
  rw [← HW.out] at k1 k2 hbw hs2
  clear HW HW3
  have hT1 := hide ((hT.below hbw).alloc (.cells #[] 9))
  have k1a := k1.alloc (.cells #[] 9)
  have k2a := k2.alloc (.cells #[] 9)
  have b1a := bt hbw (below_alloc W (.cells #[] 9))
  have hown0 : (W.alloc (.cells #[] 9)).ownsRow (w.heap.size + 2) 9 1 (.slice (some ⟨w.heap.size + 2, 0, none⟩) 0 0) 0 [] := by
    have := own_empty7 W 9 1
    rw [hs2] at this
    exact this
  obtain ⟨W1, HW1⟩ := named (W.alloc (.cells #[] 9))
  rw [← HW1.out] at hT1 k1a k2a b1a hown0
  have hW1s : W1.heap.size = w.heap.size + 3 := by rw [HW1.out]; show (W.heap.push _).size = _; simp [hs2]
  have HE := HW1.out
  have HE1 := hide HE.symm
  clear HW1 HE
  have x5 : W1.cell? ⟨w.heap.size, 5, none⟩ = some (.slice A ns.length ca) := k1a.cell 5
  have halloc : W.alloc (.cells #[] 9) = W1 := HE1.out
  go_upto_region 2 with (first
      | (at_builtin
         refine wpList_append_any _ rfl (.tmp 3) (.tmp 5) _ rfl (w.heap.size + 2) 9 i0 _ 1 16 Tryd.underlying32 hi hz0 hz1 hz2 rfl (by omega) (.slice (some ⟨w.heap.size + 2, 0, none⟩) 0 0) 0 [] rfl
           hown0 A ns.length ca (strs ns) rfl hT1.out (strs_one ns) (by simp only [maxLen]; omega) (by omega) (by omega) ?_
         intro v1 w1 hown1 hg1 hat1
         have hlt1 := own_lt hown1
         obtain ⟨A1, c1, rfl, hc1, -, hl1, hA1⟩ := Lies.of_own hown1
         rw [Nat.zero_add, List.nil_append] at hl1
         have k1b : Blk w1 w.heap.size (vRow k b n s t (.slice A ns.length ca) (.slice B l.length cb)) 37 := by
           have := (hg1.block w.heap.size (by omega) (by simp only [Value.ownBlock]; intro e; have := Option.some.inj e; omega))
           exact this.trans k1a
         have k2b : Blk w1 (w.heap.size + 1) zeroRow 37 := by
           have := (hg1.block (w.heap.size + 1) (by omega) (by simp only [Value.ownBlock]; intro e; have := Option.some.inj e; omega))
           exact this.trans k2a
         have b1b := b1a.grown hg1 (by omega) (by intro j hj; simp only [Value.ownBlock] at hj; have := Option.some.inj hj; omega)
         have y5 : w1.cell? ⟨w.heap.size, 5, none⟩ = some (.slice A ns.length ca) := k1b.cell 5
         have z5 := k1b.free 5)
      | fail)
  clear hown1
  have k1c := k1b.set 5 (.slice A1 ns.length c1)
  have k2c := k2b.far (p := ⟨w.heap.size, 5, none⟩) (by show w.heap.size + 1 ≠ w.heap.size; omega) (.slice A1 ns.length c1)
  have b1c := b1b.setCell (p := ⟨w.heap.size, 5, none⟩) (Nat.le_refl _) (.slice A1 ns.length c1)
  have hA1' : ∀ a, A1 = some a → w.heap.size + 2 ≤ a.block := hA1
  have hA1u : ∀ a, A1 = some a → a.block < w1.heap.size := fun a ha => hlt1 _ (by rw [ha]; rfl)
  have hw1W : w1.heap.size ≤ (w1.setCell ⟨w.heap.size, 5, none⟩ (.slice A1 ns.length c1)).heap.size := by simp [World.setCell]
  have hl1c := hl1.far (p := ⟨w.heap.size, 5, none⟩) (fun a ha => by have := hA1' a ha; show a.block ≠ w.heap.size; omega) (.slice A1 ns.length c1)
  obtain ⟨W2, HW2⟩ := named (w1.setCell ⟨w.heap.size, 5, none⟩ (.slice A1 ns.length c1))
  rw [← HW2.out] at k1c k2c b1c hl1c hw1W ⊢
  clear HW2 y5 z5 x5
  have x6 : W2.cell? ⟨w.heap.size, 6, none⟩ = some (.slice B l.length cb) := k1c.cell 6
  have hcall := hall bx B cb rows W2 (hL.below b1c) (hV.below b1c) hls
  have hW2 : w.heap.size + 2 ≤ W2.heap.size := k2c.lt
  go_wp2_with fail
  refine hcall.mono ?_
  rintro e w3 ⟨v3, rows3, rfl, hown3, hv3, hb3⟩
  have hlt3 := own_lt hown3
  obtain ⟨A3, c3, rfl, hc3, -, hl3, hA3⟩ := Lies.of_own hown3
  have hA3u : ∀ a, A3 = some a → a.block < w3.heap.size := fun a ha => hlt3 _ (by rw [ha]; rfl)
  clear hown3 hcall x6
  have k1d := k1c.below hb3
  have k2d := k2c.below hb3
  have b1d := bt b1c hb3
  have hl1d := hl1c.below hb3
  have x6 : w3.cell? ⟨w.heap.size, 6, none⟩ = some (.slice B l.length cb) := k1d.cell 6
  have z6 := k1d.free 6
  go_upto_region 3 with fail
  have k1e := k1d.set 6 (.slice A3 l.length c3)
  have k2e := k2d.far (p := ⟨w.heap.size, 6, none⟩) (by show w.heap.size + 1 ≠ w.heap.size; omega) (.slice A3 l.length c3)
  have b1e := b1d.setCell (p := ⟨w.heap.size, 6, none⟩) (Nat.le_refl _) (.slice A3 l.length c3)
  have hl1e := hl1d.far (p := ⟨w.heap.size, 6, none⟩) (fun a ha => by have := hA1' a ha; show a.block ≠ w.heap.size; omega) (.slice A3 l.length c3)
  have hl3e := hl3.far (p := ⟨w.heap.size, 6, none⟩) (fun a ha => by have := hA3 a ha; show a.block ≠ w.heap.size; omega) (.slice A3 l.length c3)
  have hw3W : w3.heap.size ≤ (w3.setCell ⟨w.heap.size, 6, none⟩ (.slice A3 l.length c3)).heap.size := by simp [World.setCell]
  have hv3e : VsAtP (w3.setCell ⟨w.heap.size, 6, none⟩ (.slice A3 l.length c3)) (fun b => W2.heap.size ≤ b ∧ b < w3.heap.size) l rows3 := vsAtP_map hv3 fun x q _ hv =>
    hv.keep (fun p v hp hc => (World.cell?_setCell_other w3 _ p _ (fun e => by rw [← e] at hp; have := hp.1; have h9 : W2.heap.size ≤ w.heap.size := this; omega)).trans hc) fun _ h => h
  obtain ⟨W3, HW3⟩ := named (w3.setCell ⟨w.heap.size, 6, none⟩ (.slice A3 l.length c3))
  rw [← HW3.out] at k1e k2e b1e hl1e hl3e hv3e hw3W ⊢
  clear HW3 x6 z6
  have k1f : Blk W3 w.heap.size (vRow k b n s t (.slice A1 ns.length c1) (.slice A3 l.length c3)) 37 := k1e
  go_wp2_with (first
    | refine wpList_load_row rfl 37 _ rfl _ rfl 37 (vRow k b n s t (.slice A1 ns.length c1) (.slice A3 l.length c3)).toArray (0, 0) _ k1f Tryd.underlying37 rfl (kV7 rfl) ?_
    | refine wpList_store_row rfl 37 _ _ rfl _ (vRow k b n s t (.slice A1 ns.length c1) (.slice A3 l.length c3)).toArray rfl rfl 37 zeroRow.toArray k2e (kV7 rfl) rfl (by kernel_rfl) ?_)
  refine bodyPost_ret (vret1 rfl _ rfl (k2e.vrow (vRow k b n s t (.slice A1 ns.length c1) (.slice A3 l.length c3))) rfl) rfl ⟨_, rfl, ?_, below_vrow b1e (by omega) _⟩
  have hkeep : ∀ (p : Addr) v, w.heap.size + 2 ≤ p.block → W3.cell? p = some v → (W3.setRow (w.heap.size + 1) (vRow k b n s t (.slice A1 ns.length c1) (.slice A3 l.length c3)).toArray).cell? p = some v := fun p v hp hc => by
    unfold World.cell? at hc ⊢
    rw [vrow_far W3 (w.heap.size + 1) p.block _ (by omega)]
    exact hc
  have hsz : (W3.setRow (w.heap.size + 1) (vRow k b n s t (.slice A1 ns.length c1) (.slice A3 l.length c3)).toArray).heap.size = W3.heap.size := by simp [World.setRow]
  have hW23 := hb3.size
  rw [VAtP]
  refine ⟨A1, c1, A3, c3, rows3, rfl, hnum, ?_, hnz, ⟨hns, by omega, hls, hc3⟩, ⟨fun a ha => ?_, fun a ha => ?_⟩, ?_, ?_⟩
  · exact lies_keepP (P := fun b => w.heap.size + 2 ≤ b) hkeep hA1' hl1e
  · have h1 := hA1' a ha
    have h2 := hA1u a ha
    rw [hsz]
    exact ⟨by omega, by omega⟩
  · have h1 := hA3 a ha
    have h2 := hA3u a ha
    rw [hsz]
    exact ⟨by omega, by omega⟩
  · exact lies_keepP (P := fun b => w.heap.size + 2 ≤ b) hkeep (fun a ha => by have := hA3 a ha; omega) hl3e
  · rw [hsz]
    exact vsAtP_map hv3e fun x q _ hv => hv.keep (fun p v hp hc => hkeep p v (by have := hp.1; omega) hc) (fun b hb => ⟨by have := hb.1; omega, by have := hb.2; omega⟩)
set_option maxRecDepth 100000 in
set_option maxHeartbeats 300000 in
theorem copyAll_of (l : List Vt) (hC : ∀ x ∈ l, CopyC x) : CopyAllC l := by
  intro bx A c rows w hL hV hn
  obtain ⟨i0, hi, hz0, hz1, hz2⟩ := info_parts Tryd.infoV
  have hn' : l.length * 96 ≤ 140737488351232 := hn
  have HC := hide hC
  have HV := hide hV
  have HL := hide hL
  clear hC hV hL hn
  obtain ⟨N, hN⟩ := named l.length
  rw [← hN.out] at hn' ⊢
  go_enter Tryd.func15, Tryd.ntmps15
  go_wp2_with (first | (at_builtin; fail))
  go_loopw [3, 8] (fun v i wr => ∃ (k : Nat) (rows' : List (List Value)), k ≤ N ∧ i = .int .i64 k ∧ wr.ownsRow w.heap.size 37 7 v k rows'.flatten ∧ VsAtP wr (fun b => w.heap.size ≤ b ∧ v.ownBlock ≠ some b ∧ b < wr.heap.size) (l.take k) rows' ∧ Below w.heap.size w wr) (fun _ i _ => N - (intOf i).toNat)
  case atStart => exact ⟨0, [], by omega, rfl, World.ownsRow_nil _ _ _ _, by rw [List.take_zero, VsAtP], Below.refl _ _⟩
  case round =>
    obtain ⟨k, rows', hk, rfl, hown, hVP, hbw⟩ := hrel
    by_cases hlt : k < N
    · have hi0 : (0 : Int) ≤ (k : Int) := by omega
      have hi1 : (k : Int) < (N : Int) := by omega
      have hkl : k < l.length := by rw [← hN.out]; exact hlt
      obtain ⟨x, hx⟩ : ∃ x, l[k]? = some x := ⟨_, List.getElem?_eq_getElem hkl⟩
      obtain ⟨r, hr, hvr⟩ := vsAt_get HV.out k x hx
      have hla2 := HL.out
      obtain ⟨ba, oa, rfl, -⟩ := hla2.2 (fun h0 => by
        have h9 := (vsAt_len HV.out).2
        rw [h0] at h9
        simp only [List.length_nil] at h9
        omega)
      have hload0 := cells_of_lies hla2 (vsAt_all7 HV.out) hr
      have hcall0 := HC.out x (List.mem_of_getElem? hx) bx r
      have h7 := vAt_len hvr
      have h1 := vAt_one hvr
      obtain ⟨kk, bb, nn, ss, tt, ms, pp⟩ := x
      have hvr2 := hvr
      rw [VAt] at hvr2
      obtain ⟨A1, c1, B1, d1, -, rfl, -⟩ := hvr2
      have hload := fun j v hj => hload0 wr hbw j v hj
      have l0 : wr.cell? ⟨ba, oa + k * 7, none⟩ = some (.int .u8 (kk : Int)) := hload 0 _ rfl
      have l1 : wr.cell? ⟨ba, oa + k * 7 + 1, none⟩ = some (.bool bb) := hload 1 _ rfl
      have l2 : wr.cell? ⟨ba, oa + k * 7 + 2, none⟩ = some (.int .i64 nn) := hload 2 _ rfl
      have l3 : wr.cell? ⟨ba, oa + k * 7 + 3, none⟩ = some (.string ss) := hload 3 _ rfl
      have l4 : wr.cell? ⟨ba, oa + k * 7 + 4, none⟩ = some (.string tt) := hload 4 _ rfl
      have l5 : wr.cell? ⟨ba, oa + k * 7 + 5, none⟩ = some (.slice A1 ms.length c1) := hload 5 _ rfl
      have l6 : wr.cell? ⟨ba, oa + k * 7 + 6, none⟩ = some (.slice B1 pp.length d1) := hload 6 _ rfl
      clear hload hload0 hla2 hr
      have kz := Blk.new wr zeroRow 37
      have hst : ∀ P : World → Prop, P ((wr.alloc (.cells zeroRow.toArray 37)).setRow wr.heap.size (vRow kk bb nn ss tt (.slice A1 ms.length c1) (.slice B1 pp.length d1)).toArray) → P ((wr.alloc (.cells zeroRow.toArray 37)).setRow wr.heap.size #[.int .u8 (kk : Int), .bool bb, .int .i64 nn, .string ss, .string tt, .slice A1 ms.length c1, .slice B1 pp.length d1]) := fun P h => h
      go_upto_region 5 with (first
        | refine wpList_store_row rfl 37 _ _ rfl _ (vRow kk bb nn ss tt (.slice A1 ms.length c1) (.slice B1 pp.length d1)).toArray rfl rfl 37 zeroRow.toArray kz (kV7 rfl) rfl (all_one h1) ?_)
      clear l0 l1 l2 l3 l4 l5 l6 hst
      have ky := kz.vrow (vRow kk bb nn ss tt (.slice A1 ms.length c1) (.slice B1 pp.length d1))
      have by1 := below_vrow (below_alloc wr (.cells zeroRow.toArray 37)) (Nat.le_refl _) (vRow kk bb nn ss tt (.slice A1 ms.length c1) (.slice B1 pp.length d1)).toArray
      obtain ⟨W1, HW1⟩ := named ((wr.alloc (.cells zeroRow.toArray 37)).setRow wr.heap.size (vRow kk bb nn ss tt (.slice A1 ms.length c1) (.slice B1 pp.length d1)).toArray)
      have HW2 : (wr.alloc (.cells #[.int .u8 0, .bool false, .int .i64 0, .string ⟨#[]⟩, .string ⟨#[]⟩, .slice none 0 0, .slice none 0 0] 37)).setRow wr.heap.size (vRow kk bb nn ss tt (.slice A1 ms.length c1) (.slice B1 pp.length d1)).toArray = W1 := HW1.out.symm
      have HW3 := hide HW2
      clear HW2 kz
      rw [← HW1.out] at ky by1
      rw [HW3.out]
      clear HW1 HW3
      have hcall := hcall0 W1 (hvr.below (bt hbw by1))
      go_wp2_with (refine wpList_load_row rfl 37 _ rfl _ rfl 37 (vRow kk bb nn ss tt (.slice A1 ms.length c1) (.slice B1 pp.length d1)).toArray (0, 0) _ ky Tryd.underlying37 rfl (kV7 rfl) ?_)
      refine hcall.mono ?_
      rintro e w2 ⟨r2, rfl, hv2, hb2⟩
      have hone2 := vAtP_one hv2
      have hv2' := hv2
      obtain ⟨X, hX⟩ : ∃ X, X = Vt.mk kk bb nn ss tt ms pp := ⟨_, rfl⟩
      rw [← hX] at hv2 hx
      rw [VAtP] at hv2'
      obtain ⟨A2, c2, B2, d2, -, rfl, -⟩ := hv2'
      clear hcall hcall0 ky hvr
      have hown2 := own_below (own_below hown by1) hb2
      have hbw2 := bt (bt hbw by1) hb2
      have hlies := lies_rows (Blk.new w2 (vRow kk bb nn ss tt (.slice A2 ms.length c2) (.slice B2 pp.length d2)) 37) (rows := [vRow kk bb nn ss tt (.slice A2 ms.length c2) (.slice B2 pp.length d2)]) (by intro r hr; rw [List.mem_singleton.1 hr]; rfl) (fun q r i v hq hi => by
        cases q with
        | zero => simp only [List.getElem?_cons_zero, Option.some.injEq] at hq; subst hq; rw [Nat.zero_mul, Nat.zero_add]; exact hi
        | succ q => cases hq)
      have hoa := hown2.alloc (.cells (vRow kk bb nn ss tt (.slice A2 ms.length c2) (.slice B2 pp.length d2)).toArray 37)
      have hba := bt hbw2 (below_alloc w2 (.cells (vRow kk bb nn ss tt (.slice A2 ms.length c2) (.slice B2 pp.length d2)).toArray 37))
      have hsa : (w2.alloc (.cells (vRow kk bb nn ss tt (.slice A2 ms.length c2) (.slice B2 pp.length d2)).toArray 37)).heap.size = w2.heap.size + 1 := Array.size_push _
      have HVP := hide hVP
      have HOWN := hide hown
      have HV2 := hide hv2
      clear hVP hown hv2
      rw [show (vRow kk bb nn ss tt (.slice A2 ms.length c2) (.slice B2 pp.length d2)).toArray = #[.int .u8 (kk : Int), .bool bb, .int .i64 nn, .string ss, .string tt, .slice A2 ms.length c2, .slice B2 pp.length d2] from rfl]
      go_wp2_with (first
        | (at_builtin
           refine wpList_append_any _ rfl (.tmp 12) (.tmp 15) _ rfl w.heap.size 37 i0 _ 7 96 Tryd.underlying33 hi hz0 hz1 hz2 rfl (by omega) u3 k rows'.flatten rfl
             hoa (some ⟨w2.heap.size, 0, none⟩) 1 1 [vRow kk bb nn ss tt (.slice A2 ms.length c2) (.slice B2 pp.length d2)].flatten rfl hlies (fun y hy => hone2 y (by simpa using hy)) (by simp only [maxLen]; omega) (by omega) hba.size ?_
           intro v1 w3 hown3 hg3 hat3))
      go_roundw
      case rel =>
        have hlt0 := own_lt HOWN.out
        have hsz1 : wr.heap.size ≤ W1.heap.size := by1.size
        have hsz2 : W1.heap.size ≤ w2.heap.size := hb2.size
        have hsz3 := hg3.size
        have hka : ∀ p : Addr, p.block < w2.heap.size → u3.ownBlock ≠ some p.block → ∀ v, w2.cell? p = some v → w3.cell? p = some v := fun p hp hne v hc => by
          have h1 := (hg3.block p.block (Nat.lt_of_lt_of_le hp (below_alloc w2 _).size) (fun h => hne h.symm))
          have h2 := (below_alloc w2 (.cells (vRow kk bb nn ss tt (.slice A2 ms.length c2) (.slice B2 pp.length d2)).toArray 37)).block p.block hp
          unfold World.cell? at hc ⊢
          rw [h1]
          have h3 : (w2.alloc (.cells #[.int .u8 (kk : Int), .bool bb, .int .i64 nn, .string ss, .string tt, .slice A2 ms.length c2, .slice B2 pp.length d2] 37)).heap[p.block]? = w2.heap[p.block]? := h2
          rw [h3]
          exact hc
        have hsz4 : w2.heap.size + 1 ≤ w3.heap.size := by
          have : (w2.alloc (.cells #[.int .u8 (kk : Int), .bool bb, .int .i64 nn, .string ss, .string tt, .slice A2 ms.length c2, .slice B2 pp.length d2] 37)).heap.size = w2.heap.size + 1 := Array.size_push _
          omega
        have hat : ∀ b, b < w2.heap.size → u3.ownBlock ≠ some b → v1.ownBlock ≠ some b := fun b hb hne h => by
          rcases hat3 with h3 | h3
          · rw [h3] at h; exact hne h
          · rw [h3] at h
            have h4 := Option.some.inj h
            have : (w2.alloc (.cells #[.int .u8 (kk : Int), .bool bb, .int .i64 nn, .string ss, .string tt, .slice A2 ms.length c2, .slice B2 pp.length d2] 37)).heap.size = w2.heap.size + 1 := Array.size_push _
            omega
        refine ⟨k + 1, rows' ++ [vRow kk bb nn ss tt (.slice A2 ms.length c2) (.slice B2 pp.length d2)], by omega, by go_num, by rw [List.flatten_append]; exact hown3, ?_, hba.grown hg3 hba.size (fun j hj => (HOWN.out.lt j hj).1)⟩
        have e : l.take (k + 1) = l.take k ++ [X] := by
          obtain ⟨hk', ek⟩ := List.getElem?_eq_some_iff.1 hx
          rw [List.take_succ_eq_append_getElem hk', ek]
        rw [e]
        refine vsAtP_snoc (vsAtP_map HVP.out fun y q _ hv => hv.keep (fun p v hp hc => ?_) fun b hb => ⟨hb.1, hat b (by have := hb.2.2; omega) hb.2.1, by have := hb.2.2; omega⟩) (HV2.out.keep (fun p v hp hc => ?_) fun b hb => ⟨by have := hb.1; have := hbw.size; omega, hat b hb.2 (fun h => ?_), by have := hb.2; omega⟩)
        · exact hka p (by have := hp.2.2; omega) hp.2.1 v (by rw [(bt by1 hb2).cell hp.2.2]; exact hc)
        · exact hka p hp.2 (fun h => by have := hlt0 _ h; have := hp.1; omega) v hc
        · have := hlt0 _ h
          have := hb.1
          omega
      case measure => simp [intOf]; omega
    · have hi1 : ¬ (k : Int) < (N : Int) := by omega
      obtain rfl : k = N := by omega
      go_wp2_with (first | (at_builtin; fail))
      go_ret
      refine ⟨_, rfl, rows', hown, ?_, hbw⟩
      rw [List.take_of_length_le (by rw [hN.out]; exact Nat.le_refl _)] at hVP
      exact vsAtP_map hVP fun x q _ hv => hv.keep (fun _ _ _ h => h) fun b hb => ⟨hb.1, hb.2.2⟩
theorem copy_n (x : Vt) : CopyC x := by
  have : ∀ (n : Nat) (x : Vt), x.ht ≤ n → CopyC x := by
    intro n
    induction n with
    | zero => intro x h; cases x; rw [Vt.ht] at h; omega
    | succ n ih =>
      intro x h
      refine copy_of x fun k b m s t ns l e => copyAll_of l fun y hy => ih y ?_
      subst e
      rw [Vt.ht] at h
      have := Vt.ht_mem hy
      omega
  exact this x.ht x (Nat.le_refl _)
theorem copyAll_n (l : List Vt) : CopyAllC l := copyAll_of l fun x _ => copy_n x
end Go.Proofs.YtmnfmgoolimlmaaDoor
end
section
/- value.Get at a record whose names are as many as its parts. -/
namespace Go.Proofs.YtmnfmgoolimlmaaDoor
set_option linter.unusedSimpArgs false
set_option linter.unusedVariables false
open Go.RowKit
theorem index_w (A : Option Addr) (c : Nat) (ns : List ByteArray) (x : ByteArray) (w : World) (hT : Texts w A ns) (hn : ns.length ≤ 9223372036854775807) :
    Calls Tryd.prog 46 #[.slice A ns.length c, .string x] w fun e w' => e = .returned (.int .i64 (Lib.idxOfS ns x)) ∧ w' = w := by
  cases ns with
  | nil => exact Tryd.slices_Index_string_empty A c x w
  | cons y ys =>
    obtain ⟨b, o, e, hc⟩ := hT.2 (by simp [strs])
    subst e
    have h := Tryd.slices_Index_string b o (y :: ys).length c (y :: ys) x w (Nat.le_refl _) hn (fun j hj => by
      rw [hc j (.string (y :: ys)[j]) (by rw [strs, List.getElem?_map, List.getElem?_eq_getElem hj]; rfl)]
      rw [List.getD_eq_getElem?_getD, List.getElem?_eq_getElem hj]
      rfl)
    rw [List.take_length] at h
    exact h
theorem idx_cases (ns : List ByteArray) (x : ByteArray) : (x ∉ ns ∧ Lib.idxOfS ns x = -1) ∨ ∃ k : Nat, k < ns.length ∧ ns[k]? = some x ∧ Lib.idxOfS ns x = (k : Int) := by
  by_cases hx : x ∈ ns
  · right
    have hex : ∃ k, ns.getD k ByteArray.empty = x ∧ k < ns.length := by
      obtain ⟨k, hk, e⟩ := List.mem_iff_getElem.1 hx
      exact ⟨k, by rw [List.getD_eq_getElem?_getD, List.getElem?_eq_getElem hk]; exact e, hk⟩
    have hmin : ∀ n : Nat, (∃ k, k < n ∧ ns.getD k ByteArray.empty = x ∧ k < ns.length) → ∃ k, (ns.getD k ByteArray.empty = x ∧ k < ns.length) ∧ ∀ j, j < k → ¬ ns.getD j ByteArray.empty = x := by
      intro n
      induction n with
      | zero => rintro ⟨k, hk, _⟩; omega
      | succ n ih =>
        rintro ⟨k, hk, h1, h2⟩
        by_cases h : ∃ k, k < n ∧ ns.getD k ByteArray.empty = x ∧ k < ns.length
        · exact ih h
        · refine ⟨k, ⟨h1, h2⟩, fun j hj e => h ⟨j, by omega, e, by omega⟩⟩
    obtain ⟨k0, h1, h2⟩ := hex
    obtain ⟨k, ⟨h3, h4⟩, h5⟩ := hmin (k0 + 1) ⟨k0, by omega, h1, h2⟩
    refine ⟨k, h4, ?_, ?_⟩
    · rw [List.getD_eq_getElem?_getD, List.getElem?_eq_getElem h4] at h3
      rw [List.getElem?_eq_getElem h4]
      exact congrArg some h3
    · have := Lib.idxOfS_hit ns ns.length k x h4 (Nat.le_refl _) h3 h5
      rw [List.take_length] at this
      exact this
  · left
    refine ⟨hx, ?_⟩
    have := Lib.idxOfS_miss ns ns.length x (fun j hj e => hx (by
      rw [List.getD_eq_getElem?_getD, List.getElem?_eq_getElem hj] at e
      rw [← e]
      exact List.getElem_mem _))
    rw [List.take_length] at this
    exact this
theorem lies_one {w : World} {n : Nat} {rows : List (List Value)} {j : Nat} {r : List Value} {b o : Nat} (hL : Lies w (some ⟨b, o, none⟩) n 7 rows.flatten) (h7 : ∀ r ∈ rows, r.length = 7) (hr : rows[j]? = some r) : Lies w (some ⟨b, o + j * 7, none⟩) 1 7 [r].flatten := by
  refine ⟨by simp [h7 r (List.mem_of_getElem? hr)], fun _ => ⟨b, o + j * 7, rfl, fun i v hi => ?_⟩⟩
  exact cells_of_lies hL h7 hr w (Below.refl _ _) i v (by simpa using hi)
set_option maxRecDepth 100000 in
set_option maxHeartbeats 1000000 in
theorem get_w (b : Bool) (n : Int) (s t x : ByteArray) (ns : List ByteArray) (l : List Vt) (bx : Nat) (r : List Value) (w : World) (hx : VAt w bx (.mk 5 b n s t ns l) r) (hnl : ns.length = l.length) :
    Calls Tryd.prog 19 #[.agg r.toArray, .string x] w fun e w' => Below w.heap.size w w' ∧
      ((x ∉ ns ∧ e = .returned (.tuple #[.agg zeroRow.toArray, .int .i64 8])) ∨ ∃ (k : Nat) (y : Vt) (r' : List Value), ns[k]? = some x ∧ l[k]? = some y ∧ VAt w' w.heap.size y r' ∧ e = .returned (.tuple #[.agg r'.toArray, .int .i64 0])) := by
  rw [VAt] at hx
  obtain ⟨A, ca, B, cb, rows, rfl, hnum, hT, hnz, ⟨hns, -, hls, hcb⟩, -, hL, hV⟩ := hx
  have hns16 : ns.length * 16 ≤ 140737488351232 := hns
  have hls96 : l.length * 96 ≤ 140737488351232 := hls
  obtain ⟨k1, k2, hbw⟩ := box2 w (vRow 5 b n s t (.slice A ns.length ca) (.slice B l.length cb)) zeroRow 37
  obtain ⟨W, HW⟩ := named ((w.alloc (.cells (vRow 5 b n s t (.slice A ns.length ca) (.slice B l.length cb)).toArray 37)).alloc (.cells zeroRow.toArray 37))
  have HW2 : W = (w.alloc (.cells (vRow 5 b n s t (.slice A ns.length ca) (.slice B l.length cb)).toArray 37)).alloc (.cells #[.int .u8 0, .bool false, .int .i64 0, .string ⟨#[]⟩, .string ⟨#[]⟩, .slice none 0 0, .slice none 0 0] 37) := HW.out
  have HW3 := hide HW2
  clear HW2
  have hix := fun u hu => index_w A ca ns x u (hT.below hu) (by omega)
  have HIX := hide hix
  have HNL := hide hnl
  clear hix hT hnl
  go_enter Tryd.func19, Tryd.ntmps19
  go_upto_region 1 with (go_quiet (fail))
  rw [← HW3.out]
  rw [← HW.out] at k1 k2 hbw
  clear HW HW3
  have x0 : W.cell? ⟨w.heap.size, 0, none⟩ = some (.int .u8 5) := k1.cell 0
  have x5 : W.cell? ⟨w.heap.size, 5, none⟩ = some (.slice A ns.length ca) := k1.cell 5
  have x6 : W.cell? ⟨w.heap.size, 6, none⟩ = some (.slice B l.length cb) := k1.cell 6
  have hix := HIX.out W hbw
  rcases idx_cases ns x with ⟨hno, hi⟩ | ⟨k, hk, hnk, hi⟩
  · rw [hi] at hix
    go_wp2_with fail
    refine hix.mono ?_
    rintro e w1 ⟨rfl, rfl⟩
    go_wp2_with (first | refine wpList_store_row rfl 37 _ _ rfl _ zeroRow.toArray rfl rfl 37 zeroRow.toArray k2 (kV7 rfl) rfl (by kernel_rfl) ?_)
    refine bodyPost_ret (vret2 rfl _ rfl (k2.vrow zeroRow) rfl rfl) rfl ⟨below_vrow hbw (by omega) _, .inl ⟨hno, rfl⟩⟩
  · rw [hi] at hix
    have hkl : k < l.length := by rw [← HNL.out]; exact hk
    obtain ⟨y, hy⟩ : ∃ y, l[k]? = some y := ⟨_, List.getElem?_eq_getElem hkl⟩
    obtain ⟨q, hq, hvq⟩ := vsAt_get hV k y hy
    obtain ⟨bb, ob, rfl, -⟩ := hL.2 (fun h0 => by
      have h9 := (vsAt_len hV).2
      rw [h0] at h9
      simp only [List.length_nil] at h9
      omega)
    have hL1 := lies_one hL (vsAt_all7 hV) hq
    have hV1 : VsAt w bx [y] [q] := by rw [VsAt]; exact ⟨q, [], rfl, hvq, by rw [VsAt]⟩
    have hcall := own_n _ [y] rfl bx (some ⟨bb, ob + k * 7, none⟩) (cb - k) [q] W (hL1.below hbw) (hV1.below hbw) (by show 1 * 96 ≤ mLen; decide)
    have hi0 : (0 : Int) ≤ (k : Int) := by omega
    have hi1 : ¬ (k : Int) < 0 := by omega
    have hi2 : (k : Int) < (l.length : Int) := by omega
    have hi3 : ¬ (l.length : Int) ≤ (k : Int) := by omega
    have hi4 : (k : Int) + 1 ≤ (cb : Int) := by omega
    have hcb' : (k : Nat) + 1 ≤ cb := by omega
    obtain ⟨N, hN⟩ := named l.length
    rw [← hN.out] at x6 hi2 hi3 hls96
    clear hV1 hL1 hvq hq hL hV hN hcb hls HNL
    go_wp2_with fail
    refine hix.mono ?_
    rintro e w1 ⟨rfl, rfl⟩
    clear hix HIX
    go_wp2_with fail
    refine hcall.mono ?_
    rintro e w2 ⟨v, rfl, ho, hb2⟩
    rcases ho with ⟨h, -⟩ | ⟨g, cap, vs, rows1, rfl, hg, hk, hcap, hri, hv, -⟩
    · cases h
    · have hv' := hv
      rw [VsAt] at hv'
      obtain ⟨r', rs, e1, hvr, e2⟩ := hv'
      rw [VsAt] at e2
      subst e2 e1
      have hsize := hbw.size
      have hvr2 : VAt w2 w.heap.size y r' := hvr.mono (by omega)
      have hvr3 := hvr
      obtain ⟨kk, bb', nn, ss, tt, ms, pp⟩ := y
      rw [VAt] at hvr3
      obtain ⟨A1, c1, B1, d1, -, rfl, -⟩ := hvr3
      have hld := fun j v h => (hk.cell (0 * 7 + j)).trans (hri 0 _ j v rfl h)
      have l0 : w2.cell? ⟨g, 0, none⟩ = some (.int .u8 (kk : Int)) := hld 0 _ rfl
      have l1 : w2.cell? ⟨g, 1, none⟩ = some (.bool bb') := hld 1 _ rfl
      have l2 : w2.cell? ⟨g, 2, none⟩ = some (.int .i64 nn) := hld 2 _ rfl
      have l3 : w2.cell? ⟨g, 3, none⟩ = some (.string ss) := hld 3 _ rfl
      have l4 : w2.cell? ⟨g, 4, none⟩ = some (.string tt) := hld 4 _ rfl
      have l5 : w2.cell? ⟨g, 5, none⟩ = some (.slice A1 ms.length c1) := hld 5 _ rfl
      have l6 : w2.cell? ⟨g, 6, none⟩ = some (.slice B1 pp.length d1) := hld 6 _ rfl
      have k2' := k2.below hb2
      have hbw2 := bt hbw hb2
      have h1 := vAt_one hvr2
      have HVR := hide hvr
      have hkW := k2.lt
      have hlen1 : (([Vt.mk kk bb' nn ss tt ms pp].length : Nat) : Int) = 1 := rfl
      clear hld hri hvr hv k1 k2 hcall hk
      go_wp2_with (first | refine wpList_store_row rfl 37 _ _ rfl _ (vRow kk bb' nn ss tt (.slice A1 ms.length c1) (.slice B1 pp.length d1)).toArray rfl rfl 37 zeroRow.toArray k2' (kV7 rfl) rfl (all_one h1) ?_)
      refine bodyPost_ret (vret2 rfl _ rfl (k2'.vrow (vRow kk bb' nn ss tt (.slice A1 ms.length c1) (.slice B1 pp.length d1))) rfl rfl) rfl ⟨below_vrow hbw2 (by omega) _, .inr ⟨k, _, _, hnk, hy, ?_, rfl⟩⟩
      have hgW : w.heap.size + 1 < g := Nat.lt_of_lt_of_le hkW hg
      refine (HVR.out.toP.keep (fun p v hp hc => ?_) (fun _ h => h)).of (fun b hb => by have h9 : g + 1 ≤ b := hb; omega)
      unfold World.cell? at hc ⊢
      rw [vrow_far w2 (w.heap.size + 1) p.block _ (by have h9 : g + 1 ≤ p.block := hp; omega)]
      exact hc
end Go.Proofs.YtmnfmgoolimlmaaDoor
end
