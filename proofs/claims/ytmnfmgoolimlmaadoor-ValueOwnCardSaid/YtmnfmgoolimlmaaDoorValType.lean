/- value.TypeName. -/
import Derived.Test.YtmnfmgoolimlmaaDoorValName
namespace Go.Proofs.YtmnfmgoolimlmaaDoor
set_option linter.unusedSimpArgs false
set_option linter.unusedVariables false
open Go.RowKit
/-- The tables that package variables hold. -/
structure Tb (w : World) : Prop where
  space : SpaceTab w
  max : ∃ m, w.cell? ⟨4, 0, none⟩ = some (.int .i64 m)
  u8 : Lib.Utf8Tabs 1 2 w
theorem gSpace : Tryd.prog.globalNamed "strings.asciiSpace" = some 0 := by kernel_rfl
theorem cell_below {w w' : World} {a : Addr} {v : Value} (h : w.cell? a = some v) (hb : Below w.heap.size w w') : w'.cell? a = some v := by
  rw [hb.cell (World.block_lt_of_cell? w _ h)]
  exact h
theorem space_below {w w' : World} (h : SpaceTab w) (hb : Below w.heap.size w w') : SpaceTab w' := by
  unfold SpaceTab Lib.TabIs World.var? at h ⊢
  rw [gSpace] at h ⊢
  simp only [Option.bind_some] at h ⊢
  have hlt : 0 < w.heap.size := by
    rcases Nat.lt_or_ge 0 w.heap.size with h' | h'
    · exact h'
    · rw [Array.getElem?_eq_none h'] at h; simp at h
  rw [hb.block _ hlt]
  exact h
theorem Tb.below {w w' : World} (h : Tb w) (hb : Below w.heap.size w w') : Tb w' :=
  ⟨space_below h.space hb, by obtain ⟨m, hm⟩ := h.max; exact ⟨m, cell_below hm hb⟩,
    fun c hc => cell_below (h.u8.1 c hc) hb, fun i hi => ⟨cell_below (h.u8.2 i hi).1 hb, cell_below (h.u8.2 i hi).2 hb⟩⟩
set_option maxRecDepth 100000 in
theorem noName_w (s : ByteArray) (w : World) (hs : s.size ≤ 140737488351232) (htab : SpaceTab w) :
    Calls Tryd.prog 23 #[.string s] w fun e w' => e = .returned (.bool (!nameL s.data.toList)) ∧ Below w.heap.size w w' := by
  have h1 := name_w s w hs htab
  obtain ⟨d, hd⟩ := named (nameL s.data.toList)
  rw [← hd.out] at h1 ⊢
  clear hd
  go_enter Tryd.func23, Tryd.ntmps23
  go_wp2_with fail
  refine h1.mono ?_
  rintro e w1 ⟨rfl, hb⟩
  go_wp2_with fail
  go_ret
  exact ⟨rfl, hb⟩
def noN (s : ByteArray) : Bool := !nameL s.data.toList
theorem anyn_hit {l : List ByteArray} {k : Nat} {x : ByteArray} (h : l[k]? = some x) (hx : noN x = true) : l.any noN = true := List.any_eq_true.2 ⟨x, List.mem_of_getElem? h, hx⟩
theorem anyn_none {l : List ByteArray} (h : ∀ j < l.length, ∀ x, l[j]? = some x → noN x = false) : l.any noN = false := by
  rw [List.any_eq_false]
  intro x hx
  obtain ⟨j, hj, e⟩ := List.mem_iff_getElem.1 hx
  rw [h j hj x (by rw [← e]; exact List.getElem?_eq_getElem hj)]
  exact Bool.false_ne_true
set_option maxRecDepth 100000 in
set_option maxHeartbeats 400000 in
theorem idxStrs_w (l : List ByteArray) (w : World) (b c : Nat) (hl : l.length ≤ 140737488351232) (hsz : ∀ x ∈ l, x.size ≤ 140737488351232) (htab : SpaceTab w) (hc : ∀ j x, l[j]? = some x → w.cell? ⟨b, j, none⟩ = some (.string x)) :
    Calls Tryd.prog 48 #[.slice (some ⟨b, 0, none⟩) l.length c, .func (.func 23) #[] #[]] w fun e w' => (∃ i : Int, e = .returned (.int .i64 i) ∧ decide (0 ≤ i) = l.any noN) ∧ Below w.heap.size w w' := by
  have eg : ∀ args w, (callFunc 23 args).run Tryd.prog w = .ok (.enter 23 args) w := fun _ _ => by kernel_rfl
  go_enter Tryd.func48, Tryd.ntmps48
  go_wp2
  go_loopw [5, 8] (fun _ i wr => ∃ k : Nat, k ≤ l.length ∧ i = .int .i64 k ∧ (∀ j < k, ∀ x, l[j]? = some x → noN x = false) ∧ Below w.heap.size w wr) (fun _ i _ => l.length - (intOf i).toNat)
  case atStart => exact ⟨0, by omega, rfl, fun j hj => absurd hj (by omega), Below.refl _ _⟩
  case round =>
    obtain ⟨k, hk, rfl, hno, hbw⟩ := hrel
    by_cases hlt : k < l.length
    · have hi0 : (0 : Int) ≤ (k : Int) := by omega
      have hi1 : (k : Int) < (l.length : Int) := by omega
      obtain ⟨x, hx⟩ : ∃ x, l[k]? = some x := ⟨l[k], List.getElem?_eq_getElem hlt⟩
      have hcell := cell_below (hc k x hx) hbw
      have hx2 := fun (W : World) (hW : Below w.heap.size w W) => noName_w x W (hsz x (List.mem_of_getElem? hx)) (space_below htab hW)
      have hq0 : noN x = !nameL x.data.toList := rfl
      have HX := hide hx
      clear hx hc
      rw [← hq0] at hx2
      clear hq0
      cases hq : noN x with
      | true =>
        rw [hq] at hx2
        go_wp2_with (go_at_fn 23; refine (hx2 _ hbw).mono ?_; rintro e w1 ⟨rfl, hb⟩)
        go_ret
        exact ⟨⟨_, rfl, by rw [anyn_hit HX.out hq]; exact decide_eq_true hi0⟩, hbw.trans (hb.mono hbw.size)⟩
      | false =>
        rw [hq] at hx2
        go_wp2_with (go_at_fn 23; refine (hx2 _ hbw).mono ?_; rintro e w1 ⟨rfl, hb⟩)
        go_roundw
        case rel =>
          refine ⟨k + 1, by omega, by go_num, fun j hj y hy => ?_, hbw.trans (hb.mono hbw.size)⟩
          by_cases e : j = k
          · subst e; have hx := HX.out; rw [hx] at hy; cases hy; exact hq
          · exact hno j (by omega) y hy
        case measure => simp [intOf]; omega
    · have hk2 : k = l.length := by omega
      have hi1 : ¬ (k : Int) < (l.length : Int) := by omega
      go_wp2_with (go_quiet (fail))
      go_ret
      exact ⟨⟨_, rfl, by rw [anyn_none (by rw [← hk2]; exact hno)]; rfl⟩, hbw⟩
set_option maxRecDepth 100000 in
theorem hasStrs_w (l : List ByteArray) (w : World) (b c : Nat) (hl : l.length ≤ 140737488351232) (hsz : ∀ x ∈ l, x.size ≤ 140737488351232) (htab : SpaceTab w) (hc : ∀ j x, l[j]? = some x → w.cell? ⟨b, j, none⟩ = some (.string x)) :
    Calls Tryd.prog 21 #[.slice (some ⟨b, 0, none⟩) l.length c, .func (.func 23) #[] #[]] w fun e w' => e = .returned (.bool (l.any noN)) ∧ Below w.heap.size w w' := by
  have h1 := idxStrs_w l w b c hl hsz htab hc
  obtain ⟨d, hd⟩ := named (l.any noN)
  rw [← hd.out] at h1 ⊢
  clear hd
  go_enter Tryd.func21, Tryd.ntmps21
  go_wp2_with fail
  refine h1.mono ?_
  rintro e w1 ⟨⟨i, rfl, hi⟩, hb⟩
  cases d with
  | true =>
    have h0 : (0 : Int) ≤ i := of_decide_eq_true hi
    go_wp2_with fail
    go_ret
    exact ⟨rfl, hb⟩
  | false =>
    have h0 : ¬ (0 : Int) ≤ i := of_decide_eq_false hi
    go_wp2_with fail
    go_ret
    exact ⟨rfl, hb⟩
/-- The pieces of a text between '::'. -/
def pieces (s : ByteArray) : List ByteArray := Lib.splitB ⟨#[58, 58]⟩ 0 (Lib.countB s ⟨#[58, 58]⟩) s
theorem pieces_data (s : ByteArray) : (pieces s).map (·.data.toList) = pcs [] s.data.toList := by
  unfold pieces
  rw [Lib.splitB_data, ← split_pcs _ _ (Nat.le_refl _)]
  rfl
theorem pieces_any (s : ByteArray) : (pieces s).any noN = !(pcs [] s.data.toList).all nameL := by
  rw [← pieces_data, List.all_map, List.not_all_eq_any_not]
  rfl
theorem pieces_len (s : ByteArray) : (pieces s).length = Lib.countB s ⟨#[58, 58]⟩ + 1 := Lib.splitB_all ⟨#[58, 58]⟩ (by decide) 0 _ s rfl
theorem pcs_small : ∀ (n : Nat) (l acc : List UInt8), l.length ≤ n → ∀ p ∈ pcs acc l, p.length ≤ acc.length + l.length := by
  intro n
  induction n with
  | zero =>
    intro l acc h p hp
    have : l = [] := List.eq_nil_of_length_eq_zero (by omega)
    subst this
    rw [pcs_nil] at hp
    simp at hp
    simp [hp]
  | succ n ih =>
    intro l acc h p hp
    match l, h, hp with
    | [], _, hp => rw [pcs_nil] at hp; simp at hp; simp [hp]
    | [b], _, hp => rw [pcs] at hp; simp at hp; simp [hp]
    | b :: c :: r, h, hp =>
      simp only [List.length_cons] at h
      rw [pcs] at hp
      split at hp
      · rcases List.mem_cons.1 hp with rfl | hp
        · simp
        · have := ih r [] (by omega) p hp
          simp at this ⊢
          omega
      · have := ih (c :: r) (acc ++ [b]) (by simp; omega) p hp
        simp at this ⊢
        omega
theorem pieces_small (s : ByteArray) : ∀ x ∈ pieces s, x.size ≤ s.size := by
  intro x hx
  have h : x.data.toList ∈ pcs [] s.data.toList := by
    rw [← pieces_data]
    exact List.mem_map.2 ⟨x, hx, rfl⟩
  have := pcs_small _ _ _ (Nat.le_refl _) _ h
  rw [← Lib.size_eq, ← Lib.size_eq] at this
  simpa using this
set_option maxRecDepth 100000 in
set_option maxHeartbeats 400000 in
theorem type_w (s : ByteArray) (w : World) (hs : s.size ≤ 140737488351232) (htab : Tb w) :
    Calls Tryd.prog 7 #[.string s] w fun e w' => e = .returned (.bool (typeL s.data.toList)) ∧ Below w.heap.size w w' := by
  have hR : typeL s.data.toList = (decide (s.size ≤ 64) && !(pieces s).any noN) := by
    rw [pieces_any]
    unfold typeL
    rw [← Lib.size_eq]
    simp
  obtain ⟨R, HR⟩ := named (typeL s.data.toList)
  rw [← HR.out] at hR ⊢
  have HR2 := hide hR
  clear HR hR
  by_cases hl : s.size ≤ 64
  · obtain ⟨m, hm⟩ := htab.max
    have hsp := Tryd.strings_Split s ⟨#[58, 58]⟩ m w (by omega) hm (by decide)
    rw [← pieces_len] at hsp
    rw [show Lib.splitB ⟨#[58, 58]⟩ 0 (Lib.countB s ⟨#[58, 58]⟩) s = pieces s from rfl] at hsp
    have hN : (pieces s).length ≤ 140737488351232 := by
      rw [pieces_len]
      have := Lib.countB_le ⟨#[58, 58]⟩ (by decide) s.size s (Nat.le_refl _)
      omega
    have hbel := below_alloc w (.cells ((pieces s).map Value.string).toArray 9)
    have hcells : ∀ j x, (pieces s)[j]? = some x → (w.alloc (.cells ((pieces s).map Value.string).toArray 9)).cell? ⟨w.heap.size, j, none⟩ = some (.string x) := fun j x h => by
      rw [(Blk.new w ((pieces s).map Value.string) 9).cell]
      simp [h]
    obtain ⟨W, HW⟩ := named (w.alloc (.cells ((pieces s).map Value.string).toArray 9))
    rw [← HW.out] at hbel hsp hcells
    have hhas := hasStrs_w (pieces s) W w.heap.size (pieces s).length hN (fun x hx => Nat.le_trans (pieces_small s x hx) hs) (space_below htab.space hbel) hcells
    obtain ⟨d, hd⟩ := named ((pieces s).any noN)
    rw [← hd.out] at hhas HR2
    clear HW hcells hN hm htab hd
    obtain ⟨n, hn⟩ := named (pieces s).length
    rw [← hn.out] at hsp hhas
    clear hn
    have hl2 : (s.size : Int) ≤ 64 := by omega
    rw [decide_eq_true hl] at HR2
    clear hl
    go_enter Tryd.func7, Tryd.ntmps7
    go_wp2_with (go_quiet (fail))
    refine hsp.mono ?_
    rintro e w1 ⟨rfl, rfl⟩
    clear hsp
    go_wp2_with (go_quiet (fail))
    refine hhas.mono ?_
    rintro e w2 ⟨rfl, hb⟩
    clear hhas
    go_wp2_with (go_quiet (fail))
    go_ret
    refine ⟨?_, hbel.trans (hb.mono hbel.size)⟩
    rw [HR2.out]
    rfl
  · have hl2 : ¬ (s.size : Int) ≤ 64 := by omega
    rw [decide_eq_false hl] at HR2
    clear hl
    go_enter Tryd.func7, Tryd.ntmps7
    go_wp2_with (go_quiet (fail))
    go_ret
    refine ⟨?_, Below.refl _ _⟩
    rw [HR2.out]
    rfl
end Go.Proofs.YtmnfmgoolimlmaaDoor
