/- value.own at numbers. -/
import Derived.Test.YtmnfmgoolimlmaaDoorVOwn1
namespace Go.Proofs.YtmnfmgoolimlmaaDoor
set_option linter.unusedSimpArgs false
set_option linter.unusedVariables false
open Go.RowKit
/-- A cell that is written with what it holds. -/
theorem Blk.keep {w : World} {g i : Nat} {vs : List Value} {t : TypeId} {x : Value} (h : Blk w g vs t) (hx : vs[i]? = some x) : Blk (w.setCell ⟨g, i, none⟩ x) g vs t := by
  have h2 := h.set i x
  have e : vs.set i x = vs := by
    apply List.ext_getElem?
    intro j
    rw [List.getElem?_set]
    by_cases hj : i = j
    · subst hj
      have := (List.getElem?_eq_some_iff.1 hx).1
      simp only [this, if_true]
      exact hx.symm
    · simp [hj]
  rw [e] at h2
  exact h2
theorem own_open {W : World} {base n size : Nat} {e : TypeId} {v : Value} {xs : List Value} (h : W.ownsRow base e size v n xs) (hv : v ≠ .slice none 0 0) :
    ∃ (g cap : Nat) (vs : List Value), v = .slice (some ⟨g, 0, none⟩) n cap ∧ base ≤ g ∧ Blk W g vs e ∧ (∀ (j : Nat) (x : Value), xs[j]? = some x → vs[j]? = some x) ∧ n ≤ cap ∧ vs.length = cap * size := by
  rcases h.2 with ⟨h', _⟩ | ⟨g, cap, cur, hv', hb, hh, hn, hm, hs, hc⟩
  · exact absurd h' hv
  · refine ⟨g, cap, cur.toList, hv', hb, hh, fun j x hj => ?_, hn, ?_⟩
    · rw [← hc, List.getElem?_take] at hj
      split at hj
      · exact hj
      · cases hj
    · simp [hs]
set_option maxRecDepth 100000 in
set_option maxHeartbeats 4000000 in
theorem ownLong_w (l : List Int) (b c : Nat) (w : World) (hl : l.length * 96 ≤ 140737488351232) (hc : ∀ j v, (longCells l)[j]? = some v → w.cell? ⟨b, j, none⟩ = some v) :
    Calls Tryd.prog 39 #[.slice (some ⟨b, 0, none⟩) l.length c] w fun e w' => ∃ (g cap : Nat) (vs : List Value), e = .returned (.slice (some ⟨g, 0, none⟩) l.length cap) ∧ w.heap.size ≤ g ∧ Blk w' g vs 37 ∧ (∀ (j : Nat) (x : Value), (longCells l)[j]? = some x → vs[j]? = some x) ∧ l.length ≤ cap ∧ Below w.heap.size w w' := by
  have h0 := cloneV_w b c l.length (longCells l) w (longCells_len l) hl hc (longCells_one l)
  have hcl := fun W => Tryd.slices_Clone_string_nil 0 0 W
  have hown := ownNil_w
  have hN : ∀ k < l.length, ∀ j < 2, (longCells l)[k * 7 + (5 + j)]? = some (.slice none 0 0) := fun k hk j hj => by
    refine longCells_at l k (5 + j) l[k] _ (List.getElem?_eq_getElem hk) ?_
    rcases (show j = 0 ∨ j = 1 by omega) with rfl | rfl <;> rfl
  have hlen : l.length ≤ 1466015503701 := by omega
  obtain ⟨n, hn⟩ := named l.length
  rw [← hn.out] at h0 hN hlen ⊢
  clear hc hl hn
  go_enter Tryd.func39, Tryd.ntmps39
  go_wp2_with fail
  refine h0.mono ?_
  rintro e w1 ⟨v, rfl, hown1, hne, hbw⟩
  obtain ⟨g, cap, vs, rfl, hg, hk1, hvs, hcap, -⟩ := own_open hown1 hne
  have hN5 : ∀ k < n, vs[k * 7 + 5]? = some (.slice none 0 0) := fun k hk => hvs _ _ (hN k hk 0 (by omega))
  have hN6 : ∀ k < n, vs[k * 7 + 6]? = some (.slice none 0 0) := fun k hk => hvs _ _ (hN k hk 1 (by omega))
  clear h0 hN hown1 hne
  have HV := hide hvs
  have H5 := hide hN5
  have H6 := hide hN6
  clear hvs hN5 hN6
  go_wp2_with (first | (at_builtin; fail))
  go_loopw [8] (fun i wr => ∃ k : Nat, k ≤ n ∧ i = .int .i64 k ∧ Blk wr g vs 37 ∧ Below w.heap.size w wr) (fun i _ => n - (intOf i).toNat)
  case atStart => exact ⟨0, by omega, rfl, hk1, hbw⟩
  case round =>
    clear hk1 hbw
    obtain ⟨k, hk, rfl, hk1, hbw⟩ := hrel
    by_cases hlt : k < n
    · have hi0 : (0 : Int) ≤ (k : Int) := by omega
      have hi1 : (k : Int) < (n : Int) := by omega
      have h5 := H5.out k hlt
      have h6 := H6.out k hlt
      go_upto_region 5 with (go_quiet (fail))
      refine region_flat _ (fun u => Blk u g vs 37 ∧ Below w.heap.size w u) (fun _ _ => True)
        (rel [fun v _ => v = .slice (some ⟨g, 0, none⟩) n cap,
          fun v _ => v = .int .i64 (k : Int),
          fun v _ => v = .slice (some ⟨g, 0, none⟩) n cap,
          fun v _ => v = .int .i64 (k : Int),
          fun v _ => v = .slice (some ⟨g, 0, none⟩) n cap,
          fun v _ => v = .int .i64 (k : Int),
          fun v _ => v = .pointer (some ⟨g, k * 7, none⟩),
          fun v _ => v = .pointer (some ⟨g, k * 7 + 5, none⟩),
          fun v _ => v = .slice none 0 0,
          fun v _ => v = .slice none 0 0,
          fun v _ => v = .slice (some ⟨g, 0, none⟩) n cap,
          fun v _ => v = .int .i64 (k : Int),
          fun v _ => v = .pointer (some ⟨g, k * 7, none⟩),
          fun v _ => v = .pointer (some ⟨g, k * 7 + 6, none⟩),
          fun v _ => v = .slice none 0 0,
          fun v _ => v = .slice none 0 0,
          fun v _ => v = .pointer (some ⟨g, k * 7, none⟩),
          fun v _ => v = .pointer (some ⟨g, k * 7 + 5, none⟩),
          fun _ _ => True,
          fun v _ => v = .pointer (some ⟨g, k * 7, none⟩),
          fun v _ => v = .pointer (some ⟨g, k * 7 + 6, none⟩),
          fun _ _ => True])
        (by kernel_rfl) (by kernel_rfl) (fun v => by simp only [putsV, Act.put, List.toList_toArray, List.setIfInBounds_toArray, List.set_cons_zero, List.set_cons_succ, Nat.reduceAdd, Nat.zero_add]; rfl) ?_ ⟨hk1, hbw.drew⟩ ?_ ?_
      · intro j x u u' hb h
        match j with
        | 0 => exact h
        | 1 => exact h
        | 2 => exact h
        | 3 => exact h
        | 4 => exact h
        | 5 => exact h
        | 6 => exact h
        | 7 => exact h
        | 8 => exact h
        | 9 => exact h
        | 10 => exact h
        | 11 => exact h
        | 12 => exact h
        | 13 => exact h
        | 14 => exact h
        | 15 => exact h
        | 16 => exact h
        | 17 => exact h
        | 18 => exact h
        | 19 => exact h
        | 20 => exact h
        | 21 => exact h
        | _ + 22 => trivial
      · refine ⟨?_, ?_, ?_, ?_, ?_, ?_, ?_, ?_, ?_, ?_, ?_, ?_, ?_, ?_, ?_, ?_, ?_, ?_, ?_, ?_, ?_, ?_, trivial⟩
        · intro v u hS hd K' hK
          simp only [waited, List.toList_toArray, Region.binds, rel, List.getD_cons_zero, List.getD_cons_succ, true_imp_iff, and_true] at hd
          simp only [rel, List.getD_cons_zero, List.getD_cons_succ, Act.put, List.setIfInBounds_toArray, List.set_cons_zero, List.set_cons_succ] at hK
          try simp only [hd] at hK
          obtain ⟨hS1, hS2⟩ := hS
          go_simp
          exact hK.out _ _ ⟨⟨hS1, hS2⟩, trivial, rfl⟩
        · intro v u hS hd K' hK
          simp only [waited, List.toList_toArray, Region.binds, rel, List.getD_cons_zero, List.getD_cons_succ, true_imp_iff, and_true] at hd
          simp only [rel, List.getD_cons_zero, List.getD_cons_succ, Act.put, List.setIfInBounds_toArray, List.set_cons_zero, List.set_cons_succ] at hK
          try simp only [hd] at hK
          obtain ⟨hS1, hS2⟩ := hS
          go_simp
          exact hK.out _ _ ⟨⟨hS1, hS2⟩, trivial, rfl⟩
        · intro v u hS hd K' hK
          simp only [waited, List.toList_toArray, Region.binds, rel, List.getD_cons_zero, List.getD_cons_succ, true_imp_iff, and_true] at hd
          simp only [rel, List.getD_cons_zero, List.getD_cons_succ, Act.put, List.setIfInBounds_toArray, List.set_cons_zero, List.set_cons_succ] at hK
          try simp only [hd] at hK
          obtain ⟨hS1, hS2⟩ := hS
          go_simp
          exact hK.out _ _ ⟨⟨hS1, hS2⟩, trivial, rfl⟩
        · intro v u hS hd K' hK
          simp only [waited, List.toList_toArray, Region.binds, rel, List.getD_cons_zero, List.getD_cons_succ, true_imp_iff, and_true] at hd
          simp only [rel, List.getD_cons_zero, List.getD_cons_succ, Act.put, List.setIfInBounds_toArray, List.set_cons_zero, List.set_cons_succ] at hK
          try simp only [hd] at hK
          obtain ⟨hS1, hS2⟩ := hS
          go_simp
          exact hK.out _ _ ⟨⟨hS1, hS2⟩, trivial, rfl⟩
        · intro v u hS hd K' hK
          simp only [waited, List.toList_toArray, Region.binds, rel, List.getD_cons_zero, List.getD_cons_succ, true_imp_iff, and_true] at hd
          simp only [rel, List.getD_cons_zero, List.getD_cons_succ, Act.put, List.setIfInBounds_toArray, List.set_cons_zero, List.set_cons_succ] at hK
          try simp only [hd] at hK
          obtain ⟨hS1, hS2⟩ := hS
          go_simp
          exact hK.out _ _ ⟨⟨hS1, hS2⟩, trivial, rfl⟩
        · intro v u hS hd K' hK
          simp only [waited, List.toList_toArray, Region.binds, rel, List.getD_cons_zero, List.getD_cons_succ, true_imp_iff, and_true] at hd
          simp only [rel, List.getD_cons_zero, List.getD_cons_succ, Act.put, List.setIfInBounds_toArray, List.set_cons_zero, List.set_cons_succ] at hK
          try simp only [hd] at hK
          obtain ⟨hS1, hS2⟩ := hS
          go_simp
          exact hK.out _ _ ⟨⟨hS1, hS2⟩, trivial, rfl⟩
        · intro v u hS hd K' hK
          simp only [waited, List.toList_toArray, Region.binds, rel, List.getD_cons_zero, List.getD_cons_succ, true_imp_iff, and_true] at hd
          simp only [rel, List.getD_cons_zero, List.getD_cons_succ, Act.put, List.setIfInBounds_toArray, List.set_cons_zero, List.set_cons_succ] at hK
          try simp only [hd] at hK
          obtain ⟨hS1, hS2⟩ := hS
          go_simp
          exact hK.out _ _ ⟨⟨hS1, hS2⟩, trivial, rfl⟩
        · intro v u hS hd K' hK
          simp only [waited, List.toList_toArray, Region.binds, rel, List.getD_cons_zero, List.getD_cons_succ, true_imp_iff, and_true] at hd
          simp only [rel, List.getD_cons_zero, List.getD_cons_succ, Act.put, List.setIfInBounds_toArray, List.set_cons_zero, List.set_cons_succ] at hK
          try simp only [hd] at hK
          obtain ⟨hS1, hS2⟩ := hS
          go_simp
          exact hK.out _ _ ⟨⟨hS1, hS2⟩, trivial, rfl⟩
        · intro v u hS hd K' hK
          simp only [waited, List.toList_toArray, Region.binds, rel, List.getD_cons_zero, List.getD_cons_succ, true_imp_iff, and_true] at hd
          simp only [rel, List.getD_cons_zero, List.getD_cons_succ, Act.put, List.setIfInBounds_toArray, List.set_cons_zero, List.set_cons_succ] at hK
          try simp only [hd] at hK
          obtain ⟨hS1, hS2⟩ := hS
          have x0 : u.cell? ⟨g, k * 7 + 5, none⟩ = some (.slice none 0 0) := (hS1.cell _).trans h5
          go_simp
          exact hK.out _ _ ⟨⟨hS1, hS2⟩, trivial, rfl⟩
        · intro v u hS hd K' hK
          simp only [waited, List.toList_toArray, Region.binds, rel, List.getD_cons_zero, List.getD_cons_succ, true_imp_iff, and_true] at hd
          simp only [rel, List.getD_cons_zero, List.getD_cons_succ, Act.put, List.setIfInBounds_toArray, List.set_cons_zero, List.set_cons_succ] at hK
          try simp only [hd] at hK
          obtain ⟨hS1, hS2⟩ := hS
          go_simp
          refine (hcl _).mono ?_
          rintro e w2 ⟨rfl, rfl⟩
          exact hK.out _ _ ⟨⟨hS1, hS2⟩, trivial, rfl⟩
        · intro v u hS hd K' hK
          simp only [waited, List.toList_toArray, Region.binds, rel, List.getD_cons_zero, List.getD_cons_succ, true_imp_iff, and_true] at hd
          simp only [rel, List.getD_cons_zero, List.getD_cons_succ, Act.put, List.setIfInBounds_toArray, List.set_cons_zero, List.set_cons_succ] at hK
          try simp only [hd] at hK
          obtain ⟨hS1, hS2⟩ := hS
          go_simp
          exact hK.out _ _ ⟨⟨hS1, hS2⟩, trivial, rfl⟩
        · intro v u hS hd K' hK
          simp only [waited, List.toList_toArray, Region.binds, rel, List.getD_cons_zero, List.getD_cons_succ, true_imp_iff, and_true] at hd
          simp only [rel, List.getD_cons_zero, List.getD_cons_succ, Act.put, List.setIfInBounds_toArray, List.set_cons_zero, List.set_cons_succ] at hK
          try simp only [hd] at hK
          obtain ⟨hS1, hS2⟩ := hS
          go_simp
          exact hK.out _ _ ⟨⟨hS1, hS2⟩, trivial, rfl⟩
        · intro v u hS hd K' hK
          simp only [waited, List.toList_toArray, Region.binds, rel, List.getD_cons_zero, List.getD_cons_succ, true_imp_iff, and_true] at hd
          simp only [rel, List.getD_cons_zero, List.getD_cons_succ, Act.put, List.setIfInBounds_toArray, List.set_cons_zero, List.set_cons_succ] at hK
          try simp only [hd] at hK
          obtain ⟨hS1, hS2⟩ := hS
          go_simp
          exact hK.out _ _ ⟨⟨hS1, hS2⟩, trivial, rfl⟩
        · intro v u hS hd K' hK
          simp only [waited, List.toList_toArray, Region.binds, rel, List.getD_cons_zero, List.getD_cons_succ, true_imp_iff, and_true] at hd
          simp only [rel, List.getD_cons_zero, List.getD_cons_succ, Act.put, List.setIfInBounds_toArray, List.set_cons_zero, List.set_cons_succ] at hK
          try simp only [hd] at hK
          obtain ⟨hS1, hS2⟩ := hS
          go_simp
          exact hK.out _ _ ⟨⟨hS1, hS2⟩, trivial, rfl⟩
        · intro v u hS hd K' hK
          simp only [waited, List.toList_toArray, Region.binds, rel, List.getD_cons_zero, List.getD_cons_succ, true_imp_iff, and_true] at hd
          simp only [rel, List.getD_cons_zero, List.getD_cons_succ, Act.put, List.setIfInBounds_toArray, List.set_cons_zero, List.set_cons_succ] at hK
          try simp only [hd] at hK
          obtain ⟨hS1, hS2⟩ := hS
          have x0 : u.cell? ⟨g, k * 7 + 6, none⟩ = some (.slice none 0 0) := (hS1.cell _).trans h6
          go_simp
          exact hK.out _ _ ⟨⟨hS1, hS2⟩, trivial, rfl⟩
        · intro v u hS hd K' hK
          simp only [waited, List.toList_toArray, Region.binds, rel, List.getD_cons_zero, List.getD_cons_succ, true_imp_iff, and_true] at hd
          simp only [rel, List.getD_cons_zero, List.getD_cons_succ, Act.put, List.setIfInBounds_toArray, List.set_cons_zero, List.set_cons_succ] at hK
          try simp only [hd] at hK
          obtain ⟨hS1, hS2⟩ := hS
          go_simp
          refine (hown _).mono ?_
          rintro e w2 ⟨rfl, rfl⟩
          exact hK.out _ _ ⟨⟨hS1, hS2⟩, trivial, rfl⟩
        · intro v u hS hd K' hK
          simp only [waited, List.toList_toArray, Region.binds, rel, List.getD_cons_zero, List.getD_cons_succ, true_imp_iff, and_true] at hd
          simp only [rel, List.getD_cons_zero, List.getD_cons_succ, Act.put, List.setIfInBounds_toArray, List.set_cons_zero, List.set_cons_succ] at hK
          try simp only [hd] at hK
          obtain ⟨hS1, hS2⟩ := hS
          go_simp
          exact hK.out _ _ ⟨⟨hS1, hS2⟩, trivial, rfl⟩
        · intro v u hS hd K' hK
          simp only [waited, List.toList_toArray, Region.binds, rel, List.getD_cons_zero, List.getD_cons_succ, true_imp_iff, and_true] at hd
          simp only [rel, List.getD_cons_zero, List.getD_cons_succ, Act.put, List.setIfInBounds_toArray, List.set_cons_zero, List.set_cons_succ] at hK
          try simp only [hd] at hK
          obtain ⟨hS1, hS2⟩ := hS
          go_simp
          exact hK.out _ _ ⟨⟨hS1, hS2⟩, trivial, rfl⟩
        · intro v u hS hd K' hK
          simp only [waited, List.toList_toArray, Region.binds, rel, List.getD_cons_zero, List.getD_cons_succ, true_imp_iff, and_true] at hd
          simp only [rel, List.getD_cons_zero, List.getD_cons_succ, Act.put, List.setIfInBounds_toArray, List.set_cons_zero, List.set_cons_succ] at hK
          try simp only [hd] at hK
          obtain ⟨hS1, hS2⟩ := hS
          have x0 : u.cell? ⟨g, k * 7 + 5, none⟩ = some (.slice none 0 0) := (hS1.cell _).trans h5
          have z0 := hS1.free (k * 7 + 5)
          go_simp
          exact hK.out undef _ ⟨⟨hS1.keep h5, hS2.setCell (p := ⟨g, k * 7 + 5, none⟩) hg _⟩, trivial, trivial⟩
        · intro v u hS hd K' hK
          simp only [waited, List.toList_toArray, Region.binds, rel, List.getD_cons_zero, List.getD_cons_succ, true_imp_iff, and_true] at hd
          simp only [rel, List.getD_cons_zero, List.getD_cons_succ, Act.put, List.setIfInBounds_toArray, List.set_cons_zero, List.set_cons_succ] at hK
          try simp only [hd] at hK
          obtain ⟨hS1, hS2⟩ := hS
          go_simp
          exact hK.out _ _ ⟨⟨hS1, hS2⟩, trivial, rfl⟩
        · intro v u hS hd K' hK
          simp only [waited, List.toList_toArray, Region.binds, rel, List.getD_cons_zero, List.getD_cons_succ, true_imp_iff, and_true] at hd
          simp only [rel, List.getD_cons_zero, List.getD_cons_succ, Act.put, List.setIfInBounds_toArray, List.set_cons_zero, List.set_cons_succ] at hK
          try simp only [hd] at hK
          obtain ⟨hS1, hS2⟩ := hS
          go_simp
          exact hK.out _ _ ⟨⟨hS1, hS2⟩, trivial, rfl⟩
        · intro v u hS hd K' hK
          simp only [waited, List.toList_toArray, Region.binds, rel, List.getD_cons_zero, List.getD_cons_succ, true_imp_iff, and_true] at hd
          simp only [rel, List.getD_cons_zero, List.getD_cons_succ, Act.put, List.setIfInBounds_toArray, List.set_cons_zero, List.set_cons_succ] at hK
          try simp only [hd] at hK
          obtain ⟨hS1, hS2⟩ := hS
          have x0 : u.cell? ⟨g, k * 7 + 6, none⟩ = some (.slice none 0 0) := (hS1.cell _).trans h6
          have z0 := hS1.free (k * 7 + 6)
          go_simp
          exact hK.out undef _ ⟨⟨hS1.keep h6, hS2.setCell (p := ⟨g, k * 7 + 6, none⟩) hg _⟩, trivial, trivial⟩
      · rintro v u ⟨hS1, hS2⟩ hR
        simp only [holdAll, List.size_toArray, List.length_cons, List.length_nil, Nat.reduceAdd, rel, List.getD_cons_zero, List.getD_cons_succ] at hR
        clear hR
        go_wp2_with (go_quiet (fail))
        go_roundw
        case rel => exact ⟨k + 1, by omega, by go_num, hS1, hS2⟩
        case measure => simp [intOf]; omega
    · have hi1 : ¬ (k : Int) < (n : Int) := by omega
      go_wp2_with (first | (at_builtin; fail))
      go_ret
      exact ⟨g, cap, rfl, hg, vs, hk1, HV.out, hcap, hbw⟩
end Go.Proofs.YtmnfmgoolimlmaaDoor
