/- slices.Clone of any values, nil and empty ones too. -/
import Derived.Test.YtmnfmgoolimlmaaDoorVOwn1
import Derived.Test.YtmnfmgoolimlmaaDoorApp
namespace Go.Proofs.YtmnfmgoolimlmaaDoor
set_option linter.unusedSimpArgs false
set_option linter.unusedVariables false
open Go.RowKit
theorem own_empty7 (w : World) (t : TypeId) (size : Nat) : (w.alloc (.cells #[] t)).ownsRow w.heap.size t size (.slice (some ⟨w.heap.size, 0, none⟩) 0 0) 0 [] :=
  ⟨by simp, .inr ⟨w.heap.size, 0, #[], rfl, Nat.le_refl _, heap_alloc_new w _, Nat.le_refl _, by decide, by simp, by simp⟩⟩
set_option maxRecDepth 100000 in
set_option maxHeartbeats 400000 in
theorem cloneVL_w (A : Option Addr) (n c : Nat) (xs : List Value) (w : World) (hl : Lies w A n 7 xs) (h1 : ∀ v ∈ xs, v.oneCell' = true) (hn : n * 96 ≤ 140737488351232) :
    Calls Tryd.prog 63 #[.slice A n c] w fun e w' => ∃ v, e = .returned v ∧ w'.ownsRow w.heap.size 37 7 v n xs ∧ Below w.heap.size w w' := by
  obtain ⟨i0, hi, hz0, hz1, hz2⟩ := info_parts Tryd.infoV
  rcases A with _ | ad
  · have hx : xs = [] := by
      rcases Classical.em (xs = []) with h | h
      · exact h
      · obtain ⟨b, o, e, _⟩ := hl.2 h
        cases e
    have h0 : n = 0 := by have := hl.1; rw [hx] at this; simp at this; omega
    subst h0
    subst hx
    refine (cloneVnil_w 0 c w).mono ?_
    rintro e w' ⟨rfl, rfl⟩
    exact ⟨_, rfl, World.ownsRow_nil _ _ _ _, Below.refl _ _⟩
  · have hq := fun (w : World) (a : Option Addr) (n c : Nat) => Lib.run_eql_slice_nil (P := Tryd.prog) w 33 37 a n c 0 0 Tryd.underlying33
    go_enter Tryd.func63, Tryd.ntmps63
    have hown0 : (w.alloc (.cells #[] 37)).ownsRow w.heap.size 37 7 (.slice (some ⟨w.heap.size, 0, none⟩) 0 0) 0 [] := own_empty7 w _ _
    go_wp2_with (first
      | (at_builtin
         refine wpList_append_any _ rfl (.tmp 5) (.tmp 6) _ rfl w.heap.size 37 i0 _ 7 96 Tryd.underlying33 hi hz0 hz1 hz2 rfl (by omega) (.slice (some ⟨w.heap.size, 0, none⟩) 0 0) 0 [] rfl
           hown0 (some ad) n c xs rfl (Lies.alloc hl _) h1 (by simp only [maxLen]; omega) (by omega) (by simp) ?_
         intro v1 w1 hown1 hg1 hat1
         have hbw1 : Below w.heap.size w w1 := ((Below.refl _ _).alloc (Nat.le_refl _) _).grown hg1 (by simp) (by simp [Value.ownBlock])))
    go_ret
    exact ⟨v1, rfl, by simpa using hown1, hbw1⟩
/-- slices.Clone of texts. -/
theorem cloneSL_w (A : Option Addr) (c : Nat) (l : List ByteArray) (w : World) (hl : Texts w A l) (hn : l.length * 16 ≤ 140737488351232) :
    Calls Tryd.prog 44 #[.slice A l.length c] w fun e w' => ∃ v, e = .returned v ∧ w'.ownsRow w.heap.size 9 1 v l.length (strs l) ∧ Below w.heap.size w w' := by
  rcases A with _ | ad
  · obtain ⟨h0, hx⟩ := nil_of_none hl (by decide)
    rw [hx, h0]
    refine (Tryd.slices_Clone_string_nil 0 c w).mono ?_
    rintro e w' ⟨rfl, rfl⟩
    exact ⟨_, rfl, World.ownsRow_nil _ _ _ _, Below.refl _ _⟩
  · rcases Classical.em (strs l = []) with hx | hx
    · have h0 : l.length = 0 := by rw [← strs_length, hx]; rfl
      rw [hx, h0]
      refine (Tryd.slices_Clone_string_zero ad c w).mono ?_
      rintro e w' ⟨v, rfl, ho, _, hb⟩
      exact ⟨_, rfl, ho, hb⟩
    · obtain ⟨b, o, e, hc⟩ := hl.2 hx
      cases e
      refine (Tryd.slices_Clone_string b o l.length c l w (Nat.le_refl _) (by omega) (fun j hj => ?_)).mono ?_
      · have := hc j (.string l[j]) (by simp [strs, hj])
        rw [this, List.getD_eq_getElem?_getD, List.getElem?_eq_getElem hj]
        rfl
      · rintro e w' ⟨v, rfl, ho, _, hb⟩
        rw [List.take_length] at ho
        exact ⟨_, rfl, ho, hb⟩
end Go.Proofs.YtmnfmgoolimlmaaDoor
