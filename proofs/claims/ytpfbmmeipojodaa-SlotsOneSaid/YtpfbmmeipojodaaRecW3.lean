/- The law RecordTurned: the walk. -/
import Derived.Test.YtpfbmmeipojodaaGF
import Derived.Deep.DeepCutAuto
namespace Go.Proofs.Ytpfbmmeipojodaa
set_option linter.unusedSimpArgs false
set_option linter.unusedVariables false
open Go.RowKit Go.Shelf
open Crc
theorem own_none (w : World) (E : TypeId) : (w.alloc (.cells #[] E)).ownsRow w.heap.size E 1 (.slice (some ⟨w.heap.size, 0, none⟩) 0 0) 0 [] :=
  ⟨by simp, .inr ⟨w.heap.size, 0, #[], rfl, Nat.le_refl _, heap_alloc_new w _, Nat.le_refl _, by decide, by simp, by simp⟩⟩
theorem texts_set {w : World} {g k : Nat} {L : List ByteArray} (h : Texts w (some ⟨g, 0, none⟩) L) (hk : k < L.length) (t : ByteArray) : Texts (w.setCell ⟨g, k, none⟩ (.string t)) (some ⟨g, 0, none⟩) (L.set k t) := by
  refine ⟨by simp [strs], fun _ => ⟨g, 0, rfl, fun j u hu => ?_⟩⟩
  rw [Nat.zero_add]
  have hc : ∀ (i : Nat) (hi : i < L.length), w.cell? ⟨g, i, none⟩ = some (.string L[i]) := fun i hi => by
    obtain ⟨b, o, e, hc⟩ := Texts.at_ h hi
    cases e
    rw [Nat.zero_add] at hc
    exact hc
  rw [strs, List.getElem?_map] at hu
  by_cases hjk : j = k
  · subst hjk
    rw [List.getElem?_set_self hk] at hu
    cases hu
    exact World.cell?_setCell_same w _ _ (hc j hk)
  · rw [List.getElem?_set_ne (Ne.symm hjk)] at hu
    have hj : j < L.length := by
      rcases Nat.lt_or_ge j L.length with h' | h'
      · exact h'
      · rw [List.getElem?_eq_none h'] at hu; cases hu
    rw [List.getElem?_eq_getElem hj] at hu
    cases hu
    exact (World.cell?_setCell_other w ⟨g, k, none⟩ ⟨g, j, none⟩ _ (fun e => by have := congrArg Addr.off e; simp at this; omega)).trans (hc j hj)
theorem own_form {W : World} {base : Nat} {e : TypeId} {n : Nat} {v : Value} {xs : List Value} (h : W.ownsRow base e 1 v n xs) (hn : 0 < n) :
    ∃ g cap, v = .slice (some ⟨g, 0, none⟩) n cap ∧ base ≤ g ∧ n ≤ cap ∧ Lies W (some ⟨g, 0, none⟩) n 1 xs ∧ ∀ i, W.frozen? ⟨g, i, none⟩ = false := by
  obtain ⟨A, c, e1, e2, _, hl, _⟩ := Lies.of_own h
  rcases h.2 with ⟨_, h0⟩ | ⟨g, cap, cur, hv, hb, hh, hc, _⟩
  · omega
  · rw [e1] at hv
    cases hv
    refine ⟨g, c, e1, hb, e2, hl, fun i => ?_⟩
    unfold World.frozen?
    simp [hh]
end Go.Proofs.Ytpfbmmeipojodaa
