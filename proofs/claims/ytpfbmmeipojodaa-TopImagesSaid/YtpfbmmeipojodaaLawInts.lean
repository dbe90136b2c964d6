/- A slice of numbers that came in as an argument, opened. -/
import Derived.Test.YtpfbmmeipojodaaGL
namespace Go.Proofs.Ytpfbmmeipojodaa
open Go.Joins Go.ChangeShapes Go.WideShapes Go.RowKit Go.Deep
def ints (l : List Int) : List Value := l.map (.int .i64 ·)
def Ints (w : World) (A : Option Addr) (l : List Int) : Prop := Lies w A l.length 1 (ints l)
theorem Ints.at_ {w : World} {A : Option Addr} {l : List Int} (h : Ints w A l) {k : Nat} (hk : k < l.length) : ∃ b o, A = some ⟨b, o, none⟩ ∧ w.cell? ⟨b, o + k, none⟩ = some (.int .i64 l[k]) := by
  obtain ⟨b, o, e, hc⟩ := h.2 (by intro h0; have : (ints l).length = l.length := by simp [ints]
                                  rw [h0] at this; simp at this; omega)
  exact ⟨b, o, e, hc k _ (by simp [ints, hk])⟩
section
variable {H : Type} {enc : TypeId × Value → H} {w : World} {n : Nat} {v : Value} {y : DataW H × List MemPlace}
theorem open_ints (h : DataW.trod enc Try.prog w 0 (fun _ => true) true n 23 [v] = some y) : ∃ (l : List Int) (A : Option Addr) (c : Nat), v = .slice A l.length c ∧ (Ints w A l ∧ (∀ x ∈ l, -9223372036854775808 ≤ x ∧ x ≤ 9223372036854775807)) ∧ ((∀ k ∈ y.1.weights Try.prog 23, k ≤ reachBytes) → l.length ≤ 140737488351232) := by
  rcases open_slice Try.underlying23 h with ⟨hc, rfl⟩ | ⟨a, len, cap, m, n', D, Pl, hc, _, hl, hm, hmm, rfl, hi⟩
  · cases hc
    exact ⟨[], none, 0, rfl, ⟨Lies.nil _ _ _, by simp⟩, fun _ => by simp⟩
  · cases hc
    simp only [if_true] at hmm
    subst hmm
    rw [show Try.prog.cellsOf 3 = 1 by kernel_rfl] at hi
    have each : ∀ i, i < m → ∃ x : Int, w.cell? (a.add i) = some (.int .i64 x) ∧ -9223372036854775808 ≤ x ∧ x ≤ 9223372036854775807 := by
      intro i hi'
      obtain ⟨cs', hcs, ht⟩ := hi i hi'
      obtain ⟨b, eb, _, wf⟩ := DataW.trod_int Try.underlying3 ht
      cases eb
      rw [Nat.mul_one] at hcs
      obtain ⟨_, hcl, hat⟩ := World.cells?_some hcs
      have := hat 0 (by decide)
      exact ⟨b, by simpa [Addr.add] using this, bnd_i64 wf⟩
    obtain ⟨f, hf'⟩ : ∃ f : Nat → Int, ∀ i, i < m → w.cell? (a.add i) = some (.int .i64 (f i)) ∧ -9223372036854775808 ≤ f i ∧ f i ≤ 9223372036854775807 :=
      ⟨fun i => if h : i < m then (each i h).choose else 0, fun i h => by simp only [dif_pos h]; exact (each i h).choose_spec⟩
    have hf := fun i hi => (hf' i hi).1
    have hlen : ((List.range len).map f).length = len := by simp
    refine ⟨(List.range len).map f, some a, m, by rw [hlen], ⟨⟨by simp [ints], fun hne => ?_⟩, fun x hx => ?_⟩, fun hw => ?_⟩
    · have hpos : 0 < len := by
        rcases Nat.eq_zero_or_pos len with e | e
        · subst e; simp [ints] at hne
        · exact e
      have ha := spot_none (hf 0 (by omega))
      have ha' : a = ⟨a.block, a.off, none⟩ := by
        have : (a.add 0) = a := by simp [Addr.add]
        rw [this] at ha
        exact ha
      refine ⟨a.block, a.off, by rw [← ha'], fun j u hu => ?_⟩
      have hj : j < len := by
        have := (List.getElem?_eq_some_iff.1 hu).1
        simpa [ints] using this
      have p0 := hf j (by omega)
      rw [ha', addr_add] at p0
      rw [p0, ← hu]
      simp [ints, hj]
    · obtain ⟨i, hi, rfl⟩ := List.mem_map.1 hx
      exact (hf' i (by have := List.mem_range.1 hi; omega)).2
    · have := slice_weight Try.underlying23 hw
      rw [show Try.prog.bytesOf 3 = 8 by kernel_rfl] at this
      simp only [reachBytes, List.length_map, List.length_range] at this
      simp only [List.length_map, List.length_range]
      omega
set_option maxRecDepth 100000 in
theorem open_intlist {b0 : Nat} {d : DataW H} {p : List MemPlace} (hv : Value.okWide Try.prog w .any b0 23 v) (h : DataW.Trod enc Try.prog w 0 (fun _ => true) true 23 v d p) :
    ∃ (l : List Int) (A : Option Addr) (c : Nat), v = .slice A l.length c ∧ (Ints w A l ∧ (∀ x ∈ l, -9223372036854775808 ≤ x ∧ x ≤ 9223372036854775807)) ∧ ((∀ k ∈ d.weights Try.prog 23, k ≤ reachBytes) → l.length ≤ 140737488351232) := by
  obtain ⟨fuel, hf⟩ := h
  obtain ⟨A, n', c, rfl⟩ := okWide_slice Try.underlying23 hv
  exact open_ints hf
end
end Go.Proofs.Ytpfbmmeipojodaa
