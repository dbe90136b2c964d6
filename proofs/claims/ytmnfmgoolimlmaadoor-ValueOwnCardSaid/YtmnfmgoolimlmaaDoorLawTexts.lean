/- A slice of texts that came in as an argument, opened; it holds no more than its room. -/
import Derived.Test.YtmnfmgoolimlmaaDoorMem
import Derived.Lib.SmallJoins
import Derived.Deep.Slices
import Derived.SliceStrings
namespace Go.Proofs.YtmnfmgoolimlmaaDoor
open Go.Joins Go.ChangeShapes Go.WideShapes Go.RowKit Go.Deep
theorem spot_plain {w : World} {a : Addr} {u : Value} (h : w.cell? a = some u) : a = ⟨a.block, a.off, none⟩ := by
  rcases a with ⟨b, o, s⟩
  unfold World.cell? at h
  cases s with
  | none => rfl
  | some s =>
    simp only [Option.isSome_some, if_true] at h
    split at h <;> cases h
set_option maxRecDepth 100000 in
theorem open_txts {H : Type} {enc : TypeId × Value → H} {w : World} {v : Value} {b0 : Nat} {d : DataW H} {p : List MemPlace} (hv : Value.okWide Tryd.prog w .any b0 32 v) (h : DataW.Trod enc Tryd.prog w 0 (fun _ => true) true 32 v d p) :
    ∃ (l : List ByteArray) (A : Option Addr) (c : Nat), v = .slice A l.length c ∧ Texts w A l ∧ l.length ≤ c ∧ ((∀ k ∈ d.weights Tryd.prog 32, k ≤ reachBytes) → l.length * 16 ≤ 140737488351232) := by
  obtain ⟨fuel, hf⟩ := h
  obtain ⟨A, n', c, rfl⟩ := okWide_slice Tryd.underlying32 hv
  rcases open_strings Tryd.underlying32 Tryd.underlying9 (by kernel_rfl) hf with ⟨hc, hd⟩ | ⟨a, len, cap, ss, hc, _, hl, hm, hlen, hd, hcell, _⟩
  · cases hc
    exact ⟨[], none, 0, rfl, Lies.nil _ _ _, Nat.le_refl _, fun _ => by simp⟩
  · cases hc
    simp only [if_true] at hlen
    have hlt : (ss.take n').length = n' := by simp; omega
    refine ⟨ss.take n', some a, c, by rw [hlt], ⟨by rw [strs_length, Nat.mul_one], fun hne => ?_⟩, by rw [hlt]; exact hl, fun hw => ?_⟩
    · have hpos : 0 < n' := by
        rcases Nat.eq_zero_or_pos n' with e | e
        · subst e; simp [strs] at hne
        · exact e
      have h0 := hcell 0 (by omega)
      have ha := spot_plain h0
      have ha' : a = ⟨a.block, a.off, none⟩ := by
        have : (a.add 0) = a := by simp [Addr.add]
        rw [this] at ha
        exact ha
      refine ⟨a.block, a.off, by rw [← ha'], fun j u hu => ?_⟩
      have hj : j < n' := by
        have := (List.getElem?_eq_some_iff.1 hu).1
        rw [strs_length, hlt] at this
        exact this
      have hcj := hcell j (by omega)
      rw [ha', addr_add] at hcj
      rw [hcj]
      simp only [strs, List.getElem?_map, List.getElem?_take, if_pos hj, Option.map_eq_some_iff] at hu
      obtain ⟨s, hs, rfl⟩ := hu
      simp [List.getD, hs]
    · injection hd with hd _
      rw [hd] at hw
      have h1 := hw ((((ChangeShapes.strs (ss.take n') : List (DataW H)).length + (ChangeShapes.strs (ss.drop n') : List (DataW H)).length)) * Tryd.prog.bytesOf 9) (by simp [DataW.weights, Tryd.underlying32])
      rw [show Tryd.prog.bytesOf 9 = 16 by kernel_rfl] at h1
      simp only [reachBytes, ChangeShapes.strs, List.length_map, List.length_take, List.length_drop] at h1
      simp only [List.length_take]
      omega
end Go.Proofs.YtmnfmgoolimlmaaDoor
