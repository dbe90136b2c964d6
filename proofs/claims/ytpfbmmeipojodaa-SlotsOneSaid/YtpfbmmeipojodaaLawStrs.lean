/- A slice of texts that came in as an argument, opened. -/
import Derived.Test.YtpfbmmeipojodaaGL
namespace Go.Proofs.Ytpfbmmeipojodaa
open Go.Joins Go.ChangeShapes Go.WideShapes Go.RowKit Go.Deep
set_option maxRecDepth 100000 in
theorem open_strs {H : Type} {enc : TypeId × Value → H} {w : World} {v : Value} {b0 : Nat} {d : DataW H} {p : List MemPlace} (hv : Value.okWide Try.prog w .any b0 22 v) (h : DataW.Trod enc Try.prog w 0 (fun _ => true) true 22 v d p) :
    ∃ (l : List ByteArray) (A : Option Addr) (c : Nat), v = .slice A l.length c ∧ Texts w A l ∧ ((∀ k ∈ d.weights Try.prog 22, k ≤ reachBytes) → l.length * 16 ≤ 140737488351232) := by
  obtain ⟨fuel, hf⟩ := h
  obtain ⟨A, n', c, rfl⟩ := okWide_slice Try.underlying22 hv
  exact open_texts hf
end Go.Proofs.Ytpfbmmeipojodaa
