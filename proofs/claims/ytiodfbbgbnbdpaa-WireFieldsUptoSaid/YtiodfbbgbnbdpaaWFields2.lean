/- The walk of WireFields, of any request. -/
import Derived.Test.YtiodfbbgbnbdpaaWFields
import Derived.Test.YtiodfbbgbnbdpaaWApart2
import Derived.Test.YtiodfbbgbnbdpaaFieldsLaw
namespace Go.Proofs.Ytiodfbbgbnbdpaa
set_option linter.unusedVariables false
open Go.RowKit
open Crc
theorem zero_iff {k : UInt8} {E : Int} {p : Prop} {t : Bool} (h : E = 0 ↔ p) (ht : t = true ↔ p) : (E == 0) = t := by
  cases t with
  | true => simpa using h.2 (ht.1 rfl)
  | false =>
    have : ¬ E = 0 := fun e => absurd (ht.2 (h.1 e)) (by decide)
    simpa using this
theorem five (k : UInt8) : (decide (k = 2) = false ∧ decide (k = 3) = false ∧ decide (k = 4) = false ∧ decide (k = 5) = false ∧ decide (k = 6) = false) ∨ (decide (k = 2) = true ∧ decide (k = 3) = false ∧ decide (k = 4) = false ∧ decide (k = 5) = false ∧ decide (k = 6) = false) ∨ (decide (k = 2) = false ∧ decide (k = 3) = true ∧ decide (k = 4) = false ∧ decide (k = 5) = false ∧ decide (k = 6) = false) ∨ (decide (k = 2) = false ∧ decide (k = 3) = false ∧ decide (k = 4) = true ∧ decide (k = 5) = false ∧ decide (k = 6) = false) ∨ (decide (k = 2) = false ∧ decide (k = 3) = false ∧ decide (k = 4) = false ∧ decide (k = 5) = true ∧ decide (k = 6) = false) ∨ (decide (k = 2) = false ∧ decide (k = 3) = false ∧ decide (k = 4) = false ∧ decide (k = 5) = false ∧ decide (k = 6) = true) := by
  by_cases h2 : k = 2
  · subst h2; right; left; decide
  by_cases h3 : k = 3
  · subst h3; right; right; left; decide
  by_cases h4 : k = 4
  · subst h4; right; right; right; left; decide
  by_cases h5 : k = 5
  · subst h5; right; right; right; right; left; decide
  by_cases h6 : k = 6
  · subst h6; right; right; right; right; right; decide
  · left; simp [h2, h3, h4, h5, h6]
theorem beq_k (k c : UInt8) : ((k.toNat : Int) == (c.toNat : Int)) = decide (k = c) := by
  have h := u8_iff k c
  by_cases hc : k = c
  · rw [decide_eq_true hc]; simpa using h.2 hc
  · rw [decide_eq_false hc]; simpa using fun e => hc (h.1 e)
theorem wirefields_w (a : Ask) (m : Nat) (w : World) (ht : a.ts.length = 7) (hn : a.n < 18446744073709551616) (hv : a.v < 18446744073709551616) (hsz : ∀ t ∈ a.ts, t.size < 16777216) (hm : m < 18446744073709551616) :
    Calls Try.prog 5 #[.agg (askCells a).toArray, .int .u64 (m : Int)] w fun e w' => e = .returned (.bool true) ∧ Below w.heap.size w w' := by
  obtain ⟨ak, an, ⟨ac, ai, ax, au, aw⟩, av, ats⟩ := a
  obtain ⟨s1, s2, s3, s4, s5, s6, s7, rfl⟩ := list7 ats ht
  have hz : ∀ t ∈ ([s1, s2, s3, s4, s5, s6, curly] : List ByteArray), t.size < 16777216 := by
    intro t h
    simp only [List.mem_cons, List.not_mem_nil, or_false] at h
    rcases h with rfl | rfl | rfl | rfl | rfl | rfl | rfl
    all_goals first | decide | exact hsz _ (by simp)
  have h0 := fun W => writeAsk_w ⟨ak, an, ⟨ac, ai, ax, au, aw⟩, av, [s1, s2, s3, s4, s5, s6, s7]⟩ W rfl hsz
  have h1 := fun W => writeAsk_w ⟨ak, m, ⟨ac, ai, ax, au, aw⟩, av, [s1, s2, s3, s4, s5, s6, s7]⟩ W rfl hsz
  have h2 := fun W => writeAsk_w ⟨ak, an, ⟨ac, ai, ax, au, aw⟩, m, [s1, s2, s3, s4, s5, s6, s7]⟩ W rfl hsz
  have h3 := fun W => writeAsk_w ⟨ak, an, ⟨ac, ai, ax, au, aw⟩, av, [s1, s2, s3, s4, s5, s6, curly]⟩ W rfl hz
  have h4 := fun W => refWriteAsk_w ⟨ak, m, ⟨ac, ai, ax, au, aw⟩, av, [s1, s2, s3, s4, s5, s6, s7]⟩ W rfl hm hv
  have HL : Hid ((writeA ⟨ak, an, ⟨ac, ai, ax, au, aw⟩, av, [s1, s2, s3, s4, s5, s6, s7]⟩).2 = 0 → m ≠ 0 → (((writeA ⟨ak, m, ⟨ac, ai, ax, au, aw⟩, av, [s1, s2, s3, s4, s5, s6, s7]⟩).2 == 0) = (decide (ak = 2) || decide (ak = 3) || decide (ak = 4))) ∧ (((writeA ⟨ak, an, ⟨ac, ai, ax, au, aw⟩, m, [s1, s2, s3, s4, s5, s6, s7]⟩).2 == 0) = decide (ak = 6)) ∧ (((writeA ⟨ak, an, ⟨ac, ai, ax, au, aw⟩, av, [s1, s2, s3, s4, s5, s6, curly]⟩).2 == 0) = (decide (ak = 5) || decide (ak = 6)))) := hide fun h hm0 => by
    obtain ⟨l1, l2, l3⟩ := fields_law hn hv hm hm0 h
    exact ⟨zero_iff (k := ak) l1 (by simp [or_assoc]), zero_iff (k := ak) l2 (by simp), zero_iff (k := ak) l3 (by simp)⟩
  have d2 : ((ak.toNat : Int) == 2) = decide (ak = 2) := beq_k ak 2
  have d3 : ((ak.toNat : Int) == 3) = decide (ak = 3) := beq_k ak 3
  have d4 : ((ak.toNat : Int) == 4) = decide (ak = 4) := beq_k ak 4
  have d5 : ((ak.toNat : Int) == 5) = decide (ak = 5) := beq_k ak 5
  have d6 : ((ak.toNat : Int) == 6) = decide (ak = 6) := beq_k ak 6
  have hX := five ak
  obtain ⟨Y0, hY0⟩ := named (writeA ⟨ak, an, ⟨ac, ai, ax, au, aw⟩, av, [s1, s2, s3, s4, s5, s6, s7]⟩)
  obtain ⟨Y1, hY1⟩ := named (writeA ⟨ak, m, ⟨ac, ai, ax, au, aw⟩, av, [s1, s2, s3, s4, s5, s6, s7]⟩)
  obtain ⟨Y2, hY2⟩ := named (writeA ⟨ak, an, ⟨ac, ai, ax, au, aw⟩, m, [s1, s2, s3, s4, s5, s6, s7]⟩)
  obtain ⟨Y3, hY3⟩ := named (writeA ⟨ak, an, ⟨ac, ai, ax, au, aw⟩, av, [s1, s2, s3, s4, s5, s6, curly]⟩)
  rw [← hY0.out, ← hY1.out, ← hY2.out, ← hY3.out] at HL
  simp only [← hY0.out] at h0
  simp only [← hY1.out] at h1 h4
  simp only [← hY2.out] at h2
  simp only [← hY3.out] at h3
  clear hY0 hY1 hY2 hY3
  simp only [cells7] at h0 h1 h2 h3 h4 ⊢
  exact fields_x ak ac an av m ai ax au aw s1 s2 s3 s4 s5 s6 s7 (str Y0.1) (str Y1.1) (str Y2.1) (str Y3.1) (str Y1.1) Y0.2 Y1.2 Y2.2 Y3.2 _ _ _ _ _ w h0 h1 h2 h3 h4 d2 d3 d4 d5 d6 hX HL
end Go.Proofs.Ytiodfbbgbnbdpaa
