/- lictorref06.TypeName. -/
import Derived.Test.YtmnfmgoolimlmaaDoorRefNames
namespace Go.Proofs.YtmnfmgoolimlmaaDoor
set_option linter.unusedSimpArgs false
set_option linter.unusedVariables false
open Go.RowKit
/-- What is left to look at. -/
def leftL (L : List UInt8) (f i : Nat) : Bool := (pcs ((L.drop f).take (i - f)) (L.drop (max i f))).all nameL
theorem left_start (L : List UInt8) : leftL L 0 0 = (pcs [] L).all nameL := rfl
theorem left_end {L : List UInt8} {f i : Nat} (hi : L.length ≤ i + 1) (hf : f ≤ i + 1) (hfl : f ≤ L.length) : leftL L f i = nameL (L.drop f) := by
  unfold leftL
  by_cases h : f ≤ i
  · rw [Nat.max_eq_left h]
    have e : (L.drop f).take (i - f) ++ L.drop i = L.drop f := by
      have : L.drop i = (L.drop f).drop (i - f) := by rw [List.drop_drop]; congr 1; omega
      rw [this, List.take_append_drop]
    generalize (L.drop f).take (i - f) = A at e ⊢
    rw [← e]
    match hd : L.drop i with
    | [] => rw [pcs_nil]; simp
    | [b] => rw [pcs]; simp
    | b :: c :: r =>
      have := congrArg List.length hd
      simp at this
      omega
  · have : f = L.length := by omega
    rw [Nat.max_eq_right (by omega), this]
    simp [pcs_nil]
theorem left_skip {L : List UInt8} {f i : Nat} (h : i < f) : leftL L f i = leftL L f (i + 1) := by
  unfold leftL
  rw [Nat.max_eq_right (by omega), Nat.max_eq_right (by omega), show i - f = 0 by omega, show i + 1 - f = 0 by omega]
theorem two {L : List UInt8} {i : Nat} (h : i + 1 < L.length) : ∃ b c, L.drop i = b :: c :: L.drop (i + 2) ∧ L[i]? = some b ∧ L.drop (i + 1) = c :: L.drop (i + 2) := by
  refine ⟨L[i], L[i + 1], ?_, List.getElem?_eq_getElem (by omega), List.drop_eq_getElem_cons h⟩
  rw [List.drop_eq_getElem_cons (by omega), List.drop_eq_getElem_cons h]
theorem left_hit {L : List UInt8} {f i : Nat} (hf : f ≤ i) (h : i + 1 < L.length) (hq : (L.drop i).take 2 = [58, 58]) : leftL L f i = (nameL ((L.drop f).take (i - f)) && leftL L (i + 2) (i + 1)) := by
  unfold leftL
  rw [Nat.max_eq_left hf, Nat.max_eq_right (by omega), show i + 1 - (i + 2) = 0 by omega, List.take_zero]
  obtain ⟨b, c, e, _, _⟩ := two h
  generalize (L.drop f).take (i - f) = A
  generalize L.drop (i + 2) = r at e ⊢
  rw [e] at hq ⊢
  simp at hq
  obtain ⟨rfl, rfl⟩ := hq
  rw [pcs_hit]
  rfl
theorem left_miss {L : List UInt8} {f i : Nat} (hf : f ≤ i) (h : i + 1 < L.length) (hq : (L.drop i).take 2 ≠ [58, 58]) : leftL L f i = leftL L f (i + 1) := by
  unfold leftL
  obtain ⟨b, c, e, e2, e3⟩ := two h
  rw [Nat.max_eq_left hf, Nat.max_eq_left (by omega), show i + 1 - f = (i - f) + 1 by omega, List.take_add_one, List.getElem?_drop, show f + (i - f) = i by omega, e2, e, e3]
  generalize (L.drop f).take (i - f) = A
  rw [e] at hq
  generalize L.drop (i + 2) = r at hq ⊢
  rw [pcs_miss _ _ _ (by
    cases hp : sepL.isPrefixOf (b :: c :: r) with
    | false => rfl
    | true =>
      exfalso
      apply hq
      simp only [sepL, List.isPrefixOf, Bool.and_eq_true, beq_iff_eq] at hp
      obtain ⟨h1, h2, _⟩ := hp
      subst h1
      subst h2
      rfl)]
  rfl
set_option maxRecDepth 100000 in
set_option maxHeartbeats 600000 in
theorem refType_w (s : ByteArray) (w : World) (hs : s.size ≤ 140737488351232) :
    Calls Tryd.prog 10 #[.string s] w fun e w' => e = .returned (.bool (typeL s.data.toList)) ∧ Below w.heap.size w w' := by
  by_cases hl : (64 : Int) < (s.size : Int)
  · have hR : typeL s.data.toList = false := by
      unfold typeL
      rw [← Lib.size_eq, decide_eq_false (by omega)]
      rfl
    rw [hR]
    clear hR
    go_enter Tryd.func10, Tryd.ntmps10
    go_wp2
    go_ret
    exact ⟨rfl, Below.refl _ _⟩
  · have hR : typeL s.data.toList = leftL s.data.toList 0 0 := by
      unfold typeL
      rw [← Lib.size_eq, decide_eq_true (by omega)]
      rfl
    have hz : s.size = s.data.toList.length := Lib.size_eq s
    obtain ⟨R, HR⟩ := named (typeL s.data.toList)
    rw [← HR.out] at hR ⊢
    clear HR
    have HR := hide hR
    clear hR
    have hname := fun (a b : Nat) (W : World) => refName_w (s.extract a b) W (by simp; omega)
    have hx : ∀ a b, (s.extract a b).data.toList = (s.data.toList.drop a).take (b - a) := fun a b => by rw [extract_str, str_data]
    have HX := hide hx
    have HZ := hide hz
    clear hx hz
    go_enter Tryd.func10, Tryd.ntmps10
    go_wp2
    go_loopw [3, 4] (fun a b wr => ∃ f i : Nat, i ≤ s.size ∧ f ≤ s.size ∧ f ≤ i + 1 ∧ a = .int .i64 f ∧ b = .int .i64 i ∧ Hid (R = leftL s.data.toList f i) ∧ Below w.heap.size w wr) (fun _ b _ => s.size - (intOf b).toNat)
    case atStart => exact ⟨0, 0, by omega, by omega, by omega, rfl, rfl, HR, Below.refl _ _⟩
    case round =>
      obtain ⟨f, i, hi, hf, hfi, rfl, rfl, HL, hbw⟩ := hrel
      by_cases hlt : i + 1 < s.size
      · have hi1 : (i : Int) + 1 < (s.size : Int) := by omega
        have hi2 : (i : Int) + 2 ≤ (s.size : Int) := by omega
        have hi0 : (0 : Int) ≤ (i : Int) := by omega
        have hi3 : (i : Int) ≤ (i : Int) + 2 := by omega
        cases hq : (s.extract i (i + 2)).toList == [58, 58] with
        | true =>
          have hq2 : (s.data.toList.drop i).take 2 = [58, 58] := by
            rw [ByteArray.toList_eq, HX.out, show i + 2 - i = 2 by omega] at hq
            exact eq_of_beq hq
          by_cases hfi2 : f ≤ i
          · have g1 : (f : Int) ≤ (i : Int) := by omega
            have g2 : (i : Int) ≤ (s.size : Int) := by omega
            have hL2 := left_hit hfi2 (by rw [← HZ.out]; exact hlt) hq2
            rw [← HL.out, ← HX.out] at hL2
            clear HL
            have hn := hname f i wr
            cases hb : nameL (s.extract f i).data.toList with
            | true =>
              rw [hb] at hn hL2
              have HL2 : Hid (R = leftL s.data.toList (i + 2) (i + 1)) := hL2
              clear hL2 hq2 hb
              go_upto_region 8 with (go_quiet (fail))
              go_wp2_with fail
              refine hn.mono ?_
              rintro e w1 ⟨rfl, hb1⟩
              clear hn
              go_wp2_with (go_quiet (fail))
              go_roundw
              case rel => exact ⟨i + 2, i + 1, by omega, by omega, by omega, by go_num, by go_num, HL2, hbw.trans (hb1.mono hbw.size)⟩
              case measure => simp [intOf]; omega
            | false =>
              rw [hb] at hn hL2
              have HL2 : Hid (R = false) := hL2
              clear hL2 hq2 hb
              go_upto_region 8 with (go_quiet (fail))
              go_wp2_with fail
              refine hn.mono ?_
              rintro e w1 ⟨rfl, hb1⟩
              clear hn
              go_wp2_with (go_quiet (fail))
              go_ret
              refine ⟨?_, hbw.trans (hb1.mono hbw.size)⟩
              rw [HL2.out]
              rfl
          · have g1 : ¬ (f : Int) ≤ (i : Int) := by omega
            have HL2 : Hid (R = leftL s.data.toList f (i + 1)) := by
              rw [HL.out]
              exact left_skip (by omega)
            clear HL hq2
            go_wp2_with (go_quiet (fail))
            go_roundw
            case rel => exact ⟨f, i + 1, by omega, by omega, by omega, rfl, by go_num, HL2, hbw⟩
            case measure => simp [intOf]; omega
        | false =>
          have hq2 : (s.data.toList.drop i).take 2 ≠ [58, 58] := by
            rw [ByteArray.toList_eq, HX.out, show i + 2 - i = 2 by omega] at hq
            exact ne_of_beq_false hq
          have HL2 : Hid (R = leftL s.data.toList f (i + 1)) := by
            rw [HL.out]
            by_cases hfi2 : f ≤ i
            · exact left_miss hfi2 (by rw [← HZ.out]; exact hlt) hq2
            · exact left_skip (by omega)
          clear HL hq2
          go_wp2_with (go_quiet (fail))
          go_roundw
          case rel => exact ⟨f, i + 1, by omega, by omega, by omega, rfl, by go_num, HL2, hbw⟩
          case measure => simp [intOf]; omega
      · have hi1 : ¬ (i : Int) + 1 < (s.size : Int) := by omega
        have g1 : (f : Int) ≤ (s.size : Int) := by omega
        have hn := hname f s.size wr
        have hL2 : R = nameL (s.extract f s.size).data.toList := by
          rw [HL.out, left_end (by rw [← HZ.out]; omega) hfi (by rw [← HZ.out]; exact hf), HX.out, List.take_of_length_le (by rw [List.length_drop, ← HZ.out]; omega)]
        rw [← hL2] at hn
        clear HL hL2
        go_wp2_with fail
        refine hn.mono ?_
        rintro e w1 ⟨rfl, hb1⟩
        clear hn
        go_wp2_with (go_quiet (fail))
        go_ret
        exact ⟨rfl, hbw.trans (hb1.mono hbw.size)⟩
end Go.Proofs.YtmnfmgoolimlmaaDoor
