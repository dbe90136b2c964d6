/- lictorref06.Utf. -/
import Derived.Test.YtmnfmgoolimlmaaDoorMem
import Derived.Lib.ValidU
import Derived.Lib.TrimUEq
import Derived.Laws.RangeAny
import Derived.Deep.DeepCutAuto
namespace Go.Proofs.YtmnfmgoolimlmaaDoor
set_option linter.unusedSimpArgs false
set_option linter.unusedVariables false
open Go.RowKit
set_option maxRecDepth 100000 in
set_option maxHeartbeats 1000000 in
theorem decN_err (n b0 b1 b2 b3 : Nat) (h0 : b0 < 256) (h1 : b1 < 256) (h2 : b2 < 256) (h : (Lib.decodeN n b0 b1 b2 b3).1 = 65533) :
    ((Lib.decodeN n b0 b1 b2 b3).2 = 1 ∧ ¬ (2 < n ∧ b0 = 239 ∧ b1 = 191 ∧ b2 = 189)) ∨ ((Lib.decodeN n b0 b1 b2 b3).2 = 3 ∧ (2 < n ∧ b0 = 239 ∧ b1 = 191 ∧ b2 = 189)) := by
  revert h
  unfold Lib.decodeN
  repeat' split
  all_goals intro h
  all_goals dsimp only at h ⊢
  all_goals first | exact Or.inl ⟨rfl, by omega⟩ | exact Or.inr ⟨rfl, by omega⟩ | (exfalso; omega)
theorem ext3 (s : ByteArray) (p : Nat) (h : p + 3 ≤ s.size) : (s.extract p (p + 3)).data.toList = [s.data.toList.getD p 0, s.data.toList.getD (p + 1) 0, s.data.toList.getD (p + 2) 0] := by
  rw [extract_str, str_data, show p + 3 - p = 3 by omega]
  have hz : s.size = s.data.toList.length := Lib.size_eq s
  generalize s.data.toList = L at hz ⊢
  rw [hz] at h
  rw [show L.getD p 0 = L.getD (p + 0) 0 from rfl, ← Lib.getD_dropU, ← Lib.getD_dropU, ← Lib.getD_dropU]
  have hl : 3 ≤ (L.drop p).length := by rw [List.length_drop]; omega
  generalize L.drop p = M at hl ⊢
  match M, hl with
  | a :: b :: c :: r, _ => rfl
/-- The rune that tells of a fault, or stands there. -/
def errAt (s : ByteArray) (p : Nat) : Bool := decide (s.size < p + 3) || !((s.extract p (p + 3)).toList == [239, 191, 189])
theorem u8nat (b : UInt8) (n : Nat) (h : n < 256) : b.toNat = n ↔ b = UInt8.ofNat n := by
  constructor
  · intro e; rw [← e]; simp
  · intro e; rw [e]; simp; omega
theorem err_iff (s : ByteArray) (p : Nat) (h : (Utf8.decode s p).1 = 65533) : ((Utf8.decode s p).2 = 1) ↔ errAt s p = true := by
  rw [Lib.decode_N] at h ⊢
  have hb := fun k => (s.data.toList.getD k 0).toNat_lt
  have hz : s.size = s.data.toList.length := Lib.size_eq s
  have h2 := decN_err _ _ _ _ _ (hb _) (hb _) (hb _) h
  unfold errAt
  rw [ByteArray.toList_eq]
  have key : (2 < s.data.toList.length - p ∧ (s.data.toList.getD p 0).toNat = 239 ∧ (s.data.toList.getD (p + 1) 0).toNat = 191 ∧ (s.data.toList.getD (p + 2) 0).toNat = 189) ↔ (decide (s.size < p + 3) || !((s.extract p (p + 3)).data.toList == [239, 191, 189])) = false := by
    by_cases hlt : s.size < p + 3
    · simp [hlt]
      omega
    · rw [ext3 s p (by omega), u8nat _ _ (by decide), u8nat _ _ (by decide), u8nat _ _ (by decide)]
      simp [hlt]
      have : 2 < s.size - p := by omega
      simp [this]
  rcases h2 with ⟨e, hn⟩ | ⟨e, hy⟩
  · rw [e]
    simp only [true_iff]
    cases hc : (decide (s.size < p + 3) || !((s.extract p (p + 3)).data.toList == [239, 191, 189])) with
    | true => rfl
    | false => exact absurd (key.2 hc) hn
  · rw [e, key.1 hy]
    simp
theorem valid_end (k : Nat) : Lib.validGoD k [] = true := by
  cases k <;> simp [Lib.validGoD]
theorem valid_step (s : ByteArray) (k p : Nat) (hp : p < s.size) : Lib.validGoD (k + 1) (s.data.toList.drop p) = if (Utf8.decode s p).1 = 65533 ∧ (Utf8.decode s p).2 = 1 then false else Lib.validGoD k (s.data.toList.drop (p + (Utf8.decode s p).2)) := by
  have hz : s.size = s.data.toList.length := Lib.size_eq s
  have hne : s.data.toList.drop p ≠ [] := by
    intro h0
    have := congrArg List.length h0
    simp at this
    omega
  rw [Lib.validGoD, if_neg hne, Lib.decodeL_drop, List.drop_drop]
set_option maxRecDepth 100000 in
set_option maxHeartbeats 400000 in
theorem refUtf_w (s : ByteArray) (w : World) (hs : s.size ≤ 140737488351232) :
    Calls Tryd.prog 32 #[.string s] w fun e w' => e = .returned (.bool (Lib.validD s.data.toList)) ∧ Below w.heap.size w w' := by
  have hz : s.size = s.data.toList.length := Lib.size_eq s
  have hbel : ∀ p, Below w.heap.size w (w.iter s p) := fun p => below_alloc w _
  obtain ⟨R, HR⟩ := named (Lib.validD s.data.toList)
  rw [← HR.out]
  have HR0 : ∃ k, s.size ≤ 0 + k ∧ Hid (R = Lib.validGoD k (s.data.toList.drop 0)) := ⟨s.size, by omega, by have h := HR.out; unfold Lib.validD at h; rw [hz, List.drop_zero]; exact h⟩
  have HZ := hide hz
  clear hz HR
  go_enter Tryd.func32, Tryd.ntmps32
  go_wp2
  go_loopw [3] (fun _ wr => ∃ p : Nat, wr = w.iter s p ∧ ∃ k, s.size ≤ p + k ∧ Hid (R = Lib.validGoD k (s.data.toList.drop p))) (fun _ wr => s.size - wr.iterPos w.heap.size)
  case atStart => exact ⟨0, rfl, HR0⟩
  case round =>
    obtain ⟨p, rfl, k, hk, HL⟩ := hrel
    by_cases hp : p < s.size
    · have hnx : ∀ ty, (Instr.next (.pointer (some ⟨w.heap.size, 0, none⟩)) true ty).run Tryd.prog (w.iter s p) = _ := fun ty => run_next_any w s p ty hp
      have hwd := Lib.width_pos s p
      obtain ⟨k, rfl⟩ : ∃ j, k = j + 1 := ⟨k - 1, by omega⟩
      have hst := valid_step s k p hp
      have herr := err_iff s p
      rw [← HL.out] at hst
      obtain ⟨r, hr⟩ := named (Utf8.decode s p).1
      obtain ⟨d, hd⟩ := named (Utf8.decode s p).2
      rw [← hr.out, ← hd.out] at hst herr
      rw [← hd.out] at hwd
      simp only [← hr.out, ← hd.out] at hnx
      clear hr hd HL HR0
      by_cases hr : r = 65533
      · have hri : ((r : Int) == 65533) = true := by rw [beq_iff_eq]; omega
        have herr2 := herr hr
        clear herr
        cases hq : errAt s p with
        | true =>
          rw [hq] at herr2
          have hd1 : d = 1 := herr2.2 rfl
          rw [if_pos ⟨hr, hd1⟩] at hst
          have HS := hide hst
          clear hst herr2 hd1 hr
          by_cases hlt : s.size < p + 3
          · have h1 : (s.size : Int) < (p : Int) + 3 := by omega
            clear hq
            go_wp2
            go_ret
            exact ⟨by rw [HS.out]; rfl, hbel _⟩
          · have h1 : ¬ (s.size : Int) < (p : Int) + 3 := by omega
            have h2 : (p : Int) + 3 ≤ (s.size : Int) := by omega
            have h3 : (p : Int) ≤ (p : Int) + 3 := by omega
            have hx : ((s.extract p (p + 3)).toList == [239, 191, 189]) = false := by
              unfold errAt at hq
              rw [decide_eq_false hlt] at hq
              simpa using hq
            clear hq
            go_wp2
            go_ret
            exact ⟨by rw [HS.out]; rfl, hbel _⟩
        | false =>
          rw [hq] at herr2
          have hd1 : ¬ d = 1 := fun h => by cases herr2.1 h
          rw [if_neg (fun h => hd1 h.2)] at hst
          have HS : Hid (R = Lib.validGoD k (s.data.toList.drop (p + d))) := hst
          have hlt : ¬ s.size < p + 3 := by
            intro h
            unfold errAt at hq
            rw [decide_eq_true h] at hq
            simp at hq
          have h1 : ¬ (s.size : Int) < (p : Int) + 3 := by omega
          have h2 : (p : Int) + 3 ≤ (s.size : Int) := by omega
          have h3 : (p : Int) ≤ (p : Int) + 3 := by omega
          have hx : ((s.extract p (p + 3)).toList == [239, 191, 189]) = true := by
            unfold errAt at hq
            rw [decide_eq_false hlt] at hq
            simpa using hq
          clear hq herr2 hst hr
          go_wp2
          go_roundw
          case rel => exact ⟨p + d, rfl, k, by omega, HS⟩
          case measure => simp; omega
      · have hri : ((r : Int) == 65533) = false := by rw [beq_eq_false_iff_ne]; omega
        rw [if_neg (fun h => hr h.1)] at hst
        have HS : Hid (R = Lib.validGoD k (s.data.toList.drop (p + d))) := hst
        clear hst herr hr
        go_wp2
        go_roundw
        case rel => exact ⟨p + d, rfl, k, by omega, HS⟩
        case measure => simp; omega
    · have hnx : ∀ ty, (Instr.next (.pointer (some ⟨w.heap.size, 0, none⟩)) true ty).run Tryd.prog (w.iter s p) = _ := fun ty => run_next_end w s p ty hp
      have hR1 : R = true := by
        rw [HL.out, List.drop_eq_nil_of_le (by rw [← HZ.out]; omega), valid_end]
      clear HL HR0
      go_wp2
      go_ret
      exact ⟨by rw [hR1]; rfl, hbel p⟩
end Go.Proofs.YtmnfmgoolimlmaaDoor
