/- What is written is read, and what is read was written so: in plain Lean. -/
import Derived.Test.YtiodfbbgbnbdpaaWriteAsk
namespace Go.Proofs.Ytiodfbbgbnbdpaa
open Go.RowKit
open Crc
set_option linter.unusedVariables false
theorem putL_zero (n : Nat) : putL n 0 = [] := rfl
theorem byteL_cons (c : UInt8) (l : List UInt8) : byteL ⟨c :: l, false⟩ = (c, ⟨l, false⟩) := by
  unfold byteL
  rw [takeL_yes rfl (by simp)]
  rfl
theorem takeL_ok {x : Lf} {n : Nat} (h : (takeL x n).2.b = false) : x.b = false ∧ x.l = (takeL x n).1 ++ (takeL x n).2.l ∧ (takeL x n).1.length = n := by
  by_cases hn : x.b = true ∨ x.l.length < n
  · rw [takeL_no hn] at h; cases h
  · have h1 : x.b = false := by simpa using (not_or.1 hn).1
    have h2 : n ≤ x.l.length := by omega
    rw [takeL_yes h1 h2]
    exact ⟨h1, (List.take_append_drop n x.l).symm, by simp; omega⟩
theorem takeL_app (a r : List UInt8) {n : Nat} (h : a.length = n) : takeL ⟨a ++ r, false⟩ n = (a, ⟨r, false⟩) := by
  subst h
  rw [takeL_yes rfl (by simp)]
  simp
theorem byteL_ok {x : Lf} (h : (byteL x).2.b = false) : x.b = false ∧ x.l = (byteL x).1 :: (byteL x).2.l := by
  obtain ⟨h1, h2, h3⟩ := takeL_ok (x := x) (n := 1) h
  refine ⟨h1, ?_⟩
  show x.l = (takeL x 1).1.headD 0 :: (takeL x 1).2.l
  match hh : (takeL x 1).1, h3 with
  | [c], _ => rw [h2, hh]; rfl
theorem longL_app (n : Nat) (r : List UInt8) (hn : n < 18446744073709551616) : longL ⟨putL n 8 ++ r, false⟩ = (n, ⟨r, false⟩) := by
  unfold longL
  rw [takeL_app _ _ (putL_length n 8)]
  simp only [gotN, putL_length, if_true, getL_put8 n hn]
theorem putL_getL' (l : List UInt8) : putL (getL l) l.length = l := by
  induction l with
  | nil => rfl
  | cons b l ih =>
    have hb : b.toNat < 256 := b.toNat_lt
    apply List.ext_getElem
    · simp [putL_length]
    · intro i h1 h2
      simp only [putL, List.getElem_map, List.getElem_range]
      cases i with
      | zero =>
        show byteAt (getL (b :: l)) 0 = b
        unfold byteAt
        simp only [Nat.mul_zero, Nat.pow_zero, Nat.div_one]
        rw [← UInt8.toNat_inj]
        simp [getL]
      | succ i =>
        have hi : i < l.length := by simpa using h2
        have := congrArg (fun m => m[i]?) ih
        simp only [putL, List.getElem?_map, List.getElem?_range hi, List.getElem?_eq_getElem hi, Option.map_some, Option.some.injEq] at this
        rw [List.getElem_cons_succ, ← this]
        unfold byteAt
        congr 1
        have e : getL (b :: l) / 2 ^ (8 * (i + 1)) = getL l / 2 ^ (8 * i) := by
          rw [show 8 * (i + 1) = 8 + 8 * i by omega, Nat.pow_add, ← Nat.div_div_eq_div_mul]
          congr 1
          simp [getL]
          omega
        exact e
theorem longL_ok {x : Lf} (h : (longL x).2.b = false) : x.b = false ∧ x.l = putL (longL x).1 8 ++ (longL x).2.l ∧ (longL x).1 < 18446744073709551616 := by
  obtain ⟨h1, h2, h3⟩ := takeL_ok (x := x) (n := 8) h
  refine ⟨h1, ?_, gotN8_lt⟩
  show x.l = putL (gotN 8 (takeL x 8).1) 8 ++ (takeL x 8).2.l
  have := putL_getL' (takeL x 8).1
  rw [h3] at this
  simp only [gotN, h3, if_true, this]
  exact h2
theorem textL_app (s : ByteArray) (r : List UInt8) (hs : s.size ≤ 2048) : textL ⟨txt s ++ r, false⟩ = (s.data.toList, ⟨r, false⟩) := by
  have h4 : takeL ⟨txt s ++ r, false⟩ 4 = (putL s.size 4, ⟨s.data.toList ++ r, false⟩) := by
    unfold txt
    rw [List.append_assoc]
    exact takeL_app _ _ (putL_length _ 4)
  have hn : textN ⟨txt s ++ r, false⟩ = s.size := by
    unfold textN
    rw [h4]
    simp only [gotN, putL_length, if_true, getL_put4 s.size (by omega)]
  unfold textL
  rw [hn, h4]
  have hd : decide (2048 < s.size) = false := by simpa using hs
  simp only [hd, Bool.or_false]
  exact takeL_app _ _ (by simp)
theorem textL_ok {x : Lf} (h : (textL x).2.b = false) : x.b = false ∧ x.l = txt (str (textL x).1) ++ (textL x).2.l ∧ (str (textL x).1).size ≤ 2048 := by
  have ht : textL x = takeL ⟨(takeL x 4).2.l, (takeL x 4).2.b || decide (2048 < textN x)⟩ (textN x) := rfl
  rw [ht] at h ⊢
  obtain ⟨h1, h2, h3⟩ := takeL_ok h
  simp only [Bool.or_eq_false_iff, decide_eq_false_iff_not] at h1
  obtain ⟨g1, g2, g3⟩ := takeL_ok h1.1
  have hN : textN x = getL (takeL x 4).1 := by simp only [textN, gotN, g3, if_true]
  have hp := putL_getL' (takeL x 4).1
  rw [g3, ← hN] at hp
  refine ⟨g1, ?_, by rw [str_size, h3]; omega⟩
  unfold txt
  rw [str_size, str_data, h3, hp, List.append_assoc]
  simp only at h2
  rw [← h2]
  exact g2
theorem textsL_app (ts : List ByteArray) (r : List UInt8) (h : ∀ t ∈ ts, t.size ≤ 2048) : ∀ k, k ≤ ts.length → textsL k ⟨txts ts ++ r, false⟩ = (ts.take k, ⟨txts (ts.drop k) ++ r, false⟩) := by
  intro k
  induction k with
  | zero => intro _; simp [textsL]
  | succ k ih =>
    intro hk
    have hlt : k < ts.length := hk
    have hd : ts.drop k = ts[k] :: ts.drop (k + 1) := List.drop_eq_getElem_cons hlt
    show (((textsL k ⟨txts ts ++ r, false⟩).1 ++ [str (textL (textsL k ⟨txts ts ++ r, false⟩).2).1], (textL (textsL k ⟨txts ts ++ r, false⟩).2).2) : List ByteArray × Lf) = _
    rw [ih (by omega)]
    simp only
    have e : txts (ts.drop k) ++ r = txt ts[k] ++ (txts (ts.drop (k + 1)) ++ r) := by
      rw [hd]
      show List.flatMap txt (ts[k] :: ts.drop (k + 1)) ++ r = _
      rw [List.flatMap_cons, List.append_assoc]
      rfl
    rw [e, textL_app _ _ (h _ (List.getElem_mem hlt)), str_of, List.take_succ_eq_append_getElem hlt]
theorem textsL_ok : ∀ (n : Nat) {x : Lf}, (textsL n x).2.b = false → x.b = false ∧ x.l = txts (textsL n x).1 ++ (textsL n x).2.l ∧ ∀ t ∈ (textsL n x).1, t.size ≤ 2048 := by
  intro n
  induction n with
  | zero => intro x h; exact ⟨h, by simp [textsL, txts], by simp [textsL]⟩
  | succ n ih =>
    intro x h
    have h' : (textL (textsL n x).2).2.b = false := h
    obtain ⟨g1, g2, g3⟩ := textL_ok h'
    obtain ⟨k1, k2, k3⟩ := ih g1
    refine ⟨k1, ?_, ?_⟩
    · show x.l = txts ((textsL n x).1 ++ [str (textL (textsL n x).2).1]) ++ (textL (textsL n x).2).2.l
      rw [k2, g2]
      simp [txts]
    · intro t ht
      have ht' : t ∈ (textsL n x).1 ++ [str (textL (textsL n x).2).1] := ht
      rw [List.mem_append, List.mem_singleton] at ht'
      rcases ht' with ht' | rfl
      · exact k3 t ht'
      · exact g3
end Go.Proofs.Ytiodfbbgbnbdpaa
