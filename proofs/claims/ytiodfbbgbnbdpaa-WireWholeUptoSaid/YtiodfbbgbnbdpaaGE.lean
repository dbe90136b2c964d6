/- Several small texts of this proof, one behind the other. -/
import Derived.Test.YtiodfbbgbnbdpaaWriteAsk
section
/- What is written is read, and what is read was written so: in plain Lean. -/
namespace Go.Proofs.Ytiodfbbgbnbdpaa
open Go.RowKit
open Crc
set_option linter.unusedVariables false
theorem putL_zero (n : Nat) : putL n 0 = [] := rfl
theorem byteL_cons (c : UInt8) (l : List UInt8) : byteL ⟨c :: l, false⟩ = (c, ⟨l, false⟩) := by
  unfold byteL
  rw [takeL_yes rfl (by simp)]
  rfl
theorem takeL_ok {x : Lf} {n : Nat} (h : (takeL x n).2.b = false) : x.b = false ∧ x.l = (takeL x n).1 ++ (takeL x n).2.l ∧ (takeL x n).1.length = n := by
  by_cases hn : x.b = true ∨ x.l.length < n
  · rw [takeL_no hn] at h; cases h
  · have h1 : x.b = false := by simpa using (not_or.1 hn).1
    have h2 : n ≤ x.l.length := by omega
    rw [takeL_yes h1 h2]
    exact ⟨h1, (List.take_append_drop n x.l).symm, by simp; omega⟩
theorem takeL_app (a r : List UInt8) {n : Nat} (h : a.length = n) : takeL ⟨a ++ r, false⟩ n = (a, ⟨r, false⟩) := by
  subst h
  rw [takeL_yes rfl (by simp)]
  simp
theorem byteL_ok {x : Lf} (h : (byteL x).2.b = false) : x.b = false ∧ x.l = (byteL x).1 :: (byteL x).2.l := by
  obtain ⟨h1, h2, h3⟩ := takeL_ok (x := x) (n := 1) h
  refine ⟨h1, ?_⟩
  show x.l = (takeL x 1).1.headD 0 :: (takeL x 1).2.l
  match hh : (takeL x 1).1, h3 with
  | [c], _ => rw [h2, hh]; rfl
theorem longL_app (n : Nat) (r : List UInt8) (hn : n < 18446744073709551616) : longL ⟨putL n 8 ++ r, false⟩ = (n, ⟨r, false⟩) := by
  unfold longL
  rw [takeL_app _ _ (putL_length n 8)]
  simp only [gotN, putL_length, if_true, getL_put8 n hn]
theorem putL_getL' (l : List UInt8) : putL (getL l) l.length = l := by
  induction l with
  | nil => rfl
  | cons b l ih =>
    have hb : b.toNat < 256 := b.toNat_lt
    apply List.ext_getElem
    · simp [putL_length]
    · intro i h1 h2
      simp only [putL, List.getElem_map, List.getElem_range]
      cases i with
      | zero =>
        show byteAt (getL (b :: l)) 0 = b
        unfold byteAt
        simp only [Nat.mul_zero, Nat.pow_zero, Nat.div_one]
        rw [← UInt8.toNat_inj]
        simp [getL]
      | succ i =>
        have hi : i < l.length := by simpa using h2
        have := congrArg (fun m => m[i]?) ih
        simp only [putL, List.getElem?_map, List.getElem?_range hi, List.getElem?_eq_getElem hi, Option.map_some, Option.some.injEq] at this
        rw [List.getElem_cons_succ, ← this]
        unfold byteAt
        congr 1
        have e : getL (b :: l) / 2 ^ (8 * (i + 1)) = getL l / 2 ^ (8 * i) := by
          rw [show 8 * (i + 1) = 8 + 8 * i by omega, Nat.pow_add, ← Nat.div_div_eq_div_mul]
          congr 1
          simp [getL]
          omega
        exact e
theorem longL_ok {x : Lf} (h : (longL x).2.b = false) : x.b = false ∧ x.l = putL (longL x).1 8 ++ (longL x).2.l ∧ (longL x).1 < 18446744073709551616 := by
  obtain ⟨h1, h2, h3⟩ := takeL_ok (x := x) (n := 8) h
  refine ⟨h1, ?_, gotN8_lt⟩
  show x.l = putL (gotN 8 (takeL x 8).1) 8 ++ (takeL x 8).2.l
  have := putL_getL' (takeL x 8).1
  rw [h3] at this
  simp only [gotN, h3, if_true, this]
  exact h2
theorem textL_app (s : ByteArray) (r : List UInt8) (hs : s.size ≤ 2048) : textL ⟨txt s ++ r, false⟩ = (s.data.toList, ⟨r, false⟩) := by
  have h4 : takeL ⟨txt s ++ r, false⟩ 4 = (putL s.size 4, ⟨s.data.toList ++ r, false⟩) := by
    unfold txt
    rw [List.append_assoc]
    exact takeL_app _ _ (putL_length _ 4)
  have hn : textN ⟨txt s ++ r, false⟩ = s.size := by
    unfold textN
    rw [h4]
    simp only [gotN, putL_length, if_true, getL_put4 s.size (by omega)]
  unfold textL
  rw [hn, h4]
  have hd : decide (2048 < s.size) = false := by simpa using hs
  simp only [hd, Bool.or_false]
  exact takeL_app _ _ (by simp)
theorem textL_ok {x : Lf} (h : (textL x).2.b = false) : x.b = false ∧ x.l = txt (str (textL x).1) ++ (textL x).2.l ∧ (str (textL x).1).size ≤ 2048 := by
  have ht : textL x = takeL ⟨(takeL x 4).2.l, (takeL x 4).2.b || decide (2048 < textN x)⟩ (textN x) := rfl
  rw [ht] at h ⊢
  obtain ⟨h1, h2, h3⟩ := takeL_ok h
  simp only [Bool.or_eq_false_iff, decide_eq_false_iff_not] at h1
  obtain ⟨g1, g2, g3⟩ := takeL_ok h1.1
  have hN : textN x = getL (takeL x 4).1 := by simp only [textN, gotN, g3, if_true]
  have hp := putL_getL' (takeL x 4).1
  rw [g3, ← hN] at hp
  refine ⟨g1, ?_, by rw [str_size, h3]; omega⟩
  unfold txt
  rw [str_size, str_data, h3, hp, List.append_assoc]
  simp only at h2
  rw [← h2]
  exact g2
theorem textsL_app (ts : List ByteArray) (r : List UInt8) (h : ∀ t ∈ ts, t.size ≤ 2048) : ∀ k, k ≤ ts.length → textsL k ⟨txts ts ++ r, false⟩ = (ts.take k, ⟨txts (ts.drop k) ++ r, false⟩) := by
  intro k
  induction k with
  | zero => intro _; simp [textsL]
  | succ k ih =>
    intro hk
    have hlt : k < ts.length := hk
    have hd : ts.drop k = ts[k] :: ts.drop (k + 1) := List.drop_eq_getElem_cons hlt
    show (((textsL k ⟨txts ts ++ r, false⟩).1 ++ [str (textL (textsL k ⟨txts ts ++ r, false⟩).2).1], (textL (textsL k ⟨txts ts ++ r, false⟩).2).2) : List ByteArray × Lf) = _
    rw [ih (by omega)]
    simp only
    have e : txts (ts.drop k) ++ r = txt ts[k] ++ (txts (ts.drop (k + 1)) ++ r) := by
      rw [hd]
      show List.flatMap txt (ts[k] :: ts.drop (k + 1)) ++ r = _
      rw [List.flatMap_cons, List.append_assoc]
      rfl
    rw [e, textL_app _ _ (h _ (List.getElem_mem hlt)), str_of, List.take_succ_eq_append_getElem hlt]
theorem textsL_ok : ∀ (n : Nat) {x : Lf}, (textsL n x).2.b = false → x.b = false ∧ x.l = txts (textsL n x).1 ++ (textsL n x).2.l ∧ ∀ t ∈ (textsL n x).1, t.size ≤ 2048 := by
  intro n
  induction n with
  | zero => intro x h; exact ⟨h, by simp [textsL, txts], by simp [textsL]⟩
  | succ n ih =>
    intro x h
    have h' : (textL (textsL n x).2).2.b = false := h
    obtain ⟨g1, g2, g3⟩ := textL_ok h'
    obtain ⟨k1, k2, k3⟩ := ih g1
    refine ⟨k1, ?_, ?_⟩
    · show x.l = txts ((textsL n x).1 ++ [str (textL (textsL n x).2).1]) ++ (textL (textsL n x).2).2.l
      rw [k2, g2]
      simp [txts]
    · intro t ht
      have ht' : t ∈ (textsL n x).1 ++ [str (textL (textsL n x).2).1] := ht
      rw [List.mem_append, List.mem_singleton] at ht'
      rcases ht' with ht' | rfl
      · exact k3 t ht'
      · exact g3
end Go.Proofs.Ytiodfbbgbnbdpaa
end
section
/- What is written is read, and what is read was written so: changes, requests; in plain Lean. -/
namespace Go.Proofs.Ytiodfbbgbnbdpaa
open Go.RowKit
open Crc
set_option linter.unusedVariables false
theorem packB_eq (c : Chg) : packB c = 1 :: c.k :: txts (chTexts c) := rfl
theorem chTexts_of {k : UInt8} {l : List ByteArray} (h : l.length = 4) : chTexts (chOf k l) = l ∧ (chOf k l).k = k := by
  match l, h with
  | [a, b, c, d], _ => exact ⟨rfl, rfl⟩
theorem chOf_texts (c : Chg) : chOf c.k (chTexts c) = c := rfl
theorem long_iff (c : Chg) : chLong c = false ↔ ∀ t ∈ chTexts c, t.size ≤ 2048 := by
  unfold chLong
  rw [List.any_eq_false]
  simp
theorem chTake_app (c : Chg) (r : List UInt8) (hl : chLong c = false) : chTake ⟨c.k :: (txts (chTexts c) ++ r), false⟩ = c ∧ chRest ⟨c.k :: (txts (chTexts c) ++ r), false⟩ = ⟨r, !chRight c⟩ := by
  have h4 := textsL_app (chTexts c) r ((long_iff c).1 hl) 4 (Nat.le_refl 4)
  have e1 : (chTexts c).take 4 = chTexts c := rfl
  have e2 : txts ((chTexts c).drop 4) ++ r = r := rfl
  rw [e1, e2] at h4
  have ht : chTake ⟨c.k :: (txts (chTexts c) ++ r), false⟩ = c := by
    unfold chTake
    rw [byteL_cons, h4]
    exact chOf_texts c
  refine ⟨ht, ?_⟩
  unfold chRest
  rw [ht, byteL_cons, h4]
  rfl
theorem rchL_app (c : Chg) (r : List UInt8) (hr : chRight c = true) (hl : chLong c = false) : rchL ⟨packB c ++ r, false⟩ = (some c, ⟨r, false⟩) := by
  obtain ⟨h1, h2⟩ := chTake_app c r hl
  rw [hr] at h2
  have hb : byteL ⟨packB c ++ r, false⟩ = (1, ⟨c.k :: (txts (chTexts c) ++ r), false⟩) := byteL_cons _ _
  have hc : chsL 1 ⟨c.k :: (txts (chTexts c) ++ r), false⟩ = ([c], ⟨r, false⟩) := by
    show (if false = true then _ else (chTake ⟨c.k :: (txts (chTexts c) ++ r), false⟩ :: (chsL 0 (chRest ⟨c.k :: (txts (chTexts c) ++ r), false⟩)).1, (chsL 0 (chRest ⟨c.k :: (txts (chTexts c) ++ r), false⟩)).2)) = _
    rw [if_neg (by decide), h1, h2]
    rfl
  have key : chsL (byteL ⟨packB c ++ r, false⟩).1.toNat (byteL ⟨packB c ++ r, false⟩).2 = ([c], ⟨r, false⟩) := by
    rw [hb]
    exact hc
  unfold rchL
  rw [key]
theorem chsL_one {n : Nat} {y : Lf} {c : Chg} (h1 : (chsL n y).1 = [c]) (h2 : (chsL n y).2.b = false) : n = 1 ∧ y.b = false ∧ chTake y = c ∧ (chsL n y).2 = chRest y := by
  cases n with
  | zero => simp [chsL] at h1
  | succ m =>
    by_cases hb : y.b = true
    · simp [chsL, hb] at h1
    · simp only [chsL, if_neg hb] at h1 h2 ⊢
      obtain ⟨e1, e2⟩ := List.cons.inj h1
      cases m with
      | zero => exact ⟨rfl, by simpa using hb, e1, rfl⟩
      | succ m =>
        exfalso
        by_cases hr : (chRest y).b = true
        · simp only [chsL, if_pos hr] at h2
          rw [hr] at h2; cases h2
        · simp [chsL, if_neg hr] at e2
theorem rchL_ok {x : Lf} (h : (rchL x).2.b = false) : ∃ c, (rchL x).1 = some c ∧ x.b = false ∧ x.l = packB c ++ (rchL x).2.l ∧ chRight c = true ∧ chLong c = false := by
  have hr : rchL x = match (chsL (byteL x).1.toNat (byteL x).2).1, (chsL (byteL x).1.toNat (byteL x).2).2.b with
    | [c], false => (some c, (chsL (byteL x).1.toNat (byteL x).2).2)
    | _, _ => (none, ⟨(chsL (byteL x).1.toNat (byteL x).2).2.l, true⟩) := rfl
  match h1 : (chsL (byteL x).1.toNat (byteL x).2).1, h2 : (chsL (byteL x).1.toNat (byteL x).2).2.b with
  | [c], false =>
    rw [h1, h2] at hr
    rw [hr]
    obtain ⟨hn, hy, hc, hs⟩ := chsL_one h1 h2
    rw [hs] at h2 ⊢
    have hrest : chRest (byteL x).2 = ⟨(textsL 4 (byteL (byteL x).2).2).2.l, (textsL 4 (byteL (byteL x).2).2).2.b || !chRight (chTake (byteL x).2)⟩ := rfl
    rw [hrest] at h2 ⊢
    simp only [Bool.or_eq_false_iff, Bool.not_eq_false'] at h2
    obtain ⟨g1, g2, g3⟩ := textsL_ok 4 h2.1
    obtain ⟨k1, k2⟩ := byteL_ok g1
    obtain ⟨m1, m2⟩ := byteL_ok hy
    have htl := textsL_length 4 (byteL (byteL x).2).2
    have hct : chTake (byteL x).2 = chOf (byteL (byteL x).2).1 (textsL 4 (byteL (byteL x).2).2).1 := rfl
    obtain ⟨t1, t2⟩ := chTexts_of (k := (byteL (byteL x).2).1) htl
    rw [← hct, hc] at t1 t2
    have hb1 : (byteL x).1 = 1 := UInt8.toNat_inj.1 hn
    refine ⟨c, rfl, m1, ?_, by rw [← hc]; exact h2.2, (long_iff c).2 (by rw [t1]; exact g3)⟩
    rw [m2, k2, g2, packB_eq, hb1, t1, t2]
    rfl
  | [], false => rw [h1, h2] at hr; rw [hr] at h; cases h
  | _ :: _ :: _, false => rw [h1, h2] at hr; rw [hr] at h; cases h
  | [], true => rw [h1, h2] at hr; rw [hr] at h; cases h
  | [_], true => rw [h1, h2] at hr; rw [hr] at h; cases h
  | _ :: _ :: _, true => rw [h1, h2] at hr; rw [hr] at h; cases h
/-- Fields that a request's kind has not are zero. -/
def bareA (a : Ask) : Ask :=
  if a.k = 1 ∨ a.k = 7 ∨ a.k = 8 then askOf a.k
  else if a.k = 2 then ⟨a.k, a.n, a.c, 0, List.replicate 7 e0⟩
  else if a.k = 3 ∨ a.k = 4 then ⟨a.k, a.n, chg0, 0, List.replicate 7 e0⟩
  else if a.k = 5 then ⟨a.k, 0, chg0, 0, a.ts⟩
  else ⟨a.k, 0, chg0, a.v, a.ts⟩
structure RightA (a : Ask) : Prop where
  ts : a.ts.length = 7
  n : a.n < 18446744073709551616
  v : a.v < 18446744073709551616
  ok : (encW a).2 = false
  bare : a = bareA a
theorem packR_ok {c : Chg} (h : decide ((packR c).2 ≠ 0) = false) : chRight c = true ∧ chLong c = false ∧ (packR c).1 = packB c := by
  unfold packR at h ⊢
  cases hr : chRight c with
  | false => simp [hr] at h
  | true =>
    cases hl : chLong c with
    | true => simp [hr, hl] at h
    | false => exact ⟨rfl, rfl, rfl⟩
theorem packR_yes {c : Chg} (hr : chRight c = true) (hl : chLong c = false) : packR c = (packB c, 0) := by simp [packR, hr, hl]
theorem longs_iff (l : List ByteArray) : longs l = false ↔ ∀ t ∈ l, t.size ≤ 2048 := by
  unfold longs
  rw [List.any_eq_false]
  simp
/-- What is written is read. -/
theorem walkR_app {a : Ask} (h : RightA a) (r : List UInt8) : walkR (askOf a.k) ⟨(encW a).1 ++ r, false⟩ = (a, ⟨r, false⟩) := by
  obtain ⟨hts, hn, hv, hok, hb⟩ := h
  have hk : (askOf a.k).k = a.k := rfl
  unfold walkR
  rw [hk]
  unfold encW at hok ⊢
  unfold bareA at hb
  by_cases c1 : a.k = 1 ∨ a.k = 7 ∨ a.k = 8
  · rw [if_pos c1] at hb hok ⊢
    rw [if_pos c1, ← hb]
    rfl
  rw [if_neg c1] at hb hok ⊢
  rw [if_neg c1]
  by_cases c2 : a.k = 2
  · rw [if_pos c2] at hb hok ⊢
    rw [if_pos c2]
    obtain ⟨q1, q2, q3⟩ := packR_ok hok
    simp only [List.append_assoc]
    rw [longL_app _ _ hn]
    simp only
    rw [q3, rchL_app _ _ q1 q2]
    refine Prod.ext ?_ rfl
    rw [hb]
    rfl
  rw [if_neg c2] at hb hok ⊢
  rw [if_neg c2]
  by_cases c3 : a.k = 3 ∨ a.k = 4
  · rw [if_pos c3] at hb hok ⊢
    rw [if_pos c3]
    simp only
    rw [longL_app _ _ hn]
    refine Prod.ext ?_ rfl
    rw [hb]
    rfl
  rw [if_neg c3] at hb hok ⊢
  rw [if_neg c3]
  have h7 : a.ts.take 7 = a.ts := List.take_of_length_le (by omega)
  have h70 : a.ts.drop 7 = [] := List.drop_of_length_le (by omega)
  by_cases c5 : a.k = 5
  · rw [if_pos c5] at hb hok ⊢
    rw [if_pos c5]
    simp only
    rw [textsL_app a.ts r ((longs_iff _).1 hok) 7 (by omega), h7, h70]
    refine Prod.ext ?_ rfl
    rw [hb]
    rfl
  rw [if_neg c5] at hb hok ⊢
  rw [if_neg c5]
  by_cases c6 : a.k = 6
  · rw [if_pos c6] at hok ⊢
    rw [if_pos c6]
    simp only [List.append_assoc]
    rw [longL_app _ _ hv]
    simp only
    rw [textsL_app a.ts r ((longs_iff _).1 hok) 7 (by omega), h7, h70]
    refine Prod.ext ?_ rfl
    rw [hb]
    rfl
  · rw [if_neg c6] at hok
    cases hok
/-- What is read was written so. -/
theorem walkR_ok {k : UInt8} {x : Lf} (h : (walkR (askOf k) x).2.b = false) : x.b = false ∧ RightA (walkR (askOf k) x).1 ∧ (walkR (askOf k) x).1.k = k ∧ x.l = (encW (walkR (askOf k) x).1).1 ++ (walkR (askOf k) x).2.l := by
  have hk : (askOf k).k = k := rfl
  unfold walkR at h ⊢
  rw [hk] at h ⊢
  by_cases c1 : k = 1 ∨ k = 7 ∨ k = 8
  · rw [if_pos c1] at h ⊢
    have e : encW (askOf k) = ([], false) := if_pos c1
    have eb : bareA (askOf k) = askOf k := if_pos c1
    exact ⟨h, ⟨rfl, by show (0 : Nat) < _; decide, by show (0 : Nat) < _; decide, by rw [e], eb.symm⟩, rfl, by rw [e]; rfl⟩
  rw [if_neg c1] at h ⊢
  by_cases c2 : k = 2
  · rw [if_pos c2] at h ⊢
    obtain ⟨c, q1, q2, q3, q4, q5⟩ := rchL_ok h
    obtain ⟨g1, g2, g3⟩ := longL_ok q2
    simp only at h ⊢
    rw [q1]
    have e : encW (withC (withN (askOf k) (longL x).1) (some c)) = (putL (longL x).1 8 ++ (packR c).1, decide ((packR c).2 ≠ 0)) := by
      show encW ⟨k, (longL x).1, c, 0, List.replicate 7 e0⟩ = _
      unfold encW
      rw [if_neg c1, if_pos c2]
    have eb : bareA (withC (withN (askOf k) (longL x).1) (some c)) = withC (withN (askOf k) (longL x).1) (some c) := by
      show bareA ⟨k, (longL x).1, c, 0, List.replicate 7 e0⟩ = _
      unfold bareA
      rw [if_neg c1, if_pos c2]
      rfl
    rw [packR_yes q4 q5] at e
    refine ⟨g1, ⟨rfl, g3, by show (0 : Nat) < _; decide, by rw [e]; rfl, eb.symm⟩, rfl, ?_⟩
    rw [e, g2, q3, List.append_assoc]
  rw [if_neg c2] at h ⊢
  by_cases c3 : k = 3 ∨ k = 4
  · rw [if_pos c3] at h ⊢
    obtain ⟨g1, g2, g3⟩ := longL_ok h
    simp only
    have e : encW (withN (askOf k) (longL x).1) = (putL (longL x).1 8, false) := by
      show encW ⟨k, (longL x).1, chg0, 0, List.replicate 7 e0⟩ = _
      unfold encW
      rw [if_neg c1, if_neg c2, if_pos c3]
    have eb : bareA (withN (askOf k) (longL x).1) = withN (askOf k) (longL x).1 := by
      show bareA ⟨k, (longL x).1, chg0, 0, List.replicate 7 e0⟩ = _
      unfold bareA
      rw [if_neg c1, if_neg c2, if_pos c3]
      rfl
    refine ⟨g1, ⟨rfl, g3, by show (0 : Nat) < _; decide, by rw [e], eb.symm⟩, rfl, ?_⟩
    rw [e]
    exact g2
  rw [if_neg c3] at h ⊢
  by_cases c5 : k = 5
  · rw [if_pos c5] at h ⊢
    obtain ⟨g1, g2, g3⟩ := textsL_ok 7 h
    simp only
    have e : encW (withT (askOf k) (textsL 7 x).1) = (txts (textsL 7 x).1, longs (textsL 7 x).1) := by
      show encW ⟨k, 0, chg0, 0, (textsL 7 x).1⟩ = _
      unfold encW
      rw [if_neg c1, if_neg c2, if_neg c3, if_pos c5]
    have eb : bareA (withT (askOf k) (textsL 7 x).1) = withT (askOf k) (textsL 7 x).1 := by
      show bareA ⟨k, 0, chg0, 0, (textsL 7 x).1⟩ = _
      unfold bareA
      rw [if_neg c1, if_neg c2, if_neg c3, if_pos c5]
      rfl
    refine ⟨g1, ⟨textsL_length _ _, by show (0 : Nat) < _; decide, by show (0 : Nat) < _; decide, by rw [e]; exact (longs_iff _).2 g3, eb.symm⟩, rfl, ?_⟩
    rw [e]
    exact g2
  rw [if_neg c5] at h ⊢
  by_cases c6 : k = 6
  · rw [if_pos c6] at h ⊢
    obtain ⟨m1, m2, m3⟩ := textsL_ok 7 h
    obtain ⟨g1, g2, g3⟩ := longL_ok m1
    simp only
    have e : encW (withT (withV (askOf k) (longL x).1) (textsL 7 (longL x).2).1) = (putL (longL x).1 8 ++ txts (textsL 7 (longL x).2).1, longs (textsL 7 (longL x).2).1) := by
      show encW ⟨k, 0, chg0, (longL x).1, (textsL 7 (longL x).2).1⟩ = _
      unfold encW
      rw [if_neg c1, if_neg c2, if_neg c3, if_neg c5, if_pos c6]
    have eb : bareA (withT (withV (askOf k) (longL x).1) (textsL 7 (longL x).2).1) = withT (withV (askOf k) (longL x).1) (textsL 7 (longL x).2).1 := by
      show bareA ⟨k, 0, chg0, (longL x).1, (textsL 7 (longL x).2).1⟩ = _
      unfold bareA
      rw [if_neg c1, if_neg c2, if_neg c3, if_neg c5]
      rfl
    refine ⟨g1, ⟨textsL_length _ _, by show (0 : Nat) < _; decide, g3, by rw [e]; exact (longs_iff _).2 m3, eb.symm⟩, rfl, ?_⟩
    rw [e, g2, m2, List.append_assoc]
  · rw [if_neg c6] at h
    cases h
theorem readA_iff {l : List UInt8} {a : Ask} : readA l = some a ↔ RightA a ∧ l = a.k :: (encW a).1 := by
  constructor
  · intro h
    unfold readA at h
    by_cases he : endL (walkR (askOf (byteL ⟨l, false⟩).1) (byteL ⟨l, false⟩).2).2 = true
    · rw [if_pos he] at h
      have ha := Option.some.inj h
      unfold endL at he
      simp only [Bool.and_eq_true, Bool.not_eq_true', decide_eq_true_eq] at he
      obtain ⟨g1, g2, g3, g4⟩ := walkR_ok he.1
      obtain ⟨k1, k2⟩ := byteL_ok g1
      rw [he.2, List.append_nil] at g4
      rw [ha] at g2 g3 g4
      refine ⟨g2, ?_⟩
      rw [g3, ← g4]
      exact k2
    · rw [if_neg he] at h; cases h
  · rintro ⟨hr, rfl⟩
    have hw := walkR_app hr []
    rw [List.append_nil] at hw
    unfold readA
    rw [byteL_cons, hw]
    exact if_pos rfl
theorem writeA_eq {a : Ask} [Decidable (RightA a)] : writeA a = if RightA a then (a.k :: (encW a).1, 0) else ([], 14) := by
  unfold writeA
  by_cases h : RightA a
  · rw [if_pos h, if_pos ⟨h.ok, readA_iff.2 ⟨h, rfl⟩⟩]
  · rw [if_neg h, if_neg (fun hh => h (readA_iff.1 hh.2).1)]
end Go.Proofs.Ytiodfbbgbnbdpaa
end
