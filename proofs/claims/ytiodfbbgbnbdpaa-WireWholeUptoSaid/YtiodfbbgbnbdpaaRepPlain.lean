/- Replies as bytes, in plain Lean: written, read, both ways; the document's reading is the program's. -/
import Derived.Test.YtiodfbbgbnbdpaaGF
namespace Go.Proofs.Ytiodfbbgbnbdpaa
set_option linter.unusedSimpArgs false
set_option linter.unusedVariables false
open Go.RowKit
open Crc
structure Rep where
  why : Int
  n : Nat
  pl : Int
  al : Bool
  ids : List ByteArray
  er : List ByteArray
deriving DecidableEq
/-- The low byte of a number. -/
def w8 (z : Int) : UInt8 := UInt8.ofNat (IntKind.u8.wrap z).toNat
theorem w8_wrap (z : Int) : IntKind.u8.wrap z = ((w8 z).toNat : Int) := by
  have h : IntKind.u8.wrap z = z % 256 := by simp [IntKind.wrap, IntKind.bits, IntKind.signed]
  have h1 := Int.emod_nonneg z (show (256 : Int) ≠ 0 by decide)
  have h2 := Int.emod_lt_of_pos z (show (0 : Int) < 256 by decide)
  unfold w8
  rw [h, UInt8.toNat_ofNat']
  omega
theorem w8_nat (c : UInt8) : w8 (c.toNat : Int) = c := by
  have h := w8_wrap (c.toNat : Int)
  have h2 : IntKind.u8.wrap (c.toNat : Int) = (c.toNat : Int) := by have := c.toNat_lt; simp [IntKind.wrap, IntKind.bits, IntKind.signed]; omega
  rw [h2] at h
  exact UInt8.toNat_inj.1 (by omega)
def bOf (b : Bool) : UInt8 := if b then 1 else 0
/-- Some texts, written. -/
def textsW (l : List ByteArray) : List UInt8 := UInt8.ofNat (min l.length 255) :: txts (l.take 255)
def texB (l : List ByteArray) : Bool := decide (255 < l.length) || longs (l.take 255)
def whyB (r : Rep) : Bool := decide (¬ ((w8 r.why).toNat : Int) = r.why) || decide (¬ ((w8 r.pl).toNat : Int) = r.pl)
def repBad (r : Rep) : Bool := whyB r || texB r.ids || texB r.er
def headW (r : Rep) : List UInt8 := w8 r.why :: (putL r.n 8 ++ [w8 r.pl, bOf r.al])
def repW (r : Rep) : List UInt8 := headW r ++ textsW r.ids ++ textsW r.er
def writeRp (r : Rep) : List UInt8 × Int := if repBad r = true then ([], 14) else (repW r, 0)
/-- Some texts, read. -/
def tsL (x : Lf) : List ByteArray × Lf := textsL (byteL x).1.toNat (byteL x).2
def flagL (x : Lf) : Lf := ⟨(byteL x).2.l, (byteL x).2.b || decide (1 < (byteL x).1.toNat)⟩
def hdL (x : Lf) : (UInt8 × Nat × UInt8 × UInt8) × Lf :=
  ((((byteL x).1, (longL (byteL x).2).1, (byteL (longL (byteL x).2).2).1, (byteL (byteL (longL (byteL x).2).2).2).1)), flagL (byteL (longL (byteL x).2).2).2)
def passL (x : Lf) : Rep × Lf :=
  (⟨((hdL x).1.1.toNat : Int), (hdL x).1.2.1, ((hdL x).1.2.2.1.toNat : Int), (hdL x).1.2.2.2 == 1, (tsL (hdL x).2).1, (tsL (tsL (hdL x).2).2).1⟩, (tsL (tsL (hdL x).2).2).2)
def readRp (l : List UInt8) : Option Rep := if endL (passL ⟨l, false⟩).2 = true then some (passL ⟨l, false⟩).1 else none
def rep0 : Rep := ⟨0, 0, 0, false, [], []⟩
structure RightR (r : Rep) : Prop where
  n : r.n < 18446744073709551616
  ok : repBad r = false
/-! ### Both ways. -/
theorem texB_ok {l : List ByteArray} (h : texB l = false) : l.length ≤ 255 ∧ l.take 255 = l ∧ ∀ t ∈ l, t.size ≤ 2048 := by
  unfold texB at h
  simp only [Bool.or_eq_false_iff, decide_eq_false_iff_not] at h
  have hl : l.length ≤ 255 := by omega
  have ht : l.take 255 = l := List.take_of_length_le hl
  refine ⟨hl, ht, ?_⟩
  rw [ht] at h
  exact (longs_iff l).1 h.2
theorem texB_iff {l : List ByteArray} : texB l = false ↔ l.length ≤ 255 ∧ ∀ t ∈ l, t.size ≤ 2048 := by
  refine ⟨fun h => ⟨(texB_ok h).1, (texB_ok h).2.2⟩, fun h => ?_⟩
  unfold texB
  have ht : l.take 255 = l := List.take_of_length_le h.1
  rw [ht, (longs_iff l).2 h.2]
  simp
  omega
theorem textsW_ok {l : List ByteArray} (h : texB l = false) : textsW l = UInt8.ofNat l.length :: txts l ∧ (UInt8.ofNat l.length).toNat = l.length := by
  obtain ⟨h1, h2, _⟩ := texB_ok h
  unfold textsW
  rw [h2, Nat.min_eq_left h1]
  refine ⟨rfl, ?_⟩
  rw [UInt8.toNat_ofNat']
  omega
theorem tsL_app {l : List ByteArray} (h : texB l = false) (r : List UInt8) : tsL ⟨textsW l ++ r, false⟩ = (l, ⟨r, false⟩) := by
  obtain ⟨h1, h2⟩ := textsW_ok h
  obtain ⟨_, _, h3⟩ := texB_ok h
  unfold tsL
  rw [h1, List.cons_append, byteL_cons]
  simp only
  rw [h2, textsL_app l r h3 l.length (Nat.le_refl _)]
  simp [txts]
theorem tsL_ok {x : Lf} (h : (tsL x).2.b = false) : x.b = false ∧ x.l = textsW (tsL x).1 ++ (tsL x).2.l ∧ texB (tsL x).1 = false := by
  obtain ⟨h1, h2, h3⟩ := textsL_ok _ h
  obtain ⟨k1, k2⟩ := byteL_ok h1
  have hl : (tsL x).1.length = (byteL x).1.toNat := textsL_length _ _
  have hlt : (byteL x).1.toNat < 256 := (byteL x).1.toNat_lt
  have hb : texB (tsL x).1 = false := texB_iff.2 ⟨by omega, h3⟩
  refine ⟨k1, ?_, hb⟩
  obtain ⟨e1, _⟩ := textsW_ok hb
  rw [e1, hl, k2]
  have : UInt8.ofNat (byteL x).1.toNat = (byteL x).1 := by simp
  rw [this, List.cons_append]
  exact congrArg _ h2
theorem bOf_le (b : Bool) : ¬ 1 < (bOf b).toNat := by cases b <;> decide
theorem bOf_one (b : Bool) : (bOf b == 1) = b := by cases b <;> decide
theorem bOf_of {c : UInt8} (h : ¬ 1 < c.toNat) : bOf (c == 1) = c := by
  have h2 : c.toNat = 0 ∨ c.toNat = 1 := by omega
  rcases h2 with h2 | h2
  · obtain rfl : c = 0 := UInt8.toNat_inj.1 h2
    rfl
  · obtain rfl : c = 1 := UInt8.toNat_inj.1 h2
    rfl
theorem hdL_app (r : Rep) (hn : r.n < 18446744073709551616) (s : List UInt8) : hdL ⟨headW r ++ s, false⟩ = ((w8 r.why, r.n, w8 r.pl, bOf r.al), ⟨s, false⟩) := by
  have e : headW r ++ s = w8 r.why :: (putL r.n 8 ++ (w8 r.pl :: (bOf r.al :: s))) := by simp [headW]
  have hf : flagL ⟨bOf r.al :: s, false⟩ = ⟨s, false⟩ := by
    unfold flagL
    rw [byteL_cons]
    simp [bOf_le]
  unfold hdL
  rw [e, byteL_cons]
  simp only
  rw [longL_app _ _ hn]
  simp only
  rw [byteL_cons]
  simp only
  rw [byteL_cons, hf]
theorem whyB_ok {r : Rep} (h : whyB r = false) : ((w8 r.why).toNat : Int) = r.why ∧ ((w8 r.pl).toNat : Int) = r.pl := by
  unfold whyB at h
  simpa using h
theorem repBad_ok {r : Rep} (h : repBad r = false) : whyB r = false ∧ texB r.ids = false ∧ texB r.er = false := by
  unfold repBad at h
  simpa [and_assoc] using h
theorem passL_app {r : Rep} (h : RightR r) (s : List UInt8) : passL ⟨repW r ++ s, false⟩ = (r, ⟨s, false⟩) := by
  obtain ⟨h1, h2, h3⟩ := repBad_ok h.ok
  obtain ⟨w1, w2⟩ := whyB_ok h1
  have e : repW r ++ s = headW r ++ (textsW r.ids ++ (textsW r.er ++ s)) := by simp [repW]
  unfold passL
  rw [e, hdL_app r h.n]
  simp only
  rw [tsL_app h2]
  simp only
  rw [tsL_app h3]
  simp only [w1, w2, bOf_one]
theorem hdL_ok {x : Lf} (h : (hdL x).2.b = false) : x.b = false ∧ x.l = (hdL x).1.1 :: (putL (hdL x).1.2.1 8 ++ [(hdL x).1.2.2.1, (hdL x).1.2.2.2]) ++ (hdL x).2.l ∧ (hdL x).1.2.1 < 18446744073709551616 ∧ ¬ 1 < (hdL x).1.2.2.2.toNat := by
  have hf : (byteL (byteL (longL (byteL x).2).2).2).2.b = false ∧ ¬ 1 < (byteL (byteL (longL (byteL x).2).2).2).1.toNat := by
    have h' : ((byteL (byteL (longL (byteL x).2).2).2).2.b || decide (1 < (byteL (byteL (longL (byteL x).2).2).2).1.toNat)) = false := h
    simpa using h'
  obtain ⟨a1, a2⟩ := byteL_ok hf.1
  obtain ⟨b1, b2⟩ := byteL_ok a1
  obtain ⟨c1, c2, c3⟩ := longL_ok b1
  obtain ⟨d1, d2⟩ := byteL_ok c1
  refine ⟨d1, ?_, c3, hf.2⟩
  show x.l = (byteL x).1 :: (putL (longL (byteL x).2).1 8 ++ [(byteL (longL (byteL x).2).2).1, (byteL (byteL (longL (byteL x).2).2).2).1]) ++ (byteL (byteL (longL (byteL x).2).2).2).2.l
  rw [d2, c2, b2, a2]
  simp
theorem passL_ok {x : Lf} (h : (passL x).2.b = false) : x.b = false ∧ RightR (passL x).1 ∧ x.l = repW (passL x).1 ++ (passL x).2.l := by
  obtain ⟨a1, a2, a3⟩ := tsL_ok (x := (tsL (hdL x).2).2) h
  obtain ⟨b1, b2, b3⟩ := tsL_ok (x := (hdL x).2) a1
  obtain ⟨c1, c2, c3, c4⟩ := hdL_ok b1
  have hw : whyB (passL x).1 = false := by
    unfold whyB passL
    simp [w8_nat]
  refine ⟨c1, ⟨c3, ?_⟩, ?_⟩
  · unfold repBad
    rw [hw, show (passL x).1.ids = (tsL (hdL x).2).1 from rfl, show (passL x).1.er = (tsL (tsL (hdL x).2).2).1 from rfl, a3, b3]
    rfl
  · have e : headW (passL x).1 = (hdL x).1.1 :: (putL (hdL x).1.2.1 8 ++ [(hdL x).1.2.2.1, (hdL x).1.2.2.2]) := by
      unfold headW passL
      simp only [w8_nat, bOf_of c4]
    unfold repW
    rw [e, show (passL x).1.ids = (tsL (hdL x).2).1 from rfl, show (passL x).1.er = (tsL (tsL (hdL x).2).2).1 from rfl, c2, b2, a2]
    show _ = _ ++ (tsL (tsL (hdL x).2).2).2.l
    simp
theorem readRp_iff {l : List UInt8} {r : Rep} : readRp l = some r ↔ RightR r ∧ l = repW r := by
  constructor
  · intro h
    unfold readRp at h
    by_cases he : endL (passL ⟨l, false⟩).2 = true
    · rw [if_pos he] at h
      cases h
      unfold endL at he
      simp only [Bool.and_eq_true, Bool.not_eq_true', decide_eq_true_eq] at he
      obtain ⟨g1, g2, g3⟩ := passL_ok he.1
      refine ⟨g2, ?_⟩
      rw [he.2, List.append_nil] at g3
      exact g3
    · rw [if_neg he] at h; cases h
  · rintro ⟨hr, rfl⟩
    have hw := passL_app hr []
    rw [List.append_nil] at hw
    unfold readRp
    rw [hw]
    exact if_pos rfl
/-! ### The document's reading. -/
def tsteps : Nat → List UInt8 → Option (List ByteArray × List UInt8)
  | 0, l => some ([], l)
  | n + 1, l => match tsteps n l with
    | none => none
    | some (ts, r) => if (tkL r).2.2 = true then some (ts ++ [str (tkL r).1], (tkL r).2.1) else none
theorem tsteps_next {n : Nat} {l r : List UInt8} {ts : List ByteArray} (h : tsteps n l = some (ts, r)) (hc : (tkL r).2.2 = true) : tsteps (n + 1) l = some (ts ++ [str (tkL r).1], (tkL r).2.1) := by
  show (match tsteps n l with | none => none | some (ts, r) => if (tkL r).2.2 = true then some (ts ++ [str (tkL r).1], (tkL r).2.1) else none) = _
  rw [h]
  exact if_pos hc
theorem tsteps_stop {n : Nat} {l r : List UInt8} {ts : List ByteArray} (h : tsteps n l = some (ts, r)) (hc : (tkL r).2.2 = false) : tsteps (n + 1) l = none := by
  show (match tsteps n l with | none => none | some (ts, r) => if (tkL r).2.2 = true then some (ts ++ [str (tkL r).1], (tkL r).2.1) else none) = _
  rw [h]
  exact if_neg (by rw [hc]; decide)
theorem tsteps_no {i n : Nat} {l : List UInt8} (h : tsteps i l = none) (hi : i ≤ n) : tsteps n l = none := by
  induction n with
  | zero =>
    obtain rfl : i = 0 := by omega
    exact h
  | succ n ih =>
    by_cases hc : i = n + 1
    · subst hc; exact h
    · have := ih (by omega)
      show (match tsteps n l with | none => none | some (ts, r) => if (tkL r).2.2 = true then some (ts ++ [str (tkL r).1], (tkL r).2.1) else none) = none
      rw [this]
theorem tsteps_yes {n : Nat} {l r : List UInt8} {ts : List ByteArray} (h : tsteps n l = some (ts, r)) : ts.length = n ∧ r.length ≤ l.length := by
  induction n generalizing ts r with
  | zero => cases h; exact ⟨rfl, Nat.le_refl _⟩
  | succ n ih =>
    have h' : (match tsteps n l with | none => none | some (ts, r) => if (tkL r).2.2 = true then some (ts ++ [str (tkL r).1], (tkL r).2.1) else none) = some (ts, r) := h
    match hs : tsteps n l with
    | none => rw [hs] at h'; cases h'
    | some (ds, q) =>
      rw [hs] at h'
      obtain ⟨h1, h2⟩ := ih hs
      simp only at h'
      by_cases hc : (tkL q).2.2 = true
      · rw [if_pos hc] at h'
        cases h'
        exact ⟨by simp [h1], Nat.le_trans (tkL_len q) h2⟩
      · rw [if_neg hc] at h'; cases h'
theorem textL_bad {x : Lf} (h : x.b = true) : (textL x).2.b = true := by
  unfold textL
  rw [takeL_no (x := x) (n := 4) (.inl h)]
  rw [takeL_no (.inl rfl)]
theorem tsteps_eq (n : Nat) (l : List UInt8) : tsteps n l = if (textsL n ⟨l, false⟩).2.b = true then none else some ((textsL n ⟨l, false⟩).1, (textsL n ⟨l, false⟩).2.l) := by
  induction n with
  | zero => rfl
  | succ n ih =>
    have e1 : textsL (n + 1) ⟨l, false⟩ = ((textsL n ⟨l, false⟩).1 ++ [str (textL (textsL n ⟨l, false⟩).2).1], (textL (textsL n ⟨l, false⟩).2).2) := rfl
    generalize textsL n ⟨l, false⟩ = Y at ih e1
    obtain ⟨ts, ⟨q, b⟩⟩ := Y
    simp only at ih e1
    cases b with
    | true =>
      rw [if_pos rfl] at ih
      rw [tsteps_no ih (Nat.le_succ n), e1, if_pos (textL_bad rfl)]
    | false =>
      rw [if_neg (by decide)] at ih
      rw [e1]
      by_cases hc : (textL ⟨q, false⟩).2.b = true
      · have ht : tkL q = ([], [], false) := if_pos hc
        rw [if_pos hc, tsteps_stop ih (by rw [ht])]
      · have ht : tkL q = ((textL ⟨q, false⟩).1, (textL ⟨q, false⟩).2.l, true) := if_neg hc
        rw [if_neg hc, tsteps_next ih (by rw [ht]), ht]
def someT : List UInt8 → Option (List ByteArray × List UInt8)
  | [] => none
  | k :: r => tsteps k.toNat r
theorem textsL_bad (n : Nat) {x : Lf} (h : x.b = true) : (textsL n x).2.b = true := by
  induction n with
  | zero => exact h
  | succ n ih => exact textL_bad ih
theorem someT_eq (l : List UInt8) : someT l = if (tsL ⟨l, false⟩).2.b = true then none else some ((tsL ⟨l, false⟩).1, (tsL ⟨l, false⟩).2.l) := by
  match l with
  | [] =>
    have hb : (tsL ⟨[], false⟩).2.b = true := by
      unfold tsL
      refine textsL_bad _ ?_
      unfold byteL
      rw [takeL_no (.inr (by decide))]
    rw [if_pos hb]
    rfl
  | k :: r =>
    have e : tsL ⟨k :: r, false⟩ = textsL k.toNat ⟨r, false⟩ := by unfold tsL; rw [byteL_cons]
    rw [e]
    exact tsteps_eq _ _
def refRp (l : List UInt8) : Option Rep :=
  if l.length < 11 ∨ 1 < (l.getD 10 0).toNat then none
  else match someT (l.drop 11) with
    | none => none
    | some (a, q) => match someT q with
      | none => none
      | some (b, s) => if s = [] then some ⟨((l.getD 0 0).toNat : Int), (numL ((l.drop 1).take 8)).1, ((l.getD 9 0).toNat : Int), l.getD 10 0 == 1, a, b⟩ else none
theorem split11 {l : List UInt8} (h : 11 ≤ l.length) : ∃ (y p f : UInt8) (n : Nat) (s : List UInt8), n < 18446744073709551616 ∧ l = y :: (putL n 8 ++ (p :: (f :: s))) ∧ l.getD 0 0 = y ∧ (numL ((l.drop 1).take 8)).1 = n ∧ l.getD 9 0 = p ∧ l.getD 10 0 = f ∧ l.drop 11 = s := by
  have h1 := takeL_yes (x := ⟨l, false⟩) (n := 1) rfl (by show 1 ≤ l.length; omega)
  have hb := byteL_ok (x := ⟨l, false⟩) (by unfold byteL; rw [h1])
  have e1 : (byteL ⟨l, false⟩).2 = ⟨l.drop 1, false⟩ := by unfold byteL; rw [h1]
  have h8 := takeL_yes (x := ⟨l.drop 1, false⟩) (n := 8) rfl (by simp; omega)
  have e2 : (longL ⟨l.drop 1, false⟩).2 = ⟨(l.drop 1).drop 8, false⟩ := by unfold longL; rw [h8]
  have hlo := longL_ok (x := ⟨l.drop 1, false⟩) (by rw [e2])
  have e2n : (longL ⟨l.drop 1, false⟩).1 = (numL ((l.drop 1).take 8)).1 := by
    unfold longL numL
    rw [h8, if_neg (by simp; omega)]
    have hl8 : ((l.drop 1).take 8).length = 8 := by simp; omega
    show gotN 8 ((l.drop 1).take 8) = getL (((l.drop 1).take 8).take 8)
    rw [List.take_of_length_le (Nat.le_of_eq hl8)]
    exact (got_yes 8 _ hl8).1
  have h9 := takeL_yes (x := ⟨(l.drop 1).drop 8, false⟩) (n := 1) rfl (by simp; omega)
  have e3 : (byteL ⟨(l.drop 1).drop 8, false⟩).2 = ⟨((l.drop 1).drop 8).drop 1, false⟩ := by unfold byteL; rw [h9]
  have hb9 := byteL_ok (x := ⟨(l.drop 1).drop 8, false⟩) (by rw [e3])
  have h10 := takeL_yes (x := ⟨((l.drop 1).drop 8).drop 1, false⟩) (n := 1) rfl (by simp; omega)
  have e4 : (byteL ⟨((l.drop 1).drop 8).drop 1, false⟩).2 = ⟨(((l.drop 1).drop 8).drop 1).drop 1, false⟩ := by unfold byteL; rw [h10]
  have hb10 := byteL_ok (x := ⟨((l.drop 1).drop 8).drop 1, false⟩) (by rw [e4])
  rw [e1] at hb
  rw [e2] at hlo
  rw [e3] at hb9
  rw [e4] at hb10
  have ed : (((l.drop 1).drop 8).drop 1).drop 1 = l.drop 11 := by simp [List.drop_drop]
  have hl := hb.2
  rw [hlo.2.1, hb9.2, hb10.2] at hl
  simp only at hl
  rw [ed] at hl
  refine ⟨_, _, _, _, _, hlo.2.2, hl, ?_, e2n.symm, ?_, ?_, rfl⟩
  · rw [hl]; rfl
  · rw [hl, List.getD_cons_succ]
    rw [List.getD_eq_getElem?_getD, List.getElem?_append_right (by rw [putL_length]; decide), putL_length]
    rfl
  · rw [hl, List.getD_cons_succ]
    rw [List.getD_eq_getElem?_getD, List.getElem?_append_right (by rw [putL_length]; decide), putL_length]
    rfl
theorem hdL_len {x : Lf} (h : (hdL x).2.b = false) : 11 ≤ x.l.length := by
  obtain ⟨_, h2, _, _⟩ := hdL_ok h
  rw [h2]
  simp [putL_length]
  omega
theorem tsL_bad {x : Lf} (h : x.b = true) : (tsL x).2.b = true := by
  unfold tsL
  refine textsL_bad _ ?_
  unfold byteL
  rw [takeL_no (.inl h)]
theorem endL_bad {x : Lf} (h : x.b = true) : endL x = false := by unfold endL; rw [h]; rfl
theorem refRp_eq (l : List UInt8) : refRp l = readRp l := by
  unfold refRp readRp
  by_cases h11 : l.length < 11
  · rw [if_pos (.inl h11)]
    have hb : (hdL ⟨l, false⟩).2.b = true := by
      cases hc : (hdL ⟨l, false⟩).2.b with
      | true => rfl
      | false => have := hdL_len hc; simp at this; omega
    have he : endL (passL ⟨l, false⟩).2 = false := endL_bad (tsL_bad (tsL_bad hb))
    rw [he, if_neg (by decide)]
  · obtain ⟨y, p, f, n, s, hn, hl, e0, e1, e9, e10, ed⟩ := split11 (Nat.le_of_not_lt h11)
    have hh : hdL ⟨l, false⟩ = ((y, n, p, f), ⟨s, decide (1 < f.toNat)⟩) := by
      have hf : flagL ⟨f :: s, false⟩ = ⟨s, decide (1 < f.toNat)⟩ := by
        unfold flagL
        rw [byteL_cons]
        simp
      unfold hdL
      rw [hl, byteL_cons]
      simp only
      rw [longL_app _ _ hn]
      simp only
      rw [byteL_cons]
      simp only
      rw [byteL_cons, hf]
    rw [e0, e1, e9, e10, ed]
    by_cases hf : 1 < f.toNat
    · rw [if_pos (.inr hf)]
      have hb : (hdL ⟨l, false⟩).2.b = true := by rw [hh]; exact decide_eq_true hf
      have he : endL (passL ⟨l, false⟩).2 = false := endL_bad (tsL_bad (tsL_bad hb))
      rw [he, if_neg (by decide)]
    · rw [if_neg (by rintro (h | h); exact h11 h; exact hf h)]
      rw [decide_eq_false hf] at hh
      have hp : passL ⟨l, false⟩ = (⟨(y.toNat : Int), n, (p.toNat : Int), f == 1, (tsL ⟨s, false⟩).1, (tsL (tsL ⟨s, false⟩).2).1⟩, (tsL (tsL ⟨s, false⟩).2).2) := by
        unfold passL
        rw [hh]
      rw [hp, someT_eq s]
      simp only
      generalize tsL ⟨s, false⟩ = Y
      obtain ⟨a, ⟨q, b⟩⟩ := Y
      cases b with
      | true =>
        simp only [if_true]
        rw [endL_bad (tsL_bad rfl)]
        rfl
      | false =>
        simp only [Bool.false_eq_true, if_false]
        rw [someT_eq q]
        generalize tsL ⟨q, false⟩ = Z
        obtain ⟨c, ⟨u, b⟩⟩ := Z
        cases b with
        | true =>
          simp only [if_true]
          rw [endL_bad rfl]
          rfl
        | false =>
          simp only [Bool.false_eq_true, if_false]
          unfold endL
          simp only [Bool.not_false, Bool.true_and, decide_eq_true_eq]
end Go.Proofs.Ytiodfbbgbnbdpaa
