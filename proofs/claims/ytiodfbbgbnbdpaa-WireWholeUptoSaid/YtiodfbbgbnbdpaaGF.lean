/- Several small texts of this proof, one behind the other. -/
import Derived.Test.YtiodfbbgbnbdpaaGE
import Derived.Test.YtiodfbbgbnbdpaaGI
import Derived.OwnWalk
section
/- The document's reading of a text and of a number: lictorref16.Taken, lictorref19.number. -/
namespace Go.Proofs.Ytiodfbbgbnbdpaa
set_option linter.unusedSimpArgs false
set_option linter.unusedVariables false
open Go.RowKit
open Crc
/-- The text with which bytes begin. -/
def tkL (l : List UInt8) : List UInt8 × List UInt8 × Bool := if (textL ⟨l, false⟩).2.b = true then ([], [], false) else ((textL ⟨l, false⟩).1, (textL ⟨l, false⟩).2.l, true)
theorem tkL_short {l : List UInt8} (h : l.length < 4) : tkL l = ([], [], false) := by
  refine if_pos ?_
  unfold textL
  rw [takeL_no (x := ⟨l, false⟩) (n := 4) (.inr h)]
  rw [takeL_no (.inl rfl)]
theorem textN_of {l : List UInt8} (h : 4 ≤ l.length) : textN ⟨l, false⟩ = getL (l.take 4) := by
  unfold textN
  rw [takeL_yes rfl h]
  simp [gotN, h]
theorem tkL_no {l : List UInt8} (h : 4 ≤ l.length) (h2 : 2048 < getL (l.take 4) ∨ l.length - 4 < getL (l.take 4)) : tkL l = ([], [], false) := by
  refine if_pos ?_
  unfold textL
  rw [textN_of h, takeL_yes (x := ⟨l, false⟩) (n := 4) rfl h]
  rw [takeL_no]
  rcases h2 with h2 | h2
  · exact .inl (by simp [h2])
  · exact .inr (by simpa using h2)
theorem tkL_yes {l : List UInt8} (h : 4 ≤ l.length) (h1 : getL (l.take 4) ≤ 2048) (h2 : getL (l.take 4) ≤ l.length - 4) : tkL l = ((l.drop 4).take (getL (l.take 4)), l.drop (4 + getL (l.take 4)), true) := by
  have e : textL ⟨l, false⟩ = ((l.drop 4).take (getL (l.take 4)), ⟨l.drop (4 + getL (l.take 4)), false⟩) := by
    unfold textL
    rw [textN_of h, takeL_yes (x := ⟨l, false⟩) (n := 4) rfl h]
    rw [takeL_yes (by simp; omega) (by simpa using h2)]
    rw [List.drop_drop]
  unfold tkL
  rw [e]
  rfl
theorem tkL_app (s : ByteArray) (r : List UInt8) (hs : s.size ≤ 2048) : tkL (txt s ++ r) = (s.data.toList, r, true) := by
  unfold tkL
  rw [textL_app s r hs]
  rfl
theorem tkL_len (l : List UInt8) : (tkL l).2.1.length ≤ l.length := by
  unfold tkL
  split
  · simp
  · exact textL_len ⟨l, false⟩
/-- The number with which bytes begin. -/
def numL (l : List UInt8) : Nat × List UInt8 × Bool := if l.length < 8 then (0, [], false) else (getL (l.take 8), l.drop 8, true)
theorem numL_app (n : Nat) (r : List UInt8) (hn : n < 18446744073709551616) : numL (putL n 8 ++ r) = (n, r, true) := by
  have hl := putL_length n 8
  unfold numL
  rw [if_neg (by rw [List.length_append]; omega), List.take_left' hl, List.drop_left' hl, getL_put8 n hn]
theorem numL_lt (l : List UInt8) : (numL l).1 < 18446744073709551616 := by
  unfold numL
  split
  · decide
  · rename_i h
    have := getL_lt (l.take 8)
    rw [show (l.take 8).length = 8 by simp; omega] at this
    exact this
theorem numL_len (l : List UInt8) : (numL l).2.1.length ≤ l.length := by
  unfold numL
  split <;> simp
theorem getL4 (l : List UInt8) : getL (l.take 4) < 4294967296 := by
  have := getL_lt (l.take 4)
  refine Nat.lt_of_lt_of_le this ?_
  have h : (l.take 4).length ≤ 4 := by simp; omega
  exact Nat.pow_le_pow_right (by decide : 0 < 256) h
set_option maxRecDepth 100000 in
set_option maxHeartbeats 1000000 in
theorem refTaken_w (s : ByteArray) (w : World) (hs : s.size ≤ 140737488351232) :
    Calls Try.prog 29 #[.string s] w fun e w' => e = .returned (.tuple #[.string (str (tkL s.data.toList).1), .string (str (tkL s.data.toList).2.1), .bool (tkL s.data.toList).2.2]) ∧ Below w.heap.size w w' := by
  have hb := Below.refl w.heap.size w
  by_cases h4 : s.size < 4
  · rw [tkL_short (by simpa using h4)]
    have t1 : (s.size : Int) < 4 := by omega
    clear h4
    go_enter Try.func29, Try.ntmps29
    go_wp2
    go_ret3
    exact ⟨rfl, hb⟩
  · have hl4 : 4 ≤ s.data.toList.length := by simpa using h4
    have t1 : ¬ (s.size : Int) < 4 := by omega
    have hx : s.extract 0 4 = str (s.data.toList.take 4) := by
      have := str_extract s.data.toList 0 4
      rw [str_of] at this
      simpa using this
    have hg := fun W => refget32_w (str (s.data.toList.take 4)) W (by rw [str_size]; simp; unfold maxLen; omega)
    rw [str_data] at hg
    have hgot : gotN 4 (s.data.toList.take 4) = getL (s.data.toList.take 4) := (got_yes 4 _ (by simp; omega)).1
    rw [hgot] at hg
    have hlt := getL4 s.data.toList
    have hE : gotE 4 (s.data.toList.take 4) = 0 := (got_yes 4 _ (by simp; omega)).2
    have hno := @tkL_no s.data.toList hl4
    have hyes := @tkL_yes s.data.toList hl4
    have hdr : ∀ n : Nat, s.extract (4 + n) s.size = str (s.data.toList.drop (4 + n)) := fun n => by
      have := str_extract s.data.toList (4 + n) s.size
      rw [str_of] at this
      rw [this, List.take_of_length_le (by simp)]
    have htk : ∀ n : Nat, s.extract 4 (4 + n) = str ((s.data.toList.drop 4).take n) := fun n => by
      have := str_extract s.data.toList 4 (4 + n)
      rw [str_of] at this
      rw [this]
      congr 1
      rw [Nat.add_sub_cancel_left]
    have hsz : s.data.toList.length = s.size := by simp
    rw [hsz] at hno hyes
    obtain ⟨n, hn⟩ := named (getL (s.data.toList.take 4))
    obtain ⟨X, hX⟩ := named (str (s.data.toList.take 4))
    rw [← hn.out] at hno hyes hlt
    simp only [← hn.out, ← hX.out] at hg
    rw [← hX.out] at hx
    clear hn hX hgot hE hl4 hsz
    have hwn : IntKind.i64.wrap (n : Int) = (n : Int) := by simp [IntKind.wrap, IntKind.bits, IntKind.signed]; omega
    by_cases c1 : 2048 < n
    · rw [hno (.inl c1)]
      have t2 : (2048 : Int) < (n : Int) := by omega
      clear hno hyes htk hdr c1
      go_enter Try.func29, Try.ntmps29
      go_wp2_with fail
      refine (hg _).mono ?_
      rintro e w1 ⟨rfl, rfl⟩
      clear hg
      go_wp2
      go_ret3
      exact ⟨rfl, hb⟩
    · have t2 : ¬ (2048 : Int) < (n : Int) := by omega
      by_cases c2 : s.size - 4 < n
      · rw [hno (.inr c2)]
        have t3 : (s.size : Int) - 4 < (n : Int) := by omega
        clear hno hyes htk hdr c1 c2
        go_enter Try.func29, Try.ntmps29
        go_wp2_with fail
        refine (hg _).mono ?_
        rintro e w1 ⟨rfl, rfl⟩
        clear hg
        go_wp2
        go_ret3
        exact ⟨rfl, hb⟩
      · rw [hyes (by omega) (by omega)]
        have t3 : ¬ (s.size : Int) - 4 < (n : Int) := by omega
        have hle : 4 + n ≤ s.size := by omega
        rw [← htk n, ← hdr n]
        clear hno hyes htk hdr
        go_enter Try.func29, Try.ntmps29
        go_wp2_with fail
        refine (hg _).mono ?_
        rintro e w1 ⟨rfl, rfl⟩
        clear hg
        go_wp2_with (go_quiet (fail))
        go_ret3
        exact ⟨rfl, below_drewN hb _⟩
set_option maxRecDepth 100000 in
set_option maxHeartbeats 1000000 in
theorem refNumber_w (s : ByteArray) (w : World) (hs : s.size ≤ 140737488351232) :
    Calls Try.prog 27 #[.string s] w fun e w' => e = .returned (.tuple #[.int .u64 ((numL s.data.toList).1 : Int), .string (str (numL s.data.toList).2.1), .bool (numL s.data.toList).2.2]) ∧ Below w.heap.size w w' := by
  have hb := Below.refl w.heap.size w
  have hsz : s.data.toList.length = s.size := by simp
  unfold numL
  rw [hsz]
  by_cases h4 : s.size < 8
  · rw [if_pos h4]
    have t1 : (s.size : Int) < 8 := by omega
    clear h4
    go_enter Try.func27, Try.ntmps27
    go_wp2
    go_ret3
    exact ⟨rfl, hb⟩
  · rw [if_neg h4]
    have t1 : ¬ (s.size : Int) < 8 := by omega
    have hx : s.extract 0 8 = str (s.data.toList.take 8) := by
      have := str_extract s.data.toList 0 8
      rw [str_of] at this
      simpa using this
    have hg := fun W => refget64_w (str (s.data.toList.take 8)) W (by rw [str_size]; simp; unfold maxLen; omega)
    rw [str_data] at hg
    have hgot : gotN 8 (s.data.toList.take 8) = getL (s.data.toList.take 8) := (got_yes 8 _ (by simp; omega)).1
    rw [hgot] at hg
    have hdr : s.extract 8 s.size = str (s.data.toList.drop 8) := by
      have := str_extract s.data.toList 8 s.size
      rw [str_of] at this
      rw [this, List.take_of_length_le (by simp)]
    rw [← hdr]
    have hle : 8 ≤ s.size := by omega
    obtain ⟨n, hn⟩ := named (getL (s.data.toList.take 8))
    obtain ⟨X, hX⟩ := named (str (s.data.toList.take 8))
    simp only [← hn.out, ← hX.out] at hg
    rw [← hX.out] at hx
    rw [← hn.out]
    clear hn hX hgot hsz hdr h4
    go_enter Try.func27, Try.ntmps27
    go_wp2_with fail
    refine (hg _).mono ?_
    rintro e w1 ⟨rfl, rfl⟩
    clear hg
    go_wp2_with (go_quiet (fail))
    go_ret3
    exact ⟨rfl, below_drewN hb _⟩
end Go.Proofs.Ytiodfbbgbnbdpaa
end
section
/- What the document reads bytes as, in plain Lean: it is what the program reads. -/
namespace Go.Proofs.Ytiodfbbgbnbdpaa
set_option linter.unusedSimpArgs false
set_option linter.unusedVariables false
open Go.RowKit
open Crc
/-- So many texts. -/
def takesL : Nat → List UInt8 → List ByteArray × List UInt8 × Bool
  | 0, l => ([], l, true)
  | m + 1, l => ((takesL m l).1 ++ [str (tkL (takesL m l).2.1).1], (tkL (takesL m l).2.1).2.1, (takesL m l).2.2 && (tkL (takesL m l).2.1).2.2)
theorem takesL_length (m : Nat) (l : List UInt8) : (takesL m l).1.length = m := by
  induction m with
  | zero => rfl
  | succ m ih => simp [takesL, ih]
theorem takesL_len (m : Nat) (l : List UInt8) : (takesL m l).2.1.length ≤ l.length := by
  induction m with
  | zero => exact Nat.le_refl _
  | succ m ih => exact Nat.le_trans (tkL_len _) ih
theorem takesL_app (ts : List ByteArray) (r : List UInt8) (h : ∀ t ∈ ts, t.size ≤ 2048) : ∀ k, k ≤ ts.length → takesL k (txts ts ++ r) = (ts.take k, txts (ts.drop k) ++ r, true) := by
  intro k
  induction k with
  | zero => intro _; simp [takesL]
  | succ k ih =>
    intro hk
    have hlt : k < ts.length := hk
    have e := ih (Nat.le_of_lt hlt)
    have hd : ts.drop k = ts[k] :: ts.drop (k + 1) := List.drop_eq_getElem_cons hlt
    have ht : txts (ts.drop k) = txt ts[k] ++ txts (ts.drop (k + 1)) := by rw [hd]; rfl
    have e2 : tkL (takesL k (txts ts ++ r)).2.1 = (ts[k].data.toList, txts (ts.drop (k + 1)) ++ r, true) := by
      rw [e]
      show tkL (txts (ts.drop k) ++ r) = _
      rw [ht, List.append_assoc]
      exact tkL_app _ _ (h _ (List.getElem_mem hlt))
    show ((takesL k (txts ts ++ r)).1 ++ [str (tkL (takesL k (txts ts ++ r)).2.1).1], (tkL (takesL k (txts ts ++ r)).2.1).2.1, (takesL k (txts ts ++ r)).2.2 && (tkL (takesL k (txts ts ++ r)).2.1).2.2) = _
    rw [e2, e]
    simp only [str_of, Bool.and_true]
    rw [List.take_succ_eq_append_getElem hlt]
/-- The change with which bytes begin. -/
def oneL : List UInt8 → Chg × List UInt8 × Bool
  | [] => (chg0, [], false)
  | k :: r => (chOf k (takesL 4 r).1, (takesL 4 r).2.1, (takesL 4 r).2.2 && chRight (chOf k (takesL 4 r).1))
theorem oneL_len (l : List UInt8) : (oneL l).2.1.length ≤ l.length := by
  match l with
  | [] => exact Nat.le_refl _
  | k :: r => exact Nat.le_trans (takesL_len 4 r) (by simp)
theorem oneL_app (c : Chg) (r : List UInt8) (hr : chRight c = true) (hl : chLong c = false) : oneL (c.k :: (txts (chTexts c) ++ r)) = (c, r, true) := by
  have h4 := takesL_app (chTexts c) r ((long_iff c).1 hl) 4 (Nat.le_refl 4)
  have e1 : (chTexts c).take 4 = chTexts c := rfl
  have e2 : txts ((chTexts c).drop 4) ++ r = r := rfl
  rw [e1, e2] at h4
  show (chOf c.k (takesL 4 (txts (chTexts c) ++ r)).1, (takesL 4 (txts (chTexts c) ++ r)).2.1, (takesL 4 (txts (chTexts c) ++ r)).2.2 && chRight (chOf c.k (takesL 4 (txts (chTexts c) ++ r)).1)) = _
  rw [h4]
  simp only [chOf_texts, hr, Bool.and_true]
/-- So many changes. -/
def stepsL : Nat → List UInt8 → Option (List Chg × List UInt8)
  | 0, l => some ([], l)
  | n + 1, l => match stepsL n l with
    | none => none
    | some (cs, r) => if (oneL r).2.2 = true then some (cs ++ [(oneL r).1], (oneL r).2.1) else none
theorem stepsL_no {i n : Nat} {l : List UInt8} (h : stepsL i l = none) (hi : i ≤ n) : stepsL n l = none := by
  induction n with
  | zero => obtain rfl : i = 0 := by omega
            exact h
  | succ n ih =>
    by_cases hc : i = n + 1
    · subst hc; exact h
    · have := ih (by omega)
      show (match stepsL n l with | none => none | some (cs, r) => if (oneL r).2.2 = true then some (cs ++ [(oneL r).1], (oneL r).2.1) else none) = none
      rw [this]
theorem stepsL_yes {n : Nat} {l r : List UInt8} {cs : List Chg} (h : stepsL n l = some (cs, r)) : cs.length = n ∧ r.length ≤ l.length := by
  induction n generalizing cs r with
  | zero => cases h; exact ⟨rfl, Nat.le_refl _⟩
  | succ n ih =>
    have h' : (match stepsL n l with | none => none | some (cs, r) => if (oneL r).2.2 = true then some (cs ++ [(oneL r).1], (oneL r).2.1) else none) = some (cs, r) := h
    match hs : stepsL n l with
    | none => rw [hs] at h'; cases h'
    | some (ds, q) =>
      rw [hs] at h'
      obtain ⟨h1, h2⟩ := ih hs
      simp only at h'
      by_cases hc : (oneL q).2.2 = true
      · rw [if_pos hc] at h'
        cases h'
        exact ⟨by simp [h1], Nat.le_trans (oneL_len q) h2⟩
      · rw [if_neg hc] at h'; cases h'
theorem stepsL_next {n : Nat} {l r : List UInt8} {cs : List Chg} (h : stepsL n l = some (cs, r)) (hc : (oneL r).2.2 = true) : stepsL (n + 1) l = some (cs ++ [(oneL r).1], (oneL r).2.1) := by
  show (match stepsL n l with | none => none | some (cs, r) => if (oneL r).2.2 = true then some (cs ++ [(oneL r).1], (oneL r).2.1) else none) = _
  rw [h]
  exact if_pos hc
theorem stepsL_stop {n : Nat} {l r : List UInt8} {cs : List Chg} (h : stepsL n l = some (cs, r)) (hc : (oneL r).2.2 = false) : stepsL (n + 1) l = none := by
  show (match stepsL n l with | none => none | some (cs, r) => if (oneL r).2.2 = true then some (cs ++ [(oneL r).1], (oneL r).2.1) else none) = _
  rw [h]
  exact if_neg (by rw [hc]; decide)
def someL : List UInt8 → Option (List Chg × List UInt8)
  | [] => none
  | k :: r => stepsL k.toNat r
def unpackL (l : List UInt8) : Option (List Chg) := match someL l with
  | some (cs, []) => some cs
  | _ => none
theorem unpackL_app (c : Chg) (hr : chRight c = true) (hl : chLong c = false) : unpackL (packB c) = some [c] := by
  have h1 : someL (packB c) = some ([c], []) := by
    show stepsL 1 (c.k :: txts (chTexts c)) = _
    have e := oneL_app c [] hr hl
    rw [List.append_nil] at e
    have := stepsL_next (n := 0) (l := c.k :: txts (chTexts c)) rfl (by rw [e])
    rw [this, e]
    rfl
  unfold unpackL
  rw [h1]
def refAsk (k : UInt8) (r : List UInt8) : Option (Ask × Bool) :=
  if k = 2 then (match unpackL (numL r).2.1 with | some [c] => some (withC (withN (askOf k) (numL r).1) (some c), (numL r).2.2) | _ => none)
  else if k = 3 ∨ k = 4 then some (withN (askOf k) (numL r).1, (numL r).2.2)
  else if k = 5 then some (withT (askOf k) (takesL 7 r).1, (takesL 7 r).2.2)
  else if k = 6 then some (withT (withV (askOf k) (numL r).1) (takesL 7 (numL r).2.1).1, (numL r).2.2 && (takesL 7 (numL r).2.1).2.2)
  else some (askOf k, true)
def refFin (l : List UInt8) : Option (Ask × Bool) → Option Ask
  | none => none
  | some (a, o) => if o = true ∧ writeA a = (l, 0) then some a else none
def refA : List UInt8 → Option Ask
  | [] => none
  | k :: r => refFin (k :: r) (refAsk k r)
theorem refAsk_app {a : Ask} (h : RightA a) : refAsk a.k (encW a).1 = some (a, true) := by
  obtain ⟨hts, hn, hv, hok, hb⟩ := h
  unfold refAsk
  unfold encW at hok ⊢
  unfold bareA at hb
  by_cases c1 : a.k = 1 ∨ a.k = 7 ∨ a.k = 8
  · rw [if_pos c1] at hb
    have q2 : ¬ a.k = 2 := by rcases c1 with h | h | h <;> (rw [h]; decide)
    have q3 : ¬ (a.k = 3 ∨ a.k = 4) := by rcases c1 with h | h | h <;> (rw [h]; decide)
    have q5 : ¬ a.k = 5 := by rcases c1 with h | h | h <;> (rw [h]; decide)
    have q6 : ¬ a.k = 6 := by rcases c1 with h | h | h <;> (rw [h]; decide)
    rw [if_neg q2, if_neg q3, if_neg q5, if_neg q6, ← hb]
  rw [if_neg c1] at hb hok ⊢
  by_cases c2 : a.k = 2
  · rw [if_pos c2] at hb hok ⊢
    rw [if_pos c2]
    obtain ⟨q1, q2, q3⟩ := packR_ok hok
    rw [numL_app _ _ hn]
    simp only
    rw [q3, unpackL_app _ q1 q2]
    simp only
    congr 2
    rw [hb]
    rfl
  rw [if_neg c2] at hb hok ⊢
  rw [if_neg c2]
  by_cases c3 : a.k = 3 ∨ a.k = 4
  · rw [if_pos c3] at hb hok ⊢
    rw [if_pos c3]
    simp only
    have e := numL_app a.n [] hn
    rw [List.append_nil] at e
    rw [e]
    simp only
    congr 2
    rw [hb]
    rfl
  rw [if_neg c3] at hb hok ⊢
  rw [if_neg c3]
  have h7 : a.ts.take 7 = a.ts := List.take_of_length_le (by omega)
  by_cases c5 : a.k = 5
  · rw [if_pos c5] at hb hok ⊢
    rw [if_pos c5]
    simp only
    have e := takesL_app a.ts [] ((longs_iff _).1 hok) 7 (by omega)
    rw [List.append_nil, h7] at e
    rw [e]
    simp only
    congr 2
    rw [hb]
    rfl
  rw [if_neg c5] at hb hok ⊢
  rw [if_neg c5]
  by_cases c6 : a.k = 6
  · rw [if_pos c6] at hok ⊢
    rw [if_pos c6]
    simp only
    rw [numL_app _ _ hv]
    simp only
    have e := takesL_app a.ts [] ((longs_iff _).1 hok) 7 (by omega)
    rw [List.append_nil, h7] at e
    rw [e]
    simp only [Bool.and_true]
    congr 2
    rw [hb]
    rfl
  · rw [if_neg c6] at hok
    cases hok
theorem refA_eq (l : List UInt8) : refA l = readA l := by
  classical
  have h1 : ∀ a, refA l = some a → readA l = some a := fun a h => by
    match l, h with
    | k :: r, h =>
      have h' : refFin (k :: r) (refAsk k r) = some a := h
      match hs : refAsk k r with
      | none => rw [hs] at h'; cases h'
      | some (b, o) =>
        rw [hs] at h'
        unfold refFin at h'
        simp only at h'
        by_cases hc : o = true ∧ writeA b = (k :: r, 0)
        · rw [if_pos hc] at h'
          cases h'
          have hw := hc.2
          rw [writeA_eq] at hw
          by_cases hR : RightA a
          · rw [if_pos hR] at hw
            exact readA_iff.2 ⟨hR, (congrArg Prod.fst hw).symm⟩
          · rw [if_neg hR] at hw; cases hw
        · rw [if_neg hc] at h'; cases h'
  have h2 : ∀ a, readA l = some a → refA l = some a := fun a h => by
    obtain ⟨hR, rfl⟩ := readA_iff.1 h
    show refFin (a.k :: (encW a).1) (refAsk a.k (encW a).1) = some a
    rw [refAsk_app hR]
    exact if_pos ⟨rfl, by rw [writeA_eq, if_pos hR]⟩
  match hr : readA l with
  | some a => exact h2 a hr
  | none =>
    match hq : refA l with
    | none => rfl
    | some a => rw [h1 a hq] at hr; cases hr
theorem refAsk_ok {k : UInt8} {r : List UInt8} {a : Ask} {o : Bool} (h : refAsk k r = some (a, o)) : a.ts.length = 7 ∧ a.n < 18446744073709551616 ∧ a.v < 18446744073709551616 ∧ a.k = k := by
  have n1 := numL_lt r
  have z : (0 : Nat) < 18446744073709551616 := by decide
  unfold refAsk at h
  by_cases c2 : k = 2
  · rw [if_pos c2] at h
    match hs : unpackL (numL r).2.1, h with
    | some [c], h => cases h; exact ⟨rfl, n1, z, rfl⟩
    | some [], h => cases h
    | some (_ :: _ :: _), h => cases h
    | none, h => cases h
  rw [if_neg c2] at h
  by_cases c3 : k = 3 ∨ k = 4
  · rw [if_pos c3] at h; cases h; exact ⟨rfl, n1, z, rfl⟩
  rw [if_neg c3] at h
  by_cases c5 : k = 5
  · rw [if_pos c5] at h; cases h; exact ⟨takesL_length 7 r, z, z, rfl⟩
  rw [if_neg c5] at h
  by_cases c6 : k = 6
  · rw [if_pos c6] at h; cases h; exact ⟨takesL_length 7 _, z, n1, rfl⟩
  rw [if_neg c6] at h
  cases h
  exact ⟨rfl, z, z, rfl⟩
end Go.Proofs.Ytiodfbbgbnbdpaa
end
