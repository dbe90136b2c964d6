/- Sectors of which one bit is turned are those of no frame. -/
import Derived.Test.YtdgonhmipecjpaaRecLaws
namespace Go.Proofs.Ytdgonhmipecjpaa
open Go.RowKit
open Crc
theorem modify_left {α : Type} (f : α → α) : ∀ (a b : List α) (k : Nat), k < a.length → (a ++ b).modify k f = a.modify k f ++ b
  | [], _, _, h => absurd h (by simp)
  | x :: a, b, 0, _ => rfl
  | x :: a, b, k + 1, h => by
    rw [List.cons_append, List.modify_succ_cons, List.modify_succ_cons, List.cons_append, modify_left f a b k (by simpa using h)]
theorem modify_right {α : Type} (f : α → α) : ∀ (a b : List α) (k : Nat), (a ++ b).modify (a.length + k) f = a ++ b.modify k f
  | [], _, _ => by simp
  | x :: a, b, k => by
    rw [List.cons_append, List.length_cons, show a.length + 1 + k = a.length + k + 1 by omega, List.modify_succ_cons, modify_right f a b k, List.cons_append]
theorem flipL_left {a b : List UInt8} {n : Nat} (h : n / 8 < a.length) : flipL (a ++ b) n = flipL a n ++ b := modify_left _ a b _ h
theorem flipL_right (a b : List UInt8) (n m : Nat) (h : m = n + 8 * a.length) : flipL (a ++ b) m = a ++ flipL b n := by
  subst h
  unfold flipL
  rw [show (n + 8 * a.length) / 8 = a.length + n / 8 by omega, show (n + 8 * a.length) % 8 = n % 8 by omega]
  exact modify_right _ a b _
theorem flipL_ne' (l : List UInt8) (n : Nat) (h : n / 8 < l.length) : flipL l n ≠ l := fun e => one_turned 0#32 l n h (by rw [e])
theorem crcOf_turned (l : List UInt8) (n : Nat) (h : n / 8 < l.length) : crcOf (flipL l n) ≠ crcOf l := fun e => one_turned 0#32 l n h (BitVec.eq_of_toNat_eq e)
theorem flatten_flip (b : Nat) (hb : b / 8 < 61) : ∀ (P : List (List UInt8)) (i : Nat), i < P.length → (∀ x ∈ P, x.length = 61) → (P.modify i fun x => flipL x b).flatten = flipL P.flatten (b + 488 * i)
  | [], _, h, _ => absurd h (by simp)
  | x :: P, 0, _, hx => by
    have h0 : x.length = 61 := hx x (by simp)
    show (flipL x b :: P).flatten = _
    rw [List.flatten_cons, List.flatten_cons, flipL_left (by rw [h0]; omega)]
    rfl
  | x :: P, i + 1, h, hx => by
    have h0 : x.length = 61 := hx x (by simp)
    rw [List.modify_succ_cons, List.flatten_cons, List.flatten_cons, flatten_flip b hb P i (by simpa using h) (fun y hy => hx y (by simp [hy]))]
    exact (flipL_right x P.flatten (b + 488 * i) _ (by rw [h0]; omega)).symm
/-- A head is told by its first bytes. -/
theorem head_told (k : UInt8) (e s len sum : Nat) : headL k e s len sum = frontL k e s len sum ++ (putL (crcOf (frontL k e s len sum)) 4 ++ List.replicate 34 0) := by
  have hf := frontL_length k e s len sum
  rw [headL, fillL, List.length_append, hf, putL_length, show 64 - (26 + 4) = 34 from rfl, List.append_assoc]
theorem crc_of_put {a b : Nat} (ha : a < 4294967296) (hb : b < 4294967296) (h : putL a 4 = putL b 4) : a = b := by
  have := congrArg getL h
  rw [getL_putL, getL_putL, Nat.mod_eq_of_lt (by simpa using ha), Nat.mod_eq_of_lt (by simpa using hb)] at this
  exact this
theorem head_turned (k : UInt8) (e s len sum : Nat) (k' : UInt8) (e' s' len' sum' bit : Nat) (h : bit / 8 < 64) : headL k' e' s' len' sum' ≠ flipL (headL k e s len sum) bit := by
  intro he
  rw [head_told, head_told k e s len sum] at he
  have f1 := frontL_length k e s len sum
  have f2 := frontL_length k' e' s' len' sum'
  obtain ⟨F, hF⟩ : ∃ F, F = frontL k e s len sum := ⟨_, rfl⟩
  obtain ⟨F', hF'⟩ : ∃ F', F' = frontL k' e' s' len' sum' := ⟨_, rfl⟩
  rw [← hF] at he f1
  rw [← hF'] at he f2
  rcases Nat.lt_or_ge (bit / 8) 26 with hlt | hge
  · rw [flipL_left (by rw [f1]; exact hlt)] at he
    have hl : (flipL F bit).length = 26 := by rw [flipL_length, f1]
    obtain ⟨e1, e2⟩ := List.append_inj he (by rw [f2, hl])
    have e3 := (List.append_inj e2 (by rw [putL_length, putL_length])).1
    have e4 := crc_of_put (crcOf_lt _) (crcOf_lt _) e3
    rw [e1] at e4
    exact crcOf_turned F bit (by rw [f1]; exact hlt) e4
  · have hr := flipL_right F (putL (crcOf F) 4 ++ List.replicate 34 0) (bit - 208) bit (by rw [f1]; omega)
    rw [hr] at he
    obtain ⟨e1, e2⟩ := List.append_inj he (by rw [f1, f2])
    rw [e1] at e2
    exact flipL_ne' _ _ (by simp [putL_length]; omega) e2.symm
theorem piece_turned (p q : List UInt8) (i bit : Nat) (hb : bit / 8 < 64) (hlen : q.length = p.length) (hcrc : crcOf q = crcOf p) (hi : i < piecesN p.length)
    (h : (List.range (piecesN p.length)).map (pieceL q) = ((List.range (piecesN p.length)).map (pieceL p)).modify i fun x => flipL x bit) : False := by
  have hat : pieceL q i = flipL (pieceL p i) bit := by
    have := congrArg (fun l => l[i]?) h
    simpa [hi, List.getElem?_modify] using this
  have hne : flipL (pieceL p i) bit ≠ pieceL p i := flipL_ne' _ _ (by rw [pieceL_length]; exact hb)
  rcases Nat.lt_or_ge (bit / 8) 3 with h3 | h3
  · have hs : ∀ r : List UInt8, pieceL r i = [66, UInt8.ofNat (i % 256), UInt8.ofNat (i / 256)] ++ (pieceL r i).drop 3 := fun r => by
      rw [pieceL_data, pieceL, fillL, List.append_assoc]
      congr 2
      have : ((r.drop (61 * i)).take 61).length ≤ 61 := by simp; omega
      congr 1
      simp only [List.length_append, List.length_cons, List.length_nil]
      omega
    rw [hs q, hs p, flipL_left (by simpa using h3)] at hat
    have e1 := (List.append_inj hat (by rw [flipL_length])).1
    exact flipL_ne' _ _ (by simpa using h3) e1.symm
  · have hdrop : ∀ x : List UInt8, x.length = 64 → (flipL x bit).drop 3 = flipL (x.drop 3) (bit - 24) := fun x hx => by
      have hx' : x = x.take 3 ++ x.drop 3 := (List.take_append_drop 3 x).symm
      have hl : (x.take 3).length = 3 := by rw [List.length_take, hx]; rfl
      conv => lhs; rw [hx']
      rw [flipL_right (x.take 3) (x.drop 3) (bit - 24) bit (by rw [hl]; omega)]
      exact List.drop_left' hl
    have hD : ((List.range (piecesN p.length)).map (pieceL q)).map (List.drop 3) = (((List.range (piecesN p.length)).map (pieceL p)).map (List.drop 3)).modify i fun x => flipL x (bit - 24) := by
      rw [h]
      apply List.ext_getElem?
      intro j
      simp only [List.getElem?_map, List.getElem?_modify]
      by_cases hij : i = j
      · subst hij
        simp only [if_true, List.getElem?_range hi, Option.map_some]
        show some ((flipL (pieceL p i) bit).drop 3) = some (flipL ((pieceL p i).drop 3) (bit - 24))
        rw [hdrop _ (pieceL_length _ _)]
      · simp [hij]
    have hfl := congrArg List.flatten hD
    rw [flatten_flip (bit - 24) (by omega) _ i (by simpa using hi) (fun x hx => by
      simp only [List.map_map, List.mem_map] at hx
      obtain ⟨j, _, rfl⟩ := hx
      show ((pieceL p j).drop 3).length = 61
      rw [List.length_drop, pieceL_length])] at hfl
    have e : ∀ r : List UInt8, (((List.range (piecesN p.length)).map (pieceL r)).map (List.drop 3)).flatten = (List.range (piecesN p.length)).flatMap fun j => (pieceL r j).drop 3 := fun r => by
      rw [List.map_map, List.flatMap_def]
      rfl
    rw [e q, e p] at hfl
    have hq : ((List.range (piecesN p.length)).flatMap fun j => (pieceL q j).drop 3).take p.length = q := by
      have := pieces_join q
      rw [hlen] at this
      exact this
    have hp := pieces_join p
    obtain ⟨D, hDd⟩ : ∃ D, D = (List.range (piecesN p.length)).flatMap fun j => (pieceL p j).drop 3 := ⟨_, rfl⟩
    rw [hfl] at hq
    rw [← hDd] at hq hp
    have hsplit : D = p ++ D.drop p.length := by
      conv => lhs; rw [← List.take_append_drop p.length D]
      rw [hp]
    rcases Nat.lt_or_ge ((bit - 24 + 488 * i) / 8) p.length with hin | hout
    · rw [hsplit, flipL_left hin, List.take_left' (by rw [flipL_length])] at hq
      rw [← hq] at hcrc
      exact crcOf_turned p _ hin hcrc
    · have hr := flipL_right p (D.drop p.length) (bit - 24 + 488 * i - 8 * p.length) (bit - 24 + 488 * i) (by omega)
      rw [hsplit, hr, List.take_left' rfl] at hq
      rw [← hq] at hat
      exact hne hat.symm
theorem turned_no (f : Fr) (hf : FrOk f) (i bit : Nat) (hi : i < (sectorsL f).length) (hb : bit / 8 < 64) : NoFrame (((sectorsL f).modify i fun x => flipL x bit).map str) := by
  intro g hg he
  have he := map_str_inj he
  cases i with
  | zero =>
    rw [sectorsL, sectorsL, List.modify_zero_cons] at he
    injection he with h1 _
    exact head_turned _ _ _ _ _ _ _ _ _ _ bit hb h1
  | succ i =>
    rw [sectorsL, sectorsL, List.modify_succ_cons] at he
    injection he with h1 h2
    have hl : g.pay.length = f.pay.length := by
      have := congrArg (fun l => atL l 18 4) h1
      simp only [frHead, head_at18] at this
      rw [Nat.mod_eq_of_lt (by have := hg.pay; omega), Nat.mod_eq_of_lt (by have := hf.pay; omega)] at this
      exact this
    have hc : crcOf g.pay = crcOf f.pay := by
      have := congrArg (fun l => atL l 22 4) h1
      simp only [frHead, head_at22] at this
      rw [Nat.mod_eq_of_lt (by have := crcOf_lt g.pay; simpa using this), Nat.mod_eq_of_lt (by have := crcOf_lt f.pay; simpa using this)] at this
      exact this
    rw [hl] at h2
    rw [sectorsL_length] at hi
    exact piece_turned f.pay g.pay i bit hb hl hc (by omega) h2
theorem piece_noHead (p : List UInt8) (i : Nat) : ¬ HeadOk (str (pieceL p i)).data.toList := fun h => by
  have := h.mark
  rw [str_data] at this
  have e : (pieceL p i).getD 0 0 = 66 := by rw [pieceL, fillL]; rfl
  rw [e] at this
  revert this
  decide
end Go.Proofs.Ytdgonhmipecjpaa
