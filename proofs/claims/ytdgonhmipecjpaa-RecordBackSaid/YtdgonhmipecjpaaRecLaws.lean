/- Frames as sectors: the plain laws. -/
import Derived.Test.YtdgonhmipecjpaaRecJoin
namespace Go.Proofs.Ytdgonhmipecjpaa
open Go.RowKit
open Crc
theorem mid_take {α : Type} (a b c : List α) (n m : Nat) (ha : a.length = n) (hb : b.length = m) : ((a ++ (b ++ c)).drop n).take m = b := by
  subst ha
  subst hb
  rw [List.drop_left, List.take_left]
theorem headL_eq (k : UInt8) (e s len sum : Nat) : headL k e s len sum = [72, k] ++ (putL e 8 ++ (putL s 8 ++ (putL len 4 ++ (putL sum 4 ++ (putL (crcOf (frontL k e s len sum)) 4 ++ List.replicate 34 0))))) := by
  have hf := frontL_length k e s len sum
  rw [headL, fillL, List.length_append, hf, putL_length, show 64 - (26 + 4) = 34 from rfl]
  simp [frontL]
/-- A frame that is right. -/
structure FrOk (f : Fr) : Prop where
  kind : f.kind ≠ 0
  pay : f.pay.length ≤ 16384
  epoch : f.epoch < 18446744073709551616
  seq : f.seq < 18446744073709551616
section
variable (k : UInt8) (e s len sum : Nat)
theorem head_at2 : atL (headL k e s len sum) 2 8 = e % 256 ^ 8 := by
  rw [atL, headL_eq, mid_take _ _ _ 2 8 rfl (putL_length _ _), getL_putL]
theorem head_at10 : atL (headL k e s len sum) 10 8 = s % 256 ^ 8 := by
  rw [atL, headL_eq, ← List.append_assoc, mid_take _ _ _ 10 8 (by simp [putL_length]) (putL_length _ _), getL_putL]
theorem head_at18 : atL (headL k e s len sum) 18 4 = len % 256 ^ 4 := by
  rw [atL, headL_eq, ← List.append_assoc, ← List.append_assoc, mid_take _ _ _ 18 4 (by simp [putL_length]) (putL_length _ _), getL_putL]
theorem head_at22 : atL (headL k e s len sum) 22 4 = sum % 256 ^ 4 := by
  rw [atL, headL_eq, ← List.append_assoc, ← List.append_assoc, ← List.append_assoc, mid_take _ _ _ 22 4 (by simp [putL_length]) (putL_length _ _), getL_putL]
theorem head_at26 : atL (headL k e s len sum) 26 4 = crcOf (frontL k e s len sum) := by
  rw [atL, headL_eq, ← List.append_assoc, ← List.append_assoc, ← List.append_assoc, ← List.append_assoc, mid_take _ _ _ 26 4 (by simp [putL_length]) (putL_length _ _), getL_putL]
  have := crcOf_lt (frontL k e s len sum)
  exact Nat.mod_eq_of_lt (by simpa using this)
theorem head_rest : (headL k e s len sum).drop 30 = List.replicate 34 0 := by
  rw [headL_eq, ← List.append_assoc, ← List.append_assoc, ← List.append_assoc, ← List.append_assoc, ← List.append_assoc]
  exact List.drop_left' (by simp [putL_length])
theorem head_front : (headL k e s len sum).take 26 = frontL k e s len sum := by
  rw [headL, fillL, List.append_assoc]
  exact List.take_left' (frontL_length _ _ _ _ _)
theorem head_mark : (headL k e s len sum).getD 0 0 = 72 := by rw [headL_eq]; rfl
theorem head_kind : (headL k e s len sum).getD 1 0 = k := by rw [headL_eq]; rfl
theorem headOk (hk : k ≠ 0) (hl : len ≤ 16384) : HeadOk (headL k e s len sum) where
  size := headL_length _ _ _ _ _
  mark := head_mark _ _ _ _ _
  kind := by rw [head_kind]; exact hk
  rest := head_rest _ _ _ _ _
  own := by rw [head_at26, head_front]
  len := by rw [head_at18, Nat.mod_eq_of_lt (by omega)]; exact hl
end
/-- The chunks, one behind the other. -/
theorem chunks_all (q : List UInt8) : ∀ n, (List.range n).flatMap (fun i => (q.drop (61 * i)).take 61) = q.take (61 * n)
  | 0 => by simp
  | n + 1 => by
    rw [List.range_succ, List.flatMap_append, chunks_all q n]
    simp only [List.flatMap_cons, List.flatMap_nil, List.append_nil]
    rw [show 61 * (n + 1) = 61 * n + 61 by omega, List.take_add]
theorem pieceL_data (p : List UInt8) (i : Nat) : (pieceL p i).drop 3 = (p.drop (61 * i)).take 61 ++ List.replicate (61 - ((p.drop (61 * i)).take 61).length) 0 := by
  have h : ((p.drop (61 * i)).take 61).length ≤ 61 := by simp; omega
  rw [pieceL, fillL, List.append_assoc]
  have : ([66, UInt8.ofNat (i % 256), UInt8.ofNat (i / 256)] : List UInt8).length = 3 := rfl
  rw [List.drop_left' this]
  congr 2
  simp only [List.length_append, List.length_cons, List.length_nil]
  omega
theorem pieces_join (p : List UInt8) : ((List.range (piecesN p.length)).flatMap fun i => (pieceL p i).drop 3).take p.length = p := by
  obtain ⟨q, hq⟩ : ∃ q, q = p ++ List.replicate (61 * piecesN p.length - p.length) 0 := ⟨_, rfl⟩
  have hn : p.length ≤ 61 * piecesN p.length := by unfold piecesN; omega
  have hql : q.length = 61 * piecesN p.length := by rw [hq, List.length_append, List.length_replicate]; omega
  have e : (List.range (piecesN p.length)).flatMap (fun i => (pieceL p i).drop 3) = (List.range (piecesN p.length)).flatMap (fun i => (q.drop (61 * i)).take 61) := by
    rw [List.flatMap_def, List.flatMap_def]
    congr 1
    refine List.map_congr_left fun i hi => ?_
    have hi' := List.mem_range.1 hi
    rw [pieceL_data]
    have hlt : 61 * i < p.length := (pieces_lt p.length i).1 hi'
    rw [hq, List.drop_append_of_le_length (by omega), List.take_append, List.take_replicate, List.length_drop]
    congr 2
    rw [List.length_take, List.length_drop]
    have : 61 * (i + 1) ≤ 61 * piecesN p.length := by omega
    omega
  rw [e, chunks_all, ← hql, List.take_length, hq, List.take_left]
theorem sectors_cons (f : Fr) : (sectorsL f).map str = str (frHead f) :: ((List.range (piecesN f.pay.length)).map (pieceL f.pay)).map str := by rw [sectorsL, List.map_cons]
theorem bytesOf_str (l : List (List UInt8)) : bytesOf (l.map str) = l.flatMap (List.drop 3) := by
  rw [bytesOf, List.flatMap_map]
  simp only [str_data]
theorem read_back (f : Fr) (h : FrOk f) : readT (str (frHead f)) (((List.range (piecesN f.pay.length)).map (pieceL f.pay)).map str) = f := by
  rw [readT, bytesOf_str, str_data, List.flatMap_map, frHead, head_kind, head_at2, head_at10, head_at18, Nat.mod_eq_of_lt (show f.epoch < 256 ^ 8 from h.epoch), Nat.mod_eq_of_lt (show f.seq < 256 ^ 8 from h.seq), Nat.mod_eq_of_lt (by have := h.pay; omega), pieces_join]
theorem fit_back (f : Fr) (h : FrOk f) : JoinFit (str (frHead f)) (((List.range (piecesN f.pay.length)).map (pieceL f.pay)).map str) := by
  refine ⟨fun s hs => ?_, by rw [read_back f h, sectors_cons]⟩
  simp only [List.map_map, List.mem_map] at hs
  obtain ⟨i, _, rfl⟩ := hs
  show (str (pieceL f.pay i)).size = 64
  rw [str_size, pieceL_length]
theorem head_ok (f : Fr) (h : FrOk f) : HeadOk (str (frHead f)).data.toList := by rw [str_data]; exact headOk _ _ _ _ _ h.kind h.pay
theorem count_ok (f : Fr) (h : FrOk f) : (((List.range (piecesN f.pay.length)).map (pieceL f.pay)).map str).length = piecesN (atL (str (frHead f)).data.toList 18 4) := by
  rw [str_data, frHead, head_at18, Nat.mod_eq_of_lt (by have := h.pay; omega)]
  simp
theorem join_yes (A : Option Addr) (c n : Nat) (f : Fr) (w : World) (h : FrOk f) (hn : n = piecesN f.pay.length + 1) (hc : n ≤ c) (ht : Texts w A ((sectorsL f).map str)) :
    Calls Try.prog 23 #[.slice A n c] w fun e w' => e = .returned (.tuple #[frVal f, .int .i64 0]) ∧ Below w.heap.size w w' := by
  rw [sectors_cons] at ht
  have hl : (((List.range (piecesN f.pay.length)).map (pieceL f.pay)).map str).length = piecesN f.pay.length := by simp
  have hp : piecesN f.pay.length ≤ 269 := by have := h.pay; unfold piecesN; omega
  have := join_w A c (str (frHead f)) _ w (by rw [hl, ← hn]; exact hc) ht (by rw [hl]; omega) (head_ok f h) (count_ok f h)
  rw [hl, ← hn, (join_some _ _ (fit_back f h)).1, (join_some _ _ (fit_back f h)).2, read_back f h] at this
  exact this
/-- Sectors that are none of a frame. -/
def NoFrame (l : List ByteArray) : Prop := ∀ f, FrOk f → (sectorsL f).map str ≠ l
theorem join_no (A : Option Addr) (c n : Nat) (l : List ByteArray) (w : World) (h : NoFrame l) (hn : n = l.length) (hb : l.length ≤ 140737488351232) (hc : n ≤ c) (ht : Texts w A l) :
    Calls Try.prog 23 #[.slice A n c] w fun e w' => e = .returned (.tuple #[zeroFrame, .int .i64 14]) ∧ Below w.heap.size w w' := by
  subst hn
  cases l with
  | nil => exact join_empty A c w
  | cons s0 tl =>
    simp only [List.length_cons] at hb hc ⊢
    by_cases hH : HeadOk s0.data.toList
    case neg => exact join_badhead A c s0 tl w ht (by omega) hH
    by_cases hC : tl.length = piecesN (atL s0.data.toList 18 4)
    case neg => exact join_count A c s0 tl w ht (by omega) hH hC
    have hnf : ¬ JoinFit s0 tl := fun hf => by
      refine h (readT s0 tl) ⟨hH.kind, ?_, ?_, ?_⟩ hf.2
      · show ((bytesOf tl).take _).length ≤ 16384
        rw [List.length_take]
        have := hH.len
        omega
      · exact getL_le _ (by rw [List.length_take]; omega)
      · exact getL_le _ (by rw [List.length_take]; omega)
    have := join_w A c s0 tl w hc ht (by omega) hH hC
    unfold joinV joinE at this
    rw [if_neg hnf, if_neg hnf] at this
    exact this
theorem sectors_inj {f g : Fr} (hf : FrOk f) (hg : FrOk g) (h : sectorsL f = sectorsL g) : f = g := by
  have h' : (sectorsL f).map str = (sectorsL g).map str := by rw [h]
  rw [sectors_cons, sectors_cons] at h'
  injection h' with h1 h2
  rw [← read_back f hf, ← read_back g hg, h1, h2]
theorem map_str_inj : ∀ {a b : List (List UInt8)}, a.map str = b.map str → a = b
  | [], [], _ => rfl
  | [], _ :: _, h => by cases h
  | _ :: _, [], h => by cases h
  | x :: a, y :: b, h => by
    rw [List.map_cons, List.map_cons] at h
    injection h with h1 h2
    rw [str_inj h1, map_str_inj h2]
end Go.Proofs.Ytdgonhmipecjpaa
