/- Several small texts of this proof, one behind the other. -/
import Derived.Test.YtpfbmmeipojodaaRecJoin
import Derived.Test.YtpfbmmeipojodaaCrcB
import Derived.Test.YtpfbmmeipojodaaRecHead
import Derived.Test.YtpfbmmeipojodaaGE
section
/- Frames as sectors: the plain laws. -/
namespace Go.Proofs.Ytpfbmmeipojodaa
open Go.RowKit
open Crc
theorem mid_take {α : Type} (a b c : List α) (n m : Nat) (ha : a.length = n) (hb : b.length = m) : ((a ++ (b ++ c)).drop n).take m = b := by
  subst ha
  subst hb
  rw [List.drop_left, List.take_left]
theorem headL_eq (k : UInt8) (e s len sum : Nat) : headL k e s len sum = [72, k] ++ (putL e 8 ++ (putL s 8 ++ (putL len 4 ++ (putL sum 4 ++ (putL (crcOf (frontL k e s len sum)) 4 ++ List.replicate 34 0))))) := by
  have hf := frontL_length k e s len sum
  rw [headL, fillL, List.length_append, hf, putL_length, show 64 - (26 + 4) = 34 from rfl]
  simp [frontL]
/-- A frame that is right. -/
structure FrOk (f : Fr) : Prop where
  kind : f.kind ≠ 0
  pay : f.pay.length ≤ 16384
  epoch : f.epoch < 18446744073709551616
  seq : f.seq < 18446744073709551616
section
variable (k : UInt8) (e s len sum : Nat)
theorem head_at2 : atL (headL k e s len sum) 2 8 = e % 256 ^ 8 := by
  rw [atL, headL_eq, mid_take _ _ _ 2 8 rfl (putL_length _ _), getL_putL]
theorem head_at10 : atL (headL k e s len sum) 10 8 = s % 256 ^ 8 := by
  rw [atL, headL_eq, ← List.append_assoc, mid_take _ _ _ 10 8 (by simp [putL_length]) (putL_length _ _), getL_putL]
theorem head_at18 : atL (headL k e s len sum) 18 4 = len % 256 ^ 4 := by
  rw [atL, headL_eq, ← List.append_assoc, ← List.append_assoc, mid_take _ _ _ 18 4 (by simp [putL_length]) (putL_length _ _), getL_putL]
theorem head_at22 : atL (headL k e s len sum) 22 4 = sum % 256 ^ 4 := by
  rw [atL, headL_eq, ← List.append_assoc, ← List.append_assoc, ← List.append_assoc, mid_take _ _ _ 22 4 (by simp [putL_length]) (putL_length _ _), getL_putL]
theorem head_at26 : atL (headL k e s len sum) 26 4 = crcOf (frontL k e s len sum) := by
  rw [atL, headL_eq, ← List.append_assoc, ← List.append_assoc, ← List.append_assoc, ← List.append_assoc, mid_take _ _ _ 26 4 (by simp [putL_length]) (putL_length _ _), getL_putL]
  have := crcOf_lt (frontL k e s len sum)
  exact Nat.mod_eq_of_lt (by simpa using this)
theorem head_rest : (headL k e s len sum).drop 30 = List.replicate 34 0 := by
  rw [headL_eq, ← List.append_assoc, ← List.append_assoc, ← List.append_assoc, ← List.append_assoc, ← List.append_assoc]
  exact List.drop_left' (by simp [putL_length])
theorem head_front : (headL k e s len sum).take 26 = frontL k e s len sum := by
  rw [headL, fillL, List.append_assoc]
  exact List.take_left' (frontL_length _ _ _ _ _)
theorem head_mark : (headL k e s len sum).getD 0 0 = 72 := by rw [headL_eq]; rfl
theorem head_kind : (headL k e s len sum).getD 1 0 = k := by rw [headL_eq]; rfl
theorem headOk (hk : k ≠ 0) (hl : len ≤ 16384) : HeadOk (headL k e s len sum) where
  size := headL_length _ _ _ _ _
  mark := head_mark _ _ _ _ _
  kind := by rw [head_kind]; exact hk
  rest := head_rest _ _ _ _ _
  own := by rw [head_at26, head_front]
  len := by rw [head_at18, Nat.mod_eq_of_lt (by omega)]; exact hl
end
/-- The chunks, one behind the other. -/
theorem chunks_all (q : List UInt8) : ∀ n, (List.range n).flatMap (fun i => (q.drop (61 * i)).take 61) = q.take (61 * n)
  | 0 => by simp
  | n + 1 => by
    rw [List.range_succ, List.flatMap_append, chunks_all q n]
    simp only [List.flatMap_cons, List.flatMap_nil, List.append_nil]
    rw [show 61 * (n + 1) = 61 * n + 61 by omega, List.take_add]
theorem pieceL_data (p : List UInt8) (i : Nat) : (pieceL p i).drop 3 = (p.drop (61 * i)).take 61 ++ List.replicate (61 - ((p.drop (61 * i)).take 61).length) 0 := by
  have h : ((p.drop (61 * i)).take 61).length ≤ 61 := by simp; omega
  rw [pieceL, fillL, List.append_assoc]
  have : ([66, UInt8.ofNat (i % 256), UInt8.ofNat (i / 256)] : List UInt8).length = 3 := rfl
  rw [List.drop_left' this]
  congr 2
  simp only [List.length_append, List.length_cons, List.length_nil]
  omega
theorem pieces_join (p : List UInt8) : ((List.range (piecesN p.length)).flatMap fun i => (pieceL p i).drop 3).take p.length = p := by
  obtain ⟨q, hq⟩ : ∃ q, q = p ++ List.replicate (61 * piecesN p.length - p.length) 0 := ⟨_, rfl⟩
  have hn : p.length ≤ 61 * piecesN p.length := by unfold piecesN; omega
  have hql : q.length = 61 * piecesN p.length := by rw [hq, List.length_append, List.length_replicate]; omega
  have e : (List.range (piecesN p.length)).flatMap (fun i => (pieceL p i).drop 3) = (List.range (piecesN p.length)).flatMap (fun i => (q.drop (61 * i)).take 61) := by
    rw [List.flatMap_def, List.flatMap_def]
    congr 1
    refine List.map_congr_left fun i hi => ?_
    have hi' := List.mem_range.1 hi
    rw [pieceL_data]
    have hlt : 61 * i < p.length := (pieces_lt p.length i).1 hi'
    rw [hq, List.drop_append_of_le_length (by omega), List.take_append, List.take_replicate, List.length_drop]
    congr 2
    rw [List.length_take, List.length_drop]
    have : 61 * (i + 1) ≤ 61 * piecesN p.length := by omega
    omega
  rw [e, chunks_all, ← hql, List.take_length, hq, List.take_left]
theorem sectors_cons (f : Fr) : (sectorsL f).map str = str (frHead f) :: ((List.range (piecesN f.pay.length)).map (pieceL f.pay)).map str := by rw [sectorsL, List.map_cons]
theorem bytesOf_str (l : List (List UInt8)) : bytesOf (l.map str) = l.flatMap (List.drop 3) := by
  rw [bytesOf, List.flatMap_map]
  simp only [str_data]
theorem read_back (f : Fr) (h : FrOk f) : readT (str (frHead f)) (((List.range (piecesN f.pay.length)).map (pieceL f.pay)).map str) = f := by
  rw [readT, bytesOf_str, str_data, List.flatMap_map, frHead, head_kind, head_at2, head_at10, head_at18, Nat.mod_eq_of_lt (show f.epoch < 256 ^ 8 from h.epoch), Nat.mod_eq_of_lt (show f.seq < 256 ^ 8 from h.seq), Nat.mod_eq_of_lt (by have := h.pay; omega), pieces_join]
theorem fit_back (f : Fr) (h : FrOk f) : JoinFit (str (frHead f)) (((List.range (piecesN f.pay.length)).map (pieceL f.pay)).map str) := by
  refine ⟨fun s hs => ?_, by rw [read_back f h, sectors_cons]⟩
  simp only [List.map_map, List.mem_map] at hs
  obtain ⟨i, _, rfl⟩ := hs
  show (str (pieceL f.pay i)).size = 64
  rw [str_size, pieceL_length]
theorem head_ok (f : Fr) (h : FrOk f) : HeadOk (str (frHead f)).data.toList := by rw [str_data]; exact headOk _ _ _ _ _ h.kind h.pay
theorem count_ok (f : Fr) (h : FrOk f) : (((List.range (piecesN f.pay.length)).map (pieceL f.pay)).map str).length = piecesN (atL (str (frHead f)).data.toList 18 4) := by
  rw [str_data, frHead, head_at18, Nat.mod_eq_of_lt (by have := h.pay; omega)]
  simp
theorem join_yes (A : Option Addr) (c n : Nat) (f : Fr) (w : World) (h : FrOk f) (hn : n = piecesN f.pay.length + 1) (hc : n ≤ c) (ht : Texts w A ((sectorsL f).map str)) :
    Calls Try.prog 58 #[.slice A n c] w fun e w' => e = .returned (.tuple #[frVal f, .int .i64 0]) ∧ Below w.heap.size w w' := by
  rw [sectors_cons] at ht
  have hl : (((List.range (piecesN f.pay.length)).map (pieceL f.pay)).map str).length = piecesN f.pay.length := by simp
  have hp : piecesN f.pay.length ≤ 269 := by have := h.pay; unfold piecesN; omega
  have := join_w A c (str (frHead f)) _ w (by rw [hl, ← hn]; exact hc) ht (by rw [hl]; omega) (head_ok f h) (count_ok f h)
  rw [hl, ← hn, (join_some _ _ (fit_back f h)).1, (join_some _ _ (fit_back f h)).2, read_back f h] at this
  exact this
/-- Sectors that are none of a frame. -/
def NoFrame (l : List ByteArray) : Prop := ∀ f, FrOk f → (sectorsL f).map str ≠ l
theorem join_no (A : Option Addr) (c n : Nat) (l : List ByteArray) (w : World) (h : NoFrame l) (hn : n = l.length) (hb : l.length ≤ 140737488351232) (hc : n ≤ c) (ht : Texts w A l) :
    Calls Try.prog 58 #[.slice A n c] w fun e w' => e = .returned (.tuple #[zeroFrame, .int .i64 14]) ∧ Below w.heap.size w w' := by
  subst hn
  cases l with
  | nil => exact join_empty A c w
  | cons s0 tl =>
    simp only [List.length_cons] at hb hc ⊢
    by_cases hH : HeadOk s0.data.toList
    case neg => exact join_badhead A c s0 tl w ht (by omega) hH
    by_cases hC : tl.length = piecesN (atL s0.data.toList 18 4)
    case neg => exact join_count A c s0 tl w ht (by omega) hH hC
    have hnf : ¬ JoinFit s0 tl := fun hf => by
      refine h (readT s0 tl) ⟨hH.kind, ?_, ?_, ?_⟩ hf.2
      · show ((bytesOf tl).take _).length ≤ 16384
        rw [List.length_take]
        have := hH.len
        omega
      · exact getL_le _ (by rw [List.length_take]; omega)
      · exact getL_le _ (by rw [List.length_take]; omega)
    have := join_w A c s0 tl w hc ht (by omega) hH hC
    unfold joinV joinE at this
    rw [if_neg hnf, if_neg hnf] at this
    exact this
theorem sectors_inj {f g : Fr} (hf : FrOk f) (hg : FrOk g) (h : sectorsL f = sectorsL g) : f = g := by
  have h' : (sectorsL f).map str = (sectorsL g).map str := by rw [h]
  rw [sectors_cons, sectors_cons] at h'
  injection h' with h1 h2
  rw [← read_back f hf, ← read_back g hg, h1, h2]
theorem map_str_inj : ∀ {a b : List (List UInt8)}, a.map str = b.map str → a = b
  | [], [], _ => rfl
  | [], _ :: _, h => by cases h
  | _ :: _, [], h => by cases h
  | x :: a, y :: b, h => by
    rw [List.map_cons, List.map_cons] at h
    injection h with h1 h2
    rw [str_inj h1, map_str_inj h2]
end Go.Proofs.Ytpfbmmeipojodaa
end
section
/- The document: Put32, Put64, Sum of chapter 01. -/
namespace Go.Proofs.Ytpfbmmeipojodaa
open Go.RowKit
open Crc
set_option maxHeartbeats 400000 in
theorem refput_w (n m : Nat) (w : World) (hm : m ≤ 8) (hn : n < 18446744073709551616) :
    Calls Try.prog 104 #[.int .u64 (n : Int), .int .i64 m] w fun e w' => e = .returned (.string (str (putL n m))) ∧ Below w.heap.size w w' := by
  obtain ⟨i0, hi, hz0, hz1, hz2⟩ := info_parts Try.info5
  go_enter Try.func104, Try.ntmps104
  go_wp2
  go_loopw [0, 5, 6] (fun x v i wr => ∃ k : Nat, k ≤ m ∧ i = .int .i64 k ∧ x = .int .u64 (dv n k : Int) ∧ wr.ownsRow w.heap.size 5 1 v k (cellsOf (putL n k)) ∧ Below w.heap.size w wr) (fun _ _ i _ => m - (intOf i).toNat)
  case atStart => exact ⟨0, by omega, rfl, by rw [dv_zero], World.ownsRow_nil _ _ _ _, Below.refl _ _⟩
  case round =>
    obtain ⟨k, hk, rfl, rfl, hown, hb⟩ := hrel
    by_cases hlt : k < m
    · have hmw : Hid _ := mod_walk n k
      have hdv := dv_le n k
      go_wp2_with (at_builtin; refine wpList_append_own _ rfl _ _ 56 rfl w.heap.size 5 i0 (.int .u8 0) 1 1 Try.underlying56 hi hz0 hz1 hz2 rfl (by decide) _ _ _ rfl (hown.alloc _) ⟨wr.heap.size, 0, none⟩ 1 1 [.int .u8 ((byteAt n k).toNat : Int)] rfl rfl ?c1 ?c2 ?c3 ?c4 ?c5 ?_)
      case c1 =>
        rw [hmw.out]
        exact cell_one_new _ _ _
      case c2 => intro u hu; simp at hu; subst hu; rfl
      case c3 => unfold maxLen; omega
      case c4 => omega
      case c5 => have := hb.size; simp; omega
      intro v' w1 hown' hgrow _
      have hb' : Below w.heap.size w w1 := (hb.alloc hb.size _).grown hgrow (by have := hb.size; simp; omega) (fun j hj => (hown.lt j hj).1)
      have hown2 : w1.ownsRow w.heap.size 5 1 v' (k + 1) (cellsOf (putL n (k + 1))) := by rw [putL_succ, cellsOf_append]; exact hown'
      clear hown' hgrow hown hb
      go_wp2
      go_roundw
      case rel => exact ⟨k + 1, by omega, by go_num, by rw [← div_step], hown2, hb'⟩
      case measure => simp [intOf]; omega
    · obtain rfl : k = m := by omega
      have hcv := own_string (P := Try.prog) 56 9 5 Try.underlying56 Try.underlying5 Try.underlying9 hown
      go_wp2
      go_ret
      exact ⟨rfl, hb⟩
set_option maxHeartbeats 400000 in
theorem refput64_w (n : Nat) (w : World) (hn : n < 18446744073709551616) :
    Calls Try.prog 95 #[.int .u64 (n : Int)] w fun e w' => e = .returned (.string (str (putL n 8))) ∧ Below w.heap.size w w' := by
  go_enter Try.func95, Try.ntmps95
  go_wp2_with (go_at_call 104; refine (refput_w _ 8 _ (by omega) hn).mono ?_; rintro e w' ⟨rfl, hb⟩)
  go_ret
  exact ⟨rfl, hb⟩
set_option maxHeartbeats 400000 in
theorem refput32_w (n : Nat) (w : World) (hn : n < 4294967296) :
    Calls Try.prog 96 #[.int .u32 (n : Int)] w fun e w' => e = .returned (.string (str (putL n 4))) ∧ Below w.heap.size w w' := by
  go_enter Try.func96, Try.ntmps96
  go_wp2_with (go_at_call 104; refine (refput_w _ 4 _ (by omega) (by omega)).mono ?_; rintro e w' ⟨rfl, hb⟩)
  go_ret
  exact ⟨rfl, hb⟩
set_option maxHeartbeats 400000 in
theorem refrun_w (c : BitVec 32) (s : ByteArray) (w : World) (hs : s.size ≤ maxLen) :
    Calls Try.prog 98 #[.int .u32 (c.toNat : Int), .string s] w fun e w' => e = .returned (.int .u32 ((run c s.data.toList).toNat : Int)) ∧ w = w' := by
  unfold maxLen at hs
  go_enter Try.func98, Try.ntmps98
  go_wp2
  go_loop [0, 5] (fun x i => ∃ k : Nat, k ≤ s.size ∧ i = .int .i64 k ∧ x = .int .u32 ((run c (s.data.toList.take k)).toNat : Int)) (fun _ i => s.size - (intOf i).toNat)
  case atStart => exact ⟨0, by omega, rfl, rfl⟩
  case round =>
    obtain ⟨k, hk, rfl, rfl⟩ := hrel
    by_cases hlt : k < s.size
    · have hx : Hid _ := eat_walk (run c (s.data.toList.take k)) s[k]
      have hsn : Hid _ := take_snoc s k hlt
      obtain ⟨x, HX⟩ := named (run c (s.data.toList.take k) ^^^ byte32 s[k])
      go_wp2
      rw [hx.out, ← HX.out]
      go_loop [0, 6] (fun y j => ∃ m : Nat, m ≤ 8 ∧ j = .int .i64 m ∧ y = .int .u32 ((bits8 m x).toNat : Int)) (fun _ j => 8 - (intOf j).toNat)
      case atStart => exact ⟨0, by omega, rfl, rfl⟩
      case round =>
        obtain ⟨m, hm, rfl, rfl⟩ := hrel
        by_cases hlm : m < 8
        · obtain ⟨z, HZ⟩ := named (bits8 m x)
          rw [← HZ.out]
          cases hb : z.getLsbD 0
          · have ho : ((z.toNat : Int) % 2 == 1) = false := (odd_walk z).trans hb
            have he := hide (bit_even z hb)
            clear hb
            go_wp2
            go_round
            case rel => exact ⟨m + 1, by omega, by go_num, by rw [he.out, HZ.out]; rfl⟩
            case measure => simp [intOf]; omega
          · have ho : ((z.toNat : Int) % 2 == 1) = true := (odd_walk z).trans hb
            have he := hide (bit_odd z hb)
            clear hb
            go_wp2
            go_round
            case rel => exact ⟨m + 1, by omega, by go_num, by rw [he.out, HZ.out]; rfl⟩
            case measure => simp [intOf]; omega
        · obtain rfl : m = 8 := by omega
          go_wp2
          go_round
          case rel => exact ⟨k + 1, by omega, by go_num, by rw [HX.out, hsn.out, run_append]; rfl⟩
          case measure => simp [intOf]; omega
    · go_wp2
      go_ret
      exact ⟨ret_int (by rw [List.take_of_length_le (by simp; omega)]), rfl⟩
set_option maxHeartbeats 400000 in
theorem refsum_w (s : ByteArray) (w : World) (hs : s.size ≤ maxLen) :
    Calls Try.prog 62 #[.string s] w fun e w' => e = .returned (.int .u32 ((more 0#32 s.data.toList).toNat : Int)) ∧ w = w' := by
  go_enter Try.func62, Try.ntmps62
  go_wp2_with (go_at_call 98; refine (refrun_w 4294967295#32 _ _ hs).mono ?_; rintro e w' ⟨rfl, rfl⟩)
  go_ret
  exact ⟨ret_int (not_walk _), rfl⟩
end Go.Proofs.Ytpfbmmeipojodaa
end
section
/- The document's first of chapter 03. -/
namespace Go.Proofs.Ytpfbmmeipojodaa
set_option linter.unusedSimpArgs false
set_option linter.unusedVariables false
open Go.RowKit
open Crc
/-- One byte that was laid, as a slice. -/
def OneAt (a : UInt8) (E : TypeId) (v : Value) (w : World) : Prop := ∃ g, v = .slice (some ⟨g, 0, none⟩) 1 1 ∧ Blk w g (cellsOf [a]) E
theorem OneAt.conv {P : Program} {a : UInt8} {E : TypeId} {v : Value} {w : World} (h : OneAt a E v w) (src dst e : TypeId) (hs : P.underlying src = some (.slice e)) (he : P.underlying e = some (.int .u8)) (hd : P.underlying dst = some .string) :
    (convert src dst v).run P w = .ok (.string (str [a])) w := by
  obtain ⟨g, rfl, hb⟩ := h
  refine run_convert_bytes_back w src dst e _ 1 [a] hs he hd ?_
  intro j hj
  rw [addr_add, hb.cell, Nat.zero_add]
  simp only [cellsOf, List.map_cons, List.map_nil]
  match j, hj with
  | 0, _ => rfl
set_option maxHeartbeats 16000000 in
set_option maxRecDepth 100000 in
theorem refFirst_w (kind : UInt8) (epoch seq len sum : Nat) (w : World) (hlen : len < 4294967296) (hep : epoch < 18446744073709551616) (hsq : seq < 18446744073709551616) (hsum : sum < 4294967296) :
    Calls Try.prog 61 #[.agg #[.int .u8 (kind.toNat : Int), .int .u64 (epoch : Int), .int .u64 (seq : Int), .int .i64 (len : Int), .int .u32 (sum : Int)]] w fun e w' => e = .returned (.string (str (headL kind epoch seq len sum))) ∧ Below w.heap.size w w' := by
  have hwr := wrap_u32_nat len hlen
  obtain ⟨F, HF⟩ := named (str (headL kind epoch seq len sum))
  rw [← HF.out]
  obtain ⟨T0, H0⟩ := named (str [kind])
  have ha0 : ∀ w', (Op.stringOp .add ⟨#[72]⟩ T0).run Try.prog w' = .ok (.string (⟨#[72]⟩ ++ T0)) w' := fun w' => run_string_add_sum w' _ _ (by rw [H0.out, str_size]; show 1 + 1 ≤ 9223372036854775807; decide)
  obtain ⟨T0', H0'⟩ := named ((⟨#[72]⟩ : ByteArray) ++ T0)
  rw [← H0'.out] at ha0
  have e0' : Hid (T0' = str [72, kind]) := by show _ = _; rw [H0'.out, H0.out, show (⟨#[72]⟩ : ByteArray) = str [72] from rfl, str_append]; rfl
  obtain ⟨T1, H1⟩ := named (str (putL epoch 8))
  obtain ⟨T2, H2⟩ := named (str (putL seq 8))
  obtain ⟨T3, H3⟩ := named (str (putL len 4))
  obtain ⟨T4, H4⟩ := named (str (putL sum 4))
  have hq1 := fun w => refput64_w epoch w hep
  have hq2 := fun w => refput64_w seq w hsq
  have hq3 := fun w => refput32_w len w hlen
  have hq4 := fun w => refput32_w sum w hsum
  rw [← H1.out] at hq1
  rw [← H2.out] at hq2
  rw [← H3.out] at hq3
  rw [← H4.out] at hq4
  have z0 : Hid (T0'.size = 2) := by show _ = _; rw [e0'.out, str_size]; rfl
  have z1 : Hid (T1.size = 8) := by show _ = _; rw [H1.out, str_size, putL_length]
  have z2 : Hid (T2.size = 8) := by show _ = _; rw [H2.out, str_size, putL_length]
  have z3 : Hid (T3.size = 4) := by show _ = _; rw [H3.out, str_size, putL_length]
  have z4 : Hid (T4.size = 4) := by show _ = _; rw [H4.out, str_size, putL_length]
  have hall : Hid (T0' ++ T1 ++ T2 ++ T3 ++ T4 = str (frontL kind epoch seq len sum)) := by
    show _ = _
    rw [e0'.out, H1.out, H2.out, H3.out, H4.out, str_append, str_append, str_append, str_append]
    rfl
  have ha1 : ∀ w', (Op.stringOp .add T0' T1).run Try.prog w' = .ok (.string (T0' ++ T1)) w' := fun w' => run_string_add_sum w' _ _ (by rw [z0.out, z1.out]; decide)
  obtain ⟨U1, G1⟩ := named (T0' ++ T1)
  have y1 : Hid (U1.size = 10) := by show _ = _; rw [G1.out, str_app_size, z0.out, z1.out]
  rw [← G1.out] at ha1
  have ha2 : ∀ w', (Op.stringOp .add U1 T2).run Try.prog w' = .ok (.string (U1 ++ T2)) w' := fun w' => run_string_add_sum w' _ _ (by rw [y1.out, z2.out]; decide)
  obtain ⟨U2, G2⟩ := named (U1 ++ T2)
  have y2 : Hid (U2.size = 18) := by show _ = _; rw [G2.out, str_app_size, y1.out, z2.out]
  rw [← G2.out] at ha2
  have ha3 : ∀ w', (Op.stringOp .add U2 T3).run Try.prog w' = .ok (.string (U2 ++ T3)) w' := fun w' => run_string_add_sum w' _ _ (by rw [y2.out, z3.out]; decide)
  obtain ⟨U3, G3⟩ := named (U2 ++ T3)
  have y3 : Hid (U3.size = 22) := by show _ = _; rw [G3.out, str_app_size, y2.out, z3.out]
  rw [← G3.out] at ha3
  have ha4 : ∀ w', (Op.stringOp .add U3 T4).run Try.prog w' = .ok (.string (U3 ++ T4)) w' := fun w' => run_string_add_sum w' _ _ (by rw [y3.out, z4.out]; decide)
  obtain ⟨U4, G4⟩ := named (U3 ++ T4)
  have y4 : U4.size ≤ maxLen := by rw [G4.out, str_app_size, y3.out, z4.out]; decide
  rw [← G4.out] at ha4
  have hU4 : Hid (U4 = str (frontL kind epoch seq len sum)) := by show _ = _; rw [G4.out, G3.out, G2.out, G1.out]; exact hall.out
  have hU4d : Hid (U4.data.toList = frontL kind epoch seq len sum) := by show _ = _; rw [hU4.out, str_data]
  obtain ⟨C, HC⟩ := named (str (putL (crcOf (frontL kind epoch seq len sum)) 4))
  have hCz : C.size = 4 := by rw [HC.out, str_size, putL_length]
  have hU4z : U4.size = 26 := by rw [show U4.size = U4.data.toList.length from rfl, hU4d.out, frontL_length]
  have ha5 : ∀ w', (Op.stringOp .add U4 C).run Try.prog w' = .ok (.string (U4 ++ C)) w' := fun w' => run_string_add_sum w' _ _ (by rw [hU4z, hCz]; decide)
  have hlast : Hid (str (fillL 64 (U4 ++ C).data.toList) = F) := by
    show _ = _
    rw [HF.out, headL, HC.out, hU4.out, str_append, str_data]
  obtain ⟨D, HD⟩ := named (U4 ++ C)
  have hDz : D.size ≤ 64 := by rw [HD.out, ByteArray.size_append, hU4z, hCz]; decide
  rw [← HD.out] at hlast ha5
  have hcv : ∀ v u, OneAt kind 5 v u → (convert 56 9 v).run Try.prog u = .ok (.string T0) u := fun v u h => by
    rw [H0.out]; exact h.conv _ _ _ Try.underlying56 Try.underlying5 Try.underlying9
  clear hCz hU4z HD e0' H0' z0 z1 z2 z3 z4 y1 y2 y3 G1 G2 G3 G4 H0 H1 H2 H3 H4 hall hU4
  have K := Blk.new w [.int .u8 (kind.toNat : Int), .int .u64 (epoch : Int), .int .u64 (seq : Int), .int .i64 (len : Int), .int .u32 (sum : Int)] 87
  have b0 := below_alloc w (.cells #[.int .u8 (kind.toNat : Int), .int .u64 (epoch : Int), .int .u64 (seq : Int), .int .i64 (len : Int), .int .u32 (sum : Int)] 87)
  obtain ⟨W, HW⟩ := named (w.alloc (.cells #[.int .u8 (kind.toNat : Int), .int .u64 (epoch : Int), .int .u64 (seq : Int), .int .i64 (len : Int), .int .u32 (sum : Int)] 87))
  go_enter Try.func61, Try.ntmps61
  go_wp2_with fail
  rw [← HW.out] at K b0 ⊢
  clear HW
  refine region_flat _ (fun u => Blk u w.heap.size [.int .u8 (kind.toNat : Int), .int .u64 (epoch : Int), .int .u64 (seq : Int), .int .i64 (len : Int), .int .u32 (sum : Int)] 87 ∧ Below w.heap.size w u) (fun u u' => Below u.heap.size u u')
    (rel [fun v _ => v = .pointer (some ⟨w.heap.size, 0, none⟩),
      fun v _ => v = .int .u8 (kind.toNat : Int),
      OneAt kind 5,
      fun v _ => v = .string T0,
      fun v _ => v = .string T0',
      fun v _ => v = .pointer (some ⟨w.heap.size, 1, none⟩),
      fun v _ => v = .int .u64 (epoch : Int),
      fun v _ => v = .string T1,
      fun v _ => v = .string U1,
      fun v _ => v = .pointer (some ⟨w.heap.size, 2, none⟩),
      fun v _ => v = .int .u64 (seq : Int),
      fun v _ => v = .string T2,
      fun v _ => v = .string U2,
      fun v _ => v = .pointer (some ⟨w.heap.size, 3, none⟩),
      fun v _ => v = .int .i64 (len : Int),
      fun v _ => v = .int .u32 (len : Int),
      fun v _ => v = .string T3,
      fun v _ => v = .string U3,
      fun v _ => v = .pointer (some ⟨w.heap.size, 4, none⟩),
      fun v _ => v = .int .u32 (sum : Int),
      fun v _ => v = .string T4,
      fun v _ => v = .string U4,
      fun v _ => v = .string U4])
    (by kernel_rfl) (by kernel_rfl) (fun v => by simp only [putsV, Act.put, List.toList_toArray, List.setIfInBounds_toArray, List.set_cons_zero, List.set_cons_succ, Nat.reduceAdd, Nat.zero_add]; rfl) ?_ ⟨K, b0.drew⟩ ?_ ?_
  · intro j x u u' hb h
    match j with
    | 0 => exact h
    | 1 => exact h
    | 2 => exact (let ⟨g, e, hg⟩ := h; ⟨g, e, hg.below hb⟩)
    | 3 => exact h
    | 4 => exact h
    | 5 => exact h
    | 6 => exact h
    | 7 => exact h
    | 8 => exact h
    | 9 => exact h
    | 10 => exact h
    | 11 => exact h
    | 12 => exact h
    | 13 => exact h
    | 14 => exact h
    | 15 => exact h
    | 16 => exact h
    | 17 => exact h
    | 18 => exact h
    | 19 => exact h
    | 20 => exact h
    | 21 => exact h
    | 22 => exact h
    | _ + 23 => trivial
  · refine ⟨?_, ?_, ?_, ?_, ?_, ?_, ?_, ?_, ?_, ?_, ?_, ?_, ?_, ?_, ?_, ?_, ?_, ?_, ?_, ?_, ?_, ?_, ?_, trivial⟩
    · intro v u hS hd K' hK
      simp only [waited, List.toList_toArray, Region.binds, rel, List.getD_cons_zero, List.getD_cons_succ, true_imp_iff, and_true] at hd
      simp only [rel, List.getD_cons_zero, List.getD_cons_succ, Act.put, List.setIfInBounds_toArray, List.set_cons_zero, List.set_cons_succ] at hK
      try simp only [hd] at hK
      obtain ⟨hS1, hS2⟩ := hS
      go_simp
      exact hK.out _ _ ⟨⟨hS1, hS2⟩, Below.refl _ _, rfl⟩
    · intro v u hS hd K' hK
      simp only [waited, List.toList_toArray, Region.binds, rel, List.getD_cons_zero, List.getD_cons_succ, true_imp_iff, and_true] at hd
      simp only [rel, List.getD_cons_zero, List.getD_cons_succ, Act.put, List.setIfInBounds_toArray, List.set_cons_zero, List.set_cons_succ] at hK
      try simp only [hd] at hK
      obtain ⟨hS1, hS2⟩ := hS
      have x0 := hS1.cell 0
      go_simp
      exact hK.out _ _ ⟨⟨hS1, hS2⟩, Below.refl _ _, rfl⟩
    · intro v u hS hd K' hK
      simp only [waited, List.toList_toArray, Region.binds, rel, List.getD_cons_zero, List.getD_cons_succ, true_imp_iff, and_true] at hd
      simp only [rel, List.getD_cons_zero, List.getD_cons_succ, Act.put, List.setIfInBounds_toArray, List.set_cons_zero, List.set_cons_succ] at hK
      try simp only [hd] at hK
      obtain ⟨hS1, hS2⟩ := hS
      go_simp
      exact hK.out _ _ ⟨⟨hS1.alloc _, hS2.alloc hS2.size _⟩, below_alloc _ _, ⟨_, rfl, Blk.new _ _ _⟩⟩
    · intro v u hS hd K' hK
      simp only [waited, List.toList_toArray, Region.binds, rel, List.getD_cons_zero, List.getD_cons_succ, true_imp_iff, and_true] at hd
      simp only [rel, List.getD_cons_zero, List.getD_cons_succ, Act.put, List.setIfInBounds_toArray, List.set_cons_zero, List.set_cons_succ] at hK
      try simp only [hd] at hK
      obtain ⟨hS1, hS2⟩ := hS
      go_simp
      exact hK.out _ _ ⟨⟨hS1, hS2⟩, Below.refl _ _, rfl⟩
    · intro v u hS hd K' hK
      simp only [waited, List.toList_toArray, Region.binds, rel, List.getD_cons_zero, List.getD_cons_succ, true_imp_iff, and_true] at hd
      simp only [rel, List.getD_cons_zero, List.getD_cons_succ, Act.put, List.setIfInBounds_toArray, List.set_cons_zero, List.set_cons_succ] at hK
      try simp only [hd] at hK
      obtain ⟨hS1, hS2⟩ := hS
      go_simp
      exact hK.out _ _ ⟨⟨hS1, hS2⟩, Below.refl _ _, rfl⟩
    · intro v u hS hd K' hK
      simp only [waited, List.toList_toArray, Region.binds, rel, List.getD_cons_zero, List.getD_cons_succ, true_imp_iff, and_true] at hd
      simp only [rel, List.getD_cons_zero, List.getD_cons_succ, Act.put, List.setIfInBounds_toArray, List.set_cons_zero, List.set_cons_succ] at hK
      try simp only [hd] at hK
      obtain ⟨hS1, hS2⟩ := hS
      go_simp
      exact hK.out _ _ ⟨⟨hS1, hS2⟩, Below.refl _ _, rfl⟩
    · intro v u hS hd K' hK
      simp only [waited, List.toList_toArray, Region.binds, rel, List.getD_cons_zero, List.getD_cons_succ, true_imp_iff, and_true] at hd
      simp only [rel, List.getD_cons_zero, List.getD_cons_succ, Act.put, List.setIfInBounds_toArray, List.set_cons_zero, List.set_cons_succ] at hK
      try simp only [hd] at hK
      obtain ⟨hS1, hS2⟩ := hS
      have x0 := hS1.cell 1
      go_simp
      exact hK.out _ _ ⟨⟨hS1, hS2⟩, Below.refl _ _, rfl⟩
    · intro v u hS hd K' hK
      simp only [waited, List.toList_toArray, Region.binds, rel, List.getD_cons_zero, List.getD_cons_succ, true_imp_iff, and_true] at hd
      simp only [rel, List.getD_cons_zero, List.getD_cons_succ, Act.put, List.setIfInBounds_toArray, List.set_cons_zero, List.set_cons_succ] at hK
      try simp only [hd] at hK
      obtain ⟨hS1, hS2⟩ := hS
      go_simp
      refine (hq1 _).mono ?_
      rintro e w2 ⟨rfl, hb2⟩
      exact hK.out _ _ ⟨⟨hS1.below hb2, bt hS2 hb2⟩, hb2, rfl⟩
    · intro v u hS hd K' hK
      simp only [waited, List.toList_toArray, Region.binds, rel, List.getD_cons_zero, List.getD_cons_succ, true_imp_iff, and_true] at hd
      simp only [rel, List.getD_cons_zero, List.getD_cons_succ, Act.put, List.setIfInBounds_toArray, List.set_cons_zero, List.set_cons_succ] at hK
      try simp only [hd] at hK
      obtain ⟨hS1, hS2⟩ := hS
      go_simp
      exact hK.out _ _ ⟨⟨hS1, hS2⟩, Below.refl _ _, rfl⟩
    · intro v u hS hd K' hK
      simp only [waited, List.toList_toArray, Region.binds, rel, List.getD_cons_zero, List.getD_cons_succ, true_imp_iff, and_true] at hd
      simp only [rel, List.getD_cons_zero, List.getD_cons_succ, Act.put, List.setIfInBounds_toArray, List.set_cons_zero, List.set_cons_succ] at hK
      try simp only [hd] at hK
      obtain ⟨hS1, hS2⟩ := hS
      go_simp
      exact hK.out _ _ ⟨⟨hS1, hS2⟩, Below.refl _ _, rfl⟩
    · intro v u hS hd K' hK
      simp only [waited, List.toList_toArray, Region.binds, rel, List.getD_cons_zero, List.getD_cons_succ, true_imp_iff, and_true] at hd
      simp only [rel, List.getD_cons_zero, List.getD_cons_succ, Act.put, List.setIfInBounds_toArray, List.set_cons_zero, List.set_cons_succ] at hK
      try simp only [hd] at hK
      obtain ⟨hS1, hS2⟩ := hS
      have x0 := hS1.cell 2
      go_simp
      exact hK.out _ _ ⟨⟨hS1, hS2⟩, Below.refl _ _, rfl⟩
    · intro v u hS hd K' hK
      simp only [waited, List.toList_toArray, Region.binds, rel, List.getD_cons_zero, List.getD_cons_succ, true_imp_iff, and_true] at hd
      simp only [rel, List.getD_cons_zero, List.getD_cons_succ, Act.put, List.setIfInBounds_toArray, List.set_cons_zero, List.set_cons_succ] at hK
      try simp only [hd] at hK
      obtain ⟨hS1, hS2⟩ := hS
      go_simp
      refine (hq2 _).mono ?_
      rintro e w2 ⟨rfl, hb2⟩
      exact hK.out _ _ ⟨⟨hS1.below hb2, bt hS2 hb2⟩, hb2, rfl⟩
    · intro v u hS hd K' hK
      simp only [waited, List.toList_toArray, Region.binds, rel, List.getD_cons_zero, List.getD_cons_succ, true_imp_iff, and_true] at hd
      simp only [rel, List.getD_cons_zero, List.getD_cons_succ, Act.put, List.setIfInBounds_toArray, List.set_cons_zero, List.set_cons_succ] at hK
      try simp only [hd] at hK
      obtain ⟨hS1, hS2⟩ := hS
      go_simp
      exact hK.out _ _ ⟨⟨hS1, hS2⟩, Below.refl _ _, rfl⟩
    · intro v u hS hd K' hK
      simp only [waited, List.toList_toArray, Region.binds, rel, List.getD_cons_zero, List.getD_cons_succ, true_imp_iff, and_true] at hd
      simp only [rel, List.getD_cons_zero, List.getD_cons_succ, Act.put, List.setIfInBounds_toArray, List.set_cons_zero, List.set_cons_succ] at hK
      try simp only [hd] at hK
      obtain ⟨hS1, hS2⟩ := hS
      go_simp
      exact hK.out _ _ ⟨⟨hS1, hS2⟩, Below.refl _ _, rfl⟩
    · intro v u hS hd K' hK
      simp only [waited, List.toList_toArray, Region.binds, rel, List.getD_cons_zero, List.getD_cons_succ, true_imp_iff, and_true] at hd
      simp only [rel, List.getD_cons_zero, List.getD_cons_succ, Act.put, List.setIfInBounds_toArray, List.set_cons_zero, List.set_cons_succ] at hK
      try simp only [hd] at hK
      obtain ⟨hS1, hS2⟩ := hS
      have x0 := hS1.cell 3
      go_simp
      exact hK.out _ _ ⟨⟨hS1, hS2⟩, Below.refl _ _, rfl⟩
    · intro v u hS hd K' hK
      simp only [waited, List.toList_toArray, Region.binds, rel, List.getD_cons_zero, List.getD_cons_succ, true_imp_iff, and_true] at hd
      simp only [rel, List.getD_cons_zero, List.getD_cons_succ, Act.put, List.setIfInBounds_toArray, List.set_cons_zero, List.set_cons_succ] at hK
      try simp only [hd] at hK
      obtain ⟨hS1, hS2⟩ := hS
      go_simp
      exact hK.out _ _ ⟨⟨hS1, hS2⟩, Below.refl _ _, rfl⟩
    · intro v u hS hd K' hK
      simp only [waited, List.toList_toArray, Region.binds, rel, List.getD_cons_zero, List.getD_cons_succ, true_imp_iff, and_true] at hd
      simp only [rel, List.getD_cons_zero, List.getD_cons_succ, Act.put, List.setIfInBounds_toArray, List.set_cons_zero, List.set_cons_succ] at hK
      try simp only [hd] at hK
      obtain ⟨hS1, hS2⟩ := hS
      go_simp
      refine (hq3 _).mono ?_
      rintro e w2 ⟨rfl, hb2⟩
      exact hK.out _ _ ⟨⟨hS1.below hb2, bt hS2 hb2⟩, hb2, rfl⟩
    · intro v u hS hd K' hK
      simp only [waited, List.toList_toArray, Region.binds, rel, List.getD_cons_zero, List.getD_cons_succ, true_imp_iff, and_true] at hd
      simp only [rel, List.getD_cons_zero, List.getD_cons_succ, Act.put, List.setIfInBounds_toArray, List.set_cons_zero, List.set_cons_succ] at hK
      try simp only [hd] at hK
      obtain ⟨hS1, hS2⟩ := hS
      go_simp
      exact hK.out _ _ ⟨⟨hS1, hS2⟩, Below.refl _ _, rfl⟩
    · intro v u hS hd K' hK
      simp only [waited, List.toList_toArray, Region.binds, rel, List.getD_cons_zero, List.getD_cons_succ, true_imp_iff, and_true] at hd
      simp only [rel, List.getD_cons_zero, List.getD_cons_succ, Act.put, List.setIfInBounds_toArray, List.set_cons_zero, List.set_cons_succ] at hK
      try simp only [hd] at hK
      obtain ⟨hS1, hS2⟩ := hS
      go_simp
      exact hK.out _ _ ⟨⟨hS1, hS2⟩, Below.refl _ _, rfl⟩
    · intro v u hS hd K' hK
      simp only [waited, List.toList_toArray, Region.binds, rel, List.getD_cons_zero, List.getD_cons_succ, true_imp_iff, and_true] at hd
      simp only [rel, List.getD_cons_zero, List.getD_cons_succ, Act.put, List.setIfInBounds_toArray, List.set_cons_zero, List.set_cons_succ] at hK
      try simp only [hd] at hK
      obtain ⟨hS1, hS2⟩ := hS
      have x0 := hS1.cell 4
      go_simp
      exact hK.out _ _ ⟨⟨hS1, hS2⟩, Below.refl _ _, rfl⟩
    · intro v u hS hd K' hK
      simp only [waited, List.toList_toArray, Region.binds, rel, List.getD_cons_zero, List.getD_cons_succ, true_imp_iff, and_true] at hd
      simp only [rel, List.getD_cons_zero, List.getD_cons_succ, Act.put, List.setIfInBounds_toArray, List.set_cons_zero, List.set_cons_succ] at hK
      try simp only [hd] at hK
      obtain ⟨hS1, hS2⟩ := hS
      go_simp
      refine (hq4 _).mono ?_
      rintro e w2 ⟨rfl, hb2⟩
      exact hK.out _ _ ⟨⟨hS1.below hb2, bt hS2 hb2⟩, hb2, rfl⟩
    · intro v u hS hd K' hK
      simp only [waited, List.toList_toArray, Region.binds, rel, List.getD_cons_zero, List.getD_cons_succ, true_imp_iff, and_true] at hd
      simp only [rel, List.getD_cons_zero, List.getD_cons_succ, Act.put, List.setIfInBounds_toArray, List.set_cons_zero, List.set_cons_succ] at hK
      try simp only [hd] at hK
      obtain ⟨hS1, hS2⟩ := hS
      go_simp
      exact hK.out _ _ ⟨⟨hS1, hS2⟩, Below.refl _ _, rfl⟩
    · intro v u hS hd K' hK
      simp only [waited, List.toList_toArray, Region.binds, rel, List.getD_cons_zero, List.getD_cons_succ, true_imp_iff, and_true] at hd
      simp only [rel, List.getD_cons_zero, List.getD_cons_succ, Act.put, List.setIfInBounds_toArray, List.set_cons_zero, List.set_cons_succ] at hK
      try simp only [hd] at hK
      obtain ⟨hS1, hS2⟩ := hS
      go_simp
      exact hK.out _ _ ⟨⟨hS1, hS2⟩, Below.refl _ _, rfl⟩
  · rintro v u ⟨hS1, hS2⟩ hR
    simp only [holdAll, List.size_toArray, List.length_cons, List.length_nil, Nat.reduceAdd, rel, List.getD_cons_zero, List.getD_cons_succ] at hR
    obtain ⟨_, h21⟩ := hR
    rw [h21]
    clear h21
    have hu := hS2
    clear K b0 hS1 hS2
    have hq5 := fun w => refput32_w (crcOf (frontL kind epoch seq len sum)) w (crcOf_lt _)
    rw [← HC.out] at hq5
    rw [crcOf, ← hU4d.out] at hq5
    go_wp2_with fail
    refine (refsum_w _ _ y4).mono ?_
    rintro e w2 ⟨rfl, rfl⟩
    go_wp2_with fail
    refine (hq5 _).mono ?_
    rintro e w2 ⟨rfl, hb2⟩
    have hpd := padded_w D w2 hDz
    rw [hlast.out] at hpd
    go_wp2_with fail
    refine hpd.mono ?_
    rintro e w3 ⟨rfl, hb3⟩
    go_wp2
    go_ret
    exact ⟨rfl, bt (bt hu hb2) hb3⟩
end Go.Proofs.Ytpfbmmeipojodaa
end
section
/- Sectors of which one bit is turned are those of no frame. -/
namespace Go.Proofs.Ytpfbmmeipojodaa
open Go.RowKit
open Crc
theorem modify_left {α : Type} (f : α → α) : ∀ (a b : List α) (k : Nat), k < a.length → (a ++ b).modify k f = a.modify k f ++ b
  | [], _, _, h => absurd h (by simp)
  | x :: a, b, 0, _ => rfl
  | x :: a, b, k + 1, h => by
    rw [List.cons_append, List.modify_succ_cons, List.modify_succ_cons, List.cons_append, modify_left f a b k (by simpa using h)]
theorem modify_right {α : Type} (f : α → α) : ∀ (a b : List α) (k : Nat), (a ++ b).modify (a.length + k) f = a ++ b.modify k f
  | [], _, _ => by simp
  | x :: a, b, k => by
    rw [List.cons_append, List.length_cons, show a.length + 1 + k = a.length + k + 1 by omega, List.modify_succ_cons, modify_right f a b k, List.cons_append]
theorem flipL_left {a b : List UInt8} {n : Nat} (h : n / 8 < a.length) : flipL (a ++ b) n = flipL a n ++ b := modify_left _ a b _ h
theorem flipL_right (a b : List UInt8) (n m : Nat) (h : m = n + 8 * a.length) : flipL (a ++ b) m = a ++ flipL b n := by
  subst h
  unfold flipL
  rw [show (n + 8 * a.length) / 8 = a.length + n / 8 by omega, show (n + 8 * a.length) % 8 = n % 8 by omega]
  exact modify_right _ a b _
theorem flipL_ne' (l : List UInt8) (n : Nat) (h : n / 8 < l.length) : flipL l n ≠ l := fun e => one_turned 0#32 l n h (by rw [e])
theorem crcOf_turned (l : List UInt8) (n : Nat) (h : n / 8 < l.length) : crcOf (flipL l n) ≠ crcOf l := fun e => one_turned 0#32 l n h (BitVec.eq_of_toNat_eq e)
theorem flatten_flip (b : Nat) (hb : b / 8 < 61) : ∀ (P : List (List UInt8)) (i : Nat), i < P.length → (∀ x ∈ P, x.length = 61) → (P.modify i fun x => flipL x b).flatten = flipL P.flatten (b + 488 * i)
  | [], _, h, _ => absurd h (by simp)
  | x :: P, 0, _, hx => by
    have h0 : x.length = 61 := hx x (by simp)
    show (flipL x b :: P).flatten = _
    rw [List.flatten_cons, List.flatten_cons, flipL_left (by rw [h0]; omega)]
    rfl
  | x :: P, i + 1, h, hx => by
    have h0 : x.length = 61 := hx x (by simp)
    rw [List.modify_succ_cons, List.flatten_cons, List.flatten_cons, flatten_flip b hb P i (by simpa using h) (fun y hy => hx y (by simp [hy]))]
    exact (flipL_right x P.flatten (b + 488 * i) _ (by rw [h0]; omega)).symm
/-- A head is told by its first bytes. -/
theorem head_told (k : UInt8) (e s len sum : Nat) : headL k e s len sum = frontL k e s len sum ++ (putL (crcOf (frontL k e s len sum)) 4 ++ List.replicate 34 0) := by
  have hf := frontL_length k e s len sum
  rw [headL, fillL, List.length_append, hf, putL_length, show 64 - (26 + 4) = 34 from rfl, List.append_assoc]
theorem crc_of_put {a b : Nat} (ha : a < 4294967296) (hb : b < 4294967296) (h : putL a 4 = putL b 4) : a = b := by
  have := congrArg getL h
  rw [getL_putL, getL_putL, Nat.mod_eq_of_lt (by simpa using ha), Nat.mod_eq_of_lt (by simpa using hb)] at this
  exact this
theorem head_turned (k : UInt8) (e s len sum : Nat) (k' : UInt8) (e' s' len' sum' bit : Nat) (h : bit / 8 < 64) : headL k' e' s' len' sum' ≠ flipL (headL k e s len sum) bit := by
  intro he
  rw [head_told, head_told k e s len sum] at he
  have f1 := frontL_length k e s len sum
  have f2 := frontL_length k' e' s' len' sum'
  obtain ⟨F, hF⟩ : ∃ F, F = frontL k e s len sum := ⟨_, rfl⟩
  obtain ⟨F', hF'⟩ : ∃ F', F' = frontL k' e' s' len' sum' := ⟨_, rfl⟩
  rw [← hF] at he f1
  rw [← hF'] at he f2
  rcases Nat.lt_or_ge (bit / 8) 26 with hlt | hge
  · rw [flipL_left (by rw [f1]; exact hlt)] at he
    have hl : (flipL F bit).length = 26 := by rw [flipL_length, f1]
    obtain ⟨e1, e2⟩ := List.append_inj he (by rw [f2, hl])
    have e3 := (List.append_inj e2 (by rw [putL_length, putL_length])).1
    have e4 := crc_of_put (crcOf_lt _) (crcOf_lt _) e3
    rw [e1] at e4
    exact crcOf_turned F bit (by rw [f1]; exact hlt) e4
  · have hr := flipL_right F (putL (crcOf F) 4 ++ List.replicate 34 0) (bit - 208) bit (by rw [f1]; omega)
    rw [hr] at he
    obtain ⟨e1, e2⟩ := List.append_inj he (by rw [f1, f2])
    rw [e1] at e2
    exact flipL_ne' _ _ (by simp [putL_length]; omega) e2.symm
theorem piece_turned (p q : List UInt8) (i bit : Nat) (hb : bit / 8 < 64) (hlen : q.length = p.length) (hcrc : crcOf q = crcOf p) (hi : i < piecesN p.length)
    (h : (List.range (piecesN p.length)).map (pieceL q) = ((List.range (piecesN p.length)).map (pieceL p)).modify i fun x => flipL x bit) : False := by
  have hat : pieceL q i = flipL (pieceL p i) bit := by
    have := congrArg (fun l => l[i]?) h
    simpa [hi, List.getElem?_modify] using this
  have hne : flipL (pieceL p i) bit ≠ pieceL p i := flipL_ne' _ _ (by rw [pieceL_length]; exact hb)
  rcases Nat.lt_or_ge (bit / 8) 3 with h3 | h3
  · have hs : ∀ r : List UInt8, pieceL r i = [66, UInt8.ofNat (i % 256), UInt8.ofNat (i / 256)] ++ (pieceL r i).drop 3 := fun r => by
      rw [pieceL_data, pieceL, fillL, List.append_assoc]
      congr 2
      have : ((r.drop (61 * i)).take 61).length ≤ 61 := by simp; omega
      congr 1
      simp only [List.length_append, List.length_cons, List.length_nil]
      omega
    rw [hs q, hs p, flipL_left (by simpa using h3)] at hat
    have e1 := (List.append_inj hat (by rw [flipL_length])).1
    exact flipL_ne' _ _ (by simpa using h3) e1.symm
  · have hdrop : ∀ x : List UInt8, x.length = 64 → (flipL x bit).drop 3 = flipL (x.drop 3) (bit - 24) := fun x hx => by
      have hx' : x = x.take 3 ++ x.drop 3 := (List.take_append_drop 3 x).symm
      have hl : (x.take 3).length = 3 := by rw [List.length_take, hx]; rfl
      conv => lhs; rw [hx']
      rw [flipL_right (x.take 3) (x.drop 3) (bit - 24) bit (by rw [hl]; omega)]
      exact List.drop_left' hl
    have hD : ((List.range (piecesN p.length)).map (pieceL q)).map (List.drop 3) = (((List.range (piecesN p.length)).map (pieceL p)).map (List.drop 3)).modify i fun x => flipL x (bit - 24) := by
      rw [h]
      apply List.ext_getElem?
      intro j
      simp only [List.getElem?_map, List.getElem?_modify]
      by_cases hij : i = j
      · subst hij
        simp only [if_true, List.getElem?_range hi, Option.map_some]
        show some ((flipL (pieceL p i) bit).drop 3) = some (flipL ((pieceL p i).drop 3) (bit - 24))
        rw [hdrop _ (pieceL_length _ _)]
      · simp [hij]
    have hfl := congrArg List.flatten hD
    rw [flatten_flip (bit - 24) (by omega) _ i (by simpa using hi) (fun x hx => by
      simp only [List.map_map, List.mem_map] at hx
      obtain ⟨j, _, rfl⟩ := hx
      show ((pieceL p j).drop 3).length = 61
      rw [List.length_drop, pieceL_length])] at hfl
    have e : ∀ r : List UInt8, (((List.range (piecesN p.length)).map (pieceL r)).map (List.drop 3)).flatten = (List.range (piecesN p.length)).flatMap fun j => (pieceL r j).drop 3 := fun r => by
      rw [List.map_map, List.flatMap_def]
      rfl
    rw [e q, e p] at hfl
    have hq : ((List.range (piecesN p.length)).flatMap fun j => (pieceL q j).drop 3).take p.length = q := by
      have := pieces_join q
      rw [hlen] at this
      exact this
    have hp := pieces_join p
    obtain ⟨D, hDd⟩ : ∃ D, D = (List.range (piecesN p.length)).flatMap fun j => (pieceL p j).drop 3 := ⟨_, rfl⟩
    rw [hfl] at hq
    rw [← hDd] at hq hp
    have hsplit : D = p ++ D.drop p.length := by
      conv => lhs; rw [← List.take_append_drop p.length D]
      rw [hp]
    rcases Nat.lt_or_ge ((bit - 24 + 488 * i) / 8) p.length with hin | hout
    · rw [hsplit, flipL_left hin, List.take_left' (by rw [flipL_length])] at hq
      rw [← hq] at hcrc
      exact crcOf_turned p _ hin hcrc
    · have hr := flipL_right p (D.drop p.length) (bit - 24 + 488 * i - 8 * p.length) (bit - 24 + 488 * i) (by omega)
      rw [hsplit, hr, List.take_left' rfl] at hq
      rw [← hq] at hat
      exact hne hat.symm
theorem turned_no (f : Fr) (hf : FrOk f) (i bit : Nat) (hi : i < (sectorsL f).length) (hb : bit / 8 < 64) : NoFrame (((sectorsL f).modify i fun x => flipL x bit).map str) := by
  intro g hg he
  have he := map_str_inj he
  cases i with
  | zero =>
    rw [sectorsL, sectorsL, List.modify_zero_cons] at he
    injection he with h1 _
    exact head_turned _ _ _ _ _ _ _ _ _ _ bit hb h1
  | succ i =>
    rw [sectorsL, sectorsL, List.modify_succ_cons] at he
    injection he with h1 h2
    have hl : g.pay.length = f.pay.length := by
      have := congrArg (fun l => atL l 18 4) h1
      simp only [frHead, head_at18] at this
      rw [Nat.mod_eq_of_lt (by have := hg.pay; omega), Nat.mod_eq_of_lt (by have := hf.pay; omega)] at this
      exact this
    have hc : crcOf g.pay = crcOf f.pay := by
      have := congrArg (fun l => atL l 22 4) h1
      simp only [frHead, head_at22] at this
      rw [Nat.mod_eq_of_lt (by have := crcOf_lt g.pay; simpa using this), Nat.mod_eq_of_lt (by have := crcOf_lt f.pay; simpa using this)] at this
      exact this
    rw [hl] at h2
    rw [sectorsL_length] at hi
    exact piece_turned f.pay g.pay i bit hb hl hc (by omega) h2
theorem piece_noHead (p : List UInt8) (i : Nat) : ¬ HeadOk (str (pieceL p i)).data.toList := fun h => by
  have := h.mark
  rw [str_data] at this
  have e : (pieceL p i).getD 0 0 = 66 := by rw [pieceL, fillL]; rfl
  rw [e] at this
  revert this
  decide
end Go.Proofs.Ytpfbmmeipojodaa
end
section
/- The document: Get32, Get64 of chapter 01. -/
namespace Go.Proofs.Ytpfbmmeipojodaa
open Go.RowKit
open Crc
set_option maxHeartbeats 400000 in
theorem refget_w (s : ByteArray) (w : World) (h8 : s.size ≤ 8) :
    Calls Try.prog 106 #[.string s] w fun e w' => e = .returned (.int .u64 (getL s.data.toList : Int)) ∧ w = w' := by
  go_enter Try.func106, Try.ntmps106
  go_wp2
  go_loop [3, 4] (fun x i => ∃ k : Nat, k ≤ s.size ∧ i = .int .i64 ((k : Int) - 1) ∧ x = .int .u64 (getL (s.data.toList.drop k) : Int)) (fun _ i => ((intOf i) + 1).toNat)
  case atStart => exact ⟨s.size, by omega, rfl, by rw [List.drop_of_length_le (by simp)]; rfl⟩
  case round =>
    obtain ⟨k, hk, rfl, rfl⟩ := hrel
    by_cases hlt : 0 < k
    · obtain ⟨j, rfl⟩ : ∃ j, k = j + 1 := ⟨k - 1, by omega⟩
      have hj : (((j + 1 : Nat) : Int) - 1) = j := by omega
      rw [hj]
      clear hj
      go_wp2
      go_round
      case rel => exact ⟨j, by omega, rfl, by rw [get_walk _ _ (by simp; omega), drop_cons s j (by omega)]⟩
      case measure => simp [intOf]
    · obtain rfl : k = 0 := by omega
      go_wp2
      go_ret
      exact ⟨rfl, rfl⟩
set_option maxHeartbeats 400000 in
theorem refget32_w (s : ByteArray) (w : World) (_hs : s.size ≤ maxLen) :
    Calls Try.prog 103 #[.string s] w fun e w' => e = .returned (.tuple #[.int .u32 (gotN 4 s.data.toList : Int), .int .i64 (gotE 4 s.data.toList)]) ∧ w = w' := by
  by_cases h : s.size = 4
  · have hg := got_yes 4 s.data.toList (by simpa using h)
    rw [hg.1, hg.2]
    have hb : ((s.size : Int) != 4) = false := by simp; omega
    have hl : getL s.data.toList < 4294967296 := by
      have := getL_lt s.data.toList
      rw [show s.data.toList.length = 4 from by simpa using h] at this
      simpa using this
    have h' := hide h
    have hle : s.size ≤ 8 := by omega
    clear h hg
    go_enter Try.func103, Try.ntmps103
    go_wp2_with (go_at_call 106; refine (refget_w s _ hle).mono ?_; rintro e w' ⟨rfl, rfl⟩)
    go_ret2
    exact ⟨rfl, rfl⟩
  · have hg := got_no 4 s.data.toList (by simpa using h)
    rw [hg.1, hg.2]
    have hb : ((s.size : Int) != 4) = true := by simp; omega
    clear hg
    go_enter Try.func103, Try.ntmps103
    go_wp2
    go_ret2
    exact ⟨rfl, rfl⟩
set_option maxHeartbeats 400000 in
theorem refget64_w (s : ByteArray) (w : World) (_hs : s.size ≤ maxLen) :
    Calls Try.prog 102 #[.string s] w fun e w' => e = .returned (.tuple #[.int .u64 (gotN 8 s.data.toList : Int), .int .i64 (gotE 8 s.data.toList)]) ∧ w = w' := by
  by_cases h : s.size = 8
  · have hg := got_yes 8 s.data.toList (by simpa using h)
    rw [hg.1, hg.2]
    have hb : ((s.size : Int) != 8) = false := by simp; omega
    have h' := hide h
    have hle : s.size ≤ 8 := by omega
    clear h hg
    go_enter Try.func102, Try.ntmps102
    go_wp2_with (go_at_call 106; refine (refget_w s _ hle).mono ?_; rintro e w' ⟨rfl, rfl⟩)
    go_ret2
    exact ⟨rfl, rfl⟩
  · have hg := got_no 8 s.data.toList (by simpa using h)
    rw [hg.1, hg.2]
    have hb : ((s.size : Int) != 8) = true := by simp; omega
    clear hg
    go_enter Try.func102, Try.ntmps102
    go_wp2
    go_ret2
    exact ⟨rfl, rfl⟩
end Go.Proofs.Ytpfbmmeipojodaa
end
