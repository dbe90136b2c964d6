/- The document's piece of chapter 03. -/
import Derived.Test.YtpfbmmeipojodaaGE
import Derived.Deep.RegionHeld3
namespace Go.Proofs.Ytpfbmmeipojodaa
open Go.RowKit
theorem pair_bytes {P : Program} (src dst e E : TypeId) (hs : P.underlying src = some (.slice e)) (he : P.underlying e = some (.int .u8)) (hd : P.underlying dst = some .string) (a b : UInt8) (cap : Nat) (w : World) :
    (convert src dst (.slice (some ⟨w.heap.size, 0, none⟩) 2 cap)).run P (w.alloc (.cells #[.int .u8 (a.toNat : Int), .int .u8 (b.toNat : Int)] E)) = .ok (.string (str [a, b])) (w.alloc (.cells #[.int .u8 (a.toNat : Int), .int .u8 (b.toNat : Int)] E)) :=
  back_cells w src dst e E [a, b] 2 rfl hs he hd cap
theorem wrap_i64_nat (n : Nat) (h : n < 9223372036854775808) : IntKind.i64.wrap (n : Int) = n := by simp [IntKind.wrap, IntKind.bits, IntKind.signed]; omega
set_option maxHeartbeats 4000000 in
set_option maxRecDepth 100000 in
theorem refPiece_w (p : ByteArray) (i : Nat) (w : World) (hi : i < piecesN p.size) (hp : p.size ≤ 16384) :
    Calls Try.prog 64 #[.string p, .int .i64 (i : Int)] w fun e w' => e = .returned (.string (str (pieceL p.data.toList i))) ∧ Below w.heap.size w w' := by
  have hi2 : 61 * i < p.size := by unfold piecesN at hi; omega
  have hi3 : i ≤ 268 := by unfold piecesN at hi; omega
  obtain ⟨a, ha⟩ := named (UInt8.ofNat (i % 256))
  obtain ⟨b, hb⟩ := named (UInt8.ofNat (i / 256))
  have hat : a.toNat = i % 256 := by rw [ha.out]; simp
  have hbt : b.toNat = i / 256 := by rw [hb.out]; simp; omega
  have hmod : Int.tmod (i : Int) 256 = (a.toNat : Int) := by rw [Int.tmod_eq_emod_of_nonneg (by omega), hat]; omega
  have hdiv : Int.tdiv (i : Int) 256 = (b.toNat : Int) := by rw [Int.tdiv_eq_ediv_of_nonneg (by omega), hbt]; omega
  have hmod2 : (i : Int) % 256 = (a.toNat : Int) := by rw [hat]; omega
  have hdiv2 : (i : Int) / 256 = (b.toNat : Int) := by rw [hbt]; omega
  have hwa : IntKind.u8.wrap (a.toNat : Int) = (a.toNat : Int) := by have := a.toNat_lt; simp [IntKind.wrap, IntKind.bits, IntKind.signed]; omega
  have hwb : IntKind.u8.wrap (b.toNat : Int) = (b.toNat : Int) := by have := b.toNat_lt; simp [IntKind.wrap, IntKind.bits, IntKind.signed]; omega
  have hcv := fun w : World => pair_bytes (P := Try.prog) 56 9 5 5 Try.underlying56 Try.underlying5 Try.underlying9 a b 2 w
  obtain ⟨T0, H0⟩ := named (str [a, b])
  rw [← H0.out] at hcv
  have hcvA : ∀ w0 : World, (convert 56 9 (.slice (some ⟨w0.heap.size, 0, none⟩) 2 2)).run Try.prog (w0.alloc (.cells #[.int .u8 (a.toNat : Int), .int .u8 (b.toNat : Int)] 5)).drew = .ok (.string T0) (w0.alloc (.cells #[.int .u8 (a.toNat : Int), .int .u8 (b.toNat : Int)] 5)).drew := fun w0 => hcv w0.drew
  obtain ⟨q, hq⟩ := named (61 * i)
  have hmul : (i : Int) * 61 = (q : Int) := by rw [hq.out]; omega
  have hmul1 : IntKind.i64.wrap ((i : Int) * 61) = (q : Int) := by rw [hmul]; exact wrap_i64_nat q (by rw [hq.out]; omega)
  have hwq : IntKind.i64.wrap (q : Int) = (q : Int) := wrap_i64_nat q (by rw [hq.out]; omega)
  have hwai : IntKind.i64.wrap (a.toNat : Int) = (a.toNat : Int) := wrap_i64_nat _ (by have := a.toNat_lt; omega)
  have hwbi : IntKind.i64.wrap (b.toNat : Int) = (b.toNat : Int) := wrap_i64_nat _ (by have := b.toNat_lt; omega)
  obtain ⟨e, he⟩ := named (min (61 * i + 61) p.size)
  have hqe : (q : Int) ≤ (e : Int) := by rw [hq.out, he.out]; omega
  have hep : (e : Int) ≤ (p.size : Int) := by rw [he.out]; omega
  have hqp : (q : Int) ≤ (p.size : Int) := by omega
  have hq0 : (0 : Int) ≤ (q : Int) := by omega
  have hex : p.extract q e = str ((p.data.toList.drop q).take 61) := by
    rw [extract_str, he.out, hq.out]
    rcases Nat.le_total (61 * i + 61) p.size with h | h
    · rw [Nat.min_eq_left h, show 61 * i + 61 - 61 * i = 61 by omega]
    · rw [Nat.min_eq_right h]
      have hl : p.data.toList.length = p.size := Array.length_toList
      rw [List.take_of_length_le (by rw [List.length_drop, hl]; exact Nat.le_refl _), List.take_of_length_le (by rw [List.length_drop, hl]; omega)]
  obtain ⟨X, HX⟩ := named (str ((p.data.toList.drop q).take 61))
  rw [← HX.out] at hex
  have zX : Hid (X.size ≤ 61) := by show _ ≤ _; rw [HX.out, str_size, List.length_take]; omega
  have z0 : Hid (T0.size = 2) := by show _ = _; rw [H0.out, str_size]; rfl
  have ha1 : ∀ w', (Op.stringOp .add ⟨#[66]⟩ T0).run Try.prog w' = .ok (.string (⟨#[66]⟩ ++ T0)) w' := fun w' => run_string_add_sum w' _ _ (by rw [z0.out]; decide)
  obtain ⟨U1, G1⟩ := named ((⟨#[66]⟩ : ByteArray) ++ T0)
  have y1 : Hid (U1.size = 3) := by show _ = _; rw [G1.out, ByteArray.size_append, z0.out]; rfl
  rw [← G1.out] at ha1
  have ha2 : ∀ w', (Op.stringOp .add U1 X).run Try.prog w' = .ok (.string (U1 ++ X)) w' := fun w' => run_string_add_sum w' _ _ (by rw [y1.out]; have := zX.out; omega)
  obtain ⟨U2, G2⟩ := named (U1 ++ X)
  have y2 : U2.size ≤ 64 := by rw [G2.out, ByteArray.size_append, y1.out]; have := zX.out; omega
  rw [← G2.out] at ha2
  have hfin : Hid (str (fillL 64 U2.data.toList) = str (pieceL p.data.toList i)) := by
    show _ = _
    rw [G2.out, G1.out, HX.out, H0.out, pieceL, ha.out, hb.out, hq.out]
    have e66 : (⟨#[66]⟩ : ByteArray) = str [66] := rfl
    rw [e66, str_append, str_append, str_data]
    rfl
  obtain ⟨R, HR⟩ := named (str (pieceL p.data.toList i))
  rw [← HR.out]
  have hpad := padded_w U2
  clear hcv hat hbt z0 y1 zX G1 G2 H0 HX hi ha hb
  rcases Nat.lt_or_ge p.size (61 * i + 61) with hend | hend
  · have he2 : e = p.size := by rw [he.out]; omega
    have h1 : (p.size : Int) < ((i : Int) + 1) * 61 := by omega
    subst he2
    clear he hq
    go_enter Try.func64, Try.ntmps64
    go_wp2_with fail
    go_region_with
      ((go_at_call 97
        refine (hpad _ y2).mono ?_
        rw [hfin.out, ← HR.out]
        rintro e w2 ⟨rfl, hb2⟩))
    all_goals (
      go_wp2
      go_ret
      exact ⟨rfl, bt (below_alloc w (.cells #[.int .u8 (a.toNat : Int), .int .u8 (b.toNat : Int)] 5)).drew hb2⟩)
  · have he2 : ((i : Int) + 1) * 61 = (e : Int) := by rw [he.out]; omega
    have h1 : ((i : Int) + 1) * 61 ≤ (p.size : Int) := by omega
    clear he hq
    go_enter Try.func64, Try.ntmps64
    go_wp2_with fail
    go_region_with
      ((go_at_call 97
        refine (hpad _ y2).mono ?_
        rw [hfin.out, ← HR.out]
        rintro e w2 ⟨rfl, hb2⟩))
    all_goals (
      go_wp2
      go_ret
      exact ⟨rfl, bt (below_alloc w (.cells #[.int .u8 (a.toNat : Int), .int .u8 (b.toNat : Int)] 5)).drew hb2⟩)
end Go.Proofs.Ytpfbmmeipojodaa
