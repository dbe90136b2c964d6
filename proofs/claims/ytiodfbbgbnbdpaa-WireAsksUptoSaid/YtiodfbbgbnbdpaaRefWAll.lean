/- lictorref19.WriteAsk: the kinds joined. -/
import Derived.Test.YtiodfbbgbnbdpaaRefWA2
import Derived.Test.YtiodfbbgbnbdpaaRefWA3
namespace Go.Proofs.Ytiodfbbgbnbdpaa
set_option linter.unusedSimpArgs false
set_option linter.unusedVariables false
open Go.RowKit
open Crc
theorem list7' (l : List ByteArray) (h : l.length = 7) : ∃ a b c d e f g, l = [a, b, c, d, e, f, g] := by
  match l, h with
  | [a, b, c, d, e, f, g], _ => exact ⟨a, b, c, d, e, f, g, rfl⟩
theorem writeA_val {a : Ask} (hts : a.ts.length = 7) (hn : a.n < 18446744073709551616) (hv : a.v < 18446744073709551616) : writeA a = if (encW a).2 = false ∧ a = bareA a then (a.k :: (encW a).1, 0) else ([], 14) := by
  classical
  rw [writeA_eq]
  by_cases h : (encW a).2 = false ∧ a = bareA a
  · rw [if_pos h, if_pos ⟨hts, hn, hv, h.1, h.2⟩]
  · rw [if_neg h, if_neg (fun r => h ⟨r.ok, r.bare⟩)]
theorem wa_q {a : Ask} (h : (!decide (a = bareA a)) = true) : writeA a = ([], 14) := by
  classical
  rw [writeA_eq, if_neg (fun r => by have := r.bare; simp [← this] at h)]
theorem wa_bad {a : Ask} (h : (encW a).2 = true) : writeA a = ([], 14) := by
  classical
  rw [writeA_eq, if_neg (fun r => by have := r.ok; rw [h] at this; cases this)]
theorem wa_ok {a : Ask} (hts : a.ts.length = 7) (hn : a.n < 18446744073709551616) (hv : a.v < 18446744073709551616) (h1 : (encW a).2 = false) (h : (!decide (a = bareA a)) = false) : writeA a = (a.k :: (encW a).1, 0) := by
  rw [writeA_val hts hn hv, if_pos ⟨h1, by simpa using h⟩]
set_option maxRecDepth 100000 in
theorem refAll_1 (n : Nat) (ck : UInt8) (i x u v : ByteArray) (m : Nat) (s1 s2 s3 s4 s5 s6 s7 : ByteArray) (w : World) (hn : n < 18446744073709551616) (hm : m < 18446744073709551616) :
    Calls Try.prog 10 #[.agg (askCells (⟨1, n, ⟨ck, i, x, u, v⟩, m, [s1, s2, s3, s4, s5, s6, s7]⟩ : Ask)).toArray] w fun e w' => e = .returned (.tuple #[.string (str (writeA (⟨1, n, ⟨ck, i, x, u, v⟩, m, [s1, s2, s3, s4, s5, s6, s7]⟩ : Ask)).1), .int .i64 (writeA (⟨1, n, ⟨ck, i, x, u, v⟩, m, [s1, s2, s3, s4, s5, s6, s7]⟩ : Ask)).2]) ∧ Below w.heap.size w w' :=
  refWA_1 n ck i x u v m s1 s2 s3 s4 s5 s6 s7 (writeA (⟨1, n, ⟨ck, i, x, u, v⟩, m, [s1, s2, s3, s4, s5, s6, s7]⟩ : Ask)) (!decide ((⟨1, n, ⟨ck, i, x, u, v⟩, m, [s1, s2, s3, s4, s5, s6, s7]⟩ : Ask) = bareA (⟨1, n, ⟨ck, i, x, u, v⟩, m, [s1, s2, s3, s4, s5, s6, s7]⟩ : Ask))) w (fun W => ask_neq (⟨1, n, ⟨ck, i, x, u, v⟩, m, [s1, s2, s3, s4, s5, s6, s7]⟩ : Ask) (bareA (⟨1, n, ⟨ck, i, x, u, v⟩, m, [s1, s2, s3, s4, s5, s6, s7]⟩ : Ask)) W rfl rfl) ⟨fun h => wa_q h, fun h => wa_ok rfl hn hm rfl h⟩
set_option maxRecDepth 100000 in
theorem refAll_2 (n : Nat) (ck : UInt8) (i x u v : ByteArray) (m : Nat) (s1 s2 s3 s4 s5 s6 s7 : ByteArray) (w : World) (hn : n < 18446744073709551616) (hm : m < 18446744073709551616) :
    Calls Try.prog 10 #[.agg (askCells (⟨2, n, ⟨ck, i, x, u, v⟩, m, [s1, s2, s3, s4, s5, s6, s7]⟩ : Ask)).toArray] w fun e w' => e = .returned (.tuple #[.string (str (writeA (⟨2, n, ⟨ck, i, x, u, v⟩, m, [s1, s2, s3, s4, s5, s6, s7]⟩ : Ask)).1), .int .i64 (writeA (⟨2, n, ⟨ck, i, x, u, v⟩, m, [s1, s2, s3, s4, s5, s6, s7]⟩ : Ask)).2]) ∧ Below w.heap.size w w' :=
  refWA_2 n ck i x u v m s1 s2 s3 s4 s5 s6 s7 (writeA (⟨2, n, ⟨ck, i, x, u, v⟩, m, [s1, s2, s3, s4, s5, s6, s7]⟩ : Ask)) (!decide ((⟨2, n, ⟨ck, i, x, u, v⟩, m, [s1, s2, s3, s4, s5, s6, s7]⟩ : Ask) = bareA (⟨2, n, ⟨ck, i, x, u, v⟩, m, [s1, s2, s3, s4, s5, s6, s7]⟩ : Ask))) w hn (packR ⟨ck, i, x, u, v⟩).1 (packR ⟨ck, i, x, u, v⟩).2 (fun W b hb => refPack_w b ⟨ck, i, x, u, v⟩ W hb) (Nat.le_trans (packR_len _) (by decide)) (fun W => ask_neq (⟨2, n, ⟨ck, i, x, u, v⟩, m, [s1, s2, s3, s4, s5, s6, s7]⟩ : Ask) (bareA (⟨2, n, ⟨ck, i, x, u, v⟩, m, [s1, s2, s3, s4, s5, s6, s7]⟩ : Ask)) W rfl rfl) ⟨fun hE => wa_bad (show decide ((packR ⟨ck, i, x, u, v⟩).2 ≠ 0) = true from decide_eq_true hE), fun _ h => wa_q h, fun hE h => wa_ok rfl hn hm (show decide ((packR ⟨ck, i, x, u, v⟩).2 ≠ 0) = false from decide_eq_false (fun c => c hE)) h⟩
set_option maxRecDepth 100000 in
theorem refAll_3 (n : Nat) (ck : UInt8) (i x u v : ByteArray) (m : Nat) (s1 s2 s3 s4 s5 s6 s7 : ByteArray) (w : World) (hn : n < 18446744073709551616) (hm : m < 18446744073709551616) :
    Calls Try.prog 10 #[.agg (askCells (⟨3, n, ⟨ck, i, x, u, v⟩, m, [s1, s2, s3, s4, s5, s6, s7]⟩ : Ask)).toArray] w fun e w' => e = .returned (.tuple #[.string (str (writeA (⟨3, n, ⟨ck, i, x, u, v⟩, m, [s1, s2, s3, s4, s5, s6, s7]⟩ : Ask)).1), .int .i64 (writeA (⟨3, n, ⟨ck, i, x, u, v⟩, m, [s1, s2, s3, s4, s5, s6, s7]⟩ : Ask)).2]) ∧ Below w.heap.size w w' :=
  refWA_3 n ck i x u v m s1 s2 s3 s4 s5 s6 s7 (writeA (⟨3, n, ⟨ck, i, x, u, v⟩, m, [s1, s2, s3, s4, s5, s6, s7]⟩ : Ask)) (!decide ((⟨3, n, ⟨ck, i, x, u, v⟩, m, [s1, s2, s3, s4, s5, s6, s7]⟩ : Ask) = bareA (⟨3, n, ⟨ck, i, x, u, v⟩, m, [s1, s2, s3, s4, s5, s6, s7]⟩ : Ask))) w hn (fun W => ask_neq (⟨3, n, ⟨ck, i, x, u, v⟩, m, [s1, s2, s3, s4, s5, s6, s7]⟩ : Ask) (bareA (⟨3, n, ⟨ck, i, x, u, v⟩, m, [s1, s2, s3, s4, s5, s6, s7]⟩ : Ask)) W rfl rfl) ⟨fun h => wa_q h, fun h => wa_ok rfl hn hm rfl h⟩
set_option maxRecDepth 100000 in
theorem refAll_4 (n : Nat) (ck : UInt8) (i x u v : ByteArray) (m : Nat) (s1 s2 s3 s4 s5 s6 s7 : ByteArray) (w : World) (hn : n < 18446744073709551616) (hm : m < 18446744073709551616) :
    Calls Try.prog 10 #[.agg (askCells (⟨4, n, ⟨ck, i, x, u, v⟩, m, [s1, s2, s3, s4, s5, s6, s7]⟩ : Ask)).toArray] w fun e w' => e = .returned (.tuple #[.string (str (writeA (⟨4, n, ⟨ck, i, x, u, v⟩, m, [s1, s2, s3, s4, s5, s6, s7]⟩ : Ask)).1), .int .i64 (writeA (⟨4, n, ⟨ck, i, x, u, v⟩, m, [s1, s2, s3, s4, s5, s6, s7]⟩ : Ask)).2]) ∧ Below w.heap.size w w' :=
  refWA_4 n ck i x u v m s1 s2 s3 s4 s5 s6 s7 (writeA (⟨4, n, ⟨ck, i, x, u, v⟩, m, [s1, s2, s3, s4, s5, s6, s7]⟩ : Ask)) (!decide ((⟨4, n, ⟨ck, i, x, u, v⟩, m, [s1, s2, s3, s4, s5, s6, s7]⟩ : Ask) = bareA (⟨4, n, ⟨ck, i, x, u, v⟩, m, [s1, s2, s3, s4, s5, s6, s7]⟩ : Ask))) w hn (fun W => ask_neq (⟨4, n, ⟨ck, i, x, u, v⟩, m, [s1, s2, s3, s4, s5, s6, s7]⟩ : Ask) (bareA (⟨4, n, ⟨ck, i, x, u, v⟩, m, [s1, s2, s3, s4, s5, s6, s7]⟩ : Ask)) W rfl rfl) ⟨fun h => wa_q h, fun h => wa_ok rfl hn hm rfl h⟩
set_option maxRecDepth 100000 in
theorem refAll_5 (n : Nat) (ck : UInt8) (i x u v : ByteArray) (m : Nat) (s1 s2 s3 s4 s5 s6 s7 : ByteArray) (w : World) (hn : n < 18446744073709551616) (hm : m < 18446744073709551616) :
    Calls Try.prog 10 #[.agg (askCells (⟨5, n, ⟨ck, i, x, u, v⟩, m, [s1, s2, s3, s4, s5, s6, s7]⟩ : Ask)).toArray] w fun e w' => e = .returned (.tuple #[.string (str (writeA (⟨5, n, ⟨ck, i, x, u, v⟩, m, [s1, s2, s3, s4, s5, s6, s7]⟩ : Ask)).1), .int .i64 (writeA (⟨5, n, ⟨ck, i, x, u, v⟩, m, [s1, s2, s3, s4, s5, s6, s7]⟩ : Ask)).2]) ∧ Below w.heap.size w w' :=
  refWA_5 n ck i x u v m s1 s2 s3 s4 s5 s6 s7 (writeA (⟨5, n, ⟨ck, i, x, u, v⟩, m, [s1, s2, s3, s4, s5, s6, s7]⟩ : Ask)) (!decide ((⟨5, n, ⟨ck, i, x, u, v⟩, m, [s1, s2, s3, s4, s5, s6, s7]⟩ : Ask) = bareA (⟨5, n, ⟨ck, i, x, u, v⟩, m, [s1, s2, s3, s4, s5, s6, s7]⟩ : Ask))) w _ rfl (fun W => ask_neq (⟨5, n, ⟨ck, i, x, u, v⟩, m, [s1, s2, s3, s4, s5, s6, s7]⟩ : Ask) (bareA (⟨5, n, ⟨ck, i, x, u, v⟩, m, [s1, s2, s3, s4, s5, s6, s7]⟩ : Ask)) W rfl rfl) ⟨fun h => wa_bad h, fun _ h => wa_q h, fun hl h => wa_ok rfl hn hm hl h⟩
set_option maxRecDepth 100000 in
theorem refAll_6 (n : Nat) (ck : UInt8) (i x u v : ByteArray) (m : Nat) (s1 s2 s3 s4 s5 s6 s7 : ByteArray) (w : World) (hn : n < 18446744073709551616) (hm : m < 18446744073709551616) :
    Calls Try.prog 10 #[.agg (askCells (⟨6, n, ⟨ck, i, x, u, v⟩, m, [s1, s2, s3, s4, s5, s6, s7]⟩ : Ask)).toArray] w fun e w' => e = .returned (.tuple #[.string (str (writeA (⟨6, n, ⟨ck, i, x, u, v⟩, m, [s1, s2, s3, s4, s5, s6, s7]⟩ : Ask)).1), .int .i64 (writeA (⟨6, n, ⟨ck, i, x, u, v⟩, m, [s1, s2, s3, s4, s5, s6, s7]⟩ : Ask)).2]) ∧ Below w.heap.size w w' :=
  refWA_6 n ck i x u v m s1 s2 s3 s4 s5 s6 s7 (writeA (⟨6, n, ⟨ck, i, x, u, v⟩, m, [s1, s2, s3, s4, s5, s6, s7]⟩ : Ask)) (!decide ((⟨6, n, ⟨ck, i, x, u, v⟩, m, [s1, s2, s3, s4, s5, s6, s7]⟩ : Ask) = bareA (⟨6, n, ⟨ck, i, x, u, v⟩, m, [s1, s2, s3, s4, s5, s6, s7]⟩ : Ask))) w _ rfl hm (fun W => ask_neq (⟨6, n, ⟨ck, i, x, u, v⟩, m, [s1, s2, s3, s4, s5, s6, s7]⟩ : Ask) (bareA (⟨6, n, ⟨ck, i, x, u, v⟩, m, [s1, s2, s3, s4, s5, s6, s7]⟩ : Ask)) W rfl rfl) ⟨fun h => wa_bad h, fun _ h => wa_q h, fun hl h => wa_ok rfl hn hm hl h⟩
set_option maxRecDepth 100000 in
theorem refAll_7 (n : Nat) (ck : UInt8) (i x u v : ByteArray) (m : Nat) (s1 s2 s3 s4 s5 s6 s7 : ByteArray) (w : World) (hn : n < 18446744073709551616) (hm : m < 18446744073709551616) :
    Calls Try.prog 10 #[.agg (askCells (⟨7, n, ⟨ck, i, x, u, v⟩, m, [s1, s2, s3, s4, s5, s6, s7]⟩ : Ask)).toArray] w fun e w' => e = .returned (.tuple #[.string (str (writeA (⟨7, n, ⟨ck, i, x, u, v⟩, m, [s1, s2, s3, s4, s5, s6, s7]⟩ : Ask)).1), .int .i64 (writeA (⟨7, n, ⟨ck, i, x, u, v⟩, m, [s1, s2, s3, s4, s5, s6, s7]⟩ : Ask)).2]) ∧ Below w.heap.size w w' :=
  refWA_7 n ck i x u v m s1 s2 s3 s4 s5 s6 s7 (writeA (⟨7, n, ⟨ck, i, x, u, v⟩, m, [s1, s2, s3, s4, s5, s6, s7]⟩ : Ask)) (!decide ((⟨7, n, ⟨ck, i, x, u, v⟩, m, [s1, s2, s3, s4, s5, s6, s7]⟩ : Ask) = bareA (⟨7, n, ⟨ck, i, x, u, v⟩, m, [s1, s2, s3, s4, s5, s6, s7]⟩ : Ask))) w (fun W => ask_neq (⟨7, n, ⟨ck, i, x, u, v⟩, m, [s1, s2, s3, s4, s5, s6, s7]⟩ : Ask) (bareA (⟨7, n, ⟨ck, i, x, u, v⟩, m, [s1, s2, s3, s4, s5, s6, s7]⟩ : Ask)) W rfl rfl) ⟨fun h => wa_q h, fun h => wa_ok rfl hn hm rfl h⟩
set_option maxRecDepth 100000 in
theorem refAll_8 (n : Nat) (ck : UInt8) (i x u v : ByteArray) (m : Nat) (s1 s2 s3 s4 s5 s6 s7 : ByteArray) (w : World) (hn : n < 18446744073709551616) (hm : m < 18446744073709551616) :
    Calls Try.prog 10 #[.agg (askCells (⟨8, n, ⟨ck, i, x, u, v⟩, m, [s1, s2, s3, s4, s5, s6, s7]⟩ : Ask)).toArray] w fun e w' => e = .returned (.tuple #[.string (str (writeA (⟨8, n, ⟨ck, i, x, u, v⟩, m, [s1, s2, s3, s4, s5, s6, s7]⟩ : Ask)).1), .int .i64 (writeA (⟨8, n, ⟨ck, i, x, u, v⟩, m, [s1, s2, s3, s4, s5, s6, s7]⟩ : Ask)).2]) ∧ Below w.heap.size w w' :=
  refWA_8 n ck i x u v m s1 s2 s3 s4 s5 s6 s7 (writeA (⟨8, n, ⟨ck, i, x, u, v⟩, m, [s1, s2, s3, s4, s5, s6, s7]⟩ : Ask)) (!decide ((⟨8, n, ⟨ck, i, x, u, v⟩, m, [s1, s2, s3, s4, s5, s6, s7]⟩ : Ask) = bareA (⟨8, n, ⟨ck, i, x, u, v⟩, m, [s1, s2, s3, s4, s5, s6, s7]⟩ : Ask))) w (fun W => ask_neq (⟨8, n, ⟨ck, i, x, u, v⟩, m, [s1, s2, s3, s4, s5, s6, s7]⟩ : Ask) (bareA (⟨8, n, ⟨ck, i, x, u, v⟩, m, [s1, s2, s3, s4, s5, s6, s7]⟩ : Ask)) W rfl rfl) ⟨fun h => wa_q h, fun h => wa_ok rfl hn hm rfl h⟩
theorem refWriteAsk_w (a : Ask) (w : World) (ht : a.ts.length = 7) (hn : a.n < 18446744073709551616) (hv : a.v < 18446744073709551616) :
    Calls Try.prog 10 #[.agg (askCells a).toArray] w fun e w' => e = .returned (.tuple #[.string (str (writeA a).1), .int .i64 (writeA a).2]) ∧ Below w.heap.size w w' := by
  obtain ⟨k, n, ⟨ck, i, x, u, v⟩, m, ts⟩ := a
  obtain ⟨s1, s2, s3, s4, s5, s6, s7, rfl⟩ := list7' ts ht
  clear ht
  by_cases h : 1 ≤ k.toNat ∧ k.toNat ≤ 8
  · have hk : k = 1 ∨ k = 2 ∨ k = 3 ∨ k = 4 ∨ k = 5 ∨ k = 6 ∨ k = 7 ∨ k = 8 := by
      have : k.toNat = 1 ∨ k.toNat = 2 ∨ k.toNat = 3 ∨ k.toNat = 4 ∨ k.toNat = 5 ∨ k.toNat = 6 ∨ k.toNat = 7 ∨ k.toNat = 8 := by omega
      rcases this with h | h | h | h | h | h | h | h <;> simp [← UInt8.toNat_inj, h]
    clear h
    rcases hk with rfl | rfl | rfl | rfl | rfl | rfl | rfl | rfl
    · exact refAll_1 n ck i x u v m s1 s2 s3 s4 s5 s6 s7 w hn hv
    · exact refAll_2 n ck i x u v m s1 s2 s3 s4 s5 s6 s7 w hn hv
    · exact refAll_3 n ck i x u v m s1 s2 s3 s4 s5 s6 s7 w hn hv
    · exact refAll_4 n ck i x u v m s1 s2 s3 s4 s5 s6 s7 w hn hv
    · exact refAll_5 n ck i x u v m s1 s2 s3 s4 s5 s6 s7 w hn hv
    · exact refAll_6 n ck i x u v m s1 s2 s3 s4 s5 s6 s7 w hn hv
    · exact refAll_7 n ck i x u v m s1 s2 s3 s4 s5 s6 s7 w hn hv
    · exact refAll_8 n ck i x u v m s1 s2 s3 s4 s5 s6 s7 w hn hv
  · have he : (encW (⟨k, n, ⟨ck, i, x, u, v⟩, m, [s1, s2, s3, s4, s5, s6, s7]⟩ : Ask)).2 = true := by
      have h0 : ∀ j : UInt8, 1 ≤ j.toNat → j.toNat ≤ 8 → ¬ k = j := fun j h1 h2 e => h (by rw [e]; exact ⟨h1, h2⟩)
      unfold encW
      simp only [h0 1 (by decide) (by decide), h0 2 (by decide) (by decide), h0 3 (by decide) (by decide), h0 4 (by decide) (by decide), h0 5 (by decide) (by decide), h0 6 (by decide) (by decide), h0 7 (by decide) (by decide), h0 8 (by decide) (by decide), or_self, if_false]
    rw [wa_bad he]
    exact refWA_no k n ck i x u v m s1 s2 s3 s4 s5 s6 s7 w h
end Go.Proofs.Ytiodfbbgbnbdpaa
