/- The walk of WireApart, of any two requests. -/
import Derived.Test.YtiodfbbgbnbdpaaWApart
namespace Go.Proofs.Ytiodfbbgbnbdpaa
set_option linter.unusedVariables false
open Go.RowKit
open Crc
theorem list7 (l : List ByteArray) (h : l.length = 7) : ∃ a b c d e f g, l = [a, b, c, d, e, f, g] := by
  match l, h with
  | [a, b, c, d, e, f, g], _ => exact ⟨a, b, c, d, e, f, g, rfl⟩
theorem cells7 (k c : UInt8) (n v : Nat) (i x u w s1 s2 s3 s4 s5 s6 s7 : ByteArray) : (askCells ⟨k, n, ⟨c, i, x, u, w⟩, v, [s1, s2, s3, s4, s5, s6, s7]⟩).toArray = #[.int .u8 (k.toNat : Int), .int .u64 (n : Int), .int .u8 (c.toNat : Int), .string i, .string x, .string u, .string w, .int .u64 (v : Int), .string s1, .string s2, .string s3, .string s4, .string s5, .string s6, .string s7] := rfl
theorem wireapart_w (a b : Ask) (w : World) (hta : a.ts.length = 7) (hsa : ∀ t ∈ a.ts, t.size < 16777216) (htb : b.ts.length = 7) (hsb : ∀ t ∈ b.ts, t.size < 16777216) :
    Calls Try.prog 4 #[.agg (askCells a).toArray, .agg (askCells b).toArray] w fun e w' => e = .returned (.bool true) ∧ Below w.heap.size w w' := by
  have h1 := fun W => writeAsk_w a W hta hsa
  have h2 := fun W => writeAsk_w b W htb hsb
  have heq := fun W => ask_eql a b W hta htb
  have HL : Hid ((writeA a).2 = 0 → (writeA b).2 = 0 → (str (writeA a).1 = str (writeA b).1 ↔ decide (a = b) = true)) := hide fun h h' => by rw [decide_eq_true_iff]; exact apart_law h h'
  obtain ⟨F, hF⟩ := named (writeA a)
  obtain ⟨G, hG⟩ := named (writeA b)
  obtain ⟨q, hq⟩ := named (decide (a = b))
  rw [← hF.out, ← hG.out, ← hq.out] at HL
  simp only [← hF.out] at h1
  simp only [← hG.out] at h2
  simp only [← hq.out] at heq
  clear hF hG hq hsa hsb
  obtain ⟨ak, an, ⟨ac, ai, ax, au, aw⟩, av, ats⟩ := a
  obtain ⟨bk, bn, ⟨bc, bi, bx, bu, bw⟩, bv, bts⟩ := b
  obtain ⟨s1, s2, s3, s4, s5, s6, s7, rfl⟩ := list7 ats hta
  obtain ⟨r1, r2, r3, r4, r5, r6, r7, rfl⟩ := list7 bts htb
  simp only [cells7] at h1 h2 heq ⊢
  exact wireapart_x _ _ _ _ _ _ _ _ _ _ _ _ _ _ _ _ _ _ _ _ _ _ _ _ _ _ _ _ _ _ (str F.1) (str G.1) F.2 G.2 q w h1 h2 heq HL
end Go.Proofs.Ytiodfbbgbnbdpaa
