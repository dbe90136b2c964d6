/- The walk of WireWhole, of any request, any reply, any place, any byte. -/
import Derived.Test.YtiodfbbgbnbdpaaWWhole
namespace Go.Proofs.Ytiodfbbgbnbdpaa
set_option linter.unusedSimpArgs false
set_option linter.unusedVariables false
open Go.RowKit
open Crc
theorem readA_more {p : List UInt8} {a : Ask} (h : readA p = some a) {r : List UInt8} (hr : r ≠ []) : readA (p ++ r) = none := by
  obtain ⟨h1, rfl⟩ := readA_iff.1 h
  have hw := walkR_app h1 r
  unfold readA
  rw [List.cons_append, byteL_cons]
  simp only
  rw [hw]
  have he : endL ⟨r, false⟩ = false := by unfold endL; simp [hr]
  simp only [he]
  rfl
theorem readRp_more {p : List UInt8} {q : Rep} (h : readRp p = some q) {r : List UInt8} (hr : r ≠ []) : readRp (p ++ r) = none := by
  obtain ⟨h1, rfl⟩ := readRp_iff.1 h
  have hw := passL_app h1 r
  unfold readRp
  rw [hw]
  have he : endL ⟨r, false⟩ = false := by unfold endL; simp [hr]
  simp only [he]
  rfl
theorem readA_cut {l : List UInt8} {a : Ask} (h : readA l = some a) {k : Nat} (hk : k < l.length) : readA (l.take k) = none := by
  cases hc : readA (l.take k) with
  | none => rfl
  | some b =>
    have := readA_more hc (r := l.drop k) (by intro e; have := congrArg List.length e; simp at this; omega)
    rw [List.take_append_drop, h] at this
    cases this
theorem readRp_cut {l : List UInt8} {a : Rep} (h : readRp l = some a) {k : Nat} (hk : k < l.length) : readRp (l.take k) = none := by
  cases hc : readRp (l.take k) with
  | none => rfl
  | some b =>
    have := readRp_more hc (r := l.drop k) (by intro e; have := congrArg List.length e; simp at this; omega)
    rw [List.take_append_drop, h] at this
    cases this
theorem str_take (l : List UInt8) (k : Nat) : (str l).extract 0 k = str (l.take k) := by rw [str_extract]; simp
set_option maxRecDepth 100000 in
set_option maxHeartbeats 1000000 in
theorem wirewhole_w (a : Ask) (r : Rep) (adi ade : Option Addr) (capi cape : Nat) (at_ : Int) (more : Nat) (w : World) (ht : a.ts.length = 7) (hn : a.n < 18446744073709551616) (hv : a.v < 18446744073709551616) (hsz : ∀ t ∈ a.ts, t.size < 16777216)
    (hrn : r.n < 18446744073709551616) (hi : Texts w adi r.ids) (he : Texts w ade r.er) (si : SmallAt w adi r.ids) (se : SmallAt w ade r.er)
    (hzi : ∀ t ∈ r.ids, t.size < 16777216) (hze : ∀ t ∈ r.er, t.size < 16777216) (hli : r.ids.length ≤ 1048576) (hle : r.er.length ≤ 1048576) (hat : -9223372036854775808 ≤ at_ ∧ at_ ≤ 9223372036854775807) (hmo : more < 256) :
    Calls Try.prog 8 #[.agg (askCells a).toArray, .agg #[.int .i64 r.why, .int .u64 (r.n : Int), .int .i64 r.pl, .bool r.al, .slice adi r.ids.length capi, .slice ade r.er.length cape], .int .i64 at_, .int .u8 (more : Int)] w fun e w' => e = .returned (.bool true) ∧ Below w.heap.size w w' := by
  obtain ⟨mo, rfl⟩ : ∃ m : UInt8, more = m.toNat := ⟨UInt8.ofNat more, by rw [UInt8.toNat_ofNat']; omega⟩
  have h1 := fun W => writeAsk_w a W ht hsz
  have hel := encW_len a ht hsz
  have hal : (writeA a).1.length ≤ 300000000 := by
    unfold writeA
    split
    · simp only [List.length_cons]; omega
    · simp
  have hm1 : (str [mo]).size = 1 := rfl
  have H2 : Hid ((writeA a).2 = 0 → (∀ W : World, (Op.stringOp .add (str (writeA a).1) (str [mo])).run Try.prog W = .ok (.string (str (writeA a).1 ++ str [mo])) W) ∧
      (∀ W, Calls Try.prog 11 #[.string (str (writeA a).1 ++ str [mo])] W fun e w' => e = .returned (readV none) ∧ Below W.heap.size W w') ∧
      ∀ k : Nat, k < (str (writeA a).1).size → ∀ W, Calls Try.prog 11 #[.string ((str (writeA a).1).extract 0 k)] W fun e w' => e = .returned (readV none) ∧ Below W.heap.size W w') := hide fun h => by
    have hr := writeA_ok h
    refine ⟨fun W => run_string_add_sum W _ _ (by rw [str_size, hm1]; omega), fun W => ?_, fun k hk W => ?_⟩
    · rw [str_append]
      have := readAsk_w (str ((writeA a).1 ++ [mo])) W (by rw [str_size, List.length_append, List.length_singleton]; omega)
      rw [str_data, readA_more hr (by simp)] at this
      exact this
    · rw [str_take]
      rw [str_size] at hk
      have := readAsk_w (str ((writeA a).1.take k)) W (by rw [str_size, List.length_take]; omega)
      rw [str_data, readA_cut hr hk] at this
      exact this
  have h3 := fun W (q1 : Texts W adi r.ids) (q2 : Texts W ade r.er) (q3 : SmallAt W adi r.ids) (q4 : SmallAt W ade r.er) => writeReply_w r adi ade capi cape W q1 q2 q3 q4 hzi hze (by omega) (by omega)
  have H4 : Hid ((writeRp r).2 = 0 → (∀ W : World, (Op.stringOp .add (str (writeRp r).1) (str [mo])).run Try.prog W = .ok (.string (str (writeRp r).1 ++ str [mo])) W) ∧
      (∀ W, Calls Try.prog 16 #[.string (str (writeRp r).1 ++ str [mo])] W fun e w' => (∃ v, e = .returned (.tuple #[v, .int .i64 14]) ∧ RepAt W w' rep0 v) ∧ Below W.heap.size W w') ∧
      ∀ k : Nat, k < (str (writeRp r).1).size → ∀ W, Calls Try.prog 16 #[.string ((str (writeRp r).1).extract 0 k)] W fun e w' => (∃ v, e = .returned (.tuple #[v, .int .i64 14]) ∧ RepAt W w' rep0 v) ∧ Below W.heap.size W w') := hide fun h => by
    obtain ⟨hr, hb, hl⟩ := writeRp_ok hrn h
    have hwl : (writeRp r).1.length ≤ 10000000 := by rw [hl]; exact repW_len hb
    refine ⟨fun W => run_string_add_sum W _ _ (by rw [str_size, hm1]; omega), fun W => ?_, fun k hk W => ?_⟩
    · rw [str_append]
      have := readReply_w (str ((writeRp r).1 ++ [mo])) W (by rw [str_size, List.length_append, List.length_singleton]; omega)
      rw [str_data, readRp_more hr (by simp)] at this
      exact this
    · rw [str_take]
      rw [str_size] at hk
      have := readReply_w (str ((writeRp r).1.take k)) W (by rw [str_size, List.length_take]; omega)
      rw [str_data, readRp_cut hr hk] at this
      exact this
  have H7 : Hid (¬ (writeRp r).2 = 0 → str (writeRp r).1 = ⟨#[]⟩) := hide fun h => by
    unfold writeRp at h ⊢
    cases hb : repBad r with
    | true => rfl
    | false => rw [hb] at h; exact absurd rfl h
  obtain ⟨F, hF⟩ := named (writeA a)
  simp only [← hF.out] at h1
  rw [← hF.out] at H2
  obtain ⟨G, hG⟩ := named (writeRp r)
  simp only [← hG.out] at h3
  rw [← hG.out] at H4 H7
  clear hF hG hel hal hsz hzi hze
  obtain ⟨ak, an, ⟨ac, ai, ax, au, aw⟩, av, ats⟩ := a
  obtain ⟨s1, s2, s3, s4, s5, s6, s7, rfl⟩ := list7 ats ht
  obtain ⟨ry, rn, rp, ra, ids, er⟩ := r
  exact whole_x ak ac mo an av rn ai ax au aw s1 s2 s3 s4 s5 s6 s7 (str F.1) (str G.1) F.2 G.2 ry rp at_ ra ids er adi ade capi cape w h1 H2 h3 H4 H7 hi he si se
end Go.Proofs.Ytiodfbbgbnbdpaa
