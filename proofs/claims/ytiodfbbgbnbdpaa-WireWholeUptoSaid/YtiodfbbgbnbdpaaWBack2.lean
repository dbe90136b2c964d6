/- The walk of WireBack, of any request, any reply, any bytes. -/
import Derived.Test.YtiodfbbgbnbdpaaWBack
import Derived.Test.YtiodfbbgbnbdpaaGE
namespace Go.Proofs.Ytiodfbbgbnbdpaa
set_option linter.unusedSimpArgs false
set_option linter.unusedVariables false
open Go.RowKit
open Crc
theorem readV_of (o : Option Ask) : readV o = .tuple #[.agg (askCells (o.getD ask0)).toArray, .int .i64 (if o.isSome then 0 else 14)] := by
  cases o <;> rfl
theorem rightA_small {a : Ask} (h : RightA a) : ∀ t ∈ a.ts, t.size ≤ 2048 := by
  obtain ⟨_, _, _, hok, hb⟩ := h
  unfold encW at hok
  unfold bareA at hb
  have hz : ∀ t ∈ List.replicate 7 e0, t.size ≤ 2048 := fun t ht => by rw [List.eq_of_mem_replicate ht]; decide
  by_cases c1 : a.k = 1 ∨ a.k = 7 ∨ a.k = 8
  · rw [if_pos c1] at hb; rw [hb]; exact hz
  rw [if_neg c1] at hb hok
  by_cases c2 : a.k = 2
  · rw [if_pos c2] at hb; rw [hb]; exact hz
  rw [if_neg c2] at hb hok
  by_cases c3 : a.k = 3 ∨ a.k = 4
  · rw [if_pos c3] at hb; rw [hb]; exact hz
  rw [if_neg c3] at hb hok
  by_cases c5 : a.k = 5
  · rw [if_pos c5] at hok; exact (longs_iff _).1 hok
  rw [if_neg c5] at hok
  by_cases c6 : a.k = 6
  · rw [if_pos c6] at hok; exact (longs_iff _).1 hok
  rw [if_neg c6] at hok
  cases hok
theorem writeA_of {l : List UInt8} {a : Ask} (h : readA l = some a) : writeA a = (l, 0) := by
  classical
  obtain ⟨hr, hl⟩ := readA_iff.1 h
  rw [writeA_eq, if_pos hr, hl]
theorem writeRp_of {l : List UInt8} {r : Rep} (h : readRp l = some r) : writeRp r = (l, 0) := by
  obtain ⟨hr, hl⟩ := readRp_iff.1 h
  unfold writeRp
  rw [if_neg (by rw [hr.ok]; decide), hl]
theorem writeRp_ok {r : Rep} (hn : r.n < 18446744073709551616) (h : (writeRp r).2 = 0) : readRp (writeRp r).1 = some r ∧ repBad r = false ∧ (writeRp r).1 = repW r := by
  unfold writeRp at h ⊢
  cases hb : repBad r with
  | true => rw [hb] at h; simp at h
  | false =>
    simp only [Bool.false_eq_true, if_false]
    exact ⟨readRp_iff.2 ⟨⟨hn, hb⟩, rfl⟩, trivial, trivial⟩
theorem repW_len {r : Rep} (h : repBad r = false) : (repW r).length ≤ 10000000 := by
  obtain ⟨_, h2, h3⟩ := repBad_ok h
  have key : ∀ l, texB l = false → (textsW l).length ≤ 1000000 := fun l hl => by
    obtain ⟨q1, q2, q3⟩ := texB_ok hl
    obtain ⟨e1, _⟩ := textsW_ok hl
    have h1 := txts_len l 2049 (fun t ht => by have := q3 t ht; omega)
    have h3 : l.length * (2049 + 4) ≤ 255 * (2049 + 4) := Nat.mul_le_mul_right _ q1
    rw [e1, List.length_cons]
    omega
  have k2 := key _ h2
  have k3 := key _ h3
  unfold repW headW
  simp only [List.length_append, List.length_cons, List.length_nil, putL_length]
  omega
theorem rep_sizes {r : Rep} (h : repBad r = false) : (∀ t ∈ r.ids, t.size < 16777216) ∧ (∀ t ∈ r.er, t.size < 16777216) ∧ r.ids.length ≤ 255 ∧ r.er.length ≤ 255 := by
  obtain ⟨_, h2, h3⟩ := repBad_ok h
  obtain ⟨a1, _, a3⟩ := texB_ok h2
  obtain ⟨b1, _, b3⟩ := texB_ok h3
  exact ⟨fun t ht => by have := a3 t ht; omega, fun t ht => by have := b3 t ht; omega, a1, b1⟩
set_option maxRecDepth 100000 in
set_option maxHeartbeats 1000000 in
theorem wireback_w (a : Ask) (r : Rep) (adi ade : Option Addr) (capi cape : Nat) (z : ByteArray) (w : World) (ht : a.ts.length = 7) (hn : a.n < 18446744073709551616) (hv : a.v < 18446744073709551616) (hsz : ∀ t ∈ a.ts, t.size < 16777216)
    (hrn : r.n < 18446744073709551616) (hi : Texts w adi r.ids) (he : Texts w ade r.er) (si : SmallAt w adi r.ids) (se : SmallAt w ade r.er)
    (hzi : ∀ t ∈ r.ids, t.size < 16777216) (hze : ∀ t ∈ r.er, t.size < 16777216) (hli : r.ids.length ≤ 1048576) (hle : r.er.length ≤ 1048576) (hz : z.size ≤ 140737488351232) :
    Calls Try.prog 7 #[.agg (askCells a).toArray, .agg #[.int .i64 r.why, .int .u64 (r.n : Int), .int .i64 r.pl, .bool r.al, .slice adi r.ids.length capi, .slice ade r.er.length cape], .string z] w fun e w' => e = .returned (.bool true) ∧ Below w.heap.size w w' := by
  have h1 := fun W => writeAsk_w a W ht hsz
  have hel := encW_len a ht hsz
  have H2 : Hid ((writeA a).2 = 0 → ∀ W, Calls Try.prog 11 #[.string (str (writeA a).1)] W fun e w' => e = .returned (.tuple #[.agg (askCells a).toArray, .int .i64 0]) ∧ Below W.heap.size W w') := hide fun h W => by
    have hr := writeA_ok h
    have hl : (writeA a).1.length ≤ 300000000 := by
      unfold writeA
      split
      · simp only [List.length_cons]; omega
      · simp
    have := readAsk_w (str (writeA a).1) W (by rw [str_size]; omega)
    rw [str_data, hr] at this
    exact this
  have hq := fun W => ask_neq a a W ht ht
  simp only [decide_true, Bool.not_true] at hq
  have h3 := fun W (q1 : Texts W adi r.ids) (q2 : Texts W ade r.er) (q3 : SmallAt W adi r.ids) (q4 : SmallAt W ade r.er) => writeReply_w r adi ade capi cape W q1 q2 q3 q4 hzi hze (by omega) (by omega)
  have H4 : Hid ((writeRp r).2 = 0 → ∀ W, Calls Try.prog 16 #[.string (str (writeRp r).1)] W fun e w' => (∃ v, e = .returned (.tuple #[v, .int .i64 0]) ∧ RepAt W w' r v) ∧ Below W.heap.size W w') := hide fun h W => by
    obtain ⟨hr, hb, hl⟩ := writeRp_ok hrn h
    have := readReply_w (str (writeRp r).1) W (by rw [str_size, hl]; have := repW_len hb; omega)
    rw [str_data, hr] at this
    exact this
  have h5 := fun W => readAsk_w z W hz
  simp only [readV_of] at h5
  have hb7 : ((readA z.data.toList).getD ask0).ts.length = 7 := by
    cases h : readA z.data.toList with
    | none => rfl
    | some b => exact readA_ts h
  have H6 : Hid ((if (readA z.data.toList).isSome = true then (0 : Int) else 14) = 0 → ∀ W, Calls Try.prog 9 #[.agg (askCells ((readA z.data.toList).getD ask0)).toArray] W fun e w' => e = .returned (.tuple #[.string z, .int .i64 0]) ∧ Below W.heap.size W w') := hide fun h W => by
    cases hr : readA z.data.toList with
    | none => rw [hr] at h; simp at h
    | some b =>
      have hw := writeA_of hr
      have := writeAsk_w b W (readA_ts hr) (fun t ht => by have := rightA_small (readA_iff.1 hr).1 t ht; omega)
      rw [hw, str_of] at this
      exact this
  have h7 := fun W => readReply_w z W hz
  have H8 : Hid (rdE (readRp z.data.toList) = 0 → ∀ W A B c d, Texts W A (rdV (readRp z.data.toList)).ids → Texts W B (rdV (readRp z.data.toList)).er → SmallAt W A (rdV (readRp z.data.toList)).ids → SmallAt W B (rdV (readRp z.data.toList)).er →
      Calls Try.prog 14 #[.agg (repCells (rdV (readRp z.data.toList)) (.slice A (rdV (readRp z.data.toList)).ids.length c) (.slice B (rdV (readRp z.data.toList)).er.length d)).toArray] W fun e w' => e = .returned (.tuple #[.string z, .int .i64 0]) ∧ Below W.heap.size W w') := hide fun h W A B c d q1 q2 q3 q4 => by
    cases hr : readRp z.data.toList with
    | none => rw [hr] at h; exact absurd h (by decide)
    | some q =>
      rw [hr] at q1 q2 q3 q4
      obtain ⟨e1, e2, e3, e4⟩ := rep_sizes (readRp_iff.1 hr).1.ok
      have hw := writeRp_of hr
      have := writeReply_w q A B c d W q1 q2 q3 q4 e1 e2 (by omega) (by omega)
      rw [hw, str_of] at this
      exact this
  have H9 : Hid (¬ rdE (readRp z.data.toList) = 0 → rdV (readRp z.data.toList) = rep0) := hide fun h => by
    cases hr : readRp z.data.toList with
    | none => rfl
    | some q => rw [hr] at h; exact absurd rfl h
  obtain ⟨b, hb⟩ := named ((readA z.data.toList).getD ask0)
  obtain ⟨E3, hE3⟩ := named (if (readA z.data.toList).isSome = true then (0 : Int) else 14)
  simp only [← hb.out, ← hE3.out] at h5
  rw [← hb.out] at hb7
  replace H6 : Hid (E3 = 0 → ∀ W, Calls Try.prog 9 #[.agg (askCells b).toArray] W fun e w' => e = .returned (.tuple #[.string z, .int .i64 0]) ∧ Below W.heap.size W w') := by rw [hb.out, hE3.out]; exact H6
  obtain ⟨Q, hQ⟩ := named (rdV (readRp z.data.toList))
  obtain ⟨E4, hE4⟩ := named (rdE (readRp z.data.toList))
  simp only [← hQ.out, ← hE4.out] at h7
  rw [← hQ.out, ← hE4.out] at H8 H9
  obtain ⟨F, hF⟩ := named (writeA a)
  simp only [← hF.out] at h1
  rw [← hF.out] at H2
  obtain ⟨G, hG⟩ := named (writeRp r)
  simp only [← hG.out] at h3
  rw [← hG.out] at H4
  clear hb hE3 hQ hE4 hF hG hel hsz hzi hze
  obtain ⟨ak, an, ⟨ac, ai, ax, au, aw⟩, av, ats⟩ := a
  obtain ⟨bk, bn, ⟨bc, bi, bx, bu, bw⟩, bv, bts⟩ := b
  obtain ⟨s1, s2, s3, s4, s5, s6, s7, rfl⟩ := list7 ats ht
  obtain ⟨r1, r2, r3, r4, r5, r6, r7, rfl⟩ := list7 bts hb7
  obtain ⟨ry, rn, rp, ra, ids, er⟩ := r
  obtain ⟨qy, qn, qp, qa, jds, fer⟩ := Q
  exact back_x ak ac bk bc an av bn bv rn qn ai ax au aw s1 s2 s3 s4 s5 s6 s7 bi bx bu bw r1 r2 r3 r4 r5 r6 r7 (str F.1) (str G.1) z F.2 G.2 E3 E4 ry rp qy qp ra qa ids er jds fer adi ade capi cape w h1 H2 hq h3 H4 h5 H6 h7 H8 H9 hi he si se (by simp at hli; omega) (by simp at hle; omega)
end Go.Proofs.Ytiodfbbgbnbdpaa
