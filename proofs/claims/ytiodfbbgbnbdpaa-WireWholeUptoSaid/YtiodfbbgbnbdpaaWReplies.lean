/- The walk of WireReplies. -/
import Derived.Test.YtiodfbbgbnbdpaaRefRep3
import Derived.Test.YtiodfbbgbnbdpaaRepSame
import Derived.Test.YtiodfbbgbnbdpaaWLives
namespace Go.Proofs.Ytiodfbbgbnbdpaa
set_option linter.unusedSimpArgs false
set_option linter.unusedVariables false
open Go.RowKit
open Crc
set_option maxRecDepth 100000 in
set_option maxHeartbeats 2000000 in
theorem replies_x (an n : Nat) (ay ap y p E F : Int) (aa al : Bool) (a1 a2 : Value) (S z : ByteArray) (ids er : List ByteArray) (w : World)
    (h1 : ∀ W, Below w.heap.size w W → Calls Try.prog 14 #[.agg #[.int .i64 ay, .int .u64 (an : Int), .int .i64 ap, .bool aa, a1, a2]] W fun e w' => e = .returned (.tuple #[.string S, .int .i64 E]) ∧ Below W.heap.size W w')
    (h2 : ∀ W, Below w.heap.size w W → Calls Try.prog 15 #[.agg #[.int .i64 ay, .int .u64 (an : Int), .int .i64 ap, .bool aa, a1, a2]] W fun e w' => e = .returned (.tuple #[.string S, .int .i64 E]) ∧ Below W.heap.size W w')
    (h3 : ∀ W, Calls Try.prog 16 #[.string z] W fun e w' => (∃ v, e = .returned (.tuple #[v, .int .i64 F]) ∧ RepAt W w' ⟨y, n, p, al, ids, er⟩ v) ∧ Below W.heap.size W w')
    (h4 : ∀ W, Calls Try.prog 17 #[.string z] W fun e w' => (∃ v, e = .returned (.tuple #[v, .int .i64 F]) ∧ RepAt W w' ⟨y, n, p, al, ids, er⟩ v) ∧ Below W.heap.size W w')
    (hli : ids.length ≤ 140737488351232) (hle : er.length ≤ 140737488351232) :
    Calls Try.prog 6 #[.agg #[.int .i64 ay, .int .u64 (an : Int), .int .i64 ap, .bool aa, a1, a2], .string z] w fun e w' => e = .returned (.bool true) ∧ Below w.heap.size w w' := by
  obtain ⟨ni, hni⟩ := named ids.length
  obtain ⟨ne, hne⟩ := named er.length
  have hA := Blk.new w [.int .i64 ay, .int .u64 (an : Int), .int .i64 ap, .bool aa, a1, a2] 44
  have hb := below_alloc w (.cells #[.int .i64 ay, .int .u64 (an : Int), .int .i64 ap, .bool aa, a1, a2] 44)
  go_enter Try.func6, Try.ntmps6
  go_upto_region 1 with fail
  obtain ⟨w0, hw0⟩ := named (w.alloc (.cells #[.int .i64 ay, .int .u64 (an : Int), .int .i64 ap, .bool aa, a1, a2] 44))
  rw [← hw0.out] at hA hb ⊢
  clear hw0
  go_wp2_with (refine wpList_load_row rfl 44 _ rfl _ rfl 44 #[.int .i64 ay, .int .u64 (an : Int), .int .i64 ap, .bool aa, a1, a2] (0, 0) _ hA Try.underlying44 rfl kREP ?_)
  refine (h1 _ hb).mono ?_
  rintro e w1 ⟨rfl, hb9⟩
  replace hA := hA.below hb9
  replace hb := bt hb hb9
  clear hb9 h1
  generalize (Value.agg #[.int .i64 ay, .int .u64 (an : Int), .int .i64 ap, .bool aa, a1, a2] : Value) = V1
  go_wp2_with (refine wpList_load_row rfl 44 _ rfl _ rfl 44 #[.int .i64 ay, .int .u64 (an : Int), .int .i64 ap, .bool aa, a1, a2] (0, 0) _ hA Try.underlying44 rfl kREP ?_)
  refine (h2 _ hb).mono ?_
  rintro e w2 ⟨rfl, hb9⟩
  replace hA := hA.below hb9
  replace hb := bt hb hb9
  clear hb9 h2
  generalize (Value.agg #[.int .i64 ay, .int .u64 (an : Int), .int .i64 ap, .bool aa, a1, a2] : Value) = V2
  clear hA
  go_wp2_with fail
  refine (h3 _).mono ?_
  rintro e w3 ⟨⟨v, rfl, v1, v2, rfl, R1, R2⟩, hb9⟩
  obtain ⟨A1, c1, rfl, t1, -⟩ := R1
  obtain ⟨B1, d1, rfl, u1, -⟩ := R2
  simp only [repCells] at *
  rw [show ids.length = ni from hni.out.symm, show er.length = ne from hne.out.symm]
  replace hb := bt hb hb9
  replace t1 := t1.below (below_alloc w3 (.cells #[.int .i64 y, .int .u64 (n : Int), .int .i64 p, .bool al, .slice A1 ni c1, .slice B1 ne d1] 44))
  replace u1 := u1.below (below_alloc w3 (.cells #[.int .i64 y, .int .u64 (n : Int), .int .i64 p, .bool al, .slice A1 ni c1, .slice B1 ne d1] 44))
  have hB := Blk.new w3 [.int .i64 y, .int .u64 (n : Int), .int .i64 p, .bool al, .slice A1 ni c1, .slice B1 ne d1] 44
  replace hb := bt hb (below_alloc w3 (.cells #[.int .i64 y, .int .u64 (n : Int), .int .i64 p, .bool al, .slice A1 ni c1, .slice B1 ne d1] 44))
  clear hb9 h3
  go_upto_region 4 with fail
  obtain ⟨G1, hG1⟩ := named w3.heap.size
  obtain ⟨x3, hx3⟩ := named (w3.alloc (.cells #[.int .i64 y, .int .u64 (n : Int), .int .i64 p, .bool al, .slice A1 ni c1, .slice B1 ne d1] 44))
  rw [← hG1.out] at hB ⊢
  rw [← hx3.out] at hB hb t1 u1  ⊢
  clear hG1 hx3
  generalize (Value.agg #[.int .i64 y, .int .u64 (n : Int), .int .i64 p, .bool al, .slice A1 ni c1, .slice B1 ne d1] : Value) = Z1
  go_wp2_with fail
  refine (h4 _).mono ?_
  rintro e w4 ⟨⟨v, rfl, v1, v2, rfl, R1, R2⟩, hb9⟩
  obtain ⟨A2, c2, rfl, t2, -⟩ := R1
  obtain ⟨B2, d2, rfl, u2, -⟩ := R2
  simp only [repCells] at *
  rw [show ids.length = ni from hni.out.symm, show er.length = ne from hne.out.symm]
  replace hB := hB.below hb9
  replace t1 := t1.below hb9
  replace u1 := u1.below hb9
  replace hb := bt hb hb9
  replace hB := hB.alloc (.cells #[.int .i64 y, .int .u64 (n : Int), .int .i64 p, .bool al, .slice A2 ni c2, .slice B2 ne d2] 44)
  replace t1 := t1.below (below_alloc w4 (.cells #[.int .i64 y, .int .u64 (n : Int), .int .i64 p, .bool al, .slice A2 ni c2, .slice B2 ne d2] 44))
  replace u1 := u1.below (below_alloc w4 (.cells #[.int .i64 y, .int .u64 (n : Int), .int .i64 p, .bool al, .slice A2 ni c2, .slice B2 ne d2] 44))
  replace t2 := t2.below (below_alloc w4 (.cells #[.int .i64 y, .int .u64 (n : Int), .int .i64 p, .bool al, .slice A2 ni c2, .slice B2 ne d2] 44))
  replace u2 := u2.below (below_alloc w4 (.cells #[.int .i64 y, .int .u64 (n : Int), .int .i64 p, .bool al, .slice A2 ni c2, .slice B2 ne d2] 44))
  have hC := Blk.new w4 [.int .i64 y, .int .u64 (n : Int), .int .i64 p, .bool al, .slice A2 ni c2, .slice B2 ne d2] 44
  replace hb := bt hb (below_alloc w4 (.cells #[.int .i64 y, .int .u64 (n : Int), .int .i64 p, .bool al, .slice A2 ni c2, .slice B2 ne d2] 44))
  clear hb9 h4
  go_upto_region 5 with fail
  obtain ⟨G2, hG2⟩ := named w4.heap.size
  obtain ⟨x4, hx4⟩ := named (w4.alloc (.cells #[.int .i64 y, .int .u64 (n : Int), .int .i64 p, .bool al, .slice A2 ni c2, .slice B2 ne d2] 44))
  rw [← hG2.out] at hC ⊢
  rw [← hx4.out] at hC hb t2 u2 hB t1 u1 ⊢
  clear hG2 hx4
  generalize (Value.agg #[.int .i64 y, .int .u64 (n : Int), .int .i64 p, .bool al, .slice A2 ni c2, .slice B2 ne d2] : Value) = Z2
  go_wp2_with fail
  refine (lives19_w _).mono ?_
  rintro e w8 ⟨rfl, hb9⟩
  replace hB := hB.below hb9
  replace hC := hC.below hb9
  replace t1 := t1.below hb9
  replace u1 := u1.below hb9
  replace t2 := t2.below hb9
  replace u2 := u2.below hb9
  replace hb := bt hb hb9
  clear hb9
  have hsm := same_w ⟨y, n, p, al, ids, er⟩ ⟨y, n, p, al, ids, er⟩ A1 B1 A2 B2 c1 d1 c2 d2 w8 t1 u1 t2 u2 hli hle hli hle
  rw [decide_eq_true rfl] at hsm
  simp only [← hni.out, ← hne.out] at hsm
  have xB := hB.cell
  have xC := hC.cell
  clear t1 u1 t2 u2 hB hC
  go_wp2_with fail
  refine hsm.mono ?_
  rintro e w9 ⟨rfl, hb9⟩
  replace hb := bt hb hb9
  clear hb9 hsm xB xC
  go_wp2
  go_ret
  exact ⟨by simp, hb⟩
theorem rdV_len (l : List UInt8) : (rdV (readRp l)).ids.length ≤ 255 ∧ (rdV (readRp l)).er.length ≤ 255 := by
  cases h : readRp l with
  | none => exact ⟨Nat.zero_le _, Nat.zero_le _⟩
  | some r =>
    obtain ⟨h1, h2, h3⟩ := repBad_ok (readRp_iff.1 h).1.ok
    exact ⟨(texB_ok h2).1, (texB_ok h3).1⟩
theorem wirereplies_w (r : Rep) (adi ade : Option Addr) (capi cape : Nat) (z : ByteArray) (w : World) (hn : r.n < 18446744073709551616) (hi : Texts w adi r.ids) (he : Texts w ade r.er) (si : SmallAt w adi r.ids) (se : SmallAt w ade r.er)
    (hzi : ∀ t ∈ r.ids, t.size < 16777216) (hze : ∀ t ∈ r.er, t.size < 16777216) (hli : r.ids.length ≤ 1048576) (hle : r.er.length ≤ 1048576) (hz : z.size ≤ 140737488351232) :
    Calls Try.prog 6 #[.agg #[.int .i64 r.why, .int .u64 (r.n : Int), .int .i64 r.pl, .bool r.al, .slice adi r.ids.length capi, .slice ade r.er.length cape], .string z] w fun e w' => e = .returned (.bool true) ∧ Below w.heap.size w w' := by
  have h1 := fun W (hW : Below w.heap.size w W) => writeReply_w r adi ade capi cape W (hi.below hW) (he.below hW) (si.below hW) (se.below hW) hzi hze (by omega) (by omega)
  have h2 := fun W (hW : Below w.heap.size w W) => refWriteReply_w r adi ade capi cape W hn (hi.below hW) (he.below hW) (by omega) (by omega)
  have h3 := fun W => readReply_w z W hz
  have h4 := fun W => refReadReply_w z.data.toList W (by simpa using hz)
  rw [str_of] at h4
  simp only [refRp_eq] at h4
  obtain ⟨q1, q2⟩ := rdV_len z.data.toList
  obtain ⟨R, hR⟩ := named (rdV (readRp z.data.toList))
  obtain ⟨F, hF⟩ := named (rdE (readRp z.data.toList))
  simp only [← hR.out, ← hF.out] at h3 h4
  rw [← hR.out] at q1 q2
  clear hR hF
  obtain ⟨y, n, p, al, ids, er⟩ := R
  exact replies_x r.n n r.why r.pl y p (writeRp r).2 F r.al al _ _ (str (writeRp r).1) z ids er w h1 h2 h3 h4 (by simp at q1; omega) (by simp at q2; omega)
end Go.Proofs.Ytiodfbbgbnbdpaa
