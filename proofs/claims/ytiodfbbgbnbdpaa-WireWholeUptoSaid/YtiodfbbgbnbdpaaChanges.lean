/- change.Left: Changes. -/
import Derived.Test.YtiodfbbgbnbdpaaLeft
import Derived.Test.YtiodfbbgbnbdpaaChRight
import Derived.Test.YtiodfbbgbnbdpaaChTexts
import Derived.Test.YtiodfbbgbnbdpaaApp
import Derived.Deep.DeepCutAuto
import Derived.Deep.CutBlock
namespace Go.Proofs.Ytiodfbbgbnbdpaa
set_option linter.unusedSimpArgs false
set_option linter.unusedVariables false
open Go.RowKit
open Crc
theorem Lb.kp {w w' : World} {g : Nat} {x : Lf} (h : Lb w g x) (hb : Below w.heap.size w w') : Lb w' g x := Blk.below h hb
theorem ptr4 {w : World} {G C : Nat} {t : TypeId} (h : Blk w G [.pointer (some ⟨C, 1, none⟩), .pointer (some ⟨C, 2, none⟩), .pointer (some ⟨C, 3, none⟩), .pointer (some ⟨C, 4, none⟩)] t) {j : Nat} (hj : j < 4) : w.cell? ⟨G, j, none⟩ = some (.pointer (some ⟨C, 1 + j, none⟩)) := by
  rw [h.cell]
  match j, hj with
  | 0, _ => rfl
  | 1, _ => rfl
  | 2, _ => rfl
  | 3, _ => rfl
  | _ + 4, h => omega
theorem fill_at (v : Value) (a : List ByteArray) (m : Nat) : (v :: strs (a ++ List.replicate (m + 1) e0))[1 + a.length]? = some (.string e0) := by
  rw [show 1 + a.length = a.length + 1 by omega, List.getElem?_cons_succ, strs_append, List.getElem?_append_right (by rw [strs_length]; exact Nat.le_refl _), strs_length, Nat.sub_self]
  simp [strs, List.replicate_succ]
/-- One change's texts are taken. -/
def chAt (g C G B : Nat) (k : UInt8) (y : Lf) (j : Nat) (w0 w : World) : Prop :=
  Lb w g (textsL j y).2 ∧ Blk w C (.int .u8 (k.toNat : Int) :: strs ((textsL j y).1 ++ List.replicate (4 - j) e0)) 28 ∧ Blk w G [.pointer (some ⟨C, 1, none⟩), .pointer (some ⟨C, 2, none⟩), .pointer (some ⟨C, 3, none⟩), .pointer (some ⟨C, 4, none⟩)] 97 ∧ Kp2 B g C w0 w
set_option maxRecDepth 100000 in
set_option maxHeartbeats 1000000 in
theorem changes_w (g : Nat) (x : Lf) (w : World) (h : Lb w g x) (hx : x.l.length ≤ 140737488351232) :
    Calls Try.prog 87 #[.pointer (some ⟨g, 0, none⟩)] w fun e w' => (∃ v, e = .returned v ∧ w'.ownsRow w.heap.size 28 5 v (chsL (byteL x).1.toNat (byteL x).2).1.length (chsCells (chsL (byteL x).1.toNat (byteL x).2).1)) ∧ Lb w' g (chsL (byteL x).1.toNat (byteL x).2).2 ∧ Kp g w w' := by
  obtain ⟨i0, hi, hz0, hz1, hz2⟩ := info_parts Try.info28
  have hby := byte_w g x w h hx
  have hlen0 := byteL_len x
  have hg0 := h.lt
  obtain ⟨R, hR⟩ := named (byteL x)
  rw [← hR.out] at hby hlen0 ⊢
  clear hR
  obtain ⟨c, y0⟩ := R
  obtain ⟨n0, hn0⟩ := named c.toNat
  have hn255 : n0 < 256 := by rw [hn0.out]; exact c.toNat_lt
  simp only at hby hlen0 ⊢
  rw [← hn0.out] at hby ⊢
  clear hn0
  go_enter Try.func87, Try.ntmps87
  go_wp2_with fail
  refine hby.mono ?_
  rintro e w1 ⟨rfl, h1, kp1⟩
  have hs1 : w.heap.size ≤ w1.heap.size := kp1.size
  clear hby h
  go_upto_region 3 with fail
  go_loopw [3, 4] (fun v i wr => ∃ (m : Nat) (y : Lf) (D : List Chg), i = .int .u8 (m : Int) ∧ m ≤ n0 ∧ D.length + m ≤ 255 ∧ y.l.length ≤ x.l.length ∧ Hid (chsL n0 y0 = (D ++ (chsL m y).1, (chsL m y).2)) ∧ wr.ownsRow w.heap.size 28 5 v D.length (chsCells D) ∧ Lb wr g y ∧ Kp g w wr) (fun _ i _ => (intOf i).toNat)
  case atStart => exact ⟨n0, y0, [], rfl, Nat.le_refl _, by simp; omega, hlen0, hide (by simp), ⟨rfl, .inl ⟨rfl, rfl⟩⟩, h1, kp1⟩
  case round =>
    clear h1 kp1
    obtain ⟨m, y, D, rfl, hmn, hDm, hyl, hrec, hown, hy, hk⟩ := hrel
    have c1 := hy.cell
    by_cases hm0 : m = 0
    · have t0 : ¬ (0 : Int) < (m : Int) := by omega
      have hres : chsL n0 y0 = (D, y) := by rw [hrec.out, hm0]; simp [chsL]
      have hown' := hown
      clear hrec hi hz0 hz1 hz2
      rw [hres]
      obtain ⟨b, hb⟩ := named y.b
      obtain ⟨A, cc, rfl, _⟩ := Lies.of_own hown
      go_wp2
      go_ret
      exact ⟨⟨_, rfl, hown'⟩, hy, hk⟩
    have t0 : (0 : Int) < (m : Int) := by omega
    obtain ⟨yl, yb⟩ := y
    cases yb with
    | true =>
      have hres : chsL n0 y0 = (D, ⟨yl, true⟩) := by
        rw [hrec.out]
        obtain ⟨m', rfl⟩ : ∃ m', m = m' + 1 := ⟨m - 1, by omega⟩
        simp [chsL]
      have hown' := hown
      clear hrec hi hz0 hz1 hz2
      rw [hres]
      obtain ⟨A, cc, rfl, _⟩ := Lies.of_own hown
      go_wp2
      go_ret
      exact ⟨⟨_, rfl, hown'⟩, hy, hk⟩
    | false =>
    obtain ⟨A0, cc, rfl, _⟩ := Lies.of_own hown
    have hg1 : g < wr.heap.size := hy.lt
    have hbt := byte_w g ⟨yl, false⟩ wr hy (Nat.le_trans hyl hx)
    obtain ⟨Q, hQ⟩ := named (chTake ⟨yl, false⟩)
    have hQc := chTake_cells ⟨yl, false⟩
    have hrest : chRest ⟨yl, false⟩ = ⟨(textsL 4 (byteL ⟨yl, false⟩).2).2.l, (textsL 4 (byteL ⟨yl, false⟩).2).2.b || !chRight (chTake ⟨yl, false⟩)⟩ := rfl
    have hrl := chRest_len ⟨yl, false⟩
    have hyl2 := byteL_len ⟨yl, false⟩
    have hrec1 : chsL n0 y0 = (D ++ [Q] ++ (chsL (m - 1) (chRest ⟨yl, false⟩)).1, (chsL (m - 1) (chRest ⟨yl, false⟩)).2) := by
      rw [hrec.out, hQ.out]
      obtain ⟨m', rfl⟩ : ∃ m', m = m' + 1 := ⟨m - 1, by omega⟩
      simp [chsL]
    rw [← hQ.out] at hQc hrest
    obtain ⟨Y, hY⟩ := named (chRest ⟨yl, false⟩)
    rw [← hY.out] at hrec1 hrest hrl
    obtain ⟨R2, hR2⟩ := named (byteL ⟨yl, false⟩)
    rw [← hR2.out] at hQc hrest hyl2 hbt
    obtain ⟨k, y2⟩ := R2
    simp only at hbt hQc hrest hyl2 hrl
    have HREC := hide hrec1
    have HREST := hide hrest
    have HQC := hide hQc
    clear hQ hY hR2 hrec hrec1 hrest hQc
    go_wp2_with fail
    refine hbt.mono ?_
    rintro e w2 ⟨rfl, hy2, hk2⟩
    have hsz2 := hk2.size
    have hy3 : Lb (w2.alloc (.cells #[.int .u8 (k.toNat : Int), .string ⟨#[]⟩, .string ⟨#[]⟩, .string ⟨#[]⟩, .string ⟨#[]⟩] 28)) g y2 := hy2.kp (below_alloc _ _)
    have hC := Blk.new w2 [.int .u8 (k.toNat : Int), .string ⟨#[]⟩, .string ⟨#[]⟩, .string ⟨#[]⟩, .string ⟨#[]⟩] 28
    have hk3 : Kp g wr (w2.alloc (.cells #[.int .u8 (k.toNat : Int), .string ⟨#[]⟩, .string ⟨#[]⟩, .string ⟨#[]⟩, .string ⟨#[]⟩] 28)) := hk2.alloc (Nat.le_of_lt hg1) _
    clear hbt c1 hy2
    go_upto_region 6 with fail
    obtain ⟨C, hCn⟩ := named w2.heap.size
    obtain ⟨w3, hw3⟩ := named (w2.alloc (.cells #[.int .u8 (k.toNat : Int), .string ⟨#[]⟩, .string ⟨#[]⟩, .string ⟨#[]⟩, .string ⟨#[]⟩] 28))
    rw [← hCn.out] at hC hsz2 ⊢
    rw [← hw3.out] at hC hy3 hk3 ⊢
    clear hCn hw3 hk2
    go_wp2_with fail
    refine (ctexts_w C w3).mono ?_
    rintro e w4 ⟨rfl, hG, hb4⟩
    have hy4 := hy3.kp hb4
    have hC4 := hC.below hb4
    have hCG : C < w3.heap.size := hC.lt
    have hk4 : Kp g wr w4 := hk3.trans (Kp.of hb4 (Nat.le_of_lt hy3.lt))
    clear hy3 hC hb4 hk3
    go_upto_region 7 with fail
    obtain ⟨G, hGn⟩ := named w3.heap.size
    rw [← hGn.out] at hG hCG ⊢
    clear hGn
    have hgC : g < C := by omega
    go_loopw [26] (fun i wz => ∃ j : Nat, j ≤ 4 ∧ i = .int .i64 (j : Int) ∧ chAt g C G g k y2 j w4 wz) (fun i _ => 4 - (intOf i).toNat)
    case atStart => exact ⟨0, by omega, rfl, hy4, hC4, hG, Kp2.refl _ _ _ _⟩
    case round =>
      clear hy4 hC4 hG
      obtain ⟨j, hj4, rfl, hyj, hCj, hGj, hkj⟩ := hrel
      have htl := textsL_length j y2
      by_cases hj : j < 4
      · have hj' : (j : Int) < 4 := by omega
        have hj0 : (0 : Int) ≤ (j : Int) := by omega
        have hcj := ptr4 hGj hj
        have hll := textsL_len j y2
        have htx := ltext_w g (textsL j y2).2 wr hyj (by omega)
        obtain ⟨m4, hm4⟩ : ∃ m4, 4 - j = m4 + 1 := ⟨3 - j, by omega⟩
        rw [hm4] at hCj
        have hfa := fill_at (.int .u8 (k.toNat : Int)) (textsL j y2).1 m4
        have hfs := strs_fill [.int .u8 (k.toNat : Int)] (textsL j y2).1 m4 (str (textL (textsL j y2).2).1)
        rw [htl] at hfa hfs
        have hnext : textsL (j + 1) y2 = ((textsL j y2).1 ++ [str (textL (textsL j y2).2).1], (textL (textsL j y2).2).2) := rfl
        have HN := hide hnext
        have HFS := hide hfs
        obtain ⟨S, hS⟩ := named (str (textL (textsL j y2).2).1)
        rw [← hS.out] at htx
        have HTL := hide htl
        clear hnext hfs htl hll
        go_wp2_with fail
        refine htx.mono ?_
        rintro e w6 ⟨rfl, hy6, hk6⟩
        have hC6 := hCj.kp hk6 (by omega)
        have hG6 := hGj.kp hk6 (by omega)
        have x6 : w6.cell? ⟨C, 1 + j, none⟩ = some (.string e0) := by rw [hC6.cell]; exact hfa
        have f6 := hC6.free (1 + j)
        have hC7 := hC6.set (1 + j) (.string S)
        have hG7 := hG6.far (p := ⟨C, 1 + j, none⟩) (by show G ≠ C; omega) (.string S)
        have hy7 : Lb (w6.setCell ⟨C, 1 + j, none⟩ (.string S)) g (textL (textsL j y2).2).2 := Blk.far hy6 (p := ⟨C, 1 + j, none⟩) (by show g ≠ C; omega) (.string S)
        have hk7 := (hkj.trans (hk6.two (A := C) (Nat.le_refl g))).set (Nat.le_of_lt hgC) (1 + j) (.string S)
        clear htx hfa hcj
        go_wp2
        go_roundw
        case rel =>
          refine ⟨j + 1, by omega, by first | rfl | go_num, ?_, ?_, hG7, hk7⟩
          · rw [HN.out]; exact hy7
          · rw [HN.out, show 4 - (j + 1) = m4 by omega]
            have h9 := HFS.out
            rw [← hS.out] at h9 ⊢
            simp only [List.length_cons, List.length_nil, Nat.zero_add, List.cons_append, List.nil_append] at h9
            rw [← h9]
            exact hC7
        case measure => simp [intOf]; omega
      · obtain rfl : j = 4 := by omega
        rw [Nat.sub_self, List.replicate_zero, List.append_nil] at hCj
        have hQc := HQC.out
        rw [← hQc] at hCj
        have HY := HREST.out
        obtain ⟨y5, hy5⟩ := named (textsL 4 y2).2
        rw [← hy5.out] at hyj HY
        obtain ⟨l5, b5⟩ := y5
        have hkk : Kp g w wr := by
          refine ⟨fun i hi hn => ?_, ?_⟩
          · rw [hkj.1 i (by have := hk.size; have := hk4.size; omega) hn (by have := hk.size; omega), hk4.1 i (by have := hk.size; omega) hn, hk.1 i hi hn]
          · exact (hk.2.trans hk4.2).trans hkj.2
        have hown1 : wr.ownsRow w.heap.size 28 5 (.slice A0 D.length cc) D.length (chsCells D) := by
          refine ⟨hown.1, ?_⟩
          rcases hown.2 with h' | ⟨r, cap, cur, hv, hr, hh, h'⟩
          · exact .inl h'
          · have hrl9 := (Array.getElem?_eq_some_iff.1 hh).1
            exact .inr ⟨r, cap, cur, hv, hr, ((hkj.1 r (by have := hk4.size; omega) (by omega) (by omega)).trans (hk4.1 r hrl9 (by omega))).trans hh, h'⟩
        have hszz : w.heap.size ≤ wr.heap.size := hkk.size
        have hm1 : IntKind.u8.wrap ((m : Int) - 1) = ((m - 1 : Nat) : Int) := by simp [IntKind.wrap, IntKind.bits, IntKind.signed]; omega
        have hrw := fun W => right_w Q W
        obtain ⟨qb, hqb⟩ := named (chRight Q)
        simp only [← hqb.out] at hrw HY
        obtain ⟨qk, qi, qt, qu, qv⟩ := Q
        have HYY := hide HY
        have HQ2 := hide (rfl : chCells ⟨qk, qi, qt, qu, qv⟩ = [.int .u8 (qk.toNat : Int), .string qi, .string qt, .string qu, .string qv])
        simp only [chCells] at hCj hrw
        clear HY hQc HQC HREST hy5 hqb htl hkj hk4 hk hown hy hGj
        cases b5 with
        | true =>
          have xC := hCj.cell
          have xg := hyj.cell
          have fg := hyj.free
          have hy7 := hyj
          have hC7 := hCj
          have hk7 := hkk
          have ho7 := hown1
          have hs7 := hszz
          clear hrw
          have hy8 : Lb (wr.setCell ⟨g, 1, none⟩ (.bool true)) g ⟨l5, true⟩ := Blk.set hy7 1 (.bool true)
          have hC8 := hC7.far (p := ⟨g, 1, none⟩) (by show C ≠ g; omega) (.bool true)
          have hk8 := hk7.set 1 (.bool true)
          have ho8 : (wr.setCell ⟨g, 1, none⟩ (.bool true)).ownsRow w.heap.size 28 5 (.slice A0 D.length cc) D.length (chsCells D) := own_far ho7 (p := ⟨g, 1, none⟩) (fun e => by have := (ho7.lt g e).1; omega) (.bool true)
          have hs8 : w.heap.size ≤ (wr.setCell ⟨g, 1, none⟩ (.bool true)).heap.size := by rw [World.size_setCell]; exact hs7
          go_upto_region 12 with fail
          obtain ⟨w8, hw8⟩ := named (wr.setCell ⟨g, 1, none⟩ (.bool true))
          rw [← hw8.out] at hy8 hC8 hk8 ho8 hs8 ⊢
          clear hw8 hy7 hC7 hk7 ho7 hs7 xC xg fg hyj hCj hkk hown1
          have hb9 := below_alloc w8 (.cells #[.int .u8 (qk.toNat : Int), .string qi, .string qt, .string qu, .string qv] 28)
          have hy9 := hy8.kp hb9
          have hk9 := hk8.trans (Kp.of hb9 (Nat.le_of_lt hy8.lt))
          have ho9 := own_below ho8 hb9
          have hN9 := Blk.new w8 [.int .u8 (qk.toNat : Int), .string qi, .string qt, .string qu, .string qv] 28
          have xC := hC8.cell
          have hs9 := hb9.size
          have hnews : ∀ j u, ([.int .u8 (qk.toNat : Int), .string qi, .string qt, .string qu, .string qv] : List Value)[j]? = some u → (w8.alloc (.cells #[.int .u8 (qk.toNat : Int), .string qi, .string qt, .string qu, .string qv] 28)).cell? ((⟨w8.heap.size, 0, none⟩ : Addr).add j) = some u := fun j u hj => by
            rw [addr_add, Nat.zero_add, hN9.cell]
            exact hj
          have hone : ∀ u ∈ ([.int .u8 (qk.toNat : Int), .string qi, .string qt, .string qu, .string qv] : List Value), u.oneCell' = true := by
            intro u hu; simp at hu; rcases hu with rfl | rfl | rfl | rfl | rfl <;> rfl
          have HNW := hide hnews
          have HON := hide hone
          clear hnews hone
          go_wp2_with (at_builtin; refine wpList_append_own _ rfl _ _ 65 rfl w.heap.size 28 i0 (.agg #[.int .u8 0, .string ⟨#[]⟩, .string ⟨#[]⟩, .string ⟨#[]⟩, .string ⟨#[]⟩]) 5 72 Try.underlying65 hi hz0 hz1 hz2 rfl (by decide) _ _ _ rfl ho9 ⟨w8.heap.size, 0, none⟩ 1 1 [.int .u8 (qk.toNat : Int), .string qi, .string qt, .string qu, .string qv] rfl rfl HNW.out HON.out ?c3 ?c4 ?c5 ?_)
          case c3 => unfold maxLen; omega
          case c4 => omega
          case c5 => omega
          intro v' w10 hown' hgrow _
          have hy10 : Lb w10 g ⟨l5, true⟩ := (hgrow.block g (by have := hy9.lt; omega) (fun e => by have := (ho9.lt g e.symm).1; omega)).trans hy9
          have hk10 : Kp g w w10 := ⟨fun i hi hn => (hgrow.block i (by omega) (fun e => by have := (ho9.lt i e.symm).1; omega)).trans (hk9.1 i hi hn), hk9.2.grown hgrow (by have := hy9.lt; omega) (fun i e => by have := (ho9.lt i e).1; omega)⟩
          have hown2 : w10.ownsRow w.heap.size 28 5 v' (D ++ [(⟨qk, qi, qt, qu, qv⟩ : Chg)]).length (chsCells (D ++ [(⟨qk, qi, qt, qu, qv⟩ : Chg)])) := by
            rw [chsCells_append, List.length_append]
            exact hown'
          clear HNW HON xC hC8 hy8 hk8 ho8 hb9 hy9 hk9 ho9 hN9 hgrow hown'
          go_wp2
          go_roundw
          case rel => exact ⟨m - 1, Y, D ++ [(⟨qk, qi, qt, qu, qv⟩ : Chg)], by first | rfl | go_num, by omega, by rw [List.length_append, List.length_singleton]; omega, by omega, HREC, hown2, by rw [HYY.out]; exact hy10, hk10⟩
          case measure => simp [intOf]; omega
        | false =>
          have xC := hCj.cell
          have xg := hyj.cell
          have fg := hyj.free
          go_wp2_with fail
          refine (hrw _).mono ?_
          rintro e w7 ⟨rfl, hb7⟩
          have hy7 := hyj.kp hb7
          have hC7 := hCj.below hb7
          have hk7 := hkk.trans (Kp.of hb7 (Nat.le_of_lt hyj.lt))
          have ho7 := own_below hown1 hb7
          have hs7 : w.heap.size ≤ w7.heap.size := Nat.le_trans hszz hb7.size
          clear xC xg fg hrw
          have xC := hC7.cell
          have xg := hy7.cell
          have fg := hy7.free
          obtain ⟨bb, hbb⟩ := named (!qb)
          have hy8 : Lb (w7.setCell ⟨g, 1, none⟩ (.bool bb)) g ⟨l5, bb⟩ := Blk.set hy7 1 (.bool bb)
          have hC8 := hC7.far (p := ⟨g, 1, none⟩) (by show C ≠ g; omega) (.bool bb)
          have hk8 := hk7.set 1 (.bool bb)
          have ho8 : (w7.setCell ⟨g, 1, none⟩ (.bool bb)).ownsRow w.heap.size 28 5 (.slice A0 D.length cc) D.length (chsCells D) := own_far ho7 (p := ⟨g, 1, none⟩) (fun e => by have := (ho7.lt g e).1; omega) (.bool bb)
          have hs8 : w.heap.size ≤ (w7.setCell ⟨g, 1, none⟩ (.bool bb)).heap.size := by rw [World.size_setCell]; exact hs7
          rw [hbb.out] at hy8 hC8 hk8 ho8 hs8
          go_upto_region 12 with fail
          obtain ⟨w8, hw8⟩ := named (w7.setCell ⟨g, 1, none⟩ (.bool (!qb)))
          rw [← hw8.out] at hy8 hC8 hk8 ho8 hs8 ⊢
          clear hw8 hy7 hC7 hk7 ho7 hs7 xC xg fg hyj hCj hkk hown1
          have hb9 := below_alloc w8 (.cells #[.int .u8 (qk.toNat : Int), .string qi, .string qt, .string qu, .string qv] 28)
          have hy9 := hy8.kp hb9
          have hk9 := hk8.trans (Kp.of hb9 (Nat.le_of_lt hy8.lt))
          have ho9 := own_below ho8 hb9
          have hN9 := Blk.new w8 [.int .u8 (qk.toNat : Int), .string qi, .string qt, .string qu, .string qv] 28
          have xC := hC8.cell
          have hs9 := hb9.size
          have hnews : ∀ j u, ([.int .u8 (qk.toNat : Int), .string qi, .string qt, .string qu, .string qv] : List Value)[j]? = some u → (w8.alloc (.cells #[.int .u8 (qk.toNat : Int), .string qi, .string qt, .string qu, .string qv] 28)).cell? ((⟨w8.heap.size, 0, none⟩ : Addr).add j) = some u := fun j u hj => by
            rw [addr_add, Nat.zero_add, hN9.cell]
            exact hj
          have hone : ∀ u ∈ ([.int .u8 (qk.toNat : Int), .string qi, .string qt, .string qu, .string qv] : List Value), u.oneCell' = true := by
            intro u hu; simp at hu; rcases hu with rfl | rfl | rfl | rfl | rfl <;> rfl
          have HNW := hide hnews
          have HON := hide hone
          clear hnews hone
          go_wp2_with (at_builtin; refine wpList_append_own _ rfl _ _ 65 rfl w.heap.size 28 i0 (.agg #[.int .u8 0, .string ⟨#[]⟩, .string ⟨#[]⟩, .string ⟨#[]⟩, .string ⟨#[]⟩]) 5 72 Try.underlying65 hi hz0 hz1 hz2 rfl (by decide) _ _ _ rfl ho9 ⟨w8.heap.size, 0, none⟩ 1 1 [.int .u8 (qk.toNat : Int), .string qi, .string qt, .string qu, .string qv] rfl rfl HNW.out HON.out ?c3 ?c4 ?c5 ?_)
          case c3 => unfold maxLen; omega
          case c4 => omega
          case c5 => omega
          intro v' w10 hown' hgrow _
          have hy10 : Lb w10 g ⟨l5, (!qb)⟩ := (hgrow.block g (by have := hy9.lt; omega) (fun e => by have := (ho9.lt g e.symm).1; omega)).trans hy9
          have hk10 : Kp g w w10 := ⟨fun i hi hn => (hgrow.block i (by omega) (fun e => by have := (ho9.lt i e.symm).1; omega)).trans (hk9.1 i hi hn), hk9.2.grown hgrow (by have := hy9.lt; omega) (fun i e => by have := (ho9.lt i e).1; omega)⟩
          have hown2 : w10.ownsRow w.heap.size 28 5 v' (D ++ [(⟨qk, qi, qt, qu, qv⟩ : Chg)]).length (chsCells (D ++ [(⟨qk, qi, qt, qu, qv⟩ : Chg)])) := by
            rw [chsCells_append, List.length_append]
            exact hown'
          clear HNW HON xC hC8 hy8 hk8 ho8 hb9 hy9 hk9 ho9 hN9 hgrow hown'
          go_wp2
          go_roundw
          case rel => exact ⟨m - 1, Y, D ++ [(⟨qk, qi, qt, qu, qv⟩ : Chg)], by first | rfl | go_num, by omega, by rw [List.length_append, List.length_singleton]; omega, by omega, HREC, hown2, by rw [HYY.out]; exact hy10, hk10⟩
          case measure => simp [intOf]; omega
end Go.Proofs.Ytiodfbbgbnbdpaa
