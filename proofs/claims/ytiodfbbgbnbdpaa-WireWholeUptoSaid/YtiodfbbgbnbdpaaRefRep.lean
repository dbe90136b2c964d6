/- The document on replies: texts, some. -/
import Derived.Test.YtiodfbbgbnbdpaaRepPlain
import Derived.Test.YtiodfbbgbnbdpaaWTexts
import Derived.Test.YtiodfbbgbnbdpaaRTexts
import Derived.Test.YtiodfbbgbnbdpaaRefPack
import Derived.Test.YtiodfbbgbnbdpaaGG
import Derived.Test.YtiodfbbgbnbdpaaApp
namespace Go.Proofs.Ytiodfbbgbnbdpaa
set_option linter.unusedSimpArgs false
set_option linter.unusedVariables false
open Go.RowKit
open Crc
def tvL (l : List ByteArray) : List UInt8 × Bool := if texB l = true then ([], false) else (textsW l, true)
theorem longs_true {l : List ByteArray} {j : Nat} (hj : j < l.length) (h : 2048 < (l.getD j e0).size) (hl : l.length ≤ 255) : texB l = true := by
  cases hc : texB l with
  | true => rfl
  | false =>
    have h1 := (texB_ok hc).2.2 (l.getD j e0) (by rw [List.getD_eq_getElem?_getD, List.getElem?_eq_getElem hj]; exact List.getElem_mem _)
    omega
set_option maxRecDepth 100000 in
set_option maxHeartbeats 1000000 in
theorem refTexts19_w (l : List ByteArray) (A : Option Addr) (cap : Nat) (w : World) (hT : Texts w A l) (hl : l.length ≤ 140737488351232) :
    Calls Try.prog 31 #[.slice A l.length cap] w fun e w' => e = .returned (.tuple #[.string (str (tvL l).1), .bool (tvL l).2]) ∧ Below w.heap.size w w' := by
  by_cases hbig : 255 < l.length
  · have hv : tvL l = ([], false) := if_pos (by unfold texB; simp [hbig])
    have hI : (255 : Int) < (l.length : Int) := by omega
    rw [hv]
    obtain ⟨N, hN⟩ := named l.length
    rw [← hN.out] at hI ⊢
    clear hbig hv hT hN hl
    go_enter Try.func31, Try.ntmps31
    go_wp2
    go_ret2
    exact ⟨rfl, Below.refl _ _⟩
  · have hle : l.length ≤ 255 := by omega
    have hI : ¬ (255 : Int) < (l.length : Int) := by omega
    have hbad := fun j (hj : j < l.length) (h : 2048 < (l.getD j e0).size) => longs_true hj h hle
    have hlen := fun j => txts_len (l.take j) 2049
    have hcell : ∀ W, Texts W A l → ∀ k, k < l.length → ∃ b o', A = some ⟨b, o', none⟩ ∧ W.cell? ⟨b, o' + k, none⟩ = some (.string (l.getD k e0)) := fun W hW k hk => by
      obtain ⟨b, o', e, hc⟩ := hW.at_ hk
      refine ⟨b, o', e, ?_⟩
      rw [List.getD_eq_getElem?_getD, List.getElem?_eq_getElem hk]
      exact hc
    have hgood : longs l = false → tvL l = (UInt8.ofNat l.length :: txts l, true) := fun h => by
      have hb : texB l = false := texB_iff.2 ⟨hle, (longs_iff l).1 h⟩
      unfold tvL
      rw [if_neg (by rw [hb]; decide), (textsW_ok hb).1]
    have HG := hide hgood
    have HB := hide hbad
    have HLN := hide hlen
    have hnx := fun j (hj : j < l.length) => txts_succ l hj
    have HNX := hide hnx
    have htl : l.take l.length = l := List.take_length
    have HTL := hide htl
    clear hgood hbad hlen hnx htl
    have hN8 : (UInt8.ofNat l.length).toNat = l.length := by rw [UInt8.toNat_ofNat']; omega
    obtain ⟨N, hN⟩ := named l.length
    have HN := hide hN.out
    rw [← hN.out] at hI hle hl hN8 ⊢
    simp only [← hN.out] at hcell
    have hwN : IntKind.u8.wrap (N : Int) = (N : Int) := by simp [IntKind.wrap, IntKind.bits, IntKind.signed]; omega
    obtain ⟨c, hc⟩ := named (UInt8.ofNat N)
    have HC := hide hc.out
    rw [← hc.out] at hN8
    obtain ⟨F, hF⟩ := named (tvL l)
    rw [← hF.out]
    have hu := blk_string' (Blk.new w [.int .u8 ((c.toNat : Nat) : Int)] 5)
    rw [hN8] at hu
    have hu' : (convert 51 9 (.slice (some ⟨w.heap.size, 0, none⟩) 1 1)).run Try.prog (w.alloc (.cells #[.int .u8 (N : Int)] 5)) = .ok (.string (str [c])) (w.alloc (.cells #[.int .u8 (N : Int)] 5)) := hu
    have hbu := below_alloc w (.cells #[.int .u8 (N : Int)] 5)
    have hs0 : str [c] = str (c :: txts (l.take 0)) := rfl
    obtain ⟨U0, hU0⟩ := named (str [c])
    rw [← hU0.out] at hu' hs0
    have HS0 := hide hs0
    clear hu hs0 hc hbig hN8 hN hU0
    go_enter Try.func31, Try.ntmps31
    go_upto_region 5 with fail
    obtain ⟨w1, hw1⟩ := named (w.alloc (.cells #[.int .u8 (N : Int)] 5))
    have hT1 := hT.below hbu
    rw [← hw1.out] at hbu hT1 ⊢
    clear hw1 hu' hT
    go_loopw [4, 17] (fun s i wr => ∃ (j : Nat) (q : ByteArray), j ≤ N ∧ i = .int .i64 (j : Int) ∧ s = .string q ∧ Hid (q = str (c :: txts (l.take j))) ∧ Hid (longs (l.take j) = false) ∧ Texts wr A l ∧ Below w.heap.size w wr) (fun _ i _ => N - (intOf i).toNat)
    case atStart => exact ⟨0, U0, by omega, rfl, rfl, HS0, hide rfl, hT1, hbu⟩
    case round =>
      clear hT1 hbu HS0
      obtain ⟨j, q, hjN, rfl, rfl, hq, hlg, hT, hb⟩ := hrel
      by_cases hj : j < N
      · have hjI : (j : Int) < (N : Int) := by omega
        have hj0 : (0 : Int) ≤ (j : Int) := by omega
        have hjl : j < l.length := by rw [← HN.out]; exact hj
        obtain ⟨b0, o0, rfl, hct⟩ := hcell wr hT j hj
        obtain ⟨n1, n2⟩ := HNX.out j hjl
        have hql : q.size ≤ 1000000 := by
          rw [hq.out, str_size, List.length_cons]
          have h1 := HLN.out j (fun t ht => by have := (longs_iff _).1 hlg.out t ht; omega)
          have h2 : (l.take j).length ≤ 255 := by rw [List.length_take]; omega
          have h3 : (l.take j).length * (2049 + 4) ≤ 255 * (2049 + 4) := Nat.mul_le_mul_right _ h2
          omega
        by_cases hbg : 2048 < (l.getD j e0).size
        · have hFb : Hid (F = ([], false)) := hide (by rw [hF.out]; exact if_pos (HB.out j hjl hbg))
          have hbI : (2048 : Int) < ((l.getD j e0).size : Int) := by omega
          obtain ⟨t, ht⟩ := named (l.getD j e0)
          rw [← ht.out] at hbI hct
          clear hbg ht n1 n2 hcell
          go_wp2
          go_ret2
          exact ⟨by rw [hFb.out]; rfl, hb⟩
        · have hbI : ¬ (2048 : Int) < ((l.getD j e0).size : Int) := by omega
          have hlg2 : Hid (longs (l.take (j + 1)) = false) := hide (by rw [n2, hlg.out, decide_eq_false hbg]; rfl)
          have hRT := fun W => refText_w (l.getD j e0) W (by omega)
          have hq2 : q ++ str (txt (l.getD j e0)) = str (c :: txts (l.take (j + 1))) := by
            rw [hq.out, str_append, n1]
            rfl
          have hts : (str (txt (l.getD j e0))).size ≤ 3000 := by rw [txt_size]; omega
          have hadd : ∀ W : World, (Op.stringOp .add q (str (txt (l.getD j e0)))).run Try.prog W = .ok (.string (q ++ str (txt (l.getD j e0)))) W := fun W => run_string_add_sum W q _ (by omega)
          obtain ⟨q', hq'⟩ := named (q ++ str (txt (l.getD j e0)))
          have HQ : Hid (q' = str (c :: txts (l.take (j + 1)))) := hide (by rw [hq'.out]; exact hq2)
          simp only [← hq'.out] at hadd
          obtain ⟨x, hx⟩ := named (str (txt (l.getD j e0)))
          simp only [← hx.out] at hadd hRT
          obtain ⟨t, ht⟩ := named (l.getD j e0)
          rw [← ht.out] at hbI hct
          simp only [← ht.out] at hRT
          clear hq2 hbg ht hx hq' n1 n2 hcell hlg hq hql hts
          go_wp2_with fail
          refine (hRT _).mono ?_
          rintro e w3 ⟨rfl, hb3⟩
          have hT3 := hT.below hb3
          have hb4 := bt hb hb3
          clear hRT hT hb hb3 hct
          go_wp2
          go_roundw
          case rel => exact ⟨j + 1, q', by omega, by first | rfl | go_num, rfl, HQ, hlg2, hT3, hb4⟩
          case measure => simp [intOf]; omega
      · obtain rfl : j = N := by omega
        have hFg : Hid (F = (c :: txts l, true)) := hide (by
          have h1 := hlg.out
          rw [HN.out, HTL.out] at h1
          rw [hF.out, HG.out h1, HC.out, HN.out])
        have hqq : Hid (q = str (c :: txts l)) := hide (by have h1 := hq.out; rw [HN.out, HTL.out] at h1; exact h1)
        clear hlg hq hcell hj hjN
        go_wp2
        go_ret2
        exact ⟨by rw [hFg.out, hqq.out]; rfl, hb⟩
def someV (l : List UInt8) : List ByteArray × List UInt8 := (someT l).getD ([], [])
theorem someT_len {l r : List UInt8} {ts : List ByteArray} (h : someT l = some (ts, r)) : ts.length ≤ 255 ∧ r.length ≤ l.length := by
  match l, h with
  | k :: s, h =>
    obtain ⟨h1, h2⟩ := tsteps_yes (n := k.toNat) h
    exact ⟨by have := k.toNat_lt; omega, by simp; omega⟩
theorem own_nilT (w : World) (b n : Nat) (t : TypeId) : w.ownsRow b t n (.slice none 0 0) 0 [] := ⟨by simp, .inl ⟨rfl, rfl⟩⟩
set_option maxRecDepth 100000 in
set_option maxHeartbeats 1000000 in
theorem refSomeT_w (l : List UInt8) (w : World) (hl : l.length ≤ 140737488351232) :
    Calls Try.prog 32 #[.string (str l)] w fun e w' => (∃ v, e = .returned (.tuple #[v, .string (str (someV l).2), .bool (someT l).isSome]) ∧ w'.ownsRow w.heap.size 9 1 v (someV l).1.length (strs (someV l).1)) ∧ Below w.heap.size w w' := by
  match l with
  | [] =>
    have hs := str_empty []
    rw [decide_eq_true rfl] at hs
    obtain ⟨S, hS⟩ := named (str [])
    rw [← hS.out] at hs
    have hfin : ∀ w' : World, Below w.heap.size w w' → (∃ v, Ending.returned (.tuple #[.slice none 0 0, .string ⟨#[]⟩, .bool false]) = .returned (.tuple #[v, .string (str (someV []).2), .bool (someT []).isSome]) ∧ w'.ownsRow w.heap.size 9 1 v (someV []).1.length (strs (someV []).1)) ∧ Below w.heap.size w w' := fun w' hb => ⟨⟨_, rfl, own_nilT _ _ _ _⟩, hb⟩
    rw [← hS.out]
    clear hS
    go_enter Try.func32, Try.ntmps32
    go_wp2
    go_ret3
    exact hfin _ (Below.refl _ _)
  | k :: r =>
  have hlr : r.length ≤ 140737488351232 := by simp at hl; omega
  obtain ⟨i0, hi, hz0, hz1, hz2⟩ := info_parts Try.info9
  have g1 := str_cons_size k r
  have g2 := str_cons_get k r
  have g3 := str_cons_drop k r
  have g4 := str_empty (k :: r)
  rw [decide_eq_false (by simp)] at g4
  have hn255 : k.toNat < 256 := k.toNat_lt
  have hwk : IntKind.i64.wrap (k.toNat : Int) = (k.toNat : Int) := by simp [IntKind.wrap, IntKind.bits, IntKind.signed]; omega
  have hsl : someT (k :: r) = tsteps k.toNat r := rfl
  have hno : tsteps k.toNat r = none → ∀ w' : World, Below w.heap.size w w' → (∃ v, Ending.returned (.tuple #[.slice none 0 0, .string ⟨#[]⟩, .bool false]) = .returned (.tuple #[v, .string (str (someV (k :: r)).2), .bool (someT (k :: r)).isSome]) ∧ w'.ownsRow w.heap.size 9 1 v (someV (k :: r)).1.length (strs (someV (k :: r)).1)) ∧ Below w.heap.size w w' := fun h w' hb => by
    unfold someV
    rw [hsl, h]
    exact ⟨⟨_, rfl, own_nilT _ _ _ _⟩, hb⟩
  have hyes : ∀ D r', tsteps k.toNat r = some (D, r') → ∀ (v : Value) (w' : World), w'.ownsRow w.heap.size 9 1 v D.length (strs D) → Below w.heap.size w w' → (∃ u, Ending.returned (.tuple #[v, .string (str r'), .bool true]) = .returned (.tuple #[u, .string (str (someV (k :: r)).2), .bool (someT (k :: r)).isSome]) ∧ w'.ownsRow w.heap.size 9 1 u (someV (k :: r)).1.length (strs (someV (k :: r)).1)) ∧ Below w.heap.size w w' := fun D r' h v w' ho hb => by
    unfold someV
    rw [hsl, h]
    exact ⟨⟨_, rfl, ho⟩, hb⟩
  obtain ⟨n0, hn0⟩ := named k.toNat
  rw [← hn0.out] at hn255 hwk hno hyes
  obtain ⟨S, hS⟩ := named (str (k :: r))
  rw [← hS.out] at g1 g2 g3 g4 ⊢
  rw [g1] at g3
  obtain ⟨rv, hrv⟩ := named (someV (k :: r))
  obtain ⟨ov, hov⟩ := named (someT (k :: r)).isSome
  rw [← hrv.out, ← hov.out]
  simp only [← hrv.out, ← hov.out] at hno hyes
  have HNO := hide hno
  have HYES := hide hyes
  rw [hn0.out] at hwk
  clear hS hl hsl hno hyes hrv hov
  go_enter Try.func32, Try.ntmps32
  go_upto_region 7 with fail
  rw [show (k.toNat : Int) = (n0 : Int) by rw [hn0.out]]
  clear g1 g2 g3 g4 hwk hn0
  go_loopw [5, 7, 0] (fun v i s wr => ∃ (j : Nat) (D : List ByteArray) (q : List UInt8), i = .int .i64 (j : Int) ∧ j ≤ n0 ∧ s = .string (str q) ∧ Hid (tsteps j r = some (D, q)) ∧ wr.ownsRow w.heap.size 9 1 v D.length (strs D) ∧ Below w.heap.size w wr) (fun _ i _ _ => n0 - (intOf i).toNat)
  case atStart => exact ⟨0, [], r, rfl, by omega, rfl, hide rfl, own_nilT _ _ _ _, Below.refl _ _⟩
  case round =>
    obtain ⟨j, D, q, rfl, hjn, rfl, hst, hown, hb⟩ := hrel
    obtain ⟨A0, cc, rfl, _⟩ := Lies.of_own hown
    by_cases hj : j < n0
    · have hjI : (j : Int) < (n0 : Int) := by omega
      have hDl := Nat.le_of_eq (tsteps_yes hst.out).1
      have hql := (tsteps_yes hst.out).2
      have hone := refTaken_w (str q) wr (by rw [str_size]; omega)
      rw [str_data] at hone
      have hnx := fun h => tsteps_next hst.out h
      have hsp := fun h => tsteps_no (n := n0) (tsteps_stop hst.out h) hj
      obtain ⟨P, hP⟩ := named (tkL q)
      simp only [← hP.out] at hone hnx hsp
      clear hP
      obtain ⟨t1, q', po⟩ := P
      simp only at hone hnx hsp
      obtain ⟨tt, htt⟩ := named (str t1)
      simp only [← htt.out] at hone hnx
      clear htt
      have HNX := hide hnx
      have HSP := hide hsp
      clear hnx hsp
      go_wp2_with fail
      refine hone.mono ?_
      rintro e w2 ⟨rfl, hb2⟩
      have ho2 := own_below hown hb2
      have hb3 := bt hb hb2
      have ho4 := ho2
      have hb4 := hb3
      clear hone hown hb hb2 ho2 hb3
      go_upto_region 10 with fail
      have w4e : True := trivial
      cases po with
      | false =>
        have hfin := HNO.out (HSP.out rfl) w2 hb4
        clear HNX ho4 hb4 hi hz0 hz1 hz2
        go_wp2
        go_ret3
        exact hfin
      | true =>
        have HN := hide (HNX.out rfl)
        have hb9 := below_alloc w2 (.cells #[.string tt] 9)
        have ho9 := own_below ho4 hb9
        have hN9 := Blk.new w2 [.string tt] 9
        have hb5 := bt hb4 hb9
        have hs9 := hb5.size
        have hnews : ∀ j u, ([.string tt] : List Value)[j]? = some u → (w2.alloc (.cells #[.string tt] 9)).cell? ((⟨w2.heap.size, 0, none⟩ : Addr).add j) = some u := fun j u hj => by
          rw [addr_add, Nat.zero_add, hN9.cell]
          exact hj
        have hone : ∀ u ∈ ([.string tt] : List Value), u.oneCell' = true := by
          intro u hu; simp at hu; subst hu; rfl
        have HNW := hide hnews
        have HON := hide hone
        clear hnews hone HNX HSP ho4 hb4 hN9
        go_wp2_with (at_builtin; refine wpList_append_own _ rfl _ _ 40 rfl w.heap.size 9 i0 (.string ⟨#[]⟩) 1 16 Try.underlying40 hi hz0 hz1 hz2 rfl (by decide) _ _ _ rfl ho9 ⟨w2.heap.size, 0, none⟩ 1 1 [.string tt] rfl rfl HNW.out HON.out ?c3 ?c4 ?c5 ?_)
        case c3 => unfold maxLen; omega
        case c4 => omega
        case c5 => omega
        intro v' w10 hown' hgrow _
        have hown2 : w10.ownsRow w.heap.size 9 1 v' (D ++ [tt]).length (strs (D ++ [tt])) := by
          rw [strs_append, List.length_append]
          exact hown'
        have hb10 : Below w.heap.size w w10 := hb5.grown hgrow (by omega) (fun i e => (ho9.lt i e).1)
        clear HNW HON hb9 hb5 ho9 hgrow hown'
        go_wp2
        go_roundw
        case rel => exact ⟨j + 1, _, q', by first | rfl | go_num, by omega, rfl, HN, hown2, hb10⟩
        case measure => simp [intOf]; omega
    · obtain rfl : j = n0 := by omega
      have hfin := HYES.out D q hst.out _ wr hown hb
      clear hown hb hi hz0 hz1 hz2 hst HNO HYES
      go_wp2
      go_ret3
      exact hfin
end Go.Proofs.Ytiodfbbgbnbdpaa
