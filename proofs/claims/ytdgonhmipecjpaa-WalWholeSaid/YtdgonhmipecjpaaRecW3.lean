/- The law RecordTurned: the walk. -/
import Derived.Test.YtdgonhmipecjpaaGF
import Derived.Test.YtdgonhmipecjpaaGH
import Derived.Deep.DeepCutAuto
namespace Go.Proofs.Ytdgonhmipecjpaa
set_option linter.unusedSimpArgs false
set_option linter.unusedVariables false
open Go.RowKit Go.Shelf
open Crc
theorem own_none (w : World) (E : TypeId) : (w.alloc (.cells #[] E)).ownsRow w.heap.size E 1 (.slice (some ⟨w.heap.size, 0, none⟩) 0 0) 0 [] :=
  ⟨by simp, .inr ⟨w.heap.size, 0, #[], rfl, Nat.le_refl _, heap_alloc_new w _, Nat.le_refl _, by decide, by simp, by simp⟩⟩
theorem texts_set {w : World} {g k : Nat} {L : List ByteArray} (h : Texts w (some ⟨g, 0, none⟩) L) (hk : k < L.length) (t : ByteArray) : Texts (w.setCell ⟨g, k, none⟩ (.string t)) (some ⟨g, 0, none⟩) (L.set k t) := by
  refine ⟨by simp [strs], fun _ => ⟨g, 0, rfl, fun j u hu => ?_⟩⟩
  rw [Nat.zero_add]
  have hc : ∀ (i : Nat) (hi : i < L.length), w.cell? ⟨g, i, none⟩ = some (.string L[i]) := fun i hi => by
    obtain ⟨b, o, e, hc⟩ := Texts.at_ h hi
    cases e
    rw [Nat.zero_add] at hc
    exact hc
  rw [strs, List.getElem?_map] at hu
  by_cases hjk : j = k
  · subst hjk
    rw [List.getElem?_set_self hk] at hu
    cases hu
    exact World.cell?_setCell_same w _ _ (hc j hk)
  · rw [List.getElem?_set_ne (Ne.symm hjk)] at hu
    have hj : j < L.length := by
      rcases Nat.lt_or_ge j L.length with h' | h'
      · exact h'
      · rw [List.getElem?_eq_none h'] at hu; cases hu
    rw [List.getElem?_eq_getElem hj] at hu
    cases hu
    exact (World.cell?_setCell_other w ⟨g, k, none⟩ ⟨g, j, none⟩ _ (fun e => by have := congrArg Addr.off e; simp at this; omega)).trans (hc j hj)
theorem own_form {W : World} {base : Nat} {e : TypeId} {n : Nat} {v : Value} {xs : List Value} (h : W.ownsRow base e 1 v n xs) (hn : 0 < n) :
    ∃ g cap, v = .slice (some ⟨g, 0, none⟩) n cap ∧ base ≤ g ∧ n ≤ cap ∧ Lies W (some ⟨g, 0, none⟩) n 1 xs ∧ ∀ i, W.frozen? ⟨g, i, none⟩ = false := by
  obtain ⟨A, c, e1, e2, _, hl, _⟩ := Lies.of_own h
  rcases h.2 with ⟨_, h0⟩ | ⟨g, cap, cur, hv, hb, hh, hc, _⟩
  · omega
  · rw [e1] at hv
    cases hv
    refine ⟨g, c, e1, hb, e2, hl, fun i => ?_⟩
    unfold World.frozen?
    simp [hh]
set_option maxHeartbeats 4000000 in
set_option maxRecDepth 100000 in
theorem recordturned_w (kind : UInt8) (epoch seq : Nat) (p : ByteArray) (which bit : Int) (w : World) (he : epoch < 18446744073709551616) (hs : seq < 18446744073709551616)
    (hw : -9223372036854775808 ≤ which ∧ which ≤ 9223372036854775807) (hbt : -9223372036854775808 ≤ bit ∧ bit ≤ 9223372036854775807) :
    Calls Try.prog 8 #[.agg #[.int .u8 (kind.toNat : Int), .int .u64 (epoch : Int), .int .u64 (seq : Int), .string p], .int .i64 which, .int .i64 bit] w fun e w' => e = .returned (.bool true) ∧ Below w.heap.size w w' := by
  have k1 := Blk.new w [.int .u8 (kind.toNat : Int), .int .u64 (epoch : Int), .int .u64 (seq : Int), .string p] 24
  have b1 := below_alloc w (.cells #[.int .u8 (kind.toNat : Int), .int .u64 (epoch : Int), .int .u64 (seq : Int), .string p] 24)
  go_enter Try.func8, Try.ntmps8
  go_wp2_with fail
  refine (recLives_w _).mono ?_
  rintro e w2 ⟨rfl, hb2⟩
  replace k1 := k1.below hb2
  replace b1 := bt b1 hb2
  clear hb2
  have y := k1.cell
  go_wp2_with fail
  by_cases hc : frCheck ⟨kind, epoch, seq, p.data.toList⟩ = 0
  case neg =>
    have hno := recSectors_no kind epoch seq p w2 hc
    obtain ⟨why, hwhy⟩ := named (frCheck ⟨kind, epoch, seq, p.data.toList⟩)
    rw [← hwhy.out] at hno hc
    have hne : (why != 0) = true := by simp [hc]
    refine hno.mono ?_
    rintro e w3 ⟨rfl, hb3⟩
    clear hno hwhy hc y
    go_wp2
    go_ret
    exact ⟨rfl, bt b1 hb3⟩
  obtain ⟨hk, hp⟩ := frCheck_ok hc
  clear hc
  refine (recSectors_yes kind epoch seq p _ hk hp).mono ?_
  rintro e w3 ⟨⟨A, c, rfl, hcap, ht⟩, hb3⟩
  have b3 := bt b1 hb3
  have hfok : FrOk ⟨kind, epoch, seq, p.data.toList⟩ := ⟨hk, hp, he, hs⟩
  have hll : ((sectorsL ⟨kind, epoch, seq, p.data.toList⟩).map str).length = piecesN p.size + 1 := by rw [List.length_map, sectorsL_length]; rfl
  have hsz0 : ∀ k (hk : k < ((sectorsL ⟨kind, epoch, seq, p.data.toList⟩).map str).length), (((sectorsL ⟨kind, epoch, seq, p.data.toList⟩).map str)[k]).size = 64 := fun k hk => by
    rw [List.getElem_map, str_size]
    exact sectorsL_sizes _ _ (List.getElem_mem _)
  have hnh0 : ∀ k (hk : k + 1 < ((sectorsL ⟨kind, epoch, seq, p.data.toList⟩).map str).length), ¬ HeadOk (((sectorsL ⟨kind, epoch, seq, p.data.toList⟩).map str)[k + 1]).data.toList := fun k hk => by
    have e : ((sectorsL ⟨kind, epoch, seq, p.data.toList⟩).map str)[k + 1] = str (pieceL p.data.toList k) := by simp [sectorsL]
    rw [e]
    exact piece_noHead _ _
  have htn0 : ∀ (k b : Nat) (hk : k < ((sectorsL ⟨kind, epoch, seq, p.data.toList⟩).map str).length), b / 8 < 64 → NoFrame (((sectorsL ⟨kind, epoch, seq, p.data.toList⟩).map str).set k (str (flipL (((sectorsL ⟨kind, epoch, seq, p.data.toList⟩).map str)[k]).data.toList b))) := fun k b hk hb => by
    have hk' : k < (sectorsL ⟨kind, epoch, seq, p.data.toList⟩).length := by simpa using hk
    have := turned_no _ hfok k b hk' hb
    have e : ((sectorsL ⟨kind, epoch, seq, p.data.toList⟩).modify k fun x => flipL x b).map str = ((sectorsL ⟨kind, epoch, seq, p.data.toList⟩).map str).set k (str (flipL (((sectorsL ⟨kind, epoch, seq, p.data.toList⟩).map str)[k]).data.toList b)) := by
      rw [List.getElem_map, str_data, ← List.map_set]
      congr 1
      apply List.ext_getElem?
      intro j
      rw [List.getElem?_modify, List.getElem?_set]
      by_cases hkj : k = j
      · subst hkj
        simp [hk']
      · simp [hkj]
    rw [e] at this
    exact this
  obtain ⟨np, hnp⟩ := named (piecesN p.size)
  have hnp9 : np ≤ 269 := by rw [hnp.out]; unfold piecesN; omega
  rw [← hnp.out] at hcap hll ⊢
  obtain ⟨L, hll, ht, hsz, hnh, htn⟩ : ∃ L : List ByteArray, L.length = np + 1 ∧ Texts w3 A L ∧ (∀ k (hk : k < L.length), L[k].size = 64) ∧ (∀ k (hk : k + 1 < L.length), ¬ HeadOk L[k + 1].data.toList) ∧
      (∀ (k b : Nat) (hk : k < L.length), b / 8 < 64 → NoFrame (L.set k (str (flipL L[k].data.toList b)))) := ⟨_, hll, ht, hsz0, hnh0, htn0⟩
  clear hsz0 hnh0 htn0 hnp hfok hk y k1 b1 hb3 hp
  obtain ⟨ab, ao, rfl, _⟩ := Texts.at_ ht (k := 0) (by omega)
  go_wp2_with fail
  all_goals
    go_loopw [33] (fun i wr => ∃ k : Nat, k ≤ np ∧ i = .int .i64 k ∧ Below w3.heap.size w3 wr) (fun i _ => np - (intOf i).toNat)
    case atStart => exact ⟨0, by omega, rfl, Below.refl _ _⟩
    case round =>
      obtain ⟨k, hk, rfl, hbw⟩ := hrel
      have htw := Texts.below ht hbw
      by_cases hlt : k < np
      · obtain ⟨b', o', e', hcx⟩ := Texts.at_ htw (k := k + 1) (by omega)
        cases e'
        have hcell : wr.cell? ⟨ab, ao + 1 + k, none⟩ = some (.string (L[k + 1]'(by omega))) := by
          rw [show ao + 1 + k = ao + (k + 1) by omega]
          exact hcx
        have hnk := hnh k (by omega)
        obtain ⟨x, Hx⟩ := named (L[k + 1]'(by omega))
        rw [← Hx.out] at hcell hnk
        first
          | (exfalso; omega)
          | (clear hcx
             have hrec := recHead_no x wr hnk
             unfold zeroHead at hrec
             go_wp2_with fail
             refine hrec.mono ?_
             rintro e w5 ⟨rfl, hb5⟩
             clear hcell hrec
             go_wp2
             go_roundw
             case rel => exact ⟨k + 1, by omega, by go_num, (bt hbw hb5).alloc (bt hbw hb5).size _⟩
             case measure => simp [intOf]; omega)
      · obtain rfl : k = np := by omega
        clear hnh
        have hb4 := bt b3 hbw
        have h' : which < 0 ∨ (0 ≤ which ∧ (k : Int) + 1 ≤ which) ∨ (0 ≤ which ∧ which < (k : Int) + 1) := by omega
        rcases h' with h' | ⟨h0, h'⟩ | ⟨h0, h'⟩
        · have h1 : decide (which < 0) = true := decide_eq_true h'
          go_wp2
          go_ret
          exact ⟨rfl, hb4⟩
        · have h1 : decide (which < 0) = false := decide_eq_false (by omega)
          go_wp2
          go_ret
          exact ⟨rfl, hb4⟩
        · obtain ⟨q, rfl⟩ := Int.eq_ofNat_of_zero_le h0
          have h1 : decide ((q : Int) < 0) = false := decide_eq_false (by omega)
          obtain ⟨b', o', e', hcq⟩ := Texts.at_ htw (k := q) (by omega)
          cases e'
          have hs64 := hsz q (by omega)
          have htnq := fun b hb => htn q b (by omega) hb
          obtain ⟨x, Hx⟩ := named (L[q]'(by omega))
          rw [← Hx.out] at hcq hs64
          simp only [← Hx.out] at htnq
          by_cases hbit : 0 ≤ bit ∧ bit < 512
          case neg =>
            have hfl := flip_no x bit wr (by omega) hbt (by rw [hs64]; omega)
            clear hsz htn hs64
            go_wp2_with fail
            refine hfl.mono ?_
            rintro e w6 ⟨rfl, rfl⟩
            go_wp2
            go_ret
            exact ⟨rfl, hb4⟩
          obtain ⟨bn, rfl⟩ := Int.eq_ofNat_of_zero_le hbit.1
          have hb8 : bn / 8 < 64 := by omega
          have hfl := flip_yes x bn wr (by omega) (by rw [hs64]; exact hb8)
          have hNF := htnq bn hb8
          obtain ⟨x', Hx'⟩ := named (str (flipL x.data.toList bn))
          rw [← Hx'.out] at hfl hNF
          clear hsz htn htnq hs64 hbit
          go_wp2_with fail
          refine hfl.mono ?_
          rintro e w6 ⟨rfl, hb6⟩
          have hb7 := bt hb4 hb6
          have ht7 := Texts.below htw hb6
          clear hfl hcq
          obtain ⟨j0, hj, hy0, hy1, hy2⟩ := info_parts Try.info9
          go_upto_region 19 with (first
            | (at_builtin
               refine wpList_append_any _ rfl (.tmp 64) (.tmp 65) _ rfl w6.heap.size 9 j0 _ 1 16 Try.underlying25 hj hy0 hy1 hy2 rfl (by omega) (.slice (some ⟨w6.heap.size, 0, none⟩) 0 0) 0 [] rfl
                 (own_none w6 _) (some ⟨ab, ao, none⟩) (k + 1) _ (strs L) rfl (by have := Lies.alloc ht7 (.cells #[] 9); rw [hll] at this; exact this) (strs_one _) (by simp only [maxLen]; omega) (by omega) (by simp) ?_
               intro v1 Wa own1 hg1 hat1))
          have hbA : Below w6.heap.size w6 Wa := ((Below.refl _ _).alloc (Nat.le_refl _) _).grown hg1 (by simp) (by simp [Value.ownBlock])
          rw [Nat.zero_add, List.nil_append] at own1
          obtain ⟨g, cap, rfl, hg, hcg, hlg, hfz⟩ := own_form own1 (by omega)
          have htg : Texts Wa (some ⟨g, 0, none⟩) L := by unfold Texts; rw [hll]; exact hlg
          have hbB := bt hb7 hbA
          have hts := texts_set htg (k := q) (by omega) x'
          have hbC := hbB.setCell (p := ⟨g, q, none⟩) (by show w.heap.size ≤ g; have := hb7.size; omega) (.string x')
          obtain ⟨b', o', e', hcq⟩ := Texts.at_ htg (k := q) (by omega)
          cases e'
          rw [Nat.zero_add] at hcq
          have hfq := hfz q
          have hq1 : (0 : Int) ≤ (q : Int) := by omega
          have hq2 : (q : Int) < (k : Int) + 1 := by omega
          clear hg1 hat1 own1 hlg hfz htg hbA
          go_wp2_with fail
          have hjn := join_no (some ⟨g, 0, none⟩) cap (k + 1) (L.set q x') _ hNF (by rw [List.length_set, hll]) (by rw [List.length_set]; omega) hcg hts
          unfold zeroFrame at hjn
          refine hjn.mono ?_
          rintro e w8 ⟨rfl, hb8⟩
          clear hjn hcq hfq
          go_wp2
          go_ret
          exact ⟨rfl, (bt hbC hb8).alloc (bt hbC hb8).size _⟩
end Go.Proofs.Ytdgonhmipecjpaa
