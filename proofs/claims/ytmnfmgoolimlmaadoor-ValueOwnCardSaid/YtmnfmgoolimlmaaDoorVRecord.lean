/- value.Record at any names and any values. -/
import Derived.Test.YtmnfmgoolimlmaaDoorVMap
import Derived.Test.YtmnfmgoolimlmaaDoorVSize
import Derived.StringKeys
import Derived.Test.YtmnfmgoolimlmaaDoorVSame
namespace Go.Proofs.YtmnfmgoolimlmaaDoor
set_option linter.unusedSimpArgs false
set_option linter.unusedVariables false
open Go.RowKit Go.Maps
/-- What Check says of a tree. -/
def checkT (x : Vt) : Int := chk (sizeT x).1 (sizeT x).2.1 (sizeT x).2.2
theorem check_n (x : Vt) (bx : Nat) (r : List Value) (w : World) (hx : VAt w bx x r) (htab : Tb w) :
    Calls Tryd.prog 20 #[.agg r.toArray] w fun e w' => e = .returned (.int .i64 (checkT x)) ∧ Below w.heap.size w w' :=
  check_of r (vAt_len hx) _ _ _ w fun W hW => size_n x.ht x (Nat.le_refl _) bx r W (hx.below hW) (htab.below hW)
theorem zip_take_snoc {ns : List ByteArray} {vs : List Value} {k : Nat} {x : ByteArray} {v : Value} (hx : ns[k]? = some x) (hv : vs[k]? = some v) : (ns.zip vs).take (k + 1) = (ns.zip vs).take k ++ [(x, v)] := by
  have h : (ns.zip vs)[k]? = some (x, v) := by rw [List.getElem?_zip_eq_some]; exact ⟨hx, hv⟩
  obtain ⟨hk, e⟩ := List.getElem?_eq_some_iff.1 h
  rw [List.take_succ_eq_append_getElem hk, e]
theorem grown_setRow (w : World) (g : Nat) (cs : Array Value) : w.grownBy (w.setRow g cs) (some g) := ⟨rfl, rfl, rfl, by simp [World.setRow], fun i _ hi => vrow_far w g i _ (fun e => hi (by rw [e]))⟩
theorem ownsMap_below {w w' : World} {P : Program} {k : TypeId} {b n : Nat} {D : DataW Value} (h : w.ownsMap P k heldE b n D) (hb : Below w.heap.size w w') : w'.ownsMap P k heldE b n D := by
  have hlt := h.lt
  obtain ⟨es, clock, h1, h2⟩ := h
  exact ⟨es, clock, (hb.block b hlt).trans h1, h2⟩
theorem lies_grown {w w' : World} {row : Option Nat} {A : Option Addr} {n size : Nat} {xs : List Value} (h : Lies w A n size xs) (hg : w.grownBy w' row) (hA : ∀ a, A = some a → some a.block ≠ row) : Lies w' A n size xs := by
  refine ⟨h.1, fun hn => ?_⟩
  obtain ⟨b, o, e, hc⟩ := h.2 hn
  exact ⟨b, o, e, fun j v hj => hg.cell (hc j v hj) (show some b ≠ row from hA ⟨b, o, none⟩ e)⟩
/-- Where a name stands. -/
def idxN (ns : List ByteArray) (x : ByteArray) : Nat := (Lib.idxOfS ns x).toNat
theorem idxN_at {ns : List ByteArray} {x : ByteArray} (hx : x ∈ ns) : ns[idxN ns x]? = some x := by
  unfold idxN
  rcases idx_cases ns x with ⟨h, -⟩ | ⟨k, hk, h1, h2⟩
  · exact absurd hx h
  · rw [h2, Int.toNat_natCast]
    exact h1
set_option maxRecDepth 100000 in
set_option maxHeartbeats 2000000 in
theorem record_w (ns : List ByteArray) (l : List Vt) (A B : Option Addr) (ca cb bx : Nat) (rows : List (List Value)) (w : World) (hT : Texts w A ns) (hnz : ∀ x ∈ ns, x.size ≤ mLen) (hns : ns.length * 16 ≤ mLen)
    (hL : Lies w B l.length 7 rows.flatten) (hV : VsAt w bx l rows) (hls : l.length * 96 ≤ mLen) (htab : Tb w) :
    Calls Tryd.prog 17 #[.slice A ns.length ca, .slice B l.length cb] w fun e w' => Below w.heap.size w w' ∧
      ((∃ why, why ≠ 0 ∧ e = .returned (.tuple #[.agg zeroRow.toArray, .int .i64 why])) ∨
       (ns.Nodup ∧ ns.length = l.length ∧ ∃ (ms : List ByteArray) (l' : List Vt) (r' : List Value), ms.Perm ns ∧ l'.length = l.length ∧ (∀ (k : Nat) x, ms[k]? = some x → ∃ i : Nat, ns[i]? = some x ∧ l'[k]? = l[i]?) ∧
         checkT (.mk 5 false 0 ⟨#[]⟩ ⟨#[]⟩ ms l') = 0 ∧ VAt w' w.heap.size (.mk 5 false 0 ⟨#[]⟩ ⟨#[]⟩ ms l') r' ∧ (∃ N v5, r' = vRow 5 false 0 ⟨#[]⟩ ⟨#[]⟩ N v5 ∧ OwnAt w' (w.heap.size + 1) v5 l') ∧ e = .returned (.tuple #[.agg r'.toArray, .int .i64 0]))) := by
  obtain ⟨i0, hi, hz0, hz1, hz2⟩ := info_parts Tryd.infoV
  have hns16 : ns.length * 16 ≤ 140737488351232 := hns
  have hls96 : l.length * 96 ≤ 140737488351232 := hls
  have k4 := Blk.new w zeroRow 37
  have b4 := below_alloc w (.cells zeroRow.toArray 37)
  have s4 : (w.alloc (.cells zeroRow.toArray 37)).heap.size = w.heap.size + 1 := Array.size_push _
  obtain ⟨W, HW⟩ := named (w.alloc (.cells zeroRow.toArray 37))
  have HW2 : W = w.alloc (.cells #[.int .u8 0, .bool false, .int .i64 0, .string ⟨#[]⟩, .string ⟨#[]⟩, .slice none 0 0, .slice none 0 0] 37) := HW.out
  have HW3 := hide HW2
  clear HW2
  have hmm := @run_makeMap Tryd.prog
  have HT := hide hT
  have HL := hide hL
  have HV := hide hV
  have HNZ := hide hnz
  have HTAB := hide htab
  have HNS := hide hns
  have HLS := hide hls
  clear hT hL hV hnz htab hns hls
  go_enter Tryd.func17, Tryd.ntmps17
  go_upto_region 1 with (go_quiet (fail))
  rw [← HW3.out]
  rw [← HW.out] at k4 b4 s4
  clear HW HW3
  by_cases hln : ns.length = l.length
  · have hbl : ((ns.length : Int) == (l.length : Int)) = true := by simp [hln]
    obtain ⟨M, hM⟩ := named l.length
    obtain ⟨N, hN⟩ := named ns.length
    have hNM : N = M := by rw [hN.out, hM.out]; exact hln
    rw [← hN.out, ← hM.out] at hbl
    rw [← hN.out] at hns16 ⊢
    rw [← hM.out] at hls96 ⊢
    have HNM := hide hNM
    clear hln hNM
    go_wp2_with (first | (at_builtin; fail))
    clear hbl hmm
    have hmap0 := World.ownsMap_made W Tryd.prog 9 heldE
    have k4a := k4.alloc (.map #[] 0)
    have b4a := bt b4 (below_alloc W (.map #[] 0))
    rw [s4] at hmap0
    obtain ⟨W1, HW1⟩ := named (W.alloc (.map #[] 0))
    rw [← HW1.out] at hmap0 k4a b4a ⊢
    clear HW1
    have K4 := hide k4a
    have B4 := hide b4a
    have M0 := hide hmap0
    clear k4 b4 k4a b4a hmap0
    go_loopw [21] (fun i wr => ∃ k : Nat, k ≤ N ∧ i = .int .i64 k ∧ wr.ownsMap Tryd.prog 9 heldE (w.heap.size + 1) k (recD ((ns.zip (rows.map fun r => Value.agg r.toArray)).take k)) ∧ Blk wr w.heap.size zeroRow 37 ∧ Below w.heap.size w wr) (fun i _ => N - (intOf i).toNat)
    case atStart => exact ⟨0, by omega, rfl, M0.out, K4.out, B4.out⟩
    case round =>
      obtain ⟨k, hk, rfl, hown, k4, hbw⟩ := hrel
      by_cases hlt : k < N
      · have hi0 : (0 : Int) ≤ (k : Int) := by omega
        have hi1 : (k : Int) < (N : Int) := by omega
        have hkn : k < ns.length := by rw [← hN.out]; exact hlt
        have hkl : k < l.length := by rw [← hM.out, ← HNM.out]; exact hlt
        obtain ⟨x, hx⟩ : ∃ x, ns[k]? = some x := ⟨_, List.getElem?_eq_getElem hkn⟩
        obtain ⟨y, hy⟩ : ∃ y, l[k]? = some y := ⟨_, List.getElem?_eq_getElem hkl⟩
        obtain ⟨r, hr, hvr⟩ := vsAt_get HV.out k y hy
        obtain ⟨ba, oa, rfl⟩ := texts_open HT.out hkn
        have hL2 := HL.out
        obtain ⟨bb, ob, rfl, -⟩ := hL2.2 (fun h0 => by
          have h9 := (vsAt_len HV.out).2
          rw [h0] at h9
          simp only [List.length_nil] at h9
          omega)
        have xa := cell_below' (texts_cell HT.out hx) hbw
        have hload0 := cells_of_lies hL2 (vsAt_all7 HV.out) hr
        have hxs : x.size ≤ maxLen := Nat.le_trans (HNZ.out x (List.mem_of_getElem? hx)) (by decide)
        have hkey := Go.WideMaps.keyOf_string_mk Tryd.underlying9 hxs
        obtain ⟨kk, bo, nn, ss, tt, mm, pp⟩ := y
        rw [VAt] at hvr
        obtain ⟨A1, c1, B1, d1, -, rfl, -⟩ := hvr
        have hload := fun j v hj => hload0 wr hbw j v hj
        have l0 : wr.cell? ⟨bb, ob + k * 7, none⟩ = some (.int .u8 (kk : Int)) := hload 0 _ rfl
        have l1 : wr.cell? ⟨bb, ob + k * 7 + 1, none⟩ = some (.bool bo) := hload 1 _ rfl
        have l2 : wr.cell? ⟨bb, ob + k * 7 + 2, none⟩ = some (.int .i64 nn) := hload 2 _ rfl
        have l3 : wr.cell? ⟨bb, ob + k * 7 + 3, none⟩ = some (.string ss) := hload 3 _ rfl
        have l4 : wr.cell? ⟨bb, ob + k * 7 + 4, none⟩ = some (.string tt) := hload 4 _ rfl
        have l5 : wr.cell? ⟨bb, ob + k * 7 + 5, none⟩ = some (.slice A1 mm.length c1) := hload 5 _ rfl
        have l6 : wr.cell? ⟨bb, ob + k * 7 + 6, none⟩ = some (.slice B1 pp.length d1) := hload 6 _ rfl
        have hkM : (k : Int) < (M : Int) := by have := HNM.out; omega
        have hz := zip_take_snoc hx (show (rows.map fun r => Value.agg r.toArray)[k]? = some (.agg #[.int .u8 (kk : Int), .bool bo, .int .i64 nn, .string ss, .string tt, .slice A1 mm.length c1, .slice B1 pp.length d1]) from by rw [List.getElem?_map, hr]; rfl)
        obtain ⟨D, hD⟩ := named (recD ((ns.zip (rows.map fun r => Value.agg r.toArray)).take k))
        rw [← hD.out] at hown
        have hD2 : Hid (recD ((ns.zip (rows.map fun r => Value.agg r.toArray)).take (k + 1)) = D.put (kS x) (.held (.agg #[.int .u8 (kk : Int), .bool bo, .int .i64 nn, .string ss, .string tt, .slice A1 mm.length c1, .slice B1 pp.length d1]))) := by
          rw [hD.out]
          show recD _ = _
          rw [hz, recD_snoc]
        have K4' := hide k4
        clear hload hload0 hL2 hr hx hy hz hD k4
        go_wp2_with (first
          | (at_builtin; fail)
          | (at_mapUpdate
             refine wpList_mapUpdate_own _ rfl _ _ _ 62 rfl 9 37 lawS Tryd.underlying62 heldE (w.heap.size + 1) k D rfl hown (by unfold maxLen; omega) _ _ (kS x) rfl rfl hkey _ [] rfl ?_
             intro w1 hown1 hgrow1; go_frame))
        go_roundw
        case rel => exact ⟨k + 1, by omega, by go_num, by rw [hD2.out]; exact hown1, (hgrow1.block w.heap.size K4'.out.lt (fun e => by have := Option.some.inj e; omega)).trans K4'.out, hbw.grown hgrow1 hbw.size (fun j hj => by have := Option.some.inj hj; omega)⟩
        case measure => simp [intOf]; omega
      · have hi1 : ¬ (k : Int) < (N : Int) := by omega
        obtain rfl : k = N := by omega
        have hrl : rows.length = l.length := (vsAt_len HV.out).1
        have hvl : (rows.map fun r => Value.agg r.toArray).length = ns.length := by rw [List.length_map, hrl, ← hM.out, ← HNM.out, hN.out]
        rw [List.take_of_length_le (by rw [List.length_zip, hvl, Nat.min_self, hN.out]; exact Nat.le_refl _)] at hown
        obtain ⟨PS, hPS⟩ := named (ns.zip (rows.map fun r => Value.agg r.toArray))
        rw [← hPS.out] at hown
        have hfst : PS.map Prod.fst = ns := by rw [hPS.out]; exact List.map_fst_zip (by omega)
        have hpl : PS.length = k := by rw [← List.length_map (f := Prod.fst), hfst, hN.out]
        obtain ⟨hz1', hz2'⟩ := recD_size PS
        rw [hfst, hpl] at hz2'
        rw [hpl] at hz1'
        obtain ⟨D, hD⟩ := named (recD PS)
        rw [← hD.out] at hown hz1' hz2'
        have HPL := hide hpl
        have HF := hide hfst
        have HVL := hide hvl
        have HRL := hide hrl
        clear hpl hfst hvl hrl hlt hi1 hk
        by_cases hzn : Maps.size D = k
        · have hnd := hz2'.1 hzn
          obtain ⟨Z, hZ⟩ := named (Maps.size D)
          have hZk : ¬ (Z : Int) < (k : Int) := by rw [hZ.out, hzn]; omega
          have HZ := hide hzn
          clear hz1' hz2' hzn
          have hcl := cloneSL_w A ca ns wr (HT.out.below hbw) (by rw [← hN.out]; exact hns16)
          rw [← hN.out] at hcl
          have HZ2 := hide hZ.out.symm
          clear hZ
          have hzz := HZ2.out
          go_wp2_with (first
            | (at_len; refine wpList_len_own _ rfl _ 62 rfl 9 37 Tryd.underlying62 _ (w.heap.size + 1) k D rfl hown ?_)
            | (at_builtin; fail))
          refine hcl.mono ?_
          rintro e w1 ⟨v1, rfl, hown1, hb1⟩
          have HO1 := hide hown1
          have hlt1 := own_lt hown1
          obtain ⟨A1, c1, rfl, hc1, -, -, hA1⟩ := Lies.of_own hown1
          have hA1u : ∀ a, A1 = some a → a.block < w1.heap.size := fun a ha => hlt1 _ (by rw [ha]; rfl)
          clear hown1 hlt1 hcl HZ HZ2 hzz hZk
          have hmb : w.heap.size + 1 < wr.heap.size := hown.lt
          have hbw1 := bt hbw hb1
          have hw1r : wr.heap.size ≤ w1.heap.size := hb1.size
          have k9 := Blk.new w1 zeroRow 37
          have b9 := below_vrow (below_alloc w1 (.cells zeroRow.toArray 37)) (Nat.le_refl _) (vRow 5 false 0 ⟨#[]⟩ ⟨#[]⟩ (.slice A1 k c1) (.slice none 0 0)).toArray
          have hone9 : ∀ v ∈ vRow 5 false 0 ⟨#[]⟩ ⟨#[]⟩ (.slice A1 k c1) (.slice none 0 0), v.oneCell' = true := by
            intro v hv
            simp only [vRow, List.mem_cons, List.not_mem_nil, or_false] at hv
            rcases hv with rfl | rfl | rfl | rfl | rfl | rfl | rfl <;> rfl
          go_upto_region 12 with (first
            | refine wpList_store_row rfl 37 _ _ rfl _ (vRow 5 false 0 ⟨#[]⟩ ⟨#[]⟩ (.slice A1 k c1) (.slice none 0 0)).toArray rfl rfl 37 zeroRow.toArray k9 (kV7 rfl) rfl (all_one hone9) ?_
            | (at_builtin; fail))
          replace k9 := k9.vrow (vRow 5 false 0 ⟨#[]⟩ ⟨#[]⟩ (.slice A1 k c1) (.slice none 0 0))
          have hown2 := ownsMap_below (ownsMap_below hown hb1) b9
          have ho2 := own_below HO1.out b9
          have k42 := (k4.below hb1).below b9
          have hbw2 := bt hbw1 b9
          obtain ⟨W2, HW2⟩ := named ((w1.alloc (.cells zeroRow.toArray 37)).setRow w1.heap.size (vRow 5 false 0 ⟨#[]⟩ ⟨#[]⟩ (.slice A1 k c1) (.slice none 0 0)).toArray)
          have HW4 : (w1.alloc (.cells #[.int .u8 0, .bool false, .int .i64 0, .string ⟨#[]⟩, .string ⟨#[]⟩, .slice none 0 0, .slice none 0 0] 37)).setRow w1.heap.size (vRow 5 false 0 ⟨#[]⟩ ⟨#[]⟩ (.slice A1 k c1) (.slice none 0 0)).toArray = W2 := HW2.out.symm
          have HW5 := hide HW4
          clear HW4
          rw [← HW2.out] at k9 hown2 ho2 k42 hbw2 b9
          rw [HW5.out]
          have b9s := b9.size
          have hk9lt := k9.lt
          clear HW2 HW5 b9 hone9
          have x5 : W2.cell? ⟨w1.heap.size, 5, none⟩ = some (.slice A1 k c1) := k9.cell 5
          rw [hN.out] at ho2
          have hsort := sort_w _ _ ns W2 ho2 (by rw [← hN.out]; omega)
          rw [← hN.out] at hsort
          go_wp2_with fail
          refine hsort.mono ?_
          rintro e w3 ⟨rfl, ms, hperm, ho3, hg3⟩
          clear hsort x5
          have hob : ∀ j, (Value.slice A1 k c1).ownBlock = some j → wr.heap.size ≤ j ∧ j < w1.heap.size := by
            intro j hj
            rcases A1 with _ | a1
            · cases hj
            · have e := Option.some.inj (show some a1.block = some j from hj)
              rw [← e]
              exact ⟨hA1 a1 rfl, hA1u a1 rfl⟩
          have hne : ∀ b, (b < wr.heap.size ∨ w1.heap.size ≤ b) → some b ≠ (Value.slice A1 k c1).ownBlock := fun b hb e => by have := hob b e.symm; omega
          have k93 : Blk w3 w1.heap.size (vRow 5 false 0 ⟨#[]⟩ ⟨#[]⟩ (.slice A1 k c1) (.slice none 0 0)) 37 := (hg3.block _ hk9lt (hne _ (.inr (Nat.le_refl _)))).trans k9
          have k43 : Blk w3 w.heap.size zeroRow 37 := (hg3.block _ k42.lt (hne _ (.inl (by omega)))).trans k42
          have hown3 : w3.ownsMap Tryd.prog 9 heldE (w.heap.size + 1) k D := hown2.kept hg3 (hne _ (.inl hmb))
          have hbw3 := hbw2.grown hg3 hbw2.size (fun j hj => by have := hob j hj; have := hbw.size; omega)
          have hl3 : Lies w3 A1 k 1 (strs ms) := by
            obtain ⟨A', c', e, -, -, hl, -⟩ := Lies.of_own ho3
            cases e
            exact hl
          have hw3s : w1.heap.size < w3.heap.size := k93.lt
          have K93 := hide k93
          have K43 := hide k43
          have M3 := hide hown3
          have B3 := hide hbw3
          have L3 := hide hl3
          have x5 : w3.cell? ⟨w1.heap.size, 5, none⟩ = some (.slice A1 k c1) := k93.cell 5
          have hml : ms.length = k := by rw [hperm.length_eq, ← hN.out]
          have HML := hide hml
          have HPE := hide hperm
          have HND := hide hnd
          clear hg3 ho3 ho2 k9 k42 hown2 hbw2 k93 k43 hown3 hbw3 hl3 hml hperm hnd
          go_wp2_with (first | (at_builtin; fail))
          clear x5
          have hz0' : zeroRow.toArray = #[.int .u8 0, .bool false, .int .i64 0, .string ⟨#[]⟩, .string ⟨#[]⟩, .slice none 0 0, .slice none 0 0] := rfl
          go_loopw [48] (fun i wq => ∃ (j : Nat) (v9 : Value), j ≤ k ∧ i = .int .i64 j ∧ Blk wq w1.heap.size (vRow 5 false 0 ⟨#[]⟩ ⟨#[]⟩ (.slice A1 k c1) v9) 37 ∧ wq.ownsRow (w1.heap.size + 1) 37 7 v9 j ((ms.take j).map fun x => rows.getD (idxN ns x) []).flatten ∧
            wq.ownsMap Tryd.prog 9 heldE (w.heap.size + 1) k D ∧ Blk wq w.heap.size zeroRow 37 ∧ Lies wq A1 k 1 (strs ms) ∧ Below w.heap.size w wq) (fun i _ => k - (intOf i).toNat)
          case atStart => exact ⟨0, .slice none 0 0, by omega, rfl, K93.out, by rw [List.take_zero]; exact World.ownsRow_nil _ _ _ _, M3.out, K43.out, L3.out, B3.out⟩
          case round =>
            clear K93 K43 M3 B3 L3 hown k4 hbw hb1
            obtain ⟨j, v9, hj, rfl, k9, ho9, hown, k4, hlm, hbq⟩ := hrel
            by_cases hlt : j < k
            · have hi0 : (0 : Int) ≤ (j : Int) := by omega
              have hi1 : (j : Int) < (k : Int) := by omega
              have hjm : j < ms.length := by rw [HML.out]; exact hlt
              obtain ⟨x, hx⟩ : ∃ x, ms[j]? = some x := ⟨_, List.getElem?_eq_getElem hjm⟩
              have hxn : x ∈ ns := HPE.out.mem_iff.1 (List.mem_of_getElem? hx)
              have hxi := idxN_at hxn
              have hil : idxN ns x < l.length := by
                have := (List.getElem?_eq_some_iff.1 hxi).1
                rw [← hM.out, ← HNM.out, hN.out]
                exact this
              obtain ⟨y, hy⟩ : ∃ y, l[idxN ns x]? = some y := ⟨_, List.getElem?_eq_getElem hil⟩
              obtain ⟨r, hr, hvr⟩ := vsAt_get HV.out _ y hy
              have hone := vAt_one hvr
              have hmem : (x, Value.agg r.toArray) ∈ PS := by
                refine List.mem_of_getElem? (i := idxN ns x) ?_
                rw [hPS.out, List.getElem?_zip_eq_some]
                exact ⟨hxi, by rw [List.getElem?_map, hr]; rfl⟩
              have hxs : x.size ≤ maxLen := Nat.le_trans (HNZ.out x hxn) (by decide)
              have hkey := Go.WideMaps.keyOf_string_mk Tryd.underlying9 hxs
              have hzv : (zeroValue 37).run Tryd.prog wr = .ok (.agg #[.int .u8 0, .bool false, .int .i64 0, .string ⟨#[]⟩, .string ⟨#[]⟩, .slice none 0 0, .slice none 0 0]) wr := by kernel_rfl
              obtain ⟨vv, ps, hrun, hvv⟩ := hown.lookup lawS Tryd.underlying62 hzv (zd := .held (.agg #[.int .u8 0, .bool false, .int .i64 0, .string ⟨#[]⟩, .string ⟨#[]⟩, .slice none 0 0, .slice none 0 0])) (zp := []) rfl hkey
              have hat : D.atKey (kS x) (.held (.agg #[.int .u8 0, .bool false, .int .i64 0, .string ⟨#[]⟩, .string ⟨#[]⟩, .slice none 0 0, .slice none 0 0])) = .held (.agg r.toArray) := by
                rw [hD.out]
                exact recD_at x _ _ PS (by rw [HF.out]; exact HND.out) hmem
              have hve : vv = .agg r.toArray := by
                unfold heldE at hvv
                have e1 := congrArg Prod.fst (Option.some.inj hvv)
                have e2 : (DataW.held vv : DataW Value) = .held (.agg r.toArray) := e1.trans hat
                injection e2
              subst hve
              clear hvv hat hmem hzv hkey
              have hrd : rows.getD (idxN ns x) [] = r := by rw [List.getD_eq_getElem?_getD, hr]; rfl
              obtain ⟨kk, bo, nn, ss, tt, mm, pp⟩ := y
              rw [VAt] at hvr
              obtain ⟨A2, c2, B2, d2, -, rfl, -⟩ := hvr
              obtain ⟨bn, on, rfl, hcn⟩ := hlm.2 (by intro h0; have := strs_length ms; rw [h0] at this; simp at this; omega)
              have xa := hcn j (.string x) (by rw [strs, List.getElem?_map, hx]; rfl)
              have x6 : wr.cell? ⟨w1.heap.size, 6, none⟩ = some v9 := k9.cell 6
              have hrow : Value.agg (vRow kk bo nn ss tt (.slice A2 mm.length c2) (.slice B2 pp.length d2)).toArray = .agg #[.int .u8 (kk : Int), .bool bo, .int .i64 nn, .string ss, .string tt, .slice A2 mm.length c2, .slice B2 pp.length d2] := rfl
              rw [hrow] at hrun
              have hlies := lies_rows (Blk.new wr (vRow kk bo nn ss tt (.slice A2 mm.length c2) (.slice B2 pp.length d2)) 37) (rows := [vRow kk bo nn ss tt (.slice A2 mm.length c2) (.slice B2 pp.length d2)]) (by intro r hr; rw [List.mem_singleton.1 hr]; rfl) (fun q r i v hq hi => by
                cases q with
                | zero => simp only [List.getElem?_cons_zero, Option.some.injEq] at hq; subst hq; rw [Nat.zero_mul, Nat.zero_add]; exact hi
                | succ q => cases hq)
              obtain ⟨XS, hXS⟩ := named ((ms.take j).map fun x => rows.getD (idxN ns x) []).flatten
              rw [← hXS.out] at ho9
              have hoa := ho9.alloc (.cells (vRow kk bo nn ss tt (.slice A2 mm.length c2) (.slice B2 pp.length d2)).toArray 37)
              have hba := below_alloc wr (.cells (vRow kk bo nn ss tt (.slice A2 mm.length c2) (.slice B2 pp.length d2)).toArray 37)
              have hk9lt := k9.lt
              have HX := hide hx
              have HK9 := hide k9
              have HOWN := hide hown
              have HK4 := hide k4
              have HLM := hide hlm
              have HBQ := hide hbq
              have HO9 := hide ho9
              have HRD := hide hrd
              have hkM : k * 96 ≤ 140737488351232 := by have := HNM.out; omega
              clear hx k9 hown k4 hlm hbq ho9 hrd hrow hcn hr hy hxi hil hxn
              go_wp2_with (first
                | (at_builtin
                   refine wpList_append_any _ rfl (.tmp 53) (.tmp 57) _ rfl (w1.heap.size + 1) 37 i0 _ 7 96 Tryd.underlying33 hi hz0 hz1 hz2 rfl (by omega) v9 j XS rfl
                     hoa (some ⟨wr.heap.size, 0, none⟩) 1 1 [vRow kk bo nn ss tt (.slice A2 mm.length c2) (.slice B2 pp.length d2)].flatten rfl hlies (fun y hy => hone y (by simpa using hy)) (by simp only [maxLen]; omega) (by omega) (Nat.le_trans hk9lt hba.size) ?_
                   intro v' w4 hown4 hg4 hat4
                   have HO4 := hide hown4
                   obtain ⟨A9, c9, rfl, -, -, -, -⟩ := Lies.of_own hown4
                   clear hown4
                   have hlo := HO9.out.lt
                   have hk9' := HK9.out.below hba
                   have k94 := (hg4.block w1.heap.size (Nat.lt_of_lt_of_le hk9lt hba.size) (fun e => by have := (hlo _ e.symm).1; omega)).trans hk9'
                   have x64 : w4.cell? ⟨w1.heap.size, 6, none⟩ = some v9 := Blk.cell (vs := vRow 5 false 0 ⟨#[]⟩ ⟨#[]⟩ (.slice (some ⟨bn, on, none⟩) k c1) v9) k94 6
                   have z64 : w4.frozen? ⟨w1.heap.size, 6, none⟩ = false := Blk.free (vs := vRow 5 false 0 ⟨#[]⟩ ⟨#[]⟩ (.slice (some ⟨bn, on, none⟩) k c1) v9) k94 6))
              go_roundw
              case rel =>
                have hbnu : bn < w1.heap.size := hA1u ⟨bn, on, none⟩ rfl
                have hw1b : w.heap.size + 1 < w1.heap.size := by omega
                have hne9 : ∀ b, b ≤ w1.heap.size → some b ≠ v9.ownBlock := fun b hb e => by have := (hlo _ e.symm).1; omega
                have hk94' : Blk w4 w1.heap.size (vRow 5 false 0 ⟨#[]⟩ ⟨#[]⟩ (.slice (some ⟨bn, on, none⟩) k c1) v9) 37 := k94
                refine ⟨j + 1, _, by omega, by go_num, hk94'.set 6 (.slice A9 (j + 1) c9), ?_, ?_, ?_, ?_, ?_⟩
                · have e : ((ms.take (j + 1)).map fun x => rows.getD (idxN ns x) []).flatten = XS ++ [vRow kk bo nn ss tt (.slice A2 mm.length c2) (.slice B2 pp.length d2)].flatten := by
                    obtain ⟨hj', ej⟩ := List.getElem?_eq_some_iff.1 HX.out
                    rw [List.take_succ_eq_append_getElem hj', ej, List.map_append, List.flatten_append, hXS.out, List.map_cons, List.map_nil, HRD.out]
                  rw [e]
                  exact ownsRow_setCell_below HO4.out (a := ⟨w1.heap.size, 6, none⟩) (Nat.lt_succ_self _) _
                · exact ((HOWN.out.alloc _).kept hg4 (hne9 _ (by omega))).setCell (a := ⟨w1.heap.size, 6, none⟩) (by show w.heap.size + 1 ≠ w1.heap.size; omega) _
                · have h1 : Blk w4 w.heap.size zeroRow 37 := (hg4.block _ (Nat.lt_of_lt_of_le HK4.out.lt hba.size) (hne9 _ (by omega))).trans (HK4.out.below hba)
                  exact h1.far (p := ⟨w1.heap.size, 6, none⟩) (by show w.heap.size ≠ w1.heap.size; omega) _
                · exact (lies_grown (HLM.out.below hba) hg4 (fun a ha => hne9 _ (by cases ha; exact Nat.le_of_lt hbnu))).far (p := ⟨w1.heap.size, 6, none⟩) (fun a ha => by cases ha; show bn ≠ w1.heap.size; omega) _
                · exact ((bt HBQ.out hba).grown hg4 (bt HBQ.out hba).size (fun q hq => by have := (hlo _ hq).1; omega)).setCell (p := ⟨w1.heap.size, 6, none⟩) (by show w.heap.size ≤ w1.heap.size; omega) _
              case measure => simp [intOf]; omega
            · have hi1 : ¬ (j : Int) < (k : Int) := by omega
              obtain rfl : j = k := by omega
              rw [List.take_of_length_le (by rw [HML.out]; exact Nat.le_refl _)] at ho9
              have HO9 := hide ho9
              have hlo := ho9.lt
              obtain ⟨A9, c9, rfl, hc9, -, hl9, hA9⟩ := Lies.of_own ho9
              clear ho9 hown hlt hj
              have hsel : ∀ x ∈ ms, ∃ y r, l[idxN ns x]? = some y ∧ rows[idxN ns x]? = some r ∧ VAt w bx y r ∧ ns[idxN ns x]? = some x := fun x hx => by
                have hxi := idxN_at (HPE.out.mem_iff.1 hx)
                have hil : idxN ns x < l.length := by
                  have := (List.getElem?_eq_some_iff.1 hxi).1
                  rw [← hM.out, ← HNM.out, hN.out]
                  exact this
                obtain ⟨r, hr, hv⟩ := vsAt_get HV.out _ _ (List.getElem?_eq_getElem hil)
                exact ⟨_, r, List.getElem?_eq_getElem hil, hr, hv, hxi⟩
              have hV9 : VsAt w bx (ms.map fun x => l.getD (idxN ns x) default) (ms.map fun x => rows.getD (idxN ns x) []) := by
                refine vsAt_mk (by simp) fun i y r hy hr => ?_
                rw [List.getElem?_map] at hy hr
                cases hmi : ms[i]? with
                | none => rw [hmi] at hy; cases hy
                | some x =>
                  rw [hmi] at hy hr
                  obtain ⟨y', r', h1, h2, h3, -⟩ := hsel x (List.mem_of_getElem? hmi)
                  simp only [Option.map_some, Option.some.injEq, List.getD_eq_getElem?_getD, h1, h2, Option.getD_some] at hy hr
                  subst hy hr
                  exact h3
              obtain ⟨l', hl'⟩ := named (ms.map fun x => l.getD (idxN ns x) default)
              rw [← hl'.out] at hV9
              have hll : l'.length = j := by rw [hl'.out, List.length_map, HML.out]
              have hl9' : Lies wr A9 l'.length 7 (ms.map fun x => rows.getD (idxN ns x) []).flatten := by rw [hll]; exact hl9
              have hjM : j * 96 ≤ 140737488351232 := by have := HNM.out; omega
              have hcall := own_n _ l' rfl bx A9 c9 _ wr hl9' (hV9.below hbq) (by rw [hll]; exact hjM)
              rw [hll] at hcall
              have x6 : wr.cell? ⟨w1.heap.size, 6, none⟩ = some (.slice A9 j c9) := k9.cell 6
              go_wp2_with (first | (at_builtin; fail))
              refine hcall.mono ?_
              rintro e w5 ⟨v5, rfl, ho5, hb5⟩
              obtain ⟨A5, c5, rows5, rfl, hc5, hA5, hl5, hv5⟩ := ho5.open_
              rw [hll] at hc5 hl5 ⊢
              have HO5 := hide ho5
              clear hcall x6 ho5 HO9 hlo hl9 hl9' hA9
              have hwr1 : w1.heap.size < wr.heap.size := k9.lt
              have k95 := k9.below hb5
              have k45 := k4.below hb5
              have hbw5 := bt hbq hb5
              have hlm5 := hlm.below hb5
              have y6 : w5.cell? ⟨w1.heap.size, 6, none⟩ = some (.slice A9 j c9) := k95.cell 6
              have z6 := k95.free 6
              go_upto_region 19 with fail
              have k96 : Blk (w5.setCell ⟨w1.heap.size, 6, none⟩ (.slice A5 j c5)) w1.heap.size (vRow 5 false 0 ⟨#[]⟩ ⟨#[]⟩ (.slice A1 j c1) (.slice A5 j c5)) 37 := k95.set 6 (.slice A5 j c5)
              have k46 := k45.far (p := ⟨w1.heap.size, 6, none⟩) (by show w.heap.size ≠ w1.heap.size; omega) (.slice A5 j c5)
              have hbw6 := hbw5.setCell (p := ⟨w1.heap.size, 6, none⟩) (by show w.heap.size ≤ w1.heap.size; omega) (.slice A5 j c5)
              have hlm6 := hlm5.far (p := ⟨w1.heap.size, 6, none⟩) (fun a ha => by have := hA1u a ha; show a.block ≠ w1.heap.size; omega) (.slice A5 j c5)
              have hl6 := hl5.far (p := ⟨w1.heap.size, 6, none⟩) (fun a ha => by have := hA5 a ha; show a.block ≠ w1.heap.size; omega) (.slice A5 j c5)
              have hv6 : VsAt (w5.setCell ⟨w1.heap.size, 6, none⟩ (.slice A5 j c5)) wr.heap.size l' rows5 := vsAt_mk (vsAt_len hv5).1 fun i x q hx hq => by
                obtain ⟨q', hq', hv⟩ := vsAt_get hv5 i x hx
                rw [hq] at hq'
                cases hq'
                exact hv.far (p := ⟨w1.heap.size, 6, none⟩) (by show w1.heap.size < wr.heap.size; omega) _
              have ho6 := HO5.out.grown (grown_set (p := ⟨w1.heap.size, 6, none⟩) rfl (.slice A5 j c5)) hwr1
              rw [hll] at ho6
              obtain ⟨W6, HW6⟩ := named (w5.setCell ⟨w1.heap.size, 6, none⟩ (.slice A5 j c5))
              rw [← HW6.out] at k96 k46 hbw6 hlm6 hl6 hv6 ho6 ⊢
              have HO6 := hide ho6
              clear ho6
              clear HW6 y6 z6 k95 k45 hlm5 hl5 hv5 k9 k4 hlm
              have hvat : VAt W6 (w.heap.size + 1) (.mk 5 false 0 ⟨#[]⟩ ⟨#[]⟩ ms l') (vRow 5 false 0 ⟨#[]⟩ ⟨#[]⟩ (.slice A1 j c1) (.slice A5 j c5)) := by
                rw [VAt]
                refine ⟨A1, c1, A5, c5, rows5, by rw [HML.out, hll], ⟨by decide, by decide, by decide, by decide, by decide⟩, ?_, fun x hx => HNZ.out x (HPE.out.mem_iff.1 hx), ⟨by rw [HML.out]; exact hns16, by rw [HML.out]; exact hc1, by rw [hll]; exact hjM, by rw [hll]; exact hc5⟩, ⟨fun a ha => by have := hA1 a ha; omega, fun a ha => by have := hA5 a ha; omega⟩, by rw [hll]; exact hl6, hv6.mono (by omega)⟩
                show Lies W6 A1 ms.length 1 (strs ms)
                rw [HML.out]
                exact hlm6
              have hone := vAt_one hvat
              have hck := checked_of (vRow 5 false 0 ⟨#[]⟩ ⟨#[]⟩ (.slice A1 j c1) (.slice A5 j c5)) rfl hone (checkT (.mk 5 false 0 ⟨#[]⟩ ⟨#[]⟩ ms l')) W6 (fun U hU => check_n _ _ _ U (hvat.below hU) (HTAB.out.below (bt hbw6 hU)))
              have HRET : ms.Perm ns ∧ l'.length = l.length ∧ (∀ (k : Nat) x, ms[k]? = some x → ∃ i : Nat, ns[i]? = some x ∧ l'[k]? = l[i]?) := by
                refine ⟨HPE.out, by rw [hll, ← hM.out, ← HNM.out], fun k x hx => ?_⟩
                obtain ⟨y, r, h1, -, -, h4⟩ := hsel x (List.mem_of_getElem? hx)
                refine ⟨idxN ns x, h4, ?_⟩
                rw [hl'.out, List.getElem?_map, hx, h1]
                simp [List.getD_eq_getElem?_getD, h1]
              have HR2 := hide HRET
              have HNDU := hide hN
              clear HRET hsel hV9 hl6 hv6 hlm6
              obtain ⟨C, hC⟩ := named (checkT (.mk 5 false 0 ⟨#[]⟩ ⟨#[]⟩ ms l'))
              rw [← hC.out] at hck
              go_wp2_with (refine wpList_load_row rfl 37 _ rfl _ rfl 37 (vRow 5 false 0 ⟨#[]⟩ ⟨#[]⟩ (.slice A1 j c1) (.slice A5 j c5)).toArray (0, 0) _ k96 Tryd.underlying37 rfl (kV7 rfl) ?_)
              refine hck.mono ?_
              rintro e w7 ⟨rfl, hb7⟩
              have k47 := k46.below hb7
              have hbw7 := bt hbw6 hb7
              have hvat7 := hvat.below hb7
              clear hck k46 k96
              by_cases hC0 : C = 0
              · rw [if_pos hC0]
                have hC1 : checkT (.mk 5 false 0 ⟨#[]⟩ ⟨#[]⟩ ms l') = 0 := by rw [← hC.out]; exact hC0
                have HC1 := hide hC1
                have HV7 := hide hvat7
                clear hC hC1 hvat hvat7
                subst hC0
                go_wp2_with (first | refine wpList_store_row rfl 37 _ _ rfl _ (vRow 5 false 0 ⟨#[]⟩ ⟨#[]⟩ (.slice A1 j c1) (.slice A5 j c5)).toArray rfl rfl 37 zeroRow.toArray k47 (kV7 rfl) rfl (all_one hone) ?_)
                refine bodyPost_ret (vret2 rfl _ rfl (k47.vrow (vRow 5 false 0 ⟨#[]⟩ ⟨#[]⟩ (.slice A1 j c1) (.slice A5 j c5))) rfl rfl) rfl ⟨below_vrow hbw7 (Nat.le_refl _) _, .inr ⟨HND.out, by rw [← hN.out, HNM.out, hM.out], ms, l', _, HR2.out.1, HR2.out.2.1, HR2.out.2.2, HC1.out, ?_, ⟨_, _, rfl, ((HO6.out.below hb7).grown (q := w.heap.size) (grown_setRow w7 w.heap.size _) (by omega)).base (show w.heap.size + 1 ≤ wr.heap.size by omega)⟩, rfl⟩⟩
                refine (HV7.out.toP.keep (fun p v hp hc => ?_) (fun _ h => h)).of (fun b hb => by have h9 : w.heap.size + 1 ≤ b := hb; omega)
                unfold World.cell? at hc ⊢
                rw [vrow_far w7 w.heap.size p.block _ (by have h9 : w.heap.size + 1 ≤ p.block := hp; omega)]
                exact hc
              · rw [if_neg hC0]
                go_wp2_with (first | refine wpList_store_row rfl 37 _ _ rfl _ zeroRow.toArray rfl rfl 37 zeroRow.toArray k47 (kV7 rfl) rfl (by kernel_rfl) ?_)
                refine bodyPost_ret (vret2 rfl _ rfl (k47.vrow zeroRow) rfl rfl) rfl ⟨below_vrow hbw7 (Nat.le_refl _) _, .inl ⟨C, hC0, rfl⟩⟩
        · obtain ⟨Z, hZ⟩ := named (Maps.size D)
          have hZk : (Z : Int) < (k : Int) := by rw [hZ.out]; omega
          have hzz := hZ.out.symm
          clear hz1' hz2' hzn hZ
          go_wp2_with (first
            | (at_len; refine wpList_len_own _ rfl _ 62 rfl 9 37 Tryd.underlying62 _ (w.heap.size + 1) k D rfl hown ?_)
            | refine wpList_store_row rfl 37 _ _ rfl _ zeroRow.toArray rfl rfl 37 zeroRow.toArray k4 (kV7 rfl) rfl (by kernel_rfl) ?_
            | (at_builtin; fail))
          refine bodyPost_ret (vret2 rfl _ rfl (k4.vrow zeroRow) rfl rfl) rfl ⟨below_vrow hbw (Nat.le_refl _) _, .inl ⟨10, by decide, rfl⟩⟩
  · have hbl : ((ns.length : Int) == (l.length : Int)) = false := by rw [beq_eq_false_iff_ne]; omega
    go_wp2_with (first | refine wpList_store_row rfl 37 _ _ rfl _ zeroRow.toArray rfl rfl 37 zeroRow.toArray k4 (kV7 rfl) rfl (by kernel_rfl) ?_)
    refine bodyPost_ret (vret2 rfl _ rfl (k4.vrow zeroRow) rfl rfl) rfl ⟨below_vrow b4 (Nat.le_refl _) _, .inl ⟨2, by decide, rfl⟩⟩
end Go.Proofs.YtmnfmgoolimlmaaDoor
