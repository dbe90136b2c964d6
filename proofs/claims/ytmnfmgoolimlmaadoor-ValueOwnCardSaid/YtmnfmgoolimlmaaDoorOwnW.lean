/- lictorlaw06.ValueOwn. -/
import Derived.Test.YtmnfmgoolimlmaaDoorGU
import Derived.Test.YtmnfmgoolimlmaaDoorVSame
namespace Go.Proofs.YtmnfmgoolimlmaaDoor
set_option linter.unusedSimpArgs false
set_option linter.unusedVariables false
open Go.RowKit
theorem two_rows {w : World} {r q : List Value} (h7 : r.length = 7) (hq7 : q.length = 7) : (w.alloc (.cells (r ++ q).toArray 37)).rangeAt w.heap.size (0 * 7) r ∧ (w.alloc (.cells (r ++ q).toArray 37)).rangeAt w.heap.size (1 * 7) q := by
  have k := Blk.new w (r ++ q) 37
  refine ⟨fun j v hj => ?_, fun j v hj => ?_⟩
  · rw [k.cell, Nat.zero_mul, Nat.zero_add, List.getElem?_append_left (List.getElem?_eq_some_iff.1 hj).1]
    exact hj
  · rw [k.cell, List.getElem?_append_right (by omega), show 1 * 7 + j - r.length = j by omega]
    exact hj
set_option maxRecDepth 100000 in
set_option maxHeartbeats 2000000 in
theorem valueown_w (ns : List ByteArray) (A : Option Addr) (ca : Nat) (l : List Vt) (rows : List (List Value)) (B : Option Addr) (cb : Nat) (w : World) (hT : Texts w A ns) (hnz : ∀ x ∈ ns, x.size ≤ mLen) (hns : ns.length * 16 ≤ mLen)
    (hL : Lies w B l.length 7 rows.flatten) (hV : VsAt w 0 l rows) (hls : l.length * 96 ≤ mLen) (htab : Tb w) :
    Calls Tryd.prog 5 #[.slice A ns.length ca, .slice B l.length cb] w fun e w' => e = .returned (.bool true) ∧ Below w.heap.size w w' := by
  have h0 := lives6_w w htab
  have hls96 : l.length * 96 ≤ 140737488351232 := hls
  have hcop := fun W (hW : Below w.heap.size w W) => copyAll_n l 0 B cb rows W (hL.below hW) (hV.below hW) hls
  have hset := fun W (hW : Below w.heap.size w W) => set_n l B cb 0 rows W (hL.below hW) (hV.below hW) hls (htab.below hW)
  have hrec := fun W (hW : Below w.heap.size w W) => record_own ns l A B ca cb 0 rows W (hT.below hW) hnz hns (hL.below hW) (hV.below hW) hls (htab.below hW)
  have HCOP := hide hcop
  have HSET := hide hset
  have HREC := hide hrec
  have HL := hide hL
  have HV := hide hV
  obtain ⟨N, hN⟩ := named ns.length
  obtain ⟨M, hM⟩ := named l.length
  rw [← hM.out] at hls96
  rw [← hM.out, ← hN.out]
  clear hT hL hV htab hnz hns hls hcop hset hrec
  go_enter Tryd.func5, Tryd.ntmps5
  go_wp2_with (first | (at_builtin; fail))
  refine h0.mono ?_
  rintro e w1 ⟨rfl, hb1⟩
  clear h0
  have hcop := HCOP.out w1 hb1
  rw [← hM.out] at hcop
  clear HCOP
  go_wp2_with (first | (at_builtin; fail))
  refine hcop.mono ?_
  rintro e w2 ⟨vk, rowsk, rfl, hok, hvk, hb2⟩
  clear hcop
  have HOK := hide hok
  obtain ⟨Ak, ck, rfl, -, -, hlk, -⟩ := Lies.of_own hok
  clear hok
  have HLK := hide hlk
  have HVK := hide hvk
  clear hlk hvk
  have hb3 := bt hb1 hb2
  have hset := HSET.out w2 hb3
  rw [← hM.out] at hset
  clear HSET
  go_wp2_with (first | (at_builtin; fail))
  refine hset.mono ?_
  rintro e w3 ⟨hbs, kS, LS, whyS, rfl, hLS, hspS⟩
  clear hset
  have k6 := Blk.new w3 zeroRow 37
  have h7S : (vRow kS false 0 ⟨#[]⟩ ⟨#[]⟩ (.slice none 0 0) LS).length = 7 := rfl
  have h1S := vRow_one (k := kS) (b := false) (z := 0) (s := ⟨#[]⟩) (t := ⟨#[]⟩) (N := .slice none 0 0) (L := LS) rfl hLS
  obtain ⟨RS, hRS⟩ := named (vRow kS false 0 ⟨#[]⟩ ⟨#[]⟩ (.slice none 0 0) LS)
  rw [← hRS.out] at h7S h1S ⊢
  have b6 := below_vrow (below_alloc w3 (.cells zeroRow.toArray 37)) (Nat.le_refl _) RS.toArray
  go_upto_region 5 with (first
    | refine wpList_store_row rfl 37 _ _ rfl _ RS.toArray rfl rfl 37 zeroRow.toArray k6 (kV7 h7S) (by simp [h7S, zeroRow, vRow]) (all_one h1S) ?_
    | (at_builtin; fail))
  replace k6 := k6.vrow RS
  have hspS2 := hspS.below b6
  have hbs2 := bt hbs b6
  obtain ⟨w4, HW3⟩ := named ((w3.alloc (.cells zeroRow.toArray 37)).setRow w3.heap.size RS.toArray)
  have HW4 : (w3.alloc (.cells #[.int .u8 0, .bool false, .int .i64 0, .string ⟨#[]⟩, .string ⟨#[]⟩, .slice none 0 0, .slice none 0 0] 37)).setRow w3.heap.size RS.toArray = w4 := HW3.out.symm
  have HW5 := hide HW4
  clear HW4
  rw [← HW3.out] at k6 hspS2 hbs2
  rw [HW5.out]
  clear HW3 HW5 b6 hspS
  have hb4 := bt hb3 hbs2
  have hrec := HREC.out w4 hb4
  rw [← hM.out, ← hN.out] at hrec
  clear HREC
  go_wp2_with (first | (at_builtin; fail))
  refine hrec.mono ?_
  rintro e w5 ⟨hbr, kR, NR, LR, whyR, rfl, hNR, hLR, hspR⟩
  clear hrec
  have k8 := Blk.new w5 zeroRow 37
  have h7R : (vRow kR false 0 ⟨#[]⟩ ⟨#[]⟩ NR LR).length = 7 := rfl
  have h1R := vRow_one (k := kR) (b := false) (z := 0) (s := ⟨#[]⟩) (t := ⟨#[]⟩) (N := NR) (L := LR) hNR hLR
  obtain ⟨RR, hRR⟩ := named (vRow kR false 0 ⟨#[]⟩ ⟨#[]⟩ NR LR)
  rw [← hRR.out] at h7R h1R ⊢
  have b8 := below_vrow (below_alloc w5 (.cells zeroRow.toArray 37)) (Nat.le_refl _) RR.toArray
  go_upto_region 6 with (first
    | refine wpList_store_row rfl 37 _ _ rfl _ RR.toArray rfl rfl 37 zeroRow.toArray k8 (kV7 h7R) (by simp [h7R, zeroRow, vRow]) (all_one h1R) ?_
    | (at_builtin; fail))
  replace k8 := k8.vrow RR
  have hspR2 := hspR.below b8
  have hspS3 := (hspS2.below hbr).below b8
  have k62 := (k6.below hbr).below b8
  have hbr2 := bt hbr b8
  obtain ⟨w6, HW3⟩ := named ((w5.alloc (.cells zeroRow.toArray 37)).setRow w5.heap.size RR.toArray)
  have HW4 : (w5.alloc (.cells #[.int .u8 0, .bool false, .int .i64 0, .string ⟨#[]⟩, .string ⟨#[]⟩, .slice none 0 0, .slice none 0 0] 37)).setRow w5.heap.size RR.toArray = w6 := HW3.out.symm
  have HW5 := hide HW4
  clear HW4
  rw [← HW3.out] at k8 hspR2 hspS3 k62 hbr2
  rw [HW5.out]
  clear HW3 HW5 b8 hspR hspS2 k6 hbr
  have hb26 := bt hbs2 hbr2
  have hmS := hspS3.mut (show w2.heap.size ≤ w2.heap.size + 1 by omega)
  have hmR := hspR2.mut (show w2.heap.size ≤ w4.heap.size + 1 by have := hbs2.size; omega)
  have eS := hRS.out
  have eR := hRR.out
  clear hRS hRR
  subst eS eR
  obtain ⟨hr0, hr1⟩ := two_rows (w := w6) h7S h7R
  have ba := below_alloc w6 (.cells (vRow kS false 0 ⟨#[]⟩ ⟨#[]⟩ (.slice none 0 0) LS ++ vRow kR false 0 ⟨#[]⟩ ⟨#[]⟩ NR LR).toArray 37)
  have hTwo : Two (w6.alloc (.cells (vRow kS false 0 ⟨#[]⟩ ⟨#[]⟩ (.slice none 0 0) LS ++ vRow kR false 0 ⟨#[]⟩ ⟨#[]⟩ NR LR).toArray 37)) w2.heap.size w6.heap.size := by
    intro i hi
    rcases (show i = 0 ∨ i = 1 by omega) with rfl | rfl
    · exact ⟨kS, _, LS, hr0, rfl, hLS, hmS.below ba⟩
    · exact ⟨kR, NR, LR, hr1, hNR, hLR, hmR.below ba⟩
  have hgl : w6.heap.size < (w6.alloc (.cells (vRow kS false 0 ⟨#[]⟩ ⟨#[]⟩ (.slice none 0 0) LS ++ vRow kR false 0 ⟨#[]⟩ ⟨#[]⟩ NR LR).toArray 37)).heap.size := by
    show _ < (w6.heap.push _).size
    simp
  have hbase : w2.heap.size ≤ w6.heap.size := hb26.size
  have hb7 := bt hb26 ba
  go_wp2_with (first
    | refine wpList_load_row rfl 37 _ rfl _ rfl 37 #[.int .u8 (kS : Int), .bool false, .int .i64 0, .string ⟨#[]⟩, .string ⟨#[]⟩, .slice none 0 0, LS] (0, 0) _ k62 Tryd.underlying37 rfl (by kernel_rfl) ?_
    | refine wpList_load_row rfl 37 _ rfl _ rfl 37 #[.int .u8 (kR : Int), .bool false, .int .i64 0, .string ⟨#[]⟩, .string ⟨#[]⟩, NR, LR] (0, 0) _ k8 Tryd.underlying37 rfl (by kernel_rfl) ?_
    | (at_builtin; fail))
  obtain ⟨w7, HW3⟩ := named (w6.alloc (.cells (vRow kS false 0 ⟨#[]⟩ ⟨#[]⟩ (.slice none 0 0) LS ++ vRow kR false 0 ⟨#[]⟩ ⟨#[]⟩ NR LR).toArray 37))
  have HW4 : w6.alloc (.cells #[.int .u8 (kS : Int), .bool false, .int .i64 0, .string ⟨#[]⟩, .string ⟨#[]⟩, .slice none 0 0, LS, .int .u8 (kR : Int), .bool false, .int .i64 0, .string ⟨#[]⟩, .string ⟨#[]⟩, NR, LR] 37) = w7 := HW3.out.symm
  have HW5 := hide HW4
  clear HW4
  rw [← HW3.out] at hTwo hb7 hgl
  rw [HW5.out]
  obtain ⟨gb, hgb⟩ := named w6.heap.size
  rw [← hgb.out] at hTwo hgl hbase ⊢
  have HTWO := hide hTwo
  have HB7 := hide hb7
  clear HW3 HW5 hTwo hb7 hr0 hr1 hgb hmS hmR k62 k8 hspR2 hspS3 ba hbr2 hbs2 hb26 hb4 h7S h7R h1S h1R hLS hLR hNR
  go_loopw [34] (fun s wr => ∃ i : Nat, i ≤ 2 ∧ s = .int .i64 i ∧ Two wr w2.heap.size gb ∧ gb < wr.heap.size ∧ Below w2.heap.size w2 wr) (fun s _ => 2 - (intOf s).toNat)
  case atStart => exact ⟨0, by omega, rfl, HTWO.out, hgl, HB7.out⟩
  case round =>
    clear HTWO HB7 hgl
    obtain ⟨i, hi, rfl, hTwo, hgl, hbw⟩ := hrel
    by_cases hlt : i < 2
    · have hi0 : (0 : Int) ≤ (i : Int) := by omega
      have hi1 : (i : Int) < 2 := by omega
      obtain ⟨kx, Nx, Lx, hra, hNx, hLx, hML⟩ := hTwo i hlt
      have h7X : (vRow kx false 0 ⟨#[]⟩ ⟨#[]⟩ Nx Lx).length = 7 := rfl
      have h1X := vRow_one (k := kx) (b := false) (z := 0) (s := ⟨#[]⟩) (t := ⟨#[]⟩) (N := Nx) (L := Lx) hNx hLx
      obtain ⟨RX, hRX⟩ := named (vRow kx false 0 ⟨#[]⟩ ⟨#[]⟩ Nx Lx)
      rw [← hRX.out] at h7X h1X hra
      have k11 := Blk.new wr zeroRow 37
      have b11 := below_vrow (below_alloc wr (.cells zeroRow.toArray 37)) (Nat.le_refl _) RX.toArray
      have H1X := hide h1X
      go_upto_region 9 with (first
        | refine wpList_load_mid rfl 37 _ rfl gb (i * 7) rfl RX _ hra Tryd.underlying37 rfl (kV7l h7X) ?_
        | refine wpList_store_row rfl 37 _ _ rfl _ RX.toArray rfl rfl 37 zeroRow.toArray k11 (kV7 h7X) (by simp [h7X, zeroRow, vRow]) (all_one h1X) ?_
        | (at_builtin; fail))
      replace k11 := k11.vrow RX
      have hTwo2 := hTwo.below b11
      have hML2 := hML.below b11
      have hbw2 := bt hbw b11
      have hgl2 : gb < ((wr.alloc (.cells zeroRow.toArray 37)).setRow wr.heap.size RX.toArray).heap.size := Nat.lt_of_lt_of_le hgl b11.size
      obtain ⟨h, hh⟩ := named wr.heap.size
      have hgh : gb < h := by rw [hh.out]; exact hgl
      obtain ⟨wa, HW3⟩ := named ((wr.alloc (.cells zeroRow.toArray 37)).setRow wr.heap.size RX.toArray)
      have HW4 : (wr.alloc (.cells #[.int .u8 0, .bool false, .int .i64 0, .string ⟨#[]⟩, .string ⟨#[]⟩, .slice none 0 0, .slice none 0 0] 37)).setRow wr.heap.size RX.toArray = wa := HW3.out.symm
      have HW5 := hide HW4
      clear HW4
      rw [← HW3.out] at k11 hTwo2 hML2 hbw2 hgl2
      rw [HW5.out]
      rw [← hh.out] at k11 ⊢
      have x6 : wa.cell? ⟨h, 6, none⟩ = some Lx := by rw [k11.cell, hRX.out]; rfl
      have HTW := hide hTwo2
      have HBW := hide hbw2
      have K11 := hide k11
      clear HW3 HW5 b11 hTwo hML hbw hra hh hRX h1X H1X h7X k11 hTwo2 hbw2 hgl
      rcases hML2 with ⟨c, rfl⟩ | ⟨g, n, c, rfl, hn, hrows⟩
      · go_wp2_with (first | (at_builtin; fail))
        clear x6
        go_loopw [41] (fun s wr => s = .int .i64 0 ∧ wr = wa) (fun _ _ => 0)
        case atStart => exact ⟨rfl, rfl⟩
        case round =>
          obtain ⟨rfl, rfl⟩ := hrel
          go_wp2_with (first | (at_builtin; fail))
          go_roundw
          case rel => exact ⟨i + 1, by omega, by go_num, HTW.out, hgl2, HBW.out⟩
          case measure => simp [intOf]; omega
      · have HM : Hid (Mut wa w2.heap.size gb (.slice (some ⟨g, 0, none⟩) n c)) := .inr ⟨g, n, c, rfl, hn, hrows⟩
        have X6 := hide x6
        clear hrows
        go_wp2_with (first | (at_builtin; fail))
        clear x6
        go_loopw [41] (fun s wr => ∃ j : Nat, j ≤ n ∧ s = .int .i64 j ∧ Two wr w2.heap.size gb ∧ gb < wr.heap.size ∧ Below w2.heap.size w2 wr ∧ Mut wr w2.heap.size gb (.slice (some ⟨g, 0, none⟩) n c) ∧ wr.cell? ⟨h, 6, none⟩ = some (.slice (some ⟨g, 0, none⟩) n c)) (fun s _ => n - (intOf s).toNat)
        case atStart => exact ⟨0, by omega, rfl, HTW.out, hgl2, HBW.out, HM.out, X6.out⟩
        case round =>
          clear HTW HBW HM X6 hgl2 K11
          obtain ⟨j, hj, rfl, hTwo, hgl, hbw, hM, x6⟩ := hrel
          by_cases hlt2 : j < n
          · have hj0 : (0 : Int) ≤ (j : Int) := by omega
            have hj1 : (j : Int) < (n : Int) := by omega
            have hM' := hM
            rcases hM' with ⟨c', e⟩ | ⟨g', n', c', e, hn', hrows⟩
            · cases e
            · cases e
              obtain ⟨q1, q2, ⟨z, y2⟩, z2, Ai, mi, ci, y6, hmi, hsub⟩ := hrows j hlt2
              clear hrows hsub
              have HTW := hide hTwo
              have HBW := hide hbw
              have HM := hide hM
              have X6 := hide x6
              have Y6 := hide y6
              clear hTwo hbw hM y6
              go_upto_region 13 with (first | (at_builtin; fail))
              obtain ⟨zz, hzz⟩ := named (wrap64 (z + 5))
              rw [← hzz.out]
              have hTwo := HTW.out.set (q := g) (t := j) (by omega) zz
              have hbw := HBW.out.setCell (p := ⟨g, j * 7 + 2, none⟩) q1 (.int .i64 zz)
              have hM := HM.out.set g j zz
              have x6' := (World.cell?_setCell_other wr ⟨g, j * 7 + 2, none⟩ ⟨h, 6, none⟩ (.int .i64 zz) (fun e => by have h9 : g = h := congrArg Addr.block e; omega)).trans X6.out
              have y6' := (World.cell?_setCell_other wr ⟨g, j * 7 + 2, none⟩ ⟨g, j * 7 + 6, none⟩ (.int .i64 zz) (fun e => by have h9 := congrArg Addr.off e; simp only at h9; omega)).trans Y6.out
              have hgl' : gb < (wr.setCell ⟨g, j * 7 + 2, none⟩ (.int .i64 zz)).heap.size := by simp [World.setCell]; exact hgl
              obtain ⟨wb, hwb⟩ := named (wr.setCell ⟨g, j * 7 + 2, none⟩ (.int .i64 zz))
              rw [← hwb.out] at hTwo hbw hM x6' y6' hgl' ⊢
              clear hwb hzz HTW HBW HM X6 Y6 x6 y2 z2 hgl
              have HTW := hide hTwo
              have HBW := hide hbw
              have HM := hide hM
              have X6 := hide x6'
              have Y6 := hide y6'
              clear hTwo hbw hM
              go_wp2_with (first | (at_builtin; fail))
              clear x6' y6'
              go_loopw [60] (fun s wr => ∃ k : Nat, k ≤ mi ∧ s = .int .i64 k ∧ Two wr w2.heap.size gb ∧ gb < wr.heap.size ∧ Below w2.heap.size w2 wr ∧ Mut wr w2.heap.size gb (.slice (some ⟨g, 0, none⟩) n c) ∧ wr.cell? ⟨h, 6, none⟩ = some (.slice (some ⟨g, 0, none⟩) n c) ∧ wr.cell? ⟨g, j * 7 + 6, none⟩ = some (.slice Ai mi ci)) (fun s _ => mi - (intOf s).toNat)
              case atStart => exact ⟨0, by omega, rfl, HTW.out, hgl', HBW.out, HM.out, X6.out, Y6.out⟩
              case round =>
                clear HTW HBW HM X6 Y6 hgl'
                obtain ⟨k, hk, rfl, hTwo, hgl, hbw, hM, x6, y6⟩ := hrel
                by_cases hlt3 : k < mi
                · have hk0 : (0 : Int) ≤ (k : Int) := by omega
                  have hk1 : (k : Int) < (mi : Int) := by omega
                  have hM' := hM
                  rcases hM' with ⟨c', e⟩ | ⟨g', n', c', e, hn', hrows⟩
                  · cases e
                  · cases e
                    obtain ⟨-, -, -, -, Aj, mj, cj, y6', -, hsub⟩ := hrows j hlt2
                    rw [y6] at y6'
                    cases y6'
                    obtain ⟨b, rfl, p1, p2, ⟨z3, y3⟩, f3⟩ := hsub k hlt3
                    have HTW := hide hTwo
                    have HBW := hide hbw
                    have HM := hide hM
                    clear hrows hsub hTwo hbw hM
                    obtain ⟨zz, hzz⟩ := named (wrap64 (z3 + 5))
                    have hzz2 := hzz.out.symm
                    have hTwo := HTW.out.set (q := b) (t := k) (by omega) zz
                    have hbw := HBW.out.setCell (p := ⟨b, k * 7 + 2, none⟩) p1 (.int .i64 zz)
                    have hM := HM.out.set b k zz
                    have x6' := (World.cell?_setCell_other wr ⟨b, k * 7 + 2, none⟩ ⟨h, 6, none⟩ (.int .i64 zz) (fun e => by have h9 : b = h := congrArg Addr.block e; omega)).trans x6
                    have y6' := (World.cell?_setCell_other wr ⟨b, k * 7 + 2, none⟩ ⟨g, j * 7 + 6, none⟩ (.int .i64 zz) (fun e => by have h9 := congrArg Addr.off e; simp only at h9; omega)).trans y6
                    have hgl' : gb < (wr.setCell ⟨b, k * 7 + 2, none⟩ (.int .i64 zz)).heap.size := by simp [World.setCell]; exact hgl
                    have HALL := hide (⟨hTwo, hbw, hM, x6', y6', hgl'⟩ : _ ∧ _ ∧ _ ∧ _ ∧ _ ∧ _)
                    clear hTwo hbw hM x6' y6' hgl' hzz
                    go_wp2_with (first | (at_builtin; fail))
                    go_roundw
                    case rel => exact ⟨k + 1, by omega, by go_num, HALL.out.1, HALL.out.2.2.2.2.2, HALL.out.2.1, HALL.out.2.2.1, HALL.out.2.2.2.1, HALL.out.2.2.2.2.1⟩
                    case measure => simp [intOf]; omega
                · have hk1 : ¬ (k : Int) < (mi : Int) := by omega
                  clear y6
                  go_wp2_with (first | (at_builtin; fail))
                  go_roundw
                  case rel => exact ⟨j + 1, by omega, by go_num, hTwo, hgl, hbw, hM, x6⟩
                  case measure => simp [intOf]; omega
          · have hj1 : ¬ (j : Int) < (n : Int) := by omega
            go_wp2_with (first | (at_builtin; fail))
            go_roundw
            case rel => exact ⟨i + 1, by omega, by go_num, hTwo, hgl, hbw⟩
            case measure => simp [intOf]; omega
    · have hi1 : ¬ (i : Int) < 2 := by omega
      have HBW := hide hbw
      clear hTwo hgl hbw hbase
      rename World => w9
      go_wp2_with (first | (at_builtin; fail))
      go_loopw [81] (fun s wr => ∃ k : Nat, k ≤ M ∧ s = .int .i64 k ∧ Below w2.heap.size w2 wr) (fun s _ => M - (intOf s).toNat)
      case atStart => exact ⟨0, by omega, rfl, HBW.out⟩
      case round =>
        clear HBW
        obtain ⟨k, hk, rfl, hbw⟩ := hrel
        by_cases hlt2 : k < M
        · have hk0 : (0 : Int) ≤ (k : Int) := by omega
          have hk1 : (k : Int) < (M : Int) := by omega
          have hkl : k < l.length := by rw [← hM.out]; exact hlt2
          obtain ⟨x, hx⟩ : ∃ x, l[k]? = some x := ⟨_, List.getElem?_eq_getElem hkl⟩
          obtain ⟨rl, hrl, hvl0⟩ := vsAt_get HV.out k x hx
          obtain ⟨rk, hrk, hvk0⟩ := (vsAtP_get HVK.out).2 k x hx
          have hL2 := HL.out
          obtain ⟨bb, ob, rfl, -⟩ := hL2.2 (fun h0 => by
            have h9 := (vsAt_len HV.out).2
            rw [h0] at h9
            simp only [List.length_nil] at h9
            omega)
          have hvk1 := hvk0.of (base := 0) (fun _ _ => Nat.zero_le _)
          have h7rk := vAt_len hvk1
          have h7rl := vAt_len hvl0
          have hVK2 : VsAt w2 0 l rowsk := vsAt_mk (vsAtP_get HVK.out).1 fun i y q hy hq => by
            obtain ⟨q', hq', hv⟩ := (vsAtP_get HVK.out).2 i y hy
            rw [hq] at hq'
            cases hq'
            exact hv.of fun _ _ => Nat.zero_le _
          have hLK2 := HLK.out
          have hok := HOK.out
          rcases hok.2 with ⟨e, h0⟩ | ⟨bk, capk, curk, e, -⟩
          · omega
          · cases e
            have hcrk : wr.rangeAt bk (k * 7) rk := fun i v hi => by
              have := cells_of_lies hLK2 (vsAt_all7 hVK2) hrk wr hbw i v hi
              rw [Nat.zero_add] at this
              exact this
            have hcrl : wr.rangeAt bb (ob + k * 7) rl := fun i v hi => cells_of_lies hL2 (vsAt_all7 HV.out) hrl wr (bt hb3 hbw) i v hi
            have hvk := hvk1.below hbw
            have hvl := hvl0.below (bt hb3 hbw)
            clear hL2 hLK2 hok hVK2 hrl hrk hvl0 hvk0 hvk1 hx
            go_upto_region 23 with (go_quiet (fail))
            refine region_auto (fun _ _ u => Below wr.heap.size wr u) (fun _ _ _ => True) _ (by kernel_rfl) (by kernel_rfl) (fun v => by simp only [putsV, Act.put, List.toList_toArray, List.setIfInBounds_toArray, List.set_cons_zero, List.set_cons_succ, Nat.reduceAdd, Nat.zero_add]; rfl) (Below.refl _ _).drew (fun _ _ _ _ _ h => h) ?_
            refine flatE_fix [] _ (fun L hL hcl v u hS hd K' hK => by
                simp only [Act.put, List.setIfInBounds_toArray, List.set_cons_zero, List.set_cons_succ] at hK
                go_simp
                exact hK.out _ ⟨hS, trivial⟩) (by kernel_rfl) (j := 1) rfl ?_
            refine flatE_fix [] _ (fun L hL hcl v u hS hd K' hK => by
                simp only [Act.put, List.setIfInBounds_toArray, List.set_cons_zero, List.set_cons_succ] at hK
                go_simp
                exact hK.out _ ⟨hS, trivial⟩) (by kernel_rfl) (j := 2) rfl ?_
            refine flatE_fix [0, 1] _ (fun L hL hcl v u hS hd K' hK => by
                simp only [held, relR, eqv, List.getD_cons_zero, List.getD_cons_succ, Nat.reduceSub] at hd
                simp only [Act.put, List.setIfInBounds_toArray, List.set_cons_zero, List.set_cons_succ] at hK
                try simp only [hd] at hK
                go_simp
                exact hK.out _ ⟨hS, trivial⟩) (by kernel_rfl) (j := 3) rfl ?_
            refine flatE_fix [2] _ (fun L hL hcl v u hS hd K' hK => by
                simp only [held, relR, eqv, List.getD_cons_zero, List.getD_cons_succ, Nat.reduceSub] at hd
                have hc9 : u.rangeAt bk (k * 7) rk := fun i v hi => cell_below' (hcrk i v hi) hS
                refine wanted_go3 rfl ?_
                refine wp_load_mid 37 _ rfl bk (k * 7) hd rk _ hc9 Tryd.underlying37 rfl (kV7l h7rk) ?_
                exact hK.out _ ⟨hS, trivial⟩) (by kernel_rfl) (j := 4) rfl ?_
            refine flatE_fix [] _ (fun L hL hcl v u hS hd K' hK => by
                simp only [Act.put, List.setIfInBounds_toArray, List.set_cons_zero, List.set_cons_succ] at hK
                go_simp
                exact hK.out _ ⟨hS, trivial⟩) (by kernel_rfl) (j := 5) rfl ?_
            refine flatE_fix [] _ (fun L hL hcl v u hS hd K' hK => by
                simp only [Act.put, List.setIfInBounds_toArray, List.set_cons_zero, List.set_cons_succ] at hK
                go_simp
                exact hK.out _ ⟨hS, trivial⟩) (by kernel_rfl) (j := 6) rfl ?_
            refine flatE_fix [4, 5] _ (fun L hL hcl v u hS hd K' hK => by
                simp only [held, relR, eqv, List.getD_cons_zero, List.getD_cons_succ, Nat.reduceSub] at hd
                simp only [Act.put, List.setIfInBounds_toArray, List.set_cons_zero, List.set_cons_succ] at hK
                try simp only [hd] at hK
                go_simp
                exact hK.out _ ⟨hS, trivial⟩) (by kernel_rfl) (j := 7) rfl ?_
            refine flatE_fix [6] _ (fun L hL hcl v u hS hd K' hK => by
                simp only [held, relR, eqv, List.getD_cons_zero, List.getD_cons_succ, Nat.reduceSub] at hd
                have hc9 : u.rangeAt bb (ob + k * 7) rl := fun i v hi => cell_below' (hcrl i v hi) hS
                refine wanted_go3 rfl ?_
                refine wp_load_mid 37 _ rfl bb (ob + k * 7) hd rl _ hc9 Tryd.underlying37 rfl (kV7l h7rl) ?_
                exact hK.out _ ⟨hS, trivial⟩) (by kernel_rfl) (j := 8) rfl ?_
            refine flatE_fix [3, 7] _ (fun L hL hcl v u hS hd K' hK => by
                simp only [held, relR, eqv, List.getD_cons_zero, List.getD_cons_succ, Nat.reduceSub] at hd
                simp only [Act.put, List.setIfInBounds_toArray, List.set_cons_zero, List.set_cons_succ] at hK
                try simp only [hd] at hK
                go_simp
                refine (same_n x.ht x (Nat.le_refl _) _ _ rk rl u (hvk.below hS) (hvl.below hS)).mono ?_
                rintro e w9 ⟨rfl, hb9⟩
                exact hK.out _ ⟨bt hS hb9, trivial⟩) (by kernel_rfl) (j := 9) rfl ?_
            refine flatE_fix [8] _ (fun L hL hcl v u hS hd K' hK => by
                simp only [held, relR, eqv, List.getD_cons_zero, List.getD_cons_succ, Nat.reduceSub] at hd
                simp only [Act.put, List.setIfInBounds_toArray, List.set_cons_zero, List.set_cons_succ] at hK
                try simp only [hd] at hK
                go_simp
                exact hK.out _ ⟨hS, trivial⟩) (by kernel_rfl) (j := 10) rfl ?_
            refine flatE_end [9] (by decide) ?_
            rintro v u hS hR
            simp only [held, relR, eqv, List.getD_cons_zero, List.getD_cons_succ, Nat.reduceSub] at hR
            have hbw5 := bt hbw hS
            simp only [hR]
            clear hR
            go_wp2_with (go_quiet (fail))
            go_roundw
            case rel => exact ⟨k + 1, by omega, by go_num, hbw5⟩
            case measure => simp [intOf]; omega
        · have hk1 : ¬ (k : Int) < (M : Int) := by omega
          go_wp2_with (first | (at_builtin; fail))
          go_ret
          exact ⟨rfl, bt hb3 hbw⟩
end Go.Proofs.YtmnfmgoolimlmaaDoor
