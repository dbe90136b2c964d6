/- The document's Head of chapter 03. -/
import Derived.Test.YtpfbmmeipojodaaGF
import Derived.Deep.DeepCutAuto
namespace Go.Proofs.Ytpfbmmeipojodaa
set_option linter.unusedSimpArgs false
set_option linter.unusedVariables false
open Go.RowKit Go.Shelf
open Crc
theorem putL_getL (l : List UInt8) (n : Nat) (h : l.length = n) : putL (getL l) n = l := by
  subst h
  induction l with
  | nil => rfl
  | cons b l ih =>
    rw [List.length_cons]
    have e : ∀ (m : Nat), putL m (l.length + 1) = UInt8.ofNat (m % 256) :: putL (m / 256) l.length := fun m => by
      rw [putL, List.range_succ_eq_map, List.map_cons, List.map_map, putL]
      congr 1
      · refine UInt8.toNat_inj.1 ?_
        simp [byteAt]
      · refine List.map_congr_left fun i _ => ?_
        show byteAt m (i + 1) = byteAt (m / 256) i
        unfold byteAt
        rw [show 8 * (i + 1) = 8 + 8 * i by omega, Nat.pow_add, Nat.div_div_eq_div_mul]
    rw [e]
    have hb : b.toNat < 256 := b.toNat_lt
    have h1 : getL (b :: l) % 256 = b.toNat := by simp only [getL]; omega
    have h2 : getL (b :: l) / 256 = getL l := by simp only [getL]; omega
    rw [h1, h2, ih]
    simp
theorem take_two (l : List UInt8) (h : 2 ≤ l.length) : l.take 2 = [l.getD 0 0, l.getD 1 0] := by
  match l, h with
  | a :: b :: _, _ => rfl
theorem chunk_back (l : List UInt8) (a n : Nat) (h : a + n ≤ l.length) : putL (atL l a n) n = (l.drop a).take n := putL_getL _ _ (by rw [List.length_take, List.length_drop]; omega)
theorem head_of_ok {l : List UInt8} (h : HeadOk l) : headL (l.getD 1 0) (atL l 2 8) (atL l 10 8) (atL l 18 4) (atL l 22 4) = l := by
  have hl := h.size
  have e26 : frontL (l.getD 1 0) (atL l 2 8) (atL l 10 8) (atL l 18 4) (atL l 22 4) = l.take 26 := by
    rw [frontL, chunk_back l 2 8 (by omega), chunk_back l 10 8 (by omega), chunk_back l 18 4 (by omega), chunk_back l 22 4 (by omega), ← h.mark, ← take_two l (by omega),
      ← List.take_add, ← List.take_add, ← List.take_add, ← List.take_add]
  rw [head_told, e26, ← h.own, chunk_back l 26 4 (by omega), ← h.rest]
  have e30 : l.take 26 ++ (l.drop 26).take 4 = l.take 30 := by rw [← List.take_add]
  rw [← List.append_assoc, e30, List.take_append_drop]
theorem ok_of_head {l : List UInt8} (h1 : l.getD 1 0 ≠ 0) (h2 : atL l 18 4 ≤ 16384) (h : headL (l.getD 1 0) (atL l 2 8) (atL l 10 8) (atL l 18 4) (atL l 22 4) = l) : HeadOk l := by
  have := headOk (l.getD 1 0) (atL l 2 8) (atL l 10 8) (atL l 18 4) (atL l 22 4) h1 h2
  rw [h] at this
  exact this
set_option maxHeartbeats 4000000 in
set_option maxRecDepth 100000 in
theorem refHead_A (s : ByteArray) (w : World) (h : s.size ≠ 64) :
    Calls Try.prog 92 #[.string s] w fun e w' => e = .returned (.tuple #[.agg #[.int .u8 0, .int .u64 0, .int .u64 0, .int .i64 0, .int .u32 0], .int .i64 14]) ∧ Below w.heap.size w w' := by
  have hne : ((s.size : Int) != 64) = true := by simp; omega
  have hb := below_alloc w (.cells #[.int .u8 0, .int .u64 0, .int .u64 0, .int .i64 0, .int .u32 0] 87)
  go_enter Try.func92, Try.ntmps92
  go_wp2
  refine bodyPost_ret (v := .tuple #[.agg #[.int .u8 0, .int .u64 0, .int .u64 0, .int .i64 0, .int .u32 0], .int .i64 14]) (by simp [results, Try.results92, go_sem]) rfl ?_
  exact ⟨rfl, hb⟩
set_option maxHeartbeats 4000000 in
set_option maxRecDepth 100000 in
theorem refHead_B (s : ByteArray) (w : World) (h : s.size = 64) (h1 : s.data.toList.getD 1 0 = 0) :
    Calls Try.prog 92 #[.string s] w fun e w' => e = .returned (.tuple #[.agg #[.int .u8 0, .int .u64 0, .int .u64 0, .int .i64 0, .int .u32 0], .int .i64 14]) ∧ Below w.heap.size w w' := by
  have hl : s.data.toList.length = s.size := Array.length_toList
  have hne : ((s.size : Int) != 64) = false := by simp; omega
  have hszn1 : 1 < s.size := by omega
  have hsz1 : (1 : Int) < (s.size : Int) := by omega
  have hz26 : (26 : Int) ≤ (s.size : Int) := by omega
  have hz22 : (22 : Int) ≤ (s.size : Int) := by omega
  have hz18 : (18 : Int) ≤ (s.size : Int) := by omega
  have hz10 : (10 : Int) ≤ (s.size : Int) := by omega
  have hz2 : (2 : Int) ≤ (s.size : Int) := by omega
  obtain ⟨s1, e1⟩ : ∃ x, s[1] = x := ⟨_, rfl⟩
  have g1 : s.data.toList.getD 1 0 = s1 := by rw [← e1, List.getD_eq_getElem?_getD, List.getElem?_eq_getElem (by omega)]; rfl
  have hx2 : s.extract 2 10 = str ((s.data.toList.drop 2).take 8) := extract_str s 2 10
  obtain ⟨S2, HS2⟩ := named (str ((s.data.toList.drop 2).take 8))
  rw [← HS2.out] at hx2
  obtain ⟨n2, Hn2⟩ := named (atL s.data.toList 2 8)
  have hg2 : ∀ u, Calls Try.prog 102 #[.string S2] u fun e w' => e = .returned (.tuple #[.int .u64 (n2 : Int), .int .i64 0]) ∧ u = w' := fun u => by
    have hlen : S2.data.toList.length = 8 := by rw [HS2.out, str_data, List.length_take, List.length_drop, hl]; omega
    have hgot := got_yes 8 S2.data.toList hlen
    have := refget64_w S2 u (by rw [show S2.size = S2.data.toList.length from rfl, hlen]; decide)
    rw [hgot.1, hgot.2, HS2.out, str_data] at this
    rw [HS2.out, Hn2.out]
    exact this
  have hx10 : s.extract 10 18 = str ((s.data.toList.drop 10).take 8) := extract_str s 10 18
  obtain ⟨S10, HS10⟩ := named (str ((s.data.toList.drop 10).take 8))
  rw [← HS10.out] at hx10
  obtain ⟨n10, Hn10⟩ := named (atL s.data.toList 10 8)
  have hg10 : ∀ u, Calls Try.prog 102 #[.string S10] u fun e w' => e = .returned (.tuple #[.int .u64 (n10 : Int), .int .i64 0]) ∧ u = w' := fun u => by
    have hlen : S10.data.toList.length = 8 := by rw [HS10.out, str_data, List.length_take, List.length_drop, hl]; omega
    have hgot := got_yes 8 S10.data.toList hlen
    have := refget64_w S10 u (by rw [show S10.size = S10.data.toList.length from rfl, hlen]; decide)
    rw [hgot.1, hgot.2, HS10.out, str_data] at this
    rw [HS10.out, Hn10.out]
    exact this
  have hx18 : s.extract 18 22 = str ((s.data.toList.drop 18).take 4) := extract_str s 18 22
  obtain ⟨S18, HS18⟩ := named (str ((s.data.toList.drop 18).take 4))
  rw [← HS18.out] at hx18
  obtain ⟨n18, Hn18⟩ := named (atL s.data.toList 18 4)
  have hg18 : ∀ u, Calls Try.prog 103 #[.string S18] u fun e w' => e = .returned (.tuple #[.int .u32 (n18 : Int), .int .i64 0]) ∧ u = w' := fun u => by
    have hlen : S18.data.toList.length = 4 := by rw [HS18.out, str_data, List.length_take, List.length_drop, hl]; omega
    have hgot := got_yes 4 S18.data.toList hlen
    have := refget32_w S18 u (by rw [show S18.size = S18.data.toList.length from rfl, hlen]; decide)
    rw [hgot.1, hgot.2, HS18.out, str_data] at this
    rw [HS18.out, Hn18.out]
    exact this
  have hx22 : s.extract 22 26 = str ((s.data.toList.drop 22).take 4) := extract_str s 22 26
  obtain ⟨S22, HS22⟩ := named (str ((s.data.toList.drop 22).take 4))
  rw [← HS22.out] at hx22
  obtain ⟨n22, Hn22⟩ := named (atL s.data.toList 22 4)
  have hg22 : ∀ u, Calls Try.prog 103 #[.string S22] u fun e w' => e = .returned (.tuple #[.int .u32 (n22 : Int), .int .i64 0]) ∧ u = w' := fun u => by
    have hlen : S22.data.toList.length = 4 := by rw [HS22.out, str_data, List.length_take, List.length_drop, hl]; omega
    have hgot := got_yes 4 S22.data.toList hlen
    have := refget32_w S22 u (by rw [show S22.size = S22.data.toList.length from rfl, hlen]; decide)
    rw [hgot.1, hgot.2, HS22.out, str_data] at this
    rw [HS22.out, Hn22.out]
    exact this
  have b2 : n2 < 18446744073709551616 := by rw [Hn2.out]; exact getL_le _ (by rw [List.length_take]; omega)
  have b10 : n10 < 18446744073709551616 := by rw [Hn10.out]; exact getL_le _ (by rw [List.length_take]; omega)
  have b18 : n18 < 4294967296 := by
    rw [Hn18.out]
    have := getL_lt ((s.data.toList.drop 18).take 4)
    rw [show ((s.data.toList.drop 18).take 4).length = 4 by rw [List.length_take, List.length_drop, hl]; omega] at this
    exact Nat.lt_of_lt_of_eq this (by decide)
  have b22 : n22 < 4294967296 := by
    rw [Hn22.out]
    have := getL_lt ((s.data.toList.drop 22).take 4)
    rw [show ((s.data.toList.drop 22).take 4).length = 4 by rw [List.length_take, List.length_drop, hl]; omega] at this
    exact Nat.lt_of_lt_of_eq this (by decide)
  have hfirst := fun u => refFirst_w s1 n2 n10 n18 n22 u b18 b2 b10 b22
  have hwr : IntKind.i64.wrap (n18 : Int) = (n18 : Int) := wrap_i64_nat' n18 (by omega)
  have hF : (str (headL s1 n2 n10 n18 n22)).toList = s.toList ↔ headL (s.data.toList.getD 1 0) (atL s.data.toList 2 8) (atL s.data.toList 10 8) (atL s.data.toList 18 4) (atL s.data.toList 22 4) = s.data.toList := by
    rw [str_toList, ByteArray.toList_eq, g1, ← Hn2.out, ← Hn10.out, ← Hn18.out, ← Hn22.out]
  obtain ⟨FF, HFF⟩ := named (str (headL s1 n2 n10 n18 n22))
  rw [← HFF.out] at hfirst hF
  have hb1 : ((s1.toNat : Int) == 0) = true := by
    have : s1 = 0 := by rw [← g1]; exact h1
    subst this; rfl
  clear h1 g1 hl h Hn2 Hn10 Hn18 Hn22 HS2 HS10 HS18 HS22 HFF hF b2 b10 b18 b22
  have hK := blk_head w
  have hb := below_alloc w (.cells #[.int .u8 0, .int .u64 0, .int .u64 0, .int .i64 0, .int .u32 0] 87)
  go_enter Try.func92, Try.ntmps92
  go_wp2_with fail
  refine (hg2 _).mono ?_
  rintro e w2 ⟨rfl, rfl⟩
  go_wp2_with fail
  refine (hg10 _).mono ?_
  rintro e w2 ⟨rfl, rfl⟩
  go_wp2_with fail
  refine (hg18 _).mono ?_
  rintro e w2 ⟨rfl, rfl⟩
  go_wp2_with fail
  refine (hg22 _).mono ?_
  rintro e w2 ⟨rfl, rfl⟩
  have kb := Blk.new (w.alloc (.cells #[.int .u8 0, .int .u64 0, .int .u64 0, .int .i64 0, .int .u32 0] 87)) [.int .u8 (s1.toNat : Int), .int .u64 (n2 : Int), .int .u64 (n10 : Int), .int .i64 (n18 : Int), .int .u32 (n22 : Int)] 87
  have k5 := hK.alloc (.cells #[.int .u8 (s1.toNat : Int), .int .u64 (n2 : Int), .int .u64 (n10 : Int), .int .i64 (n18 : Int), .int .u32 (n22 : Int)] 87)
  have b5 := hb.alloc hb.size (.cells #[.int .u8 (s1.toNat : Int), .int .u64 (n2 : Int), .int .u64 (n10 : Int), .int .i64 (n18 : Int), .int .u32 (n22 : Int)] 87)
  have hsz' : (w.alloc (.cells #[.int .u8 0, .int .u64 0, .int .u64 0, .int .i64 0, .int .u32 0] 87)).heap.size = w.heap.size + 1 := by simp
  rw [hsz'] at kb
  clear hsz' hK hb
  go_upto_region 8 with fail
  obtain ⟨W5, HW5⟩ := named ((w.alloc (.cells #[.int .u8 0, .int .u64 0, .int .u64 0, .int .i64 0, .int .u32 0] 87)).alloc (.cells #[.int .u8 (s1.toNat : Int), .int .u64 (n2 : Int), .int .u64 (n10 : Int), .int .i64 (n18 : Int), .int .u32 (n22 : Int)] 87))
  rw [← HW5.out] at kb k5 b5 ⊢
  clear HW5
  have y := kb.cell
  have r0 := k5.cell 0
  have r1 := k5.cell 1
  have r2 := k5.cell 2
  have r3 := k5.cell 3
  have r4 := k5.cell 4
  have z0 := k5.free 0
  have z1 := k5.free 1
  have z2 := k5.free 2
  have z3 := k5.free 3
  have z4 := k5.free 4
  go_wp2
  refine bodyPost_ret (v := .tuple #[.agg #[.int .u8 0, .int .u64 0, .int .u64 0, .int .i64 0, .int .u32 0], .int .i64 14]) (by simp [results, Try.results92, go_sem, r0, r1, r2, r3, r4]) rfl ?_
  exact ⟨rfl, below5 b5 (Nat.le_refl _) (.int .u8 0) (.int .u64 0) (.int .u64 0) (.int .i64 0) (.int .u32 0)⟩
set_option maxHeartbeats 4000000 in
set_option maxRecDepth 100000 in
theorem refHead_C (s : ByteArray) (w : World) (h : s.size = 64) (h1 : s.data.toList.getD 1 0 ≠ 0) (h2 : 16384 < atL s.data.toList 18 4) :
    Calls Try.prog 92 #[.string s] w fun e w' => e = .returned (.tuple #[.agg #[.int .u8 0, .int .u64 0, .int .u64 0, .int .i64 0, .int .u32 0], .int .i64 14]) ∧ Below w.heap.size w w' := by
  have hl : s.data.toList.length = s.size := Array.length_toList
  have hne : ((s.size : Int) != 64) = false := by simp; omega
  have hszn1 : 1 < s.size := by omega
  have hsz1 : (1 : Int) < (s.size : Int) := by omega
  have hz26 : (26 : Int) ≤ (s.size : Int) := by omega
  have hz22 : (22 : Int) ≤ (s.size : Int) := by omega
  have hz18 : (18 : Int) ≤ (s.size : Int) := by omega
  have hz10 : (10 : Int) ≤ (s.size : Int) := by omega
  have hz2 : (2 : Int) ≤ (s.size : Int) := by omega
  obtain ⟨s1, e1⟩ : ∃ x, s[1] = x := ⟨_, rfl⟩
  have g1 : s.data.toList.getD 1 0 = s1 := by rw [← e1, List.getD_eq_getElem?_getD, List.getElem?_eq_getElem (by omega)]; rfl
  have hx2 : s.extract 2 10 = str ((s.data.toList.drop 2).take 8) := extract_str s 2 10
  obtain ⟨S2, HS2⟩ := named (str ((s.data.toList.drop 2).take 8))
  rw [← HS2.out] at hx2
  obtain ⟨n2, Hn2⟩ := named (atL s.data.toList 2 8)
  have hg2 : ∀ u, Calls Try.prog 102 #[.string S2] u fun e w' => e = .returned (.tuple #[.int .u64 (n2 : Int), .int .i64 0]) ∧ u = w' := fun u => by
    have hlen : S2.data.toList.length = 8 := by rw [HS2.out, str_data, List.length_take, List.length_drop, hl]; omega
    have hgot := got_yes 8 S2.data.toList hlen
    have := refget64_w S2 u (by rw [show S2.size = S2.data.toList.length from rfl, hlen]; decide)
    rw [hgot.1, hgot.2, HS2.out, str_data] at this
    rw [HS2.out, Hn2.out]
    exact this
  have hx10 : s.extract 10 18 = str ((s.data.toList.drop 10).take 8) := extract_str s 10 18
  obtain ⟨S10, HS10⟩ := named (str ((s.data.toList.drop 10).take 8))
  rw [← HS10.out] at hx10
  obtain ⟨n10, Hn10⟩ := named (atL s.data.toList 10 8)
  have hg10 : ∀ u, Calls Try.prog 102 #[.string S10] u fun e w' => e = .returned (.tuple #[.int .u64 (n10 : Int), .int .i64 0]) ∧ u = w' := fun u => by
    have hlen : S10.data.toList.length = 8 := by rw [HS10.out, str_data, List.length_take, List.length_drop, hl]; omega
    have hgot := got_yes 8 S10.data.toList hlen
    have := refget64_w S10 u (by rw [show S10.size = S10.data.toList.length from rfl, hlen]; decide)
    rw [hgot.1, hgot.2, HS10.out, str_data] at this
    rw [HS10.out, Hn10.out]
    exact this
  have hx18 : s.extract 18 22 = str ((s.data.toList.drop 18).take 4) := extract_str s 18 22
  obtain ⟨S18, HS18⟩ := named (str ((s.data.toList.drop 18).take 4))
  rw [← HS18.out] at hx18
  obtain ⟨n18, Hn18⟩ := named (atL s.data.toList 18 4)
  have hg18 : ∀ u, Calls Try.prog 103 #[.string S18] u fun e w' => e = .returned (.tuple #[.int .u32 (n18 : Int), .int .i64 0]) ∧ u = w' := fun u => by
    have hlen : S18.data.toList.length = 4 := by rw [HS18.out, str_data, List.length_take, List.length_drop, hl]; omega
    have hgot := got_yes 4 S18.data.toList hlen
    have := refget32_w S18 u (by rw [show S18.size = S18.data.toList.length from rfl, hlen]; decide)
    rw [hgot.1, hgot.2, HS18.out, str_data] at this
    rw [HS18.out, Hn18.out]
    exact this
  have hx22 : s.extract 22 26 = str ((s.data.toList.drop 22).take 4) := extract_str s 22 26
  obtain ⟨S22, HS22⟩ := named (str ((s.data.toList.drop 22).take 4))
  rw [← HS22.out] at hx22
  obtain ⟨n22, Hn22⟩ := named (atL s.data.toList 22 4)
  have hg22 : ∀ u, Calls Try.prog 103 #[.string S22] u fun e w' => e = .returned (.tuple #[.int .u32 (n22 : Int), .int .i64 0]) ∧ u = w' := fun u => by
    have hlen : S22.data.toList.length = 4 := by rw [HS22.out, str_data, List.length_take, List.length_drop, hl]; omega
    have hgot := got_yes 4 S22.data.toList hlen
    have := refget32_w S22 u (by rw [show S22.size = S22.data.toList.length from rfl, hlen]; decide)
    rw [hgot.1, hgot.2, HS22.out, str_data] at this
    rw [HS22.out, Hn22.out]
    exact this
  have b2 : n2 < 18446744073709551616 := by rw [Hn2.out]; exact getL_le _ (by rw [List.length_take]; omega)
  have b10 : n10 < 18446744073709551616 := by rw [Hn10.out]; exact getL_le _ (by rw [List.length_take]; omega)
  have b18 : n18 < 4294967296 := by
    rw [Hn18.out]
    have := getL_lt ((s.data.toList.drop 18).take 4)
    rw [show ((s.data.toList.drop 18).take 4).length = 4 by rw [List.length_take, List.length_drop, hl]; omega] at this
    exact Nat.lt_of_lt_of_eq this (by decide)
  have b22 : n22 < 4294967296 := by
    rw [Hn22.out]
    have := getL_lt ((s.data.toList.drop 22).take 4)
    rw [show ((s.data.toList.drop 22).take 4).length = 4 by rw [List.length_take, List.length_drop, hl]; omega] at this
    exact Nat.lt_of_lt_of_eq this (by decide)
  have hfirst := fun u => refFirst_w s1 n2 n10 n18 n22 u b18 b2 b10 b22
  have hwr : IntKind.i64.wrap (n18 : Int) = (n18 : Int) := wrap_i64_nat' n18 (by omega)
  have hF : (str (headL s1 n2 n10 n18 n22)).toList = s.toList ↔ headL (s.data.toList.getD 1 0) (atL s.data.toList 2 8) (atL s.data.toList 10 8) (atL s.data.toList 18 4) (atL s.data.toList 22 4) = s.data.toList := by
    rw [str_toList, ByteArray.toList_eq, g1, ← Hn2.out, ← Hn10.out, ← Hn18.out, ← Hn22.out]
  obtain ⟨FF, HFF⟩ := named (str (headL s1 n2 n10 n18 n22))
  rw [← HFF.out] at hfirst hF
  have hb1 : ((s1.toNat : Int) == 0) = false := by
    have : s1.toNat ≠ 0 := fun e => h1 (by rw [g1]; exact UInt8.toNat_inj.1 e)
    simp; omega
  have hmax : (16384 : Int) < (n18 : Int) := by rw [Hn18.out]; omega
  clear h1 h2 g1 hl h Hn2 Hn10 Hn18 Hn22 HS2 HS10 HS18 HS22 HFF hF b2 b10 b18 b22
  have hK := blk_head w
  have hb := below_alloc w (.cells #[.int .u8 0, .int .u64 0, .int .u64 0, .int .i64 0, .int .u32 0] 87)
  go_enter Try.func92, Try.ntmps92
  go_wp2_with fail
  refine (hg2 _).mono ?_
  rintro e w2 ⟨rfl, rfl⟩
  go_wp2_with fail
  refine (hg10 _).mono ?_
  rintro e w2 ⟨rfl, rfl⟩
  go_wp2_with fail
  refine (hg18 _).mono ?_
  rintro e w2 ⟨rfl, rfl⟩
  go_wp2_with fail
  refine (hg22 _).mono ?_
  rintro e w2 ⟨rfl, rfl⟩
  have kb := Blk.new (w.alloc (.cells #[.int .u8 0, .int .u64 0, .int .u64 0, .int .i64 0, .int .u32 0] 87)) [.int .u8 (s1.toNat : Int), .int .u64 (n2 : Int), .int .u64 (n10 : Int), .int .i64 (n18 : Int), .int .u32 (n22 : Int)] 87
  have k5 := hK.alloc (.cells #[.int .u8 (s1.toNat : Int), .int .u64 (n2 : Int), .int .u64 (n10 : Int), .int .i64 (n18 : Int), .int .u32 (n22 : Int)] 87)
  have b5 := hb.alloc hb.size (.cells #[.int .u8 (s1.toNat : Int), .int .u64 (n2 : Int), .int .u64 (n10 : Int), .int .i64 (n18 : Int), .int .u32 (n22 : Int)] 87)
  have hsz' : (w.alloc (.cells #[.int .u8 0, .int .u64 0, .int .u64 0, .int .i64 0, .int .u32 0] 87)).heap.size = w.heap.size + 1 := by simp
  rw [hsz'] at kb
  clear hsz' hK hb
  go_upto_region 8 with fail
  obtain ⟨W5, HW5⟩ := named ((w.alloc (.cells #[.int .u8 0, .int .u64 0, .int .u64 0, .int .i64 0, .int .u32 0] 87)).alloc (.cells #[.int .u8 (s1.toNat : Int), .int .u64 (n2 : Int), .int .u64 (n10 : Int), .int .i64 (n18 : Int), .int .u32 (n22 : Int)] 87))
  rw [← HW5.out] at kb k5 b5 ⊢
  clear HW5
  have y := kb.cell
  have r0 := k5.cell 0
  have r1 := k5.cell 1
  have r2 := k5.cell 2
  have r3 := k5.cell 3
  have r4 := k5.cell 4
  have z0 := k5.free 0
  have z1 := k5.free 1
  have z2 := k5.free 2
  have z3 := k5.free 3
  have z4 := k5.free 4
  go_wp2
  refine bodyPost_ret (v := .tuple #[.agg #[.int .u8 0, .int .u64 0, .int .u64 0, .int .i64 0, .int .u32 0], .int .i64 14]) (by simp [results, Try.results92, go_sem, r0, r1, r2, r3, r4]) rfl ?_
  exact ⟨rfl, below5 b5 (Nat.le_refl _) (.int .u8 0) (.int .u64 0) (.int .u64 0) (.int .i64 0) (.int .u32 0)⟩
set_option maxHeartbeats 4000000 in
set_option maxRecDepth 100000 in
theorem refHead_D (s : ByteArray) (w : World) (h : s.size = 64) (h1 : s.data.toList.getD 1 0 ≠ 0) (h2 : atL s.data.toList 18 4 ≤ 16384) (h3 : headL (s.data.toList.getD 1 0) (atL s.data.toList 2 8) (atL s.data.toList 10 8) (atL s.data.toList 18 4) (atL s.data.toList 22 4) ≠ s.data.toList) :
    Calls Try.prog 92 #[.string s] w fun e w' => e = .returned (.tuple #[.agg #[.int .u8 0, .int .u64 0, .int .u64 0, .int .i64 0, .int .u32 0], .int .i64 14]) ∧ Below w.heap.size w w' := by
  have hl : s.data.toList.length = s.size := Array.length_toList
  have hne : ((s.size : Int) != 64) = false := by simp; omega
  have hszn1 : 1 < s.size := by omega
  have hsz1 : (1 : Int) < (s.size : Int) := by omega
  have hz26 : (26 : Int) ≤ (s.size : Int) := by omega
  have hz22 : (22 : Int) ≤ (s.size : Int) := by omega
  have hz18 : (18 : Int) ≤ (s.size : Int) := by omega
  have hz10 : (10 : Int) ≤ (s.size : Int) := by omega
  have hz2 : (2 : Int) ≤ (s.size : Int) := by omega
  obtain ⟨s1, e1⟩ : ∃ x, s[1] = x := ⟨_, rfl⟩
  have g1 : s.data.toList.getD 1 0 = s1 := by rw [← e1, List.getD_eq_getElem?_getD, List.getElem?_eq_getElem (by omega)]; rfl
  have hx2 : s.extract 2 10 = str ((s.data.toList.drop 2).take 8) := extract_str s 2 10
  obtain ⟨S2, HS2⟩ := named (str ((s.data.toList.drop 2).take 8))
  rw [← HS2.out] at hx2
  obtain ⟨n2, Hn2⟩ := named (atL s.data.toList 2 8)
  have hg2 : ∀ u, Calls Try.prog 102 #[.string S2] u fun e w' => e = .returned (.tuple #[.int .u64 (n2 : Int), .int .i64 0]) ∧ u = w' := fun u => by
    have hlen : S2.data.toList.length = 8 := by rw [HS2.out, str_data, List.length_take, List.length_drop, hl]; omega
    have hgot := got_yes 8 S2.data.toList hlen
    have := refget64_w S2 u (by rw [show S2.size = S2.data.toList.length from rfl, hlen]; decide)
    rw [hgot.1, hgot.2, HS2.out, str_data] at this
    rw [HS2.out, Hn2.out]
    exact this
  have hx10 : s.extract 10 18 = str ((s.data.toList.drop 10).take 8) := extract_str s 10 18
  obtain ⟨S10, HS10⟩ := named (str ((s.data.toList.drop 10).take 8))
  rw [← HS10.out] at hx10
  obtain ⟨n10, Hn10⟩ := named (atL s.data.toList 10 8)
  have hg10 : ∀ u, Calls Try.prog 102 #[.string S10] u fun e w' => e = .returned (.tuple #[.int .u64 (n10 : Int), .int .i64 0]) ∧ u = w' := fun u => by
    have hlen : S10.data.toList.length = 8 := by rw [HS10.out, str_data, List.length_take, List.length_drop, hl]; omega
    have hgot := got_yes 8 S10.data.toList hlen
    have := refget64_w S10 u (by rw [show S10.size = S10.data.toList.length from rfl, hlen]; decide)
    rw [hgot.1, hgot.2, HS10.out, str_data] at this
    rw [HS10.out, Hn10.out]
    exact this
  have hx18 : s.extract 18 22 = str ((s.data.toList.drop 18).take 4) := extract_str s 18 22
  obtain ⟨S18, HS18⟩ := named (str ((s.data.toList.drop 18).take 4))
  rw [← HS18.out] at hx18
  obtain ⟨n18, Hn18⟩ := named (atL s.data.toList 18 4)
  have hg18 : ∀ u, Calls Try.prog 103 #[.string S18] u fun e w' => e = .returned (.tuple #[.int .u32 (n18 : Int), .int .i64 0]) ∧ u = w' := fun u => by
    have hlen : S18.data.toList.length = 4 := by rw [HS18.out, str_data, List.length_take, List.length_drop, hl]; omega
    have hgot := got_yes 4 S18.data.toList hlen
    have := refget32_w S18 u (by rw [show S18.size = S18.data.toList.length from rfl, hlen]; decide)
    rw [hgot.1, hgot.2, HS18.out, str_data] at this
    rw [HS18.out, Hn18.out]
    exact this
  have hx22 : s.extract 22 26 = str ((s.data.toList.drop 22).take 4) := extract_str s 22 26
  obtain ⟨S22, HS22⟩ := named (str ((s.data.toList.drop 22).take 4))
  rw [← HS22.out] at hx22
  obtain ⟨n22, Hn22⟩ := named (atL s.data.toList 22 4)
  have hg22 : ∀ u, Calls Try.prog 103 #[.string S22] u fun e w' => e = .returned (.tuple #[.int .u32 (n22 : Int), .int .i64 0]) ∧ u = w' := fun u => by
    have hlen : S22.data.toList.length = 4 := by rw [HS22.out, str_data, List.length_take, List.length_drop, hl]; omega
    have hgot := got_yes 4 S22.data.toList hlen
    have := refget32_w S22 u (by rw [show S22.size = S22.data.toList.length from rfl, hlen]; decide)
    rw [hgot.1, hgot.2, HS22.out, str_data] at this
    rw [HS22.out, Hn22.out]
    exact this
  have b2 : n2 < 18446744073709551616 := by rw [Hn2.out]; exact getL_le _ (by rw [List.length_take]; omega)
  have b10 : n10 < 18446744073709551616 := by rw [Hn10.out]; exact getL_le _ (by rw [List.length_take]; omega)
  have b18 : n18 < 4294967296 := by
    rw [Hn18.out]
    have := getL_lt ((s.data.toList.drop 18).take 4)
    rw [show ((s.data.toList.drop 18).take 4).length = 4 by rw [List.length_take, List.length_drop, hl]; omega] at this
    exact Nat.lt_of_lt_of_eq this (by decide)
  have b22 : n22 < 4294967296 := by
    rw [Hn22.out]
    have := getL_lt ((s.data.toList.drop 22).take 4)
    rw [show ((s.data.toList.drop 22).take 4).length = 4 by rw [List.length_take, List.length_drop, hl]; omega] at this
    exact Nat.lt_of_lt_of_eq this (by decide)
  have hfirst := fun u => refFirst_w s1 n2 n10 n18 n22 u b18 b2 b10 b22
  have hwr : IntKind.i64.wrap (n18 : Int) = (n18 : Int) := wrap_i64_nat' n18 (by omega)
  have hF : (str (headL s1 n2 n10 n18 n22)).toList = s.toList ↔ headL (s.data.toList.getD 1 0) (atL s.data.toList 2 8) (atL s.data.toList 10 8) (atL s.data.toList 18 4) (atL s.data.toList 22 4) = s.data.toList := by
    rw [str_toList, ByteArray.toList_eq, g1, ← Hn2.out, ← Hn10.out, ← Hn18.out, ← Hn22.out]
  obtain ⟨FF, HFF⟩ := named (str (headL s1 n2 n10 n18 n22))
  rw [← HFF.out] at hfirst hF
  have hb1 : ((s1.toNat : Int) == 0) = false := by
    have : s1.toNat ≠ 0 := fun e => h1 (by rw [g1]; exact UInt8.toNat_inj.1 e)
    simp; omega
  have hmax : (n18 : Int) ≤ 16384 := by rw [Hn18.out]; omega
  have hbF : (FF.toList == s.toList) = false := beq_false_of_ne fun e => h3 (hF.1 e)
  clear h1 h2 h3 g1 hl h Hn2 Hn10 Hn18 Hn22 HS2 HS10 HS18 HS22 HFF hF b2 b10 b18 b22
  have hK := blk_head w
  have hb := below_alloc w (.cells #[.int .u8 0, .int .u64 0, .int .u64 0, .int .i64 0, .int .u32 0] 87)
  go_enter Try.func92, Try.ntmps92
  go_wp2_with fail
  refine (hg2 _).mono ?_
  rintro e w2 ⟨rfl, rfl⟩
  go_wp2_with fail
  refine (hg10 _).mono ?_
  rintro e w2 ⟨rfl, rfl⟩
  go_wp2_with fail
  refine (hg18 _).mono ?_
  rintro e w2 ⟨rfl, rfl⟩
  go_wp2_with fail
  refine (hg22 _).mono ?_
  rintro e w2 ⟨rfl, rfl⟩
  have kb := Blk.new (w.alloc (.cells #[.int .u8 0, .int .u64 0, .int .u64 0, .int .i64 0, .int .u32 0] 87)) [.int .u8 (s1.toNat : Int), .int .u64 (n2 : Int), .int .u64 (n10 : Int), .int .i64 (n18 : Int), .int .u32 (n22 : Int)] 87
  have k5 := hK.alloc (.cells #[.int .u8 (s1.toNat : Int), .int .u64 (n2 : Int), .int .u64 (n10 : Int), .int .i64 (n18 : Int), .int .u32 (n22 : Int)] 87)
  have b5 := hb.alloc hb.size (.cells #[.int .u8 (s1.toNat : Int), .int .u64 (n2 : Int), .int .u64 (n10 : Int), .int .i64 (n18 : Int), .int .u32 (n22 : Int)] 87)
  have hsz' : (w.alloc (.cells #[.int .u8 0, .int .u64 0, .int .u64 0, .int .i64 0, .int .u32 0] 87)).heap.size = w.heap.size + 1 := by simp
  rw [hsz'] at kb
  clear hsz' hK hb
  have y := kb.cell
  go_wp2_with fail
  obtain ⟨W5, HW5⟩ := named ((w.alloc (.cells #[.int .u8 0, .int .u64 0, .int .u64 0, .int .i64 0, .int .u32 0] 87)).alloc (.cells #[.int .u8 (s1.toNat : Int), .int .u64 (n2 : Int), .int .u64 (n10 : Int), .int .i64 (n18 : Int), .int .u32 (n22 : Int)] 87))
  rw [← HW5.out] at kb k5 b5 ⊢
  clear HW5
  refine (hfirst _).mono ?_
  rintro e w6 ⟨rfl, hb6⟩
  have k6 := k5.below hb6
  have b6 := bt b5 hb6
  clear y k5 b5 kb hb6
  have r0 := k6.cell 0
  have r1 := k6.cell 1
  have r2 := k6.cell 2
  have r3 := k6.cell 3
  have r4 := k6.cell 4
  have z0 := k6.free 0
  have z1 := k6.free 1
  have z2 := k6.free 2
  have z3 := k6.free 3
  have z4 := k6.free 4
  go_wp2
  refine bodyPost_ret (v := .tuple #[.agg #[.int .u8 0, .int .u64 0, .int .u64 0, .int .i64 0, .int .u32 0], .int .i64 14]) (by simp [results, Try.results92, go_sem, r0, r1, r2, r3, r4]) rfl ?_
  exact ⟨rfl, below5 b6 (Nat.le_refl _) (.int .u8 0) (.int .u64 0) (.int .u64 0) (.int .i64 0) (.int .u32 0)⟩
set_option maxHeartbeats 4000000 in
set_option maxRecDepth 100000 in
theorem refHead_yes (s : ByteArray) (w : World) (hok : HeadOk s.data.toList) :
    Calls Try.prog 92 #[.string s] w fun e w' => e = .returned (.tuple #[headVal s.data.toList, .int .i64 0]) ∧ Below w.heap.size w w' := by
  have h : s.size = 64 := by rw [← show s.data.toList.length = s.size from Array.length_toList]; exact hok.size
  have h1 := hok.kind
  have h2 := hok.len
  have h3 := head_of_ok hok
  have hl : s.data.toList.length = s.size := Array.length_toList
  have hne : ((s.size : Int) != 64) = false := by simp; omega
  have hszn1 : 1 < s.size := by omega
  have hsz1 : (1 : Int) < (s.size : Int) := by omega
  have hz26 : (26 : Int) ≤ (s.size : Int) := by omega
  have hz22 : (22 : Int) ≤ (s.size : Int) := by omega
  have hz18 : (18 : Int) ≤ (s.size : Int) := by omega
  have hz10 : (10 : Int) ≤ (s.size : Int) := by omega
  have hz2 : (2 : Int) ≤ (s.size : Int) := by omega
  obtain ⟨s1, e1⟩ : ∃ x, s[1] = x := ⟨_, rfl⟩
  have g1 : s.data.toList.getD 1 0 = s1 := by rw [← e1, List.getD_eq_getElem?_getD, List.getElem?_eq_getElem (by omega)]; rfl
  have hx2 : s.extract 2 10 = str ((s.data.toList.drop 2).take 8) := extract_str s 2 10
  obtain ⟨S2, HS2⟩ := named (str ((s.data.toList.drop 2).take 8))
  rw [← HS2.out] at hx2
  obtain ⟨n2, Hn2⟩ := named (atL s.data.toList 2 8)
  have hg2 : ∀ u, Calls Try.prog 102 #[.string S2] u fun e w' => e = .returned (.tuple #[.int .u64 (n2 : Int), .int .i64 0]) ∧ u = w' := fun u => by
    have hlen : S2.data.toList.length = 8 := by rw [HS2.out, str_data, List.length_take, List.length_drop, hl]; omega
    have hgot := got_yes 8 S2.data.toList hlen
    have := refget64_w S2 u (by rw [show S2.size = S2.data.toList.length from rfl, hlen]; decide)
    rw [hgot.1, hgot.2, HS2.out, str_data] at this
    rw [HS2.out, Hn2.out]
    exact this
  have hx10 : s.extract 10 18 = str ((s.data.toList.drop 10).take 8) := extract_str s 10 18
  obtain ⟨S10, HS10⟩ := named (str ((s.data.toList.drop 10).take 8))
  rw [← HS10.out] at hx10
  obtain ⟨n10, Hn10⟩ := named (atL s.data.toList 10 8)
  have hg10 : ∀ u, Calls Try.prog 102 #[.string S10] u fun e w' => e = .returned (.tuple #[.int .u64 (n10 : Int), .int .i64 0]) ∧ u = w' := fun u => by
    have hlen : S10.data.toList.length = 8 := by rw [HS10.out, str_data, List.length_take, List.length_drop, hl]; omega
    have hgot := got_yes 8 S10.data.toList hlen
    have := refget64_w S10 u (by rw [show S10.size = S10.data.toList.length from rfl, hlen]; decide)
    rw [hgot.1, hgot.2, HS10.out, str_data] at this
    rw [HS10.out, Hn10.out]
    exact this
  have hx18 : s.extract 18 22 = str ((s.data.toList.drop 18).take 4) := extract_str s 18 22
  obtain ⟨S18, HS18⟩ := named (str ((s.data.toList.drop 18).take 4))
  rw [← HS18.out] at hx18
  obtain ⟨n18, Hn18⟩ := named (atL s.data.toList 18 4)
  have hg18 : ∀ u, Calls Try.prog 103 #[.string S18] u fun e w' => e = .returned (.tuple #[.int .u32 (n18 : Int), .int .i64 0]) ∧ u = w' := fun u => by
    have hlen : S18.data.toList.length = 4 := by rw [HS18.out, str_data, List.length_take, List.length_drop, hl]; omega
    have hgot := got_yes 4 S18.data.toList hlen
    have := refget32_w S18 u (by rw [show S18.size = S18.data.toList.length from rfl, hlen]; decide)
    rw [hgot.1, hgot.2, HS18.out, str_data] at this
    rw [HS18.out, Hn18.out]
    exact this
  have hx22 : s.extract 22 26 = str ((s.data.toList.drop 22).take 4) := extract_str s 22 26
  obtain ⟨S22, HS22⟩ := named (str ((s.data.toList.drop 22).take 4))
  rw [← HS22.out] at hx22
  obtain ⟨n22, Hn22⟩ := named (atL s.data.toList 22 4)
  have hg22 : ∀ u, Calls Try.prog 103 #[.string S22] u fun e w' => e = .returned (.tuple #[.int .u32 (n22 : Int), .int .i64 0]) ∧ u = w' := fun u => by
    have hlen : S22.data.toList.length = 4 := by rw [HS22.out, str_data, List.length_take, List.length_drop, hl]; omega
    have hgot := got_yes 4 S22.data.toList hlen
    have := refget32_w S22 u (by rw [show S22.size = S22.data.toList.length from rfl, hlen]; decide)
    rw [hgot.1, hgot.2, HS22.out, str_data] at this
    rw [HS22.out, Hn22.out]
    exact this
  have b2 : n2 < 18446744073709551616 := by rw [Hn2.out]; exact getL_le _ (by rw [List.length_take]; omega)
  have b10 : n10 < 18446744073709551616 := by rw [Hn10.out]; exact getL_le _ (by rw [List.length_take]; omega)
  have b18 : n18 < 4294967296 := by
    rw [Hn18.out]
    have := getL_lt ((s.data.toList.drop 18).take 4)
    rw [show ((s.data.toList.drop 18).take 4).length = 4 by rw [List.length_take, List.length_drop, hl]; omega] at this
    exact Nat.lt_of_lt_of_eq this (by decide)
  have b22 : n22 < 4294967296 := by
    rw [Hn22.out]
    have := getL_lt ((s.data.toList.drop 22).take 4)
    rw [show ((s.data.toList.drop 22).take 4).length = 4 by rw [List.length_take, List.length_drop, hl]; omega] at this
    exact Nat.lt_of_lt_of_eq this (by decide)
  have hfirst := fun u => refFirst_w s1 n2 n10 n18 n22 u b18 b2 b10 b22
  have hwr : IntKind.i64.wrap (n18 : Int) = (n18 : Int) := wrap_i64_nat' n18 (by omega)
  have hF : (str (headL s1 n2 n10 n18 n22)).toList = s.toList ↔ headL (s.data.toList.getD 1 0) (atL s.data.toList 2 8) (atL s.data.toList 10 8) (atL s.data.toList 18 4) (atL s.data.toList 22 4) = s.data.toList := by
    rw [str_toList, ByteArray.toList_eq, g1, ← Hn2.out, ← Hn10.out, ← Hn18.out, ← Hn22.out]
  obtain ⟨FF, HFF⟩ := named (str (headL s1 n2 n10 n18 n22))
  rw [← HFF.out] at hfirst hF
  have hb1 : ((s1.toNat : Int) == 0) = false := by
    have : s1.toNat ≠ 0 := fun e => h1 (by rw [g1]; exact UInt8.toNat_inj.1 e)
    simp; omega
  have hmax : (n18 : Int) ≤ 16384 := by rw [Hn18.out]; omega
  have hbF : (FF.toList == s.toList) = true := by rw [hF.2 h3]; simp
  have hres : headVal s.data.toList = .agg #[.int .u8 (s1.toNat : Int), .int .u64 (n2 : Int), .int .u64 (n10 : Int), .int .i64 (n18 : Int), .int .u32 (n22 : Int)] := by
    rw [headVal, g1, Hn2.out, Hn10.out, Hn18.out, Hn22.out]
  rw [hres]
  clear hres hok
  clear h1 h2 h3 g1 hl h Hn2 Hn10 Hn18 Hn22 HS2 HS10 HS18 HS22 HFF hF b2 b10 b18 b22
  have hK := blk_head w
  have hb := below_alloc w (.cells #[.int .u8 0, .int .u64 0, .int .u64 0, .int .i64 0, .int .u32 0] 87)
  go_enter Try.func92, Try.ntmps92
  go_wp2_with fail
  refine (hg2 _).mono ?_
  rintro e w2 ⟨rfl, rfl⟩
  go_wp2_with fail
  refine (hg10 _).mono ?_
  rintro e w2 ⟨rfl, rfl⟩
  go_wp2_with fail
  refine (hg18 _).mono ?_
  rintro e w2 ⟨rfl, rfl⟩
  go_wp2_with fail
  refine (hg22 _).mono ?_
  rintro e w2 ⟨rfl, rfl⟩
  have kb := Blk.new (w.alloc (.cells #[.int .u8 0, .int .u64 0, .int .u64 0, .int .i64 0, .int .u32 0] 87)) [.int .u8 (s1.toNat : Int), .int .u64 (n2 : Int), .int .u64 (n10 : Int), .int .i64 (n18 : Int), .int .u32 (n22 : Int)] 87
  have k5 := hK.alloc (.cells #[.int .u8 (s1.toNat : Int), .int .u64 (n2 : Int), .int .u64 (n10 : Int), .int .i64 (n18 : Int), .int .u32 (n22 : Int)] 87)
  have b5 := hb.alloc hb.size (.cells #[.int .u8 (s1.toNat : Int), .int .u64 (n2 : Int), .int .u64 (n10 : Int), .int .i64 (n18 : Int), .int .u32 (n22 : Int)] 87)
  have hsz' : (w.alloc (.cells #[.int .u8 0, .int .u64 0, .int .u64 0, .int .i64 0, .int .u32 0] 87)).heap.size = w.heap.size + 1 := by simp
  rw [hsz'] at kb
  clear hsz' hK hb
  have y := kb.cell
  go_wp2_with fail
  obtain ⟨W5, HW5⟩ := named ((w.alloc (.cells #[.int .u8 0, .int .u64 0, .int .u64 0, .int .i64 0, .int .u32 0] 87)).alloc (.cells #[.int .u8 (s1.toNat : Int), .int .u64 (n2 : Int), .int .u64 (n10 : Int), .int .i64 (n18 : Int), .int .u32 (n22 : Int)] 87))
  rw [← HW5.out] at kb k5 b5 ⊢
  clear HW5
  refine (hfirst _).mono ?_
  rintro e w6 ⟨rfl, hb6⟩
  have k6 := k5.below hb6
  have kc := kb.below hb6
  have b6 := bt b5 hb6
  clear y k5 b5 kb hb6
  have y := kc.cell
  have r := k6.cell
  have z := k6.free
  go_wp2
  have r0 := r 0
  have r1 := r 1
  have r2 := r 2
  have r3 := r 3
  have r4 := r 4
  refine bodyPost_ret (v := .tuple #[.agg #[.int .u8 (s1.toNat : Int), .int .u64 (n2 : Int), .int .u64 (n10 : Int), .int .i64 (n18 : Int), .int .u32 (n22 : Int)], .int .i64 0]) (by simp [results, Try.results92, go_sem, r0, r1, r2, r3, r4]) rfl ?_
  exact ⟨rfl, below5 b6 (Nat.le_refl _) _ _ _ _ _⟩
theorem refHead_no (s : ByteArray) (w : World) (h : ¬ HeadOk s.data.toList) :
    Calls Try.prog 92 #[.string s] w fun e w' => e = .returned (.tuple #[zeroHead, .int .i64 14]) ∧ Below w.heap.size w w' := by
  by_cases hA : s.size = 64
  case neg => exact refHead_A s w hA
  by_cases hB : s.data.toList.getD 1 0 = 0
  case pos => exact refHead_B s w hA hB
  by_cases hC : 16384 < atL s.data.toList 18 4
  case pos => exact refHead_C s w hA hB hC
  by_cases hD : headL (s.data.toList.getD 1 0) (atL s.data.toList 2 8) (atL s.data.toList 10 8) (atL s.data.toList 18 4) (atL s.data.toList 22 4) = s.data.toList
  case neg => exact refHead_D s w hA hB (by omega) hD
  exact absurd (ok_of_head hB (by omega) hD) h
end Go.Proofs.Ytpfbmmeipojodaa
