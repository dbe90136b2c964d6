/- wal.lies: the iterator's contract. -/
import Derived.Test.YtdgonhmipecjpaaGK
import Derived.Test.YtdgonhmipecjpaaRecChunk
import Derived.Test.YtdgonhmipecjpaaGF
namespace Go.Proofs.Ytdgonhmipecjpaa
set_option linter.unusedSimpArgs false
set_option linter.unusedVariables false
open Go.RowKit Go.Shelf
open Crc
attribute [local go_sem] Oper.semAt_some
def encF (x : Fr × Nat) : Array Value := #[frVal x.1, .int .i64 (x.2 : Int)]
/-- Below n, and in two blocks, the cells are as they were. -/
def KeepL (n a b : Nat) (A B : World) : Prop := Below n A B ∧ Keep2 a b A B
theorem KeepL.trans {n a b : Nat} {A B C : World} (h : KeepL n a b A B) (k : KeepL n a b B C) : KeepL n a b A C := ⟨h.1.trans k.1, h.2.trans k.2⟩
theorem below_grown {W W' : World} (h : Below W.heap.size W W') : W.grownBy W' none := ⟨h.os, h.tape, h.output, h.size, fun k hk _ => h.block k hk⟩
theorem KeepL.of_below {n a b : Nat} {A B : World} (hn : n ≤ A.heap.size) (ha : a < A.heap.size) (hb : b < A.heap.size) (h : Below A.heap.size A B) : KeepL n a b A B :=
  ⟨h.mono hn, Keep2.of_below h ha hb⟩
set_option maxHeartbeats 1000000 in
set_option maxRecDepth 100000 in
theorem lies1_in (n : Nat) (hn : 1 ≤ n) (l Rb Db : Nat) (v : Value) (d : Dk) (f s : Nat) (w0 : World) (hv : DkIs w0 v d) (hr : right d = true) (ho : d.off = false) (hfs : f + s ≤ d.secs.length) (J Jx : List (Fr × Nat) → World → Prop)
    (hY : ∀ pre x W, J pre W → pre.length < (restL d f s 0).length → YieldAt Fence.wide (n - 1) Try.prog l (encF x) W fun e W' =>
      (e = .returned (.bool true) ∧ J (pre ++ [x]) W' ∧ KeepL w0.heap.size Rb Db W W') ∨ (e = .returned (.bool false) ∧ Jx (pre ++ [x]) W'))
    (hJ : ∀ pre W W', J pre W → Below W.heap.size W W' → J pre W')
    (W : World) (hW0 : Below w0.heap.size w0 W) (hRb : Rb < W.heap.size) (hDb : Db < W.heap.size)
    (cR : ∀ i, W.cell? ⟨Rb, i, none⟩ = ([.int .i64 (f : Int), .int .i64 (s : Int)] : List Value)[i]?)
    (cD : ∀ A1 c1 A2 c2, v = .agg #[.slice A1 d.secs.length c1, .slice A2 d.pend.length c2, .bool d.off, .int .i64 d.fuse] → ∀ i, W.cell? ⟨Db, i, none⟩ = ([.slice A1 d.secs.length c1, .slice A2 d.pend.length c2, .bool d.off, .int .i64 d.fuse] : List Value)[i]?)
    (h0 : J [] W) :
    CallsIn Fence.wide n Try.prog 90 #[.func (.yield l) #[] #[], .pointer (some ⟨Rb, 0, none⟩), .pointer (some ⟨Db, 0, none⟩)] W fun e W' => (∃ v, e = .returned v) ∧
      ((∃ ys, ys = restL d f s 0 ∧ J ys W') ∨ (∃ pre, (∃ rest, restL d f s 0 = pre ++ rest) ∧ Jx pre W')) := by
  have hlen := right_len hr
  obtain ⟨A1, c1, A2, c2, rfl, h1, h2, hl1, hl2, _⟩ := hv
  replace cD := cD A1 c1 A2 c2 rfl
  have Ho := hide ho
  rw [ho] at cD
  clear ho
  refine callsIn_of_wp Try.func90 rfl trivial ?_ rfl
  simp only [Try.ntmps90, List.size_toArray, List.length_cons, List.length_nil, Nat.reduceAdd, Nat.reduceSub, Array.replicate_succ, Array.replicate_zero, List.push_toArray, List.append_toArray, List.nil_append, List.cons_append]
  gi_wp2
  gi_loopw [4] (fun i wr => ∃ (a : Nat) (pre : List (Fr × Nat)), a ≤ s ∧ i = .int .i64 (a : Int) ∧ Hid (restL d f s 0 = pre ++ restL d f s a) ∧ J pre wr ∧ KeepL w0.heap.size Rb Db W wr ∧ W.heap.size ≤ wr.heap.size)
    (fun i _ => s - (intOf i).toNat)
  case atStart => exact ⟨0, [], by omega, rfl, rfl, h0, ⟨Below.refl _ _, Keep2.refl _ _ _⟩, Nat.le_refl _⟩
  case round =>
    obtain ⟨a, pre, has, rfl, HL, hJs, hkp, hsz⟩ := hrel
    have yR := fun i => (hkp.2 i).1.trans (cR i)
    have yD := fun i => (hkp.2 i).2.trans (cD i)
    have b1 : Below w0.heap.size w0 wr := hW0.trans hkp.1
    by_cases hlt0 : a < s
    case neg =>
      have hge : (s : Int) ≤ (a : Int) := by omega
      have hfin := HL.out
      rw [rest_end (a := a) (by omega), List.append_nil] at hfin
      have Hfin := hide hfin
      clear hfin
      gi_wp2
      go_end0
      exact ⟨⟨_, rfl⟩, .inl ⟨_, Hfin.out.symm, hJs⟩⟩
    have hlt : (a : Int) < (s : Int) := by omega
    have hRd : ∀ (u : World) (g : Nat), Below w0.heap.size w0 u → g < d.secs.length → Calls Try.prog 40 #[.agg #[.slice A1 d.secs.length c1, .slice A2 d.pend.length c2, .bool false, .int .i64 d.fuse], .int .i64 (g : Int)] u fun e w' => e = .returned (.tuple #[.string (holdsOf d (g : Int)), .int .i64 0]) ∧ Below u.heap.size u w' := fun u g hu hi => by
      have := read_ok A1 A2 c1 c2 d (g : Int) u (h1.below hu) (h2.below hu) hl1 hl2 hr Ho.out (by simp [there]; omega)
      rw [Ho.out] at this
      exact this
    obtain ⟨g0, hg0⟩ := named (f + a)
    have hfa : (f : Int) + (a : Int) = (g0 : Int) := by rw [hg0.out]; omega
    have hwg0 : IntKind.i64.wrap (g0 : Int) = (g0 : Int) := wrap_i64_nat' g0 (by rw [hg0.out]; omega)
    have hg0l : g0 < d.secs.length := by rw [hg0.out]; omega
    have hNO := no_head (d := d) (f := f) (s := s) (a := a)
    have hRM := no_room (d := d) (f := f) (s := s) (a := a)
    have hJN := no_join (d := d) (f := f) (s := s) (a := a)
    rw [← hg0.out] at hNO hRM hJN
    have hsg : Hid (∀ i : Nat, f + a + i = g0 + i) := fun i => by rw [hg0.out]
    have hfin : (∀ fr n, ¬ FrameAt d f s a fr n) → restL d f s 0 = pre := fun hno => by rw [HL.out, rest_none hno, List.append_nil]
    have h0 := hRd wr g0 b1 hg0l
    obtain ⟨S0, HS0⟩ := named (holdsOf d (g0 : Int))
    rw [← HS0.out] at h0 hNO hRM hJN
    gi_wp2_with fail
    refine ⟨trivial, ?_⟩
    refine (callsIn_wide.2 h0).mono ?_
    rintro e w2 ⟨rfl, hb2⟩
    clear h0
    gi_wp2_with fail
    refine ⟨trivial, ?_⟩
    by_cases hH : HeadOk S0.data.toList
    case neg =>
      have hnh := recHead_no S0 w2 hH
      unfold zeroHead at hnh
      refine (callsIn_wide.2 hnh).mono ?_
      rintro e w3 ⟨rfl, hb3⟩
      have kh := Blk.new w3 [.int .u8 0, .int .u64 0, .int .u64 0, .int .i64 0, .int .u32 0] 39
      have mb := bt (bt hb2 hb3) (below_alloc w3 (.cells #[.int .u8 0, .int .u64 0, .int .u64 0, .int .i64 0, .int .u32 0] 39))
      have Hf := hide (hfin (hNO hH))
      clear hnh hNO hRM hJN hRd hfin
      gi_wp2_with fail
      refine ⟨trivial, ?_⟩
      refine (callsIn_wide.2 (pieces_yes 0 _ (by omega))).mono ?_
      rintro e w4 ⟨rfl, rfl⟩
      have hJe := hJ _ _ _ hJs mb
      clear yR yD
      gi_wp2
      refine bodyPost_ret (results_none rfl _ _ _) rfl ?_
      exact ⟨⟨_, rfl⟩, .inl ⟨_, Hf.out.symm, hJe⟩⟩
    clear hNO
    have hyes := recHead_yes S0 w2 hH
    have hlen0 : atL S0.data.toList 18 4 ≤ 16384 := hH.len
    unfold headVal at hyes
    obtain ⟨q1, Hq1⟩ := named (S0.data.toList.getD 1 0)
    obtain ⟨q2, Hq2⟩ := named (atL S0.data.toList 2 8)
    obtain ⟨q3, Hq3⟩ := named (atL S0.data.toList 10 8)
    obtain ⟨q4, Hq4⟩ := named (atL S0.data.toList 18 4)
    obtain ⟨q5, Hq5⟩ := named (atL S0.data.toList 22 4)
    rw [← Hq1.out, ← Hq2.out, ← Hq3.out, ← Hq4.out, ← Hq5.out] at hyes
    rw [← Hq4.out] at hlen0 hRM hJN
    refine (callsIn_wide.2 hyes).mono ?_
    rintro e w3 ⟨rfl, hb3⟩
    have kh := Blk.new w3 [.int .u8 (q1.toNat : Int), .int .u64 (q2 : Int), .int .u64 (q3 : Int), .int .i64 (q4 : Int), .int .u32 (q5 : Int)] 39
    have mb := bt (bt hb2 hb3) (below_alloc w3 (.cells #[.int .u8 (q1.toNat : Int), .int .u64 (q2 : Int), .int .u64 (q3 : Int), .int .i64 (q4 : Int), .int .u32 (q5 : Int)] 39))
    clear hyes hH hb2 hb3 yR yD
    have kh3 := kh.cell 3
    gi_wp2_with fail
    refine ⟨trivial, ?_⟩
    refine (callsIn_wide.2 (pieces_yes q4 _ hlen0)).mono ?_
    rintro e w4 ⟨rfl, rfl⟩
    clear kh3
    obtain ⟨np, Hnp⟩ := named (piecesN q4)
    have hnp9 : np ≤ 269 := by rw [Hnp.out]; unfold piecesN; omega
    rw [← Hnp.out] at hRM hJN ⊢
    obtain ⟨W4, HW4⟩ := named (w3.alloc (.cells #[.int .u8 (q1.toNat : Int), .int .u64 (q2 : Int), .int .u64 (q3 : Int), .int .i64 (q4 : Int), .int .u32 (q5 : Int)] 39))
    obtain ⟨hB, HhB⟩ := named w3.heap.size
    rw [← HhB.out] at kh ⊢
    rw [← HW4.out] at kh mb ⊢
    clear HW4 HhB
    have hRw : Rb < wr.heap.size := Nat.lt_of_lt_of_le hRb hsz
    have hDw : Db < wr.heap.size := Nat.lt_of_lt_of_le hDb hsz
    have cR4 := fun i => (mb.cell (p := ⟨Rb, i, none⟩) hRw).trans ((hkp.2 i).1.trans (cR i))
    have cD4 := fun i => (mb.cell (p := ⟨Db, i, none⟩) hDw).trans ((hkp.2 i).2.trans (cD i))
    obtain ⟨d1, hd1⟩ := named (s - a)
    have hsub : (s : Int) - (a : Int) = (d1 : Int) := by rw [hd1.out]; omega
    have hwd : IntKind.i64.wrap (d1 : Int) = (d1 : Int) := wrap_i64_nat' d1 (by rw [hd1.out]; omega)
    have yR := cR4
    by_cases hroom : d1 ≤ np
    · have hgt : (d1 : Int) ≤ (np : Int) := by omega
      have hgt' : decide ((d1 : Int) ≤ (np : Int)) = true := decide_eq_true hgt
      have Hf := hide (hfin (hRM (by have := hd1.out; omega)))
      have hJe := hJ _ _ _ hJs mb
      clear hRM hJN hRd hfin hroom
      gi_wp2
      refine bodyPost_ret (results_none rfl _ _ _) rfl ?_
      exact ⟨⟨_, rfl⟩, .inl ⟨_, Hf.out.symm, hJe⟩⟩
    have hle : (np : Int) < (d1 : Int) := by omega
    have hle' : decide ((d1 : Int) ≤ (np : Int)) = false := decide_eq_false (by omega)
    have hle2 : decide (d1 ≤ np) = false := decide_eq_false (by omega)
    have hfit : a + (np + 1) ≤ s := by have := hd1.out; omega
    clear hRM hroom
    obtain ⟨j0, hj, hy0, hy1, hy2⟩ := info_parts Try.info9
    gi_wp2_with fail
    have hO0 : (W4.alloc (.cells #[.string S0] 9)).ownsRow W4.heap.size 9 1 (.slice (some ⟨W4.heap.size, 0, none⟩) 1 1) 1 (strs ((List.range 1).map fun i => holdsOf d ((g0 + i : Nat) : Int))) := by
      have e : (List.range 1).map (fun i => holdsOf d ((g0 + i : Nat) : Int)) = [S0] := by
        rw [HS0.out]; rfl
      rw [e]
      exact ⟨rfl, .inr ⟨W4.heap.size, 1, _, rfl, Nat.le_refl _, Blk.new W4 [.string S0] 9, Nat.le_refl _, by decide, rfl, rfl⟩⟩
    have hOb := below_alloc W4 (.cells #[.string S0] 9)
    obtain ⟨W5, HW5⟩ := named (W4.alloc (.cells #[.string S0] 9))
    rw [← HW5.out] at hO0 hOb ⊢
    clear HW5 yR hle hle' hle2 hsub hwd
    have hR4 : Rb < W4.heap.size := Nat.lt_of_lt_of_le hRw mb.size
    have hD4 : Db < W4.heap.size := Nat.lt_of_lt_of_le hDw mb.size
    obtain ⟨wo, rfl⟩ : ∃ wo : World, wo = wr := ⟨_, rfl⟩
    gi_loopw [5, 11, 12, 51] (fun _ x _ i u => ∃ (k : Nat), k ≤ np ∧ i = .int .i64 (k : Int) ∧ u.ownsRow W4.heap.size 9 1 x (k + 1) (strs ((List.range (k + 1)).map fun i => holdsOf d ((g0 + i : Nat) : Int))) ∧ Below W4.heap.size W4 u) (fun _ _ _ i _ => np - (intOf i).toNat)
    case atStart => exact ⟨0, by omega, rfl, hO0, hOb⟩
    case round =>
      obtain ⟨k, hk, rfl, hO, hbw⟩ := hrel
      have yR := fun i => (hbw.cell (p := ⟨Rb, i, none⟩) hR4).trans (cR4 i)
      have yD := fun i => (hbw.cell (p := ⟨Db, i, none⟩) hD4).trans (cD4 i)
      have mbu := bt mb hbw
      have bu := b1.trans (mbu.mono b1.size)
      by_cases hlt2 : k < np
      · have hkI : (k : Int) < (np : Int) := by omega
        obtain ⟨gk, hgk⟩ := named (g0 + k)
        have hga : (g0 : Int) + (k : Int) = (gk : Int) := by rw [hgk.out]; omega
        have hgl : g0 + np < d.secs.length := by rw [hg0.out]; omega
        have hwgk : IntKind.i64.wrap (gk : Int) = (gk : Int) := wrap_i64_nat' gk (by rw [hgk.out]; omega)
        obtain ⟨gl, hgl2⟩ := named (gk + 1)
        have hgb : (gk : Int) + 1 = (gl : Int) := by rw [hgl2.out]; omega
        have hwgl : IntKind.i64.wrap (gl : Int) = (gl : Int) := wrap_i64_nat' gl (by rw [hgl2.out, hgk.out]; omega)
        have hh := hRd wr gl bu (by rw [hgl2.out, hgk.out]; omega)
        obtain ⟨SK, HSK⟩ := named (holdsOf d (gl : Int))
        rw [← HSK.out] at hh
        have HGL := hide (show gl = g0 + (k + 1) by rw [hgl2.out, hgk.out]; omega)
        gi_wp2_with fail
        refine ⟨trivial, ?_⟩
        refine (callsIn_wide.2 hh).mono ?_
        rintro e w5 ⟨rfl, hb5⟩
        have hb6 := bt hb5 (below_alloc w5 (.cells #[.string SK] 9))
        have hsz5 := hb5.size
        have hszw := hbw.size
        clear hh yR yD
        gi_wp2_with (gi_at_builtin; refine wpListIn_append_lies _ rfl (.tmp 66) (.tmp 68) _ rfl W4.heap.size 9 j0 _ 1 16 Try.underlying25 hj hy0 hy1 hy2 rfl (by omega) _ (k + 1) _ rfl (own_below hO hb6) ⟨w5.heap.size, 0, none⟩ 1 1 [.string SK] rfl rfl (World.news_of_block (cs := #[.string SK]) (t := 9) (fr := (0, 0)) (heap_alloc_new w5 _)) (by simp [Value.oneCell']) (by omega) (by simp only [maxLen]; omega) (by omega) (by simp; omega) (w5.heap.size + 1) (by simp) ?_; intro gg cap w6 hown1 hgrow hat hlt9)
        have hb9 : Below W4.heap.size W4 w6 := (bt hbw hb6).grown hgrow (by have := hb6.size; omega) (fun k' e => (World.ownsRow.lt (own_below hO hb6) k' e).1)
        go_roundw
        case rel =>
          refine ⟨k + 1, by omega, by go_num, ?_, hb9⟩
          rw [List.range_succ, List.map_append, List.map_singleton, strs_append]
          rw [show holdsOf d ((g0 + (k + 1) : Nat) : Int) = SK by rw [HSK.out, HGL.out]]
          exact hown1
        case measure => simp [intOf]; omega
      · obtain rfl : k = np := by omega
        have hge : (k : Int) ≤ (k : Int) := Int.le_refl _
        have hll : ((List.range (k + 1)).map fun i => holdsOf d ((g0 + i : Nat) : Int)).length = k + 1 := by simp
        have hlies0 : (List.range (k + 1)).map (fun i => holdsOf d ((f + a + i : Nat) : Int)) = (List.range (k + 1)).map fun i => holdsOf d ((g0 + i : Nat) : Int) := by
          refine List.map_congr_left fun i _ => ?_
          rw [hsg.out i]
        obtain ⟨g, cap, rfl, hg, hcg, hlg, _⟩ := own_form hO (by omega)
        obtain ⟨LL, HLL⟩ := named ((List.range (k + 1)).map fun i => holdsOf d ((g0 + i : Nat) : Int))
        rw [← HLL.out] at hll hlg hJN hlies0
        have htl : Texts wr (some ⟨g, 0, none⟩) LL := by unfold Texts; rw [hll]; exact hlg
        clear hO hlg hRd HLL yR yD cR4 cD4
        obtain ⟨a2, ha2⟩ := named (a + (k + 1))
        have hsum : (a : Int) + ((k : Int) + 1) = (a2 : Int) := by rw [ha2.out]; omega
        have hwa2 : IntKind.i64.wrap (a2 : Int) = (a2 : Int) := wrap_i64_nat' a2 (by rw [ha2.out]; omega)
        by_cases hjj : ∃ fr, FrOk fr ∧ (sectorsL fr).map str = LL
        · obtain ⟨fr, hok, hfl⟩ := hjj
          have hlen2 : k + 1 = piecesN fr.pay.length + 1 := by rw [← hll, ← hfl, List.length_map, sectorsL_length]
          have hAt : FrameAt d f s a fr (k + 1) := ⟨hok, hlen2, hfit, by rw [hlies0, hfl]⟩
          have hjy := join_yes (some ⟨g, 0, none⟩) cap (k + 1) fr wr hok hlen2 hcg (by rw [hfl]; exact htl)
          unfold frVal at hjy
          have Hlen2 := hide hlen2
          clear hlen2 hfl hll hlies0 hJN hfin
          gi_wp2_with fail
          refine ⟨trivial, ?_⟩
          refine (callsIn_wide.2 hjy).mono ?_
          rintro e w8 ⟨rfl, hb8⟩
          clear hjy
          obtain ⟨F, HF⟩ := named (str fr.pay)
          have hval : encF (fr, a2) = #[.agg #[.int .u8 (fr.kind.toNat : Int), .int .u64 (fr.epoch : Int), .int .u64 (fr.seq : Int), .string F], .int .i64 (a2 : Int)] := by rw [HF.out]; rfl
          rw [← HF.out]
          have kf := Blk.new w8 [.int .u8 (fr.kind.toNat : Int), .int .u64 (fr.epoch : Int), .int .u64 (fr.seq : Int), .string F] 24
          have nb := bt (bt mbu hb8) (below_alloc w8 (.cells #[.int .u8 (fr.kind.toNat : Int), .int .u64 (fr.epoch : Int), .int .u64 (fr.seq : Int), .string F] 24))
          obtain ⟨W9, HW9⟩ := named (w8.alloc (.cells #[.int .u8 (fr.kind.toNat : Int), .int .u64 (fr.epoch : Int), .int .u64 (fr.seq : Int), .string F] 24))
          have hJ9 : J pre W9 := hJ _ _ _ hJs (by rw [HW9.out]; exact nb)
          have hnx : restL d f s 0 = (pre ++ [(fr, a2)]) ++ restL d f s a2 := by rw [HL.out, rest_some hAt, ha2.out]; simp
          have Hnx := hide hnx
          obtain ⟨fn, tmps, assign, body, hy, hYR⟩ := hY pre (fr, a2) W9 hJ9 (by rw [hnx]; simp)
          rw [hval] at hy
          have y0 := kf.cell 0
          have y1 := kf.cell 1
          have y2 := kf.cell 2
          have y3 := kf.cell 3
          have k9 : KeepL w0.heap.size Rb Db wo W9 := KeepL.of_below b1.size hRw hDw (by rw [HW9.out]; exact nb)
          rw [HW9.out] at hy hYR k9
          clear hval hnx hY hJ HW9 hJ9
          gi_wp2_with fail
          refine hYR.mono ?_
          rintro e W3 (⟨rfl, hJ3, hk3⟩ | ⟨rfl, hJx3⟩)
          · gi_wp2
            go_roundw
            case rel =>
              refine ⟨a2, _, by rw [ha2.out]; omega, by first | rfl | go_num, Hnx, hJ3, hkp.trans (k9.trans hk3), ?_⟩
              have s1 := (k9.trans hk3).1.size
              omega
            case measure => simp [intOf]; omega
          · gi_wp2
            refine bodyPost_ret (results_none rfl _ _ _) rfl ?_
            exact ⟨⟨_, rfl⟩, .inr ⟨_, ⟨_, Hnx.out⟩, hJx3⟩⟩
        · have hnf : NoFrame LL := fun fr hok e => hjj ⟨fr, hok, e⟩
          have Hf := hide (hfin (hJN hnf))
          have hjn := join_no (some ⟨g, 0, none⟩) cap (k + 1) LL wr hnf hll.symm (by omega) hcg htl
          unfold zeroFrame at hjn
          clear hll hlies0 hjj hfin hJN
          gi_wp2_with fail
          refine ⟨trivial, ?_⟩
          refine (callsIn_wide.2 hjn).mono ?_
          rintro e w8 ⟨rfl, hb8⟩
          clear hjn
          have nb := bt (bt mbu hb8) (below_alloc w8 (.cells #[.int .u8 0, .int .u64 0, .int .u64 0, .string ⟨#[]⟩] 24))
          have hJe := hJ _ _ _ hJs nb
          gi_wp2
          refine ⟨(by intro f hf; cases hf), ?_⟩
          gi_wp2
          refine bodyPost_ret (results_none rfl _ _ _) rfl ?_
          exact ⟨⟨_, rfl⟩, .inl ⟨_, Hf.out.symm, hJe⟩⟩
theorem lies_stops (n : Nat) (hn : 1 ≤ n) (Rb Db : Nat) (v : Value) (d : Dk) (f s : Nat) (w0 w : World) (hv : DkIs w0 v d) (hr : right d = true) (ho : d.off = false) (hfs : f + s ≤ d.secs.length) (hb : Below w0.heap.size w0 w) (hRb : Rb < w.heap.size) (hDb : Db < w.heap.size)
    (cR : ∀ i : Nat, w.cell? ⟨Rb, i, none⟩ = ([.int .i64 (f : Int), .int .i64 (s : Int)] : List Value)[i]?)
    (cD : ∀ A1 c1 A2 c2, v = .agg #[.slice A1 d.secs.length c1, .slice A2 d.pend.length c2, .bool d.off, .int .i64 d.fuse] → ∀ i : Nat, w.cell? ⟨Db, i, none⟩ = ([.slice A1 d.secs.length c1, .slice A2 d.pend.length c2, .bool d.off, .int .i64 d.fuse] : List Value)[i]?) :
    SeqStopsK Fence.wide n Try.prog 90 #[.pointer (some ⟨Rb, 0, none⟩), .pointer (some ⟨Db, 0, none⟩)] encF (KeepL w0.heap.size Rb Db) (fun ys => ys = restL d f s 0) (fun pre => ∃ rest, restL d f s 0 = pre ++ rest) (restL d f s 0).length w := fun l J Jx W hW hJ _ hY h0 =>
  lies1_in n hn l Rb Db v d f s w0 hv hr ho hfs J Jx hY (fun pre X Y h hb' => hJ pre X Y none h (below_grown hb') (fun r e => by cases e)) W (hb.trans (hW.mono hb.size)) (Nat.lt_of_lt_of_le hRb hW.size) (Nat.lt_of_lt_of_le hDb hW.size)
    (fun i => (hW.cell (p := ⟨Rb, i, none⟩) hRb).trans (cR i)) (fun A1 c1 A2 c2 e i => (hW.cell (p := ⟨Db, i, none⟩) hDb).trans (cD A1 c1 A2 c2 e i)) h0
set_option maxHeartbeats 1000000 in
theorem lies_w (a b c e f s : Value) (w : World) :
    Calls Try.prog 62 #[.agg #[a, b, c, e], .agg #[f, s]] w fun e' w' => e' = .returned (.func (.func 90) #[] #[.pointer (some ⟨w.heap.size + 1, 0, none⟩), .pointer (some ⟨w.heap.size, 0, none⟩)]) ∧
      w' = (w.alloc (.cells #[a, b, c, e] 49)).alloc (.cells #[f, s] 53) := by
  have hmf : ∀ fn first cap w, (Instr.makeFunc fn first cap).run Try.prog w = .ok (.func fn first cap) w := fun _ _ _ _ => rfl
  go_enter Try.func62, Try.ntmps62
  go_wp2
  go_ret
  exact ⟨rfl, rfl⟩
end Go.Proofs.Ytdgonhmipecjpaa
