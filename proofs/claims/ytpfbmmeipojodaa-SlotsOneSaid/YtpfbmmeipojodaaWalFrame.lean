/- The document's Frame of chapter 04. -/
import Derived.Test.YtpfbmmeipojodaaWalCheck
import Derived.Test.YtpfbmmeipojodaaGB
import Derived.Test.YtpfbmmeipojodaaRecRefJoin
import Derived.Test.YtpfbmmeipojodaaRecW3
namespace Go.Proofs.Ytpfbmmeipojodaa
set_option linter.unusedSimpArgs false
set_option linter.unusedVariables false
open Go.RowKit Go.Shelf
open Crc
/-- A frame that lies at a place of a region. -/
structure FrameAt (d : Dk) (f s a : Nat) (fr : Fr) (n : Nat) : Prop where
  ok : FrOk fr
  len : n = piecesN fr.pay.length + 1
  room : a + n ≤ s
  lies : (List.range n).map (fun i => holdsOf d ((f + a + i : Nat) : Int)) = (sectorsL fr).map str
theorem FrameAt.head {d : Dk} {f s a : Nat} {fr : Fr} {n : Nat} (h : FrameAt d f s a fr n) : holdsOf d ((f + a : Nat) : Int) = str (frHead fr) := by
  have := congrArg (fun l => l[0]?) h.lies
  have hn : 0 < n := by rw [h.len]; omega
  simpa [hn, sectorsL] using this
def FrameRet (d : Dk) (f s a : Nat) (e : Ending) : Prop :=
  (∃ fr n, FrameAt d f s a fr n ∧ e = .returned (.tuple #[frVal fr, .int .i64 (n : Int)])) ∨ ((∀ fr n, ¬ FrameAt d f s a fr n) ∧ e = .returned (.tuple #[zeroFrame, .int .i64 0]))
theorem no_head {d : Dk} {f s a : Nat} (h : ¬ HeadOk (holdsOf d ((f + a : Nat) : Int)).data.toList) : ∀ fr n, ¬ FrameAt d f s a fr n := fun fr n hf => h (by rw [hf.head]; exact head_ok fr hf.ok)
theorem same_count {d : Dk} {f s a : Nat} {fr : Fr} {n : Nat} (hf : FrameAt d f s a fr n) : piecesN (atL (holdsOf d ((f + a : Nat) : Int)).data.toList 18 4) + 1 = n := by
  rw [hf.head, ← count_ok fr hf.ok, hf.len]; simp
theorem no_room {d : Dk} {f s a : Nat} (h : s < a + (piecesN (atL (holdsOf d ((f + a : Nat) : Int)).data.toList 18 4) + 1)) : ∀ fr n, ¬ FrameAt d f s a fr n := fun fr n hf => by
  have := hf.room
  rw [← same_count hf] at this
  omega
theorem no_join {d : Dk} {f s a : Nat} (h : NoFrame ((List.range (piecesN (atL (holdsOf d ((f + a : Nat) : Int)).data.toList 18 4) + 1)).map fun i => holdsOf d ((f + a + i : Nat) : Int))) : ∀ fr n, ¬ FrameAt d f s a fr n := fun fr n hf => h fr hf.ok (by rw [same_count hf]; exact hf.lies.symm)
set_option maxHeartbeats 8000000 in
set_option maxRecDepth 100000 in
theorem refFrame_w (v : Value) (d : Dk) (f s a : Nat) (w : World) (hv : DkIs w v d) (hr : right d = true) (hfs : f + s ≤ d.secs.length) (ha : a ≤ 9223372036854775807) :
    Calls Try.prog 59 #[v, .agg #[.int .i64 (f : Int), .int .i64 (s : Int)], .int .i64 (a : Int)] w fun e w' => FrameRet d f s a e ∧ Below w.heap.size w w' := by
  have hlen := right_len hr
  obtain ⟨A1, c1, A2, c2, rfl, h1, h2, hl1, hl2, _⟩ := hv
  have k1 := ((Blk.new w [.slice A1 d.secs.length c1, .slice A2 d.pend.length c2, .bool d.off, .int .i64 d.fuse] 28).alloc (.cells #[.int .i64 (f : Int), .int .i64 (s : Int)] 33)).alloc (.cells #[.int .u8 0, .int .u64 0, .int .u64 0, .string ⟨#[]⟩] 61)
  have k2 := (Blk.new (w.alloc (.cells #[.slice A1 d.secs.length c1, .slice A2 d.pend.length c2, .bool d.off, .int .i64 d.fuse] 28)) [.int .i64 (f : Int), .int .i64 (s : Int)] 33).alloc (.cells #[.int .u8 0, .int .u64 0, .int .u64 0, .string ⟨#[]⟩] 61)
  have k3 := Blk.new ((w.alloc (.cells #[.slice A1 d.secs.length c1, .slice A2 d.pend.length c2, .bool d.off, .int .i64 d.fuse] 28)).alloc (.cells #[.int .i64 (f : Int), .int .i64 (s : Int)] 33)) [.int .u8 0, .int .u64 0, .int .u64 0, .string ⟨#[]⟩] 61
  have b1 := bt (bt (below_alloc w (.cells #[.slice A1 d.secs.length c1, .slice A2 d.pend.length c2, .bool d.off, .int .i64 d.fuse] 28)) (below_alloc _ (.cells #[.int .i64 (f : Int), .int .i64 (s : Int)] 33))) (below_alloc _ (.cells #[.int .u8 0, .int .u64 0, .int .u64 0, .string ⟨#[]⟩] 61))
  rw [show (w.alloc (.cells #[.slice A1 d.secs.length c1, .slice A2 d.pend.length c2, .bool d.off, .int .i64 d.fuse] 28)).heap.size = w.heap.size + 1 by simp] at k2
  rw [show ((w.alloc (.cells #[.slice A1 d.secs.length c1, .slice A2 d.pend.length c2, .bool d.off, .int .i64 d.fuse] 28)).alloc (.cells #[.int .i64 (f : Int), .int .i64 (s : Int)] 33)).heap.size = w.heap.size + 1 + 1 by simp] at k3
  go_enter Try.func59, Try.ntmps59
  go_upto_region 1 with fail
  obtain ⟨W, HW⟩ := named (((w.alloc (.cells #[.slice A1 d.secs.length c1, .slice A2 d.pend.length c2, .bool d.off, .int .i64 d.fuse] 28)).alloc (.cells #[.int .i64 (f : Int), .int .i64 (s : Int)] 33)).alloc (.cells #[.int .u8 0, .int .u64 0, .int .u64 0, .string ⟨#[]⟩] 61))
  rw [← HW.out] at k1 k2 k3 b1 ⊢
  clear HW
  have y1 := k1.cell
  have y2 := k2.cell
  by_cases has : s ≤ a
  · have hge : (s : Int) ≤ (a : Int) := by omega
    have hno : ∀ fr n, ¬ FrameAt d f s a fr n := fun fr n hf => by have := hf.room; have := hf.len; omega
    have r0 := k3.cell 0
    have r1 := k3.cell 1
    have r2 := k3.cell 2
    have r3 := k3.cell 3
    have z0 := k3.free 0
    have z1 := k3.free 1
    have z2 := k3.free 2
    have z3 := k3.free 3
    go_wp2
    refine bodyPost_ret (v := .tuple #[.agg #[.int .u8 0, .int .u64 0, .int .u64 0, .string ⟨#[]⟩], .int .i64 0]) (by simp [results, Try.results59, go_sem, r0, r1, r2, r3]) rfl ?_
    exact ⟨.inr ⟨hno, rfl⟩, below4' b1 (by omega) (.int .u8 0) (.int .u64 0) (.int .u64 0) (.string ⟨#[]⟩)⟩
  have hlt : (a : Int) < (s : Int) := by omega
  have hHold : ∀ (u : World) (g : Nat), Below w.heap.size w u → g < d.secs.length → Calls Try.prog 93 #[.agg #[.slice A1 d.secs.length c1, .slice A2 d.pend.length c2, .bool d.off, .int .i64 d.fuse], .int .i64 (g : Int)] u fun e w' => e = .returned (.string (holdsOf d (g : Int))) ∧ Below u.heap.size u w' := fun u g hu hi =>
    refHolds_w A1 A2 c1 c2 d (g : Int) u (h1.below hu) (h2.below hu) hl2 (by simp [there]; omega)
  obtain ⟨g0, hg0⟩ := named (f + a)
  have hfa : (f : Int) + (a : Int) = (g0 : Int) := by rw [hg0.out]; omega
  have hwg0 : IntKind.i64.wrap (g0 : Int) = (g0 : Int) := wrap_i64_nat' g0 (by rw [hg0.out]; omega)
  have hg0l : g0 < d.secs.length := by rw [hg0.out]; omega
  have hNO := no_head (d := d) (f := f) (s := s) (a := a)
  have hRM := no_room (d := d) (f := f) (s := s) (a := a)
  have hJN := no_join (d := d) (f := f) (s := s) (a := a)
  rw [← hg0.out] at hNO hRM hJN
  have hsg : Hid (∀ i : Nat, f + a + i = g0 + i) := fun i => by rw [hg0.out]
  have h0 := hHold W g0 b1 hg0l
  obtain ⟨S0, HS0⟩ := named (holdsOf d (g0 : Int))
  rw [← HS0.out] at h0 hNO hRM hJN
  go_wp2_with fail
  refine h0.mono ?_
  rintro e w2 ⟨rfl, hb2⟩
  replace k1 := k1.below hb2
  replace k2 := k2.below hb2
  replace k3 := k3.below hb2
  replace b1 := bt b1 hb2
  clear h0 y1 y2 hb2
  go_wp2_with fail
  by_cases hH : HeadOk S0.data.toList
  case neg =>
    have hnh := refHead_no S0 w2 hH
    unfold zeroHead at hnh
    refine hnh.mono ?_
    rintro e w3 ⟨rfl, hb3⟩
    replace k1 := (k1.below hb3).alloc (.cells #[.int .u8 0, .int .u64 0, .int .u64 0, .int .i64 0, .int .u32 0] 87)
    replace k2 := (k2.below hb3).alloc (.cells #[.int .u8 0, .int .u64 0, .int .u64 0, .int .i64 0, .int .u32 0] 87)
    replace k3 := (k3.below hb3).alloc (.cells #[.int .u8 0, .int .u64 0, .int .u64 0, .int .i64 0, .int .u32 0] 87)
    replace b1 := (bt b1 hb3).alloc (bt b1 hb3).size (.cells #[.int .u8 0, .int .u64 0, .int .u64 0, .int .i64 0, .int .u32 0] 87)
    have kh := Blk.new w3 [.int .u8 0, .int .u64 0, .int .u64 0, .int .i64 0, .int .u32 0] 87
    have hno := hNO hH
    clear hnh hNO hRM hJN hHold hb3
    go_wp2_with fail
    refine (refPieces_yes 0 _ (by omega)).mono ?_
    rintro e w4 ⟨rfl, rfl⟩
    obtain ⟨W4, HW4⟩ := named (w3.alloc (.cells #[.int .u8 0, .int .u64 0, .int .u64 0, .int .i64 0, .int .u32 0] 87))
    rw [← HW4.out] at k1 k2 k3 b1 kh ⊢
    clear HW4
    have y2 := k2.cell
    have r0 := k3.cell 0
    have r1 := k3.cell 1
    have r2 := k3.cell 2
    have r3 := k3.cell 3
    have z0 := k3.free 0
    have z1 := k3.free 1
    have z2 := k3.free 2
    have z3 := k3.free 3
    go_wp2
    refine bodyPost_ret (v := .tuple #[.agg #[.int .u8 0, .int .u64 0, .int .u64 0, .string ⟨#[]⟩], .int .i64 0]) (by simp [results, Try.results59, go_sem, r0, r1, r2, r3]) rfl ?_
    exact ⟨.inr ⟨hno, rfl⟩, below4' b1 (by omega) (.int .u8 0) (.int .u64 0) (.int .u64 0) (.string ⟨#[]⟩)⟩
  clear hNO
  have hyes := refHead_yes S0 w2 hH
  have hlen0 : atL S0.data.toList 18 4 ≤ 16384 := hH.len
  unfold headVal at hyes
  obtain ⟨q1, Hq1⟩ := named (S0.data.toList.getD 1 0)
  obtain ⟨q2, Hq2⟩ := named (atL S0.data.toList 2 8)
  obtain ⟨q3, Hq3⟩ := named (atL S0.data.toList 10 8)
  obtain ⟨q4, Hq4⟩ := named (atL S0.data.toList 18 4)
  obtain ⟨q5, Hq5⟩ := named (atL S0.data.toList 22 4)
  rw [← Hq1.out, ← Hq2.out, ← Hq3.out, ← Hq4.out, ← Hq5.out] at hyes
  rw [← Hq4.out] at hlen0 hRM hJN
  refine hyes.mono ?_
  rintro e w3 ⟨rfl, hb3⟩
  replace k1 := (k1.below hb3).alloc (.cells #[.int .u8 (q1.toNat : Int), .int .u64 (q2 : Int), .int .u64 (q3 : Int), .int .i64 (q4 : Int), .int .u32 (q5 : Int)] 87)
  replace k2 := (k2.below hb3).alloc (.cells #[.int .u8 (q1.toNat : Int), .int .u64 (q2 : Int), .int .u64 (q3 : Int), .int .i64 (q4 : Int), .int .u32 (q5 : Int)] 87)
  replace k3 := (k3.below hb3).alloc (.cells #[.int .u8 (q1.toNat : Int), .int .u64 (q2 : Int), .int .u64 (q3 : Int), .int .i64 (q4 : Int), .int .u32 (q5 : Int)] 87)
  replace b1 := (bt b1 hb3).alloc (bt b1 hb3).size (.cells #[.int .u8 (q1.toNat : Int), .int .u64 (q2 : Int), .int .u64 (q3 : Int), .int .i64 (q4 : Int), .int .u32 (q5 : Int)] 87)
  have kh := Blk.new w3 [.int .u8 (q1.toNat : Int), .int .u64 (q2 : Int), .int .u64 (q3 : Int), .int .i64 (q4 : Int), .int .u32 (q5 : Int)] 87
  clear hyes hb3 hH
  go_wp2_with fail
  refine (refPieces_yes q4 _ hlen0).mono ?_
  rintro e w4 ⟨rfl, rfl⟩
  obtain ⟨np, Hnp⟩ := named (piecesN q4)
  have hnp9 : np ≤ 269 := by rw [Hnp.out]; unfold piecesN; omega
  rw [← Hnp.out] at hRM hJN ⊢
  go_upto_region 5 with fail
  obtain ⟨W4, HW4⟩ := named (w3.alloc (.cells #[.int .u8 (q1.toNat : Int), .int .u64 (q2 : Int), .int .u64 (q3 : Int), .int .i64 (q4 : Int), .int .u32 (q5 : Int)] 87))
  obtain ⟨hB, HhB⟩ := named w3.heap.size
  rw [← HhB.out] at kh ⊢
  rw [← HW4.out] at k1 k2 k3 b1 kh ⊢
  clear HW4 HhB
  have y2 := k2.cell
  obtain ⟨d1, hd1⟩ := named (s - a)
  have hsub : (s : Int) - (a : Int) = (d1 : Int) := by rw [hd1.out]; omega
  have hwd : IntKind.i64.wrap (d1 : Int) = (d1 : Int) := wrap_i64_nat' d1 (by rw [hd1.out]; omega)
  have hd1p : 1 ≤ d1 ∧ d1 ≤ 1024 := by rw [hd1.out]; omega
  obtain ⟨d2, hd2⟩ := named (d1 - 1)
  have hsub2 : (d1 : Int) - 1 = (d2 : Int) := by rw [hd2.out]; omega
  have hwd2 : IntKind.i64.wrap (d2 : Int) = (d2 : Int) := wrap_i64_nat' d2 (by rw [hd2.out]; omega)
  by_cases hroom : d2 < np
  · have hgt : (d2 : Int) < (np : Int) := by omega
    have hgt' : decide ((d2 : Int) < (np : Int)) = true := decide_eq_true hgt
    have hno := hRM (by have := hd1.out; have := hd2.out; omega)
    clear hRM hJN hHold hroom
    have r0 := k3.cell 0
    have r1 := k3.cell 1
    have r2 := k3.cell 2
    have r3 := k3.cell 3
    have z0 := k3.free 0
    have z1 := k3.free 1
    have z2 := k3.free 2
    have z3 := k3.free 3
    go_wp2
    refine bodyPost_ret (v := .tuple #[.agg #[.int .u8 0, .int .u64 0, .int .u64 0, .string ⟨#[]⟩], .int .i64 0]) (by simp [results, Try.results59, go_sem, r0, r1, r2, r3]) rfl ?_
    exact ⟨.inr ⟨hno, rfl⟩, below4' b1 (by omega) (.int .u8 0) (.int .u64 0) (.int .u64 0) (.string ⟨#[]⟩)⟩
  have hle : (np : Int) ≤ (d2 : Int) := by omega
  have hle' : decide ((d2 : Int) < (np : Int)) = false := decide_eq_false (by omega)
  have hle2 : decide (d2 < np) = false := decide_eq_false (by omega)
  have hfit : a + (np + 1) ≤ s := by have := hd1.out; have := hd2.out; omega
  clear hRM hroom
  have y1 := k1.cell
  obtain ⟨j0, hj, hy0, hy1, hy2⟩ := info_parts Try.info9
  go_upto_region 7 with fail
  clear hle hle' hle2 hsub2 hwd2 hsub hwd y2
  go_wp2_with fail
  go_loopw [12, 13] (fun x i wr => ∃ (k : Nat), k ≤ np + 1 ∧ i = .int .i64 k ∧ wr.ownsRow W4.heap.size 9 1 x k (strs ((List.range k).map fun i => holdsOf d ((g0 + i : Nat) : Int))) ∧ Below W4.heap.size W4 wr) (fun _ i _ => np + 1 - (intOf i).toNat)
  case atStart => exact ⟨0, by omega, rfl, World.ownsRow_nil _ _ _ _, Below.refl _ _⟩
  case round =>
    obtain ⟨k, hk, rfl, hO, hbw⟩ := hrel
    have m1 := k1.below hbw
    have m2 := k2.below hbw
    have m3 := k3.below hbw
    have mb := bt b1 hbw
    have y1 := m1.cell
    have y2 := m2.cell
    by_cases hlt2 : k < np + 1
    · have hle : (k : Int) ≤ (np : Int) := by omega
      obtain ⟨gk, hgk⟩ := named (g0 + k)
      have hga : (g0 : Int) + (k : Int) = (gk : Int) := by rw [hgk.out]; omega
      have hwgk : IntKind.i64.wrap (gk : Int) = (gk : Int) := wrap_i64_nat' gk (by rw [hgk.out]; omega)
      have hh := hHold wr gk mb (by have := hg0.out; rw [hgk.out]; omega)
      obtain ⟨SK, HSK⟩ := named (holdsOf d (gk : Int))
      rw [← HSK.out] at hh
      have HGK := hide hgk.out
      clear hgk
      go_wp2_with fail
      refine hh.mono ?_
      rintro e w5 ⟨rfl, hb5⟩
      have hb6 := bt hb5 (below_alloc w5 (.cells #[.string SK] 9))
      have hsz5 := hb5.size
      have hszw := hbw.size
      clear hh y1 y2
      go_wp2_with (at_builtin; refine wpList_append_lies _ rfl (.tmp 53) (.tmp 62) _ rfl W4.heap.size 9 j0 _ 1 16 Try.underlying22 hj hy0 hy1 hy2 rfl (by omega) _ k _ rfl (own_below hO hb6) ⟨w5.heap.size, 0, none⟩ 1 1 [.string SK] rfl rfl (World.news_of_block (cs := #[.string SK]) (t := 9) (fr := (0, 0)) (heap_alloc_new w5 _)) (by simp [Value.oneCell']) (by omega) (by simp only [maxLen]; omega) (by omega) (by simp; omega) (w5.heap.size + 1) (by simp) ?_; intro gg cap w6 hown1 hgrow hat hlt9)
      have hb9 : Below W4.heap.size W4 w6 := (bt hbw hb6).grown hgrow (by have := hb6.size; omega) (fun k' e => (World.ownsRow.lt (own_below hO hb6) k' e).1)
      go_roundw
      case rel => exact ⟨k + 1, by omega, by go_num, by
        rw [List.range_succ, List.map_append, List.map_singleton, strs_append]
        rw [show holdsOf d ((g0 + k : Nat) : Int) = SK by rw [HSK.out, HGK.out]]
        exact hown1, hb9⟩
      case measure => simp [intOf]; omega
    · obtain rfl : k = np + 1 := by omega
      have hll : ((List.range (np + 1)).map fun i => holdsOf d ((g0 + i : Nat) : Int)).length = np + 1 := by simp
      have hlies0 : (List.range (np + 1)).map (fun i => holdsOf d ((f + a + i : Nat) : Int)) = (List.range (np + 1)).map fun i => holdsOf d ((g0 + i : Nat) : Int) := by
        refine List.map_congr_left fun i _ => ?_
        rw [hsg.out i]
      obtain ⟨g, cap, rfl, hg, hcg, hlg, _⟩ := own_form hO (by omega)
      obtain ⟨LL, HLL⟩ := named ((List.range (np + 1)).map fun i => holdsOf d ((g0 + i : Nat) : Int))
      rw [← HLL.out] at hll hlg hJN hlies0
      have htl : Texts wr (some ⟨g, 0, none⟩) LL := by unfold Texts; rw [hll]; exact hlg
      have hgt : ¬ ((np : Int) + 1 ≤ (np : Int)) := by omega
      have hgd : decide ((np : Int) + 1 ≤ (np : Int)) = false := decide_eq_false hgt
      clear hO hlg hHold HLL
      by_cases hjj : ∃ fr, FrOk fr ∧ (sectorsL fr).map str = LL
      · obtain ⟨fr, hok, hfl⟩ := hjj
        have hlen2 : np + 1 = piecesN fr.pay.length + 1 := by rw [← hll, ← hfl, List.length_map, sectorsL_length]
        have hAt : FrameAt d f s a fr (np + 1) := ⟨hok, hlen2, hfit, by rw [hlies0, hfl]⟩
        have hjy := refJoin_yes (some ⟨g, 0, none⟩) cap (np + 1) fr wr hok hlen2 hcg (by rw [hfl]; exact htl)
        unfold frVal at hjy
        have Hlen2 := hide hlen2
        clear hlen2 hfl hll hlies0
        go_wp2_with fail
        refine hjy.mono ?_
        rintro e w8 ⟨rfl, hb8⟩
        clear hjy y1 y2
        obtain ⟨F, HF⟩ := named (str fr.pay)
        have hval : frVal fr = .agg #[.int .u8 (fr.kind.toNat : Int), .int .u64 (fr.epoch : Int), .int .u64 (fr.seq : Int), .string F] := by rw [HF.out]; rfl
        rw [← HF.out]
        have n3 := (m3.below hb8).alloc (.cells #[.int .u8 (fr.kind.toNat : Int), .int .u64 (fr.epoch : Int), .int .u64 (fr.seq : Int), .string F] 61)
        have kf := Blk.new w8 [.int .u8 (fr.kind.toNat : Int), .int .u64 (fr.epoch : Int), .int .u64 (fr.seq : Int), .string F] 61
        have nb := (bt mb hb8).alloc (bt mb hb8).size (.cells #[.int .u8 (fr.kind.toNat : Int), .int .u64 (fr.epoch : Int), .int .u64 (fr.seq : Int), .string F] 61)
        go_upto_region 13 with fail
        obtain ⟨W9, HW9⟩ := named (w8.alloc (.cells #[.int .u8 (fr.kind.toNat : Int), .int .u64 (fr.epoch : Int), .int .u64 (fr.seq : Int), .string F] 61))
        obtain ⟨fB, HfB⟩ := named w8.heap.size
        rw [← HfB.out] at kf ⊢
        rw [← HW9.out] at n3 kf nb ⊢
        clear HW9 HfB m1 m2 m3 mb
        have y := kf.cell
        have r0 := n3.cell 0
        have r1 := n3.cell 1
        have r2 := n3.cell 2
        have r3 := n3.cell 3
        have z0 := n3.free 0
        have z1 := n3.free 1
        have z2 := n3.free 2
        have z3 := n3.free 3
        go_wp2
        refine bodyPost_ret (v := .tuple #[.agg #[.int .u8 (fr.kind.toNat : Int), .int .u64 (fr.epoch : Int), .int .u64 (fr.seq : Int), .string F], .int .i64 ((np + 1 : Nat) : Int)]) (by simp [results, Try.results59, go_sem, r0, r1, r2, r3]) rfl ?_
        exact ⟨.inl ⟨fr, np + 1, hAt, by rw [hval]⟩, below4' nb (by omega) _ _ _ _⟩
      · have hnf : NoFrame LL := fun fr hok e => hjj ⟨fr, hok, e⟩
        have hno := hJN hnf
        have hjn := refJoin_no (some ⟨g, 0, none⟩) cap (np + 1) LL wr hnf hll.symm (by omega) hcg htl
        unfold zeroFrame at hjn
        clear hll hlies0 hjj
        go_wp2_with fail
        refine hjn.mono ?_
        rintro e w8 ⟨rfl, hb8⟩
        clear hjn y1 y2 hJN
        have n3 := (m3.below hb8).alloc (.cells #[.int .u8 0, .int .u64 0, .int .u64 0, .string ⟨#[]⟩] 61)
        have nb := (bt mb hb8).alloc (bt mb hb8).size (.cells #[.int .u8 0, .int .u64 0, .int .u64 0, .string ⟨#[]⟩] 61)
        go_upto_region 13 with fail
        obtain ⟨W9, HW9⟩ := named (w8.alloc (.cells #[.int .u8 0, .int .u64 0, .int .u64 0, .string ⟨#[]⟩] 61))
        rw [← HW9.out] at n3 nb ⊢
        clear HW9 m1 m2 m3 mb
        have r0 := n3.cell 0
        have r1 := n3.cell 1
        have r2 := n3.cell 2
        have r3 := n3.cell 3
        have z0 := n3.free 0
        have z1 := n3.free 1
        have z2 := n3.free 2
        have z3 := n3.free 3
        go_wp2_with fail
        refine bodyPost_ret (v := .tuple #[.agg #[.int .u8 0, .int .u64 0, .int .u64 0, .string ⟨#[]⟩], .int .i64 0]) (by simp [results, Try.results59, go_sem, r0, r1, r2, r3]) rfl ?_
        exact ⟨.inr ⟨hno, rfl⟩, below4' nb (by omega) (.int .u8 0) (.int .u64 0) (.int .u64 0) (.string ⟨#[]⟩)⟩
end Go.Proofs.Ytpfbmmeipojodaa
