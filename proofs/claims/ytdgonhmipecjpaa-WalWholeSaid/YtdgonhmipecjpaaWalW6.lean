/- The walk of WalWhole. -/
import Derived.Test.YtdgonhmipecjpaaWalLives
import Derived.Test.YtdgonhmipecjpaaGL
import Derived.Test.YtdgonhmipecjpaaWalWholeP
import Derived.Test.YtdgonhmipecjpaaWalElder
import Derived.Test.YtdgonhmipecjpaaWalSame
import Derived.Test.YtdgonhmipecjpaaWalScanNo
import Derived.Test.YtdgonhmipecjpaaGB
import Derived.Test.YtdgonhmipecjpaaFlat
import Derived.Deep.DeepCutAuto
namespace Go.Proofs.Ytdgonhmipecjpaa
set_option linter.unusedSimpArgs false
set_option linter.unusedVariables false
open Go.RowKit Go.Shelf
open Crc
theorem scan_zero2 {d : Dk} {f s : Int} (h : scanE d f s = 0) : ∃ f' s' : Nat, f = f' ∧ s = s' ∧ 1 ≤ s' ∧ f' + s' ≤ d.secs.length := by
  unfold scanE at h
  by_cases hw : walE d f s = 0
  · obtain ⟨_, h2, h3, h4, h5⟩ := wal_zero hw
    obtain ⟨f', rfl⟩ := Int.eq_ofNat_of_zero_le h2
    obtain ⟨s', rfl⟩ := Int.eq_ofNat_of_zero_le (show 0 ≤ s by omega)
    exact ⟨f', s', rfl, rfl, by omega, by omega⟩
  · rw [if_pos hw] at h
    exact absurd h hw
theorem Frames.far {w : World} {A : Option Addr} {l : List Fr} (h : Frames w A l) {p : Addr} (hp : ∀ a, A = some a → a.block ≠ p.block) (u : Value) : Frames (w.setCell p u) A l := lies_off h (fun _ => hp) u
theorem Frames.far4 {w : World} {A : Option Addr} {l : List Fr} (h : Frames w A l) {X : Nat} (hp : ∀ a, A = some a → a.block ≠ X) (a b c e : Value) : Frames (set4 w X a b c e) A l := lies_off4 h (fun _ => hp) a b c e
theorem Frames.front {w : World} {A : Option Addr} {l m : List Fr} (h : Frames w A (l ++ m)) : Frames w A l := by
  refine ⟨frs_length l, fun hne => ?_⟩
  obtain ⟨b, o, e, hc⟩ := h.2 (by rw [frs_append]; intro h0; exact hne (List.append_eq_nil_iff.1 h0).1)
  refine ⟨b, o, e, fun j u hu => hc j u ?_⟩
  rw [frs_append, List.getElem?_append_left (List.getElem?_eq_some_iff.1 hu).1]
  exact hu
theorem Texts.setInt {w : World} {A : Option Addr} {l : List ByteArray} (h : Texts w A l) {p : Addr} {k : IntKind} {z : Int} (hp : w.cell? p = some (.int k z)) (u : Value) : Texts (w.setCell p u) A l := by
  refine ⟨h.1, fun hn => ?_⟩
  obtain ⟨b, o, e, hc⟩ := h.2 hn
  refine ⟨b, o, e, fun j u' hu => (World.cell?_setCell_other w p _ u (fun e' => ?_)).trans (hc j u' hu)⟩
  have h1 := hc j u' hu
  rw [← e', hp] at h1
  obtain ⟨x, _, rfl⟩ : ∃ x ∈ l, Value.string x = u' := by
    have := List.mem_of_getElem? hu
    simpa [strs] using this
  cases h1
theorem Box.setInt {w : World} {N : Nat} {A1 A2 : Option Addr} {c1 c2 : Nat} {d : Dk} (h : Box w N A1 c1 A2 c2 d) (hp0 : d.pend = []) {p : Addr} {k : IntKind} {z : Int} (hp : w.cell? p = some (.int k z)) (hN : N ≠ p.block) (u : Value) : Box (w.setCell p u) N A1 c1 A2 c2 d := by
  refine ⟨h.blk.far hN u, h.tx.setInt hp u, ?_, h.l1, h.l2, h.f1, h.f2⟩
  have hw := h.wr
  rw [hp0] at hw ⊢
  exact ⟨hw.1, fun hn => absurd rfl hn⟩
theorem Box.setFuse {w : World} {N : Nat} {A1 A2 : Option Addr} {c1 c2 : Nat} {d : Dk} (h : Box w N A1 c1 A2 c2 d) (g : Int) (h1 : -9223372036854775808 ≤ g) (h2 : g ≤ 9223372036854775807) : Box (w.setCell ⟨N, 3, none⟩ (.int .i64 g)) N A1 c1 A2 c2 ⟨d.secs, d.pend, d.off, g⟩ :=
  ⟨h.blk.set 3 _, lies_off h.tx (p := ⟨N, 3, none⟩) (strs_off h.tx h.blk) _, lies_off h.wr (p := ⟨N, 3, none⟩) (wrs_off h.wr h.blk) _, h.l1, h.l2, h1, h2⟩
theorem Frames.lt {w : World} {A : Option Addr} {l : List Fr} (h : Frames w A l) (hne : l ≠ []) : ∀ a, A = some a → a.block < w.heap.size := by
  intro a ha
  obtain ⟨b, o, e, hc⟩ := h.2 (by
    intro h0
    have := frs_length l
    rw [h0] at this
    simp at this
    exact hne (List.eq_nil_of_length_eq_zero (by omega)))
  rw [ha] at e
  cases e
  have h0 : 0 < (frs l).length := by
    rw [frs_length]
    have : l.length ≠ 0 := fun h => hne (List.eq_nil_of_length_eq_zero h)
    omega
  exact World.block_lt_of_cell? w _ (hc 0 _ (List.getElem?_eq_getElem h0))
theorem Frames.empty {w : World} {A : Option Addr} : Frames w A [] := ⟨rfl, fun h => absurd rfl h⟩

set_option maxRecDepth 100000 in
set_option maxHeartbeats 2000000 in
theorem walwhole_w (A1 A2 : Option Addr) (c1 c2 : Nat) (d : Dk) (f s : Int) (kind : UInt8) (ep sq : Nat) (p : ByteArray) (fuse : Int) (Ak : Option Addr) (ck : Nat) (keep : List Bool) (w : World) (h1 : Texts w A1 d.secs) (h2 : Writes w A2 d.pend) (hl1 : d.secs.length * 16 ≤ 140737488351232) (hl2 : d.pend.length * 24 ≤ 140737488351232) (hf1 : -9223372036854775808 ≤ d.fuse) (hf2 : d.fuse ≤ 9223372036854775807)
    (hf : -9223372036854775808 ≤ f ∧ f ≤ 9223372036854775807) (hs : -9223372036854775808 ≤ s ∧ s ≤ 9223372036854775807) (he : ep < 18446744073709551616) (hq : sq < 18446744073709551616) (hfu : -9223372036854775808 ≤ fuse ∧ fuse ≤ 9223372036854775807) (hk : Bools w Ak keep) :
    Calls Try.prog 13 #[.agg #[.slice A1 d.secs.length c1, .slice A2 d.pend.length c2, .bool d.off, .int .i64 d.fuse], .agg #[.int .i64 f, .int .i64 s], .agg #[.int .u8 (kind.toNat : Int), .int .u64 (ep : Int), .int .u64 (sq : Int), .string p], .int .i64 fuse, .slice Ak keep.length ck] w fun e w' => e = .returned (.bool true) ∧ Below w.heap.size w w' := by
  obtain ⟨W, HW, Bd, kr, kf, hb, hz⟩ := three_in w ⟨A1, c1, A2, c2, rfl, h1, h2, by omega, by omega, hf1, hf2⟩ f s kind ep sq p
  go_enter Try.func13, Try.ntmps13
  go_wp2_with fail
  rw [← HW.out]
  clear HW hz h1 h2
  refine (lives4_w _).mono ?_
  rintro e w1 ⟨rfl, hb1⟩
  replace Bd := Bd.below hb1
  replace kr := kr.below hb1
  replace kf := kf.below hb1
  replace hb := bt hb hb1
  clear hb1
  have hcr : Calls Try.prog 29 #[.agg #[.slice A1 d.secs.length c1, .slice A2 d.pend.length c2, .bool d.off, .int .i64 d.fuse], .slice none 0 0] w1 (DkRet (crashD d []) (checkE d) w1) := crash_w _ none 0 d [] w1 Bd.is (Lies.nil _ _ _)
  have hN0 : w.heap.size ≤ w.heap.size := Nat.le_refl _
  have hRN : (w.heap.size + 1) ≠ w.heap.size := by omega
  have hFN : (w.heap.size + 1 + 1) ≠ w.heap.size := by omega
  have hcase : (right d = false ∧ checkE d = 13) ∨ (checkE d = 0 ∧ ∃ S, crashD d [] = ⟨S, [], false, -1⟩ ∧ right ⟨S, [], false, -1⟩ = true) := by
    cases hr : right d
    · exact .inl ⟨rfl, by simp [checkE, hr]⟩
    · exact .inr ⟨by simp [checkE, hr], _, crash_form [] hr, by rw [← crash_form [] hr]; exact right_crash hr⟩
  obtain ⟨D1, HD1⟩ := named (crashD d [])
  obtain ⟨E1, HE1⟩ := named (checkE d)
  rw [← HD1.out, ← HE1.out] at hcr
  rw [← HD1.out, ← HE1.out] at hcase
  have HC := hide hcase
  have xd := Bd.blk.cell
  clear hcase HD1 HE1
  go_wp2_with fail
  clear xd
  refine hcr.mono ?_
  rintro e w2 ⟨v2, rfl, ⟨A3, c3, B3, e3, rfl, t1, t2, l1, l2, f1, f2⟩, hb2⟩
  have By := Bd.below hb2
  have Bz := Box.set (d' := D1) (e1 := c3) (e2 := e3) By t1 t2 l1 l2 f1 f2
  have krz := (kr.below hb2).far4 hRN (.slice A3 D1.secs.length c3) (.slice B3 D1.pend.length e3) (.bool D1.off) (.int .i64 D1.fuse)
  have kfz := (kf.below hb2).far4 hFN (.slice A3 D1.secs.length c3) (.slice B3 D1.pend.length e3) (.bool D1.off) (.int .i64 D1.fuse)
  have hbz := below4 (bt hb hb2) hN0 (.slice A3 D1.secs.length c3) (.slice B3 D1.pend.length e3) (.bool D1.off) (.int .i64 D1.fuse)
  have xd := By.blk.cell
  have fd := By.blk.free
  clear hcr t1 t2 l1 l2 f1 f2
  go_upto_region 4 with fail
  obtain ⟨W3, HW3⟩ := named ((((w2.setCell ⟨w.heap.size, 0, none⟩ (.slice A3 D1.secs.length c3)).setCell ⟨w.heap.size, 1, none⟩ (.slice B3 D1.pend.length e3)).setCell ⟨w.heap.size, 2, none⟩ (.bool D1.off)).setCell ⟨w.heap.size, 3, none⟩ (.int .i64 D1.fuse))
  have Bd3 : Box W3 w.heap.size A3 c3 B3 e3 D1 := by rw [HW3.out]; exact Bz
  have kr3 : Blk W3 (w.heap.size + 1) [.int .i64 f, .int .i64 s] 53 := by rw [HW3.out]; exact krz
  have kf3 : Blk W3 (w.heap.size + 1 + 1) [.int .u8 (kind.toNat : Int), .int .u64 (ep : Int), .int .u64 (sq : Int), .string p] 24 := by rw [HW3.out]; exact kfz
  have hb3 : Below w.heap.size w W3 := by rw [HW3.out]; exact hbz
  rw [← HW3.out]
  clear HW3 Bz krz kfz hbz By xd fd hb2 Bd kr kf hb
  rcases HC.out with ⟨_, rfl⟩ | ⟨rfl, S, hS, hrS⟩
  · go_wp2
    go_ret
    exact ⟨by simp, hb3⟩
  have HS := hide hS
  clear HC hS
  by_cases hsc : scanE D1 f s = 0
  case neg =>
    have hsn := fun W v hv => scan_no v D1 f s ep W hv hf hs hsc
    obtain ⟨E9, HE9⟩ := named (scanE D1 f s)
    rw [← HE9.out] at hsc
    simp only [← HE9.out] at hsn
    have ht1 : (E9 == 0) = false := by simp [hsc]
    have ht2 : (E9 != 0) = true := by simp [hsc]
    have xd := Bd3.blk.cell
    have xr := kr3.cell
    have xf := kf3.cell
    clear HE9 hsc
    go_wp2_with fail
    refine (hsn _ _ Bd3.is).mono ?_
    rintro e w4 ⟨rfl, hb4⟩
    have hbb := bt hb3 hb4
    clear xd xr xf hsn
    go_wp2
    go_ret
    exact ⟨by simp, hbb⟩
  obtain ⟨f, s, rfl, rfl, hs1, hfs⟩ := scan_zero2 hsc
  have hr1 : right D1 = true := by rw [HS.out]; exact hrS
  have ho1 : D1.off = false := by rw [HS.out]
  have hlen := right_len hr1
  obtain ⟨l, b, hlog⟩ : ∃ l b, logOf D1 f s ep = (l, b) := ⟨_, _, rfl⟩
  have hl := (log_of hlog).2.1
  have hbs := (log_of hlog).1.room (Nat.zero_le _)
  have hscan := scan_cap _ D1 f s ep W3 Bd3.is hr1 ho1 hs1 hfs he
  rw [hlog] at hscan
  have HLOG := hide hlog
  have xd := Bd3.blk.cell
  have xr := kr3.cell
  have xf := kf3.cell
  have HR1 := hide hr1
  clear hsc hlog hr1 ho1
  go_wp2_with fail
  clear xd xr xf
  refine hscan.mono ?_
  rintro e w4 ⟨⟨SA, sc, rfl, hcap, hfresh, hSF⟩, hb4⟩
  have hSN : ∀ a, SA = some a → a.block ≠ w.heap.size := fun a ha => by have h1 := hfresh a ha; have h2 := Bd3.lt; omega
  have hSX : ∀ a, SA = some a → a.block ≠ (w.heap.size + 1 + 1) := fun a ha => by have h1 := hfresh a ha; have h2 := kf3.lt; omega
  have Bd := Bd3.below hb4
  have kr := kr3.below hb4
  have kf := kf3.below hb4
  have hb := bt hb3 hb4
  clear hscan hb4 Bd3 kr3 kf3 hb3 hfresh
  by_cases hl1 : l.length < 1024
  case neg =>
    have ht : (1024 : Int) ≤ (l.length : Int) := by omega
    clear hSF hl1 hl hcap
    go_wp2
    go_ret
    exact ⟨by simp, hb⟩
  have ht : ¬ ((1024 : Int) ≤ (l.length : Int)) := by omega
  have hwl : IntKind.u64.wrap (l.length : Int) = (l.length : Int) := wrap_u64_nat _ (by omega)
  have hp0 : D1.pend = [] := by rw [HS.out]
  have hcellI := kf.cell 2
  have BdI := Bd.setInt hp0 (p := ⟨(w.heap.size + 1 + 1), 2, none⟩) hcellI (Ne.symm hFN) (.int .u64 (l.length : Int))
  have kfI : Blk (w4.setCell ⟨(w.heap.size + 1 + 1), 2, none⟩ (.int .u64 (l.length : Int))) (w.heap.size + 1 + 1) [.int .u8 (kind.toNat : Int), .int .u64 (ep : Int), .int .u64 (l.length : Int), .string p] 24 := kf.set 2 _
  have krI := kr.far (p := ⟨(w.heap.size + 1 + 1), 2, none⟩) (by omega : (w.heap.size + 1) ≠ (w.heap.size + 1 + 1)) (.int .u64 (l.length : Int))
  have hSI := hSF.far (p := ⟨(w.heap.size + 1 + 1), 2, none⟩) hSX (.int .u64 (l.length : Int))
  have hbI := hb.setCell (p := ⟨(w.heap.size + 1 + 1), 2, none⟩) (by omega : w.heap.size ≤ (w.heap.size + 1 + 1)) (.int .u64 (l.length : Int))
  have xf := kf.cell
  have ff := kf.free
  clear hcellI hp0
  go_upto_region 10 with fail
  obtain ⟨W5, HW5⟩ := named (w4.setCell ⟨(w.heap.size + 1 + 1), 2, none⟩ (.int .u64 (l.length : Int)))
  rw [← HW5.out] at BdI kfI krI hSI hbI ⊢
  clear HW5 Bd kr kf hSF hb xf ff
  have Bd := BdI
  have kr := krI
  have kf := kfI
  have hSF := hSI
  have hb := hbI
  clear BdI krI kfI hSI hbI
  have xr := kr.cell
  go_upto_if 56 with fail
  clear xr
  go_cut [16] (fun _ wx => (b < s → ¬ (HeadOk (holdsOf D1 ((f + b : Nat) : Int)).data.toList ∧ atL (holdsOf D1 ((f + b : Nat) : Int)).data.toList 2 8 = ep ∧ atL (holdsOf D1 ((f + b : Nat) : Int)).data.toList 10 8 = l.length)) ∧ Box wx w.heap.size A3 c3 B3 e3 D1 ∧ Blk wx (w.heap.size + 1) [.int .i64 (f : Int), .int .i64 (s : Int)] 53 ∧ Blk wx (w.heap.size + 1 + 1) [.int .u8 (kind.toNat : Int), .int .u64 (ep : Int), .int .u64 (l.length : Int), .string p] 24 ∧ Frames wx SA l ∧ Below w.heap.size w wx)
  case first =>
    by_cases hlt : b < s
    case neg =>
      have hlt' : ¬ ((b : Int) < (s : Int)) := by omega
      go_wp2
      go_meet
      case rel => exact ⟨fun h => absurd h hlt, Bd, kr, kf, hSF, hb⟩
    have hlt' : (b : Int) < (s : Int) := by omega
    obtain ⟨g, Hg⟩ := named (f + b)
    have hsg : (f : Int) + (b : Int) = (g : Int) := by rw [Hg.out]; omega
    have hwg : IntKind.i64.wrap (g : Int) = (g : Int) := wrap_i64_nat' g (by rw [Hg.out]; omega)
    have hth : there D1.secs (g : Int) = true := by rw [Hg.out]; exact there_of (by omega)
    have hho := fun W (B : Box W w.heap.size A3 c3 B3 e3 D1) => refHolds_w A3 B3 c3 e3 D1 (g : Int) W B.tx B.wr B.l2 hth
    have hGd : (b < s → ¬ (HeadOk (holdsOf D1 ((f + b : Nat) : Int)).data.toList ∧ atL (holdsOf D1 ((f + b : Nat) : Int)).data.toList 2 8 = ep ∧ atL (holdsOf D1 ((f + b : Nat) : Int)).data.toList 10 8 = l.length)) ↔ ¬ (HeadOk (holdsOf D1 (g : Int)).data.toList ∧ atL (holdsOf D1 (g : Int)).data.toList 2 8 = ep ∧ atL (holdsOf D1 (g : Int)).data.toList 10 8 = l.length) := by
      rw [Hg.out]
      exact ⟨fun h => h hlt, fun h _ => h⟩
    have HGd := hide hGd
    obtain ⟨X, HX⟩ := named (holdsOf D1 (g : Int))
    simp only [← HX.out] at hho
    have HGd2 : Hid ((b < s → ¬ (HeadOk (holdsOf D1 ((f + b : Nat) : Int)).data.toList ∧ atL (holdsOf D1 ((f + b : Nat) : Int)).data.toList 2 8 = ep ∧ atL (holdsOf D1 ((f + b : Nat) : Int)).data.toList 10 8 = l.length)) ↔ ¬ (HeadOk X.data.toList ∧ atL X.data.toList 2 8 = ep ∧ atL X.data.toList 10 8 = l.length)) := by rw [HX.out]; exact HGd.out
    have xd := Bd.blk.cell
    have xr := kr.cell
    clear hGd HGd Hg HX hth hfs hlen hbs
    go_wp2_with fail
    refine (hho _ Bd).mono ?_
    rintro e w6 ⟨rfl, hb6⟩
    replace Bd := Bd.below hb6
    replace kr := kr.below hb6
    replace kf := kf.below hb6
    replace hSF := hSF.below hb6
    replace hb := bt hb hb6
    clear hb6 xd xr hho
    by_cases hH : HeadOk X.data.toList
    · have hhd := fun W => recHead_yes X W hH
      obtain ⟨he1, HE1⟩ := named (atL X.data.toList 2 8)
      obtain ⟨he2, HE2⟩ := named (atL X.data.toList 10 8)
      obtain ⟨hk0, HK0⟩ := named (X.data.toList.getD 1 0).toNat
      obtain ⟨h18, H18⟩ := named (atL X.data.toList 18 4)
      obtain ⟨h22, H22⟩ := named (atL X.data.toList 22 4)
      unfold headVal at hhd
      simp only [← HE1.out, ← HE2.out, ← HK0.out, ← H18.out, ← H22.out] at hhd
      clear HK0 H18 H22
      go_wp2_with fail
      refine (hhd _).mono ?_
      rintro e w7 ⟨rfl, hb7⟩
      have kh := Blk.new w7 [.int .u8 (hk0 : Int), .int .u64 (he1 : Int), .int .u64 (he2 : Int), .int .i64 (h18 : Int), .int .u32 (h22 : Int)] 39
      replace Bd := (Bd.below hb7).alloc (.cells #[.int .u8 (hk0 : Int), .int .u64 (he1 : Int), .int .u64 (he2 : Int), .int .i64 (h18 : Int), .int .u32 (h22 : Int)] 39)
      replace kr := (kr.below hb7).alloc (.cells #[.int .u8 (hk0 : Int), .int .u64 (he1 : Int), .int .u64 (he2 : Int), .int .i64 (h18 : Int), .int .u32 (h22 : Int)] 39)
      replace kf := (kf.below hb7).alloc (.cells #[.int .u8 (hk0 : Int), .int .u64 (he1 : Int), .int .u64 (he2 : Int), .int .i64 (h18 : Int), .int .u32 (h22 : Int)] 39)
      replace hSF := (hSF.below hb7).below (below_alloc _ (.cells #[.int .u8 (hk0 : Int), .int .u64 (he1 : Int), .int .u64 (he2 : Int), .int .i64 (h18 : Int), .int .u32 (h22 : Int)] 39))
      replace hb := bt (bt hb hb7) (below_alloc w7 (.cells #[.int .u8 (hk0 : Int), .int .u64 (he1 : Int), .int .u64 (he2 : Int), .int .i64 (h18 : Int), .int .u32 (h22 : Int)] 39))
      have xh := kh.cell
      have xf := kf.cell
      clear hb7 hhd
      by_cases q1 : he1 = ep
      · by_cases q2 : he2 = l.length
        · have tq1 : ((he1 : Int) == (ep : Int)) = true := by simp; omega
          have tq2 : ((he2 : Int) == (l.length : Int)) = true := by simp; omega
          clear q1 q2 HE1 HE2 hSF
          go_wp2
          go_ret
          exact ⟨by simp, hb⟩
        · have tq1 : ((he1 : Int) == (ep : Int)) = true := by simp; omega
          have tq2 : ((he2 : Int) == (l.length : Int)) = false := by simp; omega
          have HQ := hide (HGd2.out.2 (fun h => q2 (by rw [HE2.out]; exact h.2.2)))
          clear q1 q2 HE1 HE2
          go_wp2
          go_meet
          case rel => exact ⟨HQ.out, Bd, kr, kf, hSF, hb⟩
      · have tq1 : ((he1 : Int) == (ep : Int)) = false := by simp; omega
        have HQ := hide (HGd2.out.2 (fun h => q1 (by rw [HE1.out]; exact h.2.1)))
        clear q1 HE1 HE2
        go_wp2
        go_meet
        case rel => exact ⟨HQ.out, Bd, kr, kf, hSF, hb⟩
    · have hhd := fun W => recHead_no X W hH
      unfold zeroHead at hhd
      have HQ := hide (HGd2.out.2 (fun h => hH h.1))
      go_wp2_with fail
      refine (hhd _).mono ?_
      rintro e w7 ⟨rfl, hb7⟩
      replace Bd := (Bd.below hb7).alloc (.cells #[.int .u8 0, .int .u64 0, .int .u64 0, .int .i64 0, .int .u32 0] 39)
      replace kr := (kr.below hb7).alloc (.cells #[.int .u8 0, .int .u64 0, .int .u64 0, .int .i64 0, .int .u32 0] 39)
      replace kf := (kf.below hb7).alloc (.cells #[.int .u8 0, .int .u64 0, .int .u64 0, .int .i64 0, .int .u32 0] 39)
      replace hSF := (hSF.below hb7).below (below_alloc _ (.cells #[.int .u8 0, .int .u64 0, .int .u64 0, .int .i64 0, .int .u32 0] 39))
      replace hb := bt (bt hb hb7) (below_alloc w7 (.cells #[.int .u8 0, .int .u64 0, .int .u64 0, .int .i64 0, .int .u32 0] 39))
      clear hb7 hhd hH
      go_wp2
      go_meet
      case rel => exact ⟨HQ.out, Bd, kr, kf, hSF, hb⟩
  case rest =>
    clear Bd kr kf hSF hb
    obtain ⟨hG, Bd, kr, kf, hSF, hb⟩ := hcut
    have hG' : b < s → ¬ (HeadOk (holdsOf ⟨S, [], false, -1⟩ ((f + b : Nat) : Int)).data.toList ∧ atL (holdsOf ⟨S, [], false, -1⟩ ((f + b : Nat) : Int)).data.toList 2 8 = ep ∧ atL (holdsOf ⟨S, [], false, -1⟩ ((f + b : Nat) : Int)).data.toList 10 8 = l.length) := by rw [← HS.out]; exact hG
    have hfs' : f + s ≤ S.length := by
      have : D1.secs.length = S.length := by rw [HS.out]
      omega
    obtain ⟨_, hr2, hwc⟩ := whole_cases (fu := fuse) keep kind p hrS hs1 hfs' he (by rw [← HS.out]; exact HLOG.out) hl1 hG'
    have hS2 : (⟨D1.secs, D1.pend, D1.off, fuse⟩ : Dk) = ⟨S, [], false, fuse⟩ := by rw [HS.out]
    have BdF : Box (wc.setCell ⟨w.heap.size, 3, none⟩ (.int .i64 fuse)) w.heap.size A3 c3 B3 e3 ⟨D1.secs, D1.pend, D1.off, fuse⟩ := Bd.setFuse fuse hfu.1 hfu.2
    obtain ⟨D2, HD2⟩ := named (⟨D1.secs, D1.pend, D1.off, fuse⟩ : Dk)
    have HS2 : Hid (D2 = ⟨S, [], false, fuse⟩) := HD2.out.trans hS2
    rw [← HD2.out] at BdF
    rw [← HS2.out] at hr2 hwc
    have HL2 : Hid (D2.secs.length = S.length) := by show _ = _; rw [HS2.out]
    have HR2 := hide hr2
    clear hr2
    have krF := kr.far (p := ⟨w.heap.size, 3, none⟩) hRN (.int .i64 fuse)
    have kfF := kf.far (p := ⟨w.heap.size, 3, none⟩) hFN (.int .i64 fuse)
    have hSFF := hSF.far (p := ⟨w.heap.size, 3, none⟩) hSN (.int .i64 fuse)
    have hbF := hb.setCell (p := ⟨w.heap.size, 3, none⟩) hN0 (.int .i64 fuse)
    have xd := Bd.blk.cell
    have fd := Bd.blk.free
    clear hG hG' hS2 HD2
    go_upto_region 15 with fail
    obtain ⟨W7, HW7⟩ := named (wc.setCell ⟨w.heap.size, 3, none⟩ (.int .i64 fuse))
    rw [← HW7.out] at BdF krF kfF hSFF hbF ⊢
    clear HW7 xd fd Bd kr kf hSF hb
    have hfv : frVal ⟨kind, ep, l.length, p.data.toList⟩ = .agg #[.int .u8 (kind.toNat : Int), .int .u64 (ep : Int), .int .u64 (l.length : Int), .string p] := by rw [frVal_mk]
    have happ := append_w _ D2 (f : Int) (s : Int) (b : Int) ⟨kind, ep, l.length, p.data.toList⟩ W7 BdF.is (by omega) (by omega) (by omega)
    rw [hfv] at happ
    have HWC := hide hwc
    obtain ⟨D3, HD3⟩ := named (appD D2 f s b ⟨kind, ep, l.length, p.data.toList⟩)
    obtain ⟨M3, HM3⟩ := named (appN D2 f s b ⟨kind, ep, l.length, p.data.toList⟩)
    obtain ⟨E3, HE3⟩ := named (appE D2 f s b ⟨kind, ep, l.length, p.data.toList⟩)
    rw [← HD3.out, ← HM3.out, ← HE3.out] at happ hwc
    have HWC3 := hide hwc
    have xd := BdF.blk.cell
    have xr := krF.cell
    have xf := kfF.cell
    clear HD3 HM3 HE3 hwc HWC hfv
    go_wp2_with fail
    clear xd xr xf
    refine happ.mono ?_
    rintro e w8 ⟨v8, rfl, ⟨A4, c4, B4, e4, rfl, g1, g2, g3, g4, g5, g6⟩, hb8⟩
    have Be := Box.new w8 ⟨A4, c4, B4, e4, rfl, g1, g2, g3, g4, g5, g6⟩
    have hNE : w.heap.size ≠ w8.heap.size := by have h1 := hb8.size; have h2 := BdF.lt; omega
    have hRE : (w.heap.size + 1) ≠ w8.heap.size := by have h1 := hb8.size; have h2 := krF.lt; omega
    have hFE : (w.heap.size + 1 + 1) ≠ w8.heap.size := by have h1 := hb8.size; have h2 := kfF.lt; omega
    have hE9 : w.heap.size ≤ w8.heap.size := by have h1 := hb8.size; have h2 := BdF.lt; omega
    have hSE : l ≠ [] → ∀ a, SA = some a → a.block ≠ w8.heap.size := fun hne a ha => by have h1 := hSFF.lt hne a ha; have h2 := hb8.size; omega
    have Bd := (BdF.below hb8).alloc (.cells #[.slice A4 D3.secs.length c4, .slice B4 D3.pend.length e4, .bool D3.off, .int .i64 D3.fuse] 49)
    have kr := (krF.below hb8).alloc (.cells #[.slice A4 D3.secs.length c4, .slice B4 D3.pend.length e4, .bool D3.off, .int .i64 D3.fuse] 49)
    have kf := (kfF.below hb8).alloc (.cells #[.slice A4 D3.secs.length c4, .slice B4 D3.pend.length e4, .bool D3.off, .int .i64 D3.fuse] 49)
    have hSF := (hSFF.below hb8).below (below_alloc w8 (.cells #[.slice A4 D3.secs.length c4, .slice B4 D3.pend.length e4, .bool D3.off, .int .i64 D3.fuse] 49))
    have hb := bt (bt hbF hb8) (below_alloc w8 (.cells #[.slice A4 D3.secs.length c4, .slice B4 D3.pend.length e4, .bool D3.off, .int .i64 D3.fuse] 49))
    clear happ hb8 g1 g2 g3 g4 g5 g6 BdF krF kfF hSFF hbF
    go_upto_region 16 with fail
    obtain ⟨E, HEb⟩ := named w8.heap.size
    obtain ⟨W9, HW9⟩ := named (w8.alloc (.cells #[.slice A4 D3.secs.length c4, .slice B4 D3.pend.length e4, .bool D3.off, .int .i64 D3.fuse] 49))
    rw [← HEb.out] at Be hNE hRE hFE hE9 ⊢
    simp only [← HEb.out] at hSE
    rw [← HW9.out] at Bd Be kr kf hSF hb ⊢
    clear HEb HW9
    rcases HWC3.out with ⟨hE, hD, hM⟩ | ⟨hE, hck, hrC, hoC, hlC, hlogs⟩
    · subst hD
      subst hM
      have xd := Bd.blk.cell
      have xe := Be.blk.cell
      clear HWC3 hSF
      rcases hE with rfl | rfl | rfl
      · go_wp2_with fail
        refine (refSame_w _ _ D3 _ Bd.is Be.is).mono ?_
        rintro e w10 ⟨rfl, hb10⟩
        have hbb := bt hb hb10
        clear xd xe hb10
        go_wp2
        go_ret
        exact ⟨by simp, hbb⟩

      · go_wp2_with fail
        refine (refSame_w _ _ D3 _ Bd.is Be.is).mono ?_
        rintro e w10 ⟨rfl, hb10⟩
        have hbb := bt hb hb10
        clear xd xe hb10
        go_wp2
        go_ret
        exact ⟨by simp, hbb⟩

      · go_wp2_with fail
        refine (refSame_w _ _ D3 _ Bd.is Be.is).mono ?_
        rintro e w10 ⟨rfl, hb10⟩
        have hbb := bt hb hb10
        clear xd xe hb10
        go_wp2
        go_ret
        exact ⟨by simp, hbb⟩
    clear HWC3
    have hcr := crash_w _ Ak ck D3 keep W9 Be.is (Lies.below hk hb)
    obtain ⟨D4, HD4⟩ := named (crashD D3 keep)
    rw [← HD4.out, hck] at hcr
    rw [← HD4.out] at hrC hoC hlC hlogs
    have hlogs' : (E3 = 15 ∧ logOf D4 f s ep = (l, b)) ∨ ∃ (rest : List Fr) (q : Nat), logOf D4 f s ep = (l ++ ⟨kind, ep, l.length, p.data.toList⟩ :: rest, q) ∧ ((rest = [] ∧ (E3 = 0 → M3 = (q : Int))) ∨ ∃ (y : Fr) (n2 i0 : Nat) (r2 : List Fr), rest = y :: r2 ∧ FrameAt D2 f s i0 y n2 ∧ b ≤ i0 ∧ y.epoch = ep ∧ l.length < y.seq) := by
      rcases hlogs with h | ⟨q, h1, h2⟩ | ⟨y, n2, i0, r2, q, h1, h2⟩
      · exact .inl h
      · exact .inr ⟨[], q, h1, .inl ⟨rfl, h2⟩⟩
      · exact .inr ⟨y :: r2, q, h1, .inr ⟨y, n2, i0, r2, rfl, h2⟩⟩
    have HL := hide hlogs'
    have hscan := fun W v hv => scan_cap v D4 f s ep W hv hrC hoC hs1 (by rw [hlC]; exact hfs') he
    have HSC := hide hscan
    clear HD4 hck hrC hoC hlC hlogs hlogs' hscan
    have xe := Be.blk.cell
    have hE12 : (E3 = 0 ∧ Hid (E3 = 0)) ∨ (E3 = 15 ∧ Hid (E3 = 15)) := by rcases hE with h | h; exact .inl ⟨h, h⟩; exact .inr ⟨h, h⟩
    clear hE
    rcases hE12 with ⟨hE, HE3⟩ | ⟨hE, HE3⟩
    all_goals (
      subst hE
      go_wp2_with fail
      clear xe
      refine hcr.mono ?_
      rintro e w10 ⟨v10, rfl, ⟨A5, c5, B5, e5, rfl, t1, t2, l1, l2, f1, f2⟩, hb10⟩
      have By := Be.below hb10
      have Bz := Box.set (d' := D4) (e1 := c5) (e2 := e5) By t1 t2 l1 l2 f1 f2
      have Bdz := (Bd.below hb10).far4 By.blk hNE (.slice A5 D4.secs.length c5) (.slice B5 D4.pend.length e5) (.bool D4.off) (.int .i64 D4.fuse)
      have krz := (kr.below hb10).far4 hRE (.slice A5 D4.secs.length c5) (.slice B5 D4.pend.length e5) (.bool D4.off) (.int .i64 D4.fuse)
      have kfz := (kf.below hb10).far4 hFE (.slice A5 D4.secs.length c5) (.slice B5 D4.pend.length e5) (.bool D4.off) (.int .i64 D4.fuse)
      have hSz : Frames (set4 w10 E (.slice A5 D4.secs.length c5) (.slice B5 D4.pend.length e5) (.bool D4.off) (.int .i64 D4.fuse)) SA l := by
        rcases Classical.em (l = []) with hne | hne
        · subst hne; exact Frames.empty
        · exact (hSF.below hb10).far4 (hSE hne) (.slice A5 D4.secs.length c5) (.slice B5 D4.pend.length e5) (.bool D4.off) (.int .i64 D4.fuse)
      have hbz := below4 (bt hb hb10) hE9 (.slice A5 D4.secs.length c5) (.slice B5 D4.pend.length e5) (.bool D4.off) (.int .i64 D4.fuse)
      have xe := By.blk.cell
      have fe := By.blk.free
      clear hcr t1 t2 l1 l2 f1 f2
      go_upto_region 19 with fail
      obtain ⟨WA, HWA⟩ := named ((((w10.setCell ⟨E, 0, none⟩ (.slice A5 D4.secs.length c5)).setCell ⟨E, 1, none⟩ (.slice B5 D4.pend.length e5)).setCell ⟨E, 2, none⟩ (.bool D4.off)).setCell ⟨E, 3, none⟩ (.int .i64 D4.fuse))
      have Be' : Box WA E A5 c5 B5 e5 D4 := by rw [HWA.out]; exact Bz
      have Bd' : Box WA w.heap.size A3 c3 B3 e3 D2 := by rw [HWA.out]; exact Bdz
      have kr' : Blk WA (w.heap.size + 1) [.int .i64 (f : Int), .int .i64 (s : Int)] 53 := by rw [HWA.out]; exact krz
      have kf' : Blk WA (w.heap.size + 1 + 1) [.int .u8 (kind.toNat : Int), .int .u64 (ep : Int), .int .u64 (l.length : Int), .string p] 24 := by rw [HWA.out]; exact kfz
      have hS' : Frames WA SA l := by rw [HWA.out]; exact hSz
      have hb' : Below w.heap.size w WA := by rw [HWA.out]; exact hbz
      rw [← HWA.out]
      clear HWA Bz Bdz krz kfz hSz hbz By xe fe hb10 Be Bd kr kf hSF hb
      have xe := Be'.blk.cell
      have xr := kr'.cell
      have xf := kf'.cell
      go_wp2_with fail
      clear xe xr xf
      refine (HSC.out _ _ Be'.is).mono ?_
      rintro e w11 ⟨⟨TA, tc, rfl, htc, _, hTF⟩, hb11⟩
      have Bd := Bd'.below hb11
      have kr := kr'.below hb11
      have kf := kf'.below hb11
      have hSF := hS'.below hb11
      have hb := bt hb' hb11
      clear hb11 Be' Bd' kr' kf' hS' hb' HSC)
    · rcases HL.out with ⟨h15, _⟩ | ⟨rest, q, hlog2, hrest⟩
      · exact absurd h15 (by decide)
      · rw [hlog2] at hTF htc ⊢
        have HREST : Hid (((l ++ ⟨kind, ep, l.length, p.data.toList⟩ :: rest).length = l.length + 1 ∧ ((0 : Int) = 0 → M3 = (q : Int))) ∨ ∃ (y : Fr) (n2 i0 : Nat), l.length + 2 ≤ (l ++ ⟨kind, ep, l.length, p.data.toList⟩ :: rest).length ∧ FrameAt D2 f s i0 y n2 ∧ b ≤ i0 ∧ y.epoch = ep ∧ l.length < y.seq) := by
          rcases hrest with ⟨rfl, h⟩ | ⟨y, n2, i0, r2, rfl, h1, h2, h3, h4⟩
          · exact .inl ⟨by simp, fun e => by first | exact h e | exact h trivial⟩
          · exact .inr ⟨y, n2, i0, by simp <;> omega, h1, h2, h3, h4⟩
        have hm1 : l.length + 1 ≤ (l ++ ⟨kind, ep, l.length, p.data.toList⟩ :: rest).length := by simp <;> omega
        have hat := Frames.at_ (l := l ++ ⟨kind, ep, l.length, p.data.toList⟩ :: rest) hTF (k := l.length) (by omega)
        have hfr := hTF.front
        rw [show (l ++ ⟨kind, ep, l.length, p.data.toList⟩ :: rest)[l.length]'(by omega) = ⟨kind, ep, l.length, p.data.toList⟩ by simp] at hat
        simp only [str_of] at hat
        obtain ⟨m9, Hm9⟩ := named (l ++ ⟨kind, ep, l.length, p.data.toList⟩ :: rest).length
        rw [← Hm9.out] at hm1 HREST htc ⊢
        clear hrest HL hlog2 hTF Hm9
        have hTF := hfr
        clear hfr
        obtain ⟨mb, mo, rfl, mc⟩ := hat
        have hq1 : ¬ ((m9 : Int) < (l.length : Int)) := by omega
        have hq6 : decide (m9 < l.length) = false := decide_eq_false (by omega)
        have hq2 : ((m9 : Int) == (l.length : Int)) = false := by simp; omega
        have hq3 : (l.length : Int) ≤ (tc : Int) := by omega
        have hq4 : (l.length : Int) < (m9 : Int) := by omega
        have hq5 : (0 : Int) ≤ (l.length : Int) := by omega
        have hlq : l.length ≤ 100000 := by omega
        go_wp2_with fail
        refine (refSame4_w (some ⟨mb, mo, none⟩) SA _ _ l _ hTF hSF hlq).mono ?_
        rintro e w12 ⟨rfl, hb12⟩
        replace mc := And.intro ((hb12.cell (World.block_lt_of_cell? _ _ mc.1)).trans mc.1) (And.intro ((hb12.cell (World.block_lt_of_cell? _ _ mc.2.1)).trans mc.2.1) (And.intro ((hb12.cell (World.block_lt_of_cell? _ _ mc.2.2.1)).trans mc.2.2.1) ((hb12.cell (World.block_lt_of_cell? _ _ mc.2.2.2)).trans mc.2.2.2)))
        replace Bd := Bd.below hb12
        replace kr := kr.below hb12
        replace kf := kf.below hb12
        replace hb := bt hb hb12
        clear hb12
        go_wp2_with fail
        refine region_flat _ (fun u => Below w12.heap.size w12 u) (fun u u' => Below u.heap.size u u')
          (rel [fun v _ => v = .slice (some ⟨mb, mo, none⟩) m9 tc,
            fun v _ => v = .slice SA l.length sc,
            fun v _ => v = .int .i64 (l.length : Int),
            fun v _ => v = .pointer (some ⟨mb, mo + l.length * 4, none⟩),
            fun v _ => v = .agg #[.int .u8 (kind.toNat : Int), .int .u64 (ep : Int), .int .u64 (l.length : Int), .string p],
            fun v _ => v = .agg #[.int .u8 (kind.toNat : Int), .int .u64 (ep : Int), .int .u64 (l.length : Int), .string p],
            fun v _ => v = .bool false])
          (by kernel_rfl) (by kernel_rfl) (fun v => by simp only [putsV, Act.put, List.toList_toArray, List.setIfInBounds_toArray, List.set_cons_zero, List.set_cons_succ, Nat.reduceAdd, Nat.zero_add]; rfl) ?_ (Below.refl _ _).drew ?_ ?_
        · intro j x u u' hb h
          match j with
          | 0 => exact h
          | 1 => exact h
          | 2 => exact h
          | 3 => exact h
          | 4 => exact h
          | 5 => exact h
          | 6 => exact h
          | _ + 7 => trivial
        · refine ⟨?_, ?_, ?_, ?_, ?_, ?_, ?_, trivial⟩
          · intro v u hS hd K' hK
            simp only [waited, List.toList_toArray, Region.binds, rel, List.getD_cons_zero, List.getD_cons_succ, true_imp_iff, and_true] at hd
            simp only [rel, List.getD_cons_zero, List.getD_cons_succ, Act.put, List.setIfInBounds_toArray, List.set_cons_zero, List.set_cons_succ] at hK
            try simp only [hd] at hK
            have hS1 := hS
            go_simp
            exact hK.out _ _ ⟨hS1, Below.refl _ _, rfl⟩
          · intro v u hS hd K' hK
            simp only [waited, List.toList_toArray, Region.binds, rel, List.getD_cons_zero, List.getD_cons_succ, true_imp_iff, and_true] at hd
            simp only [rel, List.getD_cons_zero, List.getD_cons_succ, Act.put, List.setIfInBounds_toArray, List.set_cons_zero, List.set_cons_succ] at hK
            try simp only [hd] at hK
            have hS1 := hS
            go_simp
            exact hK.out _ _ ⟨hS1, Below.refl _ _, rfl⟩
          · intro v u hS hd K' hK
            simp only [waited, List.toList_toArray, Region.binds, rel, List.getD_cons_zero, List.getD_cons_succ, true_imp_iff, and_true] at hd
            simp only [rel, List.getD_cons_zero, List.getD_cons_succ, Act.put, List.setIfInBounds_toArray, List.set_cons_zero, List.set_cons_succ] at hK
            try simp only [hd] at hK
            have hS1 := hS
            go_simp
            exact hK.out _ _ ⟨hS1, Below.refl _ _, rfl⟩
          · intro v u hS hd K' hK
            simp only [waited, List.toList_toArray, Region.binds, rel, List.getD_cons_zero, List.getD_cons_succ, true_imp_iff, and_true] at hd
            simp only [rel, List.getD_cons_zero, List.getD_cons_succ, Act.put, List.setIfInBounds_toArray, List.set_cons_zero, List.set_cons_succ] at hK
            try simp only [hd] at hK
            have hS1 := hS
            go_simp
            exact hK.out _ _ ⟨hS1, Below.refl _ _, rfl⟩
          · intro v u hS hd K' hK
            simp only [waited, List.toList_toArray, Region.binds, rel, List.getD_cons_zero, List.getD_cons_succ, true_imp_iff, and_true] at hd
            simp only [rel, List.getD_cons_zero, List.getD_cons_succ, Act.put, List.setIfInBounds_toArray, List.set_cons_zero, List.set_cons_succ] at hK
            try simp only [hd] at hK
            have hS1 := hS
            have q0 := (hS1.cell (p := ⟨mb, mo + l.length * 4, none⟩) (World.block_lt_of_cell? w12 _ mc.1)).trans mc.1
            have q1 := (hS1.cell (p := ⟨mb, mo + l.length * 4 + 1, none⟩) (World.block_lt_of_cell? w12 _ mc.2.1)).trans mc.2.1
            have q2 := (hS1.cell (p := ⟨mb, mo + l.length * 4 + 2, none⟩) (World.block_lt_of_cell? w12 _ mc.2.2.1)).trans mc.2.2.1
            have q3 := (hS1.cell (p := ⟨mb, mo + l.length * 4 + 3, none⟩) (World.block_lt_of_cell? w12 _ mc.2.2.2)).trans mc.2.2.2
            go_simp
            exact hK.out _ _ ⟨hS1, Below.refl _ _, rfl⟩
          · intro v u hS hd K' hK
            simp only [waited, List.toList_toArray, Region.binds, rel, List.getD_cons_zero, List.getD_cons_succ, true_imp_iff, and_true] at hd
            simp only [rel, List.getD_cons_zero, List.getD_cons_succ, Act.put, List.setIfInBounds_toArray, List.set_cons_zero, List.set_cons_succ] at hK
            try simp only [hd] at hK
            have hS1 := hS
            have q0 := (kf.below hS1).cell 0
            have q1 := (kf.below hS1).cell 1
            have q2 := (kf.below hS1).cell 2
            have q3 := (kf.below hS1).cell 3
            go_simp
            exact hK.out _ _ ⟨hS1, Below.refl _ _, rfl⟩
          · intro v u hS hd K' hK
            simp only [waited, List.toList_toArray, Region.binds, rel, List.getD_cons_zero, List.getD_cons_succ, true_imp_iff, and_true] at hd
            simp only [rel, List.getD_cons_zero, List.getD_cons_succ, Act.put, List.setIfInBounds_toArray, List.set_cons_zero, List.set_cons_succ] at hK
            try simp only [hd] at hK
            have hS1 := hS
            go_simp
            exact hK.out _ _ ⟨hS1, Below.refl _ _, rfl⟩
        · rintro v u hS1 hR
          simp only [holdAll, List.size_toArray, List.length_cons, List.length_nil, Nat.reduceAdd, rel, List.getD_cons_zero, List.getD_cons_succ] at hR
          obtain ⟨_, h6⟩ := hR
          simp only [h6]
          clear h6
          rcases HREST.out with ⟨hm9, hM⟩ | ⟨y, n2, i0, hm9, hy, hbi, hye, hys⟩
          · have tm1 : (m9 : Int) = (l.length : Int) + 1 := by omega
            have tm2 : ((m9 : Int) == (l.length : Int) + 1) = true := by simp [tm1]
            have hM' := hM (by first | exact rfl | exact trivial)
            subst hM'
            have hbb := bt hb hS1
            clear Bd kr kf hTF hSF HR2 HREST hm9 hM hm1
            go_wp2
            go_ret
            exact ⟨by simp, hbb⟩
          · have tm2 : ((m9 : Int) == (l.length : Int) + 1) = false := by simp; omega
            have tm3 : (l.length : Int) + 1 < (m9 : Int) := by omega
            have Bd9 := Bd.below hS1
            have kr9 := kr.below hS1
            have kf9 := kf.below hS1
            have hbb := bt hb hS1
            have hel := elder_w A3 B3 c3 e3 D2 f s b kind ep l.length p i0 y n2 _ Bd9.is HR2.out (by rw [HL2.out]; exact hfs') hy hbi hye hys
            have xd := Bd9.blk.cell
            have xr := kr9.cell
            have xf := kf9.cell
            clear Bd kr kf hTF hSF HREST hm9 hm1 hy hye hys hbi hb
            go_wp2_with fail
            refine hel.mono ?_
            rintro e w13 ⟨rfl, hb13⟩
            have hb13' := bt hbb hb13
            clear xd xr xf hel
            go_wp2
            go_ret
            exact ⟨by simp, hb13'⟩
    · rcases HL.out with ⟨_, hlog2⟩ | ⟨rest, q, hlog2, hrest⟩
      · rw [hlog2] at hTF htc ⊢
        clear hlog2 HL
        have hq1 : ¬ ((l.length : Int) < (l.length : Int)) := by omega
        go_wp2_with fail
        refine (refSame4_w TA SA _ _ l _ hTF hSF (by omega)).mono ?_
        rintro e w12 ⟨rfl, hb12⟩
        have hbb := bt hb hb12
        clear hTF hSF hb12
        go_wp2
        go_ret
        exact ⟨by simp, hbb⟩
      · rw [hlog2] at hTF htc ⊢
        have HREST : Hid (((l ++ ⟨kind, ep, l.length, p.data.toList⟩ :: rest).length = l.length + 1 ∧ ((15 : Int) = 0 → M3 = (q : Int))) ∨ ∃ (y : Fr) (n2 i0 : Nat), l.length + 2 ≤ (l ++ ⟨kind, ep, l.length, p.data.toList⟩ :: rest).length ∧ FrameAt D2 f s i0 y n2 ∧ b ≤ i0 ∧ y.epoch = ep ∧ l.length < y.seq) := by
          rcases hrest with ⟨rfl, h⟩ | ⟨y, n2, i0, r2, rfl, h1, h2, h3, h4⟩
          · exact .inl ⟨by simp, fun e => by first | exact h e | exact h trivial⟩
          · exact .inr ⟨y, n2, i0, by simp <;> omega, h1, h2, h3, h4⟩
        have hm1 : l.length + 1 ≤ (l ++ ⟨kind, ep, l.length, p.data.toList⟩ :: rest).length := by simp <;> omega
        have hat := Frames.at_ (l := l ++ ⟨kind, ep, l.length, p.data.toList⟩ :: rest) hTF (k := l.length) (by omega)
        have hfr := hTF.front
        rw [show (l ++ ⟨kind, ep, l.length, p.data.toList⟩ :: rest)[l.length]'(by omega) = ⟨kind, ep, l.length, p.data.toList⟩ by simp] at hat
        simp only [str_of] at hat
        obtain ⟨m9, Hm9⟩ := named (l ++ ⟨kind, ep, l.length, p.data.toList⟩ :: rest).length
        rw [← Hm9.out] at hm1 HREST htc ⊢
        clear hrest HL hlog2 hTF Hm9
        have hTF := hfr
        clear hfr
        obtain ⟨mb, mo, rfl, mc⟩ := hat
        have hq1 : ¬ ((m9 : Int) < (l.length : Int)) := by omega
        have hq6 : decide (m9 < l.length) = false := decide_eq_false (by omega)
        have hq2 : ((m9 : Int) == (l.length : Int)) = false := by simp; omega
        have hq3 : (l.length : Int) ≤ (tc : Int) := by omega
        have hq4 : (l.length : Int) < (m9 : Int) := by omega
        have hq5 : (0 : Int) ≤ (l.length : Int) := by omega
        have hlq : l.length ≤ 100000 := by omega
        go_wp2_with fail
        refine (refSame4_w (some ⟨mb, mo, none⟩) SA _ _ l _ hTF hSF hlq).mono ?_
        rintro e w12 ⟨rfl, hb12⟩
        replace mc := And.intro ((hb12.cell (World.block_lt_of_cell? _ _ mc.1)).trans mc.1) (And.intro ((hb12.cell (World.block_lt_of_cell? _ _ mc.2.1)).trans mc.2.1) (And.intro ((hb12.cell (World.block_lt_of_cell? _ _ mc.2.2.1)).trans mc.2.2.1) ((hb12.cell (World.block_lt_of_cell? _ _ mc.2.2.2)).trans mc.2.2.2)))
        replace Bd := Bd.below hb12
        replace kr := kr.below hb12
        replace kf := kf.below hb12
        replace hb := bt hb hb12
        clear hb12
        go_wp2_with fail
        refine region_flat _ (fun u => Below w12.heap.size w12 u) (fun u u' => Below u.heap.size u u')
          (rel [fun v _ => v = .slice (some ⟨mb, mo, none⟩) m9 tc,
            fun v _ => v = .slice SA l.length sc,
            fun v _ => v = .int .i64 (l.length : Int),
            fun v _ => v = .pointer (some ⟨mb, mo + l.length * 4, none⟩),
            fun v _ => v = .agg #[.int .u8 (kind.toNat : Int), .int .u64 (ep : Int), .int .u64 (l.length : Int), .string p],
            fun v _ => v = .agg #[.int .u8 (kind.toNat : Int), .int .u64 (ep : Int), .int .u64 (l.length : Int), .string p],
            fun v _ => v = .bool false])
          (by kernel_rfl) (by kernel_rfl) (fun v => by simp only [putsV, Act.put, List.toList_toArray, List.setIfInBounds_toArray, List.set_cons_zero, List.set_cons_succ, Nat.reduceAdd, Nat.zero_add]; rfl) ?_ (Below.refl _ _).drew ?_ ?_
        · intro j x u u' hb h
          match j with
          | 0 => exact h
          | 1 => exact h
          | 2 => exact h
          | 3 => exact h
          | 4 => exact h
          | 5 => exact h
          | 6 => exact h
          | _ + 7 => trivial
        · refine ⟨?_, ?_, ?_, ?_, ?_, ?_, ?_, trivial⟩
          · intro v u hS hd K' hK
            simp only [waited, List.toList_toArray, Region.binds, rel, List.getD_cons_zero, List.getD_cons_succ, true_imp_iff, and_true] at hd
            simp only [rel, List.getD_cons_zero, List.getD_cons_succ, Act.put, List.setIfInBounds_toArray, List.set_cons_zero, List.set_cons_succ] at hK
            try simp only [hd] at hK
            have hS1 := hS
            go_simp
            exact hK.out _ _ ⟨hS1, Below.refl _ _, rfl⟩
          · intro v u hS hd K' hK
            simp only [waited, List.toList_toArray, Region.binds, rel, List.getD_cons_zero, List.getD_cons_succ, true_imp_iff, and_true] at hd
            simp only [rel, List.getD_cons_zero, List.getD_cons_succ, Act.put, List.setIfInBounds_toArray, List.set_cons_zero, List.set_cons_succ] at hK
            try simp only [hd] at hK
            have hS1 := hS
            go_simp
            exact hK.out _ _ ⟨hS1, Below.refl _ _, rfl⟩
          · intro v u hS hd K' hK
            simp only [waited, List.toList_toArray, Region.binds, rel, List.getD_cons_zero, List.getD_cons_succ, true_imp_iff, and_true] at hd
            simp only [rel, List.getD_cons_zero, List.getD_cons_succ, Act.put, List.setIfInBounds_toArray, List.set_cons_zero, List.set_cons_succ] at hK
            try simp only [hd] at hK
            have hS1 := hS
            go_simp
            exact hK.out _ _ ⟨hS1, Below.refl _ _, rfl⟩
          · intro v u hS hd K' hK
            simp only [waited, List.toList_toArray, Region.binds, rel, List.getD_cons_zero, List.getD_cons_succ, true_imp_iff, and_true] at hd
            simp only [rel, List.getD_cons_zero, List.getD_cons_succ, Act.put, List.setIfInBounds_toArray, List.set_cons_zero, List.set_cons_succ] at hK
            try simp only [hd] at hK
            have hS1 := hS
            go_simp
            exact hK.out _ _ ⟨hS1, Below.refl _ _, rfl⟩
          · intro v u hS hd K' hK
            simp only [waited, List.toList_toArray, Region.binds, rel, List.getD_cons_zero, List.getD_cons_succ, true_imp_iff, and_true] at hd
            simp only [rel, List.getD_cons_zero, List.getD_cons_succ, Act.put, List.setIfInBounds_toArray, List.set_cons_zero, List.set_cons_succ] at hK
            try simp only [hd] at hK
            have hS1 := hS
            have q0 := (hS1.cell (p := ⟨mb, mo + l.length * 4, none⟩) (World.block_lt_of_cell? w12 _ mc.1)).trans mc.1
            have q1 := (hS1.cell (p := ⟨mb, mo + l.length * 4 + 1, none⟩) (World.block_lt_of_cell? w12 _ mc.2.1)).trans mc.2.1
            have q2 := (hS1.cell (p := ⟨mb, mo + l.length * 4 + 2, none⟩) (World.block_lt_of_cell? w12 _ mc.2.2.1)).trans mc.2.2.1
            have q3 := (hS1.cell (p := ⟨mb, mo + l.length * 4 + 3, none⟩) (World.block_lt_of_cell? w12 _ mc.2.2.2)).trans mc.2.2.2
            go_simp
            exact hK.out _ _ ⟨hS1, Below.refl _ _, rfl⟩
          · intro v u hS hd K' hK
            simp only [waited, List.toList_toArray, Region.binds, rel, List.getD_cons_zero, List.getD_cons_succ, true_imp_iff, and_true] at hd
            simp only [rel, List.getD_cons_zero, List.getD_cons_succ, Act.put, List.setIfInBounds_toArray, List.set_cons_zero, List.set_cons_succ] at hK
            try simp only [hd] at hK
            have hS1 := hS
            have q0 := (kf.below hS1).cell 0
            have q1 := (kf.below hS1).cell 1
            have q2 := (kf.below hS1).cell 2
            have q3 := (kf.below hS1).cell 3
            go_simp
            exact hK.out _ _ ⟨hS1, Below.refl _ _, rfl⟩
          · intro v u hS hd K' hK
            simp only [waited, List.toList_toArray, Region.binds, rel, List.getD_cons_zero, List.getD_cons_succ, true_imp_iff, and_true] at hd
            simp only [rel, List.getD_cons_zero, List.getD_cons_succ, Act.put, List.setIfInBounds_toArray, List.set_cons_zero, List.set_cons_succ] at hK
            try simp only [hd] at hK
            have hS1 := hS
            go_simp
            exact hK.out _ _ ⟨hS1, Below.refl _ _, rfl⟩
        · rintro v u hS1 hR
          simp only [holdAll, List.size_toArray, List.length_cons, List.length_nil, Nat.reduceAdd, rel, List.getD_cons_zero, List.getD_cons_succ] at hR
          obtain ⟨_, h6⟩ := hR
          simp only [h6]
          clear h6
          rcases HREST.out with ⟨hm9, hM⟩ | ⟨y, n2, i0, hm9, hy, hbi, hye, hys⟩
          · have tm1 : (m9 : Int) = (l.length : Int) + 1 := by omega
            have tm2 : ((m9 : Int) == (l.length : Int) + 1) = true := by simp [tm1]
            have hbb := bt hb hS1
            clear Bd kr kf hTF hSF HR2 HREST hm9 hM hm1
            go_wp2
            go_ret
            exact ⟨by simp, hbb⟩
          · have tm2 : ((m9 : Int) == (l.length : Int) + 1) = false := by simp; omega
            have tm3 : (l.length : Int) + 1 < (m9 : Int) := by omega
            have Bd9 := Bd.below hS1
            have kr9 := kr.below hS1
            have kf9 := kf.below hS1
            have hbb := bt hb hS1
            have hel := elder_w A3 B3 c3 e3 D2 f s b kind ep l.length p i0 y n2 _ Bd9.is HR2.out (by rw [HL2.out]; exact hfs') hy hbi hye hys
            have xd := Bd9.blk.cell
            have xr := kr9.cell
            have xf := kf9.cell
            clear Bd kr kf hTF hSF HREST hm9 hm1 hy hye hys hbi hb
            go_wp2_with fail
            refine hel.mono ?_
            rintro e w13 ⟨rfl, hb13⟩
            have hb13' := bt hbb hb13
            clear xd xr xf hel
            go_wp2
            go_ret
            exact ⟨by simp, hb13'⟩
end Go.Proofs.Ytdgonhmipecjpaa
