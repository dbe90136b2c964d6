/- Several small texts of this proof, one behind the other. -/
import Derived.Test.YtpfbmmeipojodaaGI
import Derived.Test.YtpfbmmeipojodaaWalCheck
import Derived.Test.YtpfbmmeipojodaaGC
import Derived.Test.YtpfbmmeipojodaaGJ
section
/- Two slots, in plain Lean: what lies in them, what is loaded, what saving comes to. -/
namespace Go.Proofs.Ytpfbmmeipojodaa
open Go.RowKit
structure Img where
  ep : Nat
  pay : List UInt8
def Img.val (m : Img) : Value := .agg #[.int .u64 (m.ep : Int), .string (str m.pay)]
def img0 : Img := ⟨0, []⟩
def apart (fa sa fb sb : Int) : Bool := if fb < fa then decide (sb ≤ fa - fb) else decide (sa ≤ fb - fa)
def slE (d : Dk) (fa sa fb sb : Int) : Int := if walE d fa sa ≠ 0 then walE d fa sa else if walE d fb sb ≠ 0 then walE d fb sb else if apart fa sa fb sb = true then 0 else 10
noncomputable def imgOf (d : Dk) (f s : Nat) : Option Img := match frameOf d f s 0 with
  | some (x, _) => if x.kind = 2 ∧ x.seq = 0 then some ⟨x.epoch, x.pay⟩ else none
  | none => none
def best : Option Img → Option Img → Img × Nat × Int
  | some x, some y => if y.ep ≤ x.ep then (x, 0, 0) else (y, 1, 0)
  | some x, none => (x, 0, 0)
  | none, some y => (y, 1, 0)
  | none, none => (img0, 0, 9)
noncomputable def loadR (d : Dk) (fa sa fb sb : Int) : Img × Nat × Int := if slE d fa sa fb sb ≠ 0 then (img0, 0, slE d fa sa fb sb) else if d.off = true then (img0, 0, 15) else best (imgOf d fa.toNat sa.toNat) (imgOf d fb.toNat sb.toNat)
def imgFr (m : Img) : Fr := ⟨2, m.ep, 0, m.pay⟩
def imgSecs (m : Img) : List ByteArray := (sectorsL (imgFr m)).map str
/-- What saving comes to, the result of loading known. -/
noncomputable def saveOn (d : Dk) (fa sa fb sb : Int) (m : Img) (r : Img × Nat × Int) : Dk × Int :=
  if r.2.2 = 15 then (d, 15) else if 16384 < m.pay.length then (d, 3) else if r.2.2 = 0 ∧ m.ep ≤ r.1.ep then (d, 1)
  else if r.2.2 = 0 ∧ r.2.1 = 0 then (if sb < ((imgSecs m).length : Int) then (d, 17) else (layD d fb.toNat (imgSecs m), layE d fb.toNat (imgSecs m)))
  else (if sa < ((imgSecs m).length : Int) then (d, 17) else (layD d fa.toNat (imgSecs m), layE d fa.toNat (imgSecs m)))
noncomputable def saveR (d : Dk) (fa sa fb sb : Int) (m : Img) : Dk × Int := if slE d fa sa fb sb ≠ 0 then (dk0, slE d fa sa fb sb) else saveOn d fa sa fb sb m (loadR d fa sa fb sb)
theorem sl_zero {d : Dk} {fa sa fb sb : Int} (h : slE d fa sa fb sb = 0) : walE d fa sa = 0 ∧ walE d fb sb = 0 ∧ apart fa sa fb sb = true := by
  unfold slE at h
  by_cases h1 : walE d fa sa = 0
  · by_cases h2 : walE d fb sb = 0
    · rw [if_neg (by simp [h1]), if_neg (by simp [h2])] at h
      by_cases h3 : apart fa sa fb sb = true
      · exact ⟨h1, h2, h3⟩
      · rw [if_neg h3] at h; exact absurd h (by decide)
    · rw [if_neg (by simp [h1]), if_pos h2] at h; exact absurd h h2
  · rw [if_pos h1] at h; exact absurd h h1
theorem apart_iff {fa sa fb sb : Int} (h1 : 1 ≤ sa) (h2 : 1 ≤ sb) : apart fa sa fb sb = true ↔ ¬ (fa < fb + sb ∧ fb < fa + sa) := by
  unfold apart
  by_cases h : fb < fa
  · rw [if_pos h, decide_eq_true_iff]; omega
  · rw [if_neg h, decide_eq_true_iff]; omega
theorem imgOf_some {d : Dk} {f s n : Nat} {x : Fr} (h : FrameAt d f s 0 x n) (hk : x.kind = 2) (hs : x.seq = 0) : imgOf d f s = some ⟨x.epoch, x.pay⟩ := by
  rw [imgOf, frameOf_some h]
  simp [hk, hs]
theorem imgOf_other {d : Dk} {f s n : Nat} {x : Fr} (h : FrameAt d f s 0 x n) (hk : ¬ (x.kind = 2 ∧ x.seq = 0)) : imgOf d f s = none := by
  rw [imgOf, frameOf_some h]
  simp only [if_neg hk]
theorem imgOf_none {d : Dk} {f s : Nat} (h : ∀ x n, FrameAt d f s 0 x n → ¬ (x.kind = 2 ∧ x.seq = 0)) : imgOf d f s = none := by
  by_cases he : ∃ p : Fr × Nat, FrameAt d f s 0 p.1 p.2
  · obtain ⟨⟨x, n⟩, hx⟩ := he
    exact imgOf_other hx (h x n hx)
  · rw [imgOf, frameOf_none (fun fr n hf => he ⟨(fr, n), hf⟩)]
theorem imgOf_is {d : Dk} {f s : Nat} {m : Img} (h : imgOf d f s = some m) : ∃ n, FrameAt d f s 0 (imgFr m) n := by
  by_cases he : ∃ p : Fr × Nat, FrameAt d f s 0 p.1 p.2
  · obtain ⟨⟨x, n⟩, hx⟩ := he
    by_cases hk : x.kind = 2 ∧ x.seq = 0
    · rw [imgOf_some hx hk.1 hk.2] at h
      cases h
      refine ⟨n, ?_⟩
      obtain ⟨kind, ep, sq, pay⟩ := x
      obtain ⟨h1, h2⟩ := hk
      cases h1; cases h2
      exact hx
    · rw [imgOf_other hx hk] at h; exact absurd h (by simp)
  · rw [imgOf, frameOf_none (fun fr n hf => he ⟨(fr, n), hf⟩)] at h
    exact absurd h (by simp)
end Go.Proofs.Ytpfbmmeipojodaa
end
section
/- Two slots that lie side by side, saved to one by one: what lies there, whatever the power does; in plain Lean. -/
namespace Go.Proofs.Ytpfbmmeipojodaa
open Go.RowKit
def otherK (k : Nat) : Nat := 1 - k
/-- m lies in slot k (of 0 and 1, each of n sectors), and in the other one nothing that is as new. -/
structure SlOn (d : Dk) (n : Nat) (m : Img) (k : Nat) : Prop where
  rt : right d = true
  on : d.off = false
  none : d.pend = []
  size : d.secs.length = 2 * n
  pos : 1 ≤ n
  k1 : k ≤ 1
  lies : (m = img0 ∧ k = 1 ∧ ¬ HeadOk (holdsOf d ((0 : Nat) : Int)).data.toList ∧ ¬ HeadOk (holdsOf d (n : Int)).data.toList) ∨
    (1 ≤ m.ep ∧ imgOf d (k * n) n = some m ∧ (HeadOk (holdsOf d (((1 - k) * n : Nat) : Int)).data.toList → atL (holdsOf d (((1 - k) * n : Nat) : Int)).data.toList 2 8 < m.ep))
theorem img_head {d : Dk} {f s : Nat} {m : Img} (h : imgOf d f s = some m) : HeadOk (holdsOf d (f : Int)).data.toList ∧ atL (holdsOf d (f : Int)).data.toList 2 8 = m.ep := by
  obtain ⟨c, hf⟩ := imgOf_is h
  have hh := hf.head
  rw [Nat.add_zero] at hh
  rw [hh]
  have := head_epoch (imgFr m) hf.ok
  exact ⟨this.1, this.2.1⟩
theorem img_nohead {d : Dk} {f s : Nat} (h : ¬ HeadOk (holdsOf d (f : Int)).data.toList) : imgOf d f s = none := by
  cases hi : imgOf d f s with
  | none => rfl
  | some m => exact absurd (img_head hi).1 h
theorem img_at {d : Dk} {f s c : Nat} {m : Img} (h : FrameAt d f s 0 (imgFr m) c) : imgOf d f s = some m := imgOf_some h rfl rfl
theorem img_same {d d' : Dk} {f s : Nat} {m : Img} (h : imgOf d f s = some m) (hs : ∀ j : Nat, f ≤ j → j < f + s → holdsOf d' j = holdsOf d j) : imgOf d' f s = some m := by
  obtain ⟨c, hf⟩ := imgOf_is h
  have := hf.pos
  exact img_at (hf.same fun j h1 h2 => hs j (by omega) (by omega))
theorem imgSecs_length (m : Img) : (imgSecs m).length = piecesN m.pay.length + 1 := by rw [imgSecs, List.length_map, sectorsL_length]; rfl
section
variable {d : Dk} {n k : Nat} {m : Img}
theorem SlOn.size1 (h : SlOn d n m k) : n ≤ 512 := by
  have := right_len h.rt
  have := h.size
  omega
theorem SlOn.fuse (h : SlOn d n m k) (g : Int) : SlOn { d with fuse := g } n m k := by
  obtain ⟨h1, h2, h3, h4, h5, h6, h7⟩ := h
  refine ⟨h1, h2, h3, h4, h5, h6, ?_⟩
  rcases h7 with ⟨a, b, c, e⟩ | ⟨a, b, c⟩
  · exact .inl ⟨a, b, c, e⟩
  · exact .inr ⟨a, img_same b fun _ _ _ => rfl, c⟩
theorem SlOn.form (h : SlOn d n m k) : d = ⟨d.secs, [], false, d.fuse⟩ := by
  obtain ⟨S, P, o, f⟩ := d
  have h1 := h.none
  have h2 := h.on
  simp only at h1 h2
  subst h1
  subst h2
  rfl
theorem SlOn.check (h : SlOn d n m k) : slE d 0 n n n = 0 := by
  have h1 := right_len h.rt
  have h2 := h.size
  have h3 := h.pos
  have g1 : regOk d 0 n = true := by simp [regOk]; omega
  have g2 : regOk d n n = true := by simp [regOk]; omega
  have w1 : walE d 0 n = 0 := by simp [walE, h.rt, g1]
  have w2 : walE d n n = 0 := by simp [walE, h.rt, g2]
  have a1 : apart 0 n n n = true := by unfold apart; rw [if_neg (by omega)]; simp
  unfold slE
  rw [if_neg (by simp [w1]), if_neg (by simp [w2]), if_pos a1]
theorem SlOn.load (h : SlOn d n m k) : loadR d 0 n n n = if m.ep = 0 then (img0, 0, 9) else (m, k, 0) := by
  unfold loadR
  rw [if_neg (by simp [h.check]), if_neg (by simp [h.on])]
  rw [show (0 : Int).toNat = 0 from rfl, Int.toNat_natCast]
  have hk := h.k1
  rcases h.lies with ⟨rfl, rfl, h1, h2⟩ | ⟨h1, h2, h3⟩
  · rw [if_pos (show img0.ep = 0 from rfl), img_nohead h1, img_nohead h2]; rfl
  · rw [if_neg (by omega)]
    have hk : k = 0 ∨ k = 1 := by omega
    rcases hk with rfl | rfl
    · rw [Nat.zero_mul] at h2
      rw [h2]
      cases hi : imgOf d n n with
      | none => rfl
      | some y =>
        have hh := img_head hi
        have := h3 (by rw [show (1 - 0) * n = n by omega]; exact hh.1)
        rw [show (1 - 0) * n = n by omega, hh.2] at this
        simp [best, Nat.le_of_lt this]
    · rw [Nat.one_mul] at h2
      rw [h2]
      cases hi : imgOf d 0 n with
      | none => rfl
      | some y =>
        have hh := img_head hi
        have := h3 (by rw [show (1 - 1) * n = 0 by omega]; exact hh.1)
        rw [show (1 - 1) * n = 0 by omega, hh.2] at this
        simp only [best]
        rw [if_neg (by omega)]
/-- A newer one, laid. -/
theorem SlOn.laid {C : Dk} (h : SlOn d n m k) {x : Img} (he : m.ep < x.ep) (hx : x.ep < 18446744073709551616) (hp : x.pay.length ≤ 16384) (hroom : piecesN x.pay.length + 1 ≤ n) (hr : right C = true) (ho : C.off = false) (hn : C.pend = []) (hs : C.secs.length = 2 * n)
    (hl : LaidAs d C ((1 - k) * n) (imgSecs x)) : SlOn C n x (1 - k) := by
  have ok : FrOk (imgFr x) := ⟨(by decide : (2 : UInt8) ≠ 0), hp, hx, (by decide : (0 : Nat) < 18446744073709551616)⟩
  have hsz := h.size
  have hk : k = 0 ∨ k = 1 := by have := h.k1; omega
  have hll := imgSecs_length x
  have hfr : FrameAt C ((1 - k) * n) n 0 (imgFr x) (piecesN x.pay.length + 1) :=
    frame_laid (d := d) (fr := imgFr x) ok (by show 0 + (piecesN x.pay.length + 1) ≤ n; omega) (by rcases hk with rfl | rfl <;> omega) (by rw [Nat.add_zero]; exact hl)
  refine ⟨hr, ho, hn, hs, h.pos, by omega, .inr ⟨by omega, img_at hfr, ?_⟩⟩
  have hpos := h.pos
  have ho : (1 - (1 - k)) * n = k * n := by rcases hk with rfl | rfl <;> omega
  rw [ho]
  have hsame : holdsOf C ((k * n : Nat) : Int) = holdsOf d ((k * n : Nat) : Int) := by
    rw [hl (k * n) (by rcases hk with rfl | rfl <;> omega), if_neg (by rw [hll]; rcases hk with rfl | rfl <;> omega)]
  rw [hsame]
  intro hh
  rcases h.lies with ⟨_, rfl, _, h2⟩ | ⟨_, h2, _⟩
  · rw [Nat.one_mul] at hh; exact absurd hh h2
  · rw [(img_head h2).2]; exact he
theorem SlOn.kept {C : Dk} (h : SlOn d n m k) {x : Img} (hroom : piecesN x.pay.length + 1 ≤ n) (hr : right C = true) (ho : C.off = false) (hn : C.pend = []) (hs : C.secs.length = 2 * n)
    (hl : KeptAs d C ((1 - k) * n) (imgSecs x)) : SlOn C n m k := by
  have hsz := h.size
  have hk : k = 0 ∨ k = 1 := by have := h.k1; omega
  have hll := imgSecs_length x
  have hpos := h.pos
  have hoth : ∀ j : Nat, j < 2 * n → j ≤ (1 - k) * n ∨ (1 - k) * n + n ≤ j → holdsOf C j = holdsOf d j := fun j h1 h2 => hl.1 j (by omega) (by rw [hll]; rcases h2 with h2 | h2; exact .inl h2; exact .inr (by omega))
  refine ⟨hr, ho, hn, hs, hpos, h.k1, ?_⟩
  rcases h.lies with ⟨rfl, rfl, h1, h2⟩ | ⟨h1, h2, h3⟩
  · refine .inl ⟨rfl, rfl, ?_, ?_⟩
    · rw [hoth 0 (by omega) (by omega)]; exact h1
    · rw [hoth n (by omega) (by omega)]; exact h2
  · refine .inr ⟨h1, img_same h2 fun j g1 g2 => hoth j (by rcases hk with rfl | rfl <;> omega) (by rcases hk with rfl | rfl <;> omega), ?_⟩
    rw [hoth ((1 - k) * n) (by rcases hk with rfl | rfl <;> omega) (by omega)]
    exact h3
/-- What saving a newer one comes to. -/
theorem SlOn.save (h : SlOn d n m k) {x : Img} (he : m.ep < x.ep) :
    saveR d 0 n n n x = if 16384 < x.pay.length then (d, 3) else if n < piecesN x.pay.length + 1 then (d, 17) else (layD d ((1 - k) * n) (imgSecs x), layE d ((1 - k) * n) (imgSecs x)) := by
  have hk : k = 0 ∨ k = 1 := by have := h.k1; omega
  have hll := imgSecs_length x
  unfold saveR
  rw [if_neg (by simp [h.check]), h.load]
  unfold saveOn
  by_cases hm : m.ep = 0
  · have hk1 : k = 1 := by
      rcases h.lies with ⟨_, h1, _⟩ | ⟨h1, _⟩
      · exact h1
      · omega
    subst hk1
    rw [if_pos hm]
    simp only [hll]
    rw [if_neg (by decide)]
    by_cases h1 : 16384 < x.pay.length
    · rw [if_pos h1, if_pos h1]
    · rw [if_neg h1, if_neg h1, if_neg (by simp), if_neg (by simp)]
      by_cases h2 : n < piecesN x.pay.length + 1
      · rw [if_pos (by omega), if_pos h2]
      · rw [if_neg (by omega), if_neg h2]
        rw [show (1 - 1) * n = (0 : Int).toNat by simp]
  · rw [if_neg hm]
    simp only [hll]
    rw [if_neg (by decide)]
    by_cases h1 : 16384 < x.pay.length
    · rw [if_pos h1, if_pos h1]
    · rw [if_neg h1, if_neg h1, if_neg (by omega)]
      rcases hk with rfl | rfl
      · rw [if_pos (by simp)]
        by_cases h2 : n < piecesN x.pay.length + 1
        · rw [if_pos (by omega), if_pos h2]
        · rw [if_neg (by omega), if_neg h2]
          rw [show (1 - 0) * n = (n : Int).toNat by simp]
      · rw [if_neg (by simp)]
        by_cases h2 : n < piecesN x.pay.length + 1
        · rw [if_pos (by omega), if_pos h2]
        · rw [if_neg (by omega), if_neg h2]
          rw [show (1 - 1) * n = (0 : Int).toNat by simp]
/-- However the power goes. -/
theorem SlOn.power (h : SlOn d n m k) {x : Img} (keep : List Bool) (he : m.ep < x.ep) (hx : x.ep < 18446744073709551616) (hp : x.pay.length ≤ 16384) (hroom : piecesN x.pay.length + 1 ≤ n) :
    (layE d ((1 - k) * n) (imgSecs x) = 0 ∨ layE d ((1 - k) * n) (imgSecs x) = 15) ∧ right (layD d ((1 - k) * n) (imgSecs x)) = true ∧
    ((layE d ((1 - k) * n) (imgSecs x) = 15 ∧ SlOn (crashD (layD d ((1 - k) * n) (imgSecs x)) keep) n m k) ∨ SlOn (crashD (layD d ((1 - k) * n) (imgSecs x)) keep) n x (1 - k)) := by
  have ok : FrOk (imgFr x) := ⟨(by decide : (2 : UInt8) ≠ 0), hp, hx, (by decide : (0 : Nat) < 18446744073709551616)⟩
  have hll := imgSecs_length x
  have hpl : piecesN x.pay.length ≤ 269 := pieces_le ok
  have hk : k = 0 ∨ k = 1 := by have := h.k1; omega
  have hsz := h.size
  have hf := h.form
  have hr := h.rt
  rw [hf] at hr
  obtain ⟨hE, hrD, hlen, hC⟩ := lay_crash (a := (1 - k) * n) (l := imgSecs x) keep hr (sizes64 _) (by omega) (by omega) (by rcases hk with rfl | rfl <;> omega)
  rw [← hf] at hE hrD hlen hC
  refine ⟨hE, hrD, ?_⟩
  have hcf := crash_form keep hrD
  have hrC := right_crash (keep := keep) hrD
  have g1 : (crashD (layD d ((1 - k) * n) (imgSecs x)) keep).off = false := by rw [hcf]
  have g2 : (crashD (layD d ((1 - k) * n) (imgSecs x)) keep).pend = [] := by rw [hcf]
  have g3 : (crashD (layD d ((1 - k) * n) (imgSecs x)) keep).secs.length = 2 * n := by rw [hcf]; exact (stl_length _ _ _ _).trans (hlen.trans hsz)
  rcases hC with ⟨h15, hk⟩ | hl
  · exact .inl ⟨h15, h.kept hroom hrC g1 g2 g3 hk⟩
  · exact .inr (h.laid he hx hp hroom hrC g1 g2 g3 hl)
theorem SlOn.fine (h : SlOn d n m k) {x : Img} (he : m.ep < x.ep) (hx : x.ep < 18446744073709551616) (hp : x.pay.length ≤ 16384) (hroom : piecesN x.pay.length + 1 ≤ n) (h0 : layE d ((1 - k) * n) (imgSecs x) = 0) :
    SlOn (layD d ((1 - k) * n) (imgSecs x)) n x (1 - k) := by
  obtain ⟨h1, h2, h3, h4, h5⟩ := lay_holds h.rt h.on (by rw [imgSecs_length]; omega) h0
  exact h.laid he hx hp hroom h1 h2 h3 (h4.trans h.size) h5
theorem SlOn.calm (h : SlOn d n m k) (hf : d.fuse = -1) {x : Img} (he : m.ep < x.ep) (hx : x.ep < 18446744073709551616) (hp : x.pay.length ≤ 16384) (hroom : piecesN x.pay.length + 1 ≤ n) :
    layE d ((1 - k) * n) (imgSecs x) = 0 ∧ SlOn (layD d ((1 - k) * n) (imgSecs x)) n x (1 - k) ∧ (layD d ((1 - k) * n) (imgSecs x)).fuse = -1 := by
  have hE := (h.power [] he hx hp hroom).1
  have hcalm := calm_run (laySt ((1 - k) * n) (imgSecs x)) d h.on hf
  have h0 := hE.resolve_right hcalm.1
  exact ⟨h0, h.fine he hx hp hroom h0, hcalm.2 h0⟩
end
theorem new_slots (n : Nat) (h1 : 1 ≤ n) (h2 : n ≤ 512) : SlOn (newD (2 * n : Nat)) n img0 1 := by
  have hn : newD (2 * n : Nat) = ⟨List.replicate (2 * n) zero64, [], false, -1⟩ := ((new_of (2 * n : Nat)).1 (by simp [sizeOk]; omega)).1
  rw [hn]
  have hh : ∀ m : Nat, m < 2 * n → ¬ HeadOk (holdsOf ⟨List.replicate (2 * n) zero64, [], false, -1⟩ (m : Int)).data.toList := fun m hm => by
    rw [holds_nil, show (List.replicate (2 * n) zero64).getD m ⟨#[]⟩ = zero64 by simp [List.getD, hm]]
    exact zero_nohead
  exact ⟨right_iff.2 ⟨by simp; omega, by simp, fun x hx => by rw [List.eq_of_mem_replicate hx]; simp [zero64, str_size], by simp⟩, rfl, rfl, by simp, h1, Nat.le_refl _, .inl ⟨rfl, rfl, hh 0 (by omega), hh n (by omega)⟩⟩
end Go.Proofs.Ytpfbmmeipojodaa
end
section
/- A disk, two regions and an image that came in as arguments, in their variables. -/
namespace Go.Proofs.Ytpfbmmeipojodaa
open Go.RowKit Go.Shelf
theorem dab_in (w : World) {A1 A2 : Option Addr} {c1 c2 : Nat} {d : Dk} (h : DkIs w (.agg #[.slice A1 d.secs.length c1, .slice A2 d.pend.length c2, .bool d.off, .int .i64 d.fuse]) d) (fa sa fb sb : Int) :
    ∃ W, Hid (W = ((w.alloc (.cells #[.slice A1 d.secs.length c1, .slice A2 d.pend.length c2, .bool d.off, .int .i64 d.fuse] 28)).alloc (.cells #[.int .i64 fa, .int .i64 sa] 33)).alloc (.cells #[.int .i64 fb, .int .i64 sb] 33)) ∧
      Box W w.heap.size A1 c1 A2 c2 d ∧ Blk W (w.heap.size + 1) [.int .i64 fa, .int .i64 sa] 33 ∧ Blk W (w.heap.size + 1 + 1) [.int .i64 fb, .int .i64 sb] 33 ∧ Below w.heap.size w W ∧ W.heap.size = w.heap.size + 1 + 1 + 1 := by
  have z1 : (w.alloc (.cells #[.slice A1 d.secs.length c1, .slice A2 d.pend.length c2, .bool d.off, .int .i64 d.fuse] 28)).heap.size = w.heap.size + 1 := by simp
  have z2 : ((w.alloc (.cells #[.slice A1 d.secs.length c1, .slice A2 d.pend.length c2, .bool d.off, .int .i64 d.fuse] 28)).alloc (.cells #[.int .i64 fa, .int .i64 sa] 33)).heap.size = w.heap.size + 1 + 1 := by simp
  have k1 := (Blk.new (w.alloc (.cells #[.slice A1 d.secs.length c1, .slice A2 d.pend.length c2, .bool d.off, .int .i64 d.fuse] 28)) [.int .i64 fa, .int .i64 sa] 33).alloc (.cells #[.int .i64 fb, .int .i64 sb] 33)
  have k2 := Blk.new ((w.alloc (.cells #[.slice A1 d.secs.length c1, .slice A2 d.pend.length c2, .bool d.off, .int .i64 d.fuse] 28)).alloc (.cells #[.int .i64 fa, .int .i64 sa] 33)) [.int .i64 fb, .int .i64 sb] 33
  rw [z1] at k1
  rw [z2] at k2
  exact ⟨_, rfl, ((Box.new w h).alloc _).alloc _, k1, k2, bt (bt (below_alloc _ _) (below_alloc _ _)) (below_alloc _ _), by simp⟩
theorem dabm_in (w : World) {A1 A2 : Option Addr} {c1 c2 : Nat} {d : Dk} (h : DkIs w (.agg #[.slice A1 d.secs.length c1, .slice A2 d.pend.length c2, .bool d.off, .int .i64 d.fuse]) d) (fa sa fb sb : Int) (ep : Int) (p : ByteArray) :
    ∃ W, Hid (W = (((w.alloc (.cells #[.slice A1 d.secs.length c1, .slice A2 d.pend.length c2, .bool d.off, .int .i64 d.fuse] 28)).alloc (.cells #[.int .i64 fa, .int .i64 sa] 33)).alloc (.cells #[.int .i64 fb, .int .i64 sb] 33)).alloc (.cells #[.int .u64 ep, .string p] 36)) ∧
      Box W w.heap.size A1 c1 A2 c2 d ∧ Blk W (w.heap.size + 1) [.int .i64 fa, .int .i64 sa] 33 ∧ Blk W (w.heap.size + 1 + 1) [.int .i64 fb, .int .i64 sb] 33 ∧ Blk W (w.heap.size + 1 + 1 + 1) [.int .u64 ep, .string p] 36 ∧ Below w.heap.size w W ∧ W.heap.size = w.heap.size + 1 + 1 + 1 + 1 := by
  obtain ⟨V, HV, b0, k1, k2, hb, hz⟩ := dab_in w h fa sa fb sb
  have k3 := Blk.new V [.int .u64 ep, .string p] 36
  rw [hz] at k3
  exact ⟨_, by rw [← HV.out]; exact hide rfl, b0.alloc _, k1.alloc _, k2.alloc _, k3, bt hb (below_alloc _ _), by simp [hz]⟩
end Go.Proofs.Ytpfbmmeipojodaa
end
section
/- slots.Check, and the document's. -/
namespace Go.Proofs.Ytpfbmmeipojodaa
set_option linter.unusedSimpArgs false
set_option linter.unusedVariables false
open Go.RowKit Go.Shelf
open Crc
theorem sl_a {d : Dk} {fa sa fb sb x : Int} (h : walE d fa sa = x) (hx : x ≠ 0) : slE d fa sa fb sb = x := by unfold slE; rw [if_pos (by rw [h]; exact hx), h]
theorem sl_b {d : Dk} {fa sa fb sb x : Int} (h0 : walE d fa sa = 0) (h : walE d fb sb = x) (hx : x ≠ 0) : slE d fa sa fb sb = x := by unfold slE; rw [if_neg (by simp [h0]), if_pos (by rw [h]; exact hx), h]
theorem sl_c {d : Dk} {fa sa fb sb : Int} (h0 : walE d fa sa = 0) (h : walE d fb sb = 0) (b : Bool) (hx : apart fa sa fb sb = b) : slE d fa sa fb sb = if b = true then 0 else 10 := by unfold slE; rw [if_neg (by simp [h0]), if_neg (by simp [h]), hx]
theorem pick0 (a b c e : Value) (w : World) : (Instr.index 57 (.agg #[a, b, c, e]) (.int .i64 0)).run Try.prog w = .ok (.agg #[a, b]) w := by kernel_rfl
theorem pick1 (a b c e : Value) (w : World) : (Instr.index 57 (.agg #[a, b, c, e]) (.int .i64 1)).run Try.prog w = .ok (.agg #[c, e]) w := by kernel_rfl
set_option maxHeartbeats 1000000 in
set_option maxRecDepth 100000 in
theorem slCheck_w (v : Value) (d : Dk) (fa sa fb sb : Int) (w : World) (hv : DkIs w v d) (hfa : -9223372036854775808 ≤ fa ∧ fa ≤ 9223372036854775807) (hsa : -9223372036854775808 ≤ sa ∧ sa ≤ 9223372036854775807) (hfb : -9223372036854775808 ≤ fb ∧ fb ≤ 9223372036854775807) (hsb : -9223372036854775808 ≤ sb ∧ sb ≤ 9223372036854775807) :
    Calls Try.prog 19 #[v, .agg #[.int .i64 fa, .int .i64 sa], .agg #[.int .i64 fb, .int .i64 sb]] w fun e w' => e = .returned (.int .i64 (slE d fa sa fb sb)) ∧ Below w.heap.size w w' := by
  have hv0 := hv
  obtain ⟨A1, c1, A2, c2, rfl, _⟩ := hv
  obtain ⟨W, HW, Bd, ka, kb, hb, hz⟩ := dab_in w hv0 fa sa fb sb
  have hca := fun W hv => walCheck_w (.agg #[.slice A1 d.secs.length c1, .slice A2 d.pend.length c2, .bool d.off, .int .i64 d.fuse]) d fa sa W hv hfa hsa
  have hcb := fun W hv => walCheck_w (.agg #[.slice A1 d.secs.length c1, .slice A2 d.pend.length c2, .bool d.off, .int .i64 d.fuse]) d fb sb W hv hfb hsb
  have hzl := fun h : walE d fa sa = 0 => wal_zero h
  have hzb := fun h : walE d fb sb = 0 => wal_zero h
  obtain ⟨X, HX⟩ := named (walE d fa sa)
  obtain ⟨Y, HY⟩ := named (walE d fb sb)
  rw [← HX.out] at hzl
  rw [← HY.out] at hzb
  simp only [← HX.out] at hca
  simp only [← HY.out] at hcb
  obtain ⟨R, HR⟩ := named (slE d fa sa fb sb)
  rw [← HR.out]
  go_enter Try.func19, Try.ntmps19
  have xa := ka.cell
  have xb := kb.cell
  rw [HW.out] at xa xb
  go_wp2_with fail
  rw [← HW.out]
  clear xa xb
  go_loopw [13] (fun i wr => ∃ k : Nat, k ≤ 2 ∧ i = .int .i64 (k : Int) ∧ Hid ((1 ≤ k → X = 0) ∧ (2 ≤ k → Y = 0)) ∧ Box wr w.heap.size A1 c1 A2 c2 d ∧ Blk wr (w.heap.size + 1) [.int .i64 fa, .int .i64 sa] 33 ∧ Blk wr (w.heap.size + 1 + 1) [.int .i64 fb, .int .i64 sb] 33 ∧ Below w.heap.size w wr)
    (fun i _ => 2 - (intOf i).toNat)
  case atStart => exact ⟨0, by omega, rfl, ⟨fun h => by omega, fun h => by omega⟩, Bd, ka, kb, hb⟩
  case round =>
    obtain ⟨k, hk, rfl, HK, Bd, ka, kb, hb⟩ := hrel
    have hk3 : k = 0 ∨ k = 1 ∨ k = 2 := by omega
    clear hk
    rcases hk3 with rfl | rfl | rfl
    · have xd := (Bd.alloc (.cells #[.int .i64 fa, .int .i64 sa] 33)).blk.cell
      clear hzl hzb
      have hp0 := pick0 (.int .i64 fa) (.int .i64 sa) (.int .i64 fb) (.int .i64 sb)
      have hp1 := pick1 (.int .i64 fa) (.int .i64 sa) (.int .i64 fb) (.int .i64 sb)
      go_wp2_with fail
      have hb1 := below_alloc wr (.cells #[.int .i64 fa, .int .i64 sa] 33)
      refine (hca _ (Bd.is.below hb1)).mono ?_
      rintro e w2 ⟨rfl, hb2⟩
      replace Bd := Bd.below (bt hb1 hb2)
      replace ka := ka.below (bt hb1 hb2)
      replace kb := kb.below (bt hb1 hb2)
      replace hb := bt hb (bt hb1 hb2)
      clear hb1 hb2 xd hca hcb
      by_cases hX : X = 0
      · have hx1 : (X == 0) = true := by simp [hX]
        have hx2 : (X != 0) = false := by simp [hX]
        have HX0 := hide hX
        clear hX
        go_wp2
        go_roundw
        case rel => exact ⟨1, by omega, by first | rfl | go_num, ⟨fun _ => HX0.out, fun h => by omega⟩, Bd, ka, kb, hb⟩
        case measure => simp [intOf]
      · have hx1 : (X == 0) = false := by simp [hX]
        have hx2 : (X != 0) = true := by simp [hX]
        have hR : R = X := HR.out.trans (sl_a HX.out.symm hX)
        have HR' := hide hR
        clear hX hR
        go_wp2
        go_ret
        exact ⟨ret_int HR'.out.symm, hb⟩
    · have xd := (Bd.alloc (.cells #[.int .i64 fb, .int .i64 sb] 33)).blk.cell
      clear hzl hzb
      have hp0 := pick0 (.int .i64 fa) (.int .i64 sa) (.int .i64 fb) (.int .i64 sb)
      have hp1 := pick1 (.int .i64 fa) (.int .i64 sa) (.int .i64 fb) (.int .i64 sb)
      go_wp2_with fail
      have hb1 := below_alloc wr (.cells #[.int .i64 fb, .int .i64 sb] 33)
      refine (hcb _ (Bd.is.below hb1)).mono ?_
      rintro e w2 ⟨rfl, hb2⟩
      replace Bd := Bd.below (bt hb1 hb2)
      replace ka := ka.below (bt hb1 hb2)
      replace kb := kb.below (bt hb1 hb2)
      replace hb := bt hb (bt hb1 hb2)
      clear hb1 hb2 xd hca hcb
      have HX0 := hide (HK.out.1 (by omega))
      by_cases hX : Y = 0
      · have hx1 : (Y == 0) = true := by simp [hX]
        have hx2 : (Y != 0) = false := by simp [hX]
        have HY0 := hide hX
        clear hX
        go_wp2
        go_roundw
        case rel => exact ⟨2, by omega, by first | rfl | go_num, ⟨fun _ => HX0.out, fun _ => HY0.out⟩, Bd, ka, kb, hb⟩
        case measure => simp [intOf]
      · have hx1 : (Y == 0) = false := by simp [hX]
        have hx2 : (Y != 0) = true := by simp [hX]
        have hR : R = Y := HR.out.trans (sl_b (HX.out.symm.trans HX0.out) HY.out.symm hX)
        have HR' := hide hR
        clear hX hR
        go_wp2
        go_ret
        exact ⟨ret_int HR'.out.symm, hb⟩
    · have hX0 := HK.out.1 (by omega)
      have hY0 := HK.out.2 (by omega)
      obtain ⟨hr, a1, a2, a3, a4⟩ := hzl hX0
      obtain ⟨_, b1, b2, b3, b4⟩ := hzb hY0
      have hlen := right_len hr
      have hRR : ∀ b, apart fa sa fb sb = b → R = if b = true then 0 else 10 := fun b h => HR.out.trans (sl_c (HX.out.symm.trans hX0) (HY.out.symm.trans hY0) b h)
      clear hca hcb hzl hzb hX0 hY0 HK hr
      have xa := ka.cell
      have xb := kb.cell
      by_cases hab : fb < fa
      · have hw : IntKind.i64.wrap (fa - fb) = fa - fb := by simp [IntKind.wrap, IntKind.bits, IntKind.signed]; omega
        have ya := ka.free
        have yb := kb.free
        have hbb := (((hb.setCell (p := ⟨w.heap.size + 1, 0, none⟩) (by show w.heap.size ≤ w.heap.size + 1; omega) (.int .i64 fb)).setCell (p := ⟨w.heap.size + 1, 1, none⟩) (by show w.heap.size ≤ w.heap.size + 1; omega) (.int .i64 sb)).setCell (p := ⟨w.heap.size + 1 + 1, 0, none⟩) (by show w.heap.size ≤ w.heap.size + 1 + 1; omega) (.int .i64 fa)).setCell (p := ⟨w.heap.size + 1 + 1, 1, none⟩) (by show w.heap.size ≤ w.heap.size + 1 + 1; omega) (.int .i64 sa)
        by_cases h2 : sb ≤ fa - fb
        · have HR' := hide (hRR true (by unfold apart; rw [if_pos hab]; simp [h2]))
          have t1 : ¬ fa - fb < sb := by omega
          clear hRR
          go_wp2
          go_ret
          exact ⟨ret_int (by rw [HR'.out]; simp), hbb⟩
        · have HR' := hide (hRR false (by unfold apart; rw [if_pos hab]; simp; omega))
          have t1 : fa - fb < sb := by omega
          clear hRR
          go_wp2
          go_ret
          exact ⟨ret_int (by rw [HR'.out]; simp), hbb⟩
      · have hw : IntKind.i64.wrap (fb - fa) = fb - fa := by simp [IntKind.wrap, IntKind.bits, IntKind.signed]; omega
        by_cases h2 : sa ≤ fb - fa
        · have HR' := hide (hRR true (by unfold apart; rw [if_neg hab]; simp [h2]))
          have t1 : ¬ fb - fa < sa := by omega
          clear hRR
          go_wp2
          go_ret
          exact ⟨ret_int (by rw [HR'.out]; simp), hb⟩
        · have HR' := hide (hRR false (by unfold apart; rw [if_neg hab]; simp; omega))
          have t1 : fb - fa < sa := by omega
          clear hRR
          go_wp2
          go_ret
          exact ⟨ret_int (by rw [HR'.out]; simp), hb⟩
set_option maxHeartbeats 1000000 in
set_option maxRecDepth 100000 in
theorem refSlCheck_w (v : Value) (d : Dk) (fa sa fb sb : Int) (w : World) (hv : DkIs w v d) (hfa : -9223372036854775808 ≤ fa ∧ fa ≤ 9223372036854775807) (hsa : -9223372036854775808 ≤ sa ∧ sa ≤ 9223372036854775807) (hfb : -9223372036854775808 ≤ fb ∧ fb ≤ 9223372036854775807) (hsb : -9223372036854775808 ≤ sb ∧ sb ≤ 9223372036854775807) :
    Calls Try.prog 20 #[v, .agg #[.int .i64 fa, .int .i64 sa], .agg #[.int .i64 fb, .int .i64 sb]] w fun e w' => e = .returned (.int .i64 (slE d fa sa fb sb)) ∧ Below w.heap.size w w' := by
  have hv0 := hv
  obtain ⟨A1, c1, A2, c2, rfl, _⟩ := hv
  obtain ⟨W, HW, Bd, ka, kb, hb, hz⟩ := dab_in w hv0 fa sa fb sb
  have hca := refWalCheck_w (.agg #[.slice A1 d.secs.length c1, .slice A2 d.pend.length c2, .bool d.off, .int .i64 d.fuse]) d fa sa W Bd.is hfa hsa
  have hcb := fun W hv => refWalCheck_w (.agg #[.slice A1 d.secs.length c1, .slice A2 d.pend.length c2, .bool d.off, .int .i64 d.fuse]) d fb sb W hv hfb hsb
  have hzl := fun h : walE d fa sa = 0 => wal_zero h
  have hzb := fun h : walE d fb sb = 0 => wal_zero h
  obtain ⟨X, HX⟩ := named (walE d fa sa)
  obtain ⟨Y, HY⟩ := named (walE d fb sb)
  rw [← HX.out] at hzl
  rw [← HY.out] at hzb
  rw [← HX.out] at hca
  simp only [← HY.out] at hcb
  obtain ⟨R, HR⟩ := named (slE d fa sa fb sb)
  rw [← HR.out]
  go_enter Try.func20, Try.ntmps20
  have xd := Bd.blk.cell
  have xa := ka.cell
  rw [HW.out] at xd xa
  go_wp2_with fail
  rw [← HW.out]
  clear xd xa HW
  refine hca.mono ?_
  rintro e w2 ⟨rfl, hb2⟩
  replace Bd := Bd.below hb2
  replace ka := ka.below hb2
  replace kb := kb.below hb2
  replace hb := bt hb hb2
  clear hb2 hca
  by_cases hX : X = 0
  case neg =>
    have hx1 : (X == 0) = false := by simp [hX]
    have hR : R = X := HR.out.trans (sl_a HX.out.symm hX)
    have HR' := hide hR
    clear hX hR hcb hzl hzb
    go_wp2
    go_ret
    exact ⟨ret_int HR'.out.symm, hb⟩
  have hx1 : (X == 0) = true := by simp [hX]
  have HX0 := hide hX
  have xd := Bd.blk.cell
  have xb := kb.cell
  have hzz := hzl hX
  clear hX hzl
  go_wp2_with fail
  refine (hcb _ Bd.is).mono ?_
  rintro e w3 ⟨rfl, hb3⟩
  replace Bd := Bd.below hb3
  replace ka := ka.below hb3
  replace kb := kb.below hb3
  replace hb := bt hb hb3
  clear hb3 hcb xd xb
  by_cases hY : Y = 0
  case neg =>
    have hy1 : (Y == 0) = false := by simp [hY]
    have hR : R = Y := HR.out.trans (sl_b (HX.out.symm.trans HX0.out) HY.out.symm hY)
    have HR' := hide hR
    clear hY hR hzb hzz
    go_wp2
    go_ret
    exact ⟨ret_int HR'.out.symm, hb⟩
  obtain ⟨hr, a1, a2, a3, a4⟩ := hzz
  obtain ⟨_, b1, b2, b3, b4⟩ := hzb hY
  have hlen := right_len hr
  have hRR : ∀ b, apart fa sa fb sb = b → R = if b = true then 0 else 10 := fun b h => HR.out.trans (sl_c (HX.out.symm.trans HX0.out) (HY.out.symm.trans hY) b h)
  have hap := apart_iff (fa := fa) (fb := fb) a3 b3
  have hy1 : (Y == 0) = true := by simp [hY]
  have hw1 : IntKind.i64.wrap (fb + sb) = fb + sb := by simp [IntKind.wrap, IntKind.bits, IntKind.signed]; omega
  have hw2 : IntKind.i64.wrap (fa + sa) = fa + sa := by simp [IntKind.wrap, IntKind.bits, IntKind.signed]; omega
  have HY0 := hide hY
  clear hY hr hx1
  have xa := ka.cell
  have xb := kb.cell
  by_cases h1 : fa < fb + sb
  · by_cases h2 : fb < fa + sa
    · have HR' := hide (hRR false (by cases h : apart fa sa fb sb; rfl; exact absurd ⟨h1, h2⟩ (hap.1 h)))
      clear hRR hap
      go_wp2
      go_ret
      exact ⟨ret_int (by rw [HR'.out]; first | (simp only [if_true]; exact HY0.out) | simp), hb⟩
    · have HR' := hide (hRR true (hap.2 (fun h => h2 h.2)))
      clear hRR hap
      go_wp2
      go_ret
      exact ⟨ret_int (by rw [HR'.out]; first | (simp only [if_true]; exact HY0.out) | simp), hb⟩
  · have HR' := hide (hRR true (hap.2 (fun h => h1 h.1)))
    clear hRR hap
    go_wp2
    go_ret
    exact ⟨ret_int (by rw [HR'.out]; first | (simp only [if_true]; exact HY0.out) | simp), hb⟩
end Go.Proofs.Ytpfbmmeipojodaa
end
