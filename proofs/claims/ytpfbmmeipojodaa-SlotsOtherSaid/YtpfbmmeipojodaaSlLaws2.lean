/- What saving an image to a slot of any disk leaves, in plain Lean. -/
import Derived.Test.YtpfbmmeipojodaaGP
namespace Go.Proofs.Ytpfbmmeipojodaa
open Go.RowKit
theorem best_0 {p q : Option Img} {x : Img} (h : best p q = (x, 0, 0)) : p = some x := by
  cases p with
  | none => cases q with
    | none => simp [best] at h
    | some y => simp [best] at h
  | some a => cases q with
    | none => simp [best] at h; rw [h]
    | some y =>
      by_cases h1 : y.ep ≤ a.ep
      · simp [best, h1] at h; rw [h]
      · simp [best, h1] at h
theorem best_1 {p q : Option Img} {x : Img} (h : best p q = (x, 1, 0)) : q = some x := by
  cases p with
  | none => cases q with
    | none => simp [best] at h
    | some y => simp [best] at h; rw [h]
  | some a => cases q with
    | none => simp [best] at h
    | some y =>
      by_cases h1 : y.ep ≤ a.ep
      · simp [best, h1] at h
      · simp [best, h1] at h; rw [h]
theorem best_9 {p q : Option Img} (h : best p q = (img0, 0, 9)) : p = none ∧ q = none := by
  cases p with
  | none => cases q with
    | none => exact ⟨rfl, rfl⟩
    | some y => simp [best] at h
  | some a => cases q with
    | none => simp [best] at h
    | some y =>
      by_cases h1 : y.ep ≤ a.ep
      · simp [best, h1] at h
      · simp [best, h1] at h
theorem img_eq {d d' : Dk} {f s : Nat} (hs : ∀ j : Nat, f ≤ j → j < f + s → holdsOf d' j = holdsOf d j) : imgOf d' f s = imgOf d f s := by
  cases h : imgOf d f s with
  | some m => exact img_same h hs
  | none =>
    cases h' : imgOf d' f s with
    | none => rfl
    | some m => rw [img_same h' fun j a b => (hs j a b).symm] at h; exact absurd h (by simp)
theorem ref_not17 (d : Dk) (n : Int) (x : ByteArray) : refE d n x ≠ 17 := by
  unfold refE
  split
  · decide
  · split
    · decide
    · split <;> decide
theorem work_not17 {ref : Int} (d : Dk) (h : ref ≠ 17) : workE ref d ≠ 17 := by
  unfold workE
  split
  · decide
  · split
    · exact h
    · split <;> decide
theorem wal_vals' (d : Dk) (f s : Int) : walE d f s = 0 ∨ walE d f s = 13 ∨ walE d f s = 1 := by
  unfold walE
  by_cases h : right d = false
  · rw [if_pos h]; exact .inr (.inl rfl)
  · rw [if_neg h]
    by_cases g : regOk d f s = false
    · rw [if_pos g]; exact .inr (.inr rfl)
    · rw [if_neg g]; exact .inl rfl
theorem sl_not17 (d : Dk) (fa sa fb sb : Int) : slE d fa sa fb sb ≠ 17 := by
  have h1 := wal_vals' d fa sa
  have h2 := wal_vals' d fb sb
  unfold slE
  split
  · rcases h1 with h | h | h <;> rw [h] <;> decide
  · split
    · rcases h2 with h | h | h <;> rw [h] <;> decide
    · split <;> decide
theorem st_not17 (d : Dk) (s : Stp) : stE d s ≠ 17 := by
  cases s with
  | put n x =>
    show putE d n x ≠ 17
    unfold putE
    split
    · exact work_not17 d (ref_not17 d n x)
    · decide
  | sync =>
    show syncE d ≠ 17
    unfold syncE
    split
    · exact work_not17 d (by decide)
    · decide
theorem run_not17 : ∀ (ss : List Stp) (d : Dk), runE d ss ≠ 17 := by
  intro ss
  induction ss with
  | nil => intro d; exact (by decide : (0 : Int) ≠ 17)
  | cons s ss ih =>
    intro d
    by_cases h : stE d s = 0
    · rw [(run_ok h).2]; exact ih _
    · rw [(run_no h).2]; exact st_not17 d s
theorem lay_not17 (d : Dk) (a : Nat) (l : List ByteArray) : layE d a l ≠ 17 := run_not17 _ d
theorem wal_same {d D : Dk} {f s : Int} (h : walE d f s = 0) (hr : right D = true) (hl : D.secs.length = d.secs.length) : walE D f s = 0 := by
  have hz := wal_zero h
  have : regOk D f s = true := by simp [regOk, hl]; omega
  simp [walE, hr, this]
theorem sl_same {d D : Dk} {fa sa fb sb : Int} (h : slE d fa sa fb sb = 0) (hr : right D = true) (hl : D.secs.length = d.secs.length) : slE D fa sa fb sb = 0 := by
  obtain ⟨h1, h2, h3⟩ := sl_zero h
  exact sl_iff.2 ⟨wal_same h1 hr hl, wal_same h2 hr hl, h3⟩
/-- Laid at a slot's front: the image, and the rest as it was. -/
theorem slot_laid {d : Dk} {m : Img} {tf ts of os : Nat} (hr : right d = true) (ho : d.off = false) (hm : m.ep < 18446744073709551616) (hp : m.pay.length ≤ 16384) (hfit : (imgSecs m).length ≤ ts) (hin : tf + ts ≤ d.secs.length) (hap : of + os ≤ tf ∨ tf + ts ≤ of) (hoin : of + os ≤ d.secs.length) (h0 : layE d tf (imgSecs m) = 0) :
    right (layD d tf (imgSecs m)) = true ∧ (layD d tf (imgSecs m)).off = false ∧ (layD d tf (imgSecs m)).secs.length = d.secs.length ∧ imgOf (layD d tf (imgSecs m)) tf ts = some m ∧ imgOf (layD d tf (imgSecs m)) of os = imgOf d of os ∧
    ∀ i : Nat, i < d.secs.length → i < tf ∨ tf + ts ≤ i → holdsOf (layD d tf (imgSecs m)) i = holdsOf d i := by
  have ok : FrOk (imgFr m) := ⟨(by decide : (2 : UInt8) ≠ 0), hp, hm, (by decide : (0 : Nat) < 18446744073709551616)⟩
  have hll := imgSecs_length m
  obtain ⟨g1, g2, g3, g4, g5⟩ := lay_holds hr ho (by rw [hll]; omega) h0
  have hoth : ∀ i : Nat, i < d.secs.length → i < tf ∨ tf + ts ≤ i → holdsOf (layD d tf (imgSecs m)) i = holdsOf d i := fun i hi hc => by
    rw [g5 i hi, if_neg (by omega)]
  refine ⟨g1, g2, g4, ?_, ?_, hoth⟩
  · refine img_at (frame_laid (d := d) (fr := imgFr m) ok (by show 0 + (piecesN m.pay.length + 1) ≤ ts; omega) hin ?_)
    rw [Nat.add_zero]
    exact g5
  · exact img_eq fun j h1 h2 => hoth j (by omega) (by omega)
theorem saveOn_17 {d : Dk} {fa sa fb sb : Int} {m : Img} {r : Img × Nat × Int} (h : (saveOn d fa sa fb sb m r).2 = 17) : (saveOn d fa sa fb sb m r).1 = d := by
  unfold saveOn at h ⊢
  by_cases c1 : r.2.2 = 15
  · rw [if_pos c1]
  rw [if_neg c1] at h ⊢
  by_cases c2 : 16384 < m.pay.length
  · rw [if_pos c2]
  rw [if_neg c2] at h ⊢
  by_cases c3 : r.2.2 = 0 ∧ m.ep ≤ r.1.ep
  · rw [if_pos c3]
  rw [if_neg c3] at h ⊢
  by_cases c4 : r.2.2 = 0 ∧ r.2.1 = 0
  · rw [if_pos c4] at h ⊢
    by_cases c5 : sb < ((imgSecs m).length : Int)
    · rw [if_pos c5]
    · rw [if_neg c5] at h
      exact absurd h (lay_not17 _ _ _)
  · rw [if_neg c4] at h ⊢
    by_cases c5 : sa < ((imgSecs m).length : Int)
    · rw [if_pos c5]
    · rw [if_neg c5] at h
      exact absurd h (lay_not17 _ _ _)
theorem save_17 {d : Dk} {fa sa fb sb : Int} {m : Img} (h : (saveR d fa sa fb sb m).2 = 17) : (saveR d fa sa fb sb m).1 = d := by
  unfold saveR at h ⊢
  by_cases h1 : slE d fa sa fb sb = 0
  · rw [if_neg (by simp [h1])] at h ⊢
    exact saveOn_17 h
  · rw [if_pos h1] at h
    exact absurd h (sl_not17 d fa sa fb sb)
theorem save_ends {d : Dk} {fa sa fb sb : Int} {m : Img} (h : (saveR d fa sa fb sb m).2 = 0) : (0 ≤ fa ∧ fa + sa ≤ d.secs.length) ∧ 0 ≤ fb ∧ fb + sb ≤ d.secs.length := by
  have hsl : slE d fa sa fb sb = 0 := by
    by_cases h1 : slE d fa sa fb sb = 0
    · exact h1
    · unfold saveR at h; rw [if_pos h1] at h; exact absurd h h1
  obtain ⟨w1, w2, _⟩ := sl_zero hsl
  obtain ⟨_, a1, a2, a3, a4⟩ := wal_zero w1
  obtain ⟨_, b1, b2, b3, b4⟩ := wal_zero w2
  exact ⟨⟨a1, by omega⟩, b1, by omega⟩
/-- A saved image is the one that is loaded; no sector of the other slot, or outside, is another. -/
theorem other_law {d : Dk} {fa sa fb sb : Int} {m : Img} (hm : m.ep < 18446744073709551616) (h : (saveR d fa sa fb sb m).2 = 0) :
    right d = true ∧ d.off = false ∧ right (saveR d fa sa fb sb m).1 = true ∧ (saveR d fa sa fb sb m).1.off = false ∧ (saveR d fa sa fb sb m).1.secs.length = d.secs.length ∧
    (loadR (saveR d fa sa fb sb m).1 fa sa fb sb).1 = m ∧ (loadR (saveR d fa sa fb sb m).1 fa sa fb sb).2.2 = 0 ∧
    (((loadR d fa sa fb sb).2.2 = 0 ∧ (loadR d fa sa fb sb).2.1 = 0 ∧ ∀ i : Nat, i < d.secs.length → (i : Int) < fb ∨ fb + sb ≤ i → holdsOf (saveR d fa sa fb sb m).1 i = holdsOf d i) ∨
     (¬ ((loadR d fa sa fb sb).2.2 = 0 ∧ (loadR d fa sa fb sb).2.1 = 0) ∧ ∀ i : Nat, i < d.secs.length → (i : Int) < fa ∨ fa + sa ≤ i → holdsOf (saveR d fa sa fb sb m).1 i = holdsOf d i)) := by
  have hsl : slE d fa sa fb sb = 0 := by
    by_cases h1 : slE d fa sa fb sb = 0
    · exact h1
    · unfold saveR at h; rw [if_pos h1] at h; exact absurd h h1
  obtain ⟨w1, w2, hap⟩ := sl_zero hsl
  obtain ⟨hr, a1, a2, a3, a4⟩ := wal_zero w1
  obtain ⟨_, b1, b2, b3, b4⟩ := wal_zero w2
  rw [apart_iff a3 b3] at hap
  obtain ⟨fa', rfl⟩ := Int.eq_ofNat_of_zero_le a1
  obtain ⟨fb', rfl⟩ := Int.eq_ofNat_of_zero_le b1
  obtain ⟨sa', rfl⟩ := Int.eq_ofNat_of_zero_le (show 0 ≤ sa by omega)
  obtain ⟨sb', rfl⟩ := Int.eq_ofNat_of_zero_le (show 0 ≤ sb by omega)
  have hsv : saveR d fa' sa' fb' sb' m = saveOn d fa' sa' fb' sb' m (loadR d fa' sa' fb' sb') := by unfold saveR; rw [if_neg (by simp [hsl])]
  have ho : d.off = false := by
    cases hoff : d.off with
    | false => rfl
    | true =>
      have : loadR d fa' sa' fb' sb' = (img0, 0, 15) := by unfold loadR; rw [if_neg (by simp [hsl]), if_pos hoff]
      rw [hsv, this] at h
      exact absurd h (by unfold saveOn; rw [if_pos rfl]; simp)
  have hlb := load_ok hsl ho
  rw [Int.toNat_natCast, Int.toNat_natCast, Int.toNat_natCast, Int.toNat_natCast] at hlb
  have hp : m.pay.length ≤ 16384 := by
    rcases Nat.lt_or_ge 16384 m.pay.length with hp | hp
    · rw [hsv] at h
      unfold saveOn at h
      rw [if_pos hp] at h
      split at h <;> exact absurd h (by simp)
    · exact hp
  have goA : ∀ q, imgOf d fb' sb' = q → (∀ x, q = some x → x.ep < m.ep) → saveR d fa' sa' fb' sb' m = (if (sa' : Int) < ((imgSecs m).length : Int) then (d, 17) else (layD d fa' (imgSecs m), layE d fa' (imgSecs m))) →
      right (saveR d fa' sa' fb' sb' m).1 = true ∧ (saveR d fa' sa' fb' sb' m).1.off = false ∧ (saveR d fa' sa' fb' sb' m).1.secs.length = d.secs.length ∧
      (loadR (saveR d fa' sa' fb' sb' m).1 fa' sa' fb' sb').1 = m ∧ (loadR (saveR d fa' sa' fb' sb' m).1 fa' sa' fb' sb').2.2 = 0 ∧ ∀ i : Nat, i < d.secs.length → (i : Int) < fa' ∨ (fa' : Int) + sa' ≤ i → holdsOf (saveR d fa' sa' fb' sb' m).1 i = holdsOf d i := fun q hq hlt he => by
    by_cases hfit : (sa' : Int) < ((imgSecs m).length : Int)
    · rw [he, if_pos hfit] at h; exact absurd h (by simp)
    rw [if_neg hfit] at he
    rw [he] at h ⊢
    obtain ⟨g1, g2, g3, g4, g5, g6⟩ := slot_laid (tf := fa') (ts := sa') (of := fb') (os := sb') hr ho hm hp (by omega) (by omega) (by omega) (by omega) h
    have hL := load_ok (sl_same hsl g1 g3) g2
    rw [Int.toNat_natCast, Int.toNat_natCast, Int.toNat_natCast, Int.toNat_natCast, g4, g5, hq] at hL
    have hbest : best (some m) q = (m, 0, 0) := by
      cases q with
      | none => rfl
      | some x => simp [best, Nat.le_of_lt (hlt x rfl)]
    rw [hbest] at hL
    refine ⟨g1, g2, g3, ?_, ?_, fun i hi hc => g6 i hi (by omega)⟩
    · show (loadR (layD d fa' (imgSecs m)) fa' sa' fb' sb').1 = m
      rw [hL]
    · show (loadR (layD d fa' (imgSecs m)) fa' sa' fb' sb').2.2 = 0
      rw [hL]
  rcases best_cases (imgOf d fa' sa') (imgOf d fb' sb') with hc | ⟨x, hc | hc⟩
  · have hq := (best_9 hc).2
    rw [hc] at hlb
    have he : saveR d fa' sa' fb' sb' m = (if (sa' : Int) < ((imgSecs m).length : Int) then (d, 17) else (layD d fa' (imgSecs m), layE d fa' (imgSecs m))) := by
      rw [hsv, hlb]
      unfold saveOn
      rw [if_neg (by simp), if_neg (by omega), if_neg (by simp), if_neg (by simp), Int.toNat_natCast]
    obtain ⟨g1, g2, g3, g4, g5, g6⟩ := goA _ hq (fun x hx => by cases hx) he
    exact ⟨hr, ho, g1, g2, g3, g4, g5, .inr ⟨by rw [hlb]; simp, g6⟩⟩
  · have hq := best_0 hc
    rw [hc] at hlb
    have hlt : x.ep < m.ep := by
      rcases Nat.lt_or_ge x.ep m.ep with hlt | hge
      · exact hlt
      · rw [hsv, hlb] at h
        unfold saveOn at h
        rw [if_neg (by simp), if_neg (by omega), if_pos ⟨rfl, hge⟩] at h
        exact absurd h (by simp)
    have he : saveR d fa' sa' fb' sb' m = (if (sb' : Int) < ((imgSecs m).length : Int) then (d, 17) else (layD d fb' (imgSecs m), layE d fb' (imgSecs m))) := by
      rw [hsv, hlb]
      unfold saveOn
      rw [if_neg (by simp), if_neg (by omega), if_neg (fun hh => absurd hh.2 (by show ¬ m.ep ≤ x.ep; omega)), if_pos (by simp), Int.toNat_natCast]
    by_cases hfit : (sb' : Int) < ((imgSecs m).length : Int)
    · rw [he, if_pos hfit] at h; exact absurd h (by simp)
    rw [if_neg hfit] at he
    rw [he] at h ⊢
    obtain ⟨g1, g2, g3, g4, g5, g6⟩ := slot_laid (tf := fb') (ts := sb') (of := fa') (os := sa') hr ho hm hp (by omega) (by omega) (by omega) (by omega) h
    have hL := load_ok (sl_same hsl g1 g3) g2
    rw [Int.toNat_natCast, Int.toNat_natCast, Int.toNat_natCast, Int.toNat_natCast, g4, g5, hq] at hL
    have hbest : best (some x) (some m) = (m, 1, 0) := by simp only [best]; rw [if_neg (by omega)]
    rw [hbest] at hL
    refine ⟨hr, ho, g1, g2, g3, ?_, ?_, .inl ⟨by rw [hlb], by rw [hlb], fun i hi hc => g6 i hi (by omega)⟩⟩
    · show (loadR (layD d fb' (imgSecs m)) fa' sa' fb' sb').1 = m
      rw [hL]
    · show (loadR (layD d fb' (imgSecs m)) fa' sa' fb' sb').2.2 = 0
      rw [hL]
  · have hq := best_1 hc
    rw [hc] at hlb
    have hlt : x.ep < m.ep := by
      rcases Nat.lt_or_ge x.ep m.ep with hlt | hge
      · exact hlt
      · rw [hsv, hlb] at h
        unfold saveOn at h
        rw [if_neg (by simp), if_neg (by omega), if_pos ⟨rfl, hge⟩] at h
        exact absurd h (by simp)
    have he : saveR d fa' sa' fb' sb' m = (if (sa' : Int) < ((imgSecs m).length : Int) then (d, 17) else (layD d fa' (imgSecs m), layE d fa' (imgSecs m))) := by
      rw [hsv, hlb]
      unfold saveOn
      rw [if_neg (by simp), if_neg (by omega), if_neg (fun hh => absurd hh.2 (by show ¬ m.ep ≤ x.ep; omega)), if_neg (by simp), Int.toNat_natCast]
    obtain ⟨g1, g2, g3, g4, g5, g6⟩ := goA _ hq (fun y hy => by cases hy; exact hlt) he
    exact ⟨hr, ho, g1, g2, g3, g4, g5, .inr ⟨by rw [hlb]; simp, g6⟩⟩
end Go.Proofs.Ytpfbmmeipojodaa
