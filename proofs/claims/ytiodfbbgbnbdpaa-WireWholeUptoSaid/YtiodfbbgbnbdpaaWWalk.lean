/- wire.walk at the writer. -/
import Derived.Test.YtiodfbbgbnbdpaaWChange
import Derived.Test.YtiodfbbgbnbdpaaRWalk
namespace Go.Proofs.Ytiodfbbgbnbdpaa
set_option linter.unusedSimpArgs false
set_option linter.unusedVariables false
open Go.RowKit
open Crc
def txts (l : List ByteArray) : List UInt8 := l.flatMap txt
def longs (l : List ByteArray) : Bool := l.any fun s => decide (2048 < s.size)
/-- What a request's parts are written as; true: not right. -/
def encW (a : Ask) : List UInt8 × Bool :=
  if a.k = 1 ∨ a.k = 7 ∨ a.k = 8 then ([], false)
  else if a.k = 2 then (putL a.n 8 ++ (packR a.c).1, decide ((packR a.c).2 ≠ 0))
  else if a.k = 3 ∨ a.k = 4 then (putL a.n 8, false)
  else if a.k = 5 then (txts a.ts, longs a.ts)
  else if a.k = 6 then (putL a.v 8 ++ txts a.ts, longs a.ts)
  else ([], true)
theorem wm_long (g : Nat) (W : World) : (method 92 53 (.pointer (some ⟨g, 0, none⟩)) "lictor/wire.long").run Try.prog W = .ok (66, .pointer (some ⟨g, 0, none⟩)) W := by kernel_rfl
theorem wm_text (g : Nat) (W : World) : (method 92 53 (.pointer (some ⟨g, 0, none⟩)) "lictor/wire.text").run Try.prog W = .ok (67, .pointer (some ⟨g, 0, none⟩)) W := by kernel_rfl
theorem wm_change (g : Nat) (W : World) : (method 92 53 (.pointer (some ⟨g, 0, none⟩)) "lictor/wire.change").run Try.prog W = .ok (64, .pointer (some ⟨g, 0, none⟩)) W := by kernel_rfl
theorem wm_fail (g : Nat) (W : World) : (method 92 53 (.pointer (some ⟨g, 0, none⟩)) "lictor/wire.fail").run Try.prog W = .ok (65, .pointer (some ⟨g, 0, none⟩)) W := by kernel_rfl
section
variable {B g A n vr : Nat} {P : Nat → Prop} {bs : List UInt8} {bad : Bool} {c : Chg} {ts : List ByteArray} {w : World}
set_option maxRecDepth 100000 in
set_option maxHeartbeats 1000000 in
theorem wwalk_1 (h : Wr B g P bs bad w) (hA : P A) (ha : Blk w A (askCells ⟨1, n, c, vr, ts⟩) 30) (ht : ts.length = 7) (hsz : ∀ t ∈ ts, t.size < 16777216) (h1 : 1 ≤ bs.length) (hb : bs.length ≤ 100) :
    Calls Try.prog 20 #[.iface 53 (.pointer (some ⟨g, 0, none⟩)), .pointer (some ⟨A, 0, none⟩)] w fun e w' => e = .returned (.tuple #[]) ∧ Wr B g P (bs ++ (encW ⟨1, n, c, vr, ts⟩).1) (bad || (encW ⟨1, n, c, vr, ts⟩).2) w' ∧ KP B P w w' := by
  have xa : w.cell? ⟨A, 0, none⟩ = some (.int .u8 1) := by rw [ha.cell]; rfl
  have he : encW ⟨1, n, c, vr, ts⟩ = ([], false) := rfl
  rw [he]
  simp only [List.append_nil, Bool.or_false]
  go_enter Try.func20, Try.ntmps20
  go_wp2
  go_end0
  exact ⟨rfl, h, KP.refl _ _ _⟩
set_option maxRecDepth 100000 in
set_option maxHeartbeats 1000000 in
theorem wwalk_7 (h : Wr B g P bs bad w) (hA : P A) (ha : Blk w A (askCells ⟨7, n, c, vr, ts⟩) 30) (ht : ts.length = 7) (hsz : ∀ t ∈ ts, t.size < 16777216) (h1 : 1 ≤ bs.length) (hb : bs.length ≤ 100) :
    Calls Try.prog 20 #[.iface 53 (.pointer (some ⟨g, 0, none⟩)), .pointer (some ⟨A, 0, none⟩)] w fun e w' => e = .returned (.tuple #[]) ∧ Wr B g P (bs ++ (encW ⟨7, n, c, vr, ts⟩).1) (bad || (encW ⟨7, n, c, vr, ts⟩).2) w' ∧ KP B P w w' := by
  have xa : w.cell? ⟨A, 0, none⟩ = some (.int .u8 7) := by rw [ha.cell]; rfl
  have he : encW ⟨7, n, c, vr, ts⟩ = ([], false) := rfl
  rw [he]
  simp only [List.append_nil, Bool.or_false]
  go_enter Try.func20, Try.ntmps20
  go_wp2
  go_end0
  exact ⟨rfl, h, KP.refl _ _ _⟩
set_option maxRecDepth 100000 in
set_option maxHeartbeats 1000000 in
theorem wwalk_8 (h : Wr B g P bs bad w) (hA : P A) (ha : Blk w A (askCells ⟨8, n, c, vr, ts⟩) 30) (ht : ts.length = 7) (hsz : ∀ t ∈ ts, t.size < 16777216) (h1 : 1 ≤ bs.length) (hb : bs.length ≤ 100) :
    Calls Try.prog 20 #[.iface 53 (.pointer (some ⟨g, 0, none⟩)), .pointer (some ⟨A, 0, none⟩)] w fun e w' => e = .returned (.tuple #[]) ∧ Wr B g P (bs ++ (encW ⟨8, n, c, vr, ts⟩).1) (bad || (encW ⟨8, n, c, vr, ts⟩).2) w' ∧ KP B P w w' := by
  have xa : w.cell? ⟨A, 0, none⟩ = some (.int .u8 8) := by rw [ha.cell]; rfl
  have he : encW ⟨8, n, c, vr, ts⟩ = ([], false) := rfl
  rw [he]
  simp only [List.append_nil, Bool.or_false]
  go_enter Try.func20, Try.ntmps20
  go_wp2
  go_end0
  exact ⟨rfl, h, KP.refl _ _ _⟩
set_option maxRecDepth 100000 in
set_option maxHeartbeats 1000000 in
theorem wwalk_3 (h : Wr B g P bs bad w) (hA : P A) (ha : Blk w A (askCells ⟨3, n, c, vr, ts⟩) 30) (ht : ts.length = 7) (hsz : ∀ t ∈ ts, t.size < 16777216) (h1 : 1 ≤ bs.length) (hb : bs.length ≤ 100) :
    Calls Try.prog 20 #[.iface 53 (.pointer (some ⟨g, 0, none⟩)), .pointer (some ⟨A, 0, none⟩)] w fun e w' => e = .returned (.tuple #[]) ∧ Wr B g P (bs ++ (encW ⟨3, n, c, vr, ts⟩).1) (bad || (encW ⟨3, n, c, vr, ts⟩).2) w' ∧ KP B P w w' := by
  have xa : w.cell? ⟨A, 0, none⟩ = some (.int .u8 3) := by rw [ha.cell]; rfl
  have xn : w.cell? ⟨A, 1, none⟩ = some (.int .u64 (n : Int)) := by rw [ha.cell]; rfl
  have he : encW ⟨3, n, c, vr, ts⟩ = (putL n 8, false) := rfl
  rw [he]
  simp only [Bool.or_false]
  have h0 : Wr B g P bs bad w.drew := h
  go_enter Try.func20, Try.ntmps20
  go_wp2_with fail
  refine region_flatS _ (fun L u => Wr B g P (cond (L 7) (bs ++ putL n 8) bs) bad u ∧ KP B P w u) (fun _ _ _ => True)
    (fun _ => rel [fun v _ => v = .iface 53 (.pointer (some ⟨g, 0, none⟩)),
      fun v _ => v = .pointer (some ⟨A, 0, none⟩),
      fun v _ => v = .pointer (some ⟨A, 0, none⟩),
      fun v _ => v = .pointer (some ⟨A, 1, none⟩),
      fun v _ => v = .func (Fn.method "lictor/wire.long") #[.iface 53 (.pointer (some ⟨g, 0, none⟩))] #[],
      fun v _ => v = .func (Fn.method "lictor/wire.long") #[.iface 53 (.pointer (some ⟨g, 0, none⟩))] #[],
      fun v _ => v = .iface 53 (.pointer (some ⟨g, 0, none⟩)),
      fun _ _ => True])
    (by kernel_rfl) (by kernel_rfl) (fun v => by simp only [putsV, Act.put, List.toList_toArray, List.setIfInBounds_toArray, List.set_cons_zero, List.set_cons_succ, Nat.reduceAdd, Nat.zero_add]; rfl) ?_ (fun _ _ _ _ _ h => h) ⟨h0, (KP.refl _ _ _).drew⟩ ?_ (fun _ _ _ _ _ _ h => h) (fun L L' u hL h => by rw [← hL 7 (by decide)]; exact h) ?_
  · intro i L j x u u' _ _ _ h
    match j with
    | 0 => exact h
    | 1 => exact h
    | 2 => exact h
    | 3 => exact h
    | 4 => exact h
    | 5 => exact h
    | 6 => exact h
    | 7 => exact h
    | _ + 8 => trivial
  · refine ⟨?_, ?_, ?_, ?_, ?_, ?_, ?_, ?_, trivial⟩
    · intro L hL hcl v u hS hd K' hK
      simp only [waited, List.toList_toArray, Region.binds, rel, List.getD_cons_zero, List.getD_cons_succ, true_imp_iff, and_true] at hd
      simp only [rel, List.getD_cons_zero, List.getD_cons_succ, Act.put, List.setIfInBounds_toArray, List.set_cons_zero, List.set_cons_succ] at hK
      try simp only [hd] at hK
      have hmf := make_func
      have hm := wm_long
      go_simp
      exact hK.out _ _ ⟨hS, trivial, rfl⟩
    · intro L hL hcl v u hS hd K' hK
      simp only [waited, List.toList_toArray, Region.binds, rel, List.getD_cons_zero, List.getD_cons_succ, true_imp_iff, and_true] at hd
      simp only [rel, List.getD_cons_zero, List.getD_cons_succ, Act.put, List.setIfInBounds_toArray, List.set_cons_zero, List.set_cons_succ] at hK
      try simp only [hd] at hK
      have hmf := make_func
      have hm := wm_long
      go_simp
      exact hK.out _ _ ⟨hS, trivial, rfl⟩
    · intro L hL hcl v u hS hd K' hK
      simp only [waited, List.toList_toArray, Region.binds, rel, List.getD_cons_zero, List.getD_cons_succ, true_imp_iff, and_true] at hd
      simp only [rel, List.getD_cons_zero, List.getD_cons_succ, Act.put, List.setIfInBounds_toArray, List.set_cons_zero, List.set_cons_succ] at hK
      try simp only [hd] at hK
      have hmf := make_func
      have hm := wm_long
      go_simp
      exact hK.out _ _ ⟨hS, trivial, rfl⟩
    · intro L hL hcl v u hS hd K' hK
      simp only [waited, List.toList_toArray, Region.binds, rel, List.getD_cons_zero, List.getD_cons_succ, true_imp_iff, and_true] at hd
      simp only [rel, List.getD_cons_zero, List.getD_cons_succ, Act.put, List.setIfInBounds_toArray, List.set_cons_zero, List.set_cons_succ] at hK
      try simp only [hd] at hK
      have hmf := make_func
      have hm := wm_long
      go_simp
      exact hK.out _ _ ⟨hS, trivial, rfl⟩
    · intro L hL hcl v u hS hd K' hK
      simp only [waited, List.toList_toArray, Region.binds, rel, List.getD_cons_zero, List.getD_cons_succ, true_imp_iff, and_true] at hd
      simp only [rel, List.getD_cons_zero, List.getD_cons_succ, Act.put, List.setIfInBounds_toArray, List.set_cons_zero, List.set_cons_succ] at hK
      try simp only [hd] at hK
      have hmf := make_func
      have hm := wm_long
      go_simp
      exact hK.out _ _ ⟨hS, trivial, rfl⟩
    · intro L hL hcl v u hS hd K' hK
      simp only [waited, List.toList_toArray, Region.binds, rel, List.getD_cons_zero, List.getD_cons_succ, true_imp_iff, and_true] at hd
      simp only [rel, List.getD_cons_zero, List.getD_cons_succ, Act.put, List.setIfInBounds_toArray, List.set_cons_zero, List.set_cons_succ] at hK
      try simp only [hd] at hK
      have hmf := make_func
      have hm := wm_long
      go_simp
      exact hK.out _ _ ⟨hS, trivial, rfl⟩
    · intro L hL hcl v u hS hd K' hK
      simp only [waited, List.toList_toArray, Region.binds, rel, List.getD_cons_zero, List.getD_cons_succ, true_imp_iff, and_true] at hd
      simp only [rel, List.getD_cons_zero, List.getD_cons_succ, Act.put, List.setIfInBounds_toArray, List.set_cons_zero, List.set_cons_succ] at hK
      try simp only [hd] at hK
      have hmf := make_func
      have hm := wm_long
      go_simp
      exact hK.out _ _ ⟨hS, trivial, rfl⟩
    · intro L hL hcl v u hS hd K' hK
      simp only [waited, List.toList_toArray, Region.binds, rel, List.getD_cons_zero, List.getD_cons_succ, true_imp_iff, and_true] at hd
      simp only [rel, List.getD_cons_zero, List.getD_cons_succ, Act.put, List.setIfInBounds_toArray, List.set_cons_zero, List.set_cons_succ] at hK
      try simp only [hd] at hK
      have hmf := make_func
      have hm := wm_long
      obtain ⟨q1, q2⟩ := hS
      rw [hL] at q1
      have q1' : Wr B g P (bs) bad u := q1
      go_simp
      refine (wlong_w B g A 1 P (bs) bad n u q1' hA ((q2.cell hA).trans xn) (by omega)).mono ?_
      rintro e w2 ⟨rfl, h2, h3⟩
      exact hK.out _ _ ⟨⟨h2, q2.trans h3⟩, trivial, trivial⟩
  · rintro v u hS hR
    simp only [holdAll, List.size_toArray, List.length_cons, List.length_nil, Nat.reduceAdd, rel, List.getD_cons_zero, List.getD_cons_succ] at hR
    clear hR xa xn
    obtain ⟨q1, q2⟩ := hS
    go_wp2
    go_end0
    exact ⟨rfl, q1, q2⟩
set_option maxRecDepth 100000 in
set_option maxHeartbeats 1000000 in
theorem wwalk_4 (h : Wr B g P bs bad w) (hA : P A) (ha : Blk w A (askCells ⟨4, n, c, vr, ts⟩) 30) (ht : ts.length = 7) (hsz : ∀ t ∈ ts, t.size < 16777216) (h1 : 1 ≤ bs.length) (hb : bs.length ≤ 100) :
    Calls Try.prog 20 #[.iface 53 (.pointer (some ⟨g, 0, none⟩)), .pointer (some ⟨A, 0, none⟩)] w fun e w' => e = .returned (.tuple #[]) ∧ Wr B g P (bs ++ (encW ⟨4, n, c, vr, ts⟩).1) (bad || (encW ⟨4, n, c, vr, ts⟩).2) w' ∧ KP B P w w' := by
  have xa : w.cell? ⟨A, 0, none⟩ = some (.int .u8 4) := by rw [ha.cell]; rfl
  have xn : w.cell? ⟨A, 1, none⟩ = some (.int .u64 (n : Int)) := by rw [ha.cell]; rfl
  have he : encW ⟨4, n, c, vr, ts⟩ = (putL n 8, false) := rfl
  rw [he]
  simp only [Bool.or_false]
  have h0 : Wr B g P bs bad w.drew := h
  go_enter Try.func20, Try.ntmps20
  go_wp2_with fail
  refine region_flatS _ (fun L u => Wr B g P (cond (L 7) (bs ++ putL n 8) bs) bad u ∧ KP B P w u) (fun _ _ _ => True)
    (fun _ => rel [fun v _ => v = .iface 53 (.pointer (some ⟨g, 0, none⟩)),
      fun v _ => v = .pointer (some ⟨A, 0, none⟩),
      fun v _ => v = .pointer (some ⟨A, 0, none⟩),
      fun v _ => v = .pointer (some ⟨A, 1, none⟩),
      fun v _ => v = .func (Fn.method "lictor/wire.long") #[.iface 53 (.pointer (some ⟨g, 0, none⟩))] #[],
      fun v _ => v = .func (Fn.method "lictor/wire.long") #[.iface 53 (.pointer (some ⟨g, 0, none⟩))] #[],
      fun v _ => v = .iface 53 (.pointer (some ⟨g, 0, none⟩)),
      fun _ _ => True])
    (by kernel_rfl) (by kernel_rfl) (fun v => by simp only [putsV, Act.put, List.toList_toArray, List.setIfInBounds_toArray, List.set_cons_zero, List.set_cons_succ, Nat.reduceAdd, Nat.zero_add]; rfl) ?_ (fun _ _ _ _ _ h => h) ⟨h0, (KP.refl _ _ _).drew⟩ ?_ (fun _ _ _ _ _ _ h => h) (fun L L' u hL h => by rw [← hL 7 (by decide)]; exact h) ?_
  · intro i L j x u u' _ _ _ h
    match j with
    | 0 => exact h
    | 1 => exact h
    | 2 => exact h
    | 3 => exact h
    | 4 => exact h
    | 5 => exact h
    | 6 => exact h
    | 7 => exact h
    | _ + 8 => trivial
  · refine ⟨?_, ?_, ?_, ?_, ?_, ?_, ?_, ?_, trivial⟩
    · intro L hL hcl v u hS hd K' hK
      simp only [waited, List.toList_toArray, Region.binds, rel, List.getD_cons_zero, List.getD_cons_succ, true_imp_iff, and_true] at hd
      simp only [rel, List.getD_cons_zero, List.getD_cons_succ, Act.put, List.setIfInBounds_toArray, List.set_cons_zero, List.set_cons_succ] at hK
      try simp only [hd] at hK
      have hmf := make_func
      have hm := wm_long
      go_simp
      exact hK.out _ _ ⟨hS, trivial, rfl⟩
    · intro L hL hcl v u hS hd K' hK
      simp only [waited, List.toList_toArray, Region.binds, rel, List.getD_cons_zero, List.getD_cons_succ, true_imp_iff, and_true] at hd
      simp only [rel, List.getD_cons_zero, List.getD_cons_succ, Act.put, List.setIfInBounds_toArray, List.set_cons_zero, List.set_cons_succ] at hK
      try simp only [hd] at hK
      have hmf := make_func
      have hm := wm_long
      go_simp
      exact hK.out _ _ ⟨hS, trivial, rfl⟩
    · intro L hL hcl v u hS hd K' hK
      simp only [waited, List.toList_toArray, Region.binds, rel, List.getD_cons_zero, List.getD_cons_succ, true_imp_iff, and_true] at hd
      simp only [rel, List.getD_cons_zero, List.getD_cons_succ, Act.put, List.setIfInBounds_toArray, List.set_cons_zero, List.set_cons_succ] at hK
      try simp only [hd] at hK
      have hmf := make_func
      have hm := wm_long
      go_simp
      exact hK.out _ _ ⟨hS, trivial, rfl⟩
    · intro L hL hcl v u hS hd K' hK
      simp only [waited, List.toList_toArray, Region.binds, rel, List.getD_cons_zero, List.getD_cons_succ, true_imp_iff, and_true] at hd
      simp only [rel, List.getD_cons_zero, List.getD_cons_succ, Act.put, List.setIfInBounds_toArray, List.set_cons_zero, List.set_cons_succ] at hK
      try simp only [hd] at hK
      have hmf := make_func
      have hm := wm_long
      go_simp
      exact hK.out _ _ ⟨hS, trivial, rfl⟩
    · intro L hL hcl v u hS hd K' hK
      simp only [waited, List.toList_toArray, Region.binds, rel, List.getD_cons_zero, List.getD_cons_succ, true_imp_iff, and_true] at hd
      simp only [rel, List.getD_cons_zero, List.getD_cons_succ, Act.put, List.setIfInBounds_toArray, List.set_cons_zero, List.set_cons_succ] at hK
      try simp only [hd] at hK
      have hmf := make_func
      have hm := wm_long
      go_simp
      exact hK.out _ _ ⟨hS, trivial, rfl⟩
    · intro L hL hcl v u hS hd K' hK
      simp only [waited, List.toList_toArray, Region.binds, rel, List.getD_cons_zero, List.getD_cons_succ, true_imp_iff, and_true] at hd
      simp only [rel, List.getD_cons_zero, List.getD_cons_succ, Act.put, List.setIfInBounds_toArray, List.set_cons_zero, List.set_cons_succ] at hK
      try simp only [hd] at hK
      have hmf := make_func
      have hm := wm_long
      go_simp
      exact hK.out _ _ ⟨hS, trivial, rfl⟩
    · intro L hL hcl v u hS hd K' hK
      simp only [waited, List.toList_toArray, Region.binds, rel, List.getD_cons_zero, List.getD_cons_succ, true_imp_iff, and_true] at hd
      simp only [rel, List.getD_cons_zero, List.getD_cons_succ, Act.put, List.setIfInBounds_toArray, List.set_cons_zero, List.set_cons_succ] at hK
      try simp only [hd] at hK
      have hmf := make_func
      have hm := wm_long
      go_simp
      exact hK.out _ _ ⟨hS, trivial, rfl⟩
    · intro L hL hcl v u hS hd K' hK
      simp only [waited, List.toList_toArray, Region.binds, rel, List.getD_cons_zero, List.getD_cons_succ, true_imp_iff, and_true] at hd
      simp only [rel, List.getD_cons_zero, List.getD_cons_succ, Act.put, List.setIfInBounds_toArray, List.set_cons_zero, List.set_cons_succ] at hK
      try simp only [hd] at hK
      have hmf := make_func
      have hm := wm_long
      obtain ⟨q1, q2⟩ := hS
      rw [hL] at q1
      have q1' : Wr B g P (bs) bad u := q1
      go_simp
      refine (wlong_w B g A 1 P (bs) bad n u q1' hA ((q2.cell hA).trans xn) (by omega)).mono ?_
      rintro e w2 ⟨rfl, h2, h3⟩
      exact hK.out _ _ ⟨⟨h2, q2.trans h3⟩, trivial, trivial⟩
  · rintro v u hS hR
    simp only [holdAll, List.size_toArray, List.length_cons, List.length_nil, Nat.reduceAdd, rel, List.getD_cons_zero, List.getD_cons_succ] at hR
    clear hR xa xn
    obtain ⟨q1, q2⟩ := hS
    go_wp2
    go_end0
    exact ⟨rfl, q1, q2⟩
set_option maxRecDepth 100000 in
set_option maxHeartbeats 1000000 in
theorem wwalk_2 (h : Wr B g P bs bad w) (hA : P A) (ha : Blk w A (askCells ⟨2, n, c, vr, ts⟩) 30) (ht : ts.length = 7) (hsz : ∀ t ∈ ts, t.size < 16777216) (h1 : 1 ≤ bs.length) (hb : bs.length ≤ 100) :
    Calls Try.prog 20 #[.iface 53 (.pointer (some ⟨g, 0, none⟩)), .pointer (some ⟨A, 0, none⟩)] w fun e w' => e = .returned (.tuple #[]) ∧ Wr B g P (bs ++ (encW ⟨2, n, c, vr, ts⟩).1) (bad || (encW ⟨2, n, c, vr, ts⟩).2) w' ∧ KP B P w w' := by
  have xa : w.cell? ⟨A, 0, none⟩ = some (.int .u8 2) := by rw [ha.cell]; rfl
  have xn : w.cell? ⟨A, 1, none⟩ = some (.int .u64 (n : Int)) := by rw [ha.cell]; rfl
  have he : encW ⟨2, n, c, vr, ts⟩ = (putL n 8 ++ (packR c).1, decide ((packR c).2 ≠ 0)) := rfl
  rw [he]
  obtain ⟨q, hq⟩ := named (decide ((packR c).2 ≠ 0))
  simp only
  rw [← hq.out]
  have h0 : Wr B g P bs bad w.drew := h
  go_enter Try.func20, Try.ntmps20
  go_wp2_with fail
  refine region_flatS _ (fun L u => Wr B g P (cond (L 7) (bs ++ putL n 8) bs) bad u ∧ KP B P w u) (fun _ _ _ => True)
    (fun _ => rel [fun v _ => v = .iface 53 (.pointer (some ⟨g, 0, none⟩)),
      fun v _ => v = .pointer (some ⟨A, 0, none⟩),
      fun v _ => v = .pointer (some ⟨A, 0, none⟩),
      fun v _ => v = .pointer (some ⟨A, 1, none⟩),
      fun v _ => v = .func (Fn.method "lictor/wire.long") #[.iface 53 (.pointer (some ⟨g, 0, none⟩))] #[],
      fun v _ => v = .func (Fn.method "lictor/wire.long") #[.iface 53 (.pointer (some ⟨g, 0, none⟩))] #[],
      fun v _ => v = .iface 53 (.pointer (some ⟨g, 0, none⟩)),
      fun _ _ => True])
    (by kernel_rfl) (by kernel_rfl) (fun v => by simp only [putsV, Act.put, List.toList_toArray, List.setIfInBounds_toArray, List.set_cons_zero, List.set_cons_succ, Nat.reduceAdd, Nat.zero_add]; rfl) ?_ (fun _ _ _ _ _ h => h) ⟨h0, (KP.refl _ _ _).drew⟩ ?_ (fun _ _ _ _ _ _ h => h) (fun L L' u hL h => by rw [← hL 7 (by decide)]; exact h) ?_
  · intro i L j x u u' _ _ _ h
    match j with
    | 0 => exact h
    | 1 => exact h
    | 2 => exact h
    | 3 => exact h
    | 4 => exact h
    | 5 => exact h
    | 6 => exact h
    | 7 => exact h
    | _ + 8 => trivial
  · refine ⟨?_, ?_, ?_, ?_, ?_, ?_, ?_, ?_, trivial⟩
    · intro L hL hcl v u hS hd K' hK
      simp only [waited, List.toList_toArray, Region.binds, rel, List.getD_cons_zero, List.getD_cons_succ, true_imp_iff, and_true] at hd
      simp only [rel, List.getD_cons_zero, List.getD_cons_succ, Act.put, List.setIfInBounds_toArray, List.set_cons_zero, List.set_cons_succ] at hK
      try simp only [hd] at hK
      have hmf := make_func
      have hm := wm_long
      go_simp
      exact hK.out _ _ ⟨hS, trivial, rfl⟩
    · intro L hL hcl v u hS hd K' hK
      simp only [waited, List.toList_toArray, Region.binds, rel, List.getD_cons_zero, List.getD_cons_succ, true_imp_iff, and_true] at hd
      simp only [rel, List.getD_cons_zero, List.getD_cons_succ, Act.put, List.setIfInBounds_toArray, List.set_cons_zero, List.set_cons_succ] at hK
      try simp only [hd] at hK
      have hmf := make_func
      have hm := wm_long
      go_simp
      exact hK.out _ _ ⟨hS, trivial, rfl⟩
    · intro L hL hcl v u hS hd K' hK
      simp only [waited, List.toList_toArray, Region.binds, rel, List.getD_cons_zero, List.getD_cons_succ, true_imp_iff, and_true] at hd
      simp only [rel, List.getD_cons_zero, List.getD_cons_succ, Act.put, List.setIfInBounds_toArray, List.set_cons_zero, List.set_cons_succ] at hK
      try simp only [hd] at hK
      have hmf := make_func
      have hm := wm_long
      go_simp
      exact hK.out _ _ ⟨hS, trivial, rfl⟩
    · intro L hL hcl v u hS hd K' hK
      simp only [waited, List.toList_toArray, Region.binds, rel, List.getD_cons_zero, List.getD_cons_succ, true_imp_iff, and_true] at hd
      simp only [rel, List.getD_cons_zero, List.getD_cons_succ, Act.put, List.setIfInBounds_toArray, List.set_cons_zero, List.set_cons_succ] at hK
      try simp only [hd] at hK
      have hmf := make_func
      have hm := wm_long
      go_simp
      exact hK.out _ _ ⟨hS, trivial, rfl⟩
    · intro L hL hcl v u hS hd K' hK
      simp only [waited, List.toList_toArray, Region.binds, rel, List.getD_cons_zero, List.getD_cons_succ, true_imp_iff, and_true] at hd
      simp only [rel, List.getD_cons_zero, List.getD_cons_succ, Act.put, List.setIfInBounds_toArray, List.set_cons_zero, List.set_cons_succ] at hK
      try simp only [hd] at hK
      have hmf := make_func
      have hm := wm_long
      go_simp
      exact hK.out _ _ ⟨hS, trivial, rfl⟩
    · intro L hL hcl v u hS hd K' hK
      simp only [waited, List.toList_toArray, Region.binds, rel, List.getD_cons_zero, List.getD_cons_succ, true_imp_iff, and_true] at hd
      simp only [rel, List.getD_cons_zero, List.getD_cons_succ, Act.put, List.setIfInBounds_toArray, List.set_cons_zero, List.set_cons_succ] at hK
      try simp only [hd] at hK
      have hmf := make_func
      have hm := wm_long
      go_simp
      exact hK.out _ _ ⟨hS, trivial, rfl⟩
    · intro L hL hcl v u hS hd K' hK
      simp only [waited, List.toList_toArray, Region.binds, rel, List.getD_cons_zero, List.getD_cons_succ, true_imp_iff, and_true] at hd
      simp only [rel, List.getD_cons_zero, List.getD_cons_succ, Act.put, List.setIfInBounds_toArray, List.set_cons_zero, List.set_cons_succ] at hK
      try simp only [hd] at hK
      have hmf := make_func
      have hm := wm_long
      go_simp
      exact hK.out _ _ ⟨hS, trivial, rfl⟩
    · intro L hL hcl v u hS hd K' hK
      simp only [waited, List.toList_toArray, Region.binds, rel, List.getD_cons_zero, List.getD_cons_succ, true_imp_iff, and_true] at hd
      simp only [rel, List.getD_cons_zero, List.getD_cons_succ, Act.put, List.setIfInBounds_toArray, List.set_cons_zero, List.set_cons_succ] at hK
      try simp only [hd] at hK
      have hmf := make_func
      have hm := wm_long
      obtain ⟨q1, q2⟩ := hS
      rw [hL] at q1
      have q1' : Wr B g P (bs) bad u := q1
      go_simp
      refine (wlong_w B g A 1 P (bs) bad n u q1' hA ((q2.cell hA).trans xn) (by omega)).mono ?_
      rintro e w2 ⟨rfl, h2, h3⟩
      exact hK.out _ _ ⟨⟨h2, q2.trans h3⟩, trivial, trivial⟩
  · rintro v u hS hR
    simp only [holdAll, List.size_toArray, List.length_cons, List.length_nil, Nat.reduceAdd, rel, List.getD_cons_zero, List.getD_cons_succ] at hR
    clear hR xa xn
    obtain ⟨q1, q2⟩ := hS
    replace q1 : Wr B g P (bs ++ putL n 8) bad u := q1
    go_wp2_with fail
    refine region_flatS _ (fun L u => Wr B g P (cond (L 7) ((bs ++ putL n 8) ++ (packR c).1) (bs ++ putL n 8)) (cond (L 7) (bad || q) bad) u ∧ KP B P w u) (fun _ _ _ => True)
      (fun _ => rel [fun v _ => v = .iface 53 (.pointer (some ⟨g, 0, none⟩)),
        fun v _ => v = .pointer (some ⟨A, 0, none⟩),
        fun v _ => v = .pointer (some ⟨A, 0, none⟩),
        fun v _ => v = .pointer (some ⟨A, 2, none⟩),
        fun v _ => v = .func (Fn.method "lictor/wire.change") #[.iface 53 (.pointer (some ⟨g, 0, none⟩))] #[],
        fun v _ => v = .func (Fn.method "lictor/wire.change") #[.iface 53 (.pointer (some ⟨g, 0, none⟩))] #[],
        fun v _ => v = .iface 53 (.pointer (some ⟨g, 0, none⟩)),
        fun _ _ => True])
      (by kernel_rfl) (by kernel_rfl) (fun v => by simp only [putsV, Act.put, List.toList_toArray, List.setIfInBounds_toArray, List.set_cons_zero, List.set_cons_succ, Nat.reduceAdd, Nat.zero_add]; rfl) ?_ (fun _ _ _ _ _ h => h) ⟨q1, q2.drew⟩ ?_ (fun _ _ _ _ _ _ h => h) (fun L L' u hL h => by rw [← hL 7 (by decide)]; exact h) ?_
    · intro i L j x u u' _ _ _ h
      match j with
      | 0 => exact h
      | 1 => exact h
      | 2 => exact h
      | 3 => exact h
      | 4 => exact h
      | 5 => exact h
      | 6 => exact h
      | 7 => exact h
      | _ + 8 => trivial
    · refine ⟨?_, ?_, ?_, ?_, ?_, ?_, ?_, ?_, trivial⟩
      · intro L hL hcl v u hS hd K' hK
        simp only [waited, List.toList_toArray, Region.binds, rel, List.getD_cons_zero, List.getD_cons_succ, true_imp_iff, and_true] at hd
        simp only [rel, List.getD_cons_zero, List.getD_cons_succ, Act.put, List.setIfInBounds_toArray, List.set_cons_zero, List.set_cons_succ] at hK
        try simp only [hd] at hK
        have hmf := make_func
        have hm := wm_change
        go_simp
        exact hK.out _ _ ⟨hS, trivial, rfl⟩
      · intro L hL hcl v u hS hd K' hK
        simp only [waited, List.toList_toArray, Region.binds, rel, List.getD_cons_zero, List.getD_cons_succ, true_imp_iff, and_true] at hd
        simp only [rel, List.getD_cons_zero, List.getD_cons_succ, Act.put, List.setIfInBounds_toArray, List.set_cons_zero, List.set_cons_succ] at hK
        try simp only [hd] at hK
        have hmf := make_func
        have hm := wm_change
        go_simp
        exact hK.out _ _ ⟨hS, trivial, rfl⟩
      · intro L hL hcl v u hS hd K' hK
        simp only [waited, List.toList_toArray, Region.binds, rel, List.getD_cons_zero, List.getD_cons_succ, true_imp_iff, and_true] at hd
        simp only [rel, List.getD_cons_zero, List.getD_cons_succ, Act.put, List.setIfInBounds_toArray, List.set_cons_zero, List.set_cons_succ] at hK
        try simp only [hd] at hK
        have hmf := make_func
        have hm := wm_change
        go_simp
        exact hK.out _ _ ⟨hS, trivial, rfl⟩
      · intro L hL hcl v u hS hd K' hK
        simp only [waited, List.toList_toArray, Region.binds, rel, List.getD_cons_zero, List.getD_cons_succ, true_imp_iff, and_true] at hd
        simp only [rel, List.getD_cons_zero, List.getD_cons_succ, Act.put, List.setIfInBounds_toArray, List.set_cons_zero, List.set_cons_succ] at hK
        try simp only [hd] at hK
        have hmf := make_func
        have hm := wm_change
        go_simp
        exact hK.out _ _ ⟨hS, trivial, rfl⟩
      · intro L hL hcl v u hS hd K' hK
        simp only [waited, List.toList_toArray, Region.binds, rel, List.getD_cons_zero, List.getD_cons_succ, true_imp_iff, and_true] at hd
        simp only [rel, List.getD_cons_zero, List.getD_cons_succ, Act.put, List.setIfInBounds_toArray, List.set_cons_zero, List.set_cons_succ] at hK
        try simp only [hd] at hK
        have hmf := make_func
        have hm := wm_change
        go_simp
        exact hK.out _ _ ⟨hS, trivial, rfl⟩
      · intro L hL hcl v u hS hd K' hK
        simp only [waited, List.toList_toArray, Region.binds, rel, List.getD_cons_zero, List.getD_cons_succ, true_imp_iff, and_true] at hd
        simp only [rel, List.getD_cons_zero, List.getD_cons_succ, Act.put, List.setIfInBounds_toArray, List.set_cons_zero, List.set_cons_succ] at hK
        try simp only [hd] at hK
        have hmf := make_func
        have hm := wm_change
        go_simp
        exact hK.out _ _ ⟨hS, trivial, rfl⟩
      · intro L hL hcl v u hS hd K' hK
        simp only [waited, List.toList_toArray, Region.binds, rel, List.getD_cons_zero, List.getD_cons_succ, true_imp_iff, and_true] at hd
        simp only [rel, List.getD_cons_zero, List.getD_cons_succ, Act.put, List.setIfInBounds_toArray, List.set_cons_zero, List.set_cons_succ] at hK
        try simp only [hd] at hK
        have hmf := make_func
        have hm := wm_change
        go_simp
        exact hK.out _ _ ⟨hS, trivial, rfl⟩
      · intro L hL hcl v u hS hd K' hK
        simp only [waited, List.toList_toArray, Region.binds, rel, List.getD_cons_zero, List.getD_cons_succ, true_imp_iff, and_true] at hd
        simp only [rel, List.getD_cons_zero, List.getD_cons_succ, Act.put, List.setIfInBounds_toArray, List.set_cons_zero, List.set_cons_succ] at hK
        try simp only [hd] at hK
        have hmf := make_func
        have hm := wm_change
        obtain ⟨q1, q2⟩ := hS
        rw [hL] at q1
        have q1' : Wr B g P (bs ++ putL n 8) bad u := q1
        go_simp
        refine (wchange_w B g A P (bs ++ putL n 8) bad ⟨2, n, c, vr, ts⟩ u q1' hA (ha.kP q2 hA) (by rw [List.length_append, putL_length]; omega) (by rw [List.length_append, putL_length]; omega)).mono ?_
        rintro e w2 ⟨rfl, h2, h3⟩
        have h2' : Wr B g P ((bs ++ putL n 8) ++ (packR c).1) (bad || decide ((packR c).2 ≠ 0)) w2 := h2
        rw [← hq.out] at h2'
        exact hK.out _ _ ⟨⟨h2', q2.trans h3⟩, trivial, trivial⟩
    · rintro v u hS hR
      simp only [holdAll, List.size_toArray, List.length_cons, List.length_nil, Nat.reduceAdd, rel, List.getD_cons_zero, List.getD_cons_succ] at hR
      clear hR
      obtain ⟨q1, q2⟩ := hS
      go_wp2
      go_end0
      exact ⟨rfl, by rw [← List.append_assoc]; exact q1, q2⟩
set_option maxRecDepth 100000 in
set_option maxHeartbeats 1000000 in
theorem wwalk_no (k : UInt8) (hk : ¬ (1 ≤ k.toNat ∧ k.toNat ≤ 8)) (h : Wr B g P bs bad w) (ha : Blk w A (askCells ⟨k, n, c, vr, ts⟩) 30) :
    Calls Try.prog 20 #[.iface 53 (.pointer (some ⟨g, 0, none⟩)), .pointer (some ⟨A, 0, none⟩)] w fun e w' => e = .returned (.tuple #[]) ∧ Wr B g P bs true w' ∧ KP B P w w' := by
  have xa : w.cell? ⟨A, 0, none⟩ = some (.int .u8 (k.toNat : Int)) := by rw [ha.cell]; rfl
  have t1 : ((k.toNat : Int) == 1) = false := by simp; omega
  have t2 : ((k.toNat : Int) == 2) = false := by simp; omega
  have t3 : ((k.toNat : Int) == 3) = false := by simp; omega
  have t4 : ((k.toNat : Int) == 4) = false := by simp; omega
  have t5 : ((k.toNat : Int) == 5) = false := by simp; omega
  have t6 : ((k.toNat : Int) == 6) = false := by simp; omega
  have t7 : ((k.toNat : Int) == 7) = false := by simp; omega
  have t8 : ((k.toNat : Int) == 8) = false := by simp; omega
  have hm := wm_fail
  have hf := wfail_w B g P bs bad w h
  clear hk
  go_enter Try.func20, Try.ntmps20
  go_wp2_with fail
  refine hf.mono ?_
  rintro e w2 ⟨rfl, g1, g2⟩
  clear hf
  go_wp2
  go_end0
  exact ⟨rfl, g1, g2⟩
end
end Go.Proofs.Ytiodfbbgbnbdpaa
