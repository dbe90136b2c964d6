/- wire.walk at the reader. -/
import Derived.Test.YtiodfbbgbnbdpaaRChange
import Derived.Test.YtiodfbbgbnbdpaaGD
import Derived.Deep.DeepCutAuto
import Derived.Deep.CutBlock
namespace Go.Proofs.Ytiodfbbgbnbdpaa
set_option linter.unusedSimpArgs false
set_option linter.unusedVariables false
open Go.RowKit
open Crc
def withN (a : Ask) (n : Nat) : Ask := ⟨a.k, n, a.c, a.v, a.ts⟩
def withV (a : Ask) (v : Nat) : Ask := ⟨a.k, a.n, a.c, v, a.ts⟩
def withT (a : Ask) (ts : List ByteArray) : Ask := ⟨a.k, a.n, a.c, a.v, ts⟩
/-- What a request's parts are read as. -/
def walkR (a : Ask) (x : Lf) : Ask × Lf :=
  if a.k = 1 ∨ a.k = 7 ∨ a.k = 8 then (a, x)
  else if a.k = 2 then (withC (withN a (longL x).1) (rchL (longL x).2).1, (rchL (longL x).2).2)
  else if a.k = 3 ∨ a.k = 4 then (withN a (longL x).1, (longL x).2)
  else if a.k = 5 then (withT a (textsL 7 x).1, (textsL 7 x).2)
  else if a.k = 6 then (withT (withV a (longL x).1) (textsL 7 (longL x).2).1, (textsL 7 (longL x).2).2)
  else (a, ⟨x.l, true⟩)
theorem longL_len (x : Lf) : (longL x).2.l.length ≤ x.l.length := (takeL_len x 8).2
theorem rm_long (g : Nat) (W : World) : (method 92 68 (.pointer (some ⟨g, 0, none⟩)) "lictor/wire.long").run Try.prog W = .ok (85, .pointer (some ⟨g, 0, none⟩)) W := by kernel_rfl
theorem rm_text (g : Nat) (W : World) : (method 92 68 (.pointer (some ⟨g, 0, none⟩)) "lictor/wire.text").run Try.prog W = .ok (86, .pointer (some ⟨g, 0, none⟩)) W := by kernel_rfl
theorem rm_change (g : Nat) (W : World) : (method 92 68 (.pointer (some ⟨g, 0, none⟩)) "lictor/wire.change").run Try.prog W = .ok (83, .pointer (some ⟨g, 0, none⟩)) W := by kernel_rfl
theorem rm_fail (g : Nat) (W : World) : (method 92 68 (.pointer (some ⟨g, 0, none⟩)) "lictor/wire.fail").run Try.prog W = .ok (84, .pointer (some ⟨g, 0, none⟩)) W := by kernel_rfl
theorem make_func (fn : Fn) (first cap : Array Value) (W : World) : (Instr.makeFunc fn first cap).run Try.prog W = .ok (.func fn first cap) W := rfl
section
variable {B g A n vr : Nat} {c : Chg} {x : Lf} {w : World}
set_option maxRecDepth 100000 in
set_option maxHeartbeats 1000000 in
theorem rwalk_1 (hg : B ≤ g) (hA : B ≤ A) (hne : A ≠ g) (h : Lb w g x) (hx : x.l.length ≤ 140737488351232) (ha : Blk w A (askCells ⟨1, n, c, vr, List.replicate 7 e0⟩) 30) :
    Calls Try.prog 20 #[.iface 68 (.pointer (some ⟨g, 0, none⟩)), .pointer (some ⟨A, 0, none⟩)] w fun e w' => e = .returned (.tuple #[]) ∧ Lb w' g (walkR ⟨1, n, c, vr, List.replicate 7 e0⟩ x).2 ∧ Blk w' A (askCells (walkR ⟨1, n, c, vr, List.replicate 7 e0⟩ x).1) 30 ∧ Kp2 B g A w w' := by
  have xa : w.cell? ⟨A, 0, none⟩ = some (.int .u8 1) := by rw [ha.cell]; rfl
  go_enter Try.func20, Try.ntmps20
  go_wp2
  go_end0
  exact ⟨rfl, h, ha, Kp2.refl _ _ _ _⟩
set_option maxRecDepth 100000 in
set_option maxHeartbeats 1000000 in
theorem rwalk_7 (hg : B ≤ g) (hA : B ≤ A) (hne : A ≠ g) (h : Lb w g x) (hx : x.l.length ≤ 140737488351232) (ha : Blk w A (askCells ⟨7, n, c, vr, List.replicate 7 e0⟩) 30) :
    Calls Try.prog 20 #[.iface 68 (.pointer (some ⟨g, 0, none⟩)), .pointer (some ⟨A, 0, none⟩)] w fun e w' => e = .returned (.tuple #[]) ∧ Lb w' g (walkR ⟨7, n, c, vr, List.replicate 7 e0⟩ x).2 ∧ Blk w' A (askCells (walkR ⟨7, n, c, vr, List.replicate 7 e0⟩ x).1) 30 ∧ Kp2 B g A w w' := by
  have xa : w.cell? ⟨A, 0, none⟩ = some (.int .u8 7) := by rw [ha.cell]; rfl
  go_enter Try.func20, Try.ntmps20
  go_wp2
  go_end0
  exact ⟨rfl, h, ha, Kp2.refl _ _ _ _⟩
set_option maxRecDepth 100000 in
set_option maxHeartbeats 1000000 in
theorem rwalk_8 (hg : B ≤ g) (hA : B ≤ A) (hne : A ≠ g) (h : Lb w g x) (hx : x.l.length ≤ 140737488351232) (ha : Blk w A (askCells ⟨8, n, c, vr, List.replicate 7 e0⟩) 30) :
    Calls Try.prog 20 #[.iface 68 (.pointer (some ⟨g, 0, none⟩)), .pointer (some ⟨A, 0, none⟩)] w fun e w' => e = .returned (.tuple #[]) ∧ Lb w' g (walkR ⟨8, n, c, vr, List.replicate 7 e0⟩ x).2 ∧ Blk w' A (askCells (walkR ⟨8, n, c, vr, List.replicate 7 e0⟩ x).1) 30 ∧ Kp2 B g A w w' := by
  have xa : w.cell? ⟨A, 0, none⟩ = some (.int .u8 8) := by rw [ha.cell]; rfl
  go_enter Try.func20, Try.ntmps20
  go_wp2
  go_end0
  exact ⟨rfl, h, ha, Kp2.refl _ _ _ _⟩
set_option maxRecDepth 100000 in
set_option maxHeartbeats 1000000 in
theorem rwalk_3 (hg : B ≤ g) (hA : B ≤ A) (hne : A ≠ g) (h : Lb w g x) (hx : x.l.length ≤ 140737488351232) (ha : Blk w A (askCells ⟨3, n, c, vr, List.replicate 7 e0⟩) 30) :
    Calls Try.prog 20 #[.iface 68 (.pointer (some ⟨g, 0, none⟩)), .pointer (some ⟨A, 0, none⟩)] w fun e w' => e = .returned (.tuple #[]) ∧ Lb w' g (walkR ⟨3, n, c, vr, List.replicate 7 e0⟩ x).2 ∧ Blk w' A (askCells (walkR ⟨3, n, c, vr, List.replicate 7 e0⟩ x).1) 30 ∧ Kp2 B g A w w' := by
  have xa : w.cell? ⟨A, 0, none⟩ = some (.int .u8 3) := by rw [ha.cell]; rfl
  go_enter Try.func20, Try.ntmps20
  go_wp2_with fail
  refine region_flatS _ (fun L u => Lb u g (cond (L 7) ((longL x).2) (x)) ∧ Blk u A (askCells (cond (L 7) (withN (⟨3, n, c, vr, List.replicate 7 e0⟩ : Ask) (longL x).1) ((⟨3, n, c, vr, List.replicate 7 e0⟩ : Ask)))) 30 ∧ Kp2 B g A w u) (fun _ _ _ => True)
    (fun _ => rel [fun v _ => v = .iface 68 (.pointer (some ⟨g, 0, none⟩)),
      fun v _ => v = .pointer (some ⟨A, 0, none⟩),
      fun v _ => v = .pointer (some ⟨A, 0, none⟩),
      fun v _ => v = .pointer (some ⟨A, 1, none⟩),
      fun v _ => v = .func (Fn.method "lictor/wire.long") #[.iface 68 (.pointer (some ⟨g, 0, none⟩))] #[],
      fun v _ => v = .func (Fn.method "lictor/wire.long") #[.iface 68 (.pointer (some ⟨g, 0, none⟩))] #[],
      fun v _ => v = .iface 68 (.pointer (some ⟨g, 0, none⟩)),
      fun _ _ => True])
    (by kernel_rfl) (by kernel_rfl) (fun v => by simp only [putsV, Act.put, List.toList_toArray, List.setIfInBounds_toArray, List.set_cons_zero, List.set_cons_succ, Nat.reduceAdd, Nat.zero_add]; rfl) ?_ (fun _ _ _ _ _ h => h) ⟨h, ha, (Kp2.refl _ _ _ _).drew⟩ ?_ (fun _ _ _ _ _ _ h => h) (fun L L' u hL h => by rw [← hL 7 (by decide)]; exact h) ?_
  · intro i L j x u u' _ _ _ h
    match j with
    | 0 => exact h
    | 1 => exact h
    | 2 => exact h
    | 3 => exact h
    | 4 => exact h
    | 5 => exact h
    | 6 => exact h
    | 7 => exact h
    | _ + 8 => trivial
  · refine ⟨?_, ?_, ?_, ?_, ?_, ?_, ?_, ?_, trivial⟩
    · intro L hL hcl v u hS hd K' hK
      simp only [waited, List.toList_toArray, Region.binds, rel, List.getD_cons_zero, List.getD_cons_succ, true_imp_iff, and_true] at hd
      simp only [rel, List.getD_cons_zero, List.getD_cons_succ, Act.put, List.setIfInBounds_toArray, List.set_cons_zero, List.set_cons_succ] at hK
      try simp only [hd] at hK
      have hmf := make_func
      have hm := rm_long
      go_simp
      exact hK.out _ _ ⟨hS, trivial, rfl⟩
    · intro L hL hcl v u hS hd K' hK
      simp only [waited, List.toList_toArray, Region.binds, rel, List.getD_cons_zero, List.getD_cons_succ, true_imp_iff, and_true] at hd
      simp only [rel, List.getD_cons_zero, List.getD_cons_succ, Act.put, List.setIfInBounds_toArray, List.set_cons_zero, List.set_cons_succ] at hK
      try simp only [hd] at hK
      have hmf := make_func
      have hm := rm_long
      go_simp
      exact hK.out _ _ ⟨hS, trivial, rfl⟩
    · intro L hL hcl v u hS hd K' hK
      simp only [waited, List.toList_toArray, Region.binds, rel, List.getD_cons_zero, List.getD_cons_succ, true_imp_iff, and_true] at hd
      simp only [rel, List.getD_cons_zero, List.getD_cons_succ, Act.put, List.setIfInBounds_toArray, List.set_cons_zero, List.set_cons_succ] at hK
      try simp only [hd] at hK
      have hmf := make_func
      have hm := rm_long
      go_simp
      exact hK.out _ _ ⟨hS, trivial, rfl⟩
    · intro L hL hcl v u hS hd K' hK
      simp only [waited, List.toList_toArray, Region.binds, rel, List.getD_cons_zero, List.getD_cons_succ, true_imp_iff, and_true] at hd
      simp only [rel, List.getD_cons_zero, List.getD_cons_succ, Act.put, List.setIfInBounds_toArray, List.set_cons_zero, List.set_cons_succ] at hK
      try simp only [hd] at hK
      have hmf := make_func
      have hm := rm_long
      go_simp
      exact hK.out _ _ ⟨hS, trivial, rfl⟩
    · intro L hL hcl v u hS hd K' hK
      simp only [waited, List.toList_toArray, Region.binds, rel, List.getD_cons_zero, List.getD_cons_succ, true_imp_iff, and_true] at hd
      simp only [rel, List.getD_cons_zero, List.getD_cons_succ, Act.put, List.setIfInBounds_toArray, List.set_cons_zero, List.set_cons_succ] at hK
      try simp only [hd] at hK
      have hmf := make_func
      have hm := rm_long
      go_simp
      exact hK.out _ _ ⟨hS, trivial, rfl⟩
    · intro L hL hcl v u hS hd K' hK
      simp only [waited, List.toList_toArray, Region.binds, rel, List.getD_cons_zero, List.getD_cons_succ, true_imp_iff, and_true] at hd
      simp only [rel, List.getD_cons_zero, List.getD_cons_succ, Act.put, List.setIfInBounds_toArray, List.set_cons_zero, List.set_cons_succ] at hK
      try simp only [hd] at hK
      have hmf := make_func
      have hm := rm_long
      go_simp
      exact hK.out _ _ ⟨hS, trivial, rfl⟩
    · intro L hL hcl v u hS hd K' hK
      simp only [waited, List.toList_toArray, Region.binds, rel, List.getD_cons_zero, List.getD_cons_succ, true_imp_iff, and_true] at hd
      simp only [rel, List.getD_cons_zero, List.getD_cons_succ, Act.put, List.setIfInBounds_toArray, List.set_cons_zero, List.set_cons_succ] at hK
      try simp only [hd] at hK
      have hmf := make_func
      have hm := rm_long
      go_simp
      exact hK.out _ _ ⟨hS, trivial, rfl⟩
    · intro L hL hcl v u hS hd K' hK
      simp only [waited, List.toList_toArray, Region.binds, rel, List.getD_cons_zero, List.getD_cons_succ, true_imp_iff, and_true] at hd
      simp only [rel, List.getD_cons_zero, List.getD_cons_succ, Act.put, List.setIfInBounds_toArray, List.set_cons_zero, List.set_cons_succ] at hK
      try simp only [hd] at hK
      have hmf := make_func
      have hm := rm_long
      obtain ⟨q1, q2, q3⟩ := hS
      rw [hL] at q1 q2
      have q1' : Lb u g (x) := q1
      have q2' : Blk u A (askCells ((⟨3, n, c, vr, List.replicate 7 e0⟩ : Ask))) 30 := q2
      go_simp
      refine (rlong_w (o := 1) hg hA hne q1' hx q2' rfl).mono ?_
      rintro e w2 ⟨rfl, h2, h3, h4⟩
      exact hK.out _ _ ⟨⟨h2, h3, q3.trans h4⟩, trivial, trivial⟩
  · rintro v u hS hR
    simp only [holdAll, List.size_toArray, List.length_cons, List.length_nil, Nat.reduceAdd, rel, List.getD_cons_zero, List.getD_cons_succ] at hR
    clear hR xa
    obtain ⟨q1, q2, q3⟩ := hS
    go_wp2
    go_end0
    exact ⟨rfl, q1, q2, q3⟩
set_option maxRecDepth 100000 in
set_option maxHeartbeats 1000000 in
theorem rwalk_4 (hg : B ≤ g) (hA : B ≤ A) (hne : A ≠ g) (h : Lb w g x) (hx : x.l.length ≤ 140737488351232) (ha : Blk w A (askCells ⟨4, n, c, vr, List.replicate 7 e0⟩) 30) :
    Calls Try.prog 20 #[.iface 68 (.pointer (some ⟨g, 0, none⟩)), .pointer (some ⟨A, 0, none⟩)] w fun e w' => e = .returned (.tuple #[]) ∧ Lb w' g (walkR ⟨4, n, c, vr, List.replicate 7 e0⟩ x).2 ∧ Blk w' A (askCells (walkR ⟨4, n, c, vr, List.replicate 7 e0⟩ x).1) 30 ∧ Kp2 B g A w w' := by
  have xa : w.cell? ⟨A, 0, none⟩ = some (.int .u8 4) := by rw [ha.cell]; rfl
  go_enter Try.func20, Try.ntmps20
  go_wp2_with fail
  refine region_flatS _ (fun L u => Lb u g (cond (L 7) ((longL x).2) (x)) ∧ Blk u A (askCells (cond (L 7) (withN (⟨4, n, c, vr, List.replicate 7 e0⟩ : Ask) (longL x).1) ((⟨4, n, c, vr, List.replicate 7 e0⟩ : Ask)))) 30 ∧ Kp2 B g A w u) (fun _ _ _ => True)
    (fun _ => rel [fun v _ => v = .iface 68 (.pointer (some ⟨g, 0, none⟩)),
      fun v _ => v = .pointer (some ⟨A, 0, none⟩),
      fun v _ => v = .pointer (some ⟨A, 0, none⟩),
      fun v _ => v = .pointer (some ⟨A, 1, none⟩),
      fun v _ => v = .func (Fn.method "lictor/wire.long") #[.iface 68 (.pointer (some ⟨g, 0, none⟩))] #[],
      fun v _ => v = .func (Fn.method "lictor/wire.long") #[.iface 68 (.pointer (some ⟨g, 0, none⟩))] #[],
      fun v _ => v = .iface 68 (.pointer (some ⟨g, 0, none⟩)),
      fun _ _ => True])
    (by kernel_rfl) (by kernel_rfl) (fun v => by simp only [putsV, Act.put, List.toList_toArray, List.setIfInBounds_toArray, List.set_cons_zero, List.set_cons_succ, Nat.reduceAdd, Nat.zero_add]; rfl) ?_ (fun _ _ _ _ _ h => h) ⟨h, ha, (Kp2.refl _ _ _ _).drew⟩ ?_ (fun _ _ _ _ _ _ h => h) (fun L L' u hL h => by rw [← hL 7 (by decide)]; exact h) ?_
  · intro i L j x u u' _ _ _ h
    match j with
    | 0 => exact h
    | 1 => exact h
    | 2 => exact h
    | 3 => exact h
    | 4 => exact h
    | 5 => exact h
    | 6 => exact h
    | 7 => exact h
    | _ + 8 => trivial
  · refine ⟨?_, ?_, ?_, ?_, ?_, ?_, ?_, ?_, trivial⟩
    · intro L hL hcl v u hS hd K' hK
      simp only [waited, List.toList_toArray, Region.binds, rel, List.getD_cons_zero, List.getD_cons_succ, true_imp_iff, and_true] at hd
      simp only [rel, List.getD_cons_zero, List.getD_cons_succ, Act.put, List.setIfInBounds_toArray, List.set_cons_zero, List.set_cons_succ] at hK
      try simp only [hd] at hK
      have hmf := make_func
      have hm := rm_long
      go_simp
      exact hK.out _ _ ⟨hS, trivial, rfl⟩
    · intro L hL hcl v u hS hd K' hK
      simp only [waited, List.toList_toArray, Region.binds, rel, List.getD_cons_zero, List.getD_cons_succ, true_imp_iff, and_true] at hd
      simp only [rel, List.getD_cons_zero, List.getD_cons_succ, Act.put, List.setIfInBounds_toArray, List.set_cons_zero, List.set_cons_succ] at hK
      try simp only [hd] at hK
      have hmf := make_func
      have hm := rm_long
      go_simp
      exact hK.out _ _ ⟨hS, trivial, rfl⟩
    · intro L hL hcl v u hS hd K' hK
      simp only [waited, List.toList_toArray, Region.binds, rel, List.getD_cons_zero, List.getD_cons_succ, true_imp_iff, and_true] at hd
      simp only [rel, List.getD_cons_zero, List.getD_cons_succ, Act.put, List.setIfInBounds_toArray, List.set_cons_zero, List.set_cons_succ] at hK
      try simp only [hd] at hK
      have hmf := make_func
      have hm := rm_long
      go_simp
      exact hK.out _ _ ⟨hS, trivial, rfl⟩
    · intro L hL hcl v u hS hd K' hK
      simp only [waited, List.toList_toArray, Region.binds, rel, List.getD_cons_zero, List.getD_cons_succ, true_imp_iff, and_true] at hd
      simp only [rel, List.getD_cons_zero, List.getD_cons_succ, Act.put, List.setIfInBounds_toArray, List.set_cons_zero, List.set_cons_succ] at hK
      try simp only [hd] at hK
      have hmf := make_func
      have hm := rm_long
      go_simp
      exact hK.out _ _ ⟨hS, trivial, rfl⟩
    · intro L hL hcl v u hS hd K' hK
      simp only [waited, List.toList_toArray, Region.binds, rel, List.getD_cons_zero, List.getD_cons_succ, true_imp_iff, and_true] at hd
      simp only [rel, List.getD_cons_zero, List.getD_cons_succ, Act.put, List.setIfInBounds_toArray, List.set_cons_zero, List.set_cons_succ] at hK
      try simp only [hd] at hK
      have hmf := make_func
      have hm := rm_long
      go_simp
      exact hK.out _ _ ⟨hS, trivial, rfl⟩
    · intro L hL hcl v u hS hd K' hK
      simp only [waited, List.toList_toArray, Region.binds, rel, List.getD_cons_zero, List.getD_cons_succ, true_imp_iff, and_true] at hd
      simp only [rel, List.getD_cons_zero, List.getD_cons_succ, Act.put, List.setIfInBounds_toArray, List.set_cons_zero, List.set_cons_succ] at hK
      try simp only [hd] at hK
      have hmf := make_func
      have hm := rm_long
      go_simp
      exact hK.out _ _ ⟨hS, trivial, rfl⟩
    · intro L hL hcl v u hS hd K' hK
      simp only [waited, List.toList_toArray, Region.binds, rel, List.getD_cons_zero, List.getD_cons_succ, true_imp_iff, and_true] at hd
      simp only [rel, List.getD_cons_zero, List.getD_cons_succ, Act.put, List.setIfInBounds_toArray, List.set_cons_zero, List.set_cons_succ] at hK
      try simp only [hd] at hK
      have hmf := make_func
      have hm := rm_long
      go_simp
      exact hK.out _ _ ⟨hS, trivial, rfl⟩
    · intro L hL hcl v u hS hd K' hK
      simp only [waited, List.toList_toArray, Region.binds, rel, List.getD_cons_zero, List.getD_cons_succ, true_imp_iff, and_true] at hd
      simp only [rel, List.getD_cons_zero, List.getD_cons_succ, Act.put, List.setIfInBounds_toArray, List.set_cons_zero, List.set_cons_succ] at hK
      try simp only [hd] at hK
      have hmf := make_func
      have hm := rm_long
      obtain ⟨q1, q2, q3⟩ := hS
      rw [hL] at q1 q2
      have q1' : Lb u g (x) := q1
      have q2' : Blk u A (askCells ((⟨4, n, c, vr, List.replicate 7 e0⟩ : Ask))) 30 := q2
      go_simp
      refine (rlong_w (o := 1) hg hA hne q1' hx q2' rfl).mono ?_
      rintro e w2 ⟨rfl, h2, h3, h4⟩
      exact hK.out _ _ ⟨⟨h2, h3, q3.trans h4⟩, trivial, trivial⟩
  · rintro v u hS hR
    simp only [holdAll, List.size_toArray, List.length_cons, List.length_nil, Nat.reduceAdd, rel, List.getD_cons_zero, List.getD_cons_succ] at hR
    clear hR xa
    obtain ⟨q1, q2, q3⟩ := hS
    go_wp2
    go_end0
    exact ⟨rfl, q1, q2, q3⟩
set_option maxRecDepth 100000 in
set_option maxHeartbeats 1000000 in
theorem rwalk_2 (hg : B ≤ g) (hA : B ≤ A) (hne : A ≠ g) (h : Lb w g x) (hx : x.l.length ≤ 140737488351232) (ha : Blk w A (askCells ⟨2, n, c, vr, List.replicate 7 e0⟩) 30) :
    Calls Try.prog 20 #[.iface 68 (.pointer (some ⟨g, 0, none⟩)), .pointer (some ⟨A, 0, none⟩)] w fun e w' => e = .returned (.tuple #[]) ∧ Lb w' g (walkR ⟨2, n, c, vr, List.replicate 7 e0⟩ x).2 ∧ Blk w' A (askCells (walkR ⟨2, n, c, vr, List.replicate 7 e0⟩ x).1) 30 ∧ Kp2 B g A w w' := by
  have xa : w.cell? ⟨A, 0, none⟩ = some (.int .u8 2) := by rw [ha.cell]; rfl
  go_enter Try.func20, Try.ntmps20
  go_wp2_with fail
  refine region_flatS _ (fun L u => Lb u g (cond (L 7) ((longL x).2) (x)) ∧ Blk u A (askCells (cond (L 7) (withN (⟨2, n, c, vr, List.replicate 7 e0⟩ : Ask) (longL x).1) ((⟨2, n, c, vr, List.replicate 7 e0⟩ : Ask)))) 30 ∧ Kp2 B g A w u) (fun _ _ _ => True)
    (fun _ => rel [fun v _ => v = .iface 68 (.pointer (some ⟨g, 0, none⟩)),
      fun v _ => v = .pointer (some ⟨A, 0, none⟩),
      fun v _ => v = .pointer (some ⟨A, 0, none⟩),
      fun v _ => v = .pointer (some ⟨A, 1, none⟩),
      fun v _ => v = .func (Fn.method "lictor/wire.long") #[.iface 68 (.pointer (some ⟨g, 0, none⟩))] #[],
      fun v _ => v = .func (Fn.method "lictor/wire.long") #[.iface 68 (.pointer (some ⟨g, 0, none⟩))] #[],
      fun v _ => v = .iface 68 (.pointer (some ⟨g, 0, none⟩)),
      fun _ _ => True])
    (by kernel_rfl) (by kernel_rfl) (fun v => by simp only [putsV, Act.put, List.toList_toArray, List.setIfInBounds_toArray, List.set_cons_zero, List.set_cons_succ, Nat.reduceAdd, Nat.zero_add]; rfl) ?_ (fun _ _ _ _ _ h => h) ⟨h, ha, (Kp2.refl _ _ _ _).drew⟩ ?_ (fun _ _ _ _ _ _ h => h) (fun L L' u hL h => by rw [← hL 7 (by decide)]; exact h) ?_
  · intro i L j x u u' _ _ _ h
    match j with
    | 0 => exact h
    | 1 => exact h
    | 2 => exact h
    | 3 => exact h
    | 4 => exact h
    | 5 => exact h
    | 6 => exact h
    | 7 => exact h
    | _ + 8 => trivial
  · refine ⟨?_, ?_, ?_, ?_, ?_, ?_, ?_, ?_, trivial⟩
    · intro L hL hcl v u hS hd K' hK
      simp only [waited, List.toList_toArray, Region.binds, rel, List.getD_cons_zero, List.getD_cons_succ, true_imp_iff, and_true] at hd
      simp only [rel, List.getD_cons_zero, List.getD_cons_succ, Act.put, List.setIfInBounds_toArray, List.set_cons_zero, List.set_cons_succ] at hK
      try simp only [hd] at hK
      have hmf := make_func
      have hm := rm_long
      go_simp
      exact hK.out _ _ ⟨hS, trivial, rfl⟩
    · intro L hL hcl v u hS hd K' hK
      simp only [waited, List.toList_toArray, Region.binds, rel, List.getD_cons_zero, List.getD_cons_succ, true_imp_iff, and_true] at hd
      simp only [rel, List.getD_cons_zero, List.getD_cons_succ, Act.put, List.setIfInBounds_toArray, List.set_cons_zero, List.set_cons_succ] at hK
      try simp only [hd] at hK
      have hmf := make_func
      have hm := rm_long
      go_simp
      exact hK.out _ _ ⟨hS, trivial, rfl⟩
    · intro L hL hcl v u hS hd K' hK
      simp only [waited, List.toList_toArray, Region.binds, rel, List.getD_cons_zero, List.getD_cons_succ, true_imp_iff, and_true] at hd
      simp only [rel, List.getD_cons_zero, List.getD_cons_succ, Act.put, List.setIfInBounds_toArray, List.set_cons_zero, List.set_cons_succ] at hK
      try simp only [hd] at hK
      have hmf := make_func
      have hm := rm_long
      go_simp
      exact hK.out _ _ ⟨hS, trivial, rfl⟩
    · intro L hL hcl v u hS hd K' hK
      simp only [waited, List.toList_toArray, Region.binds, rel, List.getD_cons_zero, List.getD_cons_succ, true_imp_iff, and_true] at hd
      simp only [rel, List.getD_cons_zero, List.getD_cons_succ, Act.put, List.setIfInBounds_toArray, List.set_cons_zero, List.set_cons_succ] at hK
      try simp only [hd] at hK
      have hmf := make_func
      have hm := rm_long
      go_simp
      exact hK.out _ _ ⟨hS, trivial, rfl⟩
    · intro L hL hcl v u hS hd K' hK
      simp only [waited, List.toList_toArray, Region.binds, rel, List.getD_cons_zero, List.getD_cons_succ, true_imp_iff, and_true] at hd
      simp only [rel, List.getD_cons_zero, List.getD_cons_succ, Act.put, List.setIfInBounds_toArray, List.set_cons_zero, List.set_cons_succ] at hK
      try simp only [hd] at hK
      have hmf := make_func
      have hm := rm_long
      go_simp
      exact hK.out _ _ ⟨hS, trivial, rfl⟩
    · intro L hL hcl v u hS hd K' hK
      simp only [waited, List.toList_toArray, Region.binds, rel, List.getD_cons_zero, List.getD_cons_succ, true_imp_iff, and_true] at hd
      simp only [rel, List.getD_cons_zero, List.getD_cons_succ, Act.put, List.setIfInBounds_toArray, List.set_cons_zero, List.set_cons_succ] at hK
      try simp only [hd] at hK
      have hmf := make_func
      have hm := rm_long
      go_simp
      exact hK.out _ _ ⟨hS, trivial, rfl⟩
    · intro L hL hcl v u hS hd K' hK
      simp only [waited, List.toList_toArray, Region.binds, rel, List.getD_cons_zero, List.getD_cons_succ, true_imp_iff, and_true] at hd
      simp only [rel, List.getD_cons_zero, List.getD_cons_succ, Act.put, List.setIfInBounds_toArray, List.set_cons_zero, List.set_cons_succ] at hK
      try simp only [hd] at hK
      have hmf := make_func
      have hm := rm_long
      go_simp
      exact hK.out _ _ ⟨hS, trivial, rfl⟩
    · intro L hL hcl v u hS hd K' hK
      simp only [waited, List.toList_toArray, Region.binds, rel, List.getD_cons_zero, List.getD_cons_succ, true_imp_iff, and_true] at hd
      simp only [rel, List.getD_cons_zero, List.getD_cons_succ, Act.put, List.setIfInBounds_toArray, List.set_cons_zero, List.set_cons_succ] at hK
      try simp only [hd] at hK
      have hmf := make_func
      have hm := rm_long
      obtain ⟨q1, q2, q3⟩ := hS
      rw [hL] at q1 q2
      have q1' : Lb u g (x) := q1
      have q2' : Blk u A (askCells ((⟨2, n, c, vr, List.replicate 7 e0⟩ : Ask))) 30 := q2
      go_simp
      refine (rlong_w (o := 1) hg hA hne q1' hx q2' rfl).mono ?_
      rintro e w2 ⟨rfl, h2, h3, h4⟩
      exact hK.out _ _ ⟨⟨h2, h3, q3.trans h4⟩, trivial, trivial⟩
  · rintro v u hS hR
    simp only [holdAll, List.size_toArray, List.length_cons, List.length_nil, Nat.reduceAdd, rel, List.getD_cons_zero, List.getD_cons_succ] at hR
    clear hR xa
    obtain ⟨q1, q2, q3⟩ := hS
    replace q1 : Lb u g (longL x).2 := q1
    replace q2 : Blk u A (askCells (withN (⟨2, n, c, vr, List.replicate 7 e0⟩ : Ask) (longL x).1)) 30 := q2
    go_wp2_with fail
    refine region_flatS _ (fun L u => Lb u g (cond (L 7) (rchL (longL x).2).2 (longL x).2) ∧ Blk u A (askCells (cond (L 7) (withC (withN (⟨2, n, c, vr, List.replicate 7 e0⟩ : Ask) (longL x).1) (rchL (longL x).2).1) (withN (⟨2, n, c, vr, List.replicate 7 e0⟩ : Ask) (longL x).1))) 30 ∧ Kp2 B g A w u) (fun _ _ _ => True)
      (fun _ => rel [fun v _ => v = .iface 68 (.pointer (some ⟨g, 0, none⟩)),
        fun v _ => v = .pointer (some ⟨A, 0, none⟩),
        fun v _ => v = .pointer (some ⟨A, 0, none⟩),
        fun v _ => v = .pointer (some ⟨A, 2, none⟩),
        fun v _ => v = .func (Fn.method "lictor/wire.change") #[.iface 68 (.pointer (some ⟨g, 0, none⟩))] #[],
        fun v _ => v = .func (Fn.method "lictor/wire.change") #[.iface 68 (.pointer (some ⟨g, 0, none⟩))] #[],
        fun v _ => v = .iface 68 (.pointer (some ⟨g, 0, none⟩)),
        fun _ _ => True])
      (by kernel_rfl) (by kernel_rfl) (fun v => by simp only [putsV, Act.put, List.toList_toArray, List.setIfInBounds_toArray, List.set_cons_zero, List.set_cons_succ, Nat.reduceAdd, Nat.zero_add]; rfl) ?_ (fun _ _ _ _ _ h => h) ⟨q1, q2, q3.drew⟩ ?_ (fun _ _ _ _ _ _ h => h) (fun L L' u hL h => by rw [← hL 7 (by decide)]; exact h) ?_
    · intro i L j x u u' _ _ _ h
      match j with
      | 0 => exact h
      | 1 => exact h
      | 2 => exact h
      | 3 => exact h
      | 4 => exact h
      | 5 => exact h
      | 6 => exact h
      | 7 => exact h
      | _ + 8 => trivial
    · refine ⟨?_, ?_, ?_, ?_, ?_, ?_, ?_, ?_, trivial⟩
      · intro L hL hcl v u hS hd K' hK
        simp only [waited, List.toList_toArray, Region.binds, rel, List.getD_cons_zero, List.getD_cons_succ, true_imp_iff, and_true] at hd
        simp only [rel, List.getD_cons_zero, List.getD_cons_succ, Act.put, List.setIfInBounds_toArray, List.set_cons_zero, List.set_cons_succ] at hK
        try simp only [hd] at hK
        have hmf := make_func
        have hm := rm_change
        go_simp
        exact hK.out _ _ ⟨hS, trivial, rfl⟩
      · intro L hL hcl v u hS hd K' hK
        simp only [waited, List.toList_toArray, Region.binds, rel, List.getD_cons_zero, List.getD_cons_succ, true_imp_iff, and_true] at hd
        simp only [rel, List.getD_cons_zero, List.getD_cons_succ, Act.put, List.setIfInBounds_toArray, List.set_cons_zero, List.set_cons_succ] at hK
        try simp only [hd] at hK
        have hmf := make_func
        have hm := rm_change
        go_simp
        exact hK.out _ _ ⟨hS, trivial, rfl⟩
      · intro L hL hcl v u hS hd K' hK
        simp only [waited, List.toList_toArray, Region.binds, rel, List.getD_cons_zero, List.getD_cons_succ, true_imp_iff, and_true] at hd
        simp only [rel, List.getD_cons_zero, List.getD_cons_succ, Act.put, List.setIfInBounds_toArray, List.set_cons_zero, List.set_cons_succ] at hK
        try simp only [hd] at hK
        have hmf := make_func
        have hm := rm_change
        go_simp
        exact hK.out _ _ ⟨hS, trivial, rfl⟩
      · intro L hL hcl v u hS hd K' hK
        simp only [waited, List.toList_toArray, Region.binds, rel, List.getD_cons_zero, List.getD_cons_succ, true_imp_iff, and_true] at hd
        simp only [rel, List.getD_cons_zero, List.getD_cons_succ, Act.put, List.setIfInBounds_toArray, List.set_cons_zero, List.set_cons_succ] at hK
        try simp only [hd] at hK
        have hmf := make_func
        have hm := rm_change
        go_simp
        exact hK.out _ _ ⟨hS, trivial, rfl⟩
      · intro L hL hcl v u hS hd K' hK
        simp only [waited, List.toList_toArray, Region.binds, rel, List.getD_cons_zero, List.getD_cons_succ, true_imp_iff, and_true] at hd
        simp only [rel, List.getD_cons_zero, List.getD_cons_succ, Act.put, List.setIfInBounds_toArray, List.set_cons_zero, List.set_cons_succ] at hK
        try simp only [hd] at hK
        have hmf := make_func
        have hm := rm_change
        go_simp
        exact hK.out _ _ ⟨hS, trivial, rfl⟩
      · intro L hL hcl v u hS hd K' hK
        simp only [waited, List.toList_toArray, Region.binds, rel, List.getD_cons_zero, List.getD_cons_succ, true_imp_iff, and_true] at hd
        simp only [rel, List.getD_cons_zero, List.getD_cons_succ, Act.put, List.setIfInBounds_toArray, List.set_cons_zero, List.set_cons_succ] at hK
        try simp only [hd] at hK
        have hmf := make_func
        have hm := rm_change
        go_simp
        exact hK.out _ _ ⟨hS, trivial, rfl⟩
      · intro L hL hcl v u hS hd K' hK
        simp only [waited, List.toList_toArray, Region.binds, rel, List.getD_cons_zero, List.getD_cons_succ, true_imp_iff, and_true] at hd
        simp only [rel, List.getD_cons_zero, List.getD_cons_succ, Act.put, List.setIfInBounds_toArray, List.set_cons_zero, List.set_cons_succ] at hK
        try simp only [hd] at hK
        have hmf := make_func
        have hm := rm_change
        go_simp
        exact hK.out _ _ ⟨hS, trivial, rfl⟩
      · intro L hL hcl v u hS hd K' hK
        simp only [waited, List.toList_toArray, Region.binds, rel, List.getD_cons_zero, List.getD_cons_succ, true_imp_iff, and_true] at hd
        simp only [rel, List.getD_cons_zero, List.getD_cons_succ, Act.put, List.setIfInBounds_toArray, List.set_cons_zero, List.set_cons_succ] at hK
        try simp only [hd] at hK
        have hmf := make_func
        have hm := rm_change
        obtain ⟨q1, q2, q3⟩ := hS
        rw [hL] at q1 q2
        have q1' : Lb u g (longL x).2 := q1
        have q2' : Blk u A (askCells (withN (⟨2, n, c, vr, List.replicate 7 e0⟩ : Ask) (longL x).1)) 30 := q2
        go_simp
        refine (rchange_w hg hA hne q1' (Nat.le_trans (longL_len x) hx) q2').mono ?_
        rintro e w2 ⟨rfl, h2, h3, h4⟩
        exact hK.out _ _ ⟨⟨h2, h3, q3.trans h4⟩, trivial, trivial⟩
    · rintro v u hS hR
      simp only [holdAll, List.size_toArray, List.length_cons, List.length_nil, Nat.reduceAdd, rel, List.getD_cons_zero, List.getD_cons_succ] at hR
      clear hR
      obtain ⟨q1, q2, q3⟩ := hS
      go_wp2
      go_end0
      exact ⟨rfl, q1, q2, q3⟩
set_option maxRecDepth 100000 in
set_option maxHeartbeats 1000000 in
theorem rwalk_no (k : UInt8) (hk : ¬ (1 ≤ k.toNat ∧ k.toNat ≤ 8)) (hg : B ≤ g) (hA : B ≤ A) (hne : A ≠ g) (h : Lb w g x) (ha : Blk w A (askCells ⟨k, n, c, vr, List.replicate 7 e0⟩) 30) :
    Calls Try.prog 20 #[.iface 68 (.pointer (some ⟨g, 0, none⟩)), .pointer (some ⟨A, 0, none⟩)] w fun e w' => e = .returned (.tuple #[]) ∧ Lb w' g ⟨x.l, true⟩ ∧ Blk w' A (askCells ⟨k, n, c, vr, List.replicate 7 e0⟩) 30 ∧ Kp2 B g A w w' := by
  have xa : w.cell? ⟨A, 0, none⟩ = some (.int .u8 (k.toNat : Int)) := by rw [ha.cell]; rfl
  have t1 : ((k.toNat : Int) == 1) = false := by simp; omega
  have t2 : ((k.toNat : Int) == 2) = false := by simp; omega
  have t3 : ((k.toNat : Int) == 3) = false := by simp; omega
  have t4 : ((k.toNat : Int) == 4) = false := by simp; omega
  have t5 : ((k.toNat : Int) == 5) = false := by simp; omega
  have t6 : ((k.toNat : Int) == 6) = false := by simp; omega
  have t7 : ((k.toNat : Int) == 7) = false := by simp; omega
  have t8 : ((k.toNat : Int) == 8) = false := by simp; omega
  have hm := rm_fail
  have hf := rfail_w h
  clear hk
  go_enter Try.func20, Try.ntmps20
  go_wp2_with fail
  refine hf.mono ?_
  rintro e w2 ⟨rfl, g1, g2⟩
  have hA2 := ha.kp g2 hne
  have k2 := g2.two (A := A) hg
  clear hf
  go_wp2
  go_end0
  exact ⟨rfl, g1, hA2, k2⟩
end
end Go.Proofs.Ytiodfbbgbnbdpaa
