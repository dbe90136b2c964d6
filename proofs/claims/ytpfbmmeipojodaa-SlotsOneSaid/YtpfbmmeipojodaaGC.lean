/- Several small texts of this proof, one behind the other. -/
import Derived.Test.YtpfbmmeipojodaaSecPut
import Derived.Deep.Onto
import Derived.Test.YtpfbmmeipojodaaGA
section
/- The last step of a sync. -/
namespace Go.Proofs.Ytpfbmmeipojodaa
open Go.RowKit
/-- The disk that a sync leaves: all writes done. -/
def settled (may : Nat → Bool) (d : Dk) : Dk := { d with secs := stl may 0 d.pend d.secs, pend := [] }
theorem own_lies {w : World} {base X : Nat} {sv pv : Value} {d : Dk} (h1 : At w base X sv pv d) (h2 : w.ownsRow base 66 2 pv d.pend.length (wrs d.pend)) :
    ∃ A c, pv = .slice A d.pend.length c ∧ Writes w A d.pend ∧ ∀ a, A = some a → sv.ownBlock ≠ some a.block ∧ a.block ≠ X := by
  obtain ⟨A, c, rfl, _, _, hp, _⟩ := Lies.of_own h2
  refine ⟨A, c, rfl, hp, fun a ha => ?_⟩
  subst ha
  have e1 := own_ne h1.own h2 (by decide)
  have e2 := own_blk_ne h2 h1.blk (by decide)
  simp only [Value.ownBlock, ne_eq, Option.some.injEq] at e1 e2 ⊢
  refine ⟨?_, e2⟩
  rcases e1 with e1 | e1
  · rw [e1]; simp
  · exact e1
theorem Drive.zero {w : World} {base X : Nat} {sv : Value} {d : Dk} (h : At w base X sv (.slice none 0 0) { d with pend := [] }) : Drive w base X { d with pend := [] } :=
  ⟨sv, _, h, World.ownsRow_nil _ _ _ _⟩
set_option maxHeartbeats 1000000 in
theorem done_w (base X : Nat) (d : Dk) (w : World) (hd : Drive w base X d) (hs : ∀ x ∈ d.pend, there d.secs x.sec = true) (hn : d.pend.length ≤ 140737488351232) :
    Calls Try.prog 85 #[.pointer (some ⟨X, 0, none⟩)] w fun e w' => e = .returned (.tuple #[]) ∧ Drive w' base X (settled (fun _ => true) d) ∧ Below base w w' := by
  obtain ⟨sv, pv, h1, h2⟩ := hd
  obtain ⟨A, c, rfl, hp, hA⟩ := own_lies h1 h2
  go_enter Try.func85, Try.ntmps85
  go_wp2_with (go_at_call 30; refine (settleAll_w (fun _ => true) base X sv A c d w h1 hp (fun _ => hA) hs hn (fun i w' _ _ => all_w _ _)).mono ?_; rintro e w2 ⟨rfl, hat, hb⟩)
  go_end0
  exact ⟨rfl, ⟨sv, _, hat, World.ownsRow_nil _ _ _ _⟩, hb⟩
end Go.Proofs.Ytpfbmmeipojodaa
end
section
/- A disk at work, up to the drive that it lies in. -/
namespace Go.Proofs.Ytpfbmmeipojodaa
open Go.RowKit
theorem Blk.drew {w : World} {g : Nat} {vs : List Value} {t : TypeId} (h : Blk w g vs t) : Blk w.drew g vs t := h
theorem Blk.belowAt {B : Nat} {w w' : World} {g : Nat} {vs : List Value} {t : TypeId} (h : Blk w g vs t) (hb : Below B w w') (hg : g < B) : Blk w' g vs t := (hb.block g hg).trans h
/-- Both clones made, and laid into the asker's copy. -/
theorem front_end {N M : Nat} {w u w2 w3 : World} {B2 B3 : Option Addr} {d2 d3 : Nat} {v1 v2 v3 v4 : Value} {l : List Value} {d : Dk} (hM : u.heap.size = M) (hb : Below N w u) (q1 : Blk u N [v1, v2, v3, v4] 28) (q2 : Blk u (N + 1) l 28)
    (ho2 : w2.ownsRow u.heap.size 9 1 (.slice B2 d.secs.length d2) d.secs.length (strs d.secs)) (hb2 : Below u.heap.size u w2)
    (ho3 : w3.ownsRow w2.heap.size 66 2 (.slice B3 d.pend.length d3) d.pend.length (wrs d.pend)) (hb3 : Below w2.heap.size w2 w3) :
    Blk ((w3.setCell ⟨N, 0, none⟩ (.slice B2 d.secs.length d2)).setCell ⟨N, 1, none⟩ (.slice B3 d.pend.length d3)) N [.slice B2 d.secs.length d2, .slice B3 d.pend.length d3, v3, v4] 28 ∧
    Blk ((w3.setCell ⟨N, 0, none⟩ (.slice B2 d.secs.length d2)).setCell ⟨N, 1, none⟩ (.slice B3 d.pend.length d3)) (N + 1) l 28 ∧
    ((w3.setCell ⟨N, 0, none⟩ (.slice B2 d.secs.length d2)).setCell ⟨N, 1, none⟩ (.slice B3 d.pend.length d3)).ownsRow M 9 1 (.slice B2 d.secs.length d2) d.secs.length (strs d.secs) ∧
    ((w3.setCell ⟨N, 0, none⟩ (.slice B2 d.secs.length d2)).setCell ⟨N, 1, none⟩ (.slice B3 d.pend.length d3)).ownsRow M 66 2 (.slice B3 d.pend.length d3) d.pend.length (wrs d.pend) ∧
    Below N w ((w3.setCell ⟨N, 0, none⟩ (.slice B2 d.secs.length d2)).setCell ⟨N, 1, none⟩ (.slice B3 d.pend.length d3)) ∧ N + 1 < M ∧
    M ≤ ((w3.setCell ⟨N, 0, none⟩ (.slice B2 d.secs.length d2)).setCell ⟨N, 1, none⟩ (.slice B3 d.pend.length d3)).heap.size := by
  subst hM
  have hN : N ≤ u.heap.size := Nat.le_of_lt q1.lt
  have hN2 : N ≤ w2.heap.size := Nat.le_trans hN hb2.size
  have k1 := (q1.below hb2).below hb3
  have k2 := (q2.below hb2).below hb3
  have o2 := own_below ho2 hb3
  have o3 := World.ownsRow.mono ho3 hb2.size
  have hbw : Below N w w3 := (hb.trans (hb2.mono hN)).trans (hb3.mono hN2)
  have n2 := own_blk_ne o2 k1 (by decide)
  have n3 := own_blk_ne o3 k1 (by decide)
  refine ⟨(k1.set 0 _).set 1 _, (k2.far (p := ⟨N, 0, none⟩) (by simp) _).far (p := ⟨N, 1, none⟩) (by simp) _, own_far (own_far o2 (p := ⟨N, 0, none⟩) n2 _) (p := ⟨N, 1, none⟩) n2 _, own_far (own_far o3 (p := ⟨N, 0, none⟩) n3 _) (p := ⟨N, 1, none⟩) n3 _,
    (hbw.setCell (p := ⟨N, 0, none⟩) (Nat.le_refl _) _).setCell (p := ⟨N, 1, none⟩) (Nat.le_refl _) _, q2.lt, ?_⟩
  simpa using Nat.le_trans hb2.size hb3.size
theorem At.setOff {W : World} {N X : Nat} {sv pv : Value} {d : Dk} (h : At W N X sv pv d) (b : Bool) : At (W.setCell ⟨X, 2, none⟩ (.bool b)) N X sv pv { d with off := b } :=
  ⟨h.blk.set 2 _, own_far h.own (p := ⟨X, 2, none⟩) (own_blk_ne h.own h.blk (by decide)) _, h.low⟩
theorem At.setFuse {W : World} {N X : Nat} {sv pv : Value} {d : Dk} (h : At W N X sv pv d) (f : Int) : At (W.setCell ⟨X, 3, none⟩ (.int .i64 f)) N X sv pv { d with fuse := f } :=
  ⟨h.blk.set 3 _, own_far h.own (p := ⟨X, 3, none⟩) (own_blk_ne h.own h.blk (by decide)) _, h.low⟩
/-- A disk whose fuse burns. -/
def burn (d : Dk) : Dk := { d with fuse := if 0 < d.fuse then d.fuse - 1 else d.fuse }
def workD (ref : Int) (d d1 : Dk) (fin : Dk → Dk) : Dk := if d.off = true then d else if ref ≠ 0 then d else if d1.fuse = 0 then { d1 with off := true } else fin (burn d1)
def workE (ref : Int) (d : Dk) : Int := if d.off = true then 15 else if ref ≠ 0 then ref else if d.fuse = 0 then 15 else 0
/-- A drive's disk, put into the answer's own block. -/
theorem ret_end {N M X g : Nat} {w W : World} {sv pv : Value} {d : Dk} {l : List Value} (h1 : At W M X sv pv d) (h2 : W.ownsRow M 66 2 pv d.pend.length (wrs d.pend)) (hR : Blk W g l 28) (hb : Below N w W) (hg : N ≤ g)
    (hl1 : d.secs.length ≤ 140737488351232) (hl2 : d.pend.length ≤ 140737488351232) (hf1 : -9223372036854775808 ≤ d.fuse) (hf2 : d.fuse ≤ 9223372036854775807) :
    DkIs ((((W.setCell ⟨g, 0, none⟩ sv).setCell ⟨g, 1, none⟩ pv).setCell ⟨g, 2, none⟩ (.bool d.off)).setCell ⟨g, 3, none⟩ (.int .i64 d.fuse)) (.agg #[sv, pv, .bool d.off, .int .i64 d.fuse]) d ∧
    Below N w ((((W.setCell ⟨g, 0, none⟩ sv).setCell ⟨g, 1, none⟩ pv).setCell ⟨g, 2, none⟩ (.bool d.off)).setCell ⟨g, 3, none⟩ (.int .i64 d.fuse)) := by
  have n1 := own_blk_ne h1.own hR (by decide)
  have n2 := own_blk_ne h2 hR (by decide)
  have o1 := own_far (own_far (own_far (own_far h1.own (p := ⟨g, 0, none⟩) n1 sv) (p := ⟨g, 1, none⟩) n1 pv) (p := ⟨g, 2, none⟩) n1 (.bool d.off)) (p := ⟨g, 3, none⟩) n1 (.int .i64 d.fuse)
  have o2 := own_far (own_far (own_far (own_far h2 (p := ⟨g, 0, none⟩) n2 sv) (p := ⟨g, 1, none⟩) n2 pv) (p := ⟨g, 2, none⟩) n2 (.bool d.off)) (p := ⟨g, 3, none⟩) n2 (.int .i64 d.fuse)
  obtain ⟨A1, c1, e1, _, _, t1, _⟩ := Lies.of_own o1
  obtain ⟨A2, c2, e2, _, _, t2, _⟩ := Lies.of_own o2
  refine ⟨⟨A1, c1, A2, c2, by rw [e1, e2], t1, t2, hl1, hl2, hf1, hf2⟩, ?_⟩
  exact (((hb.setCell (p := ⟨g, 0, none⟩) hg _).setCell (p := ⟨g, 1, none⟩) hg _).setCell (p := ⟨g, 2, none⟩) hg _).setCell (p := ⟨g, 3, none⟩) hg _
theorem workD_out {d d1 : Dk} {fin : Dk → Dk} (h1 : d.off = false) (h2 : d1.fuse = 0) : workD 0 d d1 fin = { d1 with off := true } := by simp [workD, h1, h2]
theorem workD_burn {d d1 : Dk} {fin : Dk → Dk} (h1 : d.off = false) (h2 : d1.fuse ≠ 0) : workD 0 d d1 fin = fin (burn d1) := by simp [workD, h1, h2]
theorem burn_pos {S : List ByteArray} {P : List Wr} {off : Bool} {f : Int} (h : 0 < f) : burn ⟨S, P, off, f⟩ = ⟨S, P, off, f - 1⟩ := by simp [burn, h]
theorem burn_neg {S : List ByteArray} {P : List Wr} {off : Bool} {f : Int} (h : ¬ 0 < f) : burn ⟨S, P, off, f⟩ = ⟨S, P, off, f⟩ := by simp [burn, h]
theorem work_off {d d1 : Dk} {fin : Dk → Dk} {ref : Int} (h : d.off = true) : workD ref d d1 fin = d ∧ workE ref d = 15 := by simp [workD, workE, h]
theorem work_ref {d d1 : Dk} {fin : Dk → Dk} {ref : Int} (h : d.off = false) (hr : ref ≠ 0) : workD ref d d1 fin = d ∧ workE ref d = ref := by simp [workD, workE, h, hr]
theorem work_out {d d1 : Dk} {fin : Dk → Dk} {ref : Int} (h : d.off = false) (hr : ref = 0) (h1 : d.fuse = 0) (h2 : d1.fuse = 0) : workD ref d d1 fin = { d1 with off := true } ∧ workE ref d = 15 := by simp [workD, workE, h, hr, h1, h2]
theorem work_pos {S : List ByteArray} {P Q : List Wr} {f : Int} {fin : Dk → Dk} {ref : Int} (hr : ref = 0) (hf : 0 < f) : workD ref ⟨S, P, false, f⟩ ⟨S, Q, false, f⟩ fin = fin ⟨S, Q, false, f - 1⟩ ∧ workE ref ⟨S, P, false, f⟩ = 0 := by
  have : f ≠ 0 := by omega
  simp [workD, workE, hr, burn, this, hf]
theorem work_neg {S : List ByteArray} {P Q : List Wr} {f : Int} {fin : Dk → Dk} {ref : Int} (hr : ref = 0) (hf : f < 0) : workD ref ⟨S, P, false, f⟩ ⟨S, Q, false, f⟩ fin = fin ⟨S, Q, false, f⟩ ∧ workE ref ⟨S, P, false, f⟩ = 0 := by
  have h1 : f ≠ 0 := by omega
  have h2 : ¬ 0 < f := by omega
  simp [workD, workE, hr, burn, h1, h2]
theorem dkRet_of {v : Value} {d D : Dk} {e E : Int} {w w' : World} (h : DkIs w' v d ∧ Below w.heap.size w w') (hD : D = d) (hE : E = e) : DkRet D E w (.returned (.tuple #[v, .int .i64 e])) w' := by
  subst hD
  subst hE
  exact ⟨v, rfl, h.1, h.2⟩
theorem right_in {d : Dk} (h : right d = true) : ∀ x ∈ d.pend, there d.secs x.sec = true := by
  intro x hx
  simp only [right, Bool.and_eq_true, Bool.not_eq_true'] at h
  have := List.any_eq_false.1 h.2 x hx
  simp only [wrongW, Bool.or_eq_true, Bool.not_eq_true', not_or, Bool.not_eq_false] at this
  exact this.1
end Go.Proofs.Ytpfbmmeipojodaa
end
section
/- The callback of sector.Crash. -/
namespace Go.Proofs.Ytpfbmmeipojodaa
open Go.RowKit
def bools (l : List Bool) : List Value := l.map Value.bool
/-- A slice of Booleans. -/
def Bools (w : World) (A : Option Addr) (l : List Bool) : Prop := Lies w A l.length 1 (bools l)
theorem Bools.at_ {w : World} {A : Option Addr} {l : List Bool} (h : Bools w A l) {k : Nat} (hk : k < l.length) : ∃ b o, A = some ⟨b, o, none⟩ ∧ w.cell? ⟨b, o + k, none⟩ = some (.bool l[k]) := by
  obtain ⟨b, o, e, hc⟩ := h.2 (by intro h0; have h1 := congrArg List.length h0; simp [bools] at h1; rw [h1] at hk; simp at hk)
  exact ⟨b, o, e, hc k _ (by simp [bools, hk])⟩
def mayOf (l : List Bool) (i : Nat) : Bool := l.getD i false
set_option maxHeartbeats 400000 in
theorem keep_w (K : Nat) (A : Option Addr) (c : Nat) (l : List Bool) (i : Nat) (w : World) (hK : w.cell? ⟨K, 0, none⟩ = some (.slice A l.length c)) (hl : Bools w A l) :
    Calls Try.prog 31 #[.int .i64 i, .pointer (some ⟨K, 0, none⟩)] w fun e w' => e = .returned (.bool (mayOf l i)) ∧ Below w.heap.size w w' := by
  by_cases h : i < l.length
  · obtain ⟨b, o, rfl, hc⟩ := hl.at_ h
    have e : mayOf l i = l[i] := by simp [mayOf, List.getD, h]
    rw [e]
    go_enter Try.func31, Try.ntmps31
    go_wp2
    go_ret
    exact ⟨rfl, Below.refl _ _⟩
  · have e : mayOf l i = false := by simp [mayOf, List.getD, List.getElem?_eq_none (Nat.le_of_not_lt h)]
    rw [e]
    go_enter Try.func31, Try.ntmps31
    go_wp2
    go_ret
    exact ⟨rfl, Below.refl _ _⟩
end Go.Proofs.Ytpfbmmeipojodaa
end
section
/- What the calls of package sector come to, in Lean. -/
namespace Go.Proofs.Ytpfbmmeipojodaa
open Go.RowKit
theorem two_blk (w : World) (v1 v2 : List Value) (t1 t2 : TypeId) :
    Below w.heap.size w ((w.alloc (.cells v1.toArray t1)).alloc (.cells v2.toArray t2)) ∧ Blk ((w.alloc (.cells v1.toArray t1)).alloc (.cells v2.toArray t2)) w.heap.size v1 t1 ∧ Blk ((w.alloc (.cells v1.toArray t1)).alloc (.cells v2.toArray t2)) (w.heap.size + 1) v2 t2 := by
  have b1 := Blk.new w v1 t1
  have b2 := Blk.new (w.alloc (.cells v1.toArray t1)) v2 t2
  rw [show (w.alloc (.cells v1.toArray t1)).heap.size = w.heap.size + 1 by simp] at b2
  exact ⟨bt (below_alloc _ _) (below_alloc _ _), b1.alloc _, b2⟩
def putD (d : Dk) (n : Int) (data : ByteArray) : Dk := if right d = true then workD (refE d n data) d { d with pend := d.pend ++ [⟨n, data⟩] } id else dk0
def putE (d : Dk) (n : Int) (data : ByteArray) : Int := if right d = true then workE (refE d n data) d else 13
def syncD (d : Dk) : Dk := if right d = true then workD 0 d d (settled fun _ => true) else dk0
def syncE (d : Dk) : Int := if right d = true then workE 0 d else 13
/-- What a crash leaves. -/
def crashD (d : Dk) (keep : List Bool) : Dk := if right d = true then ⟨stl (mayOf keep) 0 d.pend d.secs, [], false, -1⟩ else dk0
end Go.Proofs.Ytpfbmmeipojodaa
end
section
/- Steps on a disk, one by one, till one fails; the steps that lay a frame's sectors. -/
namespace Go.Proofs.Ytpfbmmeipojodaa
open Go.RowKit
inductive Stp where
  | put (n : Nat) (data : ByteArray)
  | sync
def stD (d : Dk) : Stp → Dk
  | .put n x => putD d (n : Int) x
  | .sync => syncD d
def stE (d : Dk) : Stp → Int
  | .put n x => putE d (n : Int) x
  | .sync => syncE d
def runD : Dk → List Stp → Dk
  | d, [] => d
  | d, s :: l => if stE d s = 0 then runD (stD d s) l else stD d s
def runE : Dk → List Stp → Int
  | _, [] => 0
  | d, s :: l => if stE d s = 0 then runE (stD d s) l else stE d s
theorem run_ok {d : Dk} {s : Stp} {l : List Stp} (h : stE d s = 0) : runD d (s :: l) = runD (stD d s) l ∧ runE d (s :: l) = runE (stD d s) l := by simp [runD, runE, h]
theorem run_no {d : Dk} {s : Stp} {l : List Stp} (h : stE d s ≠ 0) : runD d (s :: l) = stD d s ∧ runE d (s :: l) = stE d s := by simp [runD, runE, h]
/-- The steps that lay sectors: the pieces, a sync, the head, a sync. -/
def putsSt (a : Nat) (l : List ByteArray) : List Stp := (List.range (l.length - 1)).map fun i => .put (a + (i + 1)) (l.getD (i + 1) ⟨#[]⟩)
def lastSt (a : Nat) (l : List ByteArray) : List Stp := [.sync, .put a (l.getD 0 ⟨#[]⟩), .sync]
def laySt (a : Nat) (l : List ByteArray) : List Stp := putsSt a l ++ lastSt a l
def layD (d : Dk) (a : Nat) (l : List ByteArray) : Dk := runD d (laySt a l)
def layE (d : Dk) (a : Nat) (l : List ByteArray) : Int := runE d (laySt a l)
theorem putsSt_length (a : Nat) (l : List ByteArray) : (putsSt a l).length = l.length - 1 := by simp [putsSt]
theorem lay_drop (a : Nat) (l : List ByteArray) (k : Nat) (hk : k + 1 < l.length) : (laySt a l).drop k = .put (a + (k + 1)) (l.getD (k + 1) ⟨#[]⟩) :: (laySt a l).drop (k + 1) := by
  have h : k < (laySt a l).length := by simp [laySt, putsSt_length]; omega
  rw [List.drop_eq_getElem_cons h]
  congr 1
  simp only [laySt]
  rw [List.getElem_append_left (by rw [putsSt_length]; omega)]
  simp [putsSt]
theorem lay_last (a : Nat) (l : List ByteArray) : (laySt a l).drop (l.length - 1) = lastSt a l := by
  rw [laySt, ← putsSt_length a l, List.drop_left]
end Go.Proofs.Ytpfbmmeipojodaa
end
