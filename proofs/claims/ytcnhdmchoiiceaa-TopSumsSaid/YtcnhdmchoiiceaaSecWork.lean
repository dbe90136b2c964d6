/- A disk at work, up to the drive that it lies in. -/
import Derived.Test.YtcnhdmchoiiceaaSecSync
import Derived.Deep.Onto
namespace Go.Proofs.Ytcnhdmchoiiceaa
open Go.RowKit
theorem Blk.drew {w : World} {g : Nat} {vs : List Value} {t : TypeId} (h : Blk w g vs t) : Blk w.drew g vs t := h
theorem Blk.belowAt {B : Nat} {w w' : World} {g : Nat} {vs : List Value} {t : TypeId} (h : Blk w g vs t) (hb : Below B w w') (hg : g < B) : Blk w' g vs t := (hb.block g hg).trans h
/-- Both clones made, and laid into the asker's copy. -/
theorem front_end {N M : Nat} {w u w2 w3 : World} {B2 B3 : Option Addr} {d2 d3 : Nat} {v1 v2 v3 v4 : Value} {l : List Value} {d : Dk} (hM : u.heap.size = M) (hb : Below N w u) (q1 : Blk u N [v1, v2, v3, v4] 25) (q2 : Blk u (N + 1) l 25)
    (ho2 : w2.ownsRow u.heap.size 9 1 (.slice B2 d.secs.length d2) d.secs.length (strs d.secs)) (hb2 : Below u.heap.size u w2)
    (ho3 : w3.ownsRow w2.heap.size 43 2 (.slice B3 d.pend.length d3) d.pend.length (wrs d.pend)) (hb3 : Below w2.heap.size w2 w3) :
    Blk ((w3.setCell ⟨N, 0, none⟩ (.slice B2 d.secs.length d2)).setCell ⟨N, 1, none⟩ (.slice B3 d.pend.length d3)) N [.slice B2 d.secs.length d2, .slice B3 d.pend.length d3, v3, v4] 25 ∧
    Blk ((w3.setCell ⟨N, 0, none⟩ (.slice B2 d.secs.length d2)).setCell ⟨N, 1, none⟩ (.slice B3 d.pend.length d3)) (N + 1) l 25 ∧
    ((w3.setCell ⟨N, 0, none⟩ (.slice B2 d.secs.length d2)).setCell ⟨N, 1, none⟩ (.slice B3 d.pend.length d3)).ownsRow M 9 1 (.slice B2 d.secs.length d2) d.secs.length (strs d.secs) ∧
    ((w3.setCell ⟨N, 0, none⟩ (.slice B2 d.secs.length d2)).setCell ⟨N, 1, none⟩ (.slice B3 d.pend.length d3)).ownsRow M 43 2 (.slice B3 d.pend.length d3) d.pend.length (wrs d.pend) ∧
    Below N w ((w3.setCell ⟨N, 0, none⟩ (.slice B2 d.secs.length d2)).setCell ⟨N, 1, none⟩ (.slice B3 d.pend.length d3)) ∧ N + 1 < M ∧
    M ≤ ((w3.setCell ⟨N, 0, none⟩ (.slice B2 d.secs.length d2)).setCell ⟨N, 1, none⟩ (.slice B3 d.pend.length d3)).heap.size := by
  subst hM
  have hN : N ≤ u.heap.size := Nat.le_of_lt q1.lt
  have hN2 : N ≤ w2.heap.size := Nat.le_trans hN hb2.size
  have k1 := (q1.below hb2).below hb3
  have k2 := (q2.below hb2).below hb3
  have o2 := own_below ho2 hb3
  have o3 := World.ownsRow.mono ho3 hb2.size
  have hbw : Below N w w3 := (hb.trans (hb2.mono hN)).trans (hb3.mono hN2)
  have n2 := own_blk_ne o2 k1 (by decide)
  have n3 := own_blk_ne o3 k1 (by decide)
  refine ⟨(k1.set 0 _).set 1 _, (k2.far (p := ⟨N, 0, none⟩) (by simp) _).far (p := ⟨N, 1, none⟩) (by simp) _, own_far (own_far o2 (p := ⟨N, 0, none⟩) n2 _) (p := ⟨N, 1, none⟩) n2 _, own_far (own_far o3 (p := ⟨N, 0, none⟩) n3 _) (p := ⟨N, 1, none⟩) n3 _,
    (hbw.setCell (p := ⟨N, 0, none⟩) (Nat.le_refl _) _).setCell (p := ⟨N, 1, none⟩) (Nat.le_refl _) _, q2.lt, ?_⟩
  simpa using Nat.le_trans hb2.size hb3.size
theorem At.setOff {W : World} {N X : Nat} {sv pv : Value} {d : Dk} (h : At W N X sv pv d) (b : Bool) : At (W.setCell ⟨X, 2, none⟩ (.bool b)) N X sv pv { d with off := b } :=
  ⟨h.blk.set 2 _, own_far h.own (p := ⟨X, 2, none⟩) (own_blk_ne h.own h.blk (by decide)) _, h.low⟩
theorem At.setFuse {W : World} {N X : Nat} {sv pv : Value} {d : Dk} (h : At W N X sv pv d) (f : Int) : At (W.setCell ⟨X, 3, none⟩ (.int .i64 f)) N X sv pv { d with fuse := f } :=
  ⟨h.blk.set 3 _, own_far h.own (p := ⟨X, 3, none⟩) (own_blk_ne h.own h.blk (by decide)) _, h.low⟩
/-- A disk whose fuse burns. -/
def burn (d : Dk) : Dk := { d with fuse := if 0 < d.fuse then d.fuse - 1 else d.fuse }
def workD (ref : Int) (d d1 : Dk) (fin : Dk → Dk) : Dk := if d.off = true then d else if ref ≠ 0 then d else if d1.fuse = 0 then { d1 with off := true } else fin (burn d1)
def workE (ref : Int) (d : Dk) : Int := if d.off = true then 15 else if ref ≠ 0 then ref else if d.fuse = 0 then 15 else 0
/-- A drive's disk, put into the answer's own block. -/
theorem ret_end {N M X g : Nat} {w W : World} {sv pv : Value} {d : Dk} {l : List Value} (h1 : At W M X sv pv d) (h2 : W.ownsRow M 43 2 pv d.pend.length (wrs d.pend)) (hR : Blk W g l 25) (hb : Below N w W) (hg : N ≤ g)
    (hl1 : d.secs.length ≤ 140737488351232) (hl2 : d.pend.length ≤ 140737488351232) (hf1 : -9223372036854775808 ≤ d.fuse) (hf2 : d.fuse ≤ 9223372036854775807) :
    DkIs ((((W.setCell ⟨g, 0, none⟩ sv).setCell ⟨g, 1, none⟩ pv).setCell ⟨g, 2, none⟩ (.bool d.off)).setCell ⟨g, 3, none⟩ (.int .i64 d.fuse)) (.agg #[sv, pv, .bool d.off, .int .i64 d.fuse]) d ∧
    Below N w ((((W.setCell ⟨g, 0, none⟩ sv).setCell ⟨g, 1, none⟩ pv).setCell ⟨g, 2, none⟩ (.bool d.off)).setCell ⟨g, 3, none⟩ (.int .i64 d.fuse)) := by
  have n1 := own_blk_ne h1.own hR (by decide)
  have n2 := own_blk_ne h2 hR (by decide)
  have o1 := own_far (own_far (own_far (own_far h1.own (p := ⟨g, 0, none⟩) n1 sv) (p := ⟨g, 1, none⟩) n1 pv) (p := ⟨g, 2, none⟩) n1 (.bool d.off)) (p := ⟨g, 3, none⟩) n1 (.int .i64 d.fuse)
  have o2 := own_far (own_far (own_far (own_far h2 (p := ⟨g, 0, none⟩) n2 sv) (p := ⟨g, 1, none⟩) n2 pv) (p := ⟨g, 2, none⟩) n2 (.bool d.off)) (p := ⟨g, 3, none⟩) n2 (.int .i64 d.fuse)
  obtain ⟨A1, c1, e1, _, _, t1, _⟩ := Lies.of_own o1
  obtain ⟨A2, c2, e2, _, _, t2, _⟩ := Lies.of_own o2
  refine ⟨⟨A1, c1, A2, c2, by rw [e1, e2], t1, t2, hl1, hl2, hf1, hf2⟩, ?_⟩
  exact (((hb.setCell (p := ⟨g, 0, none⟩) hg _).setCell (p := ⟨g, 1, none⟩) hg _).setCell (p := ⟨g, 2, none⟩) hg _).setCell (p := ⟨g, 3, none⟩) hg _
theorem workD_out {d d1 : Dk} {fin : Dk → Dk} (h1 : d.off = false) (h2 : d1.fuse = 0) : workD 0 d d1 fin = { d1 with off := true } := by simp [workD, h1, h2]
theorem workD_burn {d d1 : Dk} {fin : Dk → Dk} (h1 : d.off = false) (h2 : d1.fuse ≠ 0) : workD 0 d d1 fin = fin (burn d1) := by simp [workD, h1, h2]
theorem burn_pos {S : List ByteArray} {P : List Wr} {off : Bool} {f : Int} (h : 0 < f) : burn ⟨S, P, off, f⟩ = ⟨S, P, off, f - 1⟩ := by simp [burn, h]
theorem burn_neg {S : List ByteArray} {P : List Wr} {off : Bool} {f : Int} (h : ¬ 0 < f) : burn ⟨S, P, off, f⟩ = ⟨S, P, off, f⟩ := by simp [burn, h]
theorem work_off {d d1 : Dk} {fin : Dk → Dk} {ref : Int} (h : d.off = true) : workD ref d d1 fin = d ∧ workE ref d = 15 := by simp [workD, workE, h]
theorem work_ref {d d1 : Dk} {fin : Dk → Dk} {ref : Int} (h : d.off = false) (hr : ref ≠ 0) : workD ref d d1 fin = d ∧ workE ref d = ref := by simp [workD, workE, h, hr]
theorem work_out {d d1 : Dk} {fin : Dk → Dk} {ref : Int} (h : d.off = false) (hr : ref = 0) (h1 : d.fuse = 0) (h2 : d1.fuse = 0) : workD ref d d1 fin = { d1 with off := true } ∧ workE ref d = 15 := by simp [workD, workE, h, hr, h1, h2]
theorem work_pos {S : List ByteArray} {P Q : List Wr} {f : Int} {fin : Dk → Dk} {ref : Int} (hr : ref = 0) (hf : 0 < f) : workD ref ⟨S, P, false, f⟩ ⟨S, Q, false, f⟩ fin = fin ⟨S, Q, false, f - 1⟩ ∧ workE ref ⟨S, P, false, f⟩ = 0 := by
  have : f ≠ 0 := by omega
  simp [workD, workE, hr, burn, this, hf]
theorem work_neg {S : List ByteArray} {P Q : List Wr} {f : Int} {fin : Dk → Dk} {ref : Int} (hr : ref = 0) (hf : f < 0) : workD ref ⟨S, P, false, f⟩ ⟨S, Q, false, f⟩ fin = fin ⟨S, Q, false, f⟩ ∧ workE ref ⟨S, P, false, f⟩ = 0 := by
  have h1 : f ≠ 0 := by omega
  have h2 : ¬ 0 < f := by omega
  simp [workD, workE, hr, burn, h1, h2]
theorem dkRet_of {v : Value} {d D : Dk} {e E : Int} {w w' : World} (h : DkIs w' v d ∧ Below w.heap.size w w') (hD : D = d) (hE : E = e) : DkRet D E w (.returned (.tuple #[v, .int .i64 e])) w' := by
  subst hD
  subst hE
  exact ⟨v, rfl, h.1, h.2⟩
theorem right_in {d : Dk} (h : right d = true) : ∀ x ∈ d.pend, there d.secs x.sec = true := by
  intro x hx
  simp only [right, Bool.and_eq_true, Bool.not_eq_true'] at h
  have := List.any_eq_false.1 h.2 x hx
  simp only [wrongW, Bool.or_eq_true, Bool.not_eq_true', not_or, Bool.not_eq_false] at this
  exact this.1
end Go.Proofs.Ytcnhdmchoiiceaa
