/- What the calls of package sector come to, in Lean. -/
import Derived.Test.YtcnhdmchoiiceaaSecWork
import Derived.Test.YtcnhdmchoiiceaaSecCrash0
namespace Go.Proofs.Ytcnhdmchoiiceaa
open Go.RowKit
theorem two_blk (w : World) (v1 v2 : List Value) (t1 t2 : TypeId) :
    Below w.heap.size w ((w.alloc (.cells v1.toArray t1)).alloc (.cells v2.toArray t2)) ∧ Blk ((w.alloc (.cells v1.toArray t1)).alloc (.cells v2.toArray t2)) w.heap.size v1 t1 ∧ Blk ((w.alloc (.cells v1.toArray t1)).alloc (.cells v2.toArray t2)) (w.heap.size + 1) v2 t2 := by
  have b1 := Blk.new w v1 t1
  have b2 := Blk.new (w.alloc (.cells v1.toArray t1)) v2 t2
  rw [show (w.alloc (.cells v1.toArray t1)).heap.size = w.heap.size + 1 by simp] at b2
  exact ⟨bt (below_alloc _ _) (below_alloc _ _), b1.alloc _, b2⟩
def putD (d : Dk) (n : Int) (data : ByteArray) : Dk := if right d = true then workD (refE d n data) d { d with pend := d.pend ++ [⟨n, data⟩] } id else dk0
def putE (d : Dk) (n : Int) (data : ByteArray) : Int := if right d = true then workE (refE d n data) d else 13
def syncD (d : Dk) : Dk := if right d = true then workD 0 d d (settled fun _ => true) else dk0
def syncE (d : Dk) : Int := if right d = true then workE 0 d else 13
/-- What a crash leaves. -/
def crashD (d : Dk) (keep : List Bool) : Dk := if right d = true then ⟨stl (mayOf keep) 0 d.pend d.secs, [], false, -1⟩ else dk0
end Go.Proofs.Ytcnhdmchoiiceaa
