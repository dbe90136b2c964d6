/- sector.Put. -/
import Derived.Test.YtpfbmmeipojodaaGJ
import Derived.Test.YtpfbmmeipojodaaSecWorkPut
namespace Go.Proofs.Ytpfbmmeipojodaa
open Go.RowKit
theorem work_put_any (A1 A2 : Option Addr) (c1 c2 : Nat) (d : Dk) (n : Int) (data : ByteArray) (w : World) (h1 : Texts w A1 d.secs) (h2 : Writes w A2 d.pend) (hl1 : d.secs.length ≤ 140737488351232) (hl2 : d.pend.length ≤ 140737488351232) (hf1 : -9223372036854775808 ≤ d.fuse) (hf2 : d.fuse ≤ 9223372036854775807) :
    Calls Try.prog 79 #[.agg #[.slice A1 d.secs.length c1, .slice A2 d.pend.length c2, .bool d.off, .int .i64 d.fuse], .func (.func 80) #[.agg #[.int .i64 n, .string data]] #[], .func (.func 81) #[.agg #[.int .i64 n, .string data]] #[], .func (.func 82) #[] #[]] w (DkRet (putD d n data) (putE d n data) w) := by
  cases hr : right d
  · have e1 : putE d n data = 13 := by simp [putE, hr]
    have e2 : putD d n data = dk0 := by simp [putD, hr]
    rw [e1, e2]
    exact work_no A1 A2 c1 c2 d _ _ _ w h1 h2 hl1 hl2 hr
  · have e1 : putE d n data = workE (refE d n data) d := by simp [putE, hr]
    have e2 : putD d n data = workD (refE d n data) d { d with pend := d.pend ++ [⟨n, data⟩] } id := by simp [putD, hr]
    rw [e1, e2]
    exact work_put_w A1 A2 c1 c2 d n data w h1 h2 hr hf1 hf2
set_option maxRecDepth 100000 in
set_option maxHeartbeats 4000000 in
theorem put_w (v : Value) (d : Dk) (n : Int) (data : ByteArray) (w : World) (hv : DkIs w v d) : Calls Try.prog 48 #[v, .int .i64 n, .string data] w (DkRet (putD d n data) (putE d n data) w) := by
  obtain ⟨A1, c1, A2, c2, rfl, h1, h2, hl1, hl2, hf1, hf2⟩ := hv
  have hmf : ∀ fn first cap w, (Instr.makeFunc fn first cap).run Try.prog w = .ok (.func fn first cap) w := fun _ _ _ _ => rfl
  obtain ⟨b0, k1, k2, k3⟩ := three_blk w [.slice A1 d.secs.length c1, .slice A2 d.pend.length c2, .bool d.off, .int .i64 d.fuse] [.slice none 0 0, .slice none 0 0, .bool false, .int .i64 0] [.int .i64 n, .string data] 28 28 133
  have s0 := k3.cell 0
  have s1 := k3.cell 1
  have s2 := k1.cell 0
  have s3 := k1.cell 1
  have s4 := k1.cell 2
  have s5 := k1.cell 3
  go_enter Try.func48, Try.ntmps48
  go_wp2_with fail
  refine (work_put_any A1 A2 c1 c2 d n data _ (h1.below b0) (h2.below b0) hl1 hl2 hf1 hf2).mono ?_
  obtain ⟨D, HD⟩ := named (putD d n data)
  obtain ⟨E, HE⟩ := named (putE d n data)
  rw [← HD.out, ← HE.out]
  rintro e w1 ⟨v1, rfl, ⟨B1, e1, B2, e2, rfl, t1, t2, m1, m2, g1, g2⟩, hb⟩
  have p3 := k2.below hb
  have hbw := bt b0 hb
  have r0 := p3.cell 0
  have r1 := p3.cell 1
  have r2 := p3.cell 2
  have r3 := p3.cell 3
  have z0 := p3.free 0
  have z1 := p3.free 1
  have z2 := p3.free 2
  have z3 := p3.free 3
  clear k1 k2 k3 b0 hb s0 s1 s2 s3 s4 s5
  go_wp2_with fail
  refine bodyPost_ret (v := .tuple #[.agg #[.slice B1 D.secs.length e1, .slice B2 D.pend.length e2, .bool D.off, .int .i64 D.fuse], .int .i64 E]) (by simp [results, Try.results48, go_sem, r0, r1, r2, r3]) rfl ?_
  exact dkRet_of (hand_on t1 t2 m1 m2 g1 g2 p3 hbw (by omega)) HD.out.symm HE.out.symm
end Go.Proofs.Ytpfbmmeipojodaa
