/- sector.Read, whole; by a disk's value. -/
import Derived.Test.YtcnhdmchoiiceaaSecRead2
namespace Go.Proofs.Ytcnhdmchoiiceaa
open Go.RowKit
/-- sector.Read, whatever the disk is. -/
theorem read_w (v : Value) (d : Dk) (n : Int) (w : World) (hv : DkIs w v d) : Calls Try.prog 18 #[v, .int .i64 n] w (ReadRet (readS d n) (readE d n) w) := by
  obtain ⟨A1, c1, A2, c2, rfl, h1, h2, hl1, hl2, _, _⟩ := hv
  cases hr : right d
  · have e1 : readE d n = 13 := by simp [readE, hr]
    have e2 : readS d n = ⟨#[]⟩ := by simp [readS, e1]
    rw [e1, e2]
    exact read_wrong A1 A2 c1 c2 d n w h1 h2 hl1 hl2 hr
  · cases ho : d.off
    · cases ht : there d.secs n
      · have e1 : readE d n = 1 := by simp [readE, hr, ho, ht]
        have e2 : readS d n = ⟨#[]⟩ := by simp [readS, e1]
        rw [e1, e2, ← ho]
        exact read_range A1 A2 c1 c2 d n w h1 h2 hl1 hl2 hr ho ht
      · have e1 : readE d n = 0 := by simp [readE, hr, ho, ht]
        have e2 : readS d n = holdsOf d n := by simp [readS, e1]
        rw [e1, e2, ← ho]
        exact read_ok A1 A2 c1 c2 d n w h1 h2 hl1 hl2 hr ho ht
    · have e1 : readE d n = 15 := by simp [readE, hr, ho]
      have e2 : readS d n = ⟨#[]⟩ := by simp [readS, e1]
      rw [e1, e2, ← ho]
      exact read_off A1 A2 c1 c2 d n w h1 h2 hl1 hl2 hr ho
end Go.Proofs.Ytcnhdmchoiiceaa
