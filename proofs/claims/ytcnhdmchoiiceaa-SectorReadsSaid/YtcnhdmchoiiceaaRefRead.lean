/- The document's Read. -/
import Derived.Test.YtcnhdmchoiiceaaRefCheck
import Derived.Test.YtcnhdmchoiiceaaRefHolds
import Derived.Test.YtcnhdmchoiiceaaSecRead
namespace Go.Proofs.Ytcnhdmchoiiceaa
open Go.RowKit
set_option maxRecDepth 100000 in
set_option maxHeartbeats 2000000 in
theorem refRead_w (v : Value) (d : Dk) (n : Int) (w : World) (hv : DkIs w v d) : Calls Try.prog 19 #[v, .int .i64 n] w (ReadRet (readS d n) (readE d n) w) := by
  have hv0 := hv
  obtain ⟨A1, c1, A2, c2, rfl, h1, h2, hl1, hl2, _, _⟩ := hv
  have k1 := Blk.new w [.slice A1 d.secs.length c1, .slice A2 d.pend.length c2, .bool d.off, .int .i64 d.fuse] 25
  have b0 := below_alloc w (.cells #[.slice A1 d.secs.length c1, .slice A2 d.pend.length c2, .bool d.off, .int .i64 d.fuse] 25)
  obtain ⟨S, HS⟩ := named (readS d n)
  obtain ⟨E, HE⟩ := named (readE d n)
  rw [← HS.out, ← HE.out]
  go_enter Try.func19, Try.ntmps19
  go_wp2_with fail
  refine (refCheck_w _ d _ (hv0.below b0)).mono ?_
  cases hr : right d
  · have hE := hide (show checkE d = 13 by simp [checkE, hr])
    have H1 := hide (show readE d n = 13 by simp [readE, hr])
    rw [hE.out]
    rintro e w1 ⟨rfl, hb⟩
    have hbw := bt b0 hb
    clear hr
    go_wp2_with fail
    refine bodyPost_ret (v := .tuple #[.string ⟨#[]⟩, .int .i64 13]) (by simp [results, Try.results19, go_sem]) rfl ?_
    refine ⟨?_, hbw⟩
    rw [HS.out, HE.out, H1.out]
    simp [readS, H1.out]
  · have hE := hide (show checkE d = 0 by simp [checkE, hr])
    rw [hE.out]
    rintro e w1 ⟨rfl, hb⟩
    have hbw := bt b0 hb
    have x0 := (k1.below hb).cell 0
    have x1 := (k1.below hb).cell 1
    have x2 := (k1.below hb).cell 2
    have x3 := (k1.below hb).cell 3
    have Hr := hide hr
    clear hr
    cases ho : d.off
    · by_cases ht0 : n < 0
      · have H1 := hide (show readE d n = 1 by simp [readE, Hr.out, ho, there]; omega)
        rw [ho] at x2
        clear ho
        go_wp2_with fail
        refine bodyPost_ret (v := .tuple #[.string ⟨#[]⟩, .int .i64 1]) (by simp [results, Try.results19, go_sem]) rfl ?_
        refine ⟨?_, hbw⟩
        rw [HS.out, HE.out, H1.out]
        simp [readS, H1.out]
      · have ht0' : 0 ≤ n := by omega
        by_cases ht1 : n < d.secs.length
        · have ht : there d.secs n = true := by simp [there, ht0', ht1]
          have H1 := hide (show readE d n = 0 by simp [readE, Hr.out, ho, ht])
          have Ho := hide ho
          have Ht := hide ht
          rw [ho] at x2
          clear ho ht
          go_wp2_with fail
          rw [← Ho.out]
          refine (refHolds_w A1 A2 c1 c2 d n _ (h1.below hbw) (h2.below hbw) hl2 Ht.out).mono ?_
          rintro e w2 ⟨rfl, hb2⟩
          have hbw2 := bt hbw hb2
          go_wp2_with fail
          refine bodyPost_ret (v := .tuple #[.string (holdsOf d n), .int .i64 0]) (by simp [results, Try.results19, go_sem]) rfl ?_
          refine ⟨?_, hbw2⟩
          rw [HS.out, HE.out, H1.out]
          simp [readS, H1.out]
        · have ht1' : (d.secs.length : Int) ≤ n := by omega
          have H1 := hide (show readE d n = 1 by simp [readE, Hr.out, ho, there, ht1])
          rw [ho] at x2
          clear ho
          go_wp2_with fail
          refine bodyPost_ret (v := .tuple #[.string ⟨#[]⟩, .int .i64 1]) (by simp [results, Try.results19, go_sem]) rfl ?_
          refine ⟨?_, hbw⟩
          rw [HS.out, HE.out, H1.out]
          simp [readS, H1.out]
    · have H1 := hide (show readE d n = 15 by simp [readE, Hr.out, ho])
      rw [ho] at x2
      clear ho
      go_wp2_with fail
      refine bodyPost_ret (v := .tuple #[.string ⟨#[]⟩, .int .i64 15]) (by simp [results, Try.results19, go_sem]) rfl ?_
      refine ⟨?_, hbw⟩
      rw [HS.out, HE.out, H1.out]
      simp [readS, H1.out]
end Go.Proofs.Ytcnhdmchoiiceaa
