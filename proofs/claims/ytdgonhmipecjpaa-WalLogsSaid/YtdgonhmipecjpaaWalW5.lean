/- The walk of WalLogs. -/
import Derived.Test.YtdgonhmipecjpaaRowFr
import Derived.Test.YtdgonhmipecjpaaWalAppend
import Derived.Test.YtdgonhmipecjpaaGL
import Derived.Test.YtdgonhmipecjpaaWalSame
import Derived.Deep.DeepCutAuto
import Derived.Deep.CutBlock
import Derived.Test.YtdgonhmipecjpaaFlat4
import Derived.Test.YtdgonhmipecjpaaWalLives
namespace Go.Proofs.Ytdgonhmipecjpaa
set_option linter.unusedSimpArgs false
set_option linter.unusedVariables false
open Go.RowKit Go.Shelf
open Crc
def relT (l : List ((Nat → Bool) → Value → World → Prop)) (L : Nat → Bool) (j : Nat) : Value → World → Prop := (l.getD j (fun _ _ _ => True)) L
theorem frame_zero' : ∀ u ∈ (Value.agg #[.int .u8 0, .int .u64 0, .int .u64 0, .string ⟨#[]⟩]).cells, ∀ s, u = Value.string s → s.size = 0 := by
  intro u hu s e
  subst e
  simp [Value.cells] at hu
  subst hu
  rfl
theorem frs_more' (want : List Fr) (ep : Nat) (p : ByteArray) : frs want ++ [.int .u8 1, .int .u64 (ep : Int), .int .u64 (want.length : Int), .string p] = frs (want ++ [⟨1, ep, want.length, p.data.toList⟩]) := by
  rw [frs_append]
  simp [frs, frCells, str_of]
theorem Row0.keepBox {u u' : World} {N base n : Nat} {v : Value} {xs : List Value} (h : Row0 u base 24 4 v n xs) (hk : KeepBox N u u') : Row0 u' base 24 4 v n xs := by
  rcases hk with hb | ⟨A1, n1, c1, A2, n2, c2, o, f, a, b, c, e, hB, rfl⟩
  · exact h.below hb
  · exact h.far4 hB _ _ _ _
theorem Blk.keepBoxT {u u' : World} {N g : Nat} {vs : List Value} (h : Blk u g vs 24) (hk : KeepBox N u u') : Blk u' g vs 24 := by
  rcases hk with hb | ⟨A1, n1, c1, A2, n2, c2, o, f, a, b, c, e, hB, rfl⟩
  · exact h.below hb
  · refine h.far4 (fun e9 => ?_) _ _ _ _
    subst e9
    have h1 : u.heap[g]? = _ := h
    have h2 : u.heap[g]? = _ := hB
    rw [h1] at h2
    injection h2 with h2
    injection h2 with _ h3
    exact absurd h3 (by decide)
theorem BoxAt.stays {N : Nat} {dk D : Dk} {B1 B2 : Option Addr} {e1 e2 base n : Nat} {b : Bool} {u u' : World} {v : Value} {xs : List Value} (h : BoxAt N dk D B1 e1 B2 e2 b u) (r1 : right dk = true) (p1 : dk.pend = []) (r2 : right D = true) (p2 : D.pend = []) (ho : Row0 u base 24 4 v n xs) (hg : u.grownBy u' v.ownBlock) (hs : Stays u u') : BoxAt N dk D B1 e1 B2 e2 b u' :=
  ⟨fun e => (h.1 e).stays r1 p1 ho hg hs, fun e => let ⟨P1, q1, P2, q2, hB⟩ := h.2 e; ⟨P1, q1, P2, q2, hB.stays r2 p2 ho hg hs⟩⟩
theorem step_append_row0 {P : Program} (w : World) {ops : Array Oper} {o : Oper} {a : Act} {K : Act → World → Prop} {Q : Exit → Act → World → Prop} {E : Prop} (hgd : o.guard = none) (s x : Operand) (t : TypeId)
    (ho : o.op = .call { callee := .builtin .append, args := #[s, x], argTypes := #[t, t] })
    (base : Nat) (e : TypeId) (i : TypeInfo) (z : Value) (size bytes : Nat) (ht : P.underlying t = some (.slice e)) (hi : P.info? e = some i) (hz : i.zero = some z)
    (hsize : i.size = size) (hby : i.bytes = bytes) (hzs : z.cells.size = size) (hsz : 0 < size) (hz0 : ∀ u ∈ z.cells, ∀ s, u = Value.string s → s.size = 0)
    (v : Value) (n : Nat) (xs : List Value) (hs : a.eval s = v) (hown : Row0 w base e size v n xs)
    (ad : Addr) (m c : Nat) (news : List Value) (hx : a.eval x = .slice (some ad) m c) (hl : news.length = m * size) (hnews : ∀ j u, news[j]? = some u → w.cell? (ad.add j) = some u) (h1 : ∀ u ∈ news, u.oneCell' = true)
    (hm : 0 < m) (h63 : n + m ≤ maxLen) (hbytes : (n + m) * bytes ≤ 140737488355328) (hbase : base ≤ w.heap.size)
    (h : ∀ g cap w', Row0 w' base e size (.slice (some ⟨g, 0, none⟩) (n + m) cap) (n + m) (xs ++ news) → w.grownBy w' v.ownBlock → Stays w w' → K (a.put o.dst (.slice (some ⟨g, 0, none⟩) (n + m) cap)) w') :
    if Region.wanted o (yielded ops a.tmps) = true then Oper.wp P o a w K Q else E := by
  have hw : Region.wanted o (yielded ops a.tmps) = true := by simp [Region.wanted, hgd]
  rw [if_pos hw]
  exact wp_append_row0 w s x t ho base e i z size bytes ht hi hz hsize hby hzs hsz hz0 v n xs hs hown ad m c news hx hl hnews h1 hm h63 hbytes hbase h
theorem news_blk {w : World} {g : Nat} {vs : List Value} {t : TypeId} (h : Blk w g vs t) : ∀ j u, vs[j]? = some u → w.cell? ((⟨g, 0, none⟩ : Addr).add j) = some u := fun j u hu => by
  have := h.cell j
  rw [addr_add, Nat.zero_add, this]
  exact hu

set_option maxRecDepth 100000 in
set_option maxHeartbeats 2000000 in
theorem wallogs_w (size : Int) (A : Option Addr) (ca : Nat) (l : List ByteArray) (ep oe : Nat) (Ak : Option Addr) (ck : Nat) (keep : List Bool) (w : World) (hsz : -9223372036854775808 ≤ size ∧ size ≤ 9223372036854775807) (hl : Texts w A l) (hll : l.length ≤ 140737488351232)
    (hep : ep < 18446744073709551616) (hoe : oe < 18446744073709551616) (hk : Bools w Ak keep) :
    Calls Try.prog 14 #[.int .i64 size, .slice A l.length ca, .int .u64 (ep : Int), .int .u64 (oe : Int), .slice Ak keep.length ck] w fun e w' => e = .returned (.bool true) ∧ Below w.heap.size w w' := by
  have hnew := fun W => new_w size W hsz
  by_cases hn : 1 ≤ size ∧ size ≤ 1024
  case neg =>
    have e1 : newE size = 1 := by simp [newE, hn]
    obtain ⟨D0, H0⟩ := named (newD size)
    simp only [e1, ← H0.out] at hnew
    clear H0 e1
    go_enter Try.func14, Try.ntmps14
    go_wp2_with fail
    refine (lives4_w _).mono ?_
    rintro e w0 ⟨rfl, hb0⟩
    go_wp2_with fail
    refine (hnew _).mono ?_
    rintro e w1 ⟨v1, rfl, ⟨A1, c1, B1, e1, rfl, g1, g2, g3, g4, g5, g6⟩, hb1⟩
    have hb := bt (bt hb0 hb1) (below_alloc w1 (.cells #[.slice A1 D0.secs.length c1, .slice B1 D0.pend.length e1, .bool D0.off, .int .i64 D0.fuse] 49))
    clear g1 g2 g3 g4 g5 g6 hnew
    go_wp2
    go_ret
    exact ⟨by simp, hb⟩
  obtain ⟨n, rfl⟩ := Int.eq_ofNat_of_zero_le (show 0 ≤ size by omega)
  have hn1 : 1 ≤ n ∧ n ≤ 1024 := by omega
  have e1 : newE (n : Int) = 0 := by simp [newE, hn]
  have hL0 := new_log n ep hn1.1 hn1.2
  have hF0 := newD_fuse n hn1.1 hn1.2
  obtain ⟨D0, H0⟩ := named (newD (n : Int))
  rw [← H0.out] at hL0 hF0
  simp only [e1, ← H0.out] at hnew
  clear H0 e1 hn hsz
  have hscan : ∀ (o : Nat), o < 18446744073709551616 → ∀ (W : World) (v : Value) (D : Dk) (want : List Fr) (b : Nat), right D = true → D.off = false → D.secs.length = n → logOf D 0 n o = (want, b) → DkIs W v D → Calls Try.prog 30 #[v, .agg #[.int .i64 0, .int .i64 (n : Int)], .int .u64 (o : Int)] W fun e w' => (∃ A c, e = .returned (.tuple #[.slice A want.length c, .int .i64 (b : Int), .int .i64 0]) ∧ Frames w' A want) ∧ Below W.heap.size W w' := fun o ho W v D want b h1 h2 h3 hlog hv => by
    have h := scan_yes v D 0 n o W hv h1 h2 hn1.1 (by rw [h3]; omega) ho
    rw [hlog] at h
    exact h
  have HS := hide hscan
  have HL0 := hide (And.intro hL0 hF0)
  clear hscan hL0 hF0
  obtain ⟨j0, hj, hy0, hy1, hy2⟩ := info_parts Try.info24
  go_enter Try.func14, Try.ntmps14
  go_wp2_with fail
  refine (lives4_w _).mono ?_
  rintro e w0 ⟨rfl, hb0⟩
  go_wp2_with fail
  refine (hnew _).mono ?_
  rintro e w1 ⟨v1, rfl, ⟨A1, c1, B1, e1, rfl, g1, g2, g3, g4, g5, g6⟩, hb1⟩
  have Bd := Box.new w1 ⟨A1, c1, B1, e1, rfl, g1, g2, g3, g4, g5, g6⟩
  have hN : w.heap.size ≤ w1.heap.size := Nat.le_trans hb0.size hb1.size
  have hb := bt (bt hb0 hb1) (below_alloc w1 (.cells #[.slice A1 D0.secs.length c1, .slice B1 D0.pend.length e1, .bool D0.off, .int .i64 D0.fuse] 49))
  have kr := Blk.new (w1.alloc (.cells #[.slice A1 D0.secs.length c1, .slice B1 D0.pend.length e1, .bool D0.off, .int .i64 D0.fuse] 49)) [.int .i64 0, .int .i64 (n : Int)] 53
  rw [show (w1.alloc (.cells #[.slice A1 D0.secs.length c1, .slice B1 D0.pend.length e1, .bool D0.off, .int .i64 D0.fuse] 49)).heap.size = w1.heap.size + 1 by simp] at kr
  replace Bd := Bd.alloc (.cells #[.int .i64 0, .int .i64 (n : Int)] 53)
  replace hb := bt hb (below_alloc _ (.cells #[.int .i64 0, .int .i64 (n : Int)] 53))
  clear hnew hb0 hb1 g1 g2 g3 g4 g5 g6
  go_upto_region 9 with fail
  obtain ⟨N, HN⟩ := named w1.heap.size
  obtain ⟨W1, HW1⟩ := named ((w1.alloc (.cells #[.slice A1 D0.secs.length c1, .slice B1 D0.pend.length e1, .bool D0.off, .int .i64 D0.fuse] 49)).alloc (.cells #[.int .i64 0, .int .i64 (n : Int)] 53))
  rw [← HN.out] at Bd hN kr ⊢
  rw [← HW1.out] at Bd hb kr ⊢
  clear HN HW1
  go_upto_block 0 with fail
  have hRN : N + 1 ≠ N := by omega
  go_cut [14, 15] (fun x a wx => ∃ (D : Dk) (want : List Fr) (b : Nat) (A1 : Option Addr) (c1 : Nat) (B1 : Option Addr) (e1 : Nat), a = .int .i64 (b : Int) ∧ want.length ≤ 200 ∧ Row0 wx w.heap.size 24 4 x want.length (frs want) ∧ Box wx N A1 c1 B1 e1 D ∧ LogOn D n ep want b ∧ Blk wx (N + 1) [.int .i64 0, .int .i64 (n : Int)] 53 ∧ Below w.heap.size w wx)
  case first =>
    go_wp2_with fail
    go_loopw [14, 15, 41] (fun x a i wr => ∃ (k : Nat) (D : Dk) (want : List Fr) (b : Nat) (A1 : Option Addr) (c1 : Nat) (B1 : Option Addr) (e1 : Nat), k ≤ l.length ∧ i = .int .i64 (k : Int) ∧ a = .int .i64 (b : Int) ∧ want.length < 200 ∧ Row0 wr w.heap.size 24 4 x want.length (frs want) ∧ Box wr N A1 c1 B1 e1 D ∧ LogOn D n ep want b ∧ D.fuse = -1 ∧ Blk wr (N + 1) [.int .i64 0, .int .i64 (n : Int)] 53 ∧ Below w.heap.size w wr) (fun _ _ i _ => l.length - (intOf i).toNat)
    case atStart => exact ⟨0, D0, [], 0, A1, c1, B1, e1, by omega, rfl, rfl, by simp, Row0.nil _ _ _ _, Bd, HL0.out.1, HL0.out.2, kr, hb⟩
    case round =>
      clear Bd kr hb HL0 HS
      obtain ⟨k, D, want, b, A1, c1, B1, e1, hkl, rfl, rfl, hwk, hrow, Bd, hL, hfu, kr, hb⟩ := hrel
      by_cases hlt : k < l.length
      case neg =>
        obtain rfl : k = l.length := by omega
        have hro := hide hfu
        clear hfu
        go_wp2
        go_meet
        case rel => exact ⟨D, want, b, A1, c1, B1, e1, rfl, by omega, hrow, Bd, hL, kr, hb⟩
      obtain ⟨pb, po, rfl, hp⟩ := Texts.at_ (Lies.below hl hb) hlt
      obtain ⟨p, HP⟩ := named l[k]
      rw [← HP.out] at hp
      obtain ⟨WA, wc, rfl, hwc, _, hwl, _⟩ := Lies.of_own hrow.1
      have hlt' : (k : Int) < (l.length : Int) := by omega
      have hk0 : (0 : Int) ≤ (k : Int) := by omega
      have hwl9 : IntKind.u64.wrap (want.length : Int) = (want.length : Int) := wrap_u64_nat _ (by omega)
      have hst := (hL.step p [] hep (by omega))
      have hst' : (∃ q : Nat, appE D 0 n b (⟨1, ep, want.length, p.data.toList⟩ : Fr) = 0 ∧ appN D 0 n b (⟨1, ep, want.length, p.data.toList⟩ : Fr) = (q : Int) ∧ LogOn (appD D 0 n b (⟨1, ep, want.length, p.data.toList⟩ : Fr)) n ep (want ++ [(⟨1, ep, want.length, p.data.toList⟩ : Fr)]) q ∧ (appD D 0 n b (⟨1, ep, want.length, p.data.toList⟩ : Fr)).fuse = -1) ∨ ((appE D 0 n b (⟨1, ep, want.length, p.data.toList⟩ : Fr) = 16 ∨ appE D 0 n b (⟨1, ep, want.length, p.data.toList⟩ : Fr) = 3) ∧ appD D 0 n b (⟨1, ep, want.length, p.data.toList⟩ : Fr) = D ∧ appN D 0 n b (⟨1, ep, want.length, p.data.toList⟩ : Fr) = 0) := by
        rcases hst with ⟨q, h1, h2, h3⟩ | ⟨_, _, h3, _⟩ | h
        · refine .inl ⟨q, h1, h2, h3, ?_⟩
          have hw0 : appW D 0 n b (⟨1, ep, want.length, p.data.toList⟩ : Fr) = 0 := by
            rcases Classical.em (appW D 0 n b (⟨1, ep, want.length, p.data.toList⟩ : Fr) = 0) with e | e
            · exact e
            · rw [appE, if_pos e] at h1; exact absurd h1 e
          obtain ⟨g1, g2⟩ := app_yes hL.region hw0
          rw [g2] at h1
          rw [g1]
          exact (calm_run _ D hL.on hfu).2 h1
        · exact absurd hfu h3
        · exact .inr h
      have kf := Blk.new wr [.int .u8 1, .int .u64 (ep : Int), .int .u64 (want.length : Int), .string p] 24
      replace Bd := Bd.alloc (.cells #[.int .u8 1, .int .u64 (ep : Int), .int .u64 (want.length : Int), .string p] 24)
      replace kr := kr.alloc (.cells #[.int .u8 1, .int .u64 (ep : Int), .int .u64 (want.length : Int), .string p] 24)
      replace hrow := hrow.alloc (.cells #[.int .u8 1, .int .u64 (ep : Int), .int .u64 (want.length : Int), .string p] 24)
      have hF : w.heap.size ≤ wr.heap.size := hb.size
      replace hb := bt hb (below_alloc _ (.cells #[.int .u8 1, .int .u64 (ep : Int), .int .u64 (want.length : Int), .string p] 24))
      have HFU := hide hfu
      clear HP hwl hwc hst hfu
      have HST := hide hst'
      clear hst'
      go_upto_region 13 with fail
      have hNF : wr.heap.size ≠ N := by have h := kr.lt; simp at h; omega
      obtain ⟨F, HF⟩ := named wr.heap.size
      obtain ⟨W2, HW2⟩ := named (wr.alloc (.cells #[.int .u8 1, .int .u64 (ep : Int), .int .u64 (want.length : Int), .string p] 24))
      rw [← HF.out] at kf hF hNF ⊢
      rw [← HW2.out] at kf Bd kr hrow hb ⊢
      clear HF HW2 hp
      have hfv : frVal (⟨1, ep, want.length, p.data.toList⟩ : Fr) = .agg #[.int .u8 1, .int .u64 (ep : Int), .int .u64 (want.length : Int), .string p] := by rw [frVal_mk]; rfl
      have happ := append_w _ D 0 (n : Int) (b : Int) (⟨1, ep, want.length, p.data.toList⟩ : Fr) W2 Bd.is (by omega) (by omega) (by have := hL.room; omega)
      rw [hfv] at happ
      have HST2 := HST.out
      obtain ⟨D5, HD5⟩ := named (appD D 0 n b (⟨1, ep, want.length, p.data.toList⟩ : Fr))
      obtain ⟨M5, HM5⟩ := named (appN D 0 n b (⟨1, ep, want.length, p.data.toList⟩ : Fr))
      obtain ⟨E5, HE5⟩ := named (appE D 0 n b (⟨1, ep, want.length, p.data.toList⟩ : Fr))
      rw [← HD5.out, ← HM5.out, ← HE5.out] at happ HST2
      have HST3 := hide HST2
      have xd := Bd.blk.cell
      have xr := kr.cell
      have xf := kf.cell
      clear HD5 HM5 HE5 HST HST2 hfv
      go_wp2_with fail
      clear xd xr xf
      refine happ.mono ?_
      rintro e w5 ⟨v5, rfl, ⟨A5, c5, B5, e5, rfl, g1, g2, g3, g4, g5, g6⟩, hb5⟩
      have Be := Box.new w5 ⟨A5, c5, B5, e5, rfl, g1, g2, g3, g4, g5, g6⟩
      have hNE : N ≠ w5.heap.size := by have h1 := hb5.size; have h2 := Bd.lt; omega
      replace Bd := (Bd.below hb5).alloc (.cells #[.slice A5 D5.secs.length c5, .slice B5 D5.pend.length e5, .bool D5.off, .int .i64 D5.fuse] 49)
      replace kr := (kr.below hb5).alloc (.cells #[.slice A5 D5.secs.length c5, .slice B5 D5.pend.length e5, .bool D5.off, .int .i64 D5.fuse] 49)
      replace kf := (kf.below hb5).alloc (.cells #[.slice A5 D5.secs.length c5, .slice B5 D5.pend.length e5, .bool D5.off, .int .i64 D5.fuse] 49)
      replace hrow := (hrow.below hb5).alloc (.cells #[.slice A5 D5.secs.length c5, .slice B5 D5.pend.length e5, .bool D5.off, .int .i64 D5.fuse] 49)
      replace hb := bt (bt hb hb5) (below_alloc w5 (.cells #[.slice A5 D5.secs.length c5, .slice B5 D5.pend.length e5, .bool D5.off, .int .i64 D5.fuse] 49))
      clear happ hb5 g1 g2 g3 g4 g5 g6
      go_upto_region 14 with fail
      obtain ⟨E, HEb⟩ := named w5.heap.size
      obtain ⟨W5, HW5⟩ := named (w5.alloc (.cells #[.slice A5 D5.secs.length c5, .slice B5 D5.pend.length e5, .bool D5.off, .int .i64 D5.fuse] 49))
      rw [← HEb.out] at Be hNE ⊢
      rw [← HW5.out] at Bd Be kr kf hrow hb ⊢
      clear HEb HW5
      rcases HST3.out with ⟨q, hE, hM, hL5, hfu5⟩ | ⟨hE, hD, hM⟩
      · subst hE
        subst hM
        clear HST3
        have hszW := hb.size
        have HF5 := hide hfu5
        clear hfu5
        go_wp2_with fail
        have hL9 := hL
        have Bd' : Box W5.drew N A1 c1 B1 e1 D := ⟨Bd.blk, Bd.tx, Bd.wr, Bd.l1, Bd.l2, Bd.f1, Bd.f2⟩
        have Be' : Box W5.drew E A5 c5 B5 e5 D5 := ⟨Be.blk, Be.tx, Be.wr, Be.l1, Be.l2, Be.f1, Be.f2⟩
        have hr' : Row0 W5.drew w.heap.size 24 4 (.slice WA want.length wc) want.length (frs want) := hrow
        refine region_tailT 7 _ (fun L u => BoxAt N D D5 A1 c1 B1 e1 (L 6) u ∧ Box u E A5 c5 B5 e5 D5 ∧ Blk u (N + 1) [.int .i64 0, .int .i64 (n : Int)] 53 ∧ Below w.heap.size w u ∧ (L 5 = false → Row0 u w.heap.size 24 4 (.slice WA want.length wc) want.length (frs want) ∧ Blk u F [.int .u8 1, .int .u64 (ep : Int), .int .u64 (want.length : Int), .string p] 24)) (fun i u u' => i ≠ 5 → KeepBox N u u')
          (relT [fun _ v _ => v = .agg #[.slice A5 D5.secs.length c5, .slice B5 D5.pend.length e5, .bool D5.off, .int .i64 D5.fuse],
            fun _ v _ => v = .int .i64 (q : Int),
            fun _ v _ => v = .slice WA want.length wc,
            fun _ v _ => v = .agg #[.int .u8 1, .int .u64 (ep : Int), .int .u64 (want.length : Int), .string p],
            fun L v u => L 5 = true ∨ ∃ g, v = .slice (some ⟨g, 0, none⟩) 1 1 ∧ Blk u g [.int .u8 1, .int .u64 (ep : Int), .int .u64 (want.length : Int), .string p] 24,
            fun _ v u => Row0 u w.heap.size 24 4 v (want.length + 1) (frs (want ++ [⟨1, ep, want.length, p.data.toList⟩])),
            fun _ _ _ => True])
          (by kernel_rfl) (by kernel_rfl) (by kernel_rfl) (by decide) (fun v => by simp only [putsV, List.take_succ_cons, List.take_zero, Act.put, List.toList_toArray, List.setIfInBounds_toArray, List.set_cons_zero, List.set_cons_succ, Nat.reduceAdd, Nat.zero_add]; rfl) ?_ ?_ ⟨BoxAt.start Bd', Be', kr, hb.drew, fun _ => ⟨hr', kf⟩⟩ ?_ ?_ (fun L L' u he h => by rw [← he 5 (by decide), ← he 6 (by decide)]; exact h) ?_
        · intro i L j x u u' hi hij hG h
          match j with
          | 0 => exact h
          | 1 => exact h
          | 2 => exact h
          | 3 => exact h
          | 4 =>
            rcases h with h | ⟨g, e, hb9⟩
            · exact .inl (by simp [h])
            · by_cases h5 : i = 5
              · subst h5; exact .inl (by simp)
              · exact .inr ⟨g, e, hb9.keepBoxT (hG h5)⟩
          | 5 => exact Row0.keepBox h (hG fun e => hij e)
          | 6 => exact h
          | _ + 7 => trivial
        · intro i L x u hi h
          match i with
          | 0 => exact h
          | 1 => exact h
          | 2 => exact h
          | 3 => exact h
          | 4 =>
            rcases h with h | h
            · exact .inl (by simp [h])
            · exact .inr h
          | 5 => exact h
          | 6 => exact h
          | _ + 7 => trivial
        · refine ⟨?_, ?_, ?_, ?_, ?_, ?_, ?_, trivial⟩
          · intro L hL hcl hw v u hS hd K' hK
            simp only [waited, List.toList_toArray, Region.binds, relT, List.getD_cons_zero, List.getD_cons_succ, true_imp_iff, and_true] at hd
            simp only [relT, List.getD_cons_zero, List.getD_cons_succ, Act.put, List.setIfInBounds_toArray, List.set_cons_zero, List.set_cons_succ] at hK
            try simp only [hd] at hK
            obtain ⟨hS1, hSe, hSr, hSb, hSw⟩ := hS
            have x0 := hSe.blk.cell 0
            have x1 := hSe.blk.cell 1
            have x2 := hSe.blk.cell 2
            have x3 := hSe.blk.cell 3
            go_simp
            exact hK.out _ _ ⟨⟨hS1, hSe, hSr, hSb, hSw⟩, fun _ => .inl (Below.refl _ _), rfl⟩
          · intro L hL hcl hw v u hS hd K' hK
            simp only [waited, List.toList_toArray, Region.binds, relT, List.getD_cons_zero, List.getD_cons_succ, true_imp_iff, and_true] at hd
            simp only [relT, List.getD_cons_zero, List.getD_cons_succ, Act.put, List.setIfInBounds_toArray, List.set_cons_zero, List.set_cons_succ] at hK
            try simp only [hd] at hK
            obtain ⟨hS1, hSe, hSr, hSb, hSw⟩ := hS
            go_simp
            exact hK.out _ _ ⟨⟨hS1, hSe, hSr, hSb, hSw⟩, fun _ => .inl (Below.refl _ _), rfl⟩
          · intro L hL hcl hw v u hS hd K' hK
            simp only [waited, List.toList_toArray, Region.binds, relT, List.getD_cons_zero, List.getD_cons_succ, true_imp_iff, and_true] at hd
            simp only [relT, List.getD_cons_zero, List.getD_cons_succ, Act.put, List.setIfInBounds_toArray, List.set_cons_zero, List.set_cons_succ] at hK
            try simp only [hd] at hK
            obtain ⟨hS1, hSe, hSr, hSb, hSw⟩ := hS
            go_simp
            exact hK.out _ _ ⟨⟨hS1, hSe, hSr, hSb, hSw⟩, fun _ => .inl (Below.refl _ _), rfl⟩
          · intro L hL hcl hw v u hS hd K' hK
            simp only [waited, List.toList_toArray, Region.binds, relT, List.getD_cons_zero, List.getD_cons_succ, true_imp_iff, and_true] at hd
            simp only [relT, List.getD_cons_zero, List.getD_cons_succ, Act.put, List.setIfInBounds_toArray, List.set_cons_zero, List.set_cons_succ] at hK
            try simp only [hd] at hK
            obtain ⟨hS1, hSe, hSr, hSb, hSw⟩ := hS
            have h0 : L 5 = false := by
              cases h9 : L 5 with
              | false => rfl
              | true => have h8 := hcl 5 3 h9 (by kernel_rfl); rw [hL] at h8; cases h8
            have xf0 := (hSw h0).2.cell 0
            have xf1 := (hSw h0).2.cell 1
            have xf2 := (hSw h0).2.cell 2
            have xf3 := (hSw h0).2.cell 3
            go_simp
            exact hK.out _ _ ⟨⟨hS1, hSe, hSr, hSb, hSw⟩, fun _ => .inl (Below.refl _ _), rfl⟩
          · intro L hL hcl hw v u hS hd K' hK
            simp only [waited, List.toList_toArray, Region.binds, relT, List.getD_cons_zero, List.getD_cons_succ, true_imp_iff, and_true] at hd
            simp only [relT, List.getD_cons_zero, List.getD_cons_succ, Act.put, List.setIfInBounds_toArray, List.set_cons_zero, List.set_cons_succ] at hK
            try simp only [hd] at hK
            obtain ⟨hS1, hSe, hSr, hSb, hSw⟩ := hS
            go_simp
            exact hK.out _ _ ⟨⟨hS1.below (below_alloc _ _), hSe.alloc _, hSr.alloc _, bt hSb (below_alloc _ _), fun h => ⟨(hSw h).1.alloc _, (hSw h).2.alloc _⟩⟩, fun _ => .inl (below_alloc _ _), .inr ⟨_, rfl, Blk.new _ _ _⟩⟩
          · intro L hL hcl hw v u hS hd K' hK
            simp only [waited, List.toList_toArray, Region.binds, relT, List.getD_cons_zero, List.getD_cons_succ, true_imp_iff, and_true] at hd
            simp only [relT, List.getD_cons_zero, List.getD_cons_succ, Act.put, List.setIfInBounds_toArray, List.set_cons_zero, List.set_cons_succ] at hK
            obtain ⟨hS1, hSe, hSr, hSb, hSw⟩ := hS
            obtain ⟨h2, h4⟩ := hd
            rcases h4 with h4 | ⟨g, e4, hbg⟩
            · exact absurd h4 (by rw [hL]; decide)
            obtain ⟨hrw, _⟩ := hSw hL
            refine step_append_row0 _ (by rfl) _ _ _ (by rfl) w.heap.size 24 j0 _ 4 40 Try.underlying54 hj hy0 hy1 hy2 rfl (by omega) frame_zero' (.slice WA want.length wc) want.length (frs want) (by exact h2) hrw ⟨g, 0, none⟩ 1 1 [.int .u8 1, .int .u64 (ep : Int), .int .u64 (want.length : Int), .string p] (by exact e4) rfl (news_blk hbg) (by intro y hy; simp at hy; rcases hy with rfl | rfl | rfl | rfl <;> rfl) (by omega) (by simp only [maxLen]; omega) (by omega) hSb.size ?_
            intro gg cap w6 hrow6 hgrow6 hst6
            rw [frs_more'] at hrow6
            have hbb := hSb.grown hgrow6 hSb.size (fun k' e => (hrw.1.lt k' e).1)
            exact hK.out _ _ ⟨⟨hS1.stays hL9.rt hL9.none hL5.rt hL5.none hrw hgrow6 hst6, hSe.stays hL5.rt hL5.none hrw hgrow6 hst6, blk_grown hSr hrw.1 hgrow6 (by decide), hbb, fun h => by simp at h⟩, fun h => absurd rfl h, hrow6⟩
          · intro L hL hcl hw v u hS hd K' hK
            simp only [waited, List.toList_toArray, Region.binds, relT, List.getD_cons_zero, List.getD_cons_succ, true_imp_iff, and_true] at hd
            simp only [relT, List.getD_cons_zero, List.getD_cons_succ, Act.put, List.setIfInBounds_toArray, List.set_cons_zero, List.set_cons_succ] at hK
            try simp only [hd] at hK
            obtain ⟨hS1, hSe, hSr, hSb, hSw⟩ := hS
            first | (obtain ⟨e0, _⟩ := hd) | (have e0 := hd)
            have hBB := hS1.1 hL
            have x0 := hBB.blk.cell 0
            have x1 := hBB.blk.cell 1
            have x2 := hBB.blk.cell 2
            have x3 := hBB.blk.cell 3
            have z0 := hBB.blk.free 0
            have z1 := hBB.blk.free 1
            have z2 := hBB.blk.free 2
            have z3 := hBB.blk.free 3
            try simp only [e0] at hK ⊢
            go_simp
            have hG : KeepBox N u _ := keepBox_set hBB (.slice A5 D5.secs.length c5) (.slice B5 D5.pend.length e5) (.bool D5.off) (.int .i64 D5.fuse)
            exact hK.out undef _ ⟨⟨BoxAt.stored (hBB.set hSe.tx hSe.wr hSe.l1 hSe.l2 hSe.f1 hSe.f2), hSe.far4 hBB.blk (Ne.symm hNE) (.slice A5 D5.secs.length c5) (.slice B5 D5.pend.length e5) (.bool D5.off) (.int .i64 D5.fuse), hSr.far4 hRN (.slice A5 D5.secs.length c5) (.slice B5 D5.pend.length e5) (.bool D5.off) (.int .i64 D5.fuse), below4 hSb hN (.slice A5 D5.secs.length c5) (.slice B5 D5.pend.length e5) (.bool D5.off) (.int .i64 D5.fuse), fun h => ⟨(hSw h).1.far4 hBB.blk (.slice A5 D5.secs.length c5) (.slice B5 D5.pend.length e5) (.bool D5.off) (.int .i64 D5.fuse), (hSw h).2.far4 hNF (.slice A5 D5.secs.length c5) (.slice B5 D5.pend.length e5) (.bool D5.off) (.int .i64 D5.fuse)⟩⟩, fun _ => hG, trivial⟩
        · intro L L' j x u he h
          match j with
          | 0 => exact h
          | 1 => exact h
          | 2 => exact h
          | 3 => exact h
          | 4 =>
            have h' : L 5 = true ∨ ∃ g, x = .slice (some ⟨g, 0, none⟩) 1 1 ∧ Blk u g [.int .u8 1, .int .u64 (ep : Int), .int .u64 (want.length : Int), .string p] 24 := h
            rw [he 5 (by decide)] at h'
            exact h'
          | 5 => exact h
          | 6 => exact h
          | _ + 7 => trivial
        · rintro v u ⟨hS1, hSe, hSr, hSb, hSw⟩ hR
          simp only [holdAll, List.size_toArray, List.length_cons, List.length_nil, Nat.reduceAdd, relT, List.getD_cons_zero, List.getD_cons_succ] at hR
          obtain ⟨P1, p1, P2, p2, hBox⟩ := hS1.2 rfl
          obtain ⟨⟨⟨⟨⟨⟨_, h7⟩, _⟩, _⟩, _⟩, h8⟩, _⟩ := hR
          obtain ⟨WA2, wc2, e8, hwc2, _, _, _⟩ := Lies.of_own h8.1
          rw [e8] at h8
          simp only [List.toList_toArray, List.drop_succ_cons, List.drop_zero]
          simp only [h7, e8]
          refine seqOps_cons fun K hK => ?_
          go_simp
          refine hK.out _ _ ?_
          refine seqOps_cons fun K2 hK2 => ?_
          go_simp
          refine hK2.out _ _ (seqOps_nil ?_)
          clear hK hK2
          clear h7 e8 hS1 hSw Bd Be Bd' Be' hr' hrow kr kf hb
          by_cases h200 : want.length + 1 < 200
          · have h200a : ¬ ((200 : Int) ≤ (want.length : Int) + 1) := by omega
            go_wp2
            go_roundw
            case rel => exact ⟨k + 1, D5, want ++ [⟨1, ep, want.length, p.data.toList⟩], q, P1, p1, P2, p2, by omega, by go_num, rfl, by rw [List.length_append, List.length_singleton]; omega, by rw [List.length_append, List.length_singleton]; exact h8, hBox, hL5, HF5.out, hSr, hSb⟩
            case measure => simp [intOf]; omega
          · have h200a : ((200 : Int) ≤ (want.length : Int) + 1) := by omega
            go_wp2
            go_meet
            case rel => exact ⟨D5, want ++ [⟨1, ep, want.length, p.data.toList⟩], q, P1, p1, P2, p2, rfl, by rw [List.length_append, List.length_singleton]; omega, by rw [List.length_append, List.length_singleton]; exact h8, hBox, hL5, hSr, hSb⟩
      · subst hD
        subst hM
        clear HST3
        have xd := Bd.blk.cell
        have xe := Be.blk.cell
        rcases hE with rfl | rfl
        · go_wp2_with fail
          refine (refSame_w _ _ D5 _ Bd.is Be.is).mono ?_
          rintro e w6 ⟨rfl, hb6⟩
          go_wp2
          go_roundw
          case rel => exact ⟨k + 1, D5, want, b, A1, c1, B1, e1, by omega, by go_num, rfl, by omega, hrow.below hb6, Bd.below hb6, hL, HFU.out, kr.below hb6, bt hb hb6⟩
          case measure => simp [intOf]; omega
        · go_wp2_with fail
          refine (refSame_w _ _ D5 _ Bd.is Be.is).mono ?_
          rintro e w6 ⟨rfl, hb6⟩
          go_wp2
          go_roundw
          case rel => exact ⟨k + 1, D5, want, b, A1, c1, B1, e1, by omega, by go_num, rfl, by omega, hrow.below hb6, Bd.below hb6, hL, HFU.out, kr.below hb6, bt hb hb6⟩
          case measure => simp [intOf]; omega
  case rest =>
    clear Bd kr hb
    obtain ⟨D, want, b, A1, c1, B1, e1, rfl, hw2, hrow, Bd, hL, kr, hb⟩ := hcut
    obtain ⟨WA, wc9, rfl, hwc, _, hwl, _⟩ := Lies.of_own hrow.1
    clear hwl
    have hL6 := hL.crash keep
    have hcr := crash_w _ Ak ck D keep wc Bd.is (Lies.below hk hb)
    obtain ⟨D6, HD6⟩ := named (crashD D keep)
    obtain ⟨E6, HE6⟩ := named (checkE D)
    rw [← HD6.out, ← HE6.out] at hcr
    rw [← HD6.out] at hL6
    have hsc := fun W v hv => HS.out ep hep W v D6 want b hL6.rt hL6.on hL6.size (hL6.log (by omega)) hv
    have hso : oe ≠ ep → _ := fun hne W v hv => HS.out oe hoe W v D6 [] 0 hL6.rt hL6.on hL6.size (hL6.other hne) hv
    have HSO := hide hso
    have xd := Bd.blk.cell
    clear HD6 HE6 hso HS
    go_wp2_with fail
    clear xd
    refine hcr.mono ?_
    rintro e w6 ⟨v6, rfl, ⟨A6, c6, B6, e6, rfl, t1, t2, l1, l2, f1, f2⟩, hb6⟩
    have By := Bd.below hb6
    have Bz := Box.set (d' := D6) (e1 := c6) (e2 := e6) By t1 t2 l1 l2 f1 f2
    have krz := (kr.below hb6).far4 hRN (.slice A6 D6.secs.length c6) (.slice B6 D6.pend.length e6) (.bool D6.off) (.int .i64 D6.fuse)
    have hrz := (hrow.below hb6).far4 By.blk (.slice A6 D6.secs.length c6) (.slice B6 D6.pend.length e6) (.bool D6.off) (.int .i64 D6.fuse)
    have hbz := below4 (bt hb hb6) hN (.slice A6 D6.secs.length c6) (.slice B6 D6.pend.length e6) (.bool D6.off) (.int .i64 D6.fuse)
    have xe := By.blk.cell
    have fe := By.blk.free
    clear hcr t1 t2 l1 l2 f1 f2
    go_upto_region 21 with fail
    obtain ⟨W7, HW7⟩ := named ((((w6.setCell ⟨N, 0, none⟩ (.slice A6 D6.secs.length c6)).setCell ⟨N, 1, none⟩ (.slice B6 D6.pend.length e6)).setCell ⟨N, 2, none⟩ (.bool D6.off)).setCell ⟨N, 3, none⟩ (.int .i64 D6.fuse))
    have Be7 : Box W7 N A6 c6 B6 e6 D6 := by rw [HW7.out]; exact Bz
    have kr7 : Blk W7 (N + 1) [.int .i64 0, .int .i64 (n : Int)] 53 := by rw [HW7.out]; exact krz
    have hr7 : Row0 W7 w.heap.size 24 4 (.slice WA want.length wc9) want.length (frs want) := by rw [HW7.out]; exact hrz
    have hb7 : Below w.heap.size w W7 := by rw [HW7.out]; exact hbz
    rw [← HW7.out]
    clear HW7 Bz krz hrz hbz By xe fe hb6 Bd kr hrow hb
    have xe := Be7.blk.cell
    have xr := kr7.cell
    go_wp2_with fail
    clear xe xr
    refine (hsc _ _ Be7.is).mono ?_
    rintro e w8 ⟨⟨SA, sc, rfl, hSF⟩, hb8⟩
    have Be := Be7.below hb8
    have kr := kr7.below hb8
    have hrow := hr7.below hb8
    have hb := bt hb7 hb8
    clear hb8 Be7 kr7 hr7 hb7
    have xe := Be.blk.cell
    have xr := kr.cell
    have hlq : want.length ≤ 100000 := by omega
    by_cases hoe2 : oe = ep
    · subst hoe2
      go_wp2_with fail
      clear xe xr
      refine (hsc _ _ Be.is).mono ?_
      rintro e w9 ⟨⟨SB, sb, rfl, hSB⟩, hb9⟩
      have hWF : Frames w9 WA want := by
        obtain ⟨A9, c9, e9, _, _, h9, _⟩ := Lies.of_own (hrow.below hb9).1
        injection e9 with e9
        rw [e9]
        exact h9
      go_wp2_with fail
      refine (refSame4_w SA WA sc wc9 want w9 (hSF.below hb9) hWF hlq).mono ?_
      rintro e w10 ⟨rfl, hb10⟩
      have hbb := bt (bt hb hb9) hb10
      clear hSF hSB hWF hsc HSO hrow hb9 hb10
      go_wp2
      go_ret
      exact ⟨by simp, hbb⟩
    · have hsx := HSO.out hoe2
      have hne : ((oe : Int) == (ep : Int)) = false := by simp; omega
      simp only [List.length_nil] at hsx
      go_wp2_with fail
      clear xe xr
      refine (hsx _ _ Be.is).mono ?_
      rintro e w9 ⟨⟨SB, sb, rfl, hSB⟩, hb9⟩
      have hWF : Frames w9 WA want := by
        obtain ⟨A9, c9, e9, _, _, h9, _⟩ := Lies.of_own (hrow.below hb9).1
        injection e9 with e9
        rw [e9]
        exact h9
      go_wp2_with fail
      refine (refSame4_w SA WA sc wc9 want w9 (hSF.below hb9) hWF hlq).mono ?_
      rintro e w10 ⟨rfl, hb10⟩
      have hbb := bt (bt hb hb9) hb10
      clear hSF hSB hWF hsc HSO hsx hrow hb9 hb10 hoe2
      go_wp2
      go_ret
      exact ⟨by simp, hbb⟩
end Go.Proofs.Ytdgonhmipecjpaa
