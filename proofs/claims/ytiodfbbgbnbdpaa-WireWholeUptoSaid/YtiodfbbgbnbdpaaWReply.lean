/- wire.WriteReply, wire.ReadReply. -/
import Derived.Test.YtiodfbbgbnbdpaaWPass
import Derived.Test.YtiodfbbgbnbdpaaRPass
import Derived.Test.YtiodfbbgbnbdpaaReadAsk
import Derived.Test.YtiodfbbgbnbdpaaWriteAsk
import Derived.Laws.ResultCell
namespace Go.Proofs.Ytiodfbbgbnbdpaa
set_option linter.unusedSimpArgs false
set_option linter.unusedVariables false
open Go.RowKit
open Crc
/-- The block of some texts: none of bytes. -/
def SmallAt (w : World) (ad : Option Addr) (l : List ByteArray) : Prop := l ≠ [] → ∀ b o', ad = some ⟨b, o', none⟩ → b < w.heap.size ∧ Small w b
theorem Small.below {w w' : World} {k : Nat} (h : Small w k) (hk : k < w.heap.size) (hb : Below w.heap.size w w') : Small w' k := fun cs fz hc => h cs fz (by rw [← hb.block k hk]; exact hc)
theorem SmallAt.below {w w' : World} {ad : Option Addr} {l : List ByteArray} (h : SmallAt w ad l) (hb : Below w.heap.size w w') : SmallAt w' ad l := fun hne b o' e => ⟨Nat.lt_of_lt_of_le (h hne b o' e).1 hb.size, (h hne b o' e).2.below (h hne b o' e).1 hb⟩
def repCells (r : Rep) (v1 v2 : Value) : List Value := [.int .i64 r.why, .int .u64 (r.n : Int), .int .i64 r.pl, .bool r.al, v1, v2]
theorem bne_dec (a b : Int) : (a != b) = decide (¬ a = b) := by by_cases h : a = b <;> simp [h]
theorem RowR.one {w0 w : World} {v : Value} {l : List ByteArray} (h : RowR w0 w v l) : v.oneCell' = true := by obtain ⟨_, _, rfl, _⟩ := h; rfl
theorem kREP : (Try.prog.info? 44).map (·.size) = some 6 := by kernel_rfl
set_option maxRecDepth 100000 in
set_option maxHeartbeats 2000000 in
theorem writeReply_x {n ni ne capi cape : Nat} {why pl : Int} {al : Bool} {adi ade : Option Addr} {ids er : List ByteArray} (F : List UInt8 × Int) (w : World)
    (hi : Texts w adi ids) (he : Texts w ade er) (hni : ids.length = ni) (hne : er.length = ne) (si : SmallAt w adi ids) (se : SmallAt w ade er)
    (hzi : ∀ t ∈ ids, t.size < 16777216) (hze : ∀ t ∈ er, t.size < 16777216) (hli : ni ≤ 140737488351232) (hle : ne ≤ 140737488351232)
    (HF : Hid (F = writeRp ⟨why, n, pl, al, ids, er⟩)) :
    Calls Try.prog 14 #[.agg #[.int .i64 why, .int .u64 (n : Int), .int .i64 pl, .bool al, .slice adi ni capi, .slice ade ne cape]] w fun e w' => e = .returned (.tuple #[.string (str F.1), .int .i64 F.2]) ∧ Below w.heap.size w w' := by
  have hA0 := Blk.new w [.int .i64 why, .int .u64 (n : Int), .int .i64 pl, .bool al, .slice adi ni capi, .slice ade ne cape] 44
  have hb0 := below_alloc w (.cells #[.int .i64 why, .int .u64 (n : Int), .int .i64 pl, .bool al, .slice adi ni capi, .slice ade ne cape] 44)
  have hw0 : Wr w.heap.size (w.heap.size + 1) (fun i => i = w.heap.size ∨ (ids ≠ [] ∧ ∃ o', adi = some ⟨i, o', none⟩) ∨ (er ≠ [] ∧ ∃ o', ade = some ⟨i, o', none⟩)) [] false ((w.alloc (.cells #[.int .i64 why, .int .u64 (n : Int), .int .i64 pl, .bool al, .slice adi ni capi, .slice ade ne cape] 44)).alloc (.cells #[.pointer none, .slice none 0 0, .bool false] 58)) := by
    have := BuT.newP 58 [.bool false] (fun i => i = w.heap.size ∨ (ids ≠ [] ∧ ∃ o', adi = some ⟨i, o', none⟩) ∨ (er ≠ [] ∧ ∃ o', ade = some ⟨i, o', none⟩)) (B := w.heap.size) (w := (w.alloc (.cells #[.int .i64 why, .int .u64 (n : Int), .int .i64 pl, .bool al, .slice adi ni capi, .slice ade ne cape] 44))) hb0.size (fun k hk => by
      rcases hk with rfl | ⟨hq, o', e⟩ | ⟨hq, o', e⟩
      · exact ⟨hA0.lt, small_blk hA0 (by decide)⟩
      · exact (si.below hb0) hq k o' e
      · exact (se.below hb0) hq k o' e)
    rw [show (w.alloc (.cells #[.int .i64 why, .int .u64 (n : Int), .int .i64 pl, .bool al, .slice adi ni capi, .slice ade ne cape] 44)).heap.size = w.heap.size + 1 by simp] at this
    exact this
  have hA1 := hA0.alloc (.cells #[.pointer none, .slice none 0 0, .bool false] 58)
  have hb1 := bt hb0 (below_alloc _ (.cells #[.pointer none, .slice none 0 0, .bool false] 58))
  have hi1 := (hi.below hb0).below (below_alloc (w.alloc (.cells #[.int .i64 why, .int .u64 (n : Int), .int .i64 pl, .bool al, .slice adi ni capi, .slice ade ne cape] 44)) (.cells #[.pointer none, .slice none 0 0, .bool false] 58))
  have he1 := (he.below hb0).below (below_alloc (w.alloc (.cells #[.int .i64 why, .int .u64 (n : Int), .int .i64 pl, .bool al, .slice adi ni capi, .slice ade ne cape] 44)) (.cells #[.pointer none, .slice none 0 0, .bool false] 58))
  have hp := wpass_x (q1 := decide (¬ ((w8 why).toNat : Int) = why)) (q2 := decide (¬ ((w8 pl).toNat : Int) = pl)) hw0 (.inl rfl) (Nat.le_refl _) hA1 hi1 he1 hni hne
    (fun hq b o' e => ⟨.inr (.inl ⟨hq, o', e⟩), by have := (si hq b o' e).1; omega⟩) (fun hq b o' e => ⟨.inr (.inr ⟨hq, o', e⟩), by have := (se hq b o' e).1; omega⟩) hzi hze hli hle (w8_wrap why) (w8_wrap pl) (bne_dec _ _) (bne_dec _ _)
  have hW : [w8 why] ++ putL n 8 ++ [w8 pl] ++ [bOf al] ++ textsW ids ++ textsW er = repW ⟨why, n, pl, al, ids, er⟩ := by simp [repW, headW]
  have hX : (((decide (¬ ((w8 why).toNat : Int) = why) || decide (¬ ((w8 pl).toNat : Int) = pl)) || texB ids) || texB er) = repBad ⟨why, n, pl, al, ids, er⟩ := rfl
  rw [hW, hX] at hp
  have hF : writeRp ⟨why, n, pl, al, ids, er⟩ = if repBad ⟨why, n, pl, al, ids, er⟩ = true then ([], 14) else (repW ⟨why, n, pl, al, ids, er⟩, 0) := rfl
  have HFF := hide hF
  have hne0 : repW ⟨why, n, pl, al, ids, er⟩ ≠ [] := by simp [repW, headW]
  obtain ⟨l, hl⟩ := named (repW ⟨why, n, pl, al, ids, er⟩)
  obtain ⟨q, hq⟩ := named (repBad ⟨why, n, pl, al, ids, er⟩)
  simp only [← hl.out, ← hq.out] at hp
  rw [← hl.out] at hne0
  have HF2 : Hid (F = if q = true then ([], 14) else (l, 0)) := by rw [hl.out, hq.out, HF.out]; exact HFF
  have hst := fun W P (h : Wr w.heap.size (w.heap.size + 1) P l false W) => stringT w.heap.size (w.heap.size + 1) l W h (by decide) hne0
  obtain ⟨S, hS⟩ := named (str l)
  simp only [← hS.out] at hst
  clear hA0 hb0 hw0 hl hq hF HFF HF hW hX hi1 he1 hi he si se hzi hze hni hne hli hle hne0
  go_enter Try.func14, Try.ntmps14
  go_upto_region 2 with fail
  obtain ⟨w1, hw1⟩ := named ((w.alloc (.cells #[.int .i64 why, .int .u64 (n : Int), .int .i64 pl, .bool al, .slice adi ni capi, .slice ade ne cape] 44)).alloc (.cells #[.pointer none, .slice none 0 0, .bool false] 58))
  rw [← hw1.out] at hp hA1 hb1 ⊢
  clear hw1
  go_wp2_with fail
  refine hp.mono ?_
  rintro e w2 ⟨rfl, ⟨P', hw2⟩, hb2⟩
  have hb3 := hb1.trans hb2
  have cb := hw2.cell.1
  clear hp hA1 hb1 hb2
  cases q with
  | true =>
    clear hst
    go_wp2
    go_ret2
    exact ⟨by rw [HF2.out]; rfl, hb3⟩
  | false =>
    go_wp2_with fail
    refine (hst _ _ hw2).mono ?_
    rintro e w3 ⟨rfl, kp⟩
    have hb4 := hb3.trans kp.2
    clear hst hw2 cb hb3 kp
    go_wp2
    go_ret2
    exact ⟨by rw [HF2.out, hS.out]; rfl, hb4⟩
theorem writeReply_w (r : Rep) (adi ade : Option Addr) (capi cape : Nat) (w : World) (hi : Texts w adi r.ids) (he : Texts w ade r.er) (si : SmallAt w adi r.ids) (se : SmallAt w ade r.er)
    (hzi : ∀ t ∈ r.ids, t.size < 16777216) (hze : ∀ t ∈ r.er, t.size < 16777216) (hli : r.ids.length ≤ 140737488351232) (hle : r.er.length ≤ 140737488351232) :
    Calls Try.prog 14 #[.agg (repCells r (.slice adi r.ids.length capi) (.slice ade r.er.length cape)).toArray] w fun e w' => e = .returned (.tuple #[.string (str (writeRp r).1), .int .i64 (writeRp r).2]) ∧ Below w.heap.size w w' := by
  obtain ⟨why, n, pl, al, ids, er⟩ := r
  exact writeReply_x _ w hi he rfl rfl si se hzi hze hli hle (hide rfl)
/-- A reply's value, that holds what was read. -/
def RepAt (w0 w : World) (r : Rep) (v : Value) : Prop := ∃ v1 v2, v = .agg (repCells r v1 v2).toArray ∧ RowR w0 w v1 r.ids ∧ RowR w0 w v2 r.er
theorem RowR.nil (w0 w : World) : RowR w0 w (.slice none 0 0) [] := ⟨none, 0, rfl, ⟨rfl, fun h => absurd rfl h⟩, fun b o' e => by cases e⟩
theorem row_ret2 {P : Program} {fn : Func} {p u : Tmp} {ty : TypeId} (h : fn.results = #[.cell p ty, .tmp u]) (tmps : Array Value) (w : World) (A : Addr) (v x : Value)
    (hp : tmps.getD p undef = .pointer (some A)) (hl : (loadVar ty A).run P w = .ok v w) (hx : tmps.getD u undef = x) : (results fn tmps).run P w = .ok (.tuple #[v, x]) w := by
  rw [results_cell_tmp h, hp, hx]
  have h1 : (asAddr (.pointer (some A))).run P w = .ok A w := rfl
  rw [h1]
  simp only [Result.andThen, hl]
theorem RowR.set {w0 w : World} {v : Value} {l : List ByteArray} {k : Nat} (h : RowR w0 w v l) (hk : k < w0.heap.size) (cs : Array Value) : RowR w0 (w.setRow k cs) v l :=
  h.keep (by rw [setRow_size]; exact Nat.le_refl _) (fun b h1 h2 => setRow_far w k b cs (by omega))
def rdV (o : Option Rep) : Rep := o.getD rep0
def rdE (o : Option Rep) : Int := if o.isSome then 0 else 14
set_option maxRecDepth 100000 in
set_option maxHeartbeats 2000000 in
theorem readReply_w (s : ByteArray) (w : World) (hs : s.size ≤ 140737488351232) :
    Calls Try.prog 16 #[.string s] w fun e w' => (∃ v, e = .returned (.tuple #[v, .int .i64 (rdE (readRp s.data.toList))]) ∧ RepAt w w' (rdV (readRp s.data.toList)) v) ∧ Below w.heap.size w w' := by
  have hrd : readRp s.data.toList = if endL (passL ⟨s.data.toList, false⟩).2 = true then some (passL ⟨s.data.toList, false⟩).1 else none := rfl
  have hsl : s.data.toList.length ≤ 140737488351232 := by simpa using hs
  obtain ⟨o, ho⟩ := named (readRp s.data.toList)
  rw [← ho.out] at hrd ⊢
  have HRD := hide hrd
  clear hrd ho
  have hp := fun (W : World) (hW : Lb W (w.heap.size + 1) ⟨s.data.toList, false⟩) (hk : Blk W (w.heap.size + 1 + 1) [.int .i64 0, .int .u64 0, .int .i64 0, .bool false, .slice none 0 0, .slice none 0 0] 44) => rpass_w (B := w.heap.size) (g := w.heap.size + 1) (A := w.heap.size + 1 + 1) (by omega) (by omega) (by omega) hW hsl hk
  obtain ⟨Y, hY⟩ := named (passL ⟨s.data.toList, false⟩)
  simp only [← hY.out] at hp
  have HRD2 : Hid (o = if endL Y.2 = true then some Y.1 else none) := by rw [hY.out]; exact HRD
  clear HRD hY
  obtain ⟨r, z⟩ := Y
  simp only at hp
  have hen := fun W (h1 : Lb W (w.heap.size + 1) z) => ended_w (w.heap.size + 1) z W h1
  obtain ⟨q, hq⟩ := named (endL z)
  simp only [← hq.out] at hen
  have HO : Hid (o = if q = true then some r else none) := by rw [hq.out]; exact HRD2
  clear HRD2 hq
  obtain ⟨S, hS⟩ := named s
  have b0 := bt (bt (below_alloc w (.cells #[.int .i64 0, .int .u64 0, .int .i64 0, .bool false, .slice none 0 0, .slice none 0 0] 44)) (below_alloc _ (.cells #[.string s, .bool false] 72))) (below_alloc _ (.cells #[.int .i64 0, .int .u64 0, .int .i64 0, .bool false, .slice none 0 0, .slice none 0 0] 44))
  have r0 := ((Blk.new w [.int .i64 0, .int .u64 0, .int .i64 0, .bool false, .slice none 0 0, .slice none 0 0] 44).alloc (.cells #[.string s, .bool false] 72)).alloc (.cells #[.int .i64 0, .int .u64 0, .int .i64 0, .bool false, .slice none 0 0, .slice none 0 0] 44)
  have l0 := (Blk.new (w.alloc (.cells #[.int .i64 0, .int .u64 0, .int .i64 0, .bool false, .slice none 0 0, .slice none 0 0] 44)) [.string s, .bool false] 72).alloc (.cells #[.int .i64 0, .int .u64 0, .int .i64 0, .bool false, .slice none 0 0, .slice none 0 0] 44)
  have a0 := Blk.new ((w.alloc (.cells #[.int .i64 0, .int .u64 0, .int .i64 0, .bool false, .slice none 0 0, .slice none 0 0] 44)).alloc (.cells #[.string s, .bool false] 72)) [.int .i64 0, .int .u64 0, .int .i64 0, .bool false, .slice none 0 0, .slice none 0 0] 44
  rw [show (w.alloc (.cells #[.int .i64 0, .int .u64 0, .int .i64 0, .bool false, .slice none 0 0, .slice none 0 0] 44)).heap.size = w.heap.size + 1 by simp] at l0
  rw [show ((w.alloc (.cells #[.int .i64 0, .int .u64 0, .int .i64 0, .bool false, .slice none 0 0, .slice none 0 0] 44)).alloc (.cells #[.string s, .bool false] 72)).heap.size = w.heap.size + 1 + 1 by simp] at a0
  have hl0 : Lb (((w.alloc (.cells #[.int .i64 0, .int .u64 0, .int .i64 0, .bool false, .slice none 0 0, .slice none 0 0] 44)).alloc (.cells #[.string s, .bool false] 72)).alloc (.cells #[.int .i64 0, .int .u64 0, .int .i64 0, .bool false, .slice none 0 0, .slice none 0 0] 44)) (w.heap.size + 1) ⟨s.data.toList, false⟩ := by
    unfold Lb
    rw [str_of]
    exact l0
  go_enter Try.func16, Try.ntmps16
  go_upto_region 3 with fail
  obtain ⟨w1, hw1⟩ := named (((w.alloc (.cells #[.int .i64 0, .int .u64 0, .int .i64 0, .bool false, .slice none 0 0, .slice none 0 0] 44)).alloc (.cells #[.string s, .bool false] 72)).alloc (.cells #[.int .i64 0, .int .u64 0, .int .i64 0, .bool false, .slice none 0 0, .slice none 0 0] 44))
  rw [← hw1.out] at r0 b0 a0 hl0 ⊢
  clear hw1 l0 hS
  go_wp2_with fail
  refine (hp _ hl0 a0).mono ?_
  rintro e w2 ⟨rfl, L2, ⟨v1, v2, A2, R1, R2⟩, kp⟩
  have hR := r0.kp2 kp (by omega) (by omega)
  have hb := b0.trans kp.2
  have hsz : w.heap.size ≤ w1.heap.size := b0.size
  have hlt := r0.lt
  clear hp hl0 a0 r0 b0 kp
  go_wp2_with fail
  refine (hen _ L2).mono ?_
  rintro e w3 ⟨rfl, hb3⟩
  replace hR := hR.below hb3
  replace A2 := A2.below hb3
  replace hb := hb.trans (hb3.mono hb.size)
  have T1 : RowR w1 w3 v1 r.ids := R1.keep hb3.size (fun b _ h2 => hb3.block b h2)
  have T2 : RowR w1 w3 v2 r.er := R2.keep hb3.size (fun b _ h2 => hb3.block b h2)
  clear hen L2 hb3 R1 R2
  cases q with
  | true =>
    have k6 := hR.row [.int .i64 r.why, .int .u64 (r.n : Int), .int .i64 r.pl, .bool r.al, v1, v2]
    have hb6 := below_setRow hb (Nat.le_refl _) #[.int .i64 r.why, .int .u64 (r.n : Int), .int .i64 r.pl, .bool r.al, v1, v2]
    go_wp2_with (first | (refine wpList_load_row rfl 44 _ rfl _ rfl 44 #[.int .i64 r.why, .int .u64 (r.n : Int), .int .i64 r.pl, .bool r.al, v1, v2] (0, 0) _ A2 Try.underlying44 rfl kREP ?_) | (refine wpList_store_row rfl 44 _ _ rfl _ #[.int .i64 r.why, .int .u64 (r.n : Int), .int .i64 r.pl, .bool r.al, v1, v2] rfl rfl 44 #[.int .i64 0, .int .u64 0, .int .i64 0, .bool false, .slice none 0 0, .slice none 0 0] hR kREP rfl (by first | (simp only [List.all_toArray, List.all_cons, List.all_nil, T1.one, T2.one]; rfl) | simp [Value.oneCell']) ?_))
    obtain ⟨w6, hw6⟩ := named (w3.setRow w.heap.size #[.int .i64 r.why, .int .u64 (r.n : Int), .int .i64 r.pl, .bool r.al, v1, v2])
    rw [show (w3.setRow w.heap.size [.int .i64 r.why, .int .u64 (r.n : Int), .int .i64 r.pl, .bool r.al, v1, v2].toArray) = w6 from hw6.out.symm] at k6
    have hw7 := hw6.out
    rw [← hw6.out] at hb6 ⊢
    have hld : (loadVar 44 ⟨w.heap.size, 0, none⟩).run Try.prog w6 = .ok (.agg #[.int .i64 r.why, .int .u64 (r.n : Int), .int .i64 r.pl, .bool r.al, v1, v2]) w6 := run_loadVar_row w6 w.heap.size 44 44 #[.int .i64 r.why, .int .u64 (r.n : Int), .int .i64 r.pl, .bool r.al, v1, v2] (0, 0) _ k6 Try.underlying44 rfl kREP
    refine bodyPost_ret (v := .tuple #[.agg #[.int .i64 r.why, .int .u64 (r.n : Int), .int .i64 r.pl, .bool r.al, v1, v2], .int .i64 0]) (row_ret2 rfl _ _ _ _ _ rfl hld rfl) rfl ?_
    refine ⟨⟨_, by rw [HO.out]; rfl, ?_⟩, hb6⟩
    rw [HO.out]
    exact ⟨v1, v2, rfl, by rw [hw7]; exact (T1.set hlt _).base hsz, by rw [hw7]; exact (T2.set hlt _).base hsz⟩
  | false =>
    clear A2 T1 T2
    have k6 := hR.row [.int .i64 0, .int .u64 0, .int .i64 0, .bool false, .slice none 0 0, .slice none 0 0]
    have hb6 := below_setRow hb (Nat.le_refl _) #[.int .i64 0, .int .u64 0, .int .i64 0, .bool false, .slice none 0 0, .slice none 0 0]
    go_wp2_with (refine wpList_store_row rfl 44 _ _ rfl _ #[.int .i64 0, .int .u64 0, .int .i64 0, .bool false, .slice none 0 0, .slice none 0 0] rfl rfl 44 #[.int .i64 0, .int .u64 0, .int .i64 0, .bool false, .slice none 0 0, .slice none 0 0] hR kREP rfl (by first | (simp only [List.all_toArray, List.all_cons, List.all_nil, T1.one, T2.one]; rfl) | simp [Value.oneCell']) ?_)
    obtain ⟨w6, hw6⟩ := named (w3.setRow w.heap.size #[.int .i64 0, .int .u64 0, .int .i64 0, .bool false, .slice none 0 0, .slice none 0 0])
    rw [show (w3.setRow w.heap.size [.int .i64 0, .int .u64 0, .int .i64 0, .bool false, .slice none 0 0, .slice none 0 0].toArray) = w6 from hw6.out.symm] at k6
    have hw7 := hw6.out
    rw [← hw6.out] at hb6 ⊢
    have hld : (loadVar 44 ⟨w.heap.size, 0, none⟩).run Try.prog w6 = .ok (.agg #[.int .i64 0, .int .u64 0, .int .i64 0, .bool false, .slice none 0 0, .slice none 0 0]) w6 := run_loadVar_row w6 w.heap.size 44 44 #[.int .i64 0, .int .u64 0, .int .i64 0, .bool false, .slice none 0 0, .slice none 0 0] (0, 0) _ k6 Try.underlying44 rfl kREP
    refine bodyPost_ret (v := .tuple #[.agg #[.int .i64 0, .int .u64 0, .int .i64 0, .bool false, .slice none 0 0, .slice none 0 0], .int .i64 14]) (row_ret2 rfl _ _ _ _ _ rfl hld rfl) rfl ?_
    refine ⟨⟨_, by rw [HO.out]; rfl, ?_⟩, hb6⟩
    rw [HO.out]
    exact ⟨.slice none 0 0, .slice none 0 0, rfl, RowR.nil _ _, RowR.nil _ _⟩
end Go.Proofs.Ytiodfbbgbnbdpaa
