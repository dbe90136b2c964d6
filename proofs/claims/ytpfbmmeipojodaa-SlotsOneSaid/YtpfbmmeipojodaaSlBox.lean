/- Two slots in a law: an image stored into a variable; loading and saving, the disk being what SlOn says. -/
import Derived.Test.YtpfbmmeipojodaaSlSave
import Derived.Test.YtpfbmmeipojodaaSlStep
namespace Go.Proofs.Ytpfbmmeipojodaa
open Go.RowKit
def set2 (w : World) (X : Nat) (a b : Value) : World := (w.setCell ⟨X, 0, none⟩ a).setCell ⟨X, 1, none⟩ b
section
variable {w w0 : World} {X N : Nat}
theorem Blk.set2 {v0 v1 : Value} {t : TypeId} (h : Blk w X [v0, v1] t) (a b : Value) : Blk (Go.Proofs.Ytpfbmmeipojodaa.set2 w X a b) X [a, b] t := (h.set 0 a).set 1 b
theorem Blk.far2 {g : Nat} {l : List Value} {t : TypeId} (h : Blk w g l t) (hX : g ≠ X) (a b : Value) : Blk (Go.Proofs.Ytpfbmmeipojodaa.set2 w X a b) g l t := (h.far (p := ⟨X, 0, none⟩) hX a).far (p := ⟨X, 1, none⟩) hX b
theorem below2 (h : Below N w0 w) (hX : N ≤ X) (a b : Value) : Below N w0 (Go.Proofs.Ytpfbmmeipojodaa.set2 w X a b) := (h.setCell (p := ⟨X, 0, none⟩) hX a).setCell (p := ⟨X, 1, none⟩) hX b
theorem Texts.img {A : Option Addr} {l : List ByteArray} {t : TypeId} {x : Int} {y : ByteArray} (h : Texts w A l) (h2 : 2 ≤ l.length) (hk : Blk w X [.int .u64 x, .string y] t) (a b : Value) : Texts (Go.Proofs.Ytpfbmmeipojodaa.set2 w X a b) A l := by
  obtain ⟨p, q, l', rfl⟩ : ∃ p q l', l = p :: q :: l' := by
    match l, h2 with
    | p :: q :: l', _ => exact ⟨p, q, l', rfl⟩
  have hne : ∀ z, A = some z → z.block ≠ X := by
    rintro z rfl rfl
    obtain ⟨g, o, e, hc⟩ := h.2 (by simp [strs])
    cases e
    have c0 := hc 0 (.string p) rfl
    have c1 := hc 1 (.string q) rfl
    rw [hk.cell] at c0 c1
    match o with
    | 0 => simp at c0
    | 1 => simp at c1
    | _ + 2 => simp at c0
  exact lies_off (lies_off h (p := ⟨X, 0, none⟩) (fun _ => hne) a) (p := ⟨X, 1, none⟩) (fun _ => hne) b
/-- A box of two numbers is stored to: no list of texts, no list of writes lies there. -/
theorem Texts.reg2 {A : Option Addr} {l : List ByteArray} {t : TypeId} {x y : Int} (h : Texts w A l) (hk : Blk w X [.int .i64 x, .int .i64 y] t) (a b : Value) : Texts (Go.Proofs.Ytpfbmmeipojodaa.set2 w X a b) A l := by
  have hne : strs l ≠ [] → ∀ z, A = some z → z.block ≠ X := by
    rintro hn z rfl rfl
    obtain ⟨g, o, e, hc⟩ := h.2 hn
    cases e
    obtain ⟨p, l', rfl⟩ : ∃ p l', l = p :: l' := by
      cases l with
      | nil => exact absurd rfl hn
      | cons p l' => exact ⟨p, l', rfl⟩
    have c0 := hc 0 (.string p) rfl
    rw [hk.cell] at c0
    match o with
    | 0 => simp at c0
    | 1 => simp at c0
    | _ + 2 => simp at c0
  exact lies_off (lies_off h (p := ⟨X, 0, none⟩) hne a) (p := ⟨X, 1, none⟩) hne b
theorem Writes.reg2 {A : Option Addr} {l : List Wr} {t : TypeId} {x y : Int} (h : Writes w A l) (hk : Blk w X [.int .i64 x, .int .i64 y] t) (a b : Value) : Writes (Go.Proofs.Ytpfbmmeipojodaa.set2 w X a b) A l := by
  have hne : wrs l ≠ [] → ∀ z, A = some z → z.block ≠ X := by
    rintro hn z rfl rfl
    obtain ⟨g, o, e, hc⟩ := h.2 hn
    cases e
    obtain ⟨p, l', rfl⟩ : ∃ p l', l = p :: l' := by
      cases l with
      | nil => exact absurd rfl hn
      | cons p l' => exact ⟨p, l', rfl⟩
    have c0 := hc 1 (.string p.data) rfl
    rw [hk.cell] at c0
    match o with
    | 0 => simp at c0
    | _ + 1 => simp at c0
  exact lies_off (lies_off h (p := ⟨X, 0, none⟩) hne a) (p := ⟨X, 1, none⟩) hne b
theorem Box.reg2 {A1 A2 : Option Addr} {c1 c2 : Nat} {d : Dk} {t : TypeId} {x y : Int} (h : Box w N A1 c1 A2 c2 d) (hk : Blk w X [.int .i64 x, .int .i64 y] t) (hne : N ≠ X) (a b : Value) : Box (Go.Proofs.Ytpfbmmeipojodaa.set2 w X a b) N A1 c1 A2 c2 d :=
  ⟨h.blk.far2 hne a b, h.tx.reg2 hk a b, h.wr.reg2 hk a b, h.l1, h.l2, h.f1, h.f2⟩
theorem Box.drew {A1 A2 : Option Addr} {c1 c2 : Nat} {d : Dk} (h : Box w N A1 c1 A2 c2 d) : Box w.drew N A1 c1 A2 c2 d := ⟨h.blk, h.tx, h.wr, h.l1, h.l2, h.f1, h.f2⟩
/-- The disk of one variable, laid into another. -/
theorem Box.at_ {M : Nat} {A1 A2 : Option Addr} {c1 c2 : Nat} {d : Dk} (h : Box w N A1 c1 A2 c2 d) (hb : Blk w M [.slice A1 d.secs.length c1, .slice A2 d.pend.length c2, .bool d.off, .int .i64 d.fuse] 28) : Box w M A1 c1 A2 c2 d := ⟨hb, h.tx, h.wr, h.l1, h.l2, h.f1, h.f2⟩
theorem Box.setFuse {A1 A2 : Option Addr} {c1 c2 : Nat} {d : Dk} (h : Box w N A1 c1 A2 c2 d) (g : Int) (h1 : -9223372036854775808 ≤ g) (h2 : g ≤ 9223372036854775807) : Box (w.setCell ⟨N, 3, none⟩ (.int .i64 g)) N A1 c1 A2 c2 ⟨d.secs, d.pend, d.off, g⟩ :=
  ⟨h.blk.set 3 _, lies_off h.tx (p := ⟨N, 3, none⟩) (strs_off h.tx h.blk) _, lies_off h.wr (p := ⟨N, 3, none⟩) (wrs_off h.wr h.blk) _, h.l1, h.l2, h1, h2⟩
/-- A disk is laid into another variable. -/
theorem Box.over {E : Nat} {A1 A2 a b : Option Addr} {c1 c2 p q r s : Nat} {u : Bool} {f : Int} {d : Dk} (h : Box w E A1 c1 A2 c2 d) (hX : Blk w N [.slice a p q, .slice b r s, .bool u, .int .i64 f] 28) : Box (set4 w N (.slice A1 d.secs.length c1) (.slice A2 d.pend.length c2) (.bool d.off) (.int .i64 d.fuse)) N A1 c1 A2 c2 d :=
  ⟨hX.set4 _ _ _ _, lies_off4 h.tx (strs_off h.tx hX) _ _ _ _, lies_off4 h.wr (wrs_off h.wr hX) _ _ _ _, h.l1, h.l2, h.f1, h.f2⟩
/-- An image is stored beside a disk with two slots. -/
theorem Box.img {A1 A2 : Option Addr} {c1 c2 n k : Nat} {d : Dk} {m : Img} {t : TypeId} {x : Int} {y : ByteArray} (h : Box w N A1 c1 A2 c2 d) (hL : SlOn d n m k) (hk : Blk w X [.int .u64 x, .string y] t) (hne : N ≠ X) (a b : Value) : Box (Go.Proofs.Ytpfbmmeipojodaa.set2 w X a b) N A1 c1 A2 c2 d := by
  refine ⟨h.blk.far2 hne a b, h.tx.img (by have := hL.size; have := hL.pos; omega) hk a b, ?_, h.l1, h.l2, h.f1, h.f2⟩
  have hw := h.wr
  rw [hL.none] at hw ⊢
  exact ⟨hw.1, fun hn => absurd rfl hn⟩
end
theorem slLoad_w {D : Dk} {n x j : Nat} {S : ByteArray} (hL : SlOn D n ⟨x, S.data.toList⟩ j) : ∃ (J : Nat) (E : Int), ((x = 0 ∧ E = 9) ∨ (1 ≤ x ∧ E = 0 ∧ J = j)) ∧ ∀ (W : World) (v : Value), DkIs W v D →
    Calls Try.prog 13 #[v, .agg #[.int .i64 0, .int .i64 (n : Int)], .agg #[.int .i64 (n : Int), .int .i64 (n : Int)]] W fun e w' => e = .returned (.tuple #[.agg #[.int .u64 (x : Int), .string S], .int .i64 (J : Int), .int .i64 E]) ∧ Below W.heap.size W w' := by
  have hn := hL.size1
  obtain ⟨J, E, hl, h⟩ := hL.loads
  refine ⟨J, E, h, fun W v hv => ?_⟩
  have := load_w v D 0 n n n W hv (by omega) (by omega) (by omega) (by omega)
  rw [hl] at this
  simpa only [loadVal, Img.val, str_of] using this
theorem slSave_w (D : Dk) {n : Nat} (hn : n ≤ 512) (q : Nat) (p : ByteArray) (W : World) (v : Value) (hv : DkIs W v D) :
    Calls Try.prog 11 #[v, .agg #[.int .i64 0, .int .i64 (n : Int)], .agg #[.int .i64 (n : Int), .int .i64 (n : Int)], .agg #[.int .u64 (q : Int), .string p]] W (DkRet (saveR D 0 n n n ⟨q, p.data.toList⟩).1 (saveR D 0 n n n ⟨q, p.data.toList⟩).2 W) :=
  save_w v D 0 n n n q p W hv (by omega) (by omega) (by omega) (by omega)
end Go.Proofs.Ytpfbmmeipojodaa
