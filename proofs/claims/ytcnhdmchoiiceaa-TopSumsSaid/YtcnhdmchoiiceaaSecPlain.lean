/- Disks in Lean: sectors, writes that wait; what each call comes to. -/
import Derived.Test.YtcnhdmchoiiceaaMem
namespace Go.Proofs.Ytcnhdmchoiiceaa
open Go.RowKit
/-- A write: the sector's number, the data. -/
structure Wr where
  sec : Int
  data : ByteArray
/-- A disk. -/
structure Dk where
  secs : List ByteArray
  pend : List Wr
  off : Bool
  fuse : Int
def wrs (l : List Wr) : List Value := l.flatMap fun x => [.int .i64 x.sec, .string x.data]
theorem wrs_length (l : List Wr) : (wrs l).length = l.length * 2 := by
  induction l with
  | nil => rfl
  | cons x l ih => simp only [wrs, List.flatMap_cons, List.length_append, List.length_cons, List.length_nil] at ih ⊢; omega
theorem wrs_append (a b : List Wr) : wrs (a ++ b) = wrs a ++ wrs b := by simp [wrs]
theorem wrs_one (l : List Wr) : ∀ u ∈ wrs l, u.oneCell' = true := by
  intro u hu; simp only [wrs, List.mem_flatMap] at hu; obtain ⟨_, _, hx⟩ := hu; simp at hx; rcases hx with rfl | rfl <;> rfl
theorem wrs_get (l : List Wr) (k : Nat) (h : k < l.length) : (wrs l)[k * 2]? = some (.int .i64 l[k].sec) ∧ (wrs l)[k * 2 + 1]? = some (.string l[k].data) := by
  induction l generalizing k with
  | nil => simp at h
  | cons x l ih =>
    cases k with
    | zero => exact ⟨rfl, rfl⟩
    | succ k =>
      have := ih k (by simp at h; omega)
      rw [show (k + 1) * 2 = k * 2 + 1 + 1 from by omega]
      exact this
/-- A slice of writes. -/
def Writes (w : World) (A : Option Addr) (l : List Wr) : Prop := Lies w A l.length 2 (wrs l)
section
variable {w w' : World} {A : Option Addr} {l : List Wr}
theorem Writes.below (h : Writes w A l) (hb : Below w.heap.size w w') : Writes w' A l := Lies.below h hb
theorem Writes.at_ (h : Writes w A l) {k : Nat} (hk : k < l.length) : ∃ b o, A = some ⟨b, o, none⟩ ∧ w.cell? ⟨b, o + k * 2, none⟩ = some (.int .i64 l[k].sec) ∧ w.cell? ⟨b, o + k * 2 + 1, none⟩ = some (.string l[k].data) := by
  obtain ⟨b, o, e, hc⟩ := h.2 (by intro h0; have := wrs_length l; rw [h0] at this; simp at this; omega)
  obtain ⟨h1, h2⟩ := wrs_get l k hk
  exact ⟨b, o, e, hc _ _ h1, by rw [Nat.add_assoc]; exact hc _ _ h2⟩
end
/-- Does a struct's value read as a disk? -/
def DkIs (w : World) (v : Value) (d : Dk) : Prop := ∃ A1 c1 A2 c2, v = .agg #[.slice A1 d.secs.length c1, .slice A2 d.pend.length c2, .bool d.off, .int .i64 d.fuse] ∧ Texts w A1 d.secs ∧ Writes w A2 d.pend ∧
  d.secs.length ≤ 140737488351232 ∧ d.pend.length ≤ 140737488351232 ∧ -9223372036854775808 ≤ d.fuse ∧ d.fuse ≤ 9223372036854775807
theorem DkIs.below {w w' : World} {v : Value} {d : Dk} (h : DkIs w v d) (hb : Below w.heap.size w w') : DkIs w' v d := by
  obtain ⟨A1, c1, A2, c2, e, h1, h2, h3⟩ := h
  exact ⟨A1, c1, A2, c2, e, h1.below hb, h2.below hb, h3⟩
/-- A call's answer: a disk and an error. -/
def DkRet (d : Dk) (why : Int) (w : World) (e : Ending) (w' : World) : Prop := ∃ v, e = .returned (.tuple #[v, .int .i64 why]) ∧ DkIs w' v d ∧ Below w.heap.size w w'
/-- No disk. -/
def dk0 : Dk := ⟨[], [], false, 0⟩
theorem DkIs.zero (w : World) : DkIs w (.agg #[.slice none 0 0, .slice none 0 0, .bool false, .int .i64 0]) dk0 :=
  ⟨none, 0, none, 0, rfl, Lies.nil _ _ _, Lies.nil _ _ _, by decide, by decide, by decide, by decide⟩
def odd (s : ByteArray) : Bool := s.size != 64
def there (secs : List ByteArray) (n : Int) : Bool := decide (0 ≤ n) && decide (n < secs.length)
def wrongW (secs : List ByteArray) (x : Wr) : Bool := !there secs x.sec || odd x.data
def sizeOk (n : Nat) : Bool := decide (1 ≤ n) && decide (n ≤ 1024)
def zero64 : ByteArray := str (List.replicate 64 0)
/-- A new disk, and the error. -/
def newD (n : Int) : Dk := if 1 ≤ n ∧ n ≤ 1024 then ⟨List.replicate n.toNat zero64, [], false, -1⟩ else dk0
def newE (n : Int) : Int := if 1 ≤ n ∧ n ≤ 1024 then 0 else 1
/-- Is a disk right? -/
def right (d : Dk) : Bool := sizeOk d.secs.length && decide (d.pend.length ≤ 4096) && !d.secs.any odd && !d.pend.any (wrongW d.secs)
def checkE (d : Dk) : Int := if right d then 0 else 13
theorem new_of (n : Nat) : (sizeOk n = true → newD n = ⟨List.replicate n zero64, [], false, -1⟩ ∧ newE n = 0) ∧ (sizeOk n = false → newD n = dk0 ∧ newE n = 1) := by
  constructor
  · intro h
    have : (1 : Int) ≤ n ∧ (n : Int) ≤ 1024 := by simp [sizeOk] at h; omega
    simp [newD, newE, this]
  · intro h
    have : ¬ ((1 : Int) ≤ n ∧ (n : Int) ≤ 1024) := by simp [sizeOk] at h; omega
    simp [newD, newE, this]
/-- What a sector holds. -/
def holdsOf (d : Dk) (n : Int) : ByteArray := match d.pend.reverse.find? (fun x => x.sec == n) with | some x => x.data | none => d.secs.getD n.toNat ⟨#[]⟩
/-- What is read: the text, the error. -/
def readE (d : Dk) (n : Int) : Int := if right d = false then 13 else if d.off then 15 else if there d.secs n = false then 1 else 0
def readS (d : Dk) (n : Int) : ByteArray := if readE d n = 0 then holdsOf d n else ⟨#[]⟩
end Go.Proofs.Ytcnhdmchoiiceaa
