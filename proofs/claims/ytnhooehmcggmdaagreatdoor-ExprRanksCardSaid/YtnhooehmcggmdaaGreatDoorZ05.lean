/- Parts of a proof about the given program: XQuo1, XQuo2. -/
import Derived.Laws.BytesArg
import Derived.Test.YtnhooehmcggmdaaGreatDoorZ04
import Derived.Test.YtnhooehmcggmdaaGreatDoorZ02
namespace Go.Proofs.YtnhooehmcggmdaaGreatDoor
set_option maxHeartbeats 16000000
set_option linter.unusedVariables false
set_option linter.unusedSimpArgs false
set_option linter.unusedSectionVars false
open Go.RowKit
set_option maxRecDepth 100000 in
theorem shown_w (b:UInt8) (w:World):Calls Tryz.prog 74 #[.int .u8 (b.toNat:Int)] w fun e w'=>e=.returned (.string (str (Znx b)))∧Below w.heap.size w w':=by
 have hb:=Zac w (.cells #[.int .u8 (b.toNat:Int)] 5)
 have hcv:∀ W:World,W=w.alloc (.cells #[.int .u8 (b.toNat:Int)] 5)→(convert 51 9 (.slice (some ⟨w.heap.size,0,none⟩) 1 1)).run Tryz.prog W=.ok (.string (str [b])) W:=by
  rintro W rfl
  have h:=run_convert_bytes_arg (P:=Tryz.prog) (w.alloc (.cells #[.int .u8 (b.toNat:Int)] 5)) 51 5 Tryz.underlying51 Tryz.underlying5 w.heap.size 0 1 1 [(b.toNat:Int)] rfl (fun i hi=>by
   obtain rfl:i=0:=by omega
   exact (Blk.new w [.int .u8 (b.toNat:Int)] 5).cell 0) 9 Tryz.underlying9
  rw[h]
  congr 3
  simp[strOfNums,str]
 by_cases h34:b=34
 · subst h34
   go_enter Tryz.func74,Tryz.ntmps74
   go_wp2_with (first|(at_builtin;fail))
   go_ret
   exact ⟨rfl,Below.refl _ _⟩
 have n34:¬ b.toNat=34:=fun h=>h34 (UInt8.toNat_inj.1 h)
 have i34:¬ (b.toNat:Int)=34:=by omega
 clear h34
 by_cases h92:b=92
 · subst h92
   go_enter Tryz.func74,Tryz.ntmps74
   go_wp2_with (first|(at_builtin;fail))
   go_ret
   exact ⟨rfl,Below.refl _ _⟩
 have n92:¬ b.toNat=92:=fun h=>h92 (UInt8.toNat_inj.1 h)
 have i92:¬ (b.toNat:Int)=92:=by omega
 clear h92
 by_cases h10:b=10
 · subst h10
   go_enter Tryz.func74,Tryz.ntmps74
   go_wp2_with (first|(at_builtin;fail))
   go_ret
   exact ⟨rfl,Below.refl _ _⟩
 have n10:¬ b.toNat=10:=fun h=>h10 (UInt8.toNat_inj.1 h)
 have i10:¬ (b.toNat:Int)=10:=by omega
 clear h10
 by_cases h9:b=9
 · subst h9
   go_enter Tryz.func74,Tryz.ntmps74
   go_wp2_with (first|(at_builtin;fail))
   go_ret
   exact ⟨rfl,Below.refl _ _⟩
 have n9:¬ b.toNat=9:=fun h=>h9 (UInt8.toNat_inj.1 h)
 have i9:¬ (b.toNat:Int)=9:=by omega
 clear h9
 by_cases h0:b=0
 · subst h0
   go_enter Tryz.func74,Tryz.ntmps74
   go_wp2_with (first|(at_builtin;fail))
   go_ret
   exact ⟨rfl,Below.refl _ _⟩
 have n0:¬ b.toNat=0:=fun h=>h0 (UInt8.toNat_inj.1 h)
 have i0:¬ (b.toNat:Int)=0:=by omega
 clear h0
 have e:Znx b=[b]:=by
  unfold Znx
  rw[if_neg n34,if_neg n92,if_neg n10,if_neg n9,if_neg n0]
 rw[e]
 obtain ⟨W,hW⟩:=Zaf (w.alloc (.cells #[.int .u8 (b.toNat:Int)] 5))
 have hcv2:=hcv W hW.out
 rw[←hW.out]at hb
 clear hcv n34 n92 n10 n9 n0 e
 go_enter Tryz.func74,Tryz.ntmps74
 go_wp2_with (first|(at_builtin;fail)|rw[←hW.out])
 go_ret
 exact ⟨rfl,hb⟩
def Zcb:List UInt8→List (List UInt8)
 | []=>[[]]
 | [b]=>[[b]]
 | b :: c :: r=>if b.toNat=92∧c.toNat=42 then [] :: Zcb r else match Zcb (c :: r) with
   | p :: ps=>(b :: p) :: ps
   | []=>[[b]]
theorem Zgo:∀ s:List UInt8,Zcb s ≠ []
 | []=>by simp[Zcb]
 | [b]=>by simp[Zcb]
 | b :: c :: r=>by
   rw[Zcb]
   split
   · simp
   · split <;> simp
def Zes:List (List UInt8)→List UInt8
 | []=>[]
 | [p]=>p.flatMap Znx
 | p :: q :: ps=>p.flatMap Znx ++ (92 :: 42 :: Zes (q :: ps))
theorem joinQ_cons (b:UInt8) (p:List UInt8) (ps:List (List UInt8)):Zes ((b :: p) :: ps)=Znx b ++ Zes (p :: ps):=by
 cases ps with
 | nil=>simp[Zes]
 | cons q ps=>simp[Zes]
theorem Zmi:∀ s:List UInt8,Zpy s=Zes (Zcb s)
 | []=>by simp[Zpy,Zcb,Zes]
 | [b]=>by simp[Zpy,Zcb,Zes]
 | b :: c :: r=>by
   rw[Zpy,Zcb]
   split
   · have h:=Zmi r
     cases hq:Zcb r with
     | nil=>exact absurd hq (Zgo r)
     | cons p ps=>rw[hq]at h;rw[h];simp[Zes]
   · have h:=Zmi (c :: r)
     cases hq:Zcb (c :: r) with
     | nil=>exact absurd hq (Zgo _)
     | cons p ps=>
       rw[hq]at h
       rw[h]
       simp only[]
       rw[joinQ_cons]
end Go.Proofs.YtnhooehmcggmdaaGreatDoor
