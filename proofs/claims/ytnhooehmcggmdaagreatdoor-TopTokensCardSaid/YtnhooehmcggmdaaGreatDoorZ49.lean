/- Parts of a proof about the given program: XShowW, XCrcPlain. -/
import Derived.Test.YtnhooehmcggmdaaGreatDoorZ43
import Derived.Test.YtnhooehmcggmdaaGreatDoorZ16
import Derived.Test.YtnhooehmcggmdaaGreatDoorZ24
import Derived.Test.YtnhooehmcggmdaaGreatDoorZ02
namespace Go.Proofs.YtnhooehmcggmdaaGreatDoor
set_option maxHeartbeats 16000000
set_option linter.unusedVariables false
set_option linter.unusedSimpArgs false
set_option linter.unusedSectionVars false
open Go.RowKit
set_option maxRecDepth 100000 in
theorem tshow_w (t:Tok) (ht:Zfj t) (hl:t.t.length≤2048) (w:World) (htab:Tb8 w):Calls Tryz.prog 20 #[.agg #[.int .u8 (t.k:Int),.string (str t.t),.int .i64 t.n,.int .i64 (t.at_:Int)]] w fun e w'=>e=.returned (.tuple #[.string (str (Zbw t)),.int .i64 0])∧Below w.heap.size w w':=by
 have htl:=Zou ht hl
 have hone:=cut_one ht (by omega)
 obtain ⟨S,HS⟩:=Zaf (str (Zbw t))
 have hSd:S.data.toList=Zbw t:=by rw[HS.out];rfl
 have hSs:S.size≤140737488351232:=by rw[HS.out,Zbo];omega
 rw[←HS.out]
 obtain ⟨k,x,n,a⟩:=t
 simp only[]at hl ⊢
 have kb:=Blk.new w [.int .u8 (k:Int),.string (str x),.int .i64 n,.int .i64 (a:Int)] 46
 have hb1:=Zac w (.cells [.int .u8 (k:Int),.string (str x),.int .i64 n,.int .i64 (a:Int)].toArray 46)
 obtain ⟨W,hW⟩:=Zaf (w.alloc (.cells [.int .u8 (k:Int),.string (str x),.int .i64 n,.int .i64 (a:Int)].toArray 46))
 have hWl:Hid (W=w.alloc (.cells #[.int .u8 (k:Int),.string (str x),.int .i64 n,.int .i64 (a:Int)] 46)):=hW
 rw[←hW.out]at kb hb1
 have x0:W.cell? ⟨w.heap.size,0,none⟩=some (.int .u8 (k:Int)):=kb.cell 0
 have x1:W.cell? ⟨w.heap.size,1,none⟩=some (.string (str x)):=kb.cell 1
 have x2:W.cell? ⟨w.heap.size,2,none⟩=some (.int .i64 n):=kb.cell 2
 obtain ⟨X,HX⟩:=Zaf (str x)
 rw[←HX.out]at kb x1 hWl ⊢
 go_enter Tryz.func20,Tryz.ntmps20
 go_upto_region 1 with (first|(at_builtin;fail))
 rw[←hWl.out]
 clear hW hWl
 rcases ht with ⟨hk,hn,h1,h2,h3⟩|⟨hk,hx,h1,h2⟩|⟨hk,hn,h1,h2⟩|⟨hk,hn,h1⟩
 · have f2:((k:Int) == 2)=false:=by rw[beq_eq_false_iff_ne];simp only[]at hk;omega
   have f3:((k:Int) == 3)=false:=by rw[beq_eq_false_iff_ne];simp only[]at hk;omega
   have e:X=S:=by rw[HX.out,HS.out];simp only[]at hk;subst hk;rfl
   subst e
   clear h1 h2 h3 hk hn
   have hbx:=Below.refl W.heap.size W
   have kc:=kb.below hbx
   have y3:W.cell? ⟨w.heap.size,3,none⟩=some (.int .i64 (a:Int)):=kc.cell 3
   have z3:=kc.free 3
   have kd:=kc.set 3 (.int .i64 0)
   have hbw:=(bt hb1 hbx).setCell (p:=⟨w.heap.size,3,none⟩) (Nat.le_refl _) (.int .i64 0)
   obtain ⟨W2,hW2⟩:=Zaf (W.setCell ⟨w.heap.size,3,none⟩ (.int .i64 0))
   rw[←hW2.out]at kd hbw
   have hcu:=cut_w X W2 hSs (htab.below hbw)
   rw[hSd,hone]at hcu
   have HSd:=Zai hSd
   have Hone:=Zai hone
   clear hone hSd
   skip
   go_upto_region 8 with (first|(at_builtin;fail))
   rw[←hW2.out]
   clear hW2 y3 z3 kc
   go_wp2_with (first|(at_builtin;fail))
   refine hcu.mono ?_
   clear hcu
   rintro e w3 ⟨v,rfl,hown,hb3⟩
   obtain ⟨A,c,rfl,hc,-,hl3,-⟩:=Zek.of_own hown
   obtain ⟨gb,go,rfl,hcell⟩:=hl3.2 (by simp[Zae])
   have q0:w3.cell? ⟨gb,go,none⟩=some (.int .u8 (k:Int)):=hcell 0 _ rfl
   have q1:w3.cell? ⟨gb,go+1,none⟩=some (.string X):=(hcell 1 _ rfl).trans (by rw[HX.out])
   have q2:w3.cell? ⟨gb,go+2,none⟩=some (.int .i64 n):=hcell 2 _ rfl
   have q3:w3.cell? ⟨gb,go+3,none⟩=some (.int .i64 0):=hcell 3 _ rfl
   have ke:=kd.below hb3
   have p0:w3.cell? ⟨w.heap.size,0,none⟩=some (.int .u8 (k:Int)):=ke.cell 0
   have p1:w3.cell? ⟨w.heap.size,1,none⟩=some (.string X):=ke.cell 1
   have p2:w3.cell? ⟨w.heap.size,2,none⟩=some (.int .i64 n):=ke.cell 2
   have p3:w3.cell? ⟨w.heap.size,3,none⟩=some (.int .i64 0):=ke.cell 3
   have hXX:(X.toList == X.toList)=true:=by simp
   clear hown hl3 hcell kd ke
   go_wp2_with (first|(at_builtin;fail)|go_quiet (fail))
   go_ret2
   exact ⟨rfl,Zbz (bt hbw hb3) _⟩
 · have f2:((k:Int) == 2)=true:=by rw[beq_iff_eq];simp only[]at hk;omega
   have e:str (Lib.itoa n)=S:=by rw[HS.out];simp only[]at hk;subst hk;rfl
   simp only[]at h1 h2
   have hf:=fint_w n (by omega) h2 W (htab.below hb1)
   rw[e]at hf
   clear hk hx e
   go_wp2_with (first|(at_builtin;fail))
   refine hf.mono ?_
   clear hf
   rintro e9 w2 ⟨rfl,hbx⟩
   have kc:=kb.below hbx
   have y3:w2.cell? ⟨w.heap.size,3,none⟩=some (.int .i64 (a:Int)):=kc.cell 3
   have z3:=kc.free 3
   have kd:=kc.set 3 (.int .i64 0)
   have hbw:=(bt hb1 hbx).setCell (p:=⟨w.heap.size,3,none⟩) (Nat.le_refl _) (.int .i64 0)
   obtain ⟨W2,hW2⟩:=Zaf (w2.setCell ⟨w.heap.size,3,none⟩ (.int .i64 0))
   rw[←hW2.out]at kd hbw
   have hcu:=cut_w S W2 hSs (htab.below hbw)
   rw[hSd,hone]at hcu
   have HSd:=Zai hSd
   have Hone:=Zai hone
   clear hone hSd
   skip
   go_upto_region 8 with (first|(at_builtin;fail))
   rw[←hW2.out]
   clear hW2 y3 z3 kc
   go_wp2_with (first|(at_builtin;fail))
   refine hcu.mono ?_
   clear hcu
   rintro e w3 ⟨v,rfl,hown,hb3⟩
   obtain ⟨A,c,rfl,hc,-,hl3,-⟩:=Zek.of_own hown
   obtain ⟨gb,go,rfl,hcell⟩:=hl3.2 (by simp[Zae])
   have q0:w3.cell? ⟨gb,go,none⟩=some (.int .u8 (k:Int)):=hcell 0 _ rfl
   have q1:w3.cell? ⟨gb,go+1,none⟩=some (.string X):=(hcell 1 _ rfl).trans (by rw[HX.out])
   have q2:w3.cell? ⟨gb,go+2,none⟩=some (.int .i64 n):=hcell 2 _ rfl
   have q3:w3.cell? ⟨gb,go+3,none⟩=some (.int .i64 0):=hcell 3 _ rfl
   have ke:=kd.below hb3
   have p0:w3.cell? ⟨w.heap.size,0,none⟩=some (.int .u8 (k:Int)):=ke.cell 0
   have p1:w3.cell? ⟨w.heap.size,1,none⟩=some (.string X):=ke.cell 1
   have p2:w3.cell? ⟨w.heap.size,2,none⟩=some (.int .i64 n):=ke.cell 2
   have p3:w3.cell? ⟨w.heap.size,3,none⟩=some (.int .i64 0):=ke.cell 3
   have hXX:(X.toList == X.toList)=true:=by simp
   clear hown hl3 hcell kd ke
   go_wp2_with (first|(at_builtin;fail)|go_quiet (fail))
   go_ret2
   exact ⟨rfl,Zbz (bt hbw hb3) _⟩
 · have f2:((k:Int) == 2)=false:=by rw[beq_eq_false_iff_ne];simp only[]at hk;omega
   have f3:((k:Int) == 3)=true:=by rw[beq_iff_eq];simp only[]at hk;omega
   have hXd:X.data.toList=x:=by rw[HX.out];rfl
   have e:str (Zbi x)=S:=by rw[HS.out];simp only[]at hk;subst hk;rfl
   simp only[]at h2
   have hf:=Zzq X W (by rw[HX.out,Zbo];omega) (htab.below hb1).tb
   rw[hXd,e]at hf
   clear hk hn hXd e h1
   go_wp2_with (first|(at_builtin;fail))
   refine hf.mono ?_
   clear hf
   rintro e9 w2 ⟨rfl,hbx⟩
   have kc:=kb.below hbx
   have y3:w2.cell? ⟨w.heap.size,3,none⟩=some (.int .i64 (a:Int)):=kc.cell 3
   have z3:=kc.free 3
   have kd:=kc.set 3 (.int .i64 0)
   have hbw:=(bt hb1 hbx).setCell (p:=⟨w.heap.size,3,none⟩) (Nat.le_refl _) (.int .i64 0)
   obtain ⟨W2,hW2⟩:=Zaf (w2.setCell ⟨w.heap.size,3,none⟩ (.int .i64 0))
   rw[←hW2.out]at kd hbw
   have hcu:=cut_w S W2 hSs (htab.below hbw)
   rw[hSd,hone]at hcu
   have HSd:=Zai hSd
   have Hone:=Zai hone
   clear hone hSd
   skip
   go_upto_region 8 with (first|(at_builtin;fail))
   rw[←hW2.out]
   clear hW2 y3 z3 kc
   go_wp2_with (first|(at_builtin;fail))
   refine hcu.mono ?_
   clear hcu
   rintro e w3 ⟨v,rfl,hown,hb3⟩
   obtain ⟨A,c,rfl,hc,-,hl3,-⟩:=Zek.of_own hown
   obtain ⟨gb,go,rfl,hcell⟩:=hl3.2 (by simp[Zae])
   have q0:w3.cell? ⟨gb,go,none⟩=some (.int .u8 (k:Int)):=hcell 0 _ rfl
   have q1:w3.cell? ⟨gb,go+1,none⟩=some (.string X):=(hcell 1 _ rfl).trans (by rw[HX.out])
   have q2:w3.cell? ⟨gb,go+2,none⟩=some (.int .i64 n):=hcell 2 _ rfl
   have q3:w3.cell? ⟨gb,go+3,none⟩=some (.int .i64 0):=hcell 3 _ rfl
   have ke:=kd.below hb3
   have p0:w3.cell? ⟨w.heap.size,0,none⟩=some (.int .u8 (k:Int)):=ke.cell 0
   have p1:w3.cell? ⟨w.heap.size,1,none⟩=some (.string X):=ke.cell 1
   have p2:w3.cell? ⟨w.heap.size,2,none⟩=some (.int .i64 n):=ke.cell 2
   have p3:w3.cell? ⟨w.heap.size,3,none⟩=some (.int .i64 0):=ke.cell 3
   have hXX:(X.toList == X.toList)=true:=by simp
   clear hown hl3 hcell kd ke
   go_wp2_with (first|(at_builtin;fail)|go_quiet (fail))
   go_ret2
   exact ⟨rfl,Zbz (bt hbw hb3) _⟩
 · have f2:((k:Int) == 2)=false:=by rw[beq_eq_false_iff_ne];simp only[]at hk;omega
   have f3:((k:Int) == 3)=false:=by rw[beq_eq_false_iff_ne];simp only[]at hk;omega
   have e:X=S:=by rw[HX.out,HS.out];simp only[]at hk;subst hk;rfl
   subst e
   clear h1 hk hn
   have hbx:=Below.refl W.heap.size W
   have kc:=kb.below hbx
   have y3:W.cell? ⟨w.heap.size,3,none⟩=some (.int .i64 (a:Int)):=kc.cell 3
   have z3:=kc.free 3
   have kd:=kc.set 3 (.int .i64 0)
   have hbw:=(bt hb1 hbx).setCell (p:=⟨w.heap.size,3,none⟩) (Nat.le_refl _) (.int .i64 0)
   obtain ⟨W2,hW2⟩:=Zaf (W.setCell ⟨w.heap.size,3,none⟩ (.int .i64 0))
   rw[←hW2.out]at kd hbw
   have hcu:=cut_w X W2 hSs (htab.below hbw)
   rw[hSd,hone]at hcu
   have HSd:=Zai hSd
   have Hone:=Zai hone
   clear hone hSd
   skip
   go_upto_region 8 with (first|(at_builtin;fail))
   rw[←hW2.out]
   clear hW2 y3 z3 kc
   go_wp2_with (first|(at_builtin;fail))
   refine hcu.mono ?_
   clear hcu
   rintro e w3 ⟨v,rfl,hown,hb3⟩
   obtain ⟨A,c,rfl,hc,-,hl3,-⟩:=Zek.of_own hown
   obtain ⟨gb,go,rfl,hcell⟩:=hl3.2 (by simp[Zae])
   have q0:w3.cell? ⟨gb,go,none⟩=some (.int .u8 (k:Int)):=hcell 0 _ rfl
   have q1:w3.cell? ⟨gb,go+1,none⟩=some (.string X):=(hcell 1 _ rfl).trans (by rw[HX.out])
   have q2:w3.cell? ⟨gb,go+2,none⟩=some (.int .i64 n):=hcell 2 _ rfl
   have q3:w3.cell? ⟨gb,go+3,none⟩=some (.int .i64 0):=hcell 3 _ rfl
   have ke:=kd.below hb3
   have p0:w3.cell? ⟨w.heap.size,0,none⟩=some (.int .u8 (k:Int)):=ke.cell 0
   have p1:w3.cell? ⟨w.heap.size,1,none⟩=some (.string X):=ke.cell 1
   have p2:w3.cell? ⟨w.heap.size,2,none⟩=some (.int .i64 n):=ke.cell 2
   have p3:w3.cell? ⟨w.heap.size,3,none⟩=some (.int .i64 0):=ke.cell 3
   have hXX:(X.toList == X.toList)=true:=by simp
   clear hown hl3 hcell kd ke
   go_wp2_with (first|(at_builtin;fail)|go_quiet (fail))
   go_ret2
   exact ⟨rfl,Zbz (bt hbw hb3) _⟩
end Go.Proofs.YtnhooehmcggmdaaGreatDoor
namespace Go.Proofs.YtnhooehmcggmdaaGreatDoor
set_option maxHeartbeats 16000000
set_option linter.unusedVariables false
set_option linter.unusedSimpArgs false
set_option linter.unusedSectionVars false
open Go.RowKit
namespace Crc
theorem Znn (n:Nat) (h:n < 4294967296):IntKind.u32.wrap (n:Int)=n:=by
 rw[IntKind.wrap_u32'];omega
theorem Zsp (a:BitVec 32):BitVec.ofInt 32 (a.toNat:Int)=a:=by
 rw[BitVec.ofInt_natCast,BitVec.ofNat_toNat,BitVec.setWidth_eq]
theorem Zoj (a b:BitVec 32):bits .xor .u32 (a.toNat:Int) (b.toNat:Int)=((a ^^^ b).toNat:Int):=by
 show IntKind.u32.wrap ((BitVec.ofInt 32 (a.toNat:Int) ^^^ BitVec.ofInt 32 (b.toNat:Int)).toNat:Int)=_
 rw[Zsp,Zsp,Znn _ (BitVec.isLt _)]
theorem Ztp (a b:BitVec 32):bits .and .u32 (a.toNat:Int) (b.toNat:Int)=((a &&& b).toNat:Int):=by
 show IntKind.u32.wrap ((BitVec.ofInt 32 (a.toNat:Int) &&& BitVec.ofInt 32 (b.toNat:Int)).toNat:Int)=_
 rw[Zsp,Zsp,Znn _ (BitVec.isLt _)]
def bit (c:BitVec 32):BitVec 32:=(c >>> 1) ^^^ (if c.getLsbD 0 then 3988292384#32 else 0#32)
theorem bit_shr (c:BitVec 32):(c.toNat:Int) / (2:Int)=((c >>> 1).toNat:Int):=by
 rw[BitVec.toNat_ushiftRight,Nat.shiftRight_eq_div_pow];omega
theorem and_one (c:BitVec 32):c &&& 1#32=if c.getLsbD 0 then 1#32 else 0#32:=by
 apply BitVec.eq_of_getLsbD_eq
 intro i hi
 by_cases h:i=0
 · subst h;cases h2:c.getLsbD 0 <;> simp at h2 <;> simp[h2]
 · cases h2:c.getLsbD 0 <;> simp[BitVec.getLsbD_one,h]
theorem bit_walk (c:BitVec 32) :
 bits .xor .u32 ((c.toNat:Int) / 2) (bits .and .u32 (-bits .and .u32 (c.toNat:Int) 1 % 4294967296) 3988292384)=((bit c).toNat:Int):=by
 have h1:bits .and .u32 (c.toNat:Int) 1=((c &&& 1#32).toNat:Int):=Ztp c 1#32
 rw[h1,and_one,bit_shr]
 cases h2:c.getLsbD 0
 · have h3:bits .and .u32 (-(((if false=true then 1#32 else 0#32:BitVec 32).toNat:Int)) % 4294967296) 3988292384=((0#32:BitVec 32).toNat:Int):=by
    simp;exact Ztp 0#32 3988292384#32
   rw[h3,Zoj,bit,h2];simp only[Bool.false_eq_true,if_false]
 · have h3:bits .and .u32 (-(((if true=true then 1#32 else 0#32:BitVec 32).toNat:Int)) % 4294967296) 3988292384=((3988292384#32:BitVec 32).toNat:Int):=by
    have:=Ztp 4294967295#32 3988292384#32
    simpa using this
   rw[h3,Zoj,bit,h2];simp only[if_true]
def bits8:Nat→BitVec 32→BitVec 32
 | 0,c=>c
 | n+1,c=>bit (bits8 n c)
def Zwk (b:UInt8):BitVec 32:=BitVec.ofNat 32 b.toNat
def eat (c:BitVec 32) (b:UInt8):BitVec 32:=bits8 8 (c ^^^ Zwk b)
def run (c:BitVec 32) (l:List UInt8):BitVec 32:=l.foldl eat c
theorem Zwj (b:UInt8):(Zwk b).toNat=b.toNat:=by
 have:=b.toNat_lt;simp[Zwk]
theorem eat_walk (c:BitVec 32) (b:UInt8):bits .xor .u32 (c.toNat:Int) ((b.toNat:Int) % 4294967296)=((c ^^^ Zwk b).toNat:Int):=by
 have:=b.toNat_lt
 rw[←Zoj,Zwj,show ((b.toNat:Int) % 4294967296)=b.toNat from by omega]
def inv (c:BitVec 32):BitVec 32:= ~~~ c
def more (c:BitVec 32) (l:List UInt8):BitVec 32:=inv (run (inv c) l)
theorem not_walk (c:BitVec 32):bits .xor .u32 IntKind.u32.max (c.toNat:Int)=((inv c).toNat:Int):=by
 have h:IntKind.u32.max=((4294967295#32:BitVec 32).toNat:Int):=by decide
 rw[h,Zoj,inv]
 rw[show (4294967295#32:BitVec 32)=BitVec.allOnes 32 from by decide,BitVec.allOnes_xor]
theorem run_append (c:BitVec 32) (a b:List UInt8):run c (a ++ b)=run (run c a) b:=by simp[run]
end Crc
end Go.Proofs.YtnhooehmcggmdaaGreatDoor
