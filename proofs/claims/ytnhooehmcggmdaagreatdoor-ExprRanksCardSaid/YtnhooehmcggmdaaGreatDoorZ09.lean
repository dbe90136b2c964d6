/- Parts of a proof about the given program: XRefNames, XValNames. -/
import Derived.Deep.DeepCutAuto
import Derived.Test.YtnhooehmcggmdaaGreatDoorZ02
import Derived.Test.YtnhooehmcggmdaaGreatDoorZ00
namespace Go.Proofs.YtnhooehmcggmdaaGreatDoor
set_option maxHeartbeats 16000000
set_option linter.unusedVariables false
set_option linter.unusedSimpArgs false
set_option linter.unusedSectionVars false
open Go.RowKit
def kwV:List Value:=Zix.map fun l=>Value.string ⟨l.toArray⟩
theorem nameL_long {l:List UInt8} (h:¬ l.length≤64):Zcu l=false:=by
 unfold Zcu
 rw[decide_eq_false h]
 cases l.isEmpty <;> rfl
theorem kw_cells (w:World) {k:Nat} (hk:k < 19):∃ l,Zix[k]?=some l∧(w.alloc (.cells kwV.toArray 9)).cell? ⟨w.heap.size,k,none⟩=some (.string ⟨l.toArray⟩):=by
 have hl:k < Zix.length:=hk
 refine ⟨Zix[k],List.getElem?_eq_getElem hl,?_⟩
 rw[(Blk.new w kwV 9).cell]
 simp[kwV,List.getElem?_map,List.getElem?_eq_getElem hl]
set_option maxRecDepth 100000 in
theorem digit_w (b:UInt8) (w:World) :
 Calls Tryz.prog 79 #[.int .u8 (b.toNat:Int)] w fun e w'=>e=.returned (.bool (Zgz b))∧w'=w:=by
 obtain ⟨d,hd⟩:=Zaf (Zgz b)
 have hd2:d=decide (48≤b.toNat∧b.toNat≤57):=hd.out
 rw[←hd.out]
 clear hd
 obtain ⟨n,hn⟩:=Zaf b.toNat
 rw[←hn.out]at hd2 ⊢
 have HD:=Zai hd2
 clear hd2
 go_enter Tryz.func79,Tryz.ntmps79
 by_cases h1:(48:Int)≤(n:Int)
 · by_cases h2:(n:Int)≤57
   · go_wp2
     go_ret
     refine ⟨?_,rfl⟩
     rw[HD.out,decide_eq_true (by omega)]
     rfl
   · go_wp2
     go_ret
     refine ⟨?_,rfl⟩
     rw[HD.out,decide_eq_false (by omega)]
     rfl
 · go_wp2
   go_ret
   refine ⟨?_,rfl⟩
   rw[HD.out,decide_eq_false (by omega)]
   rfl
set_option maxRecDepth 100000 in
theorem or_fin:∀ n:Fin 256,bits .or .u8 (n.val:Int) 32=((UInt8.ofNat n.val ||| 32).toNat:Int):=by decide
theorem or_eq (b:UInt8):bits .or .u8 (b.toNat:Int) 32=((b ||| 32).toNat:Int):=by
 have h:=or_fin ⟨b.toNat,b.toNat_lt⟩
 have e:UInt8.ofNat b.toNat=b:=by simp
 simp only[e]at h
 exact h
theorem eq95 (n:Nat):((n:Int) == 95)=(false || decide (n=95)):=by
 rw[Bool.eq_iff_iff]
 simp
 omega
set_option maxRecDepth 100000 in
theorem letter_w (b:UInt8) (w:World) :
 Calls Tryz.prog 83 #[.int .u8 (b.toNat:Int)] w fun e w'=>e=.returned (.bool (Zhd b))∧w'=w:=by
 rw[←goLet_eq]
 obtain ⟨d,hd⟩:=Zaf (goLet b)
 have hd2:d=(decide (97≤(b ||| 32).toNat∧(b ||| 32).toNat≤122) || decide (b.toNat=95)):=hd.out
 rw[←hd.out]
 clear hd
 have ho:=or_eq b
 obtain ⟨q,hq⟩:=Zaf (bits .or .u8 (b.toNat:Int) 32)
 obtain ⟨c,hc⟩:=Zaf (b ||| 32).toNat
 rw[←hq.out,←hc.out]at ho
 rw[←hc.out]at hd2
 have HQ:=Zai (hq.out.symm.trans ho)
 have hqb:bits .or .u8 (b.toNat:Int) 32=(c:Int):=by rw[←hq.out];exact ho
 clear hq hc ho HQ q
 obtain ⟨n,hn⟩:=Zaf b.toNat
 rw[←hn.out]at hd2 hqb ⊢
 have HD:=Zai hd2
 clear hd2
 go_enter Tryz.func83,Tryz.ntmps83
 by_cases h1:(97:Int)≤(c:Int)
 · have h1b:(97:Int)≤bits .or .u8 (n:Int) 32:=by rw[hqb];exact h1
   by_cases h2:(c:Int)≤122
   · have h2b:bits .or .u8 (n:Int) 32≤122:=by rw[hqb];exact h2
     go_wp2
     go_ret
     refine ⟨?_,rfl⟩
     rw[HD.out,decide_eq_true (show 97≤c∧c≤122 by omega)]
     rfl
   · have h2b:¬ bits .or .u8 (n:Int) 32≤122:=by rw[hqb];exact h2
     go_wp2
     go_ret
     refine ⟨?_,rfl⟩
     rw[HD.out,decide_eq_false (show ¬ (97≤c∧c≤122) by omega)]
     exact congrArg (fun x=>Ending.returned (.bool x)) (eq95 n)
 · have h1b:¬ (97:Int)≤bits .or .u8 (n:Int) 32:=by rw[hqb];exact h1
   go_wp2
   go_ret
   refine ⟨?_,rfl⟩
   rw[HD.out,decide_eq_false (show ¬ (97≤c∧c≤122) by omega)]
   exact congrArg (fun x=>Ending.returned (.bool x)) (eq95 n)
def Zwn (b:UInt8):Bool:=!Zhd b && !Zgz b
set_option maxRecDepth 100000 in
theorem bad_w (b:UInt8) (w:World) :
 Calls Tryz.prog 82 #[.int .u8 (b.toNat:Int)] w fun e w'=>e=.returned (.bool (Zwn b))∧w'=w:=by
 have h1:=letter_w b w
 have h2:=digit_w b w
 have hb:Zwn b=(!Zhd b && !Zgz b):=rfl
 obtain ⟨d,hd⟩:=Zaf (Zwn b)
 obtain ⟨x,hx⟩:=Zaf (Zhd b)
 obtain ⟨y,hy⟩:=Zaf (Zgz b)
 rw[←hd.out,←hx.out,←hy.out]at hb
 rw[←hx.out]at h1
 rw[←hy.out]at h2
 rw[←hd.out]
 have HB:=Zai hb
 clear hb hd hx hy
 go_enter Tryz.func82,Tryz.ntmps82
 go_wp2_with fail
 refine h1.mono ?_
 rintro e w1 ⟨rfl,rfl⟩
 cases x with
 | true=>
   go_wp2_with fail
   go_ret
   refine ⟨?_,rfl⟩
   rw[HB.out]
   rfl
 | false=>
   go_wp2_with fail
   refine h2.mono ?_
   rintro e w1 ⟨rfl,rfl⟩
   go_wp2_with fail
   go_ret
   refine ⟨?_,rfl⟩
   rw[HB.out]
   rfl
end Go.Proofs.YtnhooehmcggmdaaGreatDoor
