/- Parts of a proof about the given program: XShelf2, XPrL, XPr3, XPr4, XPr5. -/
import Derived.Shelf.Strings.Builder1
import Derived.Shelf.Small.Bits
import Derived.Shelf.Small.Strs
import Derived.Shelf.Small.Wraps
import Derived.Shelf.Strings.BuilderF
import Derived.Shelf.Strings.BuilderK
import Derived.Shelf.Strconv.Itoa0
import Derived.Shelf.Strconv.Itoa1
import Derived.Shelf.LaysM
import Derived.Shelf.Strconv.Itoa2
import Derived.Shelf.Strconv.Itoa3
import Derived.Shelf.Strconv.Itoa4
import Derived.Shelf.Strconv.ParseIntEmpty
import Derived.Shelf.Strconv.Clone
import Derived.Shelf.Strconv.SyntaxError
import Derived.Shelf.LaysC
import Derived.Shelf.Strconv.ToError
import Derived.Shelf.Strconv.Lower
import Derived.Shelf.Strconv.ParseUint10
import Derived.Shelf.Strconv.ParseUint10Empty
import Derived.Shelf.Strconv.ParseUint10Any
import Derived.Shelf.Strconv.ParseInt10
import Derived.Shelf.Strconv.RangeError
import Derived.Shelf.Strconv.ToErrorRange
import Derived.Shelf.Strconv.ParseUintEmpty
import Derived.Shelf.Strconv.ParseUint10b64
import Derived.Shelf.Strconv.ParseUint10b32
import Derived.Shelf.Strconv.ParseUint10b16
import Derived.Shelf.Strconv.ParseUint10b8
import Derived.Shelf.Strconv.ParseUint10At
import Derived.Shelf.Strconv.ParseInt10At64
import Derived.Shelf.Strconv.ParseInt10At32
import Derived.Shelf.Strconv.ParseInt10At16
import Derived.Shelf.Strconv.ParseInt10At8
import Derived.Shelf.Strconv.ParseInt10All
import Derived.Shelf.Strconv.ParseIntPublic10
import Derived.Shelf.Strconv.ErrVarParseInt
import Derived.Shelf.Strings.Search1
import Derived.Shelf.Strings.Search2
import Derived.Shelf.Strings.Search3
import Derived.Shelf.Strings.Count
import Derived.Shelf.Strings.Shaped
import Derived.Shelf.Sort.Plain
import Derived.Shelf.Strings.Prefix
import Derived.Shelf.Strings.Split
import Derived.Shelf.Strings.Fields
import Derived.Shelf.Unicode.Latin
import Derived.Shelf.Unicode.Decode
import Derived.Shelf.Strings.RuneCount
import Derived.Shelf.Strings.Explode
import Derived.Shelf.Bits.Mul64
import Derived.Shelf.Unicode.DecodeSlow
import Derived.Shelf.Unicode.DecodeAny
import Derived.Shelf.Unicode.Is16White
import Derived.Shelf.Unicode.IsSpaceAny
import Derived.Shelf.Unicode.Is16WhiteD
import Derived.Shelf.Unicode.IsSpaceAnyD
import Derived.Shelf.Strings.FieldsAny
import Derived.Shelf.Strings.FieldsFuncAny
import Derived.Shelf.Unicode.Is16Any
import Derived.Shelf.Unicode.Is32Any
import Derived.Shelf.Unicode.ExclAny
import Derived.Shelf.Strings.BuilderCap
import Derived.Shelf.Slices.Turned
import Derived.Shelf.Slices.CompactS
import Derived.Shelf.Slices.Cells
import Derived.Shelf.Slices.In.SortNone
import Derived.Test.YtnhooehmcggmdaaGreatDoorProg
import Derived.Test.YtnhooehmcggmdaaGreatDoorZ23
import Derived.Test.YtnhooehmcggmdaaGreatDoorZ22
namespace Go.Proofs
set_option maxHeartbeats 16000000
set_option linter.unusedVariables false
set_option linter.unusedSimpArgs false
set_option linter.unusedSectionVars false
open Go.Shelf
def Tryz.laysFmt_ren:Go.Shelf.Ren:=⟨fun|173=>33|246=>70|283=>108|284=>109|285=>110|286=>111|129=>138|317=>137|318=>139|319=>140|320=>141|337=>159|338=>160|n=>n,fun|2=>2|3=>3|9=>9|4=>4|171=>135|0=>0|53=>136|37=>51|5=>5|173=>139|212=>169|51=>69|20=>20|213=>170|46=>126|232=>210|233=>211|n=>n,fun|17=>3|18=>8|19=>9|n=>n⟩
theorem Tryz.laysFmt:Go.Proofs.LaysM.n173 Tryz.prog Tryz.laysFmt_ren:={
 mixed:=by kernel_rfl
 f129:=Tryz.func138.trans (congrArg some (by kernel_rfl))
 f173:=Tryz.func33.trans (congrArg some (by kernel_rfl))
 f246:=Tryz.func70.trans (congrArg some (by kernel_rfl))
 f283:=Tryz.func108.trans (congrArg some (by kernel_rfl))
 f284:=Tryz.func109.trans (congrArg some (by kernel_rfl))
 f285:=Tryz.func110.trans (congrArg some (by kernel_rfl))
 f286:=Tryz.func111.trans (congrArg some (by kernel_rfl))
 f317:=Tryz.func137.trans (congrArg some (by kernel_rfl))
 f318:=Tryz.func139.trans (congrArg some (by kernel_rfl))
 f319:=Tryz.func140.trans (congrArg some (by kernel_rfl))
 f320:=Tryz.func141.trans (congrArg some (by kernel_rfl))
 f337:=Tryz.func159.trans (congrArg some (by kernel_rfl))
 f338:=Tryz.func160.trans (congrArg some (by kernel_rfl))
 t0:=Tryz.underlying0
 a0:=Tryz.isAgg0
 z0:=Tryz.sizeOf0
 v0:=Tryz.zeroValue0
 t2:=Tryz.underlying2
 a2:=Tryz.isAgg2
 z2:=Tryz.sizeOf2
 v2:=Tryz.zeroValue2
 t3:=Tryz.underlying3
 a3:=Tryz.isAgg3
 z3:=Tryz.sizeOf3
 v3:=Tryz.zeroValue3
 t4:=Tryz.underlying4
 a4:=Tryz.isAgg4
 z4:=Tryz.sizeOf4
 v4:=Tryz.zeroValue4
 t5:=Tryz.underlying5
 a5:=Tryz.isAgg5
 z5:=Tryz.sizeOf5
 v5:=Tryz.zeroValue5
 t9:=Tryz.underlying9
 a9:=Tryz.isAgg9
 z9:=Tryz.sizeOf9
 v9:=Tryz.zeroValue9
 t20:=Tryz.underlying20
 a20:=Tryz.isAgg20
 z20:=Tryz.sizeOf20
 v20:=Tryz.zeroValue20
 t37:=Tryz.underlying51
 a37:=Tryz.isAgg51
 z37:=Tryz.sizeOf51
 v37:=Tryz.zeroValue51
 t46:=Tryz.underlying126
 a46:=Tryz.isAgg126
 z46:=Tryz.sizeOf126
 v46:=Tryz.zeroValue126
 t51:=Tryz.underlying69
 a51:=Tryz.isAgg69
 z51:=Tryz.sizeOf69
 v51:=Tryz.zeroValue69
 t53:=Tryz.underlying136
 a53:=Tryz.isAgg136
 z53:=Tryz.sizeOf136
 v53:=Tryz.zeroValue136
 t171:=Tryz.underlying135
 a171:=Tryz.isAgg135
 z171:=Tryz.sizeOf135
 v171:=Tryz.zeroValue135
 t173:=Tryz.underlying139
 a173:=Tryz.isAgg139
 z173:=Tryz.sizeOf139
 v173:=Tryz.zeroValue139
 t212:=Tryz.underlying169
 a212:=Tryz.isAgg169
 z212:=Tryz.sizeOf169
 v212:=Tryz.zeroValue169
 t213:=Tryz.underlying170
 a213:=Tryz.isAgg170
 z213:=Tryz.sizeOf170
 t232:=Tryz.underlying210
 a232:=Tryz.isAgg210
 z232:=Tryz.sizeOf210
 v232:=Tryz.zeroValue210
 t233:=Tryz.underlying211
 a233:=Tryz.isAgg211
 z233:=Tryz.sizeOf211
 v233:=Tryz.zeroValue211
 g17:=by kernel_rfl
 g18:=by kernel_rfl
 g19:=by kernel_rfl
 i0:=by kernel_rfl
 i2:=by kernel_rfl
 i3:=by kernel_rfl
 i4:=by kernel_rfl
 i5:=by kernel_rfl
 i9:=by kernel_rfl
 i20:=by kernel_rfl
 i37:=by kernel_rfl
 i46:=by kernel_rfl
 i51:=by kernel_rfl
 i53:=by kernel_rfl
 i171:=by kernel_rfl
 i173:=by kernel_rfl
 i212:=by kernel_rfl
 i232:=by kernel_rfl
 i233:=by kernel_rfl
 m17:=by kernel_rfl
 m18:=by kernel_rfl
 m19:=by kernel_rfl }
end Go.Proofs
namespace Go.Proofs.YtnhooehmcggmdaaGreatDoor
set_option maxHeartbeats 16000000
set_option linter.unusedVariables false
set_option linter.unusedSimpArgs false
set_option linter.unusedSectionVars false
open Go.RowKit
theorem Zmz {α:Type} {l:List α} (h:l.length=2):∃ a b,l=[a,b]:=by
 match l,h with
 | [a,b],_=>exact ⟨a,b,rfl⟩
theorem Zvi {α:Type} {l:List α} (h:l.length=3):∃ a b c,l=[a,b,c]:=by
 match l,h with
 | [a,b,c],_=>exact ⟨a,b,c,rfl⟩
theorem Zpk {s:ByteArray} (h:Zfu s=true):s.size≤256:=by
 unfold Zfu at h
 rw[Bool.and_eq_true]at h
 exact of_decide_eq_true h.2
theorem Zkb (s:List UInt8):(Zbi s).length≤2 * s.length+2:=by
 unfold Zbi
 have:=Zog s
 simp only[List.length_cons,List.length_append,List.length_nil]
 omega
theorem Zvh (s:List UInt8):(Zdi s).length≤2 * s.length+2:=by
 unfold Zdi
 split
 · omega
 · exact Zkb s
theorem bin_kids {o c:Nat} (h1:15≤o) (h2:o < 27) (h:Zld o c=true):c=2:=by
 unfold Zld at h
 have hk:Zfn o=some 2:=by
  unfold Zfn
  rw[if_neg (by omega),if_neg (by omega),if_neg (by omega),if_neg (by omega)]
 rw[hk,Bool.and_eq_true]at h
 exact of_decide_eq_true h.2
theorem Zzl:∀ i:Fin 12,(Zdd.map fun x=>Value.string ⟨x.toArray⟩)[i.val]?=some (.string (str (Zjn (15+i.val))))∧(Zjn (15+i.val)).length≤2:=by
 intro i
 match i with
 | 0=>exact ⟨rfl,by decide⟩
 | 1=>exact ⟨rfl,by decide⟩
 | 2=>exact ⟨rfl,by decide⟩
 | 3=>exact ⟨rfl,by decide⟩
 | 4=>exact ⟨rfl,by decide⟩
 | 5=>exact ⟨rfl,by decide⟩
 | 6=>exact ⟨rfl,by decide⟩
 | 7=>exact ⟨rfl,by decide⟩
 | 8=>exact ⟨rfl,by decide⟩
 | 9=>exact ⟨rfl,by decide⟩
 | 10=>exact ⟨rfl,by decide⟩
 | 11=>exact ⟨rfl,by decide⟩
theorem sign_at {o:Nat} (h1:15≤o) (h2:o < 27):(Zdd.map fun x=>Value.string ⟨x.toArray⟩)[o - 15]?=some (.string (str (Zjn o))):=by
 have:=(Zzl ⟨o - 15,by omega⟩).1
 rw[show 15+(⟨o - 15,by omega⟩:Fin 12).val=o by simp;omega]at this
 exact this
theorem Zez (a:Array UInt8):(ByteArray.mk a).data.toList=a.toList:=rfl
theorem Zdo (l:List UInt8):(List.toArray l).toList=l:=rfl
theorem Zod {s:ByteArray} (h:Zoe s=true):Zfu s=true:=by
 unfold Zoe at h
 rw[Bool.and_eq_true,Bool.and_eq_true]at h
 exact h.1.1
theorem labs_quot {ns:List ByteArray} (h:Zna ns=true) {x:ByteArray} (hx:x ∈ ns):Zfu x=true:=by
 unfold Zna at h
 rw[Bool.and_eq_true,List.all_eq_true]at h
 exact Zod (h.1 x hx)
theorem Zzk {o:Nat} (h1:15≤o) (h2:o < 27):(Zjn o).length≤2:=by
 have:=(Zzl ⟨o - 15,by omega⟩).2
 rw[show 15+(⟨o - 15,by omega⟩:Fin 12).val=o by simp;omega]at this
 exact this
theorem Zvd {o:Nat} (h1:15≤o) (h2:o < 27) (n:Int) (s t:List UInt8) (ns:List ByteArray) (K:List (List UInt8)) (u:Bool):Zxz o n s t ns K u=40 :: (K.getD 0 [] ++ 32 :: (Zjn o ++ 32 :: (K.getD 1 [] ++ [41]))):=by
 unfold Zxz
 simp only[]
 rw[if_neg (by omega),if_neg (by omega),if_neg (by omega),if_neg (by omega),if_neg (by omega),if_neg (by omega),if_neg (by omega),if_neg (by omega),if_neg (by omega),if_neg (by omega),if_neg (by omega),if_neg (by omega),if_neg (by omega),if_neg (by omega),if_neg (by omega)]
theorem Zhw {a c:List UInt8} {S T U:ByteArray} (hS:S=str a) (hT:T=str c) (hU:U=str (a ++ c)) (h:a.length+c.length≤1000000000):∀ w:World,(Op.stringOp .add S T).run Tryz.prog w=.ok (.string U) w:=by
 subst hS hT hU
 exact Zox a c h
theorem fbool_w (v:Bool) (w:World):Calls Tryz.prog 36 #[.bool v] w fun e w'=>e=.returned (.string (if v then ⟨#[116,114,117,101]⟩ else ⟨#[102,97,108,115,101]⟩))∧w'=w:=by
 cases v <;>
 · go_enter Tryz.func36,Tryz.ntmps36
   go_wp2
   go_ret
   exact ⟨rfl,rfl⟩
theorem fint_w (n:Int) (h0:-9223372036854775808≤n) (h1:n≤9223372036854775807) (w:World) (ht:Tb8 w):Calls Tryz.prog 33 #[.int .i64 n,.int .i64 10] w fun e w'=>e=.returned (.string (str (Lib.itoa n)))∧Below w.heap.size w w':=by
 refine (Any.strconv_FormatInt_10 Tryz.laysFmt n h0 h1 w ht.pow).mono ?_
 rintro e w' ⟨rfl,k,os,rfl⟩
 refine ⟨rfl,rfl,rfl,rfl,?_,fun j hj=>?_⟩
 · show w.heap.size≤(w.heap ++ os).size
   rw[Array.size_append]
   omega
 · show (w.heap ++ os)[j]?=w.heap[j]?
   rw[Array.getElem?_append_left hj]
end Go.Proofs.YtnhooehmcggmdaaGreatDoor
namespace Go.Proofs.YtnhooehmcggmdaaGreatDoor
set_option maxHeartbeats 16000000
set_option linter.unusedVariables false
set_option linter.unusedSimpArgs false
set_option linter.unusedSectionVars false
open Go.RowKit
set_option maxRecDepth 100000 in
theorem pexpr_1 (w0:World) (P:Nat→Prop) (n:Int) (s t:ByteArray) (ns:List ByteArray) (l:List Et) (r:List Value) (hr:EAt w0 P (.mk 1 n s t ns l) r) (hright:Zbt (.mk 1 n s t ns l)=true) (ih:∀ x q,x ∈ l→EAt w0 P x q→PrX w0 q (Zao x)):PrX w0 r (Zao (.mk 1 n s t ns l)):=by
 intro b acc w hE h hlen
 obtain ⟨hc,hbr,hpt,hrs⟩:=Zbh hright
 have hr0:=hr
 rw[EAt]at hr
 obtain ⟨A,cA,B,cB,rows,hrw,hnum,hTx,hnsz,⟨hnl,-,hll,-⟩,-,hLi,hEs⟩:=hr
 unfold Zbq at hnl hll
 obtain ⟨X,HX⟩:=Zaf (Zao (.mk 1 n s t ns l))
 have hXe:X=(if n=1 then Zkv else Zhn):=by rw[HX.out,Zao];rfl
 rw[←HX.out]at hlen ⊢
 have kr:=Blk.new w r 26
 have hb0:=Zac w (.cells r.toArray 26)
 have hP1:=h.below hb0
 have hE1:=hE.below hb0
 have hK1:=KA.of2 hb0 h
 have hgb:=PBT.lt h
 obtain ⟨W,hW⟩:=Zaf (w.alloc (.cells r.toArray 26))
 have hWl:Hid (W=w.alloc (.cells #[.int .u8 1,.int .i64 n,.string s,.string t,.slice A ns.length cA,.slice B l.length cB] 26)):=by
  rw[hrw]at hW
  exact hW
 rw[←hW.out]at kr hP1 hE1 hK1
 obtain ⟨k3,hk3⟩:=Zaf w.heap.size
 rw[←hk3.out]at kr hgb
 have x0:W.cell? ⟨k3,0,none⟩=some (.int .u8 1):=by rw[kr.cell,hrw];rfl
 have x5:W.cell? ⟨k3,5,none⟩=some (.slice B l.length cB):=by rw[kr.cell,hrw];rfl
 have HRW:=Zai hrw
 obtain ⟨nn,hnn⟩:=Zaf ns.length
 obtain ⟨lm,hlm0⟩:=Zaf l.length
 have hkr:∀ u:World,Blk u k3 r 26→u.cell? ⟨k3,0,none⟩=some (.int .u8 1)∧u.cell? ⟨k3,1,none⟩=some (.int .i64 n)∧u.cell? ⟨k3,2,none⟩=some (.string s)∧u.cell? ⟨k3,3,none⟩=some (.string t)∧u.cell? ⟨k3,4,none⟩=some (.slice A ns.length cA)∧u.cell? ⟨k3,5,none⟩=some (.slice B l.length cB):=fun u h=>by
  rw[HRW.out]at h
  exact ⟨h.cell 0,h.cell 1,h.cell 2,h.cell 3,h.cell 4,h.cell 5⟩
 simp only[←hnn.out,←hlm0.out]at hkr
 rw[←hlm0.out]at x5
 rw[←hnn.out,←hlm0.out]at hWl
 have HKR:=Zai hkr
 have HXE:=Zai hXe
 have HLEN:=Zai hlen
 have HBR:=Zai hbr
 have HPT:=Zai hpt
 have HTX:=Zai hTx
 have HLI:=Zai hLi
 have HES:=Zai hEs
 have HRL:r.length=6:=by rw[hrw];rfl
 have HR0:=Zai hr0
 clear hW h hE hb0 HX hkr hXe hlen hbr hpt hTx hLi hEs hright hrs hr0
 rw[show (Value.agg r.toArray)=.agg #[.int .u8 1,.int .i64 n,.string s,.string t,.slice A ns.length cA,.slice B l.length cB] from by rw[hrw];rfl]
 rw[←hnn.out,←hlm0.out]
 clear hrw
 have hn01:n=0∨n=1:=by have h9:=HPT.out;simpa [Zcx] using h9
 have hps:=Zfl b _ [str X] W hP1 (by simp) (by have h1:=HLEN.out;rw[show Zet [str X]=X from by simp[Zet,Zax]];omega)
 rw[show Zet [str X]=X from by simp[Zet,Zax]]at hps
 have x1:=(HKR.out W kr).2.1
 rcases hn01 with hn|hn
 · subst hn
   have hx:str X=⟨#[102,97,108,115,101]⟩:=by rw[HXE.out];rfl
   have hfb:=fun u=>fbool_w false u
   rw[hx]at hps
   go_enter Tryz.func21,Tryz.ntmps21
   go_upto_region 1 with (first|(at_builtin;fail))
   rw[←hk3.out,←hWl.out]
   clear hWl
   go_wp2_with (first|(at_builtin;fail))
   refine (hfb _).mono ?_
   clear hfb
   rintro e w1 ⟨rfl,rfl⟩
   go_wp2_with (first|(at_builtin;fail))
   refine hps.mono ?_
   clear hps
   rintro e w9 ⟨rfl,hP9,hK9⟩
   go_wp2_with (first|(at_builtin;fail))
   go_end0
   exact ⟨rfl,hP9,hK1.trans hK9⟩
 · subst hn
   have hx:str X=⟨#[116,114,117,101]⟩:=by rw[HXE.out];rfl
   have hfb:=fun u=>fbool_w true u
   rw[hx]at hps
   go_enter Tryz.func21,Tryz.ntmps21
   go_upto_region 1 with (first|(at_builtin;fail))
   rw[←hk3.out,←hWl.out]
   clear hWl
   go_wp2_with (first|(at_builtin;fail))
   refine (hfb _).mono ?_
   clear hfb
   rintro e w1 ⟨rfl,rfl⟩
   go_wp2_with (first|(at_builtin;fail))
   refine hps.mono ?_
   clear hps
   rintro e w9 ⟨rfl,hP9,hK9⟩
   go_wp2_with (first|(at_builtin;fail))
   go_end0
   exact ⟨rfl,hP9,hK1.trans hK9⟩
set_option maxRecDepth 100000 in
theorem pexpr_2 (w0:World) (P:Nat→Prop) (n:Int) (s t:ByteArray) (ns:List ByteArray) (l:List Et) (r:List Value) (hr:EAt w0 P (.mk 2 n s t ns l) r) (hright:Zbt (.mk 2 n s t ns l)=true) (ih:∀ x q,x ∈ l→EAt w0 P x q→PrX w0 q (Zao x)):PrX w0 r (Zao (.mk 2 n s t ns l)):=by
 intro b acc w hE h hlen
 obtain ⟨hc,hbr,hpt,hrs⟩:=Zbh hright
 have hr0:=hr
 rw[EAt]at hr
 obtain ⟨A,cA,B,cB,rows,hrw,hnum,hTx,hnsz,⟨hnl,-,hll,-⟩,-,hLi,hEs⟩:=hr
 unfold Zbq at hnl hll
 obtain ⟨X,HX⟩:=Zaf (Zao (.mk 2 n s t ns l))
 have hXe:X=Lib.itoa n:=by rw[HX.out,Zao];rfl
 rw[←HX.out]at hlen ⊢
 have kr:=Blk.new w r 26
 have hb0:=Zac w (.cells r.toArray 26)
 have hP1:=h.below hb0
 have hE1:=hE.below hb0
 have hK1:=KA.of2 hb0 h
 have hgb:=PBT.lt h
 obtain ⟨W,hW⟩:=Zaf (w.alloc (.cells r.toArray 26))
 have hWl:Hid (W=w.alloc (.cells #[.int .u8 2,.int .i64 n,.string s,.string t,.slice A ns.length cA,.slice B l.length cB] 26)):=by
  rw[hrw]at hW
  exact hW
 rw[←hW.out]at kr hP1 hE1 hK1
 obtain ⟨k3,hk3⟩:=Zaf w.heap.size
 rw[←hk3.out]at kr hgb
 have x0:W.cell? ⟨k3,0,none⟩=some (.int .u8 2):=by rw[kr.cell,hrw];rfl
 have x5:W.cell? ⟨k3,5,none⟩=some (.slice B l.length cB):=by rw[kr.cell,hrw];rfl
 have HRW:=Zai hrw
 obtain ⟨nn,hnn⟩:=Zaf ns.length
 obtain ⟨lm,hlm0⟩:=Zaf l.length
 have hkr:∀ u:World,Blk u k3 r 26→u.cell? ⟨k3,0,none⟩=some (.int .u8 2)∧u.cell? ⟨k3,1,none⟩=some (.int .i64 n)∧u.cell? ⟨k3,2,none⟩=some (.string s)∧u.cell? ⟨k3,3,none⟩=some (.string t)∧u.cell? ⟨k3,4,none⟩=some (.slice A ns.length cA)∧u.cell? ⟨k3,5,none⟩=some (.slice B l.length cB):=fun u h=>by
  rw[HRW.out]at h
  exact ⟨h.cell 0,h.cell 1,h.cell 2,h.cell 3,h.cell 4,h.cell 5⟩
 simp only[←hnn.out,←hlm0.out]at hkr
 rw[←hlm0.out]at x5
 rw[←hnn.out,←hlm0.out]at hWl
 have HKR:=Zai hkr
 have HXE:=Zai hXe
 have HLEN:=Zai hlen
 have HBR:=Zai hbr
 have HPT:=Zai hpt
 have HTX:=Zai hTx
 have HLI:=Zai hLi
 have HES:=Zai hEs
 have HRL:r.length=6:=by rw[hrw];rfl
 have HR0:=Zai hr0
 clear hW h hE hb0 HX hkr hXe hlen hbr hpt hTx hLi hEs hright hrs hr0
 rw[show (Value.agg r.toArray)=.agg #[.int .u8 2,.int .i64 n,.string s,.string t,.slice A ns.length cA,.slice B l.length cB] from by rw[hrw];rfl]
 rw[←hnn.out,←hlm0.out]
 clear hrw
 have hn0:0≤n:=by have h9:=HPT.out;simpa [Zcx] using h9
 have hfi:=fint_w n hnum.2.1 hnum.2.2.1 W hE1.tb8
 have x1:=(HKR.out W kr).2.1
 go_enter Tryz.func21,Tryz.ntmps21
 go_upto_region 1 with (first|(at_builtin;fail))
 rw[←hk3.out,←hWl.out]
 clear hWl
 go_wp2_with (first|(at_builtin;fail))
 refine hfi.mono ?_
 clear hfi
 rintro e w1 ⟨rfl,hb1⟩
 have hP2:=hP1.below hb1
 have hK2:=hK1.trans (KA.of2 hb1 hP1)
 rw[←HXE.out]
 have hps:=Zfl b _ [str X] w1 hP2 (by simp) (by have h1:=HLEN.out;rw[show Zet [str X]=X from by simp[Zet,Zax]];omega)
 rw[show Zet [str X]=X from by simp[Zet,Zax]]at hps
 go_wp2_with (first|(at_builtin;fail))
 refine hps.mono ?_
 clear hps
 rintro e w9 ⟨rfl,hP9,hK9⟩
 go_wp2_with (first|(at_builtin;fail))
 go_end0
 exact ⟨rfl,hP9,hK2.trans hK9⟩
set_option maxRecDepth 100000 in
theorem pexpr_3 (w0:World) (P:Nat→Prop) (n:Int) (s t:ByteArray) (ns:List ByteArray) (l:List Et) (r:List Value) (hr:EAt w0 P (.mk 3 n s t ns l) r) (hright:Zbt (.mk 3 n s t ns l)=true) (ih:∀ x q,x ∈ l→EAt w0 P x q→PrX w0 q (Zao x)):PrX w0 r (Zao (.mk 3 n s t ns l)):=by
 intro b acc w hE h hlen
 obtain ⟨hc,hbr,hpt,hrs⟩:=Zbh hright
 have hr0:=hr
 rw[EAt]at hr
 obtain ⟨A,cA,B,cB,rows,hrw,hnum,hTx,hnsz,⟨hnl,-,hll,-⟩,-,hLi,hEs⟩:=hr
 unfold Zbq at hnl hll
 obtain ⟨X,HX⟩:=Zaf (Zao (.mk 3 n s t ns l))
 have hXe:X=Zbi s.data.toList:=by rw[HX.out,Zao];rfl
 rw[←HX.out]at hlen ⊢
 have kr:=Blk.new w r 26
 have hb0:=Zac w (.cells r.toArray 26)
 have hP1:=h.below hb0
 have hE1:=hE.below hb0
 have hK1:=KA.of2 hb0 h
 have hgb:=PBT.lt h
 obtain ⟨W,hW⟩:=Zaf (w.alloc (.cells r.toArray 26))
 have hWl:Hid (W=w.alloc (.cells #[.int .u8 3,.int .i64 n,.string s,.string t,.slice A ns.length cA,.slice B l.length cB] 26)):=by
  rw[hrw]at hW
  exact hW
 rw[←hW.out]at kr hP1 hE1 hK1
 obtain ⟨k3,hk3⟩:=Zaf w.heap.size
 rw[←hk3.out]at kr hgb
 have x0:W.cell? ⟨k3,0,none⟩=some (.int .u8 3):=by rw[kr.cell,hrw];rfl
 have x5:W.cell? ⟨k3,5,none⟩=some (.slice B l.length cB):=by rw[kr.cell,hrw];rfl
 have HRW:=Zai hrw
 obtain ⟨nn,hnn⟩:=Zaf ns.length
 obtain ⟨lm,hlm0⟩:=Zaf l.length
 have hkr:∀ u:World,Blk u k3 r 26→u.cell? ⟨k3,0,none⟩=some (.int .u8 3)∧u.cell? ⟨k3,1,none⟩=some (.int .i64 n)∧u.cell? ⟨k3,2,none⟩=some (.string s)∧u.cell? ⟨k3,3,none⟩=some (.string t)∧u.cell? ⟨k3,4,none⟩=some (.slice A ns.length cA)∧u.cell? ⟨k3,5,none⟩=some (.slice B l.length cB):=fun u h=>by
  rw[HRW.out]at h
  exact ⟨h.cell 0,h.cell 1,h.cell 2,h.cell 3,h.cell 4,h.cell 5⟩
 simp only[←hnn.out,←hlm0.out]at hkr
 rw[←hlm0.out]at x5
 rw[←hnn.out,←hlm0.out]at hWl
 have HKR:=Zai hkr
 have HXE:=Zai hXe
 have HLEN:=Zai hlen
 have HBR:=Zai hbr
 have HPT:=Zai hpt
 have HTX:=Zai hTx
 have HLI:=Zai hLi
 have HES:=Zai hEs
 have HRL:r.length=6:=by rw[hrw];rfl
 have HR0:=Zai hr0
 clear hW h hE hb0 HX hkr hXe hlen hbr hpt hTx hLi hEs hright hrs hr0
 rw[show (Value.agg r.toArray)=.agg #[.int .u8 3,.int .i64 n,.string s,.string t,.slice A ns.length cA,.slice B l.length cB] from by rw[hrw];rfl]
 rw[←hnn.out,←hlm0.out]
 clear hrw
 have hqu:Zfu s=true:=by have h9:=HPT.out;simpa [Zcx] using h9
 have hq:=Zkc s W hqu hE1.tbs
 have x2:=(HKR.out W kr).2.2.1
 rw[←HXE.out]at hq
 go_enter Tryz.func21,Tryz.ntmps21
 go_upto_region 1 with (first|(at_builtin;fail))
 rw[←hk3.out,←hWl.out]
 clear hWl
 go_wp2_with (first|(at_builtin;fail))
 refine hq.mono ?_
 clear hq
 rintro e w1 ⟨rfl,hb1⟩
 have hP2:=hP1.below hb1
 have hK2:=hK1.trans (KA.of2 hb1 hP1)
 have hps:=Zfl b _ [str X] w1 hP2 (by simp) (by have h1:=HLEN.out;rw[show Zet [str X]=X from by simp[Zet,Zax]];omega)
 rw[show Zet [str X]=X from by simp[Zet,Zax]]at hps
 go_wp2_with (first|(at_builtin;fail))
 refine hps.mono ?_
 clear hps
 rintro e w9 ⟨rfl,hP9,hK9⟩
 go_wp2_with (first|(at_builtin;fail))
 go_end0
 exact ⟨rfl,hP9,hK2.trans hK9⟩
set_option maxRecDepth 100000 in
theorem pexpr_5 (w0:World) (P:Nat→Prop) (n:Int) (s t:ByteArray) (ns:List ByteArray) (l:List Et) (r:List Value) (hr:EAt w0 P (.mk 5 n s t ns l) r) (hright:Zbt (.mk 5 n s t ns l)=true) (ih:∀ x q,x ∈ l→EAt w0 P x q→PrX w0 q (Zao x)):PrX w0 r (Zao (.mk 5 n s t ns l)):=by
 intro b acc w hE h hlen
 obtain ⟨hc,hbr,hpt,hrs⟩:=Zbh hright
 have hr0:=hr
 rw[EAt]at hr
 obtain ⟨A,cA,B,cB,rows,hrw,hnum,hTx,hnsz,⟨hnl,-,hll,-⟩,-,hLi,hEs⟩:=hr
 unfold Zbq at hnl hll
 obtain ⟨X,HX⟩:=Zaf (Zao (.mk 5 n s t ns l))
 have hXe:X=s.data.toList:=by rw[HX.out,Zao];rfl
 rw[←HX.out]at hlen ⊢
 have kr:=Blk.new w r 26
 have hb0:=Zac w (.cells r.toArray 26)
 have hP1:=h.below hb0
 have hE1:=hE.below hb0
 have hK1:=KA.of2 hb0 h
 have hgb:=PBT.lt h
 obtain ⟨W,hW⟩:=Zaf (w.alloc (.cells r.toArray 26))
 have hWl:Hid (W=w.alloc (.cells #[.int .u8 5,.int .i64 n,.string s,.string t,.slice A ns.length cA,.slice B l.length cB] 26)):=by
  rw[hrw]at hW
  exact hW
 rw[←hW.out]at kr hP1 hE1 hK1
 obtain ⟨k3,hk3⟩:=Zaf w.heap.size
 rw[←hk3.out]at kr hgb
 have x0:W.cell? ⟨k3,0,none⟩=some (.int .u8 5):=by rw[kr.cell,hrw];rfl
 have x5:W.cell? ⟨k3,5,none⟩=some (.slice B l.length cB):=by rw[kr.cell,hrw];rfl
 have HRW:=Zai hrw
 obtain ⟨nn,hnn⟩:=Zaf ns.length
 obtain ⟨lm,hlm0⟩:=Zaf l.length
 have hkr:∀ u:World,Blk u k3 r 26→u.cell? ⟨k3,0,none⟩=some (.int .u8 5)∧u.cell? ⟨k3,1,none⟩=some (.int .i64 n)∧u.cell? ⟨k3,2,none⟩=some (.string s)∧u.cell? ⟨k3,3,none⟩=some (.string t)∧u.cell? ⟨k3,4,none⟩=some (.slice A ns.length cA)∧u.cell? ⟨k3,5,none⟩=some (.slice B l.length cB):=fun u h=>by
  rw[HRW.out]at h
  exact ⟨h.cell 0,h.cell 1,h.cell 2,h.cell 3,h.cell 4,h.cell 5⟩
 simp only[←hnn.out,←hlm0.out]at hkr
 rw[←hlm0.out]at x5
 rw[←hnn.out,←hlm0.out]at hWl
 have HKR:=Zai hkr
 have HXE:=Zai hXe
 have HLEN:=Zai hlen
 have HBR:=Zai hbr
 have HPT:=Zai hpt
 have HTX:=Zai hTx
 have HLI:=Zai hLi
 have HES:=Zai hEs
 have HRL:r.length=6:=by rw[hrw];rfl
 have HR0:=Zai hr0
 clear hW h hE hb0 HX hkr hXe hlen hbr hpt hTx hLi hEs hright hrs hr0
 rw[show (Value.agg r.toArray)=.agg #[.int .u8 5,.int .i64 n,.string s,.string t,.slice A ns.length cA,.slice B l.length cB] from by rw[hrw];rfl]
 rw[←hnn.out,←hlm0.out]
 clear hrw
 have x2:=(HKR.out W kr).2.2.1
 have hps:=Zfl b _ [s] W hP1 (by simp) (by have h1:=HLEN.out;have h2:=HXE.out;rw[h2]at h1;simp only[Zet,List.flatMap_cons,List.flatMap_nil,List.append_nil,List.length_append,List.length_cons,List.length_nil,Zax,Zez,Zdo,Zaz,Zl3,Zl4,wIf,Zeu,Zem,Zjt,wIs,Zel]at h1 ⊢;omega)
 rw[show Zet [s]=X from by rw[HXE.out];simp[Zet]]at hps
 go_enter Tryz.func21,Tryz.ntmps21
 go_upto_region 1 with (first|(at_builtin;fail))
 rw[←hk3.out,←hWl.out]
 clear hWl
 go_wp2_with (first|(at_builtin;fail))
 refine hps.mono ?_
 clear hps
 rintro e w9 ⟨rfl,hP9,hK9⟩
 go_wp2_with (first|(at_builtin;fail))
 go_end0
 exact ⟨rfl,hP9,hK1.trans hK9⟩
end Go.Proofs.YtnhooehmcggmdaaGreatDoor
namespace Go.Proofs.YtnhooehmcggmdaaGreatDoor
set_option maxHeartbeats 16000000
set_option linter.unusedVariables false
set_option linter.unusedSimpArgs false
set_option linter.unusedSectionVars false
open Go.RowKit
set_option maxRecDepth 100000 in
theorem pexpr_6 (w0:World) (P:Nat→Prop) (n:Int) (s t:ByteArray) (ns:List ByteArray) (l:List Et) (r:List Value) (hr:EAt w0 P (.mk 6 n s t ns l) r) (hright:Zbt (.mk 6 n s t ns l)=true) (ih:∀ x q,x ∈ l→EAt w0 P x q→PrX w0 q (Zao x)):PrX w0 r (Zao (.mk 6 n s t ns l)):=by
 intro b acc w hE h hlen
 obtain ⟨hc,hbr,hpt,hrs⟩:=Zbh hright
 have hr0:=hr
 rw[EAt]at hr
 obtain ⟨A,cA,B,cB,rows,hrw,hnum,hTx,hnsz,⟨hnl,-,hll,-⟩,-,hLi,hEs⟩:=hr
 unfold Zbq at hnl hll
 obtain ⟨X,HX⟩:=Zaf (Zao (.mk 6 n s t ns l))
 have hXe:X=91 :: (Zhr (Zaz l) ++ [93]):=by rw[HX.out,Zao];rfl
 rw[←HX.out]at hlen ⊢
 have kr:=Blk.new w r 26
 have hb0:=Zac w (.cells r.toArray 26)
 have hP1:=h.below hb0
 have hE1:=hE.below hb0
 have hK1:=KA.of2 hb0 h
 have hgb:=PBT.lt h
 obtain ⟨W,hW⟩:=Zaf (w.alloc (.cells r.toArray 26))
 have hWl:Hid (W=w.alloc (.cells #[.int .u8 6,.int .i64 n,.string s,.string t,.slice A ns.length cA,.slice B l.length cB] 26)):=by
  rw[hrw]at hW
  exact hW
 rw[←hW.out]at kr hP1 hE1 hK1
 obtain ⟨k3,hk3⟩:=Zaf w.heap.size
 rw[←hk3.out]at kr hgb
 have x0:W.cell? ⟨k3,0,none⟩=some (.int .u8 6):=by rw[kr.cell,hrw];rfl
 have x5:W.cell? ⟨k3,5,none⟩=some (.slice B l.length cB):=by rw[kr.cell,hrw];rfl
 have HRW:=Zai hrw
 obtain ⟨nn,hnn⟩:=Zaf ns.length
 obtain ⟨lm,hlm0⟩:=Zaf l.length
 have hkr:∀ u:World,Blk u k3 r 26→u.cell? ⟨k3,0,none⟩=some (.int .u8 6)∧u.cell? ⟨k3,1,none⟩=some (.int .i64 n)∧u.cell? ⟨k3,2,none⟩=some (.string s)∧u.cell? ⟨k3,3,none⟩=some (.string t)∧u.cell? ⟨k3,4,none⟩=some (.slice A ns.length cA)∧u.cell? ⟨k3,5,none⟩=some (.slice B l.length cB):=fun u h=>by
  rw[HRW.out]at h
  exact ⟨h.cell 0,h.cell 1,h.cell 2,h.cell 3,h.cell 4,h.cell 5⟩
 simp only[←hnn.out,←hlm0.out]at hkr
 rw[←hlm0.out]at x5
 rw[←hnn.out,←hlm0.out]at hWl
 have HKR:=Zai hkr
 have HXE:=Zai hXe
 have HLEN:=Zai hlen
 have HBR:=Zai hbr
 have HPT:=Zai hpt
 have HTX:=Zai hTx
 have HLI:=Zai hLi
 have HES:=Zai hEs
 have HRL:r.length=6:=by rw[hrw];rfl
 have HR0:=Zai hr0
 clear hW h hE hb0 HX hkr hXe hlen hbr hpt hTx hLi hEs hright hrs hr0
 rw[show (Value.agg r.toArray)=.agg #[.int .u8 6,.int .i64 n,.string s,.string t,.slice A ns.length cA,.slice B l.length cB] from by rw[hrw];rfl]
 rw[←hnn.out,←hlm0.out]
 clear hrw
 have hps:=Zfl b _ [⟨#[91]⟩] W hP1 (by simp) (by have h1:=HLEN.out;have h2:=HXE.out;rw[h2]at h1;simp only[Zet,List.flatMap_cons,List.flatMap_nil,List.append_nil,List.length_append,List.length_cons,List.length_nil,Zax,Zez,Zdo,Zaz,Zl3,Zl4,wIf,Zeu,Zem,Zjt,wIs,Zel]at h1 ⊢;omega)
 rw[show Zet [⟨#[91]⟩]=[91] from rfl]at hps
 go_enter Tryz.func21,Tryz.ntmps21
 go_upto_region 1 with (first|(at_builtin;fail))
 rw[←hk3.out,←hWl.out]
 clear hWl
 go_wp2_with (first|(at_builtin;fail))
 refine hps.mono ?_
 clear hps
 rintro e w1 ⟨rfl,hP2,hK2⟩
 have kr2:=hK2.blk kr (by omega) (by decide)
 have hE2:=hE1.step hK2
 have hK3:=hK1.trans hK2
 have hpp:=pparts6_w w0 P n s t ns l r HR0.out ih b _ w1 hE2 hP2 (by have h1:=HLEN.out;have h2:=HXE.out;rw[h2]at h1;simp only[Zet,List.flatMap_cons,List.flatMap_nil,List.append_nil,List.length_append,List.length_cons,List.length_nil,Zax,Zez,Zdo,Zaz,Zl3,Zl4,wIf,Zeu,Zem,Zjt,wIs,Zel]at h1 ⊢;omega)
 go_wp2_with (first
  | (at_builtin;fail)
  | refine wpList_load_row rfl 26 _ rfl _ rfl 26 r.toArray (0,0) _ kr2 Tryz.underlying26 rfl (kE6 HRL) ?_)
 refine hpp.mono ?_
 clear hpp
 rintro e w2 ⟨rfl,hP4,hK4⟩
 have hK5:=hK3.trans hK4
 have hps:=Zfl b _ [⟨#[93]⟩] w2 hP4 (by simp) (by have h1:=HLEN.out;have h2:=HXE.out;rw[h2]at h1;simp only[Zet,List.flatMap_cons,List.flatMap_nil,List.append_nil,List.length_append,List.length_cons,List.length_nil,Zax,Zez,Zdo,Zaz,Zl3,Zl4,wIf,Zeu,Zem,Zjt,wIs,Zel]at h1 ⊢;omega)
 rw[show Zet [⟨#[93]⟩]=[93] from rfl]at hps
 go_wp2_with (first|(at_builtin;fail))
 refine hps.mono ?_
 clear hps
 rintro e w9 ⟨rfl,hP9,hK9⟩
 go_wp2_with (first|(at_builtin;fail))
 go_end0
 refine ⟨rfl,?_,hK5.trans hK9⟩
 rw[HXE.out]
 simpa using hP9
set_option maxRecDepth 100000 in
theorem pexpr_7 (w0:World) (P:Nat→Prop) (n:Int) (s t:ByteArray) (ns:List ByteArray) (l:List Et) (r:List Value) (hr:EAt w0 P (.mk 7 n s t ns l) r) (hright:Zbt (.mk 7 n s t ns l)=true) (ih:∀ x q,x ∈ l→EAt w0 P x q→PrX w0 q (Zao x)):PrX w0 r (Zao (.mk 7 n s t ns l)):=by
 intro b acc w hE h hlen
 obtain ⟨hc,hbr,hpt,hrs⟩:=Zbh hright
 have hr0:=hr
 rw[EAt]at hr
 obtain ⟨A,cA,B,cB,rows,hrw,hnum,hTx,hnsz,⟨hnl,-,hll,-⟩,-,hLi,hEs⟩:=hr
 unfold Zbq at hnl hll
 obtain ⟨X,HX⟩:=Zaf (Zao (.mk 7 n s t ns l))
 have hXe:X=123 :: (Zhr (Zrb ns (Zaz l)) ++ [125]):=by rw[HX.out,Zao];rfl
 rw[←HX.out]at hlen ⊢
 have kr:=Blk.new w r 26
 have hb0:=Zac w (.cells r.toArray 26)
 have hP1:=h.below hb0
 have hE1:=hE.below hb0
 have hK1:=KA.of2 hb0 h
 have hgb:=PBT.lt h
 obtain ⟨W,hW⟩:=Zaf (w.alloc (.cells r.toArray 26))
 have hWl:Hid (W=w.alloc (.cells #[.int .u8 7,.int .i64 n,.string s,.string t,.slice A ns.length cA,.slice B l.length cB] 26)):=by
  rw[hrw]at hW
  exact hW
 rw[←hW.out]at kr hP1 hE1 hK1
 obtain ⟨k3,hk3⟩:=Zaf w.heap.size
 rw[←hk3.out]at kr hgb
 have x0:W.cell? ⟨k3,0,none⟩=some (.int .u8 7):=by rw[kr.cell,hrw];rfl
 have x5:W.cell? ⟨k3,5,none⟩=some (.slice B l.length cB):=by rw[kr.cell,hrw];rfl
 have HRW:=Zai hrw
 obtain ⟨nn,hnn⟩:=Zaf ns.length
 obtain ⟨lm,hlm0⟩:=Zaf l.length
 have hkr:∀ u:World,Blk u k3 r 26→u.cell? ⟨k3,0,none⟩=some (.int .u8 7)∧u.cell? ⟨k3,1,none⟩=some (.int .i64 n)∧u.cell? ⟨k3,2,none⟩=some (.string s)∧u.cell? ⟨k3,3,none⟩=some (.string t)∧u.cell? ⟨k3,4,none⟩=some (.slice A ns.length cA)∧u.cell? ⟨k3,5,none⟩=some (.slice B l.length cB):=fun u h=>by
  rw[HRW.out]at h
  exact ⟨h.cell 0,h.cell 1,h.cell 2,h.cell 3,h.cell 4,h.cell 5⟩
 simp only[←hnn.out,←hlm0.out]at hkr
 rw[←hlm0.out]at x5
 rw[←hnn.out,←hlm0.out]at hWl
 have HKR:=Zai hkr
 have HXE:=Zai hXe
 have HLEN:=Zai hlen
 have HBR:=Zai hbr
 have HPT:=Zai hpt
 have HTX:=Zai hTx
 have HLI:=Zai hLi
 have HES:=Zai hEs
 have HRL:r.length=6:=by rw[hrw];rfl
 have HR0:=Zai hr0
 clear hW h hE hb0 HX hkr hXe hlen hbr hpt hTx hLi hEs hright hrs hr0
 rw[show (Value.agg r.toArray)=.agg #[.int .u8 7,.int .i64 n,.string s,.string t,.slice A ns.length cA,.slice B l.length cB] from by rw[hrw];rfl]
 rw[←hnn.out,←hlm0.out]
 clear hrw
 have hp7:ns.length=l.length∧Zna ns=true:=by have h9:=HPT.out;simpa [Zcx] using h9
 have hps:=Zfl b _ [⟨#[123]⟩] W hP1 (by simp) (by have h1:=HLEN.out;have h2:=HXE.out;rw[h2]at h1;simp only[Zet,List.flatMap_cons,List.flatMap_nil,List.append_nil,List.length_append,List.length_cons,List.length_nil,Zax,Zez,Zdo,Zaz,Zl3,Zl4,wIf,Zeu,Zem,Zjt,wIs,Zel]at h1 ⊢;omega)
 rw[show Zet [⟨#[123]⟩]=[123] from rfl]at hps
 go_enter Tryz.func21,Tryz.ntmps21
 go_upto_region 1 with (first|(at_builtin;fail))
 rw[←hk3.out,←hWl.out]
 clear hWl
 go_wp2_with (first|(at_builtin;fail))
 refine hps.mono ?_
 clear hps
 rintro e w1 ⟨rfl,hP2,hK2⟩
 have kr2:=hK2.blk kr (by omega) (by decide)
 have hE2:=hE1.step hK2
 have hK3:=hK1.trans hK2
 have hpp:=pparts7_w w0 P n s t ns l r HR0.out hp7.1 (fun x hx=>labs_quot hp7.2 hx) ih b _ w1 hE2 hP2 (by have h1:=HLEN.out;have h2:=HXE.out;rw[h2]at h1;simp only[Zet,List.flatMap_cons,List.flatMap_nil,List.append_nil,List.length_append,List.length_cons,List.length_nil,Zax,Zez,Zdo,Zaz,Zl3,Zl4,wIf,Zeu,Zem,Zjt,wIs,Zel]at h1 ⊢;omega)
 go_wp2_with (first
  | (at_builtin;fail)
  | refine wpList_load_row rfl 26 _ rfl _ rfl 26 r.toArray (0,0) _ kr2 Tryz.underlying26 rfl (kE6 HRL) ?_)
 refine hpp.mono ?_
 clear hpp
 rintro e w2 ⟨rfl,hP4,hK4⟩
 have hK5:=hK3.trans hK4
 have hps:=Zfl b _ [⟨#[125]⟩] w2 hP4 (by simp) (by have h1:=HLEN.out;have h2:=HXE.out;rw[h2]at h1;simp only[Zet,List.flatMap_cons,List.flatMap_nil,List.append_nil,List.length_append,List.length_cons,List.length_nil,Zax,Zez,Zdo,Zaz,Zl3,Zl4,wIf,Zeu,Zem,Zjt,wIs,Zel]at h1 ⊢;omega)
 rw[show Zet [⟨#[125]⟩]=[125] from rfl]at hps
 go_wp2_with (first|(at_builtin;fail))
 refine hps.mono ?_
 clear hps
 rintro e w9 ⟨rfl,hP9,hK9⟩
 go_wp2_with (first|(at_builtin;fail))
 go_end0
 refine ⟨rfl,?_,hK5.trans hK9⟩
 rw[HXE.out]
 simpa using hP9
set_option maxRecDepth 100000 in
theorem pexpr_12 (w0:World) (P:Nat→Prop) (n:Int) (s t:ByteArray) (ns:List ByteArray) (l:List Et) (r:List Value) (hr:EAt w0 P (.mk 12 n s t ns l) r) (hright:Zbt (.mk 12 n s t ns l)=true) (ih:∀ x q,x ∈ l→EAt w0 P x q→PrX w0 q (Zao x)):PrX w0 r (Zao (.mk 12 n s t ns l)):=by
 intro b acc w hE h hlen
 obtain ⟨hc,hbr,hpt,hrs⟩:=Zbh hright
 have hr0:=hr
 rw[EAt]at hr
 obtain ⟨A,cA,B,cB,rows,hrw,hnum,hTx,hnsz,⟨hnl,-,hll,-⟩,-,hLi,hEs⟩:=hr
 unfold Zbq at hnl hll
 obtain ⟨X,HX⟩:=Zaf (Zao (.mk 12 n s t ns l))
 have hXe:X=33 :: (Zaz l).getD 0 []:=by rw[HX.out,Zao];rfl
 rw[←HX.out]at hlen ⊢
 have kr:=Blk.new w r 26
 have hb0:=Zac w (.cells r.toArray 26)
 have hP1:=h.below hb0
 have hE1:=hE.below hb0
 have hK1:=KA.of2 hb0 h
 have hgb:=PBT.lt h
 obtain ⟨W,hW⟩:=Zaf (w.alloc (.cells r.toArray 26))
 have hWl:Hid (W=w.alloc (.cells #[.int .u8 12,.int .i64 n,.string s,.string t,.slice A ns.length cA,.slice B l.length cB] 26)):=by
  rw[hrw]at hW
  exact hW
 rw[←hW.out]at kr hP1 hE1 hK1
 obtain ⟨k3,hk3⟩:=Zaf w.heap.size
 rw[←hk3.out]at kr hgb
 have x0:W.cell? ⟨k3,0,none⟩=some (.int .u8 12):=by rw[kr.cell,hrw];rfl
 have x5:W.cell? ⟨k3,5,none⟩=some (.slice B l.length cB):=by rw[kr.cell,hrw];rfl
 have HRW:=Zai hrw
 obtain ⟨nn,hnn⟩:=Zaf ns.length
 obtain ⟨lm,hlm0⟩:=Zaf l.length
 have hkr:∀ u:World,Blk u k3 r 26→u.cell? ⟨k3,0,none⟩=some (.int .u8 12)∧u.cell? ⟨k3,1,none⟩=some (.int .i64 n)∧u.cell? ⟨k3,2,none⟩=some (.string s)∧u.cell? ⟨k3,3,none⟩=some (.string t)∧u.cell? ⟨k3,4,none⟩=some (.slice A ns.length cA)∧u.cell? ⟨k3,5,none⟩=some (.slice B l.length cB):=fun u h=>by
  rw[HRW.out]at h
  exact ⟨h.cell 0,h.cell 1,h.cell 2,h.cell 3,h.cell 4,h.cell 5⟩
 simp only[←hnn.out,←hlm0.out]at hkr
 rw[←hlm0.out]at x5
 rw[←hnn.out,←hlm0.out]at hWl
 have HKR:=Zai hkr
 have HXE:=Zai hXe
 have HLEN:=Zai hlen
 have HBR:=Zai hbr
 have HPT:=Zai hpt
 have HTX:=Zai hTx
 have HLI:=Zai hLi
 have HES:=Zai hEs
 have HRL:r.length=6:=by rw[hrw];rfl
 have HR0:=Zai hr0
 clear hW h hE hb0 HX hkr hXe hlen hbr hpt hTx hLi hEs hright hrs hr0
 rw[show (Value.agg r.toArray)=.agg #[.int .u8 12,.int .i64 n,.string s,.string t,.slice A ns.length cA,.slice B l.length cB] from by rw[hrw];rfl]
 rw[←hnn.out,←hlm0.out]
 clear hrw
 have hlm:l.length=1:=by simpa [Zld,Zfn] using hc
 have hlmN:lm=1:=hlm0.out.trans hlm
 have hI0:(0:Int) < (lm:Int):=by omega
 have hN0:0 < lm:=by omega
 clear hlmN
 obtain ⟨y0,rfl⟩:∃ y0,l=[y0]:=List.length_eq_one_iff.1 hlm
 obtain ⟨q0,hq0,hv0⟩:=(Zbm HES.out).2 0 y0 rfl
 have hX0:=ih y0 q0 (by simp) hv0
 have hw0:=Zcf hv0
 have h60:=Zcl hw0
 obtain ⟨gB,oB,rfl,-⟩:=HLI.out.2 (by
  have h9:=Zci HES.out
  intro e
  rw[e]at h9
  simp at h9)
 have hg0:=Zdt HLI.out (Zbl HES.out) hq0
 have hk:=Zie w0 q0 (Zao y0) hw0 hX0 b acc ⟨#[33]⟩ ⟨#[]⟩ W hE1 hP1 (by have h1:=HLEN.out;have h2:=HXE.out;rw[h2]at h1;simp only[Zet,List.flatMap_cons,List.flatMap_nil,List.append_nil,List.length_append,List.length_cons,List.length_nil,Zax,Zez,Zdo,Zaz,Zl3,Zl4,wIf,Zeu,Zem,Zjt,wIs,Zel]at h1 ⊢;omega)
 go_enter Tryz.func21,Tryz.ntmps21
 go_upto_region 1 with (first|(at_builtin;fail))
 rw[←hk3.out,←hWl.out]
 clear hWl
 go_wp2_with (first
  | (at_builtin;fail)
  | refine wpList_load_mid rfl 26 _ rfl gB (oB+0 * 6) rfl q0 _ (Zbf hg0 hE1.bw) Tryz.underlying26 rfl (Zqh h60.1) ?_)
 refine hk.mono ?_
 clear hk
 rintro e w9 ⟨rfl,hP9,hK9⟩
 go_wp2_with (first|(at_builtin;fail))
 go_end0
 refine ⟨rfl,?_,hK1.trans hK9⟩
 rw[HXE.out]
 simpa [Zaz] using hP9
set_option maxRecDepth 100000 in
theorem pexpr_13 (w0:World) (P:Nat→Prop) (n:Int) (s t:ByteArray) (ns:List ByteArray) (l:List Et) (r:List Value) (hr:EAt w0 P (.mk 13 n s t ns l) r) (hright:Zbt (.mk 13 n s t ns l)=true) (ih:∀ x q,x ∈ l→EAt w0 P x q→PrX w0 q (Zao x)):PrX w0 r (Zao (.mk 13 n s t ns l)):=by
 intro b acc w hE h hlen
 obtain ⟨hc,hbr,hpt,hrs⟩:=Zbh hright
 have hr0:=hr
 rw[EAt]at hr
 obtain ⟨A,cA,B,cB,rows,hrw,hnum,hTx,hnsz,⟨hnl,-,hll,-⟩,-,hLi,hEs⟩:=hr
 unfold Zbq at hnl hll
 obtain ⟨X,HX⟩:=Zaf (Zao (.mk 13 n s t ns l))
 have hXe:X=45 :: (Zaz l).getD 0 []:=by rw[HX.out,Zao];rfl
 rw[←HX.out]at hlen ⊢
 have kr:=Blk.new w r 26
 have hb0:=Zac w (.cells r.toArray 26)
 have hP1:=h.below hb0
 have hE1:=hE.below hb0
 have hK1:=KA.of2 hb0 h
 have hgb:=PBT.lt h
 obtain ⟨W,hW⟩:=Zaf (w.alloc (.cells r.toArray 26))
 have hWl:Hid (W=w.alloc (.cells #[.int .u8 13,.int .i64 n,.string s,.string t,.slice A ns.length cA,.slice B l.length cB] 26)):=by
  rw[hrw]at hW
  exact hW
 rw[←hW.out]at kr hP1 hE1 hK1
 obtain ⟨k3,hk3⟩:=Zaf w.heap.size
 rw[←hk3.out]at kr hgb
 have x0:W.cell? ⟨k3,0,none⟩=some (.int .u8 13):=by rw[kr.cell,hrw];rfl
 have x5:W.cell? ⟨k3,5,none⟩=some (.slice B l.length cB):=by rw[kr.cell,hrw];rfl
 have HRW:=Zai hrw
 obtain ⟨nn,hnn⟩:=Zaf ns.length
 obtain ⟨lm,hlm0⟩:=Zaf l.length
 have hkr:∀ u:World,Blk u k3 r 26→u.cell? ⟨k3,0,none⟩=some (.int .u8 13)∧u.cell? ⟨k3,1,none⟩=some (.int .i64 n)∧u.cell? ⟨k3,2,none⟩=some (.string s)∧u.cell? ⟨k3,3,none⟩=some (.string t)∧u.cell? ⟨k3,4,none⟩=some (.slice A ns.length cA)∧u.cell? ⟨k3,5,none⟩=some (.slice B l.length cB):=fun u h=>by
  rw[HRW.out]at h
  exact ⟨h.cell 0,h.cell 1,h.cell 2,h.cell 3,h.cell 4,h.cell 5⟩
 simp only[←hnn.out,←hlm0.out]at hkr
 rw[←hlm0.out]at x5
 rw[←hnn.out,←hlm0.out]at hWl
 have HKR:=Zai hkr
 have HXE:=Zai hXe
 have HLEN:=Zai hlen
 have HBR:=Zai hbr
 have HPT:=Zai hpt
 have HTX:=Zai hTx
 have HLI:=Zai hLi
 have HES:=Zai hEs
 have HRL:r.length=6:=by rw[hrw];rfl
 have HR0:=Zai hr0
 clear hW h hE hb0 HX hkr hXe hlen hbr hpt hTx hLi hEs hright hrs hr0
 rw[show (Value.agg r.toArray)=.agg #[.int .u8 13,.int .i64 n,.string s,.string t,.slice A ns.length cA,.slice B l.length cB] from by rw[hrw];rfl]
 rw[←hnn.out,←hlm0.out]
 clear hrw
 have hlm:l.length=1:=by simpa [Zld,Zfn] using hc
 have hlmN:lm=1:=hlm0.out.trans hlm
 have hI0:(0:Int) < (lm:Int):=by omega
 have hN0:0 < lm:=by omega
 clear hlmN
 obtain ⟨y0,rfl⟩:∃ y0,l=[y0]:=List.length_eq_one_iff.1 hlm
 obtain ⟨q0,hq0,hv0⟩:=(Zbm HES.out).2 0 y0 rfl
 have hX0:=ih y0 q0 (by simp) hv0
 have hw0:=Zcf hv0
 have h60:=Zcl hw0
 obtain ⟨gB,oB,rfl,-⟩:=HLI.out.2 (by
  have h9:=Zci HES.out
  intro e
  rw[e]at h9
  simp at h9)
 have hg0:=Zdt HLI.out (Zbl HES.out) hq0
 have hk:=Zie w0 q0 (Zao y0) hw0 hX0 b acc ⟨#[45]⟩ ⟨#[]⟩ W hE1 hP1 (by have h1:=HLEN.out;have h2:=HXE.out;rw[h2]at h1;simp only[Zet,List.flatMap_cons,List.flatMap_nil,List.append_nil,List.length_append,List.length_cons,List.length_nil,Zax,Zez,Zdo,Zaz,Zl3,Zl4,wIf,Zeu,Zem,Zjt,wIs,Zel]at h1 ⊢;omega)
 go_enter Tryz.func21,Tryz.ntmps21
 go_upto_region 1 with (first|(at_builtin;fail))
 rw[←hk3.out,←hWl.out]
 clear hWl
 go_wp2_with (first
  | (at_builtin;fail)
  | refine wpList_load_mid rfl 26 _ rfl gB (oB+0 * 6) rfl q0 _ (Zbf hg0 hE1.bw) Tryz.underlying26 rfl (Zqh h60.1) ?_)
 refine hk.mono ?_
 clear hk
 rintro e w9 ⟨rfl,hP9,hK9⟩
 go_wp2_with (first|(at_builtin;fail))
 go_end0
 refine ⟨rfl,?_,hK1.trans hK9⟩
 rw[HXE.out]
 simpa [Zaz] using hP9
set_option maxRecDepth 100000 in
theorem pexpr_14 (w0:World) (P:Nat→Prop) (n:Int) (s t:ByteArray) (ns:List ByteArray) (l:List Et) (r:List Value) (hr:EAt w0 P (.mk 14 n s t ns l) r) (hright:Zbt (.mk 14 n s t ns l)=true) (ih:∀ x q,x ∈ l→EAt w0 P x q→PrX w0 q (Zao x)):PrX w0 r (Zao (.mk 14 n s t ns l)):=by
 intro b acc w hE h hlen
 obtain ⟨hc,hbr,hpt,hrs⟩:=Zbh hright
 have hr0:=hr
 rw[EAt]at hr
 obtain ⟨A,cA,B,cB,rows,hrw,hnum,hTx,hnsz,⟨hnl,-,hll,-⟩,-,hLi,hEs⟩:=hr
 unfold Zbq at hnl hll
 obtain ⟨X,HX⟩:=Zaf (Zao (.mk 14 n s t ns l))
 have hXe:X=40 :: (wIf ++ 32 :: ((Zaz l).getD 0 [] ++ 32 :: (Zeu ++ 32 :: ((Zaz l).getD 1 [] ++ 32 :: (Zem ++ 32 :: ((Zaz l).getD 2 [] ++ [41])))))):=by rw[HX.out,Zao];rfl
 rw[←HX.out]at hlen ⊢
 have kr:=Blk.new w r 26
 have hb0:=Zac w (.cells r.toArray 26)
 have hP1:=h.below hb0
 have hE1:=hE.below hb0
 have hK1:=KA.of2 hb0 h
 have hgb:=PBT.lt h
 obtain ⟨W,hW⟩:=Zaf (w.alloc (.cells r.toArray 26))
 have hWl:Hid (W=w.alloc (.cells #[.int .u8 14,.int .i64 n,.string s,.string t,.slice A ns.length cA,.slice B l.length cB] 26)):=by
  rw[hrw]at hW
  exact hW
 rw[←hW.out]at kr hP1 hE1 hK1
 obtain ⟨k3,hk3⟩:=Zaf w.heap.size
 rw[←hk3.out]at kr hgb
 have x0:W.cell? ⟨k3,0,none⟩=some (.int .u8 14):=by rw[kr.cell,hrw];rfl
 have x5:W.cell? ⟨k3,5,none⟩=some (.slice B l.length cB):=by rw[kr.cell,hrw];rfl
 have HRW:=Zai hrw
 obtain ⟨nn,hnn⟩:=Zaf ns.length
 obtain ⟨lm,hlm0⟩:=Zaf l.length
 have hkr:∀ u:World,Blk u k3 r 26→u.cell? ⟨k3,0,none⟩=some (.int .u8 14)∧u.cell? ⟨k3,1,none⟩=some (.int .i64 n)∧u.cell? ⟨k3,2,none⟩=some (.string s)∧u.cell? ⟨k3,3,none⟩=some (.string t)∧u.cell? ⟨k3,4,none⟩=some (.slice A ns.length cA)∧u.cell? ⟨k3,5,none⟩=some (.slice B l.length cB):=fun u h=>by
  rw[HRW.out]at h
  exact ⟨h.cell 0,h.cell 1,h.cell 2,h.cell 3,h.cell 4,h.cell 5⟩
 simp only[←hnn.out,←hlm0.out]at hkr
 rw[←hlm0.out]at x5
 rw[←hnn.out,←hlm0.out]at hWl
 have HKR:=Zai hkr
 have HXE:=Zai hXe
 have HLEN:=Zai hlen
 have HBR:=Zai hbr
 have HPT:=Zai hpt
 have HTX:=Zai hTx
 have HLI:=Zai hLi
 have HES:=Zai hEs
 have HRL:r.length=6:=by rw[hrw];rfl
 have HR0:=Zai hr0
 clear hW h hE hb0 HX hkr hXe hlen hbr hpt hTx hLi hEs hright hrs hr0
 rw[show (Value.agg r.toArray)=.agg #[.int .u8 14,.int .i64 n,.string s,.string t,.slice A ns.length cA,.slice B l.length cB] from by rw[hrw];rfl]
 rw[←hnn.out,←hlm0.out]
 clear hrw
 have hlm:l.length=3:=by simpa [Zld,Zfn] using hc
 have hlmN:lm=3:=hlm0.out.trans hlm
 have hI0:(0:Int) < (lm:Int):=by omega
 have hN0:0 < lm:=by omega
 have hI1:(1:Int) < (lm:Int):=by omega
 have hN1:1 < lm:=by omega
 have hI2:(2:Int) < (lm:Int):=by omega
 have hN2:2 < lm:=by omega
 clear hlmN
 obtain ⟨y0,y1,y2,rfl⟩:∃ y0 y1 y2,l=[y0,y1,y2]:=Zvi hlm
 obtain ⟨q0,hq0,hv0⟩:=(Zbm HES.out).2 0 y0 rfl
 have hX0:=ih y0 q0 (by simp) hv0
 have hw0:=Zcf hv0
 have h60:=Zcl hw0
 obtain ⟨q1,hq1,hv1⟩:=(Zbm HES.out).2 1 y1 rfl
 have hX1:=ih y1 q1 (by simp) hv1
 have hw1:=Zcf hv1
 have h61:=Zcl hw1
 obtain ⟨q2,hq2,hv2⟩:=(Zbm HES.out).2 2 y2 rfl
 have hX2:=ih y2 q2 (by simp) hv2
 have hw2:=Zcf hv2
 have h62:=Zcl hw2
 obtain ⟨gB,oB,rfl,-⟩:=HLI.out.2 (by
  have h9:=Zci HES.out
  intro e
  rw[e]at h9
  simp at h9)
 have hg0:=Zdt HLI.out (Zbl HES.out) hq0
 have hg1:=Zdt HLI.out (Zbl HES.out) hq1
 have hg2:=Zdt HLI.out (Zbl HES.out) hq2
 have hk:=Zie w0 q0 (Zao y0) hw0 hX0 b acc ⟨#[40,105,102,32]⟩ ⟨#[32,116,104,101,110,32]⟩ W hE1 hP1 (by have h1:=HLEN.out;have h2:=HXE.out;rw[h2]at h1;simp only[Zet,List.flatMap_cons,List.flatMap_nil,List.append_nil,List.length_append,List.length_cons,List.length_nil,Zax,Zez,Zdo,Zaz,Zl3,Zl4,wIf,Zeu,Zem,Zjt,wIs,Zel]at h1 ⊢;omega)
 go_enter Tryz.func21,Tryz.ntmps21
 go_upto_region 1 with (first|(at_builtin;fail))
 rw[←hk3.out,←hWl.out]
 clear hWl
 go_wp2_with (first
  | (at_builtin;fail)
  | refine wpList_load_mid rfl 26 _ rfl gB (oB+0 * 6) rfl q0 _ (Zbf hg0 hE1.bw) Tryz.underlying26 rfl (Zqh h60.1) ?_)
 refine hk.mono ?_
 clear hk
 rintro e w1 ⟨rfl,hP2,hK2⟩
 have hE2:=hE1.step hK2
 have hK3:=hK1.trans hK2
 have hk:=Zie w0 q1 (Zao y1) hw1 hX1 b _ ⟨#[]⟩ ⟨#[32,101,108,115,101,32]⟩ w1 hE2 hP2 (by have h1:=HLEN.out;have h2:=HXE.out;rw[h2]at h1;simp only[Zet,List.flatMap_cons,List.flatMap_nil,List.append_nil,List.length_append,List.length_cons,List.length_nil,Zax,Zez,Zdo,Zaz,Zl3,Zl4,wIf,Zeu,Zem,Zjt,wIs,Zel]at h1 ⊢;omega)
 go_wp2_with (first
  | (at_builtin;fail)
  | refine wpList_load_mid rfl 26 _ rfl gB (oB+1 * 6) rfl q1 _ (Zbf hg1 hE2.bw) Tryz.underlying26 rfl (Zqh h61.1) ?_)
 refine hk.mono ?_
 clear hk
 rintro e w2 ⟨rfl,hP4,hK4⟩
 have hE4:=hE2.step hK4
 have hK5:=hK3.trans hK4
 have hk:=Zie w0 q2 (Zao y2) hw2 hX2 b _ ⟨#[]⟩ ⟨#[41]⟩ w2 hE4 hP4 (by have h1:=HLEN.out;have h2:=HXE.out;rw[h2]at h1;simp only[Zet,List.flatMap_cons,List.flatMap_nil,List.append_nil,List.length_append,List.length_cons,List.length_nil,Zax,Zez,Zdo,Zaz,Zl3,Zl4,wIf,Zeu,Zem,Zjt,wIs,Zel]at h1 ⊢;omega)
 go_wp2_with (first
  | (at_builtin;fail)
  | refine wpList_load_mid rfl 26 _ rfl gB (oB+2 * 6) rfl q2 _ (Zbf hg2 hE4.bw) Tryz.underlying26 rfl (Zqh h62.1) ?_)
 refine hk.mono ?_
 clear hk
 rintro e w9 ⟨rfl,hP9,hK9⟩
 go_wp2_with (first|(at_builtin;fail))
 go_end0
 refine ⟨rfl,?_,hK5.trans hK9⟩
 have e9:X=[40,105,102,32] ++ (Zao y0 ++ [32,116,104,101,110,32]) ++ (Zao y1 ++ [32,101,108,115,101,32]) ++ (Zao y2 ++ [41]):=by
  rw[HXE.out]
  simp[Zaz,wIf,Zeu,Zem]
 rw[e9]
 simpa using hP9
end Go.Proofs.YtnhooehmcggmdaaGreatDoor
namespace Go.Proofs.YtnhooehmcggmdaaGreatDoor
set_option maxHeartbeats 16000000
set_option linter.unusedVariables false
set_option linter.unusedSimpArgs false
set_option linter.unusedSectionVars false
open Go.RowKit
set_option maxRecDepth 100000 in
theorem pexpr_8 (w0:World) (P:Nat→Prop) (n:Int) (s t:ByteArray) (ns:List ByteArray) (l:List Et) (r:List Value) (hr:EAt w0 P (.mk 8 n s t ns l) r) (hright:Zbt (.mk 8 n s t ns l)=true) (ih:∀ x q,x ∈ l→EAt w0 P x q→PrX w0 q (Zao x)):PrX w0 r (Zao (.mk 8 n s t ns l)):=by
 intro b acc w hE h hlen
 obtain ⟨hc,hbr,hpt,hrs⟩:=Zbh hright
 have hr0:=hr
 rw[EAt]at hr
 obtain ⟨A,cA,B,cB,rows,hrw,hnum,hTx,hnsz,⟨hnl,-,hll,-⟩,-,hLi,hEs⟩:=hr
 unfold Zbq at hnl hll
 obtain ⟨X,HX⟩:=Zaf (Zao (.mk 8 n s t ns l))
 have hXe:X=Zha (l.head?.elim false unE) ((Zaz l).getD 0 []) ++ (if Zcu s.data.toList then 46 :: s.data.toList else 91 :: (Zbi s.data.toList ++ [93])):=by rw[HX.out,Zao];rfl
 rw[←HX.out]at hlen ⊢
 have kr:=Blk.new w r 26
 have hb0:=Zac w (.cells r.toArray 26)
 have hP1:=h.below hb0
 have hE1:=hE.below hb0
 have hK1:=KA.of2 hb0 h
 have hgb:=PBT.lt h
 obtain ⟨W,hW⟩:=Zaf (w.alloc (.cells r.toArray 26))
 have hWl:Hid (W=w.alloc (.cells #[.int .u8 8,.int .i64 n,.string s,.string t,.slice A ns.length cA,.slice B l.length cB] 26)):=by
  rw[hrw]at hW
  exact hW
 rw[←hW.out]at kr hP1 hE1 hK1
 obtain ⟨k3,hk3⟩:=Zaf w.heap.size
 rw[←hk3.out]at kr hgb
 have x0:W.cell? ⟨k3,0,none⟩=some (.int .u8 8):=by rw[kr.cell,hrw];rfl
 have x5:W.cell? ⟨k3,5,none⟩=some (.slice B l.length cB):=by rw[kr.cell,hrw];rfl
 have HRW:=Zai hrw
 obtain ⟨nn,hnn⟩:=Zaf ns.length
 obtain ⟨lm,hlm0⟩:=Zaf l.length
 have hkr:∀ u:World,Blk u k3 r 26→u.cell? ⟨k3,0,none⟩=some (.int .u8 8)∧u.cell? ⟨k3,1,none⟩=some (.int .i64 n)∧u.cell? ⟨k3,2,none⟩=some (.string s)∧u.cell? ⟨k3,3,none⟩=some (.string t)∧u.cell? ⟨k3,4,none⟩=some (.slice A ns.length cA)∧u.cell? ⟨k3,5,none⟩=some (.slice B l.length cB):=fun u h=>by
  rw[HRW.out]at h
  exact ⟨h.cell 0,h.cell 1,h.cell 2,h.cell 3,h.cell 4,h.cell 5⟩
 simp only[←hnn.out,←hlm0.out]at hkr
 rw[←hlm0.out]at x5
 rw[←hnn.out,←hlm0.out]at hWl
 have HKR:=Zai hkr
 have HXE:=Zai hXe
 have HLEN:=Zai hlen
 have HBR:=Zai hbr
 have HPT:=Zai hpt
 have HTX:=Zai hTx
 have HLI:=Zai hLi
 have HES:=Zai hEs
 have HRL:r.length=6:=by rw[hrw];rfl
 have HR0:=Zai hr0
 clear hW h hE hb0 HX hkr hXe hlen hbr hpt hTx hLi hEs hright hrs hr0
 rw[show (Value.agg r.toArray)=.agg #[.int .u8 8,.int .i64 n,.string s,.string t,.slice A ns.length cA,.slice B l.length cB] from by rw[hrw];rfl]
 rw[←hnn.out,←hlm0.out]
 clear hrw
 have hlm:l.length=1:=by simpa [Zld,Zfn] using hc
 have hlmN:lm=1:=hlm0.out.trans hlm
 have hI0:(0:Int) < (lm:Int):=by omega
 have hN0:0 < lm:=by omega
 clear hlmN
 obtain ⟨y0,rfl⟩:∃ y0,l=[y0]:=List.length_eq_one_iff.1 hlm
 obtain ⟨q0,hq0,hv0⟩:=(Zbm HES.out).2 0 y0 rfl
 have hX0:=ih y0 q0 (by simp) hv0
 have hw0:=Zcf hv0
 have h60:=Zcl hw0
 obtain ⟨gB,oB,rfl,-⟩:=HLI.out.2 (by
  have h9:=Zci HES.out
  intro e
  rw[e]at h9
  simp at h9)
 have hg0:=Zdt HLI.out (Zbl HES.out) hq0
 have hlb:Zoe s=true:=by have h9:=HPT.out;simpa [Zcx] using h9
 have hqu:=Zod hlb
 have hy0:unE y0=decide (y0.op=12∨y0.op=13):=rfl
 obtain ⟨o1,n1,s1,t1,ns1,l1⟩:=y0
 obtain ⟨A1,c1,B1,d1,hq9⟩:∃ A1 c1 B1 d1,q0=Zav o1 n1 s1 t1 (.slice A1 ns1.length c1) (.slice B1 l1.length d1):=by
  have h9:=hv0
  rw[EAt]at h9
  obtain ⟨A1,c1,B1,d1,rows1,e9,_⟩:=h9
  exact ⟨A1,c1,B1,d1,e9⟩
 obtain ⟨y0,hyy⟩:=Zaf (Et.mk o1 n1 s1 t1 ns1 l1)
 have hun:unE y0=decide (o1=12∨o1=13):=by rw[hyy.out];rfl
 rw[←hyy.out]at hX0 hv0 HXE HES
 have hk:=Zsn w0 o1 n1 s1 t1 A1 ns1.length c1 B1 l1.length d1 q0 hq9 (Zao y0) hX0 b acc W hE1 hP1 (by
  have h1:=HLEN.out
  have h2:=HXE.out
  have h3:X=Zha (decide (o1=12∨o1=13)) (Zao y0) ++ (if Zcu s.data.toList then 46 :: s.data.toList else 91 :: (Zbi s.data.toList ++ [93])):=by rw[h2,←hun];rfl
  rw[h3,List.length_append]at h1
  omega)
 have hXb:Hid (X=Zha (decide (o1=12∨o1=13)) (Zao y0) ++ (if Zcu s.data.toList then 46 :: s.data.toList else 91 :: (Zbi s.data.toList ++ [93]))):=Zai (by rw[HXE.out,←hun];rfl)
 obtain ⟨K,hK⟩:=Zaf (Zha (decide (o1=12∨o1=13)) (Zao y0))
 rw[←hK.out]at hk hXb
 clear hK hun hq9 hy0 HES HXE hv0 hX0 hyy
 go_enter Tryz.func21,Tryz.ntmps21
 go_upto_region 1 with (first|(at_builtin;fail))
 rw[←hk3.out,←hWl.out]
 clear hWl
 go_wp2_with (first
  | (at_builtin;fail)
  | refine wpList_load_mid rfl 26 _ rfl gB (oB+0 * 6) rfl q0 _ (Zbf hg0 hE1.bw) Tryz.underlying26 rfl (Zqh h60.1) ?_)
 refine hk.mono ?_
 clear hk
 rintro e w1 ⟨rfl,hP2,hK2⟩
 have hE2:=hE1.step hK2
 have hK3:=hK1.trans hK2
 have kr2:=hK2.blk kr (by omega) (by decide)
 have y2:=(HKR.out w1 kr2).2.2.1
 have hsz:=hnum.2.2.2.1
 unfold Zbq at hsz
 have hnm:=name_w s w1 (by omega) hE2.tbs.space
 obtain ⟨N,hN⟩:=Zaf (Zcu s.data.toList)
 rw[←hN.out]at hnm hXb
 clear hN x0 x5
 go_wp2_with (first|(at_builtin;fail))
 refine hnm.mono ?_
 clear hnm
 rintro e w2 ⟨rfl,hb2⟩
 have hP4:=hP2.below hb2
 have hE4:=hE2.below hb2
 have hK5:=hK3.trans (KA.of2 hb2 hP2)
 have kr4:=kr2.below hb2
 have z2:=(HKR.out w2 kr4).2.2.1
 clear y2
 cases N with
 | true=>
   have hXc:Hid (X=K ++ 46 :: s.data.toList):=Zai (by rw[hXb.out];rfl)
   have hps:=Zfl b _ [⟨#[46]⟩,s] w2 hP4 (by simp) (by have h1:=HLEN.out;rw[hXc.out]at h1;simp only[Zet,List.flatMap_cons,List.flatMap_nil,List.append_nil,List.length_append,List.length_cons,List.length_nil]at h1 ⊢;omega)
   rw[show Zet [⟨#[46]⟩,s]=46 :: s.data.toList from by simp[Zet]]at hps
   go_wp2_with (first|(at_builtin;fail))
   refine hps.mono ?_
   clear hps
   rintro e w9 ⟨rfl,hP9,hK9⟩
   go_wp2_with (first|(at_builtin;fail))
   go_end0
   refine ⟨rfl,?_,hK5.trans hK9⟩
   rw[hXc.out,←List.append_assoc]
   exact hP9
 | false=>
   have hXc:Hid (X=K ++ 91 :: (Zbi s.data.toList ++ [93])):=Zai (by rw[hXb.out];rfl)
   have hqd:=Zkc s w2 hqu hE4.tbs
   go_wp2_with (first|(at_builtin;fail))
   refine hqd.mono ?_
   clear hqd
   rintro e w3 ⟨rfl,hb3⟩
   have hP5:=hP4.below hb3
   have hK6:=hK5.trans (KA.of2 hb3 hP4)
   have hps:=Zfl b _ [⟨#[91]⟩,str (Zbi s.data.toList),⟨#[93]⟩] w3 hP5 (by simp) (by have h1:=HLEN.out;rw[hXc.out]at h1;simp only[Zet,List.flatMap_cons,List.flatMap_nil,List.append_nil,List.length_append,List.length_cons,List.length_nil,Zax]at h1 ⊢;omega)
   rw[show Zet [⟨#[91]⟩,str (Zbi s.data.toList),⟨#[93]⟩]=91 :: (Zbi s.data.toList ++ [93]) from by simp[Zet,Zax]]at hps
   go_wp2_with (first|(at_builtin;fail))
   refine hps.mono ?_
   clear hps
   rintro e w9 ⟨rfl,hP9,hK9⟩
   go_wp2_with (first|(at_builtin;fail))
   go_end0
   refine ⟨rfl,?_,hK6.trans hK9⟩
   rw[hXc.out,←List.append_assoc]
   exact hP9
end Go.Proofs.YtnhooehmcggmdaaGreatDoor
