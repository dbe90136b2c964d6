/- Parts of a proof about the given program: XPr6, XPr7. -/
import Derived.Test.YtnhooehmcggmdaaGreatDoorZ24
namespace Go.Proofs.YtnhooehmcggmdaaGreatDoor
set_option maxHeartbeats 16000000
set_option linter.unusedVariables false
set_option linter.unusedSimpArgs false
set_option linter.unusedSectionVars false
open Go.RowKit
set_option maxRecDepth 100000 in
theorem pexpr_4 (w0:World) (P:Nat→Prop) (n:Int) (s t:ByteArray) (ns:List ByteArray) (l:List Et) (r:List Value) (hr:EAt w0 P (.mk 4 n s t ns l) r) (hright:Zbt (.mk 4 n s t ns l)=true) (ih:∀ x q,x ∈ l→EAt w0 P x q→PrX w0 q (Zao x)):PrX w0 r (Zao (.mk 4 n s t ns l)):=by
 intro b acc w hE h hlen
 obtain ⟨hc,hbr,hpt,hrs⟩:=Zbh hright
 have hr0:=hr
 rw[EAt]at hr
 obtain ⟨A,cA,B,cB,rows,hrw,hnum,hTx,hnsz,⟨hnl,-,hll,-⟩,-,hLi,hEs⟩:=hr
 unfold Zbq at hnl hll
 obtain ⟨X,HX⟩:=Zaf (Zao (.mk 4 n s t ns l))
 have hXe:X=t.data.toList ++ 58 :: 58 :: Zbi s.data.toList:=by rw[HX.out,Zao];rfl
 rw[←HX.out]at hlen ⊢
 have kr:=Blk.new w r 26
 have hb0:=Zac w (.cells r.toArray 26)
 have hP1:=h.below hb0
 have hE1:=hE.below hb0
 have hK1:=KA.of2 hb0 h
 have hgb:=PBT.lt h
 obtain ⟨W,hW⟩:=Zaf (w.alloc (.cells r.toArray 26))
 have hWl:Hid (W=w.alloc (.cells #[.int .u8 4,.int .i64 n,.string s,.string t,.slice A ns.length cA,.slice B l.length cB] 26)):=by
  rw[hrw]at hW
  exact hW
 rw[←hW.out]at kr hP1 hE1 hK1
 obtain ⟨k3,hk3⟩:=Zaf w.heap.size
 rw[←hk3.out]at kr hgb
 have x0:W.cell? ⟨k3,0,none⟩=some (.int .u8 4):=by rw[kr.cell,hrw];rfl
 have x5:W.cell? ⟨k3,5,none⟩=some (.slice B l.length cB):=by rw[kr.cell,hrw];rfl
 have HRW:=Zai hrw
 obtain ⟨nn,hnn⟩:=Zaf ns.length
 obtain ⟨lm,hlm0⟩:=Zaf l.length
 have hkr:∀ u:World,Blk u k3 r 26→u.cell? ⟨k3,0,none⟩=some (.int .u8 4)∧u.cell? ⟨k3,1,none⟩=some (.int .i64 n)∧u.cell? ⟨k3,2,none⟩=some (.string s)∧u.cell? ⟨k3,3,none⟩=some (.string t)∧u.cell? ⟨k3,4,none⟩=some (.slice A ns.length cA)∧u.cell? ⟨k3,5,none⟩=some (.slice B l.length cB):=fun u h=>by
  rw[HRW.out]at h
  exact ⟨h.cell 0,h.cell 1,h.cell 2,h.cell 3,h.cell 4,h.cell 5⟩
 simp only[←hnn.out,←hlm0.out]at hkr
 rw[←hlm0.out]at x5
 rw[←hnn.out,←hlm0.out]at hWl
 have HKR:=Zai hkr
 have HXE:=Zai hXe
 have HLEN:=Zai hlen
 have HBR:=Zai hbr
 have HPT:=Zai hpt
 have HTX:=Zai hTx
 have HLI:=Zai hLi
 have HES:=Zai hEs
 have HRL:r.length=6:=by rw[hrw];rfl
 have HR0:=Zai hr0
 clear hW h hE hb0 HX hkr hXe hlen hbr hpt hTx hLi hEs hright hrs hr0
 rw[show (Value.agg r.toArray)=.agg #[.int .u8 4,.int .i64 n,.string s,.string t,.slice A ns.length cA,.slice B l.length cB] from by rw[hrw];rfl]
 rw[←hnn.out,←hlm0.out]
 clear hrw
 have hqu:Zfu s=true:=by
  have h9:=HPT.out
  have h8:Zqi t s=true:=by simpa [Zcx] using h9
  unfold Zqi at h8
  rw[Bool.and_eq_true,Bool.and_eq_true]at h8
  have h7:=of_decide_eq_true h8.2
  unfold Zfu
  rw[h8.1.2,decide_eq_true (by omega:s.size≤256)]
  rfl
 have hct:Zet [t,⟨#[58,58]⟩,str (Zbi s.data.toList)]=X:=by rw[HXE.out];simp[Zet,Zax]
 have hsz:acc.length+(Zet [t,⟨#[58,58]⟩,str (Zbi s.data.toList)]).length≤140737488355328:=by rw[hct];have:=HLEN.out;omega
 have HCT:=Zai hct
 clear hct
 go_enter Tryz.func21,Tryz.ntmps21
 go_upto_region 1 with (first|(at_builtin;fail))
 rw[←hk3.out,←hWl.out]
 clear hWl
 go_upto_region 12 with (first|(at_builtin;fail))
 refine Zap (fun L _ u=>(L 7=false→PB b acc u)∧Blk u k3 r 26∧Zll w0 b u∧KA b b W u∧(L 7=true→PB b (acc ++ Zet [t,⟨#[58,58]⟩,str (Zbi s.data.toList)]) u)) (fun _ u u'=>KA b b u u') _ (by kernel_rfl) (by kernel_rfl) (fun v=>by simp only[Zbx,Act.put,List.toList_toArray,Zl2,Zl0,Zl1,Nat.reduceAdd,Nat.zero_add];rfl) ⟨fun _=>hP1.below (Zaj (Below.refl _ _)),kr.below (Zaj (Below.refl _ _)),hE1.below (Zaj (Below.refl _ _)),KA.of (Zaj (Below.refl _ _)) (by have:=kr.lt;omega),fun h=>(by cases h)⟩ (fun L L' v u hL h=>by rw[←hL 7 (by decide)];exact h) ?_
 refine Zaa [] _ (fun L hL hcl v u hS hd K' hK=>by
  simp only[Act.put,Zl2,Zl0,Zl1]at hK
  go_simp
  exact hK.out _ ⟨⟨fun h=>hS.1 (by simpa using h),hS.2.1,hS.2.2.1,hS.2.2.2.1,fun h=>hS.2.2.2.2 (by simpa using h)⟩,KA.refl _ _ _⟩) (by kernel_rfl) (j:=1) rfl ?_
 refine Zaa [] _ (fun L hL hcl v u hS hd K' hK=>by
  simp only[Act.put,Zl2,Zl0,Zl1]at hK
  go_simp
  exact hK.out _ ⟨⟨fun h=>hS.1 (by simpa using h),hS.2.1,hS.2.2.1,hS.2.2.2.1,fun h=>hS.2.2.2.2 (by simpa using h)⟩,KA.refl _ _ _⟩) (by kernel_rfl) (j:=2) rfl ?_
 refine Zaa [1] _ (fun L hL hcl v u hS hd K' hK=>by
  simp only[Zal,Zak,eqv,Zl3,Zl4,Nat.reduceSub]at hd
  simp only[Act.put,Zl2,Zl0,Zl1]at hK
  try simp only[hd]at hK
  have x9:=(HKR.out u hS.2.1).2.2.2.1
  go_simp
  exact hK.out _ ⟨⟨fun h=>hS.1 (by simpa using h),hS.2.1,hS.2.2.1,hS.2.2.2.1,fun h=>hS.2.2.2.2 (by simpa using h)⟩,KA.refl _ _ _⟩) (by kernel_rfl) (j:=3) rfl ?_
 refine Zaa [] _ (fun L hL hcl v u hS hd K' hK=>by
  simp only[Act.put,Zl2,Zl0,Zl1]at hK
  go_simp
  exact hK.out _ ⟨⟨fun h=>hS.1 (by simpa using h),hS.2.1,hS.2.2.1,hS.2.2.2.1,fun h=>hS.2.2.2.2 (by simpa using h)⟩,KA.refl _ _ _⟩) (by kernel_rfl) (j:=4) rfl ?_
 refine Zaa [3] _ (fun L hL hcl v u hS hd K' hK=>by
  simp only[Zal,Zak,eqv,Zl3,Zl4,Nat.reduceSub]at hd
  simp only[Act.put,Zl2,Zl0,Zl1]at hK
  try simp only[hd]at hK
  have x9:=(HKR.out u hS.2.1).2.2.1
  go_simp
  exact hK.out _ ⟨⟨fun h=>hS.1 (by simpa using h),hS.2.1,hS.2.2.1,hS.2.2.2.1,fun h=>hS.2.2.2.2 (by simpa using h)⟩,KA.refl _ _ _⟩) (by kernel_rfl) (j:=5) rfl ?_
 refine Zaa [4] _ (fun L hL hcl v u hS hd K' hK=>by
  simp only[Zal,Zak,eqv,Zl3,Zl4,Nat.reduceSub]at hd
  simp only[Act.put,Zl2,Zl0,Zl1]at hK
  try simp only[hd]at hK
  go_simp
  refine (Zkc s u hqu hS.2.2.1.tbs).mono ?_
  rintro e9 u1 ⟨rfl,hb9⟩
  exact hK.out _ ⟨⟨fun h=>(hS.1 (by simpa using h)).below hb9,hS.2.1.below hb9,hS.2.2.1.below hb9,hS.2.2.2.1.trans (KA.of hb9 (by have:=hS.2.1.lt;omega)),fun h=>(hS.2.2.2.2 (by simpa using h)).below hb9⟩,KA.of hb9 (by have:=hS.2.1.lt;omega)⟩) (by kernel_rfl) (j:=6) rfl ?_
 refine Zam [2,5] (fun v u=>∃ g,v=.slice (some ⟨g,0,none⟩) 3 3∧Blk u g (Zfo [t,⟨#[58,58]⟩,str (Zbi s.data.toList)]) 9∧b < g) ((by
  rintro j x u u' hj hg ⟨g,h1,h2,h3⟩
  exact ⟨g,h1,hg.blk h2 (by omega) (by decide),h3⟩)) (fun L hL hcl v u hS hd K' hK=>by
  simp only[Zal,Zak,eqv,Zl3,Zl4,Nat.reduceSub]at hd
  simp only[Act.put,Zl2,Zl0,Zl1]at hK
  try simp only[hd]at hK
  obtain ⟨h2,h5⟩:=hd
  have hb9:=Zac u (.cells (Zfo [t,⟨#[58,58]⟩,str (Zbi s.data.toList)]).toArray 9)
  have k9:=Blk.new u (Zfo [t,⟨#[58,58]⟩,str (Zbi s.data.toList)]) 9
  simp only[h2,h5]at hK ⊢
  go_simp
  exact hK.out (.slice (some ⟨u.heap.size,0,none⟩) 3 3) _ ⟨⟨fun h=>(hS.1 (by simpa using h)).below hb9,hS.2.1.below hb9,hS.2.2.1.below hb9,hS.2.2.2.1.trans (KA.of hb9 (by have:=hS.2.1.lt;omega)),fun h=>(hS.2.2.2.2 (by simpa using h)).below hb9⟩,KA.of hb9 (by have:=hS.2.1.lt;omega),u.heap.size,rfl,k9,by have:=hS.2.1.lt;omega⟩) (by kernel_rfl) (j:=7) rfl ?_
 refine Zam [0,6] (fun _ _=>True) (fun _ _ _ _ _ _ _=>trivial) (fun L hL hcl v u hS hd K' hK=>by
  simp only[Zal,Zak,eqv,Zl3,Zl4,Nat.reduceSub]at hd
  simp only[Act.put,Zl2,Zl0,Zl1]at hK
  try simp only[hd]at hK
  obtain ⟨h0,g,h1,h2,h3⟩:=hd
  simp only[h0,h1]at hK ⊢
  go_simp
  refine (pput_w b g acc [t,⟨#[58,58]⟩,str (Zbi s.data.toList)] u (hS.1 hL) h2 h3 (by simp) hsz).mono ?_
  rintro e9 u1 ⟨rfl,hP9,hK9⟩
  exact hK.out _ _ ⟨⟨fun h=>by simp at h,hK9.blk hS.2.1 (by omega) (by decide),hS.2.2.1.step hK9,hS.2.2.2.1.trans hK9,fun _=>hP9⟩,hK9,trivial⟩) (by kernel_rfl) (j:=8) rfl ?_
 refine Zau [] (by decide) ?_
 rintro v u hS hR
 obtain ⟨-,z1,z2,z3,z4⟩:=hS
 have z5:=z4 rfl
 rw[HCT.out]at z5
 go_wp2_with (first|(at_builtin;fail))
 go_end0
 exact ⟨rfl,z5,hK1.trans z3⟩
set_option maxRecDepth 100000 in
theorem pexpr_9 (w0:World) (P:Nat→Prop) (n:Int) (s t:ByteArray) (ns:List ByteArray) (l:List Et) (r:List Value) (hr:EAt w0 P (.mk 9 n s t ns l) r) (hright:Zbt (.mk 9 n s t ns l)=true) (ih:∀ x q,x ∈ l→EAt w0 P x q→PrX w0 q (Zao x)):PrX w0 r (Zao (.mk 9 n s t ns l)):=by
 intro b acc w hE h hlen
 obtain ⟨hc,hbr,hpt,hrs⟩:=Zbh hright
 have hr0:=hr
 rw[EAt]at hr
 obtain ⟨A,cA,B,cB,rows,hrw,hnum,hTx,hnsz,⟨hnl,-,hll,-⟩,-,hLi,hEs⟩:=hr
 unfold Zbq at hnl hll
 obtain ⟨X,HX⟩:=Zaf (Zao (.mk 9 n s t ns l))
 have hXe:X=40 :: ((Zaz l).getD 0 [] ++ 32 :: (Zjt ++ 32 :: (Zdi s.data.toList ++ [41]))):=by rw[HX.out,Zao];rfl
 rw[←HX.out]at hlen ⊢
 have kr:=Blk.new w r 26
 have hb0:=Zac w (.cells r.toArray 26)
 have hP1:=h.below hb0
 have hE1:=hE.below hb0
 have hK1:=KA.of2 hb0 h
 have hgb:=PBT.lt h
 obtain ⟨W,hW⟩:=Zaf (w.alloc (.cells r.toArray 26))
 have hWl:Hid (W=w.alloc (.cells #[.int .u8 9,.int .i64 n,.string s,.string t,.slice A ns.length cA,.slice B l.length cB] 26)):=by
  rw[hrw]at hW
  exact hW
 rw[←hW.out]at kr hP1 hE1 hK1
 obtain ⟨k3,hk3⟩:=Zaf w.heap.size
 rw[←hk3.out]at kr hgb
 have x0:W.cell? ⟨k3,0,none⟩=some (.int .u8 9):=by rw[kr.cell,hrw];rfl
 have x5:W.cell? ⟨k3,5,none⟩=some (.slice B l.length cB):=by rw[kr.cell,hrw];rfl
 have HRW:=Zai hrw
 obtain ⟨nn,hnn⟩:=Zaf ns.length
 obtain ⟨lm,hlm0⟩:=Zaf l.length
 have hkr:∀ u:World,Blk u k3 r 26→u.cell? ⟨k3,0,none⟩=some (.int .u8 9)∧u.cell? ⟨k3,1,none⟩=some (.int .i64 n)∧u.cell? ⟨k3,2,none⟩=some (.string s)∧u.cell? ⟨k3,3,none⟩=some (.string t)∧u.cell? ⟨k3,4,none⟩=some (.slice A ns.length cA)∧u.cell? ⟨k3,5,none⟩=some (.slice B l.length cB):=fun u h=>by
  rw[HRW.out]at h
  exact ⟨h.cell 0,h.cell 1,h.cell 2,h.cell 3,h.cell 4,h.cell 5⟩
 simp only[←hnn.out,←hlm0.out]at hkr
 rw[←hlm0.out]at x5
 rw[←hnn.out,←hlm0.out]at hWl
 have HKR:=Zai hkr
 have HXE:=Zai hXe
 have HLEN:=Zai hlen
 have HBR:=Zai hbr
 have HPT:=Zai hpt
 have HTX:=Zai hTx
 have HLI:=Zai hLi
 have HES:=Zai hEs
 have HRL:r.length=6:=by rw[hrw];rfl
 have HR0:=Zai hr0
 clear hW h hE hb0 HX hkr hXe hlen hbr hpt hTx hLi hEs hright hrs hr0
 rw[show (Value.agg r.toArray)=.agg #[.int .u8 9,.int .i64 n,.string s,.string t,.slice A ns.length cA,.slice B l.length cB] from by rw[hrw];rfl]
 rw[←hnn.out,←hlm0.out]
 clear hrw
 have hlb:Zoe s=true:=by have h9:=HPT.out;simpa [Zcx] using h9
 have hqu:=Zod hlb
 have hss:=Zpk hqu
 have hlm:l.length=1:=by simpa [Zld,Zfn] using hc
 have hlmN:lm=1:=hlm0.out.trans hlm
 have hI0:(0:Int) < (lm:Int):=by omega
 have hN0:0 < lm:=by omega
 clear hlmN
 obtain ⟨y0,rfl⟩:∃ y0,l=[y0]:=List.length_eq_one_iff.1 hlm
 obtain ⟨q0,hq0,hv0⟩:=(Zbm HES.out).2 0 y0 rfl
 have hX0:=ih y0 q0 (by simp) hv0
 have hw0:=Zcf hv0
 have h60:=Zcl hw0
 obtain ⟨gB,oB,rfl,-⟩:=HLI.out.2 (by
  have h9:=Zci HES.out
  intro e
  rw[e]at h9
  simp at h9)
 have hg0:=Zdt HLI.out (Zbl HES.out) hq0
 have hz0:w0.rangeAt gB oB q0:=by simpa using hg0
 have HLB:Hid ((Zdi s.data.toList).length≤1000):=Zai (by have:=Zvh s.data.toList;rw[←Lib.size_eq]at this;omega)
 obtain ⟨NT,hNT⟩:=Zaf (str (Zdi s.data.toList))
 obtain ⟨S1,hS1⟩:=Zaf (str ([32,104,97,115,32] ++ Zdi s.data.toList))
 obtain ⟨S2,hS2⟩:=Zaf (str ([32,104,97,115,32] ++ Zdi s.data.toList ++ [41]))
 have ha1:=Zhw (a:=[32,104,97,115,32]) (c:=Zdi s.data.toList) (S:=⟨#[32,104,97,115,32]⟩) rfl hNT.out hS1.out (by have h1:=HLB.out;simp only[List.length_cons,List.length_nil];omega)
 have ha2:=Zhw (a:=[32,104,97,115,32] ++ Zdi s.data.toList) (c:=[41]) (T:=⟨#[41]⟩) hS1.out rfl hS2.out (by have h1:=HLB.out;simp only[List.length_append,List.length_cons,List.length_nil];omega)
 have hd2:Hid (S2.data.toList=[32,104,97,115,32] ++ Zdi s.data.toList ++ [41]):=Zai (by rw[hS2.out,Zax])
 have hnm:∀ u:World,Zll w0 b u→Calls Tryz.prog 42 #[.string s] u fun e w'=>e=.returned (.string NT)∧Below u.heap.size u w':=fun u hu=>by
  have h9:=Zzv s u hqu hu.tbs
  rw[←hNT.out]at h9
  exact h9
 have hXq:Hid (X=[40] ++ (Zao y0 ++ S2.data.toList)):=Zai (by rw[HXE.out,hd2.out];simp[Zaz,Zjt])
 have hsz:acc.length+((⟨#[40]⟩:ByteArray).data.toList ++ (Zao y0 ++ S2.data.toList)).length≤1099511627776:=by
  have h1:=HLEN.out
  rw[hXq.out]at h1
  exact h1
 have HEND:Hid ((⟨#[40]⟩:ByteArray).data.toList ++ (Zao y0 ++ S2.data.toList)=X):=Zai (by rw[hXq.out])
 clear hNT hS1 hS2 hd2 hXq
 go_enter Tryz.func21,Tryz.ntmps21
 go_upto_region 1 with (first|(at_builtin;fail))
 rw[←hk3.out,←hWl.out]
 clear hWl
 go_upto_region 29 with (first|(at_builtin;fail))
 refine Zap (fun L _ u=>(L 9=false→PB b acc u)∧Blk u k3 r 26∧Zll w0 b u∧KA b b W u∧(L 9=true→PB b (acc ++ ((⟨#[40]⟩:ByteArray).data.toList ++ (Zao y0 ++ S2.data.toList))) u)) (fun _ u u'=>KA b b u u') _ (by kernel_rfl) (by kernel_rfl) (fun v=>by simp only[Zbx,Act.put,List.toList_toArray,Zl2,Zl0,Zl1,Nat.reduceAdd,Nat.zero_add];rfl) ⟨fun _=>hP1.below (Zaj (Below.refl _ _)),kr.below (Zaj (Below.refl _ _)),hE1.below (Zaj (Below.refl _ _)),KA.of (Zaj (Below.refl _ _)) (by have:=kr.lt;omega),fun h=>(by cases h)⟩ (fun L L' v u hL h=>by rw[←hL 9 (by decide)];exact h) ?_
 refine Zaa [] _ (fun L hL hcl v u hS hd K' hK=>by
  simp only[Act.put,Zl2,Zl0,Zl1]at hK
  go_simp
  exact hK.out _ ⟨⟨fun h=>hS.1 (by simpa using h),hS.2.1,hS.2.2.1,hS.2.2.2.1,fun h=>hS.2.2.2.2 (by simpa using h)⟩,KA.refl _ _ _⟩) (by kernel_rfl) (j:=1) rfl ?_
 refine Zaa [] _ (fun L hL hcl v u hS hd K' hK=>by
  simp only[Act.put,Zl2,Zl0,Zl1]at hK
  go_simp
  exact hK.out _ ⟨⟨fun h=>hS.1 (by simpa using h),hS.2.1,hS.2.2.1,hS.2.2.2.1,fun h=>hS.2.2.2.2 (by simpa using h)⟩,KA.refl _ _ _⟩) (by kernel_rfl) (j:=2) rfl ?_
 refine Zaa [1] _ (fun L hL hcl v u hS hd K' hK=>by
  simp only[Zal,Zak,eqv,Zl3,Zl4,Nat.reduceSub]at hd
  simp only[Act.put,Zl2,Zl0,Zl1]at hK
  try simp only[hd]at hK
  go_simp
  exact hK.out _ ⟨⟨fun h=>hS.1 (by simpa using h),hS.2.1,hS.2.2.1,hS.2.2.2.1,fun h=>hS.2.2.2.2 (by simpa using h)⟩,KA.refl _ _ _⟩) (by kernel_rfl) (j:=3) rfl ?_
 refine Zaa [2] _ (fun L hL hcl v u hS hd K' hK=>by
  simp only[Zal,Zak,eqv,Zl3,Zl4,Nat.reduceSub]at hd
  have hc9:u.rangeAt gB oB q0:=Zbf hz0 hS.2.2.1.bw
  refine Zbe rfl ?_
  refine wp_load_mid 26 _ rfl gB _ hd q0 _ hc9 Tryz.underlying26 rfl (Zqh h60.1) ?_
  exact hK.out _ ⟨⟨fun h=>hS.1 (by simpa using h),hS.2.1,hS.2.2.1,hS.2.2.2.1,fun h=>hS.2.2.2.2 (by simpa using h)⟩,KA.refl _ _ _⟩) (by kernel_rfl) (j:=4) rfl ?_
 refine Zaa [] _ (fun L hL hcl v u hS hd K' hK=>by
  simp only[Act.put,Zl2,Zl0,Zl1]at hK
  go_simp
  exact hK.out _ ⟨⟨fun h=>hS.1 (by simpa using h),hS.2.1,hS.2.2.1,hS.2.2.2.1,fun h=>hS.2.2.2.2 (by simpa using h)⟩,KA.refl _ _ _⟩) (by kernel_rfl) (j:=5) rfl ?_
 refine Zaa [4] _ (fun L hL hcl v u hS hd K' hK=>by
  simp only[Zal,Zak,eqv,Zl3,Zl4,Nat.reduceSub]at hd
  simp only[Act.put,Zl2,Zl0,Zl1]at hK
  try simp only[hd]at hK
  have x9:=(HKR.out u hS.2.1).2.2.1
  go_simp
  exact hK.out _ ⟨⟨fun h=>hS.1 (by simpa using h),hS.2.1,hS.2.2.1,hS.2.2.2.1,fun h=>hS.2.2.2.2 (by simpa using h)⟩,KA.refl _ _ _⟩) (by kernel_rfl) (j:=6) rfl ?_
 refine Zaa [5] _ (fun L hL hcl v u hS hd K' hK=>by
  simp only[Zal,Zak,eqv,Zl3,Zl4,Nat.reduceSub]at hd
  simp only[Act.put,Zl2,Zl0,Zl1]at hK
  try simp only[hd]at hK
  go_simp
  refine (hnm u hS.2.2.1).mono ?_
  rintro e9 u1 ⟨rfl,hb9⟩
  exact hK.out _ ⟨⟨fun h=>(hS.1 (by simpa using h)).below hb9,hS.2.1.below hb9,hS.2.2.1.below hb9,hS.2.2.2.1.trans (KA.of hb9 (by have:=hS.2.1.lt;omega)),fun h=>(hS.2.2.2.2 (by simpa using h)).below hb9⟩,KA.of hb9 (by have:=hS.2.1.lt;omega)⟩) (by kernel_rfl) (j:=7) rfl ?_
 refine Zaa [6] _ (fun L hL hcl v u hS hd K' hK=>by
  simp only[Zal,Zak,eqv,Zl3,Zl4,Nat.reduceSub]at hd
  simp only[Act.put,Zl2,Zl0,Zl1]at hK
  try simp only[hd]at hK
  go_simp
  exact hK.out _ ⟨⟨fun h=>hS.1 (by simpa using h),hS.2.1,hS.2.2.1,hS.2.2.2.1,fun h=>hS.2.2.2.2 (by simpa using h)⟩,KA.refl _ _ _⟩) (by kernel_rfl) (j:=8) rfl ?_
 refine Zaa [7] _ (fun L hL hcl v u hS hd K' hK=>by
  simp only[Zal,Zak,eqv,Zl3,Zl4,Nat.reduceSub]at hd
  simp only[Act.put,Zl2,Zl0,Zl1]at hK
  try simp only[hd]at hK
  go_simp
  exact hK.out _ ⟨⟨fun h=>hS.1 (by simpa using h),hS.2.1,hS.2.2.1,hS.2.2.2.1,fun h=>hS.2.2.2.2 (by simpa using h)⟩,KA.refl _ _ _⟩) (by kernel_rfl) (j:=9) rfl ?_
 refine Zaa [0,3,8] _ (fun L hL hcl v u hS hd K' hK=>by
  simp only[Zal,Zak,eqv,Zl3,Zl4,Nat.reduceSub]at hd
  simp only[Act.put,Zl2,Zl0,Zl1]at hK
  try simp only[hd]at hK
  go_simp
  refine (Zie w0 q0 (Zao y0) hw0 hX0 b acc ⟨#[40]⟩ S2 u hS.2.2.1 (hS.1 hL) hsz).mono ?_
  rintro e9 u1 ⟨rfl,hP9,hK9⟩
  exact hK.out _ ⟨⟨fun h=>by simp at h,hK9.blk hS.2.1 (by omega) (by decide),hS.2.2.1.step hK9,hS.2.2.2.1.trans hK9,fun _=>hP9⟩,hK9⟩) (by kernel_rfl) (j:=10) rfl ?_
 refine Zau [] (by decide) ?_
 rintro v u hS hR
 obtain ⟨-,z1,z2,z3,z4⟩:=hS
 have z5:=z4 rfl
 rw[HEND.out]at z5
 go_wp2_with (first|(at_builtin;fail))
 go_end0
 exact ⟨rfl,z5,hK1.trans z3⟩
set_option maxRecDepth 100000 in
theorem pexpr_11 (w0:World) (P:Nat→Prop) (n:Int) (s t:ByteArray) (ns:List ByteArray) (l:List Et) (r:List Value) (hr:EAt w0 P (.mk 11 n s t ns l) r) (hright:Zbt (.mk 11 n s t ns l)=true) (ih:∀ x q,x ∈ l→EAt w0 P x q→PrX w0 q (Zao x)):PrX w0 r (Zao (.mk 11 n s t ns l)):=by
 intro b acc w hE h hlen
 obtain ⟨hc,hbr,hpt,hrs⟩:=Zbh hright
 have hr0:=hr
 rw[EAt]at hr
 obtain ⟨A,cA,B,cB,rows,hrw,hnum,hTx,hnsz,⟨hnl,-,hll,-⟩,-,hLi,hEs⟩:=hr
 unfold Zbq at hnl hll
 obtain ⟨X,HX⟩:=Zaf (Zao (.mk 11 n s t ns l))
 have hXe:X=40 :: ((Zaz l).getD 0 [] ++ 32 :: (Zel ++ 32 :: (Zbi s.data.toList ++ [41]))):=by rw[HX.out,Zao];rfl
 rw[←HX.out]at hlen ⊢
 have kr:=Blk.new w r 26
 have hb0:=Zac w (.cells r.toArray 26)
 have hP1:=h.below hb0
 have hE1:=hE.below hb0
 have hK1:=KA.of2 hb0 h
 have hgb:=PBT.lt h
 obtain ⟨W,hW⟩:=Zaf (w.alloc (.cells r.toArray 26))
 have hWl:Hid (W=w.alloc (.cells #[.int .u8 11,.int .i64 n,.string s,.string t,.slice A ns.length cA,.slice B l.length cB] 26)):=by
  rw[hrw]at hW
  exact hW
 rw[←hW.out]at kr hP1 hE1 hK1
 obtain ⟨k3,hk3⟩:=Zaf w.heap.size
 rw[←hk3.out]at kr hgb
 have x0:W.cell? ⟨k3,0,none⟩=some (.int .u8 11):=by rw[kr.cell,hrw];rfl
 have x5:W.cell? ⟨k3,5,none⟩=some (.slice B l.length cB):=by rw[kr.cell,hrw];rfl
 have HRW:=Zai hrw
 obtain ⟨nn,hnn⟩:=Zaf ns.length
 obtain ⟨lm,hlm0⟩:=Zaf l.length
 have hkr:∀ u:World,Blk u k3 r 26→u.cell? ⟨k3,0,none⟩=some (.int .u8 11)∧u.cell? ⟨k3,1,none⟩=some (.int .i64 n)∧u.cell? ⟨k3,2,none⟩=some (.string s)∧u.cell? ⟨k3,3,none⟩=some (.string t)∧u.cell? ⟨k3,4,none⟩=some (.slice A ns.length cA)∧u.cell? ⟨k3,5,none⟩=some (.slice B l.length cB):=fun u h=>by
  rw[HRW.out]at h
  exact ⟨h.cell 0,h.cell 1,h.cell 2,h.cell 3,h.cell 4,h.cell 5⟩
 simp only[←hnn.out,←hlm0.out]at hkr
 rw[←hlm0.out]at x5
 rw[←hnn.out,←hlm0.out]at hWl
 have HKR:=Zai hkr
 have HXE:=Zai hXe
 have HLEN:=Zai hlen
 have HBR:=Zai hbr
 have HPT:=Zai hpt
 have HTX:=Zai hTx
 have HLI:=Zai hLi
 have HES:=Zai hEs
 have HRL:r.length=6:=by rw[hrw];rfl
 have HR0:=Zai hr0
 clear hW h hE hb0 HX hkr hXe hlen hbr hpt hTx hLi hEs hright hrs hr0
 rw[show (Value.agg r.toArray)=.agg #[.int .u8 11,.int .i64 n,.string s,.string t,.slice A ns.length cA,.slice B l.length cB] from by rw[hrw];rfl]
 rw[←hnn.out,←hlm0.out]
 clear hrw
 have hqu:Zfu s=true:=by have h9:=HPT.out;simpa [Zcx] using h9
 have hss:=Zpk hqu
 have hlm:l.length=1:=by simpa [Zld,Zfn] using hc
 have hlmN:lm=1:=hlm0.out.trans hlm
 have hI0:(0:Int) < (lm:Int):=by omega
 have hN0:0 < lm:=by omega
 clear hlmN
 obtain ⟨y0,rfl⟩:∃ y0,l=[y0]:=List.length_eq_one_iff.1 hlm
 obtain ⟨q0,hq0,hv0⟩:=(Zbm HES.out).2 0 y0 rfl
 have hX0:=ih y0 q0 (by simp) hv0
 have hw0:=Zcf hv0
 have h60:=Zcl hw0
 obtain ⟨gB,oB,rfl,-⟩:=HLI.out.2 (by
  have h9:=Zci HES.out
  intro e
  rw[e]at h9
  simp at h9)
 have hg0:=Zdt HLI.out (Zbl HES.out) hq0
 have hz0:w0.rangeAt gB oB q0:=by simpa using hg0
 have HLB:Hid ((Zbi s.data.toList).length≤1000):=Zai (by have:=Zkb s.data.toList;rw[←Lib.size_eq]at this;omega)
 obtain ⟨NT,hNT⟩:=Zaf (str (Zbi s.data.toList))
 obtain ⟨S1,hS1⟩:=Zaf (str ([32,108,105,107,101,32] ++ Zbi s.data.toList))
 obtain ⟨S2,hS2⟩:=Zaf (str ([32,108,105,107,101,32] ++ Zbi s.data.toList ++ [41]))
 have ha1:=Zhw (a:=[32,108,105,107,101,32]) (c:=Zbi s.data.toList) (S:=⟨#[32,108,105,107,101,32]⟩) rfl hNT.out hS1.out (by have h1:=HLB.out;simp only[List.length_cons,List.length_nil];omega)
 have ha2:=Zhw (a:=[32,108,105,107,101,32] ++ Zbi s.data.toList) (c:=[41]) (T:=⟨#[41]⟩) hS1.out rfl hS2.out (by have h1:=HLB.out;simp only[List.length_append,List.length_cons,List.length_nil];omega)
 have hd2:Hid (S2.data.toList=[32,108,105,107,101,32] ++ Zbi s.data.toList ++ [41]):=Zai (by rw[hS2.out,Zax])
 have hnm:∀ u:World,Zll w0 b u→Calls Tryz.prog 37 #[.string s] u fun e w'=>e=.returned (.string NT)∧Below u.heap.size u w':=fun u hu=>by
  have h9:=Zkc s u hqu hu.tbs
  rw[←hNT.out]at h9
  exact h9
 have hXq:Hid (X=[40] ++ (Zao y0 ++ S2.data.toList)):=Zai (by rw[HXE.out,hd2.out];simp[Zaz,Zel])
 have hsz:acc.length+((⟨#[40]⟩:ByteArray).data.toList ++ (Zao y0 ++ S2.data.toList)).length≤1099511627776:=by
  have h1:=HLEN.out
  rw[hXq.out]at h1
  exact h1
 have HEND:Hid ((⟨#[40]⟩:ByteArray).data.toList ++ (Zao y0 ++ S2.data.toList)=X):=Zai (by rw[hXq.out])
 clear hNT hS1 hS2 hd2 hXq
 go_enter Tryz.func21,Tryz.ntmps21
 go_upto_region 1 with (first|(at_builtin;fail))
 rw[←hk3.out,←hWl.out]
 clear hWl
 go_upto_region 33 with (first|(at_builtin;fail))
 refine Zap (fun L _ u=>(L 9=false→PB b acc u)∧Blk u k3 r 26∧Zll w0 b u∧KA b b W u∧(L 9=true→PB b (acc ++ ((⟨#[40]⟩:ByteArray).data.toList ++ (Zao y0 ++ S2.data.toList))) u)) (fun _ u u'=>KA b b u u') _ (by kernel_rfl) (by kernel_rfl) (fun v=>by simp only[Zbx,Act.put,List.toList_toArray,Zl2,Zl0,Zl1,Nat.reduceAdd,Nat.zero_add];rfl) ⟨fun _=>hP1.below (Zaj (Below.refl _ _)),kr.below (Zaj (Below.refl _ _)),hE1.below (Zaj (Below.refl _ _)),KA.of (Zaj (Below.refl _ _)) (by have:=kr.lt;omega),fun h=>(by cases h)⟩ (fun L L' v u hL h=>by rw[←hL 9 (by decide)];exact h) ?_
 refine Zaa [] _ (fun L hL hcl v u hS hd K' hK=>by
  simp only[Act.put,Zl2,Zl0,Zl1]at hK
  go_simp
  exact hK.out _ ⟨⟨fun h=>hS.1 (by simpa using h),hS.2.1,hS.2.2.1,hS.2.2.2.1,fun h=>hS.2.2.2.2 (by simpa using h)⟩,KA.refl _ _ _⟩) (by kernel_rfl) (j:=1) rfl ?_
 refine Zaa [] _ (fun L hL hcl v u hS hd K' hK=>by
  simp only[Act.put,Zl2,Zl0,Zl1]at hK
  go_simp
  exact hK.out _ ⟨⟨fun h=>hS.1 (by simpa using h),hS.2.1,hS.2.2.1,hS.2.2.2.1,fun h=>hS.2.2.2.2 (by simpa using h)⟩,KA.refl _ _ _⟩) (by kernel_rfl) (j:=2) rfl ?_
 refine Zaa [1] _ (fun L hL hcl v u hS hd K' hK=>by
  simp only[Zal,Zak,eqv,Zl3,Zl4,Nat.reduceSub]at hd
  simp only[Act.put,Zl2,Zl0,Zl1]at hK
  try simp only[hd]at hK
  go_simp
  exact hK.out _ ⟨⟨fun h=>hS.1 (by simpa using h),hS.2.1,hS.2.2.1,hS.2.2.2.1,fun h=>hS.2.2.2.2 (by simpa using h)⟩,KA.refl _ _ _⟩) (by kernel_rfl) (j:=3) rfl ?_
 refine Zaa [2] _ (fun L hL hcl v u hS hd K' hK=>by
  simp only[Zal,Zak,eqv,Zl3,Zl4,Nat.reduceSub]at hd
  have hc9:u.rangeAt gB oB q0:=Zbf hz0 hS.2.2.1.bw
  refine Zbe rfl ?_
  refine wp_load_mid 26 _ rfl gB _ hd q0 _ hc9 Tryz.underlying26 rfl (Zqh h60.1) ?_
  exact hK.out _ ⟨⟨fun h=>hS.1 (by simpa using h),hS.2.1,hS.2.2.1,hS.2.2.2.1,fun h=>hS.2.2.2.2 (by simpa using h)⟩,KA.refl _ _ _⟩) (by kernel_rfl) (j:=4) rfl ?_
 refine Zaa [] _ (fun L hL hcl v u hS hd K' hK=>by
  simp only[Act.put,Zl2,Zl0,Zl1]at hK
  go_simp
  exact hK.out _ ⟨⟨fun h=>hS.1 (by simpa using h),hS.2.1,hS.2.2.1,hS.2.2.2.1,fun h=>hS.2.2.2.2 (by simpa using h)⟩,KA.refl _ _ _⟩) (by kernel_rfl) (j:=5) rfl ?_
 refine Zaa [4] _ (fun L hL hcl v u hS hd K' hK=>by
  simp only[Zal,Zak,eqv,Zl3,Zl4,Nat.reduceSub]at hd
  simp only[Act.put,Zl2,Zl0,Zl1]at hK
  try simp only[hd]at hK
  have x9:=(HKR.out u hS.2.1).2.2.1
  go_simp
  exact hK.out _ ⟨⟨fun h=>hS.1 (by simpa using h),hS.2.1,hS.2.2.1,hS.2.2.2.1,fun h=>hS.2.2.2.2 (by simpa using h)⟩,KA.refl _ _ _⟩) (by kernel_rfl) (j:=6) rfl ?_
 refine Zaa [5] _ (fun L hL hcl v u hS hd K' hK=>by
  simp only[Zal,Zak,eqv,Zl3,Zl4,Nat.reduceSub]at hd
  simp only[Act.put,Zl2,Zl0,Zl1]at hK
  try simp only[hd]at hK
  go_simp
  refine (hnm u hS.2.2.1).mono ?_
  rintro e9 u1 ⟨rfl,hb9⟩
  exact hK.out _ ⟨⟨fun h=>(hS.1 (by simpa using h)).below hb9,hS.2.1.below hb9,hS.2.2.1.below hb9,hS.2.2.2.1.trans (KA.of hb9 (by have:=hS.2.1.lt;omega)),fun h=>(hS.2.2.2.2 (by simpa using h)).below hb9⟩,KA.of hb9 (by have:=hS.2.1.lt;omega)⟩) (by kernel_rfl) (j:=7) rfl ?_
 refine Zaa [6] _ (fun L hL hcl v u hS hd K' hK=>by
  simp only[Zal,Zak,eqv,Zl3,Zl4,Nat.reduceSub]at hd
  simp only[Act.put,Zl2,Zl0,Zl1]at hK
  try simp only[hd]at hK
  go_simp
  exact hK.out _ ⟨⟨fun h=>hS.1 (by simpa using h),hS.2.1,hS.2.2.1,hS.2.2.2.1,fun h=>hS.2.2.2.2 (by simpa using h)⟩,KA.refl _ _ _⟩) (by kernel_rfl) (j:=8) rfl ?_
 refine Zaa [7] _ (fun L hL hcl v u hS hd K' hK=>by
  simp only[Zal,Zak,eqv,Zl3,Zl4,Nat.reduceSub]at hd
  simp only[Act.put,Zl2,Zl0,Zl1]at hK
  try simp only[hd]at hK
  go_simp
  exact hK.out _ ⟨⟨fun h=>hS.1 (by simpa using h),hS.2.1,hS.2.2.1,hS.2.2.2.1,fun h=>hS.2.2.2.2 (by simpa using h)⟩,KA.refl _ _ _⟩) (by kernel_rfl) (j:=9) rfl ?_
 refine Zaa [0,3,8] _ (fun L hL hcl v u hS hd K' hK=>by
  simp only[Zal,Zak,eqv,Zl3,Zl4,Nat.reduceSub]at hd
  simp only[Act.put,Zl2,Zl0,Zl1]at hK
  try simp only[hd]at hK
  go_simp
  refine (Zie w0 q0 (Zao y0) hw0 hX0 b acc ⟨#[40]⟩ S2 u hS.2.2.1 (hS.1 hL) hsz).mono ?_
  rintro e9 u1 ⟨rfl,hP9,hK9⟩
  exact hK.out _ ⟨⟨fun h=>by simp at h,hK9.blk hS.2.1 (by omega) (by decide),hS.2.2.1.step hK9,hS.2.2.2.1.trans hK9,fun _=>hP9⟩,hK9⟩) (by kernel_rfl) (j:=10) rfl ?_
 refine Zau [] (by decide) ?_
 rintro v u hS hR
 obtain ⟨-,z1,z2,z3,z4⟩:=hS
 have z5:=z4 rfl
 rw[HEND.out]at z5
 go_wp2_with (first|(at_builtin;fail))
 go_end0
 exact ⟨rfl,z5,hK1.trans z3⟩
set_option maxRecDepth 100000 in
theorem pexpr_10 (w0:World) (P:Nat→Prop) (n:Int) (s t:ByteArray) (ns:List ByteArray) (l:List Et) (r:List Value) (hr:EAt w0 P (.mk 10 n s t ns l) r) (hright:Zbt (.mk 10 n s t ns l)=true) (ih:∀ x q,x ∈ l→EAt w0 P x q→PrX w0 q (Zao x)):PrX w0 r (Zao (.mk 10 n s t ns l)):=by
 intro b acc w hE h hlen
 obtain ⟨hc,hbr,hpt,hrs⟩:=Zbh hright
 have hr0:=hr
 rw[EAt]at hr
 obtain ⟨A,cA,B,cB,rows,hrw,hnum,hTx,hnsz,⟨hnl,-,hll,-⟩,-,hLi,hEs⟩:=hr
 unfold Zbq at hnl hll
 obtain ⟨X,HX⟩:=Zaf (Zao (.mk 10 n s t ns l))
 have hXe:X=40 :: ((Zaz l).getD 0 [] ++ 32 :: (wIs ++ 32 :: (t.data.toList ++ [41]))):=by rw[HX.out,Zao];rfl
 rw[←HX.out]at hlen ⊢
 have kr:=Blk.new w r 26
 have hb0:=Zac w (.cells r.toArray 26)
 have hP1:=h.below hb0
 have hE1:=hE.below hb0
 have hK1:=KA.of2 hb0 h
 have hgb:=PBT.lt h
 obtain ⟨W,hW⟩:=Zaf (w.alloc (.cells r.toArray 26))
 have hWl:Hid (W=w.alloc (.cells #[.int .u8 10,.int .i64 n,.string s,.string t,.slice A ns.length cA,.slice B l.length cB] 26)):=by
  rw[hrw]at hW
  exact hW
 rw[←hW.out]at kr hP1 hE1 hK1
 obtain ⟨k3,hk3⟩:=Zaf w.heap.size
 rw[←hk3.out]at kr hgb
 have x0:W.cell? ⟨k3,0,none⟩=some (.int .u8 10):=by rw[kr.cell,hrw];rfl
 have x5:W.cell? ⟨k3,5,none⟩=some (.slice B l.length cB):=by rw[kr.cell,hrw];rfl
 have HRW:=Zai hrw
 obtain ⟨nn,hnn⟩:=Zaf ns.length
 obtain ⟨lm,hlm0⟩:=Zaf l.length
 have hkr:∀ u:World,Blk u k3 r 26→u.cell? ⟨k3,0,none⟩=some (.int .u8 10)∧u.cell? ⟨k3,1,none⟩=some (.int .i64 n)∧u.cell? ⟨k3,2,none⟩=some (.string s)∧u.cell? ⟨k3,3,none⟩=some (.string t)∧u.cell? ⟨k3,4,none⟩=some (.slice A ns.length cA)∧u.cell? ⟨k3,5,none⟩=some (.slice B l.length cB):=fun u h=>by
  rw[HRW.out]at h
  exact ⟨h.cell 0,h.cell 1,h.cell 2,h.cell 3,h.cell 4,h.cell 5⟩
 simp only[←hnn.out,←hlm0.out]at hkr
 rw[←hlm0.out]at x5
 rw[←hnn.out,←hlm0.out]at hWl
 have HKR:=Zai hkr
 have HXE:=Zai hXe
 have HLEN:=Zai hlen
 have HBR:=Zai hbr
 have HPT:=Zai hpt
 have HTX:=Zai hTx
 have HLI:=Zai hLi
 have HES:=Zai hEs
 have HRL:r.length=6:=by rw[hrw];rfl
 have HR0:=Zai hr0
 clear hW h hE hb0 HX hkr hXe hlen hbr hpt hTx hLi hEs hright hrs hr0
 rw[show (Value.agg r.toArray)=.agg #[.int .u8 10,.int .i64 n,.string s,.string t,.slice A ns.length cA,.slice B l.length cB] from by rw[hrw];rfl]
 rw[←hnn.out,←hlm0.out]
 clear hrw
 have htl:t.size≤64:=by
  have h9:=HPT.out
  have h8:Zhe t.data.toList=true:=by simpa [Zcx] using h9
  unfold Zhe at h8
  rw[Bool.and_eq_true]at h8
  have:=of_decide_eq_true h8.1
  rw[←Lib.size_eq]at this
  exact this
 have hlm:l.length=1:=by simpa [Zld,Zfn] using hc
 have hlmN:lm=1:=hlm0.out.trans hlm
 have hI0:(0:Int) < (lm:Int):=by omega
 have hN0:0 < lm:=by omega
 clear hlmN
 obtain ⟨y0,rfl⟩:∃ y0,l=[y0]:=List.length_eq_one_iff.1 hlm
 obtain ⟨q0,hq0,hv0⟩:=(Zbm HES.out).2 0 y0 rfl
 have hX0:=ih y0 q0 (by simp) hv0
 have hw0:=Zcf hv0
 have h60:=Zcl hw0
 obtain ⟨gB,oB,rfl,-⟩:=HLI.out.2 (by
  have h9:=Zci HES.out
  intro e
  rw[e]at h9
  simp at h9)
 have hg0:=Zdt HLI.out (Zbl HES.out) hq0
 have hz0:w0.rangeAt gB oB q0:=by simpa using hg0
 have HLB:Hid ((t.data.toList).length≤1000):=Zai (by rw[←Lib.size_eq];omega)
 obtain ⟨NT,hNT⟩:=Zaf (str (t.data.toList))
 obtain ⟨S1,hS1⟩:=Zaf (str ([32,105,115,32] ++ t.data.toList))
 obtain ⟨S2,hS2⟩:=Zaf (str ([32,105,115,32] ++ t.data.toList ++ [41]))
 have ha1:=Zhw (a:=[32,105,115,32]) (c:=t.data.toList) (S:=⟨#[32,105,115,32]⟩) rfl hNT.out hS1.out (by have h1:=HLB.out;simp only[List.length_cons,List.length_nil];omega)
 have ha2:=Zhw (a:=[32,105,115,32] ++ t.data.toList) (c:=[41]) (T:=⟨#[41]⟩) hS1.out rfl hS2.out (by have h1:=HLB.out;simp only[List.length_append,List.length_cons,List.length_nil];omega)
 have hd2:Hid (S2.data.toList=[32,105,115,32] ++ t.data.toList ++ [41]):=Zai (by rw[hS2.out,Zax])
 have hNTt:NT=t:=by rw[hNT.out,Zdh]
 rw[hNTt]at ha1
 have hXq:Hid (X=[40] ++ (Zao y0 ++ S2.data.toList)):=Zai (by rw[HXE.out,hd2.out];simp[Zaz,wIs])
 have hsz:acc.length+((⟨#[40]⟩:ByteArray).data.toList ++ (Zao y0 ++ S2.data.toList)).length≤1099511627776:=by
  have h1:=HLEN.out
  rw[hXq.out]at h1
  exact h1
 have HEND:Hid ((⟨#[40]⟩:ByteArray).data.toList ++ (Zao y0 ++ S2.data.toList)=X):=Zai (by rw[hXq.out])
 clear hNTt hNT hS1 hS2 hd2 hXq
 go_enter Tryz.func21,Tryz.ntmps21
 go_upto_region 1 with (first|(at_builtin;fail))
 rw[←hk3.out,←hWl.out]
 clear hWl
 go_upto_region 31 with (first|(at_builtin;fail))
 refine Zap (fun L _ u=>(L 8=false→PB b acc u)∧Blk u k3 r 26∧Zll w0 b u∧KA b b W u∧(L 8=true→PB b (acc ++ ((⟨#[40]⟩:ByteArray).data.toList ++ (Zao y0 ++ S2.data.toList))) u)) (fun _ u u'=>KA b b u u') _ (by kernel_rfl) (by kernel_rfl) (fun v=>by simp only[Zbx,Act.put,List.toList_toArray,Zl2,Zl0,Zl1,Nat.reduceAdd,Nat.zero_add];rfl) ⟨fun _=>hP1.below (Zaj (Below.refl _ _)),kr.below (Zaj (Below.refl _ _)),hE1.below (Zaj (Below.refl _ _)),KA.of (Zaj (Below.refl _ _)) (by have:=kr.lt;omega),fun h=>(by cases h)⟩ (fun L L' v u hL h=>by rw[←hL 8 (by decide)];exact h) ?_
 refine Zaa [] _ (fun L hL hcl v u hS hd K' hK=>by
  simp only[Act.put,Zl2,Zl0,Zl1]at hK
  go_simp
  exact hK.out _ ⟨⟨fun h=>hS.1 (by simpa using h),hS.2.1,hS.2.2.1,hS.2.2.2.1,fun h=>hS.2.2.2.2 (by simpa using h)⟩,KA.refl _ _ _⟩) (by kernel_rfl) (j:=1) rfl ?_
 refine Zaa [] _ (fun L hL hcl v u hS hd K' hK=>by
  simp only[Act.put,Zl2,Zl0,Zl1]at hK
  go_simp
  exact hK.out _ ⟨⟨fun h=>hS.1 (by simpa using h),hS.2.1,hS.2.2.1,hS.2.2.2.1,fun h=>hS.2.2.2.2 (by simpa using h)⟩,KA.refl _ _ _⟩) (by kernel_rfl) (j:=2) rfl ?_
 refine Zaa [1] _ (fun L hL hcl v u hS hd K' hK=>by
  simp only[Zal,Zak,eqv,Zl3,Zl4,Nat.reduceSub]at hd
  simp only[Act.put,Zl2,Zl0,Zl1]at hK
  try simp only[hd]at hK
  go_simp
  exact hK.out _ ⟨⟨fun h=>hS.1 (by simpa using h),hS.2.1,hS.2.2.1,hS.2.2.2.1,fun h=>hS.2.2.2.2 (by simpa using h)⟩,KA.refl _ _ _⟩) (by kernel_rfl) (j:=3) rfl ?_
 refine Zaa [2] _ (fun L hL hcl v u hS hd K' hK=>by
  simp only[Zal,Zak,eqv,Zl3,Zl4,Nat.reduceSub]at hd
  have hc9:u.rangeAt gB oB q0:=Zbf hz0 hS.2.2.1.bw
  refine Zbe rfl ?_
  refine wp_load_mid 26 _ rfl gB _ hd q0 _ hc9 Tryz.underlying26 rfl (Zqh h60.1) ?_
  exact hK.out _ ⟨⟨fun h=>hS.1 (by simpa using h),hS.2.1,hS.2.2.1,hS.2.2.2.1,fun h=>hS.2.2.2.2 (by simpa using h)⟩,KA.refl _ _ _⟩) (by kernel_rfl) (j:=4) rfl ?_
 refine Zaa [] _ (fun L hL hcl v u hS hd K' hK=>by
  simp only[Act.put,Zl2,Zl0,Zl1]at hK
  go_simp
  exact hK.out _ ⟨⟨fun h=>hS.1 (by simpa using h),hS.2.1,hS.2.2.1,hS.2.2.2.1,fun h=>hS.2.2.2.2 (by simpa using h)⟩,KA.refl _ _ _⟩) (by kernel_rfl) (j:=5) rfl ?_
 refine Zaa [4] _ (fun L hL hcl v u hS hd K' hK=>by
  simp only[Zal,Zak,eqv,Zl3,Zl4,Nat.reduceSub]at hd
  simp only[Act.put,Zl2,Zl0,Zl1]at hK
  try simp only[hd]at hK
  have x9:=(HKR.out u hS.2.1).2.2.2.1
  go_simp
  exact hK.out _ ⟨⟨fun h=>hS.1 (by simpa using h),hS.2.1,hS.2.2.1,hS.2.2.2.1,fun h=>hS.2.2.2.2 (by simpa using h)⟩,KA.refl _ _ _⟩) (by kernel_rfl) (j:=6) rfl ?_
 refine Zaa [5] _ (fun L hL hcl v u hS hd K' hK=>by
  simp only[Zal,Zak,eqv,Zl3,Zl4,Nat.reduceSub]at hd
  simp only[Act.put,Zl2,Zl0,Zl1]at hK
  try simp only[hd]at hK
  go_simp
  exact hK.out _ ⟨⟨fun h=>hS.1 (by simpa using h),hS.2.1,hS.2.2.1,hS.2.2.2.1,fun h=>hS.2.2.2.2 (by simpa using h)⟩,KA.refl _ _ _⟩) (by kernel_rfl) (j:=7) rfl ?_
 refine Zaa [6] _ (fun L hL hcl v u hS hd K' hK=>by
  simp only[Zal,Zak,eqv,Zl3,Zl4,Nat.reduceSub]at hd
  simp only[Act.put,Zl2,Zl0,Zl1]at hK
  try simp only[hd]at hK
  go_simp
  exact hK.out _ ⟨⟨fun h=>hS.1 (by simpa using h),hS.2.1,hS.2.2.1,hS.2.2.2.1,fun h=>hS.2.2.2.2 (by simpa using h)⟩,KA.refl _ _ _⟩) (by kernel_rfl) (j:=8) rfl ?_
 refine Zaa [0,3,7] _ (fun L hL hcl v u hS hd K' hK=>by
  simp only[Zal,Zak,eqv,Zl3,Zl4,Nat.reduceSub]at hd
  simp only[Act.put,Zl2,Zl0,Zl1]at hK
  try simp only[hd]at hK
  go_simp
  refine (Zie w0 q0 (Zao y0) hw0 hX0 b acc ⟨#[40]⟩ S2 u hS.2.2.1 (hS.1 hL) hsz).mono ?_
  rintro e9 u1 ⟨rfl,hP9,hK9⟩
  exact hK.out _ ⟨⟨fun h=>by simp at h,hK9.blk hS.2.1 (by omega) (by decide),hS.2.2.1.step hK9,hS.2.2.2.1.trans hK9,fun _=>hP9⟩,hK9⟩) (by kernel_rfl) (j:=9) rfl ?_
 refine Zau [] (by decide) ?_
 rintro v u hS hR
 obtain ⟨-,z1,z2,z3,z4⟩:=hS
 have z5:=z4 rfl
 rw[HEND.out]at z5
 go_wp2_with (first|(at_builtin;fail))
 go_end0
 exact ⟨rfl,z5,hK1.trans z3⟩
set_option maxRecDepth 100000 in
theorem pexpr_bin (w0:World) (P:Nat→Prop) (o:Nat) (ho1:15≤o) (ho2:o < 27) (n:Int) (s t:ByteArray) (ns:List ByteArray) (l:List Et) (r:List Value) (hr:EAt w0 P (.mk o n s t ns l) r) (hright:Zbt (.mk o n s t ns l)=true) (ih:∀ x q,x ∈ l→EAt w0 P x q→PrX w0 q (Zao x)):PrX w0 r (Zao (.mk o n s t ns l)):=by
 intro b acc w hE h hlen
 obtain ⟨hc,hbr,hpt,hrs⟩:=Zbh hright
 have hr0:=hr
 rw[EAt]at hr
 obtain ⟨A,cA,B,cB,rows,hrw,hnum,hTx,hnsz,⟨hnl,-,hll,-⟩,-,hLi,hEs⟩:=hr
 unfold Zbq at hnl hll
 obtain ⟨X,HX⟩:=Zaf (Zao (.mk o n s t ns l))
 have hXe:X=40 :: ((Zaz l).getD 0 [] ++ 32 :: (Zjn o ++ 32 :: ((Zaz l).getD 1 [] ++ [41]))):=by rw[HX.out,Zao];exact Zvd ho1 ho2 _ _ _ _ _ _
 rw[←HX.out]at hlen ⊢
 have kr:=Blk.new w r 26
 have hb0:=Zac w (.cells r.toArray 26)
 have hP1:=h.below hb0
 have hE1:=hE.below hb0
 have hK1:=KA.of2 hb0 h
 have hgb:=PBT.lt h
 obtain ⟨W,hW⟩:=Zaf (w.alloc (.cells r.toArray 26))
 have hWl:Hid (W=w.alloc (.cells #[.int .u8 (o:Int),.int .i64 n,.string s,.string t,.slice A ns.length cA,.slice B l.length cB] 26)):=by
  rw[hrw]at hW
  exact hW
 rw[←hW.out]at kr hP1 hE1 hK1
 obtain ⟨k3,hk3⟩:=Zaf w.heap.size
 rw[←hk3.out]at kr hgb
 have x0:W.cell? ⟨k3,0,none⟩=some (.int .u8 (o:Int)):=by rw[kr.cell,hrw];rfl
 have x5:W.cell? ⟨k3,5,none⟩=some (.slice B l.length cB):=by rw[kr.cell,hrw];rfl
 have HRW:=Zai hrw
 obtain ⟨nn,hnn⟩:=Zaf ns.length
 obtain ⟨lm,hlm0⟩:=Zaf l.length
 have hkr:∀ u:World,Blk u k3 r 26→u.cell? ⟨k3,0,none⟩=some (.int .u8 (o:Int))∧u.cell? ⟨k3,1,none⟩=some (.int .i64 n)∧u.cell? ⟨k3,2,none⟩=some (.string s)∧u.cell? ⟨k3,3,none⟩=some (.string t)∧u.cell? ⟨k3,4,none⟩=some (.slice A ns.length cA)∧u.cell? ⟨k3,5,none⟩=some (.slice B l.length cB):=fun u h=>by
  rw[HRW.out]at h
  exact ⟨h.cell 0,h.cell 1,h.cell 2,h.cell 3,h.cell 4,h.cell 5⟩
 simp only[←hnn.out,←hlm0.out]at hkr
 rw[←hlm0.out]at x5
 rw[←hnn.out,←hlm0.out]at hWl
 have HKR:=Zai hkr
 have HXE:=Zai hXe
 have HLEN:=Zai hlen
 have HBR:=Zai hbr
 have HPT:=Zai hpt
 have HTX:=Zai hTx
 have HLI:=Zai hLi
 have HES:=Zai hEs
 have HRL:r.length=6:=by rw[hrw];rfl
 have HR0:=Zai hr0
 clear hW h hE hb0 HX hkr hXe hlen hbr hpt hTx hLi hEs hright hrs hr0
 rw[show (Value.agg r.toArray)=.agg #[.int .u8 (o:Int),.int .i64 n,.string s,.string t,.slice A ns.length cA,.slice B l.length cB] from by rw[hrw];rfl]
 rw[←hnn.out,←hlm0.out]
 clear hrw
 have hlm:l.length=2:=by exact bin_kids ho1 ho2 hc
 have hlmN:lm=2:=hlm0.out.trans hlm
 have hI0:(0:Int) < (lm:Int):=by omega
 have hN0:0 < lm:=by omega
 have hI1:(1:Int) < (lm:Int):=by omega
 have hN1:1 < lm:=by omega
 clear hlmN
 obtain ⟨y0,y1,rfl⟩:∃ y0 y1,l=[y0,y1]:=Zmz hlm
 obtain ⟨q0,hq0,hv0⟩:=(Zbm HES.out).2 0 y0 rfl
 have hX0:=ih y0 q0 (by simp) hv0
 have hw0:=Zcf hv0
 have h60:=Zcl hw0
 obtain ⟨q1,hq1,hv1⟩:=(Zbm HES.out).2 1 y1 rfl
 have hX1:=ih y1 q1 (by simp) hv1
 have hw1:=Zcf hv1
 have h61:=Zcl hw1
 obtain ⟨gB,oB,rfl,-⟩:=HLI.out.2 (by
  have h9:=Zci HES.out
  intro e
  rw[e]at h9
  simp at h9)
 have hg0:=Zdt HLI.out (Zbl HES.out) hq0
 have hg1:=Zdt HLI.out (Zbl HES.out) hq1
 have hz0:w0.rangeAt gB oB q0:=by simpa using hg0
 have f1:((o:Int) == 1)=false:=by rw[beq_eq_false_iff_ne];omega
 have f2:((o:Int) == 2)=false:=by rw[beq_eq_false_iff_ne];omega
 have f3:((o:Int) == 3)=false:=by rw[beq_eq_false_iff_ne];omega
 have f4:((o:Int) == 4)=false:=by rw[beq_eq_false_iff_ne];omega
 have f5:((o:Int) == 5)=false:=by rw[beq_eq_false_iff_ne];omega
 have f6:((o:Int) == 6)=false:=by rw[beq_eq_false_iff_ne];omega
 have f7:((o:Int) == 7)=false:=by rw[beq_eq_false_iff_ne];omega
 have f8:((o:Int) == 8)=false:=by rw[beq_eq_false_iff_ne];omega
 have f9:((o:Int) == 9)=false:=by rw[beq_eq_false_iff_ne];omega
 have f10:((o:Int) == 10)=false:=by rw[beq_eq_false_iff_ne];omega
 have f11:((o:Int) == 11)=false:=by rw[beq_eq_false_iff_ne];omega
 have f12:((o:Int) == 12)=false:=by rw[beq_eq_false_iff_ne];omega
 have f13:((o:Int) == 13)=false:=by rw[beq_eq_false_iff_ne];omega
 have f14:((o:Int) == 14)=false:=by rw[beq_eq_false_iff_ne];omega
 have f27:((o:Int) == 27)=false:=by rw[beq_eq_false_iff_ne];omega
 have f28:((o:Int) == 28)=false:=by rw[beq_eq_false_iff_ne];omega
 have f29:((o:Int) == 29)=false:=by rw[beq_eq_false_iff_ne];omega
 obtain ⟨K,hK⟩:=Zaf (o - 15)
 have hKi:IntKind.u8.wrap ((o:Int) - 15)=(K:Int):=by
  have h9:=Zom K (by rw[hK.out];omega)
  rw[show (o:Int) - 15=(K:Int) by rw[hK.out];omega]
  exact h9
 have hK0:(0:Int)≤(K:Int):=by omega
 have hK1':(K:Int) < 12:=by rw[hK.out];omega
 obtain ⟨SL,hSL⟩:=Zaf (Zjn o)
 obtain ⟨SG,hSG⟩:=Zaf (str SL)
 have HSG:Hid ((Zdd.map fun x=>Value.string ⟨x.toArray⟩)[K]?=some (.string SG)):=Zai (by
  rw[hSG.out,hSL.out,hK.out]
  exact sign_at ho1 ho2)
 have HLB:Hid (SL.length≤1000):=Zai (by rw[hSL.out];have:=Zzk ho1 ho2;omega)
 rw[←hSL.out]at HXE
 obtain ⟨S1,hS1⟩:=Zaf (str ([32] ++ SL))
 obtain ⟨S2,hS2⟩:=Zaf (str ([32] ++ SL ++ [32]))
 have ha1:=Zhw (a:=[32]) (c:=SL) (S:=⟨#[32]⟩) rfl hSG.out hS1.out (by have h1:=HLB.out;simp only[List.length_cons,List.length_nil];omega)
 have ha2:=Zhw (a:=[32] ++ SL) (c:=[32]) (T:=⟨#[32]⟩) hS1.out rfl hS2.out (by have h1:=HLB.out;simp only[List.length_append,List.length_cons,List.length_nil];omega)
 have hd2:Hid (S2.data.toList=[32] ++ SL ++ [32]):=Zai (by rw[hS2.out,Zax])
 have hXq:Hid (X=[40] ++ (Zao y0 ++ S2.data.toList) ++ ([] ++ (Zao y1 ++ [41]))):=Zai (by rw[HXE.out,hd2.out];simp[Zaz])
 have hsz:acc.length+((⟨#[40]⟩:ByteArray).data.toList ++ (Zao y0 ++ S2.data.toList)).length≤1099511627776:=by
  have h1:=HLEN.out
  rw[hXq.out,List.length_append]at h1
  have h2:((⟨#[40]⟩:ByteArray).data.toList ++ (Zao y0 ++ S2.data.toList)).length=([40] ++ (Zao y0 ++ S2.data.toList)).length:=rfl
  omega
 clear hSL hK hS1 hS2 hd2
 go_enter Tryz.func21,Tryz.ntmps21
 go_upto_region 1 with (first|(at_builtin;fail))
 rw[←hk3.out,←hWl.out]
 clear hWl
 go_upto_region 3 with (first|(at_builtin;fail))
 refine Zap (fun L _ u=>(L 12=false→PB b acc u)∧Blk u k3 r 26∧Zll w0 b u∧KA b b W u∧(L 12=true→PB b (acc ++ ((⟨#[40]⟩:ByteArray).data.toList ++ (Zao y0 ++ S2.data.toList))) u)) (fun _ u u'=>KA b b u u') _ (by kernel_rfl) (by kernel_rfl) (fun v=>by simp only[Zbx,Act.put,List.toList_toArray,Zl2,Zl0,Zl1,Nat.reduceAdd,Nat.zero_add];rfl) ⟨fun _=>hP1.below (Zaj (Below.refl _ _)),kr.below (Zaj (Below.refl _ _)),hE1.below (Zaj (Below.refl _ _)),KA.of (Zaj (Below.refl _ _)) (by have:=kr.lt;omega),fun h=>(by cases h)⟩ (fun L L' v u hL h=>by rw[←hL 12 (by decide)];exact h) ?_
 refine Zaa [] _ (fun L hL hcl v u hS hd K' hK=>by
  simp only[Act.put,Zl2,Zl0,Zl1]at hK
  go_simp
  exact hK.out _ ⟨⟨fun h=>hS.1 (by simpa using h),hS.2.1,hS.2.2.1,hS.2.2.2.1,fun h=>hS.2.2.2.2 (by simpa using h)⟩,KA.refl _ _ _⟩) (by kernel_rfl) (j:=1) rfl ?_
 refine Zaa [] _ (fun L hL hcl v u hS hd K' hK=>by
  simp only[Act.put,Zl2,Zl0,Zl1]at hK
  go_simp
  exact hK.out _ ⟨⟨fun h=>hS.1 (by simpa using h),hS.2.1,hS.2.2.1,hS.2.2.2.1,fun h=>hS.2.2.2.2 (by simpa using h)⟩,KA.refl _ _ _⟩) (by kernel_rfl) (j:=2) rfl ?_
 refine Zaa [1] _ (fun L hL hcl v u hS hd K' hK=>by
  simp only[Zal,Zak,eqv,Zl3,Zl4,Nat.reduceSub]at hd
  simp only[Act.put,Zl2,Zl0,Zl1]at hK
  try simp only[hd]at hK
  go_simp
  exact hK.out _ ⟨⟨fun h=>hS.1 (by simpa using h),hS.2.1,hS.2.2.1,hS.2.2.2.1,fun h=>hS.2.2.2.2 (by simpa using h)⟩,KA.refl _ _ _⟩) (by kernel_rfl) (j:=3) rfl ?_
 refine Zaa [2] _ (fun L hL hcl v u hS hd K' hK=>by
  simp only[Zal,Zak,eqv,Zl3,Zl4,Nat.reduceSub]at hd
  have hc9:u.rangeAt gB oB q0:=Zbf hz0 hS.2.2.1.bw
  refine Zbe rfl ?_
  refine wp_load_mid 26 _ rfl gB _ hd q0 _ hc9 Tryz.underlying26 rfl (Zqh h60.1) ?_
  exact hK.out _ ⟨⟨fun h=>hS.1 (by simpa using h),hS.2.1,hS.2.2.1,hS.2.2.2.1,fun h=>hS.2.2.2.2 (by simpa using h)⟩,KA.refl _ _ _⟩) (by kernel_rfl) (j:=4) rfl ?_
 refine Zam [] (fun v u=>∃ g,v=.slice (some ⟨g,0,none⟩) 12 12∧Blk u g (Zdd.map fun x=>Value.string ⟨x.toArray⟩) 9∧b < g) ((by
  rintro j x u u' hj hg ⟨g,h1,h2,h3⟩
  exact ⟨g,h1,hg.blk h2 (by omega) (by decide),h3⟩)) (fun L hL hcl v u hS hd K' hK=>by
  simp only[Act.put,Zl2,Zl0,Zl1]at hK
  go_simp
  refine (signs_w u hS.2.2.1.tbs).mono ?_
  rintro e9 u1 ⟨rfl,rfl⟩
  have hb9:=Zac u (.cells (Zdd.map fun x=>Value.string ⟨x.toArray⟩).toArray 9)
  have k9:=Blk.new u (Zdd.map fun x=>Value.string ⟨x.toArray⟩) 9
  exact hK.out _ _ ⟨⟨fun h=>(hS.1 (by simpa using h)).below hb9,hS.2.1.below hb9,hS.2.2.1.below hb9,hS.2.2.2.1.trans (KA.of hb9 (by have:=hS.2.1.lt;omega)),fun h=>(hS.2.2.2.2 (by simpa using h)).below hb9⟩,KA.of hb9 (by have:=hS.2.1.lt;omega),u.heap.size,rfl,k9,by have:=hS.2.1.lt;omega⟩) (by kernel_rfl) (j:=5) rfl ?_
 refine Zaa [] _ (fun L hL hcl v u hS hd K' hK=>by
  simp only[Act.put,Zl2,Zl0,Zl1]at hK
  go_simp
  exact hK.out _ ⟨⟨fun h=>hS.1 (by simpa using h),hS.2.1,hS.2.2.1,hS.2.2.2.1,fun h=>hS.2.2.2.2 (by simpa using h)⟩,KA.refl _ _ _⟩) (by kernel_rfl) (j:=6) rfl ?_
 refine Zaa [5] _ (fun L hL hcl v u hS hd K' hK=>by
  simp only[Zal,Zak,eqv,Zl3,Zl4,Nat.reduceSub]at hd
  simp only[Act.put,Zl2,Zl0,Zl1]at hK
  try simp only[hd]at hK
  have x9:=(HKR.out u hS.2.1).1
  go_simp
  exact hK.out _ ⟨⟨fun h=>hS.1 (by simpa using h),hS.2.1,hS.2.2.1,hS.2.2.2.1,fun h=>hS.2.2.2.2 (by simpa using h)⟩,KA.refl _ _ _⟩) (by kernel_rfl) (j:=7) rfl ?_
 refine Zaa [6] _ (fun L hL hcl v u hS hd K' hK=>by
  simp only[Zal,Zak,eqv,Zl3,Zl4,Nat.reduceSub]at hd
  simp only[Act.put,Zl2,Zl0,Zl1]at hK
  try simp only[hd]at hK
  go_simp
  exact hK.out _ ⟨⟨fun h=>hS.1 (by simpa using h),hS.2.1,hS.2.2.1,hS.2.2.2.1,fun h=>hS.2.2.2.2 (by simpa using h)⟩,KA.refl _ _ _⟩) (by kernel_rfl) (j:=8) rfl ?_
 refine Zam [4,7] (fun v u=>∃ g,v=.pointer (some ⟨g,K,none⟩)∧Blk u g (Zdd.map fun x=>Value.string ⟨x.toArray⟩) 9∧b < g) ((by
  rintro j x u u' hj hg ⟨g,h1,h2,h3⟩
  exact ⟨g,h1,hg.blk h2 (by omega) (by decide),h3⟩)) (fun L hL hcl v u hS hd K' hK=>by
  simp only[Zal,Zak,eqv,Zl3,Zl4,Nat.reduceSub]at hd
  simp only[Act.put,Zl2,Zl0,Zl1]at hK
  try simp only[hd]at hK
  obtain ⟨⟨g,h1,h2,h3⟩,h7⟩:=hd
  simp only[h1,h7]at hK ⊢
  go_simp
  exact hK.out _ _ ⟨⟨fun h=>hS.1 (by simpa using h),hS.2.1,hS.2.2.1,hS.2.2.2.1,fun h=>hS.2.2.2.2 (by simpa using h)⟩,KA.refl _ _ _,g,rfl,h2,h3⟩) (by kernel_rfl) (j:=9) rfl ?_
 refine Zaa [8] _ (fun L hL hcl v u hS hd K' hK=>by
  simp only[Zal,Zak,eqv,Zl3,Zl4,Nat.reduceSub]at hd
  simp only[Act.put,Zl2,Zl0,Zl1]at hK
  try simp only[hd]at hK
  obtain ⟨g,h1,h2,h3⟩:=hd
  simp only[h1]at hK ⊢
  have c9:u.cell? ⟨g,K,none⟩=some (.string SG):=(h2.cell _).trans HSG.out
  go_simp
  exact hK.out _ ⟨⟨fun h=>hS.1 (by simpa using h),hS.2.1,hS.2.2.1,hS.2.2.2.1,fun h=>hS.2.2.2.2 (by simpa using h)⟩,KA.refl _ _ _⟩) (by kernel_rfl) (j:=10) rfl ?_
 refine Zaa [9] _ (fun L hL hcl v u hS hd K' hK=>by
  simp only[Zal,Zak,eqv,Zl3,Zl4,Nat.reduceSub]at hd
  simp only[Act.put,Zl2,Zl0,Zl1]at hK
  try simp only[hd]at hK
  go_simp
  exact hK.out _ ⟨⟨fun h=>hS.1 (by simpa using h),hS.2.1,hS.2.2.1,hS.2.2.2.1,fun h=>hS.2.2.2.2 (by simpa using h)⟩,KA.refl _ _ _⟩) (by kernel_rfl) (j:=11) rfl ?_
 refine Zaa [10] _ (fun L hL hcl v u hS hd K' hK=>by
  simp only[Zal,Zak,eqv,Zl3,Zl4,Nat.reduceSub]at hd
  simp only[Act.put,Zl2,Zl0,Zl1]at hK
  try simp only[hd]at hK
  go_simp
  exact hK.out _ ⟨⟨fun h=>hS.1 (by simpa using h),hS.2.1,hS.2.2.1,hS.2.2.2.1,fun h=>hS.2.2.2.2 (by simpa using h)⟩,KA.refl _ _ _⟩) (by kernel_rfl) (j:=12) rfl ?_
 refine Zaa [0,3,11] _ (fun L hL hcl v u hS hd K' hK=>by
  simp only[Zal,Zak,eqv,Zl3,Zl4,Nat.reduceSub]at hd
  simp only[Act.put,Zl2,Zl0,Zl1]at hK
  try simp only[hd]at hK
  go_simp
  refine (Zie w0 q0 (Zao y0) hw0 hX0 b acc ⟨#[40]⟩ S2 u hS.2.2.1 (hS.1 hL) hsz).mono ?_
  rintro e9 u1 ⟨rfl,hP9,hK9⟩
  exact hK.out _ ⟨⟨fun h=>by simp at h,hK9.blk hS.2.1 (by omega) (by decide),hS.2.2.1.step hK9,hS.2.2.2.1.trans hK9,fun _=>hP9⟩,hK9⟩) (by kernel_rfl) (j:=13) rfl ?_
 refine Zau [] (by decide) ?_
 rintro v u hS hR
 obtain ⟨-,z1,z2,z3,z4⟩:=hS
 have z5:=z4 rfl
 have hk:=Zie w0 q1 (Zao y1) hw1 hX1 b _ ⟨#[]⟩ ⟨#[41]⟩ u z2 z5 (by
  have h1:=HLEN.out
  rw[hXq.out]at h1
  simp only[List.length_append,List.length_cons,List.length_nil,Zez,List.size_toArray,Zdo]at h1 ⊢
  omega)
 go_wp2_with (first
  | (at_builtin;fail)
  | refine wpList_load_mid rfl 26 _ rfl gB (oB+1 * 6) rfl q1 _ (Zbf hg1 z2.bw) Tryz.underlying26 rfl (Zqh h61.1) ?_)
 refine hk.mono ?_
 clear hk
 rintro e w9 ⟨rfl,hP9,hK9⟩
 go_wp2_with (first|(at_builtin;fail))
 go_end0
 refine ⟨rfl,?_,(hK1.trans z3).trans hK9⟩
 rw[hXq.out]
 simpa using hP9
end Go.Proofs.YtnhooehmcggmdaaGreatDoor
