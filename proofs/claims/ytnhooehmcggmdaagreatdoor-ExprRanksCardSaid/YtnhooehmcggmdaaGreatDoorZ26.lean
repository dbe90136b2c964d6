/- Parts of a proof about the given program: XPr8, XShow3. -/
import Derived.Test.YtnhooehmcggmdaaGreatDoorZ24
import Derived.Test.YtnhooehmcggmdaaGreatDoorZ22
namespace Go.Proofs.YtnhooehmcggmdaaGreatDoor
set_option maxHeartbeats 16000000
set_option linter.unusedVariables false
set_option linter.unusedSimpArgs false
set_option linter.unusedSectionVars false
open Go.RowKit
set_option maxRecDepth 100000 in
theorem pexpr_27 (w0:World) (P:Nat→Prop) (n:Int) (s t:ByteArray) (ns:List ByteArray) (l:List Et) (r:List Value) (hr:EAt w0 P (.mk 27 n s t ns l) r) (hright:Zbt (.mk 27 n s t ns l)=true) (ih:∀ x q,x ∈ l→EAt w0 P x q→PrX w0 q (Zao x)):PrX w0 r (Zao (.mk 27 n s t ns l)):=by
 intro b acc w hE h hlen
 obtain ⟨hc,hbr,hpt,hrs⟩:=Zbh hright
 have hr0:=hr
 rw[EAt]at hr
 obtain ⟨A,cA,B,cB,rows,hrw,hnum,hTx,hnsz,⟨hnl,-,hll,-⟩,-,hLi,hEs⟩:=hr
 unfold Zbq at hnl hll
 obtain ⟨X,HX⟩:=Zaf (Zao (.mk 27 n s t ns l))
 have hXe:X=Zha (l.head?.elim false unE) ((Zaz l).getD 0 []) ++ 46 :: (Zfm 27 ++ 40 :: ((Zaz l).getD 1 [] ++ [41])):=by rw[HX.out,Zao];rfl
 rw[←HX.out]at hlen ⊢
 have kr:=Blk.new w r 26
 have hb0:=Zac w (.cells r.toArray 26)
 have hP1:=h.below hb0
 have hE1:=hE.below hb0
 have hK1:=KA.of2 hb0 h
 have hgb:=PBT.lt h
 obtain ⟨W,hW⟩:=Zaf (w.alloc (.cells r.toArray 26))
 have hWl:Hid (W=w.alloc (.cells #[.int .u8 27,.int .i64 n,.string s,.string t,.slice A ns.length cA,.slice B l.length cB] 26)):=by
  rw[hrw]at hW
  exact hW
 rw[←hW.out]at kr hP1 hE1 hK1
 obtain ⟨k3,hk3⟩:=Zaf w.heap.size
 rw[←hk3.out]at kr hgb
 have x0:W.cell? ⟨k3,0,none⟩=some (.int .u8 27):=by rw[kr.cell,hrw];rfl
 have x5:W.cell? ⟨k3,5,none⟩=some (.slice B l.length cB):=by rw[kr.cell,hrw];rfl
 have HRW:=Zai hrw
 obtain ⟨nn,hnn⟩:=Zaf ns.length
 obtain ⟨lm,hlm0⟩:=Zaf l.length
 have hkr:∀ u:World,Blk u k3 r 26→u.cell? ⟨k3,0,none⟩=some (.int .u8 27)∧u.cell? ⟨k3,1,none⟩=some (.int .i64 n)∧u.cell? ⟨k3,2,none⟩=some (.string s)∧u.cell? ⟨k3,3,none⟩=some (.string t)∧u.cell? ⟨k3,4,none⟩=some (.slice A ns.length cA)∧u.cell? ⟨k3,5,none⟩=some (.slice B l.length cB):=fun u h=>by
  rw[HRW.out]at h
  exact ⟨h.cell 0,h.cell 1,h.cell 2,h.cell 3,h.cell 4,h.cell 5⟩
 simp only[←hnn.out,←hlm0.out]at hkr
 rw[←hlm0.out]at x5
 rw[←hnn.out,←hlm0.out]at hWl
 have HKR:=Zai hkr
 have HXE:=Zai hXe
 have HLEN:=Zai hlen
 have HBR:=Zai hbr
 have HPT:=Zai hpt
 have HTX:=Zai hTx
 have HLI:=Zai hLi
 have HES:=Zai hEs
 have HRL:r.length=6:=by rw[hrw];rfl
 have HR0:=Zai hr0
 clear hW h hE hb0 HX hkr hXe hlen hbr hpt hTx hLi hEs hright hrs hr0
 rw[show (Value.agg r.toArray)=.agg #[.int .u8 27,.int .i64 n,.string s,.string t,.slice A ns.length cA,.slice B l.length cB] from by rw[hrw];rfl]
 rw[←hnn.out,←hlm0.out]
 clear hrw
 have hlm:l.length=2:=by simpa [Zld,Zfn] using hc
 have hlmN:lm=2:=hlm0.out.trans hlm
 have hI0:(0:Int) < (lm:Int):=by omega
 have hN0:0 < lm:=by omega
 have hI1:(1:Int) < (lm:Int):=by omega
 have hN1:1 < lm:=by omega
 clear hlmN
 obtain ⟨y0,y1,rfl⟩:∃ y0 y1,l=[y0,y1]:=Zmz hlm
 obtain ⟨q0,hq0,hv0⟩:=(Zbm HES.out).2 0 y0 rfl
 have hX0:=ih y0 q0 (by simp) hv0
 have hw0:=Zcf hv0
 have h60:=Zcl hw0
 obtain ⟨q1,hq1,hv1⟩:=(Zbm HES.out).2 1 y1 rfl
 have hX1:=ih y1 q1 (by simp) hv1
 have hw1:=Zcf hv1
 have h61:=Zcl hw1
 obtain ⟨gB,oB,rfl,-⟩:=HLI.out.2 (by
  have h9:=Zci HES.out
  intro e
  rw[e]at h9
  simp at h9)
 have hg0:=Zdt HLI.out (Zbl HES.out) hq0
 have hg1:=Zdt HLI.out (Zbl HES.out) hq1
 have hz1:w0.rangeAt gB (oB+6) q1:=by simpa using hg1
 obtain ⟨SL,hSL⟩:=Zaf (Zfm 27)
 obtain ⟨SG,hSG⟩:=Zaf (str SL)
 have HSG:Hid ((Zbv.map fun x=>Value.string ⟨x.toArray⟩)[0]?=some (.string SG)):=Zai (by rw[hSG.out,hSL.out];rfl)
 have HLB:Hid (SL.length≤1000):=Zai (by rw[hSL.out];decide)
 rw[←hSL.out]at HXE
 obtain ⟨S1,hS1⟩:=Zaf (str ([46] ++ SL))
 obtain ⟨S2,hS2⟩:=Zaf (str ([46] ++ SL ++ [40]))
 have ha1:=Zhw (a:=[46]) (c:=SL) (S:=⟨#[46]⟩) rfl hSG.out hS1.out (by have h1:=HLB.out;simp only[List.length_cons,List.length_nil];omega)
 have ha2:=Zhw (a:=[46] ++ SL) (c:=[40]) (T:=⟨#[40]⟩) hS1.out rfl hS2.out (by have h1:=HLB.out;simp only[List.length_append,List.length_cons,List.length_nil];omega)
 have hd2:Hid (S2.data.toList=[46] ++ SL ++ [40]):=Zai (by rw[hS2.out,Zax])
 have hw8:IntKind.u8.wrap ((27:Int) - 27)=0:=by decide
 obtain ⟨o1,n1,s1,t1,ns1,l1⟩:=y0
 obtain ⟨A1,c1,B1,d1,hq9⟩:∃ A1 c1 B1 d1,q0=Zav o1 n1 s1 t1 (.slice A1 ns1.length c1) (.slice B1 l1.length d1):=by
  have h9:=hv0
  rw[EAt]at h9
  obtain ⟨A1,c1,B1,d1,rows1,e9,_⟩:=h9
  exact ⟨A1,c1,B1,d1,e9⟩
 obtain ⟨y0,hyy⟩:=Zaf (Et.mk o1 n1 s1 t1 ns1 l1)
 have hun:unE y0=decide (o1=12∨o1=13):=by rw[hyy.out];rfl
 rw[←hyy.out]at hX0 hv0 HXE HES
 have hXb:Hid (X=Zha (decide (o1=12∨o1=13)) (Zao y0) ++ (S2.data.toList ++ (Zao y1 ++ [41]))):=Zai (by rw[HXE.out,←hun,hd2.out];simp[Zaz])
 have hk:=Zsn w0 o1 n1 s1 t1 A1 ns1.length c1 B1 l1.length d1 q0 hq9 (Zao y0) hX0 b acc W hE1 hP1 (by
  have h1:=HLEN.out
  rw[hXb.out,List.length_append]at h1
  omega)
 obtain ⟨KX,hKX⟩:=Zaf (Zha (decide (o1=12∨o1=13)) (Zao y0))
 rw[←hKX.out]at hk hXb
 clear hKX hun hq9 HES HXE hv0 hX0 hyy hSL hS1 hS2 hd2
 go_enter Tryz.func21,Tryz.ntmps21
 go_upto_region 1 with (first|(at_builtin;fail))
 rw[←hk3.out,←hWl.out]
 clear hWl
 go_wp2_with (first
  | (at_builtin;fail)
  | refine wpList_load_mid rfl 26 _ rfl gB (oB+0 * 6) rfl q0 _ (Zbf hg0 hE1.bw) Tryz.underlying26 rfl (Zqh h60.1) ?_)
 refine hk.mono ?_
 clear hk
 rintro e w1 ⟨rfl,hP2,hK2⟩
 have hE2:=hE1.step hK2
 have hK3:=hK1.trans hK2
 have kr2:=hK2.blk kr (by omega) (by decide)
 have hsz:(acc ++ KX).length+(S2.data.toList ++ (Zao y1 ++ (⟨#[41]⟩:ByteArray).data.toList)).length≤1099511627776:=by
  have h1:=HLEN.out
  rw[hXb.out]at h1
  simp only[List.length_append,Zez,List.size_toArray,Zdo]at h1 ⊢
  omega
 clear x0 x5 hP1 hE1 kr hK1 hK2
 go_upto_region 46 with (first|(at_builtin;fail))
 refine Zap (fun L _ u=>(L 12=false→PB b (acc ++ KX) u)∧Blk u k3 r 26∧Zll w0 b u∧KA b b w1 u∧(L 12=true→PB b (acc ++ KX ++ (S2.data.toList ++ (Zao y1 ++ (⟨#[41]⟩:ByteArray).data.toList))) u)) (fun _ u u'=>KA b b u u') _ (by kernel_rfl) (by kernel_rfl) (fun v=>by simp only[Zbx,Act.put,List.toList_toArray,Zl2,Zl0,Zl1,Nat.reduceAdd,Nat.zero_add];rfl) ⟨fun _=>hP2.below (Zaj (Below.refl _ _)),kr2.below (Zaj (Below.refl _ _)),hE2.below (Zaj (Below.refl _ _)),KA.of (Zaj (Below.refl _ _)) (by have:=kr2.lt;omega),fun h=>(by cases h)⟩ (fun L L' v u hL h=>by rw[←hL 12 (by decide)];exact h) ?_
 refine Zaa [] _ (fun L hL hcl v u hS hd K' hK=>by
  simp only[Act.put,Zl2,Zl0,Zl1]at hK
  go_simp
  exact hK.out _ ⟨⟨fun h=>hS.1 (by simpa using h),hS.2.1,hS.2.2.1,hS.2.2.2.1,fun h=>hS.2.2.2.2 (by simpa using h)⟩,KA.refl _ _ _⟩) (by kernel_rfl) (j:=1) rfl ?_
 refine Zam [] (fun v u=>∃ g,v=.slice (some ⟨g,0,none⟩) 3 3∧Blk u g (Zbv.map fun x=>Value.string ⟨x.toArray⟩) 9∧b < g) ((by
  rintro j x u u' hj hg ⟨g,h1,h2,h3⟩
  exact ⟨g,h1,hg.blk h2 (by omega) (by decide),h3⟩)) (fun L hL hcl v u hS hd K' hK=>by
  simp only[Act.put,Zl2,Zl0,Zl1]at hK
  go_simp
  refine (Ztn u hS.2.2.1.tbs).mono ?_
  rintro e9 u1 ⟨rfl,rfl⟩
  have hb9:=Zac u (.cells (Zbv.map fun x=>Value.string ⟨x.toArray⟩).toArray 9)
  have k9:=Blk.new u (Zbv.map fun x=>Value.string ⟨x.toArray⟩) 9
  exact hK.out _ _ ⟨⟨fun h=>(hS.1 (by simpa using h)).below hb9,hS.2.1.below hb9,hS.2.2.1.below hb9,hS.2.2.2.1.trans (KA.of hb9 (by have:=hS.2.1.lt;omega)),fun h=>(hS.2.2.2.2 (by simpa using h)).below hb9⟩,KA.of hb9 (by have:=hS.2.1.lt;omega),u.heap.size,rfl,k9,by have:=hS.2.1.lt;omega⟩) (by kernel_rfl) (j:=2) rfl ?_
 refine Zaa [] _ (fun L hL hcl v u hS hd K' hK=>by
  simp only[Act.put,Zl2,Zl0,Zl1]at hK
  go_simp
  exact hK.out _ ⟨⟨fun h=>hS.1 (by simpa using h),hS.2.1,hS.2.2.1,hS.2.2.2.1,fun h=>hS.2.2.2.2 (by simpa using h)⟩,KA.refl _ _ _⟩) (by kernel_rfl) (j:=3) rfl ?_
 refine Zaa [2] _ (fun L hL hcl v u hS hd K' hK=>by
  simp only[Zal,Zak,eqv,Zl3,Zl4,Nat.reduceSub]at hd
  simp only[Act.put,Zl2,Zl0,Zl1]at hK
  try simp only[hd]at hK
  have x9:=(HKR.out u hS.2.1).1
  go_simp
  exact hK.out _ ⟨⟨fun h=>hS.1 (by simpa using h),hS.2.1,hS.2.2.1,hS.2.2.2.1,fun h=>hS.2.2.2.2 (by simpa using h)⟩,KA.refl _ _ _⟩) (by kernel_rfl) (j:=4) rfl ?_
 refine Zaa [3] _ (fun L hL hcl v u hS hd K' hK=>by
  simp only[Zal,Zak,eqv,Zl3,Zl4,Nat.reduceSub]at hd
  simp only[Act.put,Zl2,Zl0,Zl1]at hK
  try simp only[hd]at hK
  go_simp
  exact hK.out _ ⟨⟨fun h=>hS.1 (by simpa using h),hS.2.1,hS.2.2.1,hS.2.2.2.1,fun h=>hS.2.2.2.2 (by simpa using h)⟩,KA.refl _ _ _⟩) (by kernel_rfl) (j:=5) rfl ?_
 refine Zam [1,4] (fun v u=>∃ g,v=.pointer (some ⟨g,0,none⟩)∧Blk u g (Zbv.map fun x=>Value.string ⟨x.toArray⟩) 9∧b < g) ((by
  rintro j x u u' hj hg ⟨g,h1,h2,h3⟩
  exact ⟨g,h1,hg.blk h2 (by omega) (by decide),h3⟩)) (fun L hL hcl v u hS hd K' hK=>by
  simp only[Zal,Zak,eqv,Zl3,Zl4,Nat.reduceSub]at hd
  simp only[Act.put,Zl2,Zl0,Zl1]at hK
  try simp only[hd]at hK
  obtain ⟨⟨g,h1,h2,h3⟩,h7⟩:=hd
  simp only[h1,h7]at hK ⊢
  go_simp
  exact hK.out _ _ ⟨⟨fun h=>hS.1 (by simpa using h),hS.2.1,hS.2.2.1,hS.2.2.2.1,fun h=>hS.2.2.2.2 (by simpa using h)⟩,KA.refl _ _ _,g,rfl,h2,h3⟩) (by kernel_rfl) (j:=6) rfl ?_
 refine Zaa [5] _ (fun L hL hcl v u hS hd K' hK=>by
  simp only[Zal,Zak,eqv,Zl3,Zl4,Nat.reduceSub]at hd
  simp only[Act.put,Zl2,Zl0,Zl1]at hK
  try simp only[hd]at hK
  obtain ⟨g,h1,h2,h3⟩:=hd
  simp only[h1]at hK ⊢
  have c9:u.cell? ⟨g,0,none⟩=some (.string SG):=(h2.cell _).trans HSG.out
  go_simp
  exact hK.out _ ⟨⟨fun h=>hS.1 (by simpa using h),hS.2.1,hS.2.2.1,hS.2.2.2.1,fun h=>hS.2.2.2.2 (by simpa using h)⟩,KA.refl _ _ _⟩) (by kernel_rfl) (j:=7) rfl ?_
 refine Zaa [6] _ (fun L hL hcl v u hS hd K' hK=>by
  simp only[Zal,Zak,eqv,Zl3,Zl4,Nat.reduceSub]at hd
  simp only[Act.put,Zl2,Zl0,Zl1]at hK
  try simp only[hd]at hK
  go_simp
  exact hK.out _ ⟨⟨fun h=>hS.1 (by simpa using h),hS.2.1,hS.2.2.1,hS.2.2.2.1,fun h=>hS.2.2.2.2 (by simpa using h)⟩,KA.refl _ _ _⟩) (by kernel_rfl) (j:=8) rfl ?_
 refine Zaa [7] _ (fun L hL hcl v u hS hd K' hK=>by
  simp only[Zal,Zak,eqv,Zl3,Zl4,Nat.reduceSub]at hd
  simp only[Act.put,Zl2,Zl0,Zl1]at hK
  try simp only[hd]at hK
  go_simp
  exact hK.out _ ⟨⟨fun h=>hS.1 (by simpa using h),hS.2.1,hS.2.2.1,hS.2.2.2.1,fun h=>hS.2.2.2.2 (by simpa using h)⟩,KA.refl _ _ _⟩) (by kernel_rfl) (j:=9) rfl ?_
 refine Zaa [] _ (fun L hL hcl v u hS hd K' hK=>by
  simp only[Act.put,Zl2,Zl0,Zl1]at hK
  go_simp
  exact hK.out _ ⟨⟨fun h=>hS.1 (by simpa using h),hS.2.1,hS.2.2.1,hS.2.2.2.1,fun h=>hS.2.2.2.2 (by simpa using h)⟩,KA.refl _ _ _⟩) (by kernel_rfl) (j:=10) rfl ?_
 refine Zaa [9] _ (fun L hL hcl v u hS hd K' hK=>by
  simp only[Zal,Zak,eqv,Zl3,Zl4,Nat.reduceSub]at hd
  simp only[Act.put,Zl2,Zl0,Zl1]at hK
  try simp only[hd]at hK
  go_simp
  exact hK.out _ ⟨⟨fun h=>hS.1 (by simpa using h),hS.2.1,hS.2.2.1,hS.2.2.2.1,fun h=>hS.2.2.2.2 (by simpa using h)⟩,KA.refl _ _ _⟩) (by kernel_rfl) (j:=11) rfl ?_
 refine Zaa [10] _ (fun L hL hcl v u hS hd K' hK=>by
  simp only[Zal,Zak,eqv,Zl3,Zl4,Nat.reduceSub]at hd
  have hc9:u.rangeAt gB (oB+6) q1:=Zbf hz1 hS.2.2.1.bw
  refine Zbe rfl ?_
  refine wp_load_mid 26 _ rfl gB _ hd q1 _ hc9 Tryz.underlying26 rfl (Zqh h61.1) ?_
  exact hK.out _ ⟨⟨fun h=>hS.1 (by simpa using h),hS.2.1,hS.2.2.1,hS.2.2.2.1,fun h=>hS.2.2.2.2 (by simpa using h)⟩,KA.refl _ _ _⟩) (by kernel_rfl) (j:=12) rfl ?_
 refine Zaa [0,8,11] _ (fun L hL hcl v u hS hd K' hK=>by
  simp only[Zal,Zak,eqv,Zl3,Zl4,Nat.reduceSub]at hd
  simp only[Act.put,Zl2,Zl0,Zl1]at hK
  try simp only[hd]at hK
  go_simp
  refine (Zie w0 q1 (Zao y1) hw1 hX1 b _ S2 ⟨#[41]⟩ u hS.2.2.1 (hS.1 hL) hsz).mono ?_
  rintro e9 u1 ⟨rfl,hP9,hK9⟩
  exact hK.out _ ⟨⟨fun h=>by simp at h,hK9.blk hS.2.1 (by omega) (by decide),hS.2.2.1.step hK9,hS.2.2.2.1.trans hK9,fun _=>hP9⟩,hK9⟩) (by kernel_rfl) (j:=13) rfl ?_
 refine Zau [] (by decide) ?_
 rintro v u hS hR
 obtain ⟨-,z1,z2,z3,z4⟩:=hS
 have z5:=z4 rfl
 go_wp2_with (first|(at_builtin;fail))
 go_end0
 refine ⟨rfl,?_,hK3.trans z3⟩
 rw[hXb.out]
 rw[List.append_assoc]at z5
 exact z5
set_option maxRecDepth 100000 in
theorem pexpr_28 (w0:World) (P:Nat→Prop) (n:Int) (s t:ByteArray) (ns:List ByteArray) (l:List Et) (r:List Value) (hr:EAt w0 P (.mk 28 n s t ns l) r) (hright:Zbt (.mk 28 n s t ns l)=true) (ih:∀ x q,x ∈ l→EAt w0 P x q→PrX w0 q (Zao x)):PrX w0 r (Zao (.mk 28 n s t ns l)):=by
 intro b acc w hE h hlen
 obtain ⟨hc,hbr,hpt,hrs⟩:=Zbh hright
 have hr0:=hr
 rw[EAt]at hr
 obtain ⟨A,cA,B,cB,rows,hrw,hnum,hTx,hnsz,⟨hnl,-,hll,-⟩,-,hLi,hEs⟩:=hr
 unfold Zbq at hnl hll
 obtain ⟨X,HX⟩:=Zaf (Zao (.mk 28 n s t ns l))
 have hXe:X=Zha (l.head?.elim false unE) ((Zaz l).getD 0 []) ++ 46 :: (Zfm 28 ++ 40 :: ((Zaz l).getD 1 [] ++ [41])):=by rw[HX.out,Zao];rfl
 rw[←HX.out]at hlen ⊢
 have kr:=Blk.new w r 26
 have hb0:=Zac w (.cells r.toArray 26)
 have hP1:=h.below hb0
 have hE1:=hE.below hb0
 have hK1:=KA.of2 hb0 h
 have hgb:=PBT.lt h
 obtain ⟨W,hW⟩:=Zaf (w.alloc (.cells r.toArray 26))
 have hWl:Hid (W=w.alloc (.cells #[.int .u8 28,.int .i64 n,.string s,.string t,.slice A ns.length cA,.slice B l.length cB] 26)):=by
  rw[hrw]at hW
  exact hW
 rw[←hW.out]at kr hP1 hE1 hK1
 obtain ⟨k3,hk3⟩:=Zaf w.heap.size
 rw[←hk3.out]at kr hgb
 have x0:W.cell? ⟨k3,0,none⟩=some (.int .u8 28):=by rw[kr.cell,hrw];rfl
 have x5:W.cell? ⟨k3,5,none⟩=some (.slice B l.length cB):=by rw[kr.cell,hrw];rfl
 have HRW:=Zai hrw
 obtain ⟨nn,hnn⟩:=Zaf ns.length
 obtain ⟨lm,hlm0⟩:=Zaf l.length
 have hkr:∀ u:World,Blk u k3 r 26→u.cell? ⟨k3,0,none⟩=some (.int .u8 28)∧u.cell? ⟨k3,1,none⟩=some (.int .i64 n)∧u.cell? ⟨k3,2,none⟩=some (.string s)∧u.cell? ⟨k3,3,none⟩=some (.string t)∧u.cell? ⟨k3,4,none⟩=some (.slice A ns.length cA)∧u.cell? ⟨k3,5,none⟩=some (.slice B l.length cB):=fun u h=>by
  rw[HRW.out]at h
  exact ⟨h.cell 0,h.cell 1,h.cell 2,h.cell 3,h.cell 4,h.cell 5⟩
 simp only[←hnn.out,←hlm0.out]at hkr
 rw[←hlm0.out]at x5
 rw[←hnn.out,←hlm0.out]at hWl
 have HKR:=Zai hkr
 have HXE:=Zai hXe
 have HLEN:=Zai hlen
 have HBR:=Zai hbr
 have HPT:=Zai hpt
 have HTX:=Zai hTx
 have HLI:=Zai hLi
 have HES:=Zai hEs
 have HRL:r.length=6:=by rw[hrw];rfl
 have HR0:=Zai hr0
 clear hW h hE hb0 HX hkr hXe hlen hbr hpt hTx hLi hEs hright hrs hr0
 rw[show (Value.agg r.toArray)=.agg #[.int .u8 28,.int .i64 n,.string s,.string t,.slice A ns.length cA,.slice B l.length cB] from by rw[hrw];rfl]
 rw[←hnn.out,←hlm0.out]
 clear hrw
 have hlm:l.length=2:=by simpa [Zld,Zfn] using hc
 have hlmN:lm=2:=hlm0.out.trans hlm
 have hI0:(0:Int) < (lm:Int):=by omega
 have hN0:0 < lm:=by omega
 have hI1:(1:Int) < (lm:Int):=by omega
 have hN1:1 < lm:=by omega
 clear hlmN
 obtain ⟨y0,y1,rfl⟩:∃ y0 y1,l=[y0,y1]:=Zmz hlm
 obtain ⟨q0,hq0,hv0⟩:=(Zbm HES.out).2 0 y0 rfl
 have hX0:=ih y0 q0 (by simp) hv0
 have hw0:=Zcf hv0
 have h60:=Zcl hw0
 obtain ⟨q1,hq1,hv1⟩:=(Zbm HES.out).2 1 y1 rfl
 have hX1:=ih y1 q1 (by simp) hv1
 have hw1:=Zcf hv1
 have h61:=Zcl hw1
 obtain ⟨gB,oB,rfl,-⟩:=HLI.out.2 (by
  have h9:=Zci HES.out
  intro e
  rw[e]at h9
  simp at h9)
 have hg0:=Zdt HLI.out (Zbl HES.out) hq0
 have hg1:=Zdt HLI.out (Zbl HES.out) hq1
 have hz1:w0.rangeAt gB (oB+6) q1:=by simpa using hg1
 obtain ⟨SL,hSL⟩:=Zaf (Zfm 28)
 obtain ⟨SG,hSG⟩:=Zaf (str SL)
 have HSG:Hid ((Zbv.map fun x=>Value.string ⟨x.toArray⟩)[1]?=some (.string SG)):=Zai (by rw[hSG.out,hSL.out];rfl)
 have HLB:Hid (SL.length≤1000):=Zai (by rw[hSL.out];decide)
 rw[←hSL.out]at HXE
 obtain ⟨S1,hS1⟩:=Zaf (str ([46] ++ SL))
 obtain ⟨S2,hS2⟩:=Zaf (str ([46] ++ SL ++ [40]))
 have ha1:=Zhw (a:=[46]) (c:=SL) (S:=⟨#[46]⟩) rfl hSG.out hS1.out (by have h1:=HLB.out;simp only[List.length_cons,List.length_nil];omega)
 have ha2:=Zhw (a:=[46] ++ SL) (c:=[40]) (T:=⟨#[40]⟩) hS1.out rfl hS2.out (by have h1:=HLB.out;simp only[List.length_append,List.length_cons,List.length_nil];omega)
 have hd2:Hid (S2.data.toList=[46] ++ SL ++ [40]):=Zai (by rw[hS2.out,Zax])
 have hw8:IntKind.u8.wrap ((28:Int) - 27)=1:=by decide
 obtain ⟨o1,n1,s1,t1,ns1,l1⟩:=y0
 obtain ⟨A1,c1,B1,d1,hq9⟩:∃ A1 c1 B1 d1,q0=Zav o1 n1 s1 t1 (.slice A1 ns1.length c1) (.slice B1 l1.length d1):=by
  have h9:=hv0
  rw[EAt]at h9
  obtain ⟨A1,c1,B1,d1,rows1,e9,_⟩:=h9
  exact ⟨A1,c1,B1,d1,e9⟩
 obtain ⟨y0,hyy⟩:=Zaf (Et.mk o1 n1 s1 t1 ns1 l1)
 have hun:unE y0=decide (o1=12∨o1=13):=by rw[hyy.out];rfl
 rw[←hyy.out]at hX0 hv0 HXE HES
 have hXb:Hid (X=Zha (decide (o1=12∨o1=13)) (Zao y0) ++ (S2.data.toList ++ (Zao y1 ++ [41]))):=Zai (by rw[HXE.out,←hun,hd2.out];simp[Zaz])
 have hk:=Zsn w0 o1 n1 s1 t1 A1 ns1.length c1 B1 l1.length d1 q0 hq9 (Zao y0) hX0 b acc W hE1 hP1 (by
  have h1:=HLEN.out
  rw[hXb.out,List.length_append]at h1
  omega)
 obtain ⟨KX,hKX⟩:=Zaf (Zha (decide (o1=12∨o1=13)) (Zao y0))
 rw[←hKX.out]at hk hXb
 clear hKX hun hq9 HES HXE hv0 hX0 hyy hSL hS1 hS2 hd2
 go_enter Tryz.func21,Tryz.ntmps21
 go_upto_region 1 with (first|(at_builtin;fail))
 rw[←hk3.out,←hWl.out]
 clear hWl
 go_wp2_with (first
  | (at_builtin;fail)
  | refine wpList_load_mid rfl 26 _ rfl gB (oB+0 * 6) rfl q0 _ (Zbf hg0 hE1.bw) Tryz.underlying26 rfl (Zqh h60.1) ?_)
 refine hk.mono ?_
 clear hk
 rintro e w1 ⟨rfl,hP2,hK2⟩
 have hE2:=hE1.step hK2
 have hK3:=hK1.trans hK2
 have kr2:=hK2.blk kr (by omega) (by decide)
 have hsz:(acc ++ KX).length+(S2.data.toList ++ (Zao y1 ++ (⟨#[41]⟩:ByteArray).data.toList)).length≤1099511627776:=by
  have h1:=HLEN.out
  rw[hXb.out]at h1
  simp only[List.length_append,Zez,List.size_toArray,Zdo]at h1 ⊢
  omega
 clear x0 x5 hP1 hE1 kr hK1 hK2
 go_upto_region 46 with (first|(at_builtin;fail))
 refine Zap (fun L _ u=>(L 12=false→PB b (acc ++ KX) u)∧Blk u k3 r 26∧Zll w0 b u∧KA b b w1 u∧(L 12=true→PB b (acc ++ KX ++ (S2.data.toList ++ (Zao y1 ++ (⟨#[41]⟩:ByteArray).data.toList))) u)) (fun _ u u'=>KA b b u u') _ (by kernel_rfl) (by kernel_rfl) (fun v=>by simp only[Zbx,Act.put,List.toList_toArray,Zl2,Zl0,Zl1,Nat.reduceAdd,Nat.zero_add];rfl) ⟨fun _=>hP2.below (Zaj (Below.refl _ _)),kr2.below (Zaj (Below.refl _ _)),hE2.below (Zaj (Below.refl _ _)),KA.of (Zaj (Below.refl _ _)) (by have:=kr2.lt;omega),fun h=>(by cases h)⟩ (fun L L' v u hL h=>by rw[←hL 12 (by decide)];exact h) ?_
 refine Zaa [] _ (fun L hL hcl v u hS hd K' hK=>by
  simp only[Act.put,Zl2,Zl0,Zl1]at hK
  go_simp
  exact hK.out _ ⟨⟨fun h=>hS.1 (by simpa using h),hS.2.1,hS.2.2.1,hS.2.2.2.1,fun h=>hS.2.2.2.2 (by simpa using h)⟩,KA.refl _ _ _⟩) (by kernel_rfl) (j:=1) rfl ?_
 refine Zam [] (fun v u=>∃ g,v=.slice (some ⟨g,0,none⟩) 3 3∧Blk u g (Zbv.map fun x=>Value.string ⟨x.toArray⟩) 9∧b < g) ((by
  rintro j x u u' hj hg ⟨g,h1,h2,h3⟩
  exact ⟨g,h1,hg.blk h2 (by omega) (by decide),h3⟩)) (fun L hL hcl v u hS hd K' hK=>by
  simp only[Act.put,Zl2,Zl0,Zl1]at hK
  go_simp
  refine (Ztn u hS.2.2.1.tbs).mono ?_
  rintro e9 u1 ⟨rfl,rfl⟩
  have hb9:=Zac u (.cells (Zbv.map fun x=>Value.string ⟨x.toArray⟩).toArray 9)
  have k9:=Blk.new u (Zbv.map fun x=>Value.string ⟨x.toArray⟩) 9
  exact hK.out _ _ ⟨⟨fun h=>(hS.1 (by simpa using h)).below hb9,hS.2.1.below hb9,hS.2.2.1.below hb9,hS.2.2.2.1.trans (KA.of hb9 (by have:=hS.2.1.lt;omega)),fun h=>(hS.2.2.2.2 (by simpa using h)).below hb9⟩,KA.of hb9 (by have:=hS.2.1.lt;omega),u.heap.size,rfl,k9,by have:=hS.2.1.lt;omega⟩) (by kernel_rfl) (j:=2) rfl ?_
 refine Zaa [] _ (fun L hL hcl v u hS hd K' hK=>by
  simp only[Act.put,Zl2,Zl0,Zl1]at hK
  go_simp
  exact hK.out _ ⟨⟨fun h=>hS.1 (by simpa using h),hS.2.1,hS.2.2.1,hS.2.2.2.1,fun h=>hS.2.2.2.2 (by simpa using h)⟩,KA.refl _ _ _⟩) (by kernel_rfl) (j:=3) rfl ?_
 refine Zaa [2] _ (fun L hL hcl v u hS hd K' hK=>by
  simp only[Zal,Zak,eqv,Zl3,Zl4,Nat.reduceSub]at hd
  simp only[Act.put,Zl2,Zl0,Zl1]at hK
  try simp only[hd]at hK
  have x9:=(HKR.out u hS.2.1).1
  go_simp
  exact hK.out _ ⟨⟨fun h=>hS.1 (by simpa using h),hS.2.1,hS.2.2.1,hS.2.2.2.1,fun h=>hS.2.2.2.2 (by simpa using h)⟩,KA.refl _ _ _⟩) (by kernel_rfl) (j:=4) rfl ?_
 refine Zaa [3] _ (fun L hL hcl v u hS hd K' hK=>by
  simp only[Zal,Zak,eqv,Zl3,Zl4,Nat.reduceSub]at hd
  simp only[Act.put,Zl2,Zl0,Zl1]at hK
  try simp only[hd]at hK
  go_simp
  exact hK.out _ ⟨⟨fun h=>hS.1 (by simpa using h),hS.2.1,hS.2.2.1,hS.2.2.2.1,fun h=>hS.2.2.2.2 (by simpa using h)⟩,KA.refl _ _ _⟩) (by kernel_rfl) (j:=5) rfl ?_
 refine Zam [1,4] (fun v u=>∃ g,v=.pointer (some ⟨g,1,none⟩)∧Blk u g (Zbv.map fun x=>Value.string ⟨x.toArray⟩) 9∧b < g) ((by
  rintro j x u u' hj hg ⟨g,h1,h2,h3⟩
  exact ⟨g,h1,hg.blk h2 (by omega) (by decide),h3⟩)) (fun L hL hcl v u hS hd K' hK=>by
  simp only[Zal,Zak,eqv,Zl3,Zl4,Nat.reduceSub]at hd
  simp only[Act.put,Zl2,Zl0,Zl1]at hK
  try simp only[hd]at hK
  obtain ⟨⟨g,h1,h2,h3⟩,h7⟩:=hd
  simp only[h1,h7]at hK ⊢
  go_simp
  exact hK.out _ _ ⟨⟨fun h=>hS.1 (by simpa using h),hS.2.1,hS.2.2.1,hS.2.2.2.1,fun h=>hS.2.2.2.2 (by simpa using h)⟩,KA.refl _ _ _,g,rfl,h2,h3⟩) (by kernel_rfl) (j:=6) rfl ?_
 refine Zaa [5] _ (fun L hL hcl v u hS hd K' hK=>by
  simp only[Zal,Zak,eqv,Zl3,Zl4,Nat.reduceSub]at hd
  simp only[Act.put,Zl2,Zl0,Zl1]at hK
  try simp only[hd]at hK
  obtain ⟨g,h1,h2,h3⟩:=hd
  simp only[h1]at hK ⊢
  have c9:u.cell? ⟨g,1,none⟩=some (.string SG):=(h2.cell _).trans HSG.out
  go_simp
  exact hK.out _ ⟨⟨fun h=>hS.1 (by simpa using h),hS.2.1,hS.2.2.1,hS.2.2.2.1,fun h=>hS.2.2.2.2 (by simpa using h)⟩,KA.refl _ _ _⟩) (by kernel_rfl) (j:=7) rfl ?_
 refine Zaa [6] _ (fun L hL hcl v u hS hd K' hK=>by
  simp only[Zal,Zak,eqv,Zl3,Zl4,Nat.reduceSub]at hd
  simp only[Act.put,Zl2,Zl0,Zl1]at hK
  try simp only[hd]at hK
  go_simp
  exact hK.out _ ⟨⟨fun h=>hS.1 (by simpa using h),hS.2.1,hS.2.2.1,hS.2.2.2.1,fun h=>hS.2.2.2.2 (by simpa using h)⟩,KA.refl _ _ _⟩) (by kernel_rfl) (j:=8) rfl ?_
 refine Zaa [7] _ (fun L hL hcl v u hS hd K' hK=>by
  simp only[Zal,Zak,eqv,Zl3,Zl4,Nat.reduceSub]at hd
  simp only[Act.put,Zl2,Zl0,Zl1]at hK
  try simp only[hd]at hK
  go_simp
  exact hK.out _ ⟨⟨fun h=>hS.1 (by simpa using h),hS.2.1,hS.2.2.1,hS.2.2.2.1,fun h=>hS.2.2.2.2 (by simpa using h)⟩,KA.refl _ _ _⟩) (by kernel_rfl) (j:=9) rfl ?_
 refine Zaa [] _ (fun L hL hcl v u hS hd K' hK=>by
  simp only[Act.put,Zl2,Zl0,Zl1]at hK
  go_simp
  exact hK.out _ ⟨⟨fun h=>hS.1 (by simpa using h),hS.2.1,hS.2.2.1,hS.2.2.2.1,fun h=>hS.2.2.2.2 (by simpa using h)⟩,KA.refl _ _ _⟩) (by kernel_rfl) (j:=10) rfl ?_
 refine Zaa [9] _ (fun L hL hcl v u hS hd K' hK=>by
  simp only[Zal,Zak,eqv,Zl3,Zl4,Nat.reduceSub]at hd
  simp only[Act.put,Zl2,Zl0,Zl1]at hK
  try simp only[hd]at hK
  go_simp
  exact hK.out _ ⟨⟨fun h=>hS.1 (by simpa using h),hS.2.1,hS.2.2.1,hS.2.2.2.1,fun h=>hS.2.2.2.2 (by simpa using h)⟩,KA.refl _ _ _⟩) (by kernel_rfl) (j:=11) rfl ?_
 refine Zaa [10] _ (fun L hL hcl v u hS hd K' hK=>by
  simp only[Zal,Zak,eqv,Zl3,Zl4,Nat.reduceSub]at hd
  have hc9:u.rangeAt gB (oB+6) q1:=Zbf hz1 hS.2.2.1.bw
  refine Zbe rfl ?_
  refine wp_load_mid 26 _ rfl gB _ hd q1 _ hc9 Tryz.underlying26 rfl (Zqh h61.1) ?_
  exact hK.out _ ⟨⟨fun h=>hS.1 (by simpa using h),hS.2.1,hS.2.2.1,hS.2.2.2.1,fun h=>hS.2.2.2.2 (by simpa using h)⟩,KA.refl _ _ _⟩) (by kernel_rfl) (j:=12) rfl ?_
 refine Zaa [0,8,11] _ (fun L hL hcl v u hS hd K' hK=>by
  simp only[Zal,Zak,eqv,Zl3,Zl4,Nat.reduceSub]at hd
  simp only[Act.put,Zl2,Zl0,Zl1]at hK
  try simp only[hd]at hK
  go_simp
  refine (Zie w0 q1 (Zao y1) hw1 hX1 b _ S2 ⟨#[41]⟩ u hS.2.2.1 (hS.1 hL) hsz).mono ?_
  rintro e9 u1 ⟨rfl,hP9,hK9⟩
  exact hK.out _ ⟨⟨fun h=>by simp at h,hK9.blk hS.2.1 (by omega) (by decide),hS.2.2.1.step hK9,hS.2.2.2.1.trans hK9,fun _=>hP9⟩,hK9⟩) (by kernel_rfl) (j:=13) rfl ?_
 refine Zau [] (by decide) ?_
 rintro v u hS hR
 obtain ⟨-,z1,z2,z3,z4⟩:=hS
 have z5:=z4 rfl
 go_wp2_with (first|(at_builtin;fail))
 go_end0
 refine ⟨rfl,?_,hK3.trans z3⟩
 rw[hXb.out]
 rw[List.append_assoc]at z5
 exact z5
set_option maxRecDepth 100000 in
theorem pexpr_29 (w0:World) (P:Nat→Prop) (n:Int) (s t:ByteArray) (ns:List ByteArray) (l:List Et) (r:List Value) (hr:EAt w0 P (.mk 29 n s t ns l) r) (hright:Zbt (.mk 29 n s t ns l)=true) (ih:∀ x q,x ∈ l→EAt w0 P x q→PrX w0 q (Zao x)):PrX w0 r (Zao (.mk 29 n s t ns l)):=by
 intro b acc w hE h hlen
 obtain ⟨hc,hbr,hpt,hrs⟩:=Zbh hright
 have hr0:=hr
 rw[EAt]at hr
 obtain ⟨A,cA,B,cB,rows,hrw,hnum,hTx,hnsz,⟨hnl,-,hll,-⟩,-,hLi,hEs⟩:=hr
 unfold Zbq at hnl hll
 obtain ⟨X,HX⟩:=Zaf (Zao (.mk 29 n s t ns l))
 have hXe:X=Zha (l.head?.elim false unE) ((Zaz l).getD 0 []) ++ 46 :: (Zfm 29 ++ 40 :: ((Zaz l).getD 1 [] ++ [41])):=by rw[HX.out,Zao];rfl
 rw[←HX.out]at hlen ⊢
 have kr:=Blk.new w r 26
 have hb0:=Zac w (.cells r.toArray 26)
 have hP1:=h.below hb0
 have hE1:=hE.below hb0
 have hK1:=KA.of2 hb0 h
 have hgb:=PBT.lt h
 obtain ⟨W,hW⟩:=Zaf (w.alloc (.cells r.toArray 26))
 have hWl:Hid (W=w.alloc (.cells #[.int .u8 29,.int .i64 n,.string s,.string t,.slice A ns.length cA,.slice B l.length cB] 26)):=by
  rw[hrw]at hW
  exact hW
 rw[←hW.out]at kr hP1 hE1 hK1
 obtain ⟨k3,hk3⟩:=Zaf w.heap.size
 rw[←hk3.out]at kr hgb
 have x0:W.cell? ⟨k3,0,none⟩=some (.int .u8 29):=by rw[kr.cell,hrw];rfl
 have x5:W.cell? ⟨k3,5,none⟩=some (.slice B l.length cB):=by rw[kr.cell,hrw];rfl
 have HRW:=Zai hrw
 obtain ⟨nn,hnn⟩:=Zaf ns.length
 obtain ⟨lm,hlm0⟩:=Zaf l.length
 have hkr:∀ u:World,Blk u k3 r 26→u.cell? ⟨k3,0,none⟩=some (.int .u8 29)∧u.cell? ⟨k3,1,none⟩=some (.int .i64 n)∧u.cell? ⟨k3,2,none⟩=some (.string s)∧u.cell? ⟨k3,3,none⟩=some (.string t)∧u.cell? ⟨k3,4,none⟩=some (.slice A ns.length cA)∧u.cell? ⟨k3,5,none⟩=some (.slice B l.length cB):=fun u h=>by
  rw[HRW.out]at h
  exact ⟨h.cell 0,h.cell 1,h.cell 2,h.cell 3,h.cell 4,h.cell 5⟩
 simp only[←hnn.out,←hlm0.out]at hkr
 rw[←hlm0.out]at x5
 rw[←hnn.out,←hlm0.out]at hWl
 have HKR:=Zai hkr
 have HXE:=Zai hXe
 have HLEN:=Zai hlen
 have HBR:=Zai hbr
 have HPT:=Zai hpt
 have HTX:=Zai hTx
 have HLI:=Zai hLi
 have HES:=Zai hEs
 have HRL:r.length=6:=by rw[hrw];rfl
 have HR0:=Zai hr0
 clear hW h hE hb0 HX hkr hXe hlen hbr hpt hTx hLi hEs hright hrs hr0
 rw[show (Value.agg r.toArray)=.agg #[.int .u8 29,.int .i64 n,.string s,.string t,.slice A ns.length cA,.slice B l.length cB] from by rw[hrw];rfl]
 rw[←hnn.out,←hlm0.out]
 clear hrw
 have hlm:l.length=2:=by simpa [Zld,Zfn] using hc
 have hlmN:lm=2:=hlm0.out.trans hlm
 have hI0:(0:Int) < (lm:Int):=by omega
 have hN0:0 < lm:=by omega
 have hI1:(1:Int) < (lm:Int):=by omega
 have hN1:1 < lm:=by omega
 clear hlmN
 obtain ⟨y0,y1,rfl⟩:∃ y0 y1,l=[y0,y1]:=Zmz hlm
 obtain ⟨q0,hq0,hv0⟩:=(Zbm HES.out).2 0 y0 rfl
 have hX0:=ih y0 q0 (by simp) hv0
 have hw0:=Zcf hv0
 have h60:=Zcl hw0
 obtain ⟨q1,hq1,hv1⟩:=(Zbm HES.out).2 1 y1 rfl
 have hX1:=ih y1 q1 (by simp) hv1
 have hw1:=Zcf hv1
 have h61:=Zcl hw1
 obtain ⟨gB,oB,rfl,-⟩:=HLI.out.2 (by
  have h9:=Zci HES.out
  intro e
  rw[e]at h9
  simp at h9)
 have hg0:=Zdt HLI.out (Zbl HES.out) hq0
 have hg1:=Zdt HLI.out (Zbl HES.out) hq1
 have hz1:w0.rangeAt gB (oB+6) q1:=by simpa using hg1
 obtain ⟨SL,hSL⟩:=Zaf (Zfm 29)
 obtain ⟨SG,hSG⟩:=Zaf (str SL)
 have HSG:Hid ((Zbv.map fun x=>Value.string ⟨x.toArray⟩)[2]?=some (.string SG)):=Zai (by rw[hSG.out,hSL.out];rfl)
 have HLB:Hid (SL.length≤1000):=Zai (by rw[hSL.out];decide)
 rw[←hSL.out]at HXE
 obtain ⟨S1,hS1⟩:=Zaf (str ([46] ++ SL))
 obtain ⟨S2,hS2⟩:=Zaf (str ([46] ++ SL ++ [40]))
 have ha1:=Zhw (a:=[46]) (c:=SL) (S:=⟨#[46]⟩) rfl hSG.out hS1.out (by have h1:=HLB.out;simp only[List.length_cons,List.length_nil];omega)
 have ha2:=Zhw (a:=[46] ++ SL) (c:=[40]) (T:=⟨#[40]⟩) hS1.out rfl hS2.out (by have h1:=HLB.out;simp only[List.length_append,List.length_cons,List.length_nil];omega)
 have hd2:Hid (S2.data.toList=[46] ++ SL ++ [40]):=Zai (by rw[hS2.out,Zax])
 have hw8:IntKind.u8.wrap ((29:Int) - 27)=2:=by decide
 obtain ⟨o1,n1,s1,t1,ns1,l1⟩:=y0
 obtain ⟨A1,c1,B1,d1,hq9⟩:∃ A1 c1 B1 d1,q0=Zav o1 n1 s1 t1 (.slice A1 ns1.length c1) (.slice B1 l1.length d1):=by
  have h9:=hv0
  rw[EAt]at h9
  obtain ⟨A1,c1,B1,d1,rows1,e9,_⟩:=h9
  exact ⟨A1,c1,B1,d1,e9⟩
 obtain ⟨y0,hyy⟩:=Zaf (Et.mk o1 n1 s1 t1 ns1 l1)
 have hun:unE y0=decide (o1=12∨o1=13):=by rw[hyy.out];rfl
 rw[←hyy.out]at hX0 hv0 HXE HES
 have hXb:Hid (X=Zha (decide (o1=12∨o1=13)) (Zao y0) ++ (S2.data.toList ++ (Zao y1 ++ [41]))):=Zai (by rw[HXE.out,←hun,hd2.out];simp[Zaz])
 have hk:=Zsn w0 o1 n1 s1 t1 A1 ns1.length c1 B1 l1.length d1 q0 hq9 (Zao y0) hX0 b acc W hE1 hP1 (by
  have h1:=HLEN.out
  rw[hXb.out,List.length_append]at h1
  omega)
 obtain ⟨KX,hKX⟩:=Zaf (Zha (decide (o1=12∨o1=13)) (Zao y0))
 rw[←hKX.out]at hk hXb
 clear hKX hun hq9 HES HXE hv0 hX0 hyy hSL hS1 hS2 hd2
 go_enter Tryz.func21,Tryz.ntmps21
 go_upto_region 1 with (first|(at_builtin;fail))
 rw[←hk3.out,←hWl.out]
 clear hWl
 go_wp2_with (first
  | (at_builtin;fail)
  | refine wpList_load_mid rfl 26 _ rfl gB (oB+0 * 6) rfl q0 _ (Zbf hg0 hE1.bw) Tryz.underlying26 rfl (Zqh h60.1) ?_)
 refine hk.mono ?_
 clear hk
 rintro e w1 ⟨rfl,hP2,hK2⟩
 have hE2:=hE1.step hK2
 have hK3:=hK1.trans hK2
 have kr2:=hK2.blk kr (by omega) (by decide)
 have hsz:(acc ++ KX).length+(S2.data.toList ++ (Zao y1 ++ (⟨#[41]⟩:ByteArray).data.toList)).length≤1099511627776:=by
  have h1:=HLEN.out
  rw[hXb.out]at h1
  simp only[List.length_append,Zez,List.size_toArray,Zdo]at h1 ⊢
  omega
 clear x0 x5 hP1 hE1 kr hK1 hK2
 go_upto_region 46 with (first|(at_builtin;fail))
 refine Zap (fun L _ u=>(L 12=false→PB b (acc ++ KX) u)∧Blk u k3 r 26∧Zll w0 b u∧KA b b w1 u∧(L 12=true→PB b (acc ++ KX ++ (S2.data.toList ++ (Zao y1 ++ (⟨#[41]⟩:ByteArray).data.toList))) u)) (fun _ u u'=>KA b b u u') _ (by kernel_rfl) (by kernel_rfl) (fun v=>by simp only[Zbx,Act.put,List.toList_toArray,Zl2,Zl0,Zl1,Nat.reduceAdd,Nat.zero_add];rfl) ⟨fun _=>hP2.below (Zaj (Below.refl _ _)),kr2.below (Zaj (Below.refl _ _)),hE2.below (Zaj (Below.refl _ _)),KA.of (Zaj (Below.refl _ _)) (by have:=kr2.lt;omega),fun h=>(by cases h)⟩ (fun L L' v u hL h=>by rw[←hL 12 (by decide)];exact h) ?_
 refine Zaa [] _ (fun L hL hcl v u hS hd K' hK=>by
  simp only[Act.put,Zl2,Zl0,Zl1]at hK
  go_simp
  exact hK.out _ ⟨⟨fun h=>hS.1 (by simpa using h),hS.2.1,hS.2.2.1,hS.2.2.2.1,fun h=>hS.2.2.2.2 (by simpa using h)⟩,KA.refl _ _ _⟩) (by kernel_rfl) (j:=1) rfl ?_
 refine Zam [] (fun v u=>∃ g,v=.slice (some ⟨g,0,none⟩) 3 3∧Blk u g (Zbv.map fun x=>Value.string ⟨x.toArray⟩) 9∧b < g) ((by
  rintro j x u u' hj hg ⟨g,h1,h2,h3⟩
  exact ⟨g,h1,hg.blk h2 (by omega) (by decide),h3⟩)) (fun L hL hcl v u hS hd K' hK=>by
  simp only[Act.put,Zl2,Zl0,Zl1]at hK
  go_simp
  refine (Ztn u hS.2.2.1.tbs).mono ?_
  rintro e9 u1 ⟨rfl,rfl⟩
  have hb9:=Zac u (.cells (Zbv.map fun x=>Value.string ⟨x.toArray⟩).toArray 9)
  have k9:=Blk.new u (Zbv.map fun x=>Value.string ⟨x.toArray⟩) 9
  exact hK.out _ _ ⟨⟨fun h=>(hS.1 (by simpa using h)).below hb9,hS.2.1.below hb9,hS.2.2.1.below hb9,hS.2.2.2.1.trans (KA.of hb9 (by have:=hS.2.1.lt;omega)),fun h=>(hS.2.2.2.2 (by simpa using h)).below hb9⟩,KA.of hb9 (by have:=hS.2.1.lt;omega),u.heap.size,rfl,k9,by have:=hS.2.1.lt;omega⟩) (by kernel_rfl) (j:=2) rfl ?_
 refine Zaa [] _ (fun L hL hcl v u hS hd K' hK=>by
  simp only[Act.put,Zl2,Zl0,Zl1]at hK
  go_simp
  exact hK.out _ ⟨⟨fun h=>hS.1 (by simpa using h),hS.2.1,hS.2.2.1,hS.2.2.2.1,fun h=>hS.2.2.2.2 (by simpa using h)⟩,KA.refl _ _ _⟩) (by kernel_rfl) (j:=3) rfl ?_
 refine Zaa [2] _ (fun L hL hcl v u hS hd K' hK=>by
  simp only[Zal,Zak,eqv,Zl3,Zl4,Nat.reduceSub]at hd
  simp only[Act.put,Zl2,Zl0,Zl1]at hK
  try simp only[hd]at hK
  have x9:=(HKR.out u hS.2.1).1
  go_simp
  exact hK.out _ ⟨⟨fun h=>hS.1 (by simpa using h),hS.2.1,hS.2.2.1,hS.2.2.2.1,fun h=>hS.2.2.2.2 (by simpa using h)⟩,KA.refl _ _ _⟩) (by kernel_rfl) (j:=4) rfl ?_
 refine Zaa [3] _ (fun L hL hcl v u hS hd K' hK=>by
  simp only[Zal,Zak,eqv,Zl3,Zl4,Nat.reduceSub]at hd
  simp only[Act.put,Zl2,Zl0,Zl1]at hK
  try simp only[hd]at hK
  go_simp
  exact hK.out _ ⟨⟨fun h=>hS.1 (by simpa using h),hS.2.1,hS.2.2.1,hS.2.2.2.1,fun h=>hS.2.2.2.2 (by simpa using h)⟩,KA.refl _ _ _⟩) (by kernel_rfl) (j:=5) rfl ?_
 refine Zam [1,4] (fun v u=>∃ g,v=.pointer (some ⟨g,2,none⟩)∧Blk u g (Zbv.map fun x=>Value.string ⟨x.toArray⟩) 9∧b < g) ((by
  rintro j x u u' hj hg ⟨g,h1,h2,h3⟩
  exact ⟨g,h1,hg.blk h2 (by omega) (by decide),h3⟩)) (fun L hL hcl v u hS hd K' hK=>by
  simp only[Zal,Zak,eqv,Zl3,Zl4,Nat.reduceSub]at hd
  simp only[Act.put,Zl2,Zl0,Zl1]at hK
  try simp only[hd]at hK
  obtain ⟨⟨g,h1,h2,h3⟩,h7⟩:=hd
  simp only[h1,h7]at hK ⊢
  go_simp
  exact hK.out _ _ ⟨⟨fun h=>hS.1 (by simpa using h),hS.2.1,hS.2.2.1,hS.2.2.2.1,fun h=>hS.2.2.2.2 (by simpa using h)⟩,KA.refl _ _ _,g,rfl,h2,h3⟩) (by kernel_rfl) (j:=6) rfl ?_
 refine Zaa [5] _ (fun L hL hcl v u hS hd K' hK=>by
  simp only[Zal,Zak,eqv,Zl3,Zl4,Nat.reduceSub]at hd
  simp only[Act.put,Zl2,Zl0,Zl1]at hK
  try simp only[hd]at hK
  obtain ⟨g,h1,h2,h3⟩:=hd
  simp only[h1]at hK ⊢
  have c9:u.cell? ⟨g,2,none⟩=some (.string SG):=(h2.cell _).trans HSG.out
  go_simp
  exact hK.out _ ⟨⟨fun h=>hS.1 (by simpa using h),hS.2.1,hS.2.2.1,hS.2.2.2.1,fun h=>hS.2.2.2.2 (by simpa using h)⟩,KA.refl _ _ _⟩) (by kernel_rfl) (j:=7) rfl ?_
 refine Zaa [6] _ (fun L hL hcl v u hS hd K' hK=>by
  simp only[Zal,Zak,eqv,Zl3,Zl4,Nat.reduceSub]at hd
  simp only[Act.put,Zl2,Zl0,Zl1]at hK
  try simp only[hd]at hK
  go_simp
  exact hK.out _ ⟨⟨fun h=>hS.1 (by simpa using h),hS.2.1,hS.2.2.1,hS.2.2.2.1,fun h=>hS.2.2.2.2 (by simpa using h)⟩,KA.refl _ _ _⟩) (by kernel_rfl) (j:=8) rfl ?_
 refine Zaa [7] _ (fun L hL hcl v u hS hd K' hK=>by
  simp only[Zal,Zak,eqv,Zl3,Zl4,Nat.reduceSub]at hd
  simp only[Act.put,Zl2,Zl0,Zl1]at hK
  try simp only[hd]at hK
  go_simp
  exact hK.out _ ⟨⟨fun h=>hS.1 (by simpa using h),hS.2.1,hS.2.2.1,hS.2.2.2.1,fun h=>hS.2.2.2.2 (by simpa using h)⟩,KA.refl _ _ _⟩) (by kernel_rfl) (j:=9) rfl ?_
 refine Zaa [] _ (fun L hL hcl v u hS hd K' hK=>by
  simp only[Act.put,Zl2,Zl0,Zl1]at hK
  go_simp
  exact hK.out _ ⟨⟨fun h=>hS.1 (by simpa using h),hS.2.1,hS.2.2.1,hS.2.2.2.1,fun h=>hS.2.2.2.2 (by simpa using h)⟩,KA.refl _ _ _⟩) (by kernel_rfl) (j:=10) rfl ?_
 refine Zaa [9] _ (fun L hL hcl v u hS hd K' hK=>by
  simp only[Zal,Zak,eqv,Zl3,Zl4,Nat.reduceSub]at hd
  simp only[Act.put,Zl2,Zl0,Zl1]at hK
  try simp only[hd]at hK
  go_simp
  exact hK.out _ ⟨⟨fun h=>hS.1 (by simpa using h),hS.2.1,hS.2.2.1,hS.2.2.2.1,fun h=>hS.2.2.2.2 (by simpa using h)⟩,KA.refl _ _ _⟩) (by kernel_rfl) (j:=11) rfl ?_
 refine Zaa [10] _ (fun L hL hcl v u hS hd K' hK=>by
  simp only[Zal,Zak,eqv,Zl3,Zl4,Nat.reduceSub]at hd
  have hc9:u.rangeAt gB (oB+6) q1:=Zbf hz1 hS.2.2.1.bw
  refine Zbe rfl ?_
  refine wp_load_mid 26 _ rfl gB _ hd q1 _ hc9 Tryz.underlying26 rfl (Zqh h61.1) ?_
  exact hK.out _ ⟨⟨fun h=>hS.1 (by simpa using h),hS.2.1,hS.2.2.1,hS.2.2.2.1,fun h=>hS.2.2.2.2 (by simpa using h)⟩,KA.refl _ _ _⟩) (by kernel_rfl) (j:=12) rfl ?_
 refine Zaa [0,8,11] _ (fun L hL hcl v u hS hd K' hK=>by
  simp only[Zal,Zak,eqv,Zl3,Zl4,Nat.reduceSub]at hd
  simp only[Act.put,Zl2,Zl0,Zl1]at hK
  try simp only[hd]at hK
  go_simp
  refine (Zie w0 q1 (Zao y1) hw1 hX1 b _ S2 ⟨#[41]⟩ u hS.2.2.1 (hS.1 hL) hsz).mono ?_
  rintro e9 u1 ⟨rfl,hP9,hK9⟩
  exact hK.out _ ⟨⟨fun h=>by simp at h,hK9.blk hS.2.1 (by omega) (by decide),hS.2.2.1.step hK9,hS.2.2.2.1.trans hK9,fun _=>hP9⟩,hK9⟩) (by kernel_rfl) (j:=13) rfl ?_
 refine Zau [] (by decide) ?_
 rintro v u hS hR
 obtain ⟨-,z1,z2,z3,z4⟩:=hS
 have z5:=z4 rfl
 go_wp2_with (first|(at_builtin;fail))
 go_end0
 refine ⟨rfl,?_,hK3.trans z3⟩
 rw[hXb.out]
 rw[List.append_assoc]at z5
 exact z5
theorem isW_ne {p q:List UInt8} (h:p ≠ q):isW (tW p) q=false:=by rw[isW_tW];exact beq_eq_false_iff_ne.2 h
theorem prim_word {p:List UInt8} (h:Zcu p=true) {ts r:List Tok} {u:List UInt8 × List UInt8} (hu:Zqt (tW p :: ts)=.ok (u,r)):Rd0 (.lv 7) (tW p :: ts) (.mk 4 0 (str u.2) (str u.1) [] []) r:=by
 refine Zdw ⟨0,?_⟩
 have hv:Zea.contains p=false:=by
  cases hq:Zea.contains p with
  | false=>rfl
  | true=>
    exfalso
    have:p ∈ Zea:=by simpa using hq
    simp only[Zea,List.mem_cons,List.not_mem_nil,or_false]at this
    rcases this with e|e|e|e
    all_goals exact Zmf h (by decide) e
 rw[Zfr,if_neg (by show ¬ (1:Nat)=2;decide),if_neg (by show ¬ (1:Nat)=3;decide),if_neg (by rw[isW_ne (Zmf h (by decide))];decide),if_neg (by rw[isW_ne (Zmf h (by decide))];decide),if_neg (by rw[show (tW p).t=p from rfl,hv,Bool.and_false];decide),
  if_neg (by rw[isS_tW];decide),if_neg (by rw[isS_tW];decide),if_neg (by rw[isS_tW];decide),Zbb hu]
 rfl
theorem prim_var {p:List UInt8} (h:Zea.contains p=true) (r:List Tok):Rd0 (.lv 7) (tW p :: r) (.mk 5 0 (str p) noS [] []) r:=by
 refine Zdw ⟨0,?_⟩
 rw[Zfr,if_neg (by show ¬ (1:Nat)=2;decide),if_neg (by show ¬ (1:Nat)=3;decide),if_neg (by rw[isW_ne (Zrw h (by decide))];decide),if_neg (by rw[isW_ne (Zrw h (by decide))];decide),if_pos (by rw[show (tW p).t=p from rfl,h];rfl)]
 rfl
theorem mem_dot {a y:Et} {s:List UInt8} {r r2:List Tok} (hs:Zcu s=true) (hr:NoPar r) (h:Rd0 (.memT (.mk 8 0 (str s) noS [] [a])) r y r2):Rd0 (.memT a) (tS [46] :: tW s :: r) y r2:=by
 obtain ⟨f,h⟩:=h
 refine Zdw ⟨f,?_⟩
 rw[Zgd,if_neg (by decide),if_pos (by decide),Zbb (Zjl hs r)]
 cases r with
 | nil=>exact h
 | cons t r=>
   simp only[dotT]
   rw[if_neg (by rw[hr t r rfl,Bool.and_false];decide)]
   exact h
theorem mem_brk {a y:Et} {s:List UInt8} {r r2:List Tok} (h:Rd0 (.memT (.mk 8 0 (str s) noS [] [a])) r y r2):Rd0 (.memT a) (tS [91] :: tQ s :: tS [93] :: r) y r2:=by
 obtain ⟨f,h⟩:=h
 refine Zdw ⟨f,?_⟩
 rw[Zgd,if_pos (by decide),Zbb (Zsa s _),Zbb (Zji _ _)]
 exact h
theorem mem_call {a b y:Et} {s:List UInt8} {X r r2:List Tok} (hs:Zbv.contains s=true) (hn:Zcu s=true) (hb:Rd0 .expr (X ++ tS [41] :: r) b (tS [41] :: r)) (h:Rd0 (.memT (Zbk (27+Zbv.idxOf s) [a,b])) r y r2) :
 Rd0 (.memT a) (tS [46] :: tW s :: tS [40] :: (X ++ tS [41] :: r)) y r2:=by
 obtain ⟨f,h⟩:=h
 obtain ⟨g,hg⟩:=hb
 refine Zdw ⟨max f g,?_⟩
 rw[Zgd,if_neg (by decide),if_pos (by decide),Zbb (Zjl hn _)]
 simp only[dotT]
 rw[if_pos (by rw[hs];rfl),Zaw (Rd0.le hg (by omega)),Zbb (Zji _ _)]
 exact Rd0.le h (by omega)
theorem call_facts:∀ o,27≤o→o < 30→Zbv.contains (Zfm o)=true∧Zcu (Zfm o)=true∧27+Zbv.idxOf (Zfm o)=o:=by
 intro o h1 h2
 obtain rfl|rfl|rfl:o=27∨o=28∨o=29:=by omega
 all_goals decide
theorem bin_read {o:Nat} {a b:Et} (ho:14 < o) (ho2:o < 27) (hA:LawA a) (hB:LawA b) (r:List Tok):Rd0 (.lv 0) (Zbd a ++ opT o :: (Zbd b ++ tS [41] :: r)) (Zbk o [a,b]) (tS [41] :: r):=by
 have hoff:=Zxu r
 have row:∀ (k:Nat) (s:List UInt8),(k=0∨k=1∨k=3∨k=4)→(Zej k).contains s=true→blk (k+1) (tS s)=false→Rd0 (.lv 0) (Zbd a ++ tS s :: (Zbd b ++ tS [41] :: r)) (Zbk (Znt s) [a,b]) (tS [41] :: r):=by
  intro k s hk hs hb
  refine Znp (j:=k) (by omega) (by omega) ?_ hoff
  exact row_op hk hs (Zhu hA (by omega) (.cons hb)) (Zhu hB (by omega) (hoff.up (by omega))) (hoff.up (by omega))
 have rel:∀ (s:List UInt8),Zgw.contains s=true→blk 3 (tS s)=false→Rd0 (.lv 0) (Zbd a ++ tS s :: (Zbd b ++ tS [41] :: r)) (Zbk (Znt s) [a,b]) (tS [41] :: r):=by
  intro s hs hb
  refine Znp (j:=2) (by omega) (by omega) ?_ hoff
  exact rel_op hs (Zhu hA (by omega) (.cons hb)) (Zhu hB (by omega) (hoff.up (by omega)))
 obtain rfl|rfl|rfl|rfl|rfl|rfl|rfl|rfl|rfl|rfl|rfl|rfl:o=15∨o=16∨o=17∨o=18∨o=19∨o=20∨o=21∨o=22∨o=23∨o=24∨o=25∨o=26:=by omega
 · exact row 1 [38,38] (by omega) (by decide) (by decide)
 · exact row 0 [124,124] (by omega) (by decide) (by decide)
 · exact rel [61,61] (by decide) (by decide)
 · exact rel [33,61] (by decide) (by decide)
 · exact rel [60] (by decide) (by decide)
 · exact rel [60,61] (by decide) (by decide)
 · exact rel [62] (by decide) (by decide)
 · exact rel [62,61] (by decide) (by decide)
 · refine Znp (j:=2) (by omega) (by omega) ?_ hoff
   exact in_op (Zhu hA (by omega) (.cons (by decide))) (Zhu hB (by omega) (hoff.up (by omega)))
 · exact row 3 [43] (by omega) (by decide) (by decide)
 · exact row 3 [45] (by omega) (by decide) (by decide)
 · exact row 4 [42] (by omega) (by decide) (by decide)
theorem read_law:∀ (n:Nat) (e:Et),e.ht≤n→Zbt e=true→LawA e∧(unE e=false→LawB e):=by
 intro n
 induction n with
 | zero=>intro e h;cases e;rw[Et.ht]at h;omega
 | succ n ih=>
   intro e hh hr
   have hhd:=hd_ok (n+1) e hh hr
   have viaB:unE e=false→LawB e→LawA e∧(unE e=false→LawB e):=fun hu h=>⟨a_of_b h (by rw[hu]at hhd;exact hhd),fun _=>h⟩
   cases e with
   | mk o k s t ns l=>
     obtain ⟨hc,hb,hp,hl⟩:=Zbh hr
     obtain ⟨c1,c2,c3,c4,c5,c6,c7⟩:=Zoi hc
     obtain ⟨b1,b2,b3,b4⟩:=Zwm hb
     rw[Et.ht]at hh
     have kid:∀ a ∈ l,(LawA a∧(unE a=false→LawB a))∧Zol (unE a) (Zbd a):=fun a hm=>
      ⟨ih a (by have:=Et.ht_mem hm;omega) (Zeo hl hm),hd_ok n a (by have:=Et.ht_mem hm;omega) (Zeo hl hm)⟩
     clear ih hh hl hc hb
     unfold Zcx at hp
     have hB:(o ≠ 12∧o ≠ 13)→LawB (.mk o k s t ns l)→LawA (.mk o k s t ns l)∧(unE (.mk o k s t ns l)=false→LawB (.mk o k s t ns l)):=fun h=>viaB (decide_eq_false (by show ¬ (o=12∨o=13);omega))
     by_cases q:o=1
     · subst q
       obtain rfl:=nil0 (c4 (by omega))
       obtain rfl:s=noS:=by simpa using b2
       obtain rfl:t=noS:=by simpa using b3
       obtain rfl:ns=[]:=by simpa using b4
       rw[if_pos rfl]at hp
       refine hB (by omega) fun r hr=>Zgi ?_
       rcases of_decide_eq_true hp with rfl|rfl
       · exact Zdw ⟨0,rfl⟩
       · exact Zdw ⟨0,rfl⟩
     by_cases q:o=2
     · subst q
       obtain rfl:=nil0 (c4 (by omega))
       obtain rfl:s=noS:=by simpa using b2
       obtain rfl:t=noS:=by simpa using b3
       obtain rfl:ns=[]:=by simpa using b4
       exact hB (by omega) fun r hr=>Zgi (Zdw ⟨0,rfl⟩)
     obtain rfl:k=0:=by omega
     by_cases q:o=3
     · subst q
       obtain rfl:=nil0 (c4 (by omega))
       obtain rfl:t=noS:=by simpa using b3
       obtain rfl:ns=[]:=by simpa using b4
       refine hB (by omega) fun r hr=>Zgi (Zdw ⟨0,?_⟩)
       rw[Zdu]
       show Zbj (pr 0) (.lv 7) (tQ s.data.toList :: r)=_
       rw[Zfr,if_neg (by show ¬ (3:Nat)=2;decide),if_pos (by show (3:Nat)=3;decide)]
       show okP (.mk 3 0 (str s.data.toList) noS [] []) r=_
       rw[Zdh]
       rfl
     by_cases q:o=4
     · subst q
       obtain rfl:=nil0 (c4 (by omega))
       obtain rfl:ns=[]:=by simpa using b4
       rw[if_neg (by decide),if_neg (by decide),if_neg (by decide),if_pos rfl,Zqi,Bool.and_eq_true,Bool.and_eq_true]at hp
       have hty:=hp.1.1
       refine hB (by omega) fun r hr=>Zgi ?_
       rw[Zdu]
       show Rd0 (.lv 7) ((tyT t.data.toList ++ [tS [58,58],tQ s.data.toList]) ++ r) _ r
       have hu:=uidP_read hty s.data.toList r
       rw[List.append_assoc]
       show Rd0 (.lv 7) (tyT t.data.toList ++ tS [58,58] :: tQ s.data.toList :: r) _ r
       obtain ⟨p,ps,e,h1,_,_⟩:=Zlr hty
       rw[e,List.cons_append]at hu ⊢
       have:=prim_word h1 hu
       rw[Zdh,Zdh]at this
       exact this
     by_cases q:o=5
     · subst q
       obtain rfl:=nil0 (c4 (by omega))
       obtain rfl:t=noS:=by simpa using b3
       obtain rfl:ns=[]:=by simpa using b4
       rw[if_neg (by decide),if_neg (by decide),if_neg (by decide),if_neg (by decide),if_pos rfl]at hp
       refine hB (by omega) fun r hr=>Zgi ?_
       have:=prim_var hp r
       rw[Zdh]at this
       exact this
     by_cases q:o=6
     · subst q
       obtain rfl:s=noS:=by simpa using b2
       obtain rfl:t=noS:=by simpa using b3
       obtain rfl:ns=[]:=by simpa using b4
       refine hB (by omega) fun r hr=>Zgi ?_
       rw[Zdu]
       show Rd0 (.lv 7) (tS [91] :: (Zph (l.map Zbd) ++ [tS [93]] ++ r)) _ r
       rw[List.append_assoc]
       show Rd0 (.lv 7) (tS [91] :: (Zph (l.map Zbd) ++ tS [93] :: r)) _ r
       cases l with
       | nil=>exact Zdw ⟨0,rfl⟩
       | cons x l=>
         have h1:=items_set (r:=r) (x :: l) (by simp) (fun z hz=>⟨(kid z hz).1.1,(kid z hz).2⟩) []
         have h2:∃ u,Zol u (Zph ((x :: l).map Zbd)):=by
          have:=(kid x (by simp)).2
          cases l with
          | nil=>exact ⟨_,this⟩
          | cons y l=>exact ⟨_,this.app _ fun h=>h⟩
         obtain ⟨f,hf⟩:=brk_read h2 h1
         refine Zdw ⟨f,?_⟩
         rw[Zfr,if_neg (by decide),if_neg (by decide),if_neg (by decide),if_neg (by decide),if_neg (by decide),if_neg (by decide),if_pos (by decide)]
         exact hf
     by_cases q:o=7
     · subst q
       obtain rfl:s=noS:=by simpa using b2
       obtain rfl:t=noS:=by simpa using b3
       rw[if_neg (by decide),if_neg (by decide),if_neg (by decide),if_neg (by decide),if_neg (by decide),if_neg (by decide),if_neg (by decide),if_pos rfl,Bool.and_eq_true]at hp
       have hnl:=of_decide_eq_true hp.1
       refine hB (by omega) fun r hr=>Zgi ?_
       rw[Zdu]
       show Rd0 (.lv 7) (tS [123] :: (Zph (Zuv ns (l.map Zbd)) ++ [tS [125]] ++ r)) _ r
       rw[List.append_assoc]
       show Rd0 (.lv 7) (tS [123] :: (Zph (Zuv ns (l.map Zbd)) ++ tS [125] :: r)) _ r
       cases l with
       | nil=>
         obtain rfl:=nil0 hnl
         exact Zdw ⟨0,rfl⟩
       | cons x l=>
         have h1:=items_rec (r:=r) (x :: l) (by simp) (fun z hz=>⟨(kid z hz).1.1,(kid z hz).2⟩) ns [] [] hnl
         have h2:∃ u,Zol u (Zph (Zuv ns ((x :: l).map Zbd))):=by
          cases ns with
          | nil=>simp at hnl
          | cons nm ns=>
            cases h:Zuv ns (l.map Zbd) with
            | nil=>exact ⟨false,by simp only[Zuv]at h;simp only[Zuv,List.map_cons,List.zipWith_cons_cons,h,Zph];exact labT_hd _ _ _⟩
            | cons z zs=>exact ⟨false,by simp only[Zuv]at h;simp only[Zuv,List.map_cons,List.zipWith_cons_cons,h,Zph];exact (labT_hd _ false _).app _ fun h=>h⟩
         obtain ⟨f,hf⟩:=brk_read h2 h1
         refine Zdw ⟨f,?_⟩
         rw[Zfr,if_neg (by decide),if_neg (by decide),if_neg (by decide),if_neg (by decide),if_neg (by decide),if_neg (by decide),if_neg (by decide),if_pos (by decide)]
         exact hf
     obtain rfl:ns=[]:=by rcases b4 with h|h <;> first|omega|exact h
     by_cases q:o=8
     · subst q
       obtain ⟨a,rfl⟩:=len1 (c5 (by omega) (by omega))
       obtain rfl:t=noS:=by simpa using b3
       obtain ⟨⟨kA,kB⟩,kh⟩:=kid a (by simp)
       refine hB (by omega) fun r hr=>?_
       intro y r2 hy
       rw[Zdu]
       show Rd0 (.lv 6) (Znm (unE a) (Zbd a) ++ (if Zcu s.data.toList then [tS [46],tW s.data.toList] else [tS [91],tQ s.data.toList,tS [93]]) ++ r) y r2
       have hstr:(Et.mk 8 0 (str s.data.toList) noS [] [a])=.mk 8 0 s noS [] [a]:=by rw[Zdh]
       rw[←hstr]at hy
       rw[List.append_assoc]
       by_cases hnm:Zcu s.data.toList=true
       · rw[if_pos hnm]
         exact Zyn kA kB kh (r:=tS [46] :: tW s.data.toList :: r) (fun t r' e=>by cases e;decide) _ _ (mem_dot hnm hr hy)
       · rw[if_neg hnm]
         exact Zyn kA kB kh (r:=tS [91] :: tQ s.data.toList :: tS [93] :: r) (fun t r' e=>by cases e;decide) _ _ (mem_brk hy)
     by_cases q:o=9
     · subst q
       obtain ⟨a,rfl⟩:=len1 (c5 (by omega) (by omega))
       obtain rfl:t=noS:=by simpa using b3
       obtain ⟨⟨kA,kB⟩,kh⟩:=kid a (by simp)
       refine hB (by omega) fun r hr=>?_
       rw[Zdu]
       show Go6 (tS [40] :: (Zbd a ++ [tW Zjt,Znw s.data.toList,tS [41]] ++ r)) _ r
       rw[show Zbd a ++ [tW Zjt,Znw s.data.toList,tS [41]] ++ r=(Zbd a ++ [tW Zjt,Znw s.data.toList]) ++ tS [41] :: r by simp]
       refine Zuz ?_ ⟨_,kh.app _ fun h=>h⟩
       rw[List.append_assoc]
       refine Znp (j:=2) (by omega) (by omega) ?_ (Zxu r)
       have:=has_op (X:=Zbd a) (r:=tS [41] :: r) (s:=s.data.toList) (a:=a) (Zhu kA (by omega) (.cons (by decide)))
       rw[Zdh]at this
       exact this
     by_cases q:o=10
     · subst q
       obtain ⟨a,rfl⟩:=len1 (c5 (by omega) (by omega))
       obtain rfl:s=noS:=by simpa using b2
       obtain ⟨⟨kA,kB⟩,kh⟩:=kid a (by simp)
       rw[if_neg (by decide),if_neg (by decide),if_neg (by decide),if_neg (by decide),if_neg (by decide),if_pos rfl]at hp
       refine hB (by omega) fun r hr=>?_
       rw[Zdu]
       show Go6 (tS [40] :: (Zbd a ++ tW wIs :: (tyT t.data.toList ++ [tS [41]]) ++ r)) _ r
       rw[show Zbd a ++ tW wIs :: (tyT t.data.toList ++ [tS [41]]) ++ r=(Zbd a ++ tW wIs :: tyT t.data.toList) ++ tS [41] :: r by simp]
       refine Zuz ?_ ⟨_,kh.app _ fun h=>h⟩
       rw[List.append_assoc]
       refine Znp (j:=2) (by omega) (by omega) ?_ (Zxu r)
       have:=is_op (X:=Zbd a) (r:=tS [41] :: r) (s:=t.data.toList) (a:=a) hp (fun q r' e=>by cases e;decide) (Zhu kA (by omega) (.cons (by decide)))
       rw[Zdh]at this
       exact this
     by_cases q:o=11
     · subst q
       obtain ⟨a,rfl⟩:=len1 (c5 (by omega) (by omega))
       obtain rfl:t=noS:=by simpa using b3
       obtain ⟨⟨kA,kB⟩,kh⟩:=kid a (by simp)
       refine hB (by omega) fun r hr=>?_
       rw[Zdu]
       show Go6 (tS [40] :: (Zbd a ++ [tW Zel,tQ s.data.toList,tS [41]] ++ r)) _ r
       rw[show Zbd a ++ [tW Zel,tQ s.data.toList,tS [41]] ++ r=(Zbd a ++ [tW Zel,tQ s.data.toList]) ++ tS [41] :: r by simp]
       refine Zuz ?_ ⟨_,kh.app _ fun h=>h⟩
       rw[List.append_assoc]
       refine Znp (j:=2) (by omega) (by omega) ?_ (Zxu r)
       have:=like_op (X:=Zbd a) (r:=tS [41] :: r) (s:=s.data.toList) (a:=a) (Zhu kA (by omega) (.cons (by decide)))
       rw[Zdh]at this
       exact this
     obtain rfl:s=noS:=by rcases b2 with h|h|h|h|h|h|h <;> first|omega|exact h
     obtain rfl:t=noS:=by rcases b3 with h|h|h <;> first|omega|exact h
     have un:∀ (sg:List UInt8) (o:Nat) (a:Et),(∀ f r,Zbj (pr f) (.lv 5) (tS sg :: r)=Zcn (pr f (.lv 5) r) fun e r2=>okP (Zbk o [e]) r2)→LawA a→Zbd (Zbk o [a])=tS sg :: Zbd a→LawA (Zbk o [a]):=by
      intro sg o a hst hA ht r hr
      obtain ⟨f,hf⟩:=hA r hr
      refine Zdw ⟨f,?_⟩
      rw[ht,List.cons_append,hst,Zaw hf]
      rfl
     by_cases q:o=12
     · subst q
       obtain ⟨a,rfl⟩:=len1 (c5 (by omega) (by omega))
       obtain ⟨⟨kA,kB⟩,kh⟩:=kid a (by simp)
       exact ⟨un [33] 12 a (fun f r=>rfl) kA (by unfold Zbk;rw[Zdu];rfl),fun h=>by cases h⟩
     by_cases q:o=13
     · subst q
       obtain ⟨a,rfl⟩:=len1 (c5 (by omega) (by omega))
       obtain ⟨⟨kA,kB⟩,kh⟩:=kid a (by simp)
       exact ⟨un [45] 13 a (fun f r=>rfl) kA (by unfold Zbk;rw[Zdu];rfl),fun h=>by cases h⟩
     by_cases q:o=14
     · subst q
       obtain ⟨a,b,d,rfl⟩:=len3 (c6 rfl)
       obtain ⟨⟨aA,_⟩,ah⟩:=kid a (by simp)
       obtain ⟨⟨bA,_⟩,bh⟩:=kid b (by simp)
       obtain ⟨⟨dA,_⟩,dh⟩:=kid d (by simp)
       refine hB (by omega) fun r hr=>?_
       rw[Zdu]
       show Go6 (tS [40] :: (tW wIf :: (Zbd a ++ tW Zeu :: (Zbd b ++ tW Zem :: (Zbd d ++ [tS [41]]))) ++ r)) _ r
       rw[show tW wIf :: (Zbd a ++ tW Zeu :: (Zbd b ++ tW Zem :: (Zbd d ++ [tS [41]]))) ++ r=(tW wIf :: (Zbd a ++ tW Zeu :: (Zbd b ++ tW Zem :: Zbd d))) ++ tS [41] :: r by simp]
       refine Zgi (par7 ?_)
       rw[show (tW wIf :: (Zbd a ++ tW Zeu :: (Zbd b ++ tW Zem :: Zbd d))) ++ tS [41] :: r=tW wIf :: (Zbd a ++ tW Zeu :: (Zbd b ++ tW Zem :: (Zbd d ++ tS [41] :: r))) by simp]
       obtain ⟨f1,h1⟩:=Zmk aA ah (r:=tW Zeu :: (Zbd b ++ tW Zem :: (Zbd d ++ tS [41] :: r))) (.cons (by decide))
       obtain ⟨f2,h2⟩:=Zmk bA bh (r:=tW Zem :: (Zbd d ++ tS [41] :: r)) (.cons (by decide))
       obtain ⟨f3,h3⟩:=Zmk dA dh (Zxu r)
       refine Zdw ⟨f1+f2+f3,?_⟩
       rw[Zhq,if_pos (by decide),Zaw (Rd0.le h1 (by omega)),Zbb (Zyt _ _),Zaw (Rd0.le h2 (by omega)),Zbb (Zyt _ _),Zaw (Rd0.le h3 (by omega))]
       rfl
     obtain ⟨a,b,rfl⟩:=len2 (c7 (by omega))
     obtain ⟨⟨aA,aB⟩,ah⟩:=kid a (by simp)
     obtain ⟨⟨bA,bB⟩,bh⟩:=kid b (by simp)
     have hnode:∀ (K:List (List Tok)) (u:Bool),Zxy o 0 noS.data.toList noS.data.toList [] K u=if 27≤o then Znm u (K.getD 0 []) ++ tS [46] :: tW (Zfm o) :: tS [40] :: (K.getD 1 [] ++ [tS [41]]) else tS [40] :: (K.getD 0 [] ++ opT o :: (K.getD 1 [] ++ [tS [41]])):=by
      intro K u
      unfold Zxy
      simp only[]
      rw[if_neg (by omega),if_neg (by omega),if_neg (by omega),if_neg (by omega),if_neg (by omega),if_neg (by omega),if_neg (by omega),if_neg (by omega),if_neg (by omega),if_neg (by omega),if_neg (by omega),if_neg (by omega),if_neg (by omega),if_neg (by omega)]
     by_cases q:27≤o
     · obtain ⟨f1,f2,f3⟩:=call_facts o q c2
       refine hB (by omega) fun r hr=>?_
       intro y r2 hy
       rw[Zdu,hnode,if_pos q]
       show Rd0 (.lv 6) (Znm (unE a) (Zbd a) ++ tS [46] :: tW (Zfm o) :: tS [40] :: (Zbd b ++ [tS [41]]) ++ r) y r2
       rw[show Znm (unE a) (Zbd a) ++ tS [46] :: tW (Zfm o) :: tS [40] :: (Zbd b ++ [tS [41]]) ++ r=Znm (unE a) (Zbd a) ++ tS [46] :: tW (Zfm o) :: tS [40] :: (Zbd b ++ tS [41] :: r) by simp]
       refine Zyn aA aB ah (fun t r' e=>by cases e;decide) _ _ (mem_call f1 f2 (Zmk bA bh (Zxu r)) ?_)
       rw[f3]
       exact hy
     · refine hB (by omega) fun r hr=>?_
       rw[Zdu,hnode,if_neg q]
       show Go6 (tS [40] :: (Zbd a ++ opT o :: (Zbd b ++ [tS [41]]) ++ r)) _ r
       rw[show Zbd a ++ opT o :: (Zbd b ++ [tS [41]]) ++ r=(Zbd a ++ opT o :: Zbd b) ++ tS [41] :: r by simp]
       refine Zuz ?_ ⟨_,ah.app _ fun h=>h⟩
       rw[List.append_assoc]
       exact bin_read (by omega) (by omega) aA bA r
theorem prL_toks {e:Et} (h:Zbt e=true):prL (Zbd e)=.ok (e,[]):=by
 have h1:=(read_law e.ht e (Nat.le_refl _) h).1
 obtain ⟨f,hf⟩:=Zmk h1 (hd_ok e.ht e (Nat.le_refl _) h) (r:=[]) (fun t r' e=>by cases e)
 rw[List.append_nil]at hf
 exact Zzu hf
end Go.Proofs.YtnhooehmcggmdaaGreatDoor
