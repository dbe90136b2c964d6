/- Parts of a proof about the given program: XBare1. -/
import Derived.Test.YtnhooehmcggmdaaGreatDoorZ22
import Derived.Test.YtnhooehmcggmdaaGreatDoorZ39
import Derived.Test.YtnhooehmcggmdaaGreatDoorZ18
namespace Go.Proofs.YtnhooehmcggmdaaGreatDoor
set_option maxHeartbeats 16000000
set_option linter.unusedVariables false
set_option linter.unusedSimpArgs false
set_option linter.unusedSectionVars false
open Go.RowKit
theorem eret2 {fn:Func} {p u:Tmp} (hr:fn.results=#[.cell p 26,.tmp u]) (tmps:Array Value) {w:World} {g:Nat} {r:List Value} {x:Value} (hp:tmps.getD p undef=.pointer (some ⟨g,0,none⟩)) (k:Blk w g r 26) (h:r.length=6) (hx:tmps.getD u undef=x) :
 (results fn tmps).run Tryz.prog w=.ok (.tuple #[.agg r.toArray,x]) w:=by
 rw[results_cell_tmp hr,hp,hx]
 have h1:(asAddr (.pointer (some ⟨g,0,none⟩))).run Tryz.prog w=.ok ⟨g,0,none⟩ w:=rfl
 rw[h1]
 simp only[Result.andThen,eload k h]
theorem uidOk_eq (t s:ByteArray):Zqi t s=decide (uidE t s=0):=by
 unfold Zqi uidE
 cases Zhe t.data.toList with
 | false=>simp
 | true=>
   cases Lib.validD s.data.toList with
   | false=>simp
   | true=>
     by_cases h:64 < s.size
     · have h2:¬ s.size≤64:=by omega
       simp[h,h2]
     · have h2:s.size≤64:=by omega
       simp[h,h2]
theorem okC_big {o:Nat} (h:15≤o) (n:Int) (s t:ByteArray) (ns:List ByteArray) (c:Nat):okC o n s t ns c=true:=by
 have a:∀ k,k < 15→o ≠ k:=fun k hk e=>by omega
 unfold okC Zcx
 simp[a 0,a 1,a 2,a 3,a 4,a 5,a 6,a 7,a 8,a 9,a 10,a 11]
theorem kidsC_big {o:Nat} (h:15≤o) (c:Nat):kidsC o c=2:=by
 have hk:Zfn o=some 2:=by
  unfold Zfn
  rw[if_neg (by omega),if_neg (by omega),if_neg (by omega),if_neg (by omega)]
 unfold kidsC
 rw[hk]
theorem mk_big {o:Nat} (h:15≤o) (n:Int) (s t:ByteArray) (ns:List ByteArray):mkN o n=0∧mkS o s=⟨#[]⟩∧mkT o t=⟨#[]⟩∧(mkL o ns).length=0:=by
 unfold mkN mkS mkT mkL
 rw[if_neg (by omega),if_neg (by omega),if_neg (by omega),if_neg (by omega)]
 exact ⟨rfl,rfl,rfl,rfl⟩
theorem txs_of {w:World} {g:Nat} {l:List (List UInt8)} (h:Blk w g (Zfo (l.map str)) 9):TxS w (some ⟨g,0,none⟩) l:=
 ⟨by rw[Zfk];simp,fun _=>⟨g,0,rfl,fun j v hv=>by rw[Nat.zero_add];exact (h.cell j).trans hv⟩⟩
set_option maxRecDepth 100000 in
theorem bare_w (o:Nat) (n:Int) (s t:ByteArray) (ns:List ByteArray) (A B:Option Addr) (cA c cB:Nat) (w:World) (ho:o < 256) (hs:s.size≤Zbq) (ht:t.size≤Zbq) (hT:Zib w A ns) (hsz:∀ x ∈ ns,x.size≤Zbq) (hnl:ns.length * 16≤Zbq) (hcl:c * 96≤Zbq)
 (htab:Tb w) :
 Calls Tryz.prog 51 #[.agg (Zav o n s t (.slice A ns.length cA) (.slice B c cB)).toArray] w fun e w'=>(∃ A' c',e=.returned (.tuple #[.agg (Zav o (mkN o n) (mkS o s) (mkT o t) (.slice A' (mkL o ns).length c') (.slice none 0 0)).toArray,.bool (Zrs o n s t ns c)]))∧Below w.heap.size w w':=by
 unfold Zbq at hs ht hnl hcl
 have hval:∀ W,Below w.heap.size w W→Calls Tryz.prog 85 #[.string s] W fun e w'=>e=.returned (.bool (Lib.validD s.data.toList))∧Below W.heap.size W w':=fun W hW=>Zop s W (by omega) (htab.below hW)
 have huid:∀ W,Below w.heap.size w W→Calls Tryz.prog 86 #[.agg #[.string t,.string s]] W fun e w'=>e=.returned (.int .i64 (uidE t s))∧Below W.heap.size W w':=fun W hW=>uid_w t s W (by omega) (by omega) (htab.below hW)
 have hlab:∀ W,Below w.heap.size w W→Calls Tryz.prog 88 #[.string s] W fun e w'=>e=.returned (.bool (Zoe s))∧Below W.heap.size W w':=fun W hW=>label_w s W (by omega) (htab.below hW)
 have htyp:∀ W,Below w.heap.size w W→Calls Tryz.prog 89 #[.string t] W fun e w'=>e=.returned (.bool (Zhe t.data.toList))∧Below W.heap.size W w':=fun W hW=>type_w t W (by omega) (htab.below hW)
 have hlbs:∀ W,Below w.heap.size w W→Calls Tryz.prog 87 #[.slice A ns.length cA] W fun e w'=>e=.returned (.bool (Zna ns))∧Below W.heap.size W w':=fun W hW=>labels_w ns A cA W (by omega) (fun x hx=>by have:=hsz x hx;unfold Zbq at this;omega) (htab.below hW) (hT.below hW)
 have hcon:∀ (W:World) (g:Nat),TxS W (some ⟨g,0,none⟩) Zea→Calls Tryz.prog 80 #[.slice (some ⟨g,0,none⟩) 4 4,.string s] W fun e w'=>e=.returned (.bool (Zea.contains s.data.toList))∧w'=W:=fun W g h=>by
  have h9:=Zrr W (some ⟨g,0,none⟩) 4 Zea s.data.toList (by decide) h
  rw[Zdh]at h9
  exact h9
 have hb0:=Zac w (.cells (Zav o n s t (.slice A ns.length cA) (.slice B c cB)).toArray 26)
 have kb:=box2 w (Zav o n s t (.slice A ns.length cA) (.slice B c cB)) Zag 26
 obtain ⟨W2,hW2⟩:=Zaf ((w.alloc (.cells (Zav o n s t (.slice A ns.length cA) (.slice B c cB)).toArray 26)).alloc (.cells Zag.toArray 26))
 have hs2:W2.heap.size=w.heap.size+2:=by rw[hW2.out,Zkz,Zkz]
 have hW2l:Hid (W2=(w.alloc (.cells #[.int .u8 (o:Int),.int .i64 n,.string s,.string t,.slice A ns.length cA,.slice B c cB] 26)).alloc (.cells #[.int .u8 0,.int .i64 0,.string ⟨#[]⟩,.string ⟨#[]⟩,.slice none 0 0,.slice none 0 0] 26)):=hW2
 rw[←hW2.out]at kb
 obtain ⟨k1,k2,b2⟩:=kb
 have k3:=Blk.new W2 Zag 26
 rw[hs2]at k3
 replace k1:=k1.alloc (.cells Zag.toArray 26)
 replace k2:=k2.alloc (.cells Zag.toArray 26)
 have b3:=bt b2 (Zac W2 (.cells Zag.toArray 26))
 have x0:W2.cell? ⟨w.heap.size,0,none⟩=some (.int .u8 (o:Int)):=by rw[hW2.out];exact (((Blk.new w (Zav o n s t (.slice A ns.length cA) (.slice B c cB)) 26).alloc _).cell 0)
 obtain ⟨W3,hW3⟩:=Zaf (W2.alloc (.cells Zag.toArray 26))
 have hW3l:Hid (W3=W2.alloc (.cells #[.int .u8 0,.int .i64 0,.string ⟨#[]⟩,.string ⟨#[]⟩,.slice none 0 0,.slice none 0 0] 26)):=hW3
 rw[←hW3.out]at k1 k2 k3 b3
 have k4:=k3.vrow (Zav o 0 ⟨#[]⟩ ⟨#[]⟩ (.slice none 0 0) (.slice none 0 0))
 have b4:=Zah b3 (show w.heap.size≤w.heap.size+2 by omega) (Zav o 0 ⟨#[]⟩ ⟨#[]⟩ (.slice none 0 0) (.slice none 0 0)).toArray
 have k14:Blk (W3.setRow (w.heap.size+2) (Zav o 0 ⟨#[]⟩ ⟨#[]⟩ (.slice none 0 0) (.slice none 0 0)).toArray) w.heap.size (Zav o n s t (.slice A ns.length cA) (.slice B c cB)) 26:=(Zch _ _ _ _ (by omega)).trans k1
 have k24:Blk (W3.setRow (w.heap.size+2) (Zav o 0 ⟨#[]⟩ ⟨#[]⟩ (.slice none 0 0) (.slice none 0 0)).toArray) (w.heap.size+1) Zag 26:=(Zch _ _ _ _ (by omega)).trans k2
 obtain ⟨W4,hW4⟩:=Zaf (W3.setRow (w.heap.size+2) (Zav o 0 ⟨#[]⟩ ⟨#[]⟩ (.slice none 0 0) (.slice none 0 0)).toArray)
 rw[←hW4.out]at k4 b4 k14 k24
 clear hW2 hW3 k1 k2 b2 b3 hb0
 obtain ⟨OK,HO⟩:=Zaf (okC o n s t ns c)
 obtain ⟨K,HK⟩:=Zaf (kidsC o c)
 obtain ⟨R,HR⟩:=Zaf (Zrs o n s t ns c)
 have hRl:Hid (R=(OK && (decide (o < 30) && decide (c=K)))):=Zai (by rw[HR.out,HO.out,HK.out];rfl)
 obtain ⟨N1,HN⟩:=Zaf (mkN o n)
 obtain ⟨S1,HS⟩:=Zaf (mkS o s)
 obtain ⟨T1,HT⟩:=Zaf (mkT o t)
 obtain ⟨L1,HL⟩:=Zaf (mkL o ns).length
 rw[←HR.out,←HN.out,←HS.out,←HT.out,←HL.out]
 have HTX:=Zai hT
 have HHS:=Zai hs
 clear HR hsz htab hT hs ht
 rw[show (Value.agg (Zav o n s t (.slice A ns.length cA) (.slice B c cB)).toArray)=.agg #[.int .u8 (o:Int),.int .i64 n,.string s,.string t,.slice A ns.length cA,.slice B c cB] from rfl]
 go_enter Tryz.func51,Tryz.ntmps51
 go_upto_region 1 with (first|(at_builtin;fail))
 rw[←hW2l.out]
 go_upto_region 2 with (first
  | (at_builtin;fail)
  | (rw[←hW3l.out];(try rw[hs2]);refine wpList_store_row rfl 26 _ _ rfl _ (Zav o 0 ⟨#[]⟩ ⟨#[]⟩ (.slice none 0 0) (.slice none 0 0)).toArray rfl rfl 26 Zag.toArray k3 (kE6 rfl) rfl (Zas Zcd) ?_;rw[←hW4.out]))
 clear hW2l hW3l hW4 k3 x0 hs2
 have x0:W4.cell? ⟨w.heap.size,0,none⟩=some (.int .u8 (o:Int)):=k14.cell 0
 go_upto_block 0 with (first|(at_builtin;fail))
 go_cut [5,6] (fun m5 o6 wx=>∃ m:Nat,m5=.int .i64 (m:Int)∧(OK=true→m=K)∧o6=.bool OK∧Blk wx w.heap.size (Zav o n s t (.slice A ns.length cA) (.slice B c cB)) 26∧Blk wx (w.heap.size+1) Zag 26∧(∃ A' c',Blk wx (w.heap.size+2) (Zav o N1 S1 T1 (.slice A' L1 c') (.slice none 0 0)) 26)∧Below w.heap.size w wx)
 case first=>
  as_aux_lemma=>
   clear hRl
   rcases (show o=0∨o=1∨o=2∨o=3∨o=4∨o=5∨o=6∨o=7∨o=8∨o=9∨o=10∨o=11∨o=12∨o=13∨o=14∨15≤o by omega) with hk|hk|hk|hk|hk|hk|hk|hk|hk|hk|hk|hk|hk|hk|hk|hk
   · subst hk
     have HOK:Hid (OK=false):=Zai (by rw[HO.out];simp[okC])
     go_wp2_with (first|(at_builtin;fail))
     go_meet
     case rel=>exact ⟨2,rfl,fun h=>(by rw[HOK.out]at h;cases h),by rw[HOK.out],k14,k24,⟨none,0,by rw[HN.out,HS.out,HT.out,HL.out];exact k4⟩,b4⟩
   · subst hk
     rcases (show n=0∨n=1∨(n ≠ 0∧n ≠ 1) by omega) with hn|hn|hn
     · have hq0:(n == 0)=true:=by rw[beq_iff_eq];exact hn
       have HOK:Hid (OK=true):=Zai (by rw[HO.out];rw[hn];simp[okC,Zcx])
       clear hn
       go_upto_region 7 with (first|(at_builtin;fail))
       refine Zap (fun L _ u=>Blk u w.heap.size (Zav 1 n s t (.slice A ns.length cA) (.slice B c cB)) 26∧Blk u (w.heap.size+1) Zag 26∧Blk u (w.heap.size+2) (Zav 1 (cond (L 11) (n) (0)) ⟨#[]⟩ ⟨#[]⟩ (.slice none 0 0) (.slice none 0 0)) 26∧Below w.heap.size w u) (fun _ u u'=>u.grownBy u' (some (w.heap.size+2))) _ (by kernel_rfl) (by kernel_rfl) (fun v=>by simp only[Zbx,Act.put,List.toList_toArray,Zl2,Zl0,Zl1,Nat.reduceAdd,Nat.zero_add];rfl) ⟨k14,k24,k4,Zaj b4⟩ (fun L L' v u hL h=>by rw[←hL 11 (by decide)];exact h) ?_
       refine Zaa [] _ (fun L hL hcl v u hS hd K' hK=>by
        simp only[Act.put,Zl2,Zl0,Zl1]at hK
        go_simp
        exact hK.out _ ⟨hS,Zab _ _⟩) (by kernel_rfl) (j:=1) rfl ?_
       refine Zaa [0] _ (fun L hL hcl v u hS hd K' hK=>by
        simp only[Zal,Zak,eqv,Zl3,Zl4,Nat.reduceSub]at hd
        simp only[Act.put,Zl2,Zl0,Zl1]at hK
        try simp only[hd]at hK
        have x9:u.cell? ⟨w.heap.size,1,none⟩=some (.int .i64 n):=hS.1.cell 1
        go_simp
        exact hK.out _ ⟨hS,Zab _ _⟩) (by kernel_rfl) (j:=2) rfl ?_
       refine Zaa [] _ (fun L hL hcl v u hS hd K' hK=>by
        simp only[Act.put,Zl2,Zl0,Zl1]at hK
        go_simp
        exact hK.out _ ⟨hS,Zab _ _⟩) (by kernel_rfl) (j:=3) rfl ?_
       refine Zaa [2] _ (fun L hL hcl v u hS hd K' hK=>by
        simp only[Zal,Zak,eqv,Zl3,Zl4,Nat.reduceSub]at hd
        simp only[Act.put,Zl2,Zl0,Zl1]at hK
        try simp only[hd]at hK
        have x9:u.cell? ⟨w.heap.size,1,none⟩=some (.int .i64 n):=hS.1.cell 1
        go_simp
        exact hK.out _ ⟨hS,Zab _ _⟩) (by kernel_rfl) (j:=4) rfl ?_
       refine Zaa [3] _ (fun L hL hcl v u hS hd K' hK=>by
        simp only[Zal,Zak,eqv,Zl3,Zl4,Nat.reduceSub]at hd
        simp only[Act.put,Zl2,Zl0,Zl1]at hK
        try simp only[hd]at hK
        go_simp
        exact hK.out _ ⟨hS,Zab _ _⟩) (by kernel_rfl) (j:=5) rfl ?_
       refine Zaa [4] _ (fun L hL hcl v u hS hd K' hK=>by
        simp only[Zal,Zak,eqv,Zl3,Zl4,Nat.reduceSub]at hd
        simp only[Act.put,Zl2,Zl0,Zl1]at hK
        try simp only[hd]at hK
        go_simp
        exact hK.out _ ⟨hS,Zab _ _⟩) (by kernel_rfl) (j:=6) rfl ?_
       refine Zaa [5] _ (fun L hL hcl v u hS hd K' hK=>by
        simp only[Zal,Zak,eqv,Zl3,Zl4,Nat.reduceSub]at hd
        simp only[Act.put,Zl2,Zl0,Zl1]at hK
        try simp only[hd]at hK
        go_simp
        exact hK.out _ ⟨hS,Zab _ _⟩) (by kernel_rfl) (j:=7) rfl ?_
       refine Zaa [5,6] _ (fun L hL hcl v u hS hd K' hK=>by
        simp only[Zal,Zak,eqv,Zl3,Zl4,Nat.reduceSub]at hd
        simp only[Act.put,Zl2,Zl0,Zl1]at hK
        try simp only[hd]at hK
        have x9:u.cell? ⟨w.heap.size,1,none⟩=some (.int .i64 n):=hS.1.cell 1
        go_simp
        exact hK.out _ ⟨hS,Zab _ _⟩) (by kernel_rfl) (j:=8) rfl ?_
       refine Zaa [5,7] _ (fun L hL hcl v u hS hd K' hK=>by
        simp only[Zal,Zak,eqv,Zl3,Zl4,Nat.reduceSub]at hd
        simp only[Act.put,Zl2,Zl0,Zl1]at hK
        try simp only[hd]at hK
        go_simp
        exact hK.out _ ⟨hS,Zab _ _⟩) (by kernel_rfl) (j:=9) rfl ?_
       refine Zaa [5,8] _ (fun L hL hcl v u hS hd K' hK=>by
        simp only[Zal,Zak,eqv,Zl3,Zl4,Nat.reduceSub]at hd
        simp only[Act.put,Zl2,Zl0,Zl1]at hK
        try simp only[hd]at hK
        go_simp
        exact hK.out _ ⟨hS,Zab _ _⟩) (by kernel_rfl) (j:=10) rfl ?_
       refine Zaa [] _ (fun L hL hcl v u hS hd K' hK=>by
        simp only[Act.put,Zl2,Zl0,Zl1]at hK
        go_simp
        exact hK.out _ ⟨hS,Zab _ _⟩) (by kernel_rfl) (j:=11) rfl ?_
       refine Zam [1,10] (fun _ _=>True) (fun _ _ _ _ _ _ _=>trivial) (fun L hL hcl v u hS hd K' hK=>by
        simp only[Zal,Zak,eqv,Zl3,Zl4,Nat.reduceSub]at hd
        simp only[Act.put,Zl2,Zl0,Zl1]at hK
        try simp only[hd]at hK
        obtain ⟨h1,h2,h4,hb⟩:=hS
        rw[hL]at h4
        have y9:u.cell? ⟨w.heap.size+2,1,none⟩=some (.int .i64 0):=h4.cell 1
        have z9:=h4.free 1
        go_simp
        exact hK.out undef _ ⟨⟨h1.far (p:=⟨w.heap.size+2,1,none⟩) (show w.heap.size ≠ w.heap.size+2 by omega) _,h2.far (p:=⟨w.heap.size+2,1,none⟩) (show w.heap.size+1 ≠ w.heap.size+2 by omega) _,h4.set 1 (.int .i64 n),hb.setCell (p:=⟨w.heap.size+2,1,none⟩) (show w.heap.size≤w.heap.size+2 by omega) _⟩,Zbn _ _ _ _,trivial⟩) (by kernel_rfl) (j:=12) rfl ?_
       refine Zaa [] _ (fun L hL hcl v u hS hd K' hK=>by
        simp only[Act.put,Zl2,Zl0,Zl1]at hK
        go_simp
        exact hK.out _ ⟨hS,Zab _ _⟩) (by kernel_rfl) (j:=13) rfl ?_
       refine Zaa [9] _ (fun L hL hcl v u hS hd K' hK=>by
        simp only[Zal,Zak,eqv,Zl3,Zl4,Nat.reduceSub]at hd
        simp only[Act.put,Zl2,Zl0,Zl1]at hK
        try simp only[hd]at hK
        go_simp
        exact hK.out _ ⟨hS,Zab _ _⟩) (by kernel_rfl) (j:=14) rfl ?_
       refine Zau [12,13] (by decide) ?_
       rintro v u hS hR
       simp only[Zal,Zak,eqv,Zl3,Zl4,Nat.reduceSub]at hR
       obtain ⟨hr1,hr2⟩:=hR
       obtain ⟨h1,h2,h4,hb⟩:=hS
       go_wp2_with (first|(at_builtin;fail))
       go_meet
       case rel=>exact ⟨0,by first|rfl|exact hr1,fun _=>by rw[HK.out];rfl,by rw[HOK.out] <;> exact hr2,h1,h2,⟨none,0,by rw[HN.out,HS.out,HT.out,HL.out];exact h4⟩,hb⟩
     · have hq0:(n == 0)=false:=by rw[beq_eq_false_iff_ne,hn];decide
       have hq1:(n == 1)=true:=by rw[beq_iff_eq];exact hn
       have HOK:Hid (OK=true):=Zai (by rw[HO.out];rw[hn];simp[okC,Zcx])
       clear hn
       go_upto_region 7 with (first|(at_builtin;fail))
       refine Zap (fun L _ u=>Blk u w.heap.size (Zav 1 n s t (.slice A ns.length cA) (.slice B c cB)) 26∧Blk u (w.heap.size+1) Zag 26∧Blk u (w.heap.size+2) (Zav 1 (cond (L 11) (n) (0)) ⟨#[]⟩ ⟨#[]⟩ (.slice none 0 0) (.slice none 0 0)) 26∧Below w.heap.size w u) (fun _ u u'=>u.grownBy u' (some (w.heap.size+2))) _ (by kernel_rfl) (by kernel_rfl) (fun v=>by simp only[Zbx,Act.put,List.toList_toArray,Zl2,Zl0,Zl1,Nat.reduceAdd,Nat.zero_add];rfl) ⟨k14,k24,k4,Zaj b4⟩ (fun L L' v u hL h=>by rw[←hL 11 (by decide)];exact h) ?_
       refine Zaa [] _ (fun L hL hcl v u hS hd K' hK=>by
        simp only[Act.put,Zl2,Zl0,Zl1]at hK
        go_simp
        exact hK.out _ ⟨hS,Zab _ _⟩) (by kernel_rfl) (j:=1) rfl ?_
       refine Zaa [0] _ (fun L hL hcl v u hS hd K' hK=>by
        simp only[Zal,Zak,eqv,Zl3,Zl4,Nat.reduceSub]at hd
        simp only[Act.put,Zl2,Zl0,Zl1]at hK
        try simp only[hd]at hK
        have x9:u.cell? ⟨w.heap.size,1,none⟩=some (.int .i64 n):=hS.1.cell 1
        go_simp
        exact hK.out _ ⟨hS,Zab _ _⟩) (by kernel_rfl) (j:=2) rfl ?_
       refine Zaa [] _ (fun L hL hcl v u hS hd K' hK=>by
        simp only[Act.put,Zl2,Zl0,Zl1]at hK
        go_simp
        exact hK.out _ ⟨hS,Zab _ _⟩) (by kernel_rfl) (j:=3) rfl ?_
       refine Zaa [2] _ (fun L hL hcl v u hS hd K' hK=>by
        simp only[Zal,Zak,eqv,Zl3,Zl4,Nat.reduceSub]at hd
        simp only[Act.put,Zl2,Zl0,Zl1]at hK
        try simp only[hd]at hK
        have x9:u.cell? ⟨w.heap.size,1,none⟩=some (.int .i64 n):=hS.1.cell 1
        go_simp
        exact hK.out _ ⟨hS,Zab _ _⟩) (by kernel_rfl) (j:=4) rfl ?_
       refine Zaa [3] _ (fun L hL hcl v u hS hd K' hK=>by
        simp only[Zal,Zak,eqv,Zl3,Zl4,Nat.reduceSub]at hd
        simp only[Act.put,Zl2,Zl0,Zl1]at hK
        try simp only[hd]at hK
        go_simp
        exact hK.out _ ⟨hS,Zab _ _⟩) (by kernel_rfl) (j:=5) rfl ?_
       refine Zaa [4] _ (fun L hL hcl v u hS hd K' hK=>by
        simp only[Zal,Zak,eqv,Zl3,Zl4,Nat.reduceSub]at hd
        simp only[Act.put,Zl2,Zl0,Zl1]at hK
        try simp only[hd]at hK
        go_simp
        exact hK.out _ ⟨hS,Zab _ _⟩) (by kernel_rfl) (j:=6) rfl ?_
       refine Zaa [5] _ (fun L hL hcl v u hS hd K' hK=>by
        simp only[Zal,Zak,eqv,Zl3,Zl4,Nat.reduceSub]at hd
        simp only[Act.put,Zl2,Zl0,Zl1]at hK
        try simp only[hd]at hK
        go_simp
        exact hK.out _ ⟨hS,Zab _ _⟩) (by kernel_rfl) (j:=7) rfl ?_
       refine Zaa [5,6] _ (fun L hL hcl v u hS hd K' hK=>by
        simp only[Zal,Zak,eqv,Zl3,Zl4,Nat.reduceSub]at hd
        simp only[Act.put,Zl2,Zl0,Zl1]at hK
        try simp only[hd]at hK
        have x9:u.cell? ⟨w.heap.size,1,none⟩=some (.int .i64 n):=hS.1.cell 1
        go_simp
        exact hK.out _ ⟨hS,Zab _ _⟩) (by kernel_rfl) (j:=8) rfl ?_
       refine Zaa [5,7] _ (fun L hL hcl v u hS hd K' hK=>by
        simp only[Zal,Zak,eqv,Zl3,Zl4,Nat.reduceSub]at hd
        simp only[Act.put,Zl2,Zl0,Zl1]at hK
        try simp only[hd]at hK
        go_simp
        exact hK.out _ ⟨hS,Zab _ _⟩) (by kernel_rfl) (j:=9) rfl ?_
       refine Zaa [5,8] _ (fun L hL hcl v u hS hd K' hK=>by
        simp only[Zal,Zak,eqv,Zl3,Zl4,Nat.reduceSub]at hd
        simp only[Act.put,Zl2,Zl0,Zl1]at hK
        try simp only[hd]at hK
        go_simp
        exact hK.out _ ⟨hS,Zab _ _⟩) (by kernel_rfl) (j:=10) rfl ?_
       refine Zaa [] _ (fun L hL hcl v u hS hd K' hK=>by
        simp only[Act.put,Zl2,Zl0,Zl1]at hK
        go_simp
        exact hK.out _ ⟨hS,Zab _ _⟩) (by kernel_rfl) (j:=11) rfl ?_
       refine Zam [1,10] (fun _ _=>True) (fun _ _ _ _ _ _ _=>trivial) (fun L hL hcl v u hS hd K' hK=>by
        simp only[Zal,Zak,eqv,Zl3,Zl4,Nat.reduceSub]at hd
        simp only[Act.put,Zl2,Zl0,Zl1]at hK
        try simp only[hd]at hK
        obtain ⟨h1,h2,h4,hb⟩:=hS
        rw[hL]at h4
        have y9:u.cell? ⟨w.heap.size+2,1,none⟩=some (.int .i64 0):=h4.cell 1
        have z9:=h4.free 1
        go_simp
        exact hK.out undef _ ⟨⟨h1.far (p:=⟨w.heap.size+2,1,none⟩) (show w.heap.size ≠ w.heap.size+2 by omega) _,h2.far (p:=⟨w.heap.size+2,1,none⟩) (show w.heap.size+1 ≠ w.heap.size+2 by omega) _,h4.set 1 (.int .i64 n),hb.setCell (p:=⟨w.heap.size+2,1,none⟩) (show w.heap.size≤w.heap.size+2 by omega) _⟩,Zbn _ _ _ _,trivial⟩) (by kernel_rfl) (j:=12) rfl ?_
       refine Zaa [] _ (fun L hL hcl v u hS hd K' hK=>by
        simp only[Act.put,Zl2,Zl0,Zl1]at hK
        go_simp
        exact hK.out _ ⟨hS,Zab _ _⟩) (by kernel_rfl) (j:=13) rfl ?_
       refine Zaa [9] _ (fun L hL hcl v u hS hd K' hK=>by
        simp only[Zal,Zak,eqv,Zl3,Zl4,Nat.reduceSub]at hd
        simp only[Act.put,Zl2,Zl0,Zl1]at hK
        try simp only[hd]at hK
        go_simp
        exact hK.out _ ⟨hS,Zab _ _⟩) (by kernel_rfl) (j:=14) rfl ?_
       refine Zau [12,13] (by decide) ?_
       rintro v u hS hR
       simp only[Zal,Zak,eqv,Zl3,Zl4,Nat.reduceSub]at hR
       obtain ⟨hr1,hr2⟩:=hR
       obtain ⟨h1,h2,h4,hb⟩:=hS
       go_wp2_with (first|(at_builtin;fail))
       go_meet
       case rel=>exact ⟨0,by first|rfl|exact hr1,fun _=>by rw[HK.out];rfl,by rw[HOK.out] <;> exact hr2,h1,h2,⟨none,0,by rw[HN.out,HS.out,HT.out,HL.out];exact h4⟩,hb⟩
     · have hq0:(n == 0)=false:=by rw[beq_eq_false_iff_ne];exact hn.1
       have hq1:(n == 1)=false:=by rw[beq_eq_false_iff_ne];exact hn.2
       have HOK:Hid (OK=false):=Zai (by rw[HO.out];simp[okC,Zcx,hn.1,hn.2])
       clear hn
       go_upto_region 7 with (first|(at_builtin;fail))
       refine Zap (fun L _ u=>Blk u w.heap.size (Zav 1 n s t (.slice A ns.length cA) (.slice B c cB)) 26∧Blk u (w.heap.size+1) Zag 26∧Blk u (w.heap.size+2) (Zav 1 (cond (L 11) (n) (0)) ⟨#[]⟩ ⟨#[]⟩ (.slice none 0 0) (.slice none 0 0)) 26∧Below w.heap.size w u) (fun _ u u'=>u.grownBy u' (some (w.heap.size+2))) _ (by kernel_rfl) (by kernel_rfl) (fun v=>by simp only[Zbx,Act.put,List.toList_toArray,Zl2,Zl0,Zl1,Nat.reduceAdd,Nat.zero_add];rfl) ⟨k14,k24,k4,Zaj b4⟩ (fun L L' v u hL h=>by rw[←hL 11 (by decide)];exact h) ?_
       refine Zaa [] _ (fun L hL hcl v u hS hd K' hK=>by
        simp only[Act.put,Zl2,Zl0,Zl1]at hK
        go_simp
        exact hK.out _ ⟨hS,Zab _ _⟩) (by kernel_rfl) (j:=1) rfl ?_
       refine Zaa [0] _ (fun L hL hcl v u hS hd K' hK=>by
        simp only[Zal,Zak,eqv,Zl3,Zl4,Nat.reduceSub]at hd
        simp only[Act.put,Zl2,Zl0,Zl1]at hK
        try simp only[hd]at hK
        have x9:u.cell? ⟨w.heap.size,1,none⟩=some (.int .i64 n):=hS.1.cell 1
        go_simp
        exact hK.out _ ⟨hS,Zab _ _⟩) (by kernel_rfl) (j:=2) rfl ?_
       refine Zaa [] _ (fun L hL hcl v u hS hd K' hK=>by
        simp only[Act.put,Zl2,Zl0,Zl1]at hK
        go_simp
        exact hK.out _ ⟨hS,Zab _ _⟩) (by kernel_rfl) (j:=3) rfl ?_
       refine Zaa [2] _ (fun L hL hcl v u hS hd K' hK=>by
        simp only[Zal,Zak,eqv,Zl3,Zl4,Nat.reduceSub]at hd
        simp only[Act.put,Zl2,Zl0,Zl1]at hK
        try simp only[hd]at hK
        have x9:u.cell? ⟨w.heap.size,1,none⟩=some (.int .i64 n):=hS.1.cell 1
        go_simp
        exact hK.out _ ⟨hS,Zab _ _⟩) (by kernel_rfl) (j:=4) rfl ?_
       refine Zaa [3] _ (fun L hL hcl v u hS hd K' hK=>by
        simp only[Zal,Zak,eqv,Zl3,Zl4,Nat.reduceSub]at hd
        simp only[Act.put,Zl2,Zl0,Zl1]at hK
        try simp only[hd]at hK
        go_simp
        exact hK.out _ ⟨hS,Zab _ _⟩) (by kernel_rfl) (j:=5) rfl ?_
       refine Zaa [4] _ (fun L hL hcl v u hS hd K' hK=>by
        simp only[Zal,Zak,eqv,Zl3,Zl4,Nat.reduceSub]at hd
        simp only[Act.put,Zl2,Zl0,Zl1]at hK
        try simp only[hd]at hK
        go_simp
        exact hK.out _ ⟨hS,Zab _ _⟩) (by kernel_rfl) (j:=6) rfl ?_
       refine Zaa [5] _ (fun L hL hcl v u hS hd K' hK=>by
        simp only[Zal,Zak,eqv,Zl3,Zl4,Nat.reduceSub]at hd
        simp only[Act.put,Zl2,Zl0,Zl1]at hK
        try simp only[hd]at hK
        go_simp
        exact hK.out _ ⟨hS,Zab _ _⟩) (by kernel_rfl) (j:=7) rfl ?_
       refine Zaa [5,6] _ (fun L hL hcl v u hS hd K' hK=>by
        simp only[Zal,Zak,eqv,Zl3,Zl4,Nat.reduceSub]at hd
        simp only[Act.put,Zl2,Zl0,Zl1]at hK
        try simp only[hd]at hK
        have x9:u.cell? ⟨w.heap.size,1,none⟩=some (.int .i64 n):=hS.1.cell 1
        go_simp
        exact hK.out _ ⟨hS,Zab _ _⟩) (by kernel_rfl) (j:=8) rfl ?_
       refine Zaa [5,7] _ (fun L hL hcl v u hS hd K' hK=>by
        simp only[Zal,Zak,eqv,Zl3,Zl4,Nat.reduceSub]at hd
        simp only[Act.put,Zl2,Zl0,Zl1]at hK
        try simp only[hd]at hK
        go_simp
        exact hK.out _ ⟨hS,Zab _ _⟩) (by kernel_rfl) (j:=9) rfl ?_
       refine Zaa [5,8] _ (fun L hL hcl v u hS hd K' hK=>by
        simp only[Zal,Zak,eqv,Zl3,Zl4,Nat.reduceSub]at hd
        simp only[Act.put,Zl2,Zl0,Zl1]at hK
        try simp only[hd]at hK
        go_simp
        exact hK.out _ ⟨hS,Zab _ _⟩) (by kernel_rfl) (j:=10) rfl ?_
       refine Zaa [] _ (fun L hL hcl v u hS hd K' hK=>by
        simp only[Act.put,Zl2,Zl0,Zl1]at hK
        go_simp
        exact hK.out _ ⟨hS,Zab _ _⟩) (by kernel_rfl) (j:=11) rfl ?_
       refine Zam [1,10] (fun _ _=>True) (fun _ _ _ _ _ _ _=>trivial) (fun L hL hcl v u hS hd K' hK=>by
        simp only[Zal,Zak,eqv,Zl3,Zl4,Nat.reduceSub]at hd
        simp only[Act.put,Zl2,Zl0,Zl1]at hK
        try simp only[hd]at hK
        obtain ⟨h1,h2,h4,hb⟩:=hS
        rw[hL]at h4
        have y9:u.cell? ⟨w.heap.size+2,1,none⟩=some (.int .i64 0):=h4.cell 1
        have z9:=h4.free 1
        go_simp
        exact hK.out undef _ ⟨⟨h1.far (p:=⟨w.heap.size+2,1,none⟩) (show w.heap.size ≠ w.heap.size+2 by omega) _,h2.far (p:=⟨w.heap.size+2,1,none⟩) (show w.heap.size+1 ≠ w.heap.size+2 by omega) _,h4.set 1 (.int .i64 n),hb.setCell (p:=⟨w.heap.size+2,1,none⟩) (show w.heap.size≤w.heap.size+2 by omega) _⟩,Zbn _ _ _ _,trivial⟩) (by kernel_rfl) (j:=12) rfl ?_
       refine Zaa [] _ (fun L hL hcl v u hS hd K' hK=>by
        simp only[Act.put,Zl2,Zl0,Zl1]at hK
        go_simp
        exact hK.out _ ⟨hS,Zab _ _⟩) (by kernel_rfl) (j:=13) rfl ?_
       refine Zaa [9] _ (fun L hL hcl v u hS hd K' hK=>by
        simp only[Zal,Zak,eqv,Zl3,Zl4,Nat.reduceSub]at hd
        simp only[Act.put,Zl2,Zl0,Zl1]at hK
        try simp only[hd]at hK
        go_simp
        exact hK.out _ ⟨hS,Zab _ _⟩) (by kernel_rfl) (j:=14) rfl ?_
       refine Zau [12,13] (by decide) ?_
       rintro v u hS hR
       simp only[Zal,Zak,eqv,Zl3,Zl4,Nat.reduceSub]at hR
       obtain ⟨hr1,hr2⟩:=hR
       obtain ⟨h1,h2,h4,hb⟩:=hS
       go_wp2_with (first|(at_builtin;fail))
       go_meet
       case rel=>exact ⟨0,by first|rfl|exact hr1,fun _=>by rw[HK.out];rfl,by rw[HOK.out] <;> exact hr2,h1,h2,⟨none,0,by rw[HN.out,HS.out,HT.out,HL.out];exact h4⟩,hb⟩
   · subst hk
     by_cases hn:0≤n
     · have HOK:Hid (OK=true):=Zai (by rw[HO.out];simp[okC,Zcx,hn])
       go_upto_region 9 with (first|(at_builtin;fail))
       refine Zap (fun L _ u=>Blk u w.heap.size (Zav 2 n s t (.slice A ns.length cA) (.slice B c cB)) 26∧Blk u (w.heap.size+1) Zag 26∧Blk u (w.heap.size+2) (Zav 2 (cond (L 6) (n) (0)) ⟨#[]⟩ ⟨#[]⟩ (.slice none 0 0) (.slice none 0 0)) 26∧Below w.heap.size w u) (fun _ u u'=>u.grownBy u' (some (w.heap.size+2))) _ (by kernel_rfl) (by kernel_rfl) (fun v=>by simp only[Zbx,Act.put,List.toList_toArray,Zl2,Zl0,Zl1,Nat.reduceAdd,Nat.zero_add];rfl) ⟨k14,k24,k4,Zaj b4⟩ (fun L L' v u hL h=>by rw[←hL 6 (by decide)];exact h) ?_
       refine Zaa [] _ (fun L hL hcl v u hS hd K' hK=>by
        simp only[Act.put,Zl2,Zl0,Zl1]at hK
        go_simp
        exact hK.out _ ⟨hS,Zab _ _⟩) (by kernel_rfl) (j:=1) rfl ?_
       refine Zaa [0] _ (fun L hL hcl v u hS hd K' hK=>by
        simp only[Zal,Zak,eqv,Zl3,Zl4,Nat.reduceSub]at hd
        simp only[Act.put,Zl2,Zl0,Zl1]at hK
        try simp only[hd]at hK
        have x9:u.cell? ⟨w.heap.size,1,none⟩=some (.int .i64 n):=hS.1.cell 1
        go_simp
        exact hK.out _ ⟨hS,Zab _ _⟩) (by kernel_rfl) (j:=2) rfl ?_
       refine Zaa [] _ (fun L hL hcl v u hS hd K' hK=>by
        simp only[Act.put,Zl2,Zl0,Zl1]at hK
        go_simp
        exact hK.out _ ⟨hS,Zab _ _⟩) (by kernel_rfl) (j:=3) rfl ?_
       refine Zaa [2] _ (fun L hL hcl v u hS hd K' hK=>by
        simp only[Zal,Zak,eqv,Zl3,Zl4,Nat.reduceSub]at hd
        simp only[Act.put,Zl2,Zl0,Zl1]at hK
        try simp only[hd]at hK
        have x9:u.cell? ⟨w.heap.size,1,none⟩=some (.int .i64 n):=hS.1.cell 1
        go_simp
        exact hK.out _ ⟨hS,Zab _ _⟩) (by kernel_rfl) (j:=4) rfl ?_
       refine Zaa [3] _ (fun L hL hcl v u hS hd K' hK=>by
        simp only[Zal,Zak,eqv,Zl3,Zl4,Nat.reduceSub]at hd
        simp only[Act.put,Zl2,Zl0,Zl1]at hK
        try simp only[hd]at hK
        go_simp
        exact hK.out _ ⟨hS,Zab _ _⟩) (by kernel_rfl) (j:=5) rfl ?_
       refine Zaa [] _ (fun L hL hcl v u hS hd K' hK=>by
        simp only[Act.put,Zl2,Zl0,Zl1]at hK
        go_simp
        exact hK.out _ ⟨hS,Zab _ _⟩) (by kernel_rfl) (j:=6) rfl ?_
       refine Zam [1,5] (fun _ _=>True) (fun _ _ _ _ _ _ _=>trivial) (fun L hL hcl v u hS hd K' hK=>by
        simp only[Zal,Zak,eqv,Zl3,Zl4,Nat.reduceSub]at hd
        simp only[Act.put,Zl2,Zl0,Zl1]at hK
        try simp only[hd]at hK
        obtain ⟨h1,h2,h4,hb⟩:=hS
        rw[hL]at h4
        have y9:u.cell? ⟨w.heap.size+2,1,none⟩=some (.int .i64 0):=h4.cell 1
        have z9:=h4.free 1
        go_simp
        exact hK.out undef _ ⟨⟨h1.far (p:=⟨w.heap.size+2,1,none⟩) (show w.heap.size ≠ w.heap.size+2 by omega) _,h2.far (p:=⟨w.heap.size+2,1,none⟩) (show w.heap.size+1 ≠ w.heap.size+2 by omega) _,h4.set 1 (.int .i64 n),hb.setCell (p:=⟨w.heap.size+2,1,none⟩) (show w.heap.size≤w.heap.size+2 by omega) _⟩,Zbn _ _ _ _,trivial⟩) (by kernel_rfl) (j:=7) rfl ?_
       refine Zaa [] _ (fun L hL hcl v u hS hd K' hK=>by
        simp only[Act.put,Zl2,Zl0,Zl1]at hK
        go_simp
        exact hK.out _ ⟨hS,Zab _ _⟩) (by kernel_rfl) (j:=8) rfl ?_
       refine Zaa [4] _ (fun L hL hcl v u hS hd K' hK=>by
        simp only[Zal,Zak,eqv,Zl3,Zl4,Nat.reduceSub]at hd
        simp only[Act.put,Zl2,Zl0,Zl1]at hK
        try simp only[hd]at hK
        go_simp
        exact hK.out _ ⟨hS,Zab _ _⟩) (by kernel_rfl) (j:=9) rfl ?_
       refine Zau [7,8] (by decide) ?_
       rintro v u hS hR
       simp only[Zal,Zak,eqv,Zl3,Zl4,Nat.reduceSub]at hR
       obtain ⟨hr1,hr2⟩:=hR
       obtain ⟨h1,h2,h4,hb⟩:=hS
       go_wp2_with (first|(at_builtin;fail))
       go_meet
       case rel=>exact ⟨0,by first|rfl|exact hr1,fun _=>by rw[HK.out];rfl,by rw[HOK.out] <;> exact hr2,h1,h2,⟨none,0,by rw[HN.out,HS.out,HT.out,HL.out];exact h4⟩,hb⟩
     · have HOK:Hid (OK=false):=Zai (by rw[HO.out];simp[okC,Zcx,hn])
       go_upto_region 9 with (first|(at_builtin;fail))
       refine Zap (fun L _ u=>Blk u w.heap.size (Zav 2 n s t (.slice A ns.length cA) (.slice B c cB)) 26∧Blk u (w.heap.size+1) Zag 26∧Blk u (w.heap.size+2) (Zav 2 (cond (L 6) (n) (0)) ⟨#[]⟩ ⟨#[]⟩ (.slice none 0 0) (.slice none 0 0)) 26∧Below w.heap.size w u) (fun _ u u'=>u.grownBy u' (some (w.heap.size+2))) _ (by kernel_rfl) (by kernel_rfl) (fun v=>by simp only[Zbx,Act.put,List.toList_toArray,Zl2,Zl0,Zl1,Nat.reduceAdd,Nat.zero_add];rfl) ⟨k14,k24,k4,Zaj b4⟩ (fun L L' v u hL h=>by rw[←hL 6 (by decide)];exact h) ?_
       refine Zaa [] _ (fun L hL hcl v u hS hd K' hK=>by
        simp only[Act.put,Zl2,Zl0,Zl1]at hK
        go_simp
        exact hK.out _ ⟨hS,Zab _ _⟩) (by kernel_rfl) (j:=1) rfl ?_
       refine Zaa [0] _ (fun L hL hcl v u hS hd K' hK=>by
        simp only[Zal,Zak,eqv,Zl3,Zl4,Nat.reduceSub]at hd
        simp only[Act.put,Zl2,Zl0,Zl1]at hK
        try simp only[hd]at hK
        have x9:u.cell? ⟨w.heap.size,1,none⟩=some (.int .i64 n):=hS.1.cell 1
        go_simp
        exact hK.out _ ⟨hS,Zab _ _⟩) (by kernel_rfl) (j:=2) rfl ?_
       refine Zaa [] _ (fun L hL hcl v u hS hd K' hK=>by
        simp only[Act.put,Zl2,Zl0,Zl1]at hK
        go_simp
        exact hK.out _ ⟨hS,Zab _ _⟩) (by kernel_rfl) (j:=3) rfl ?_
       refine Zaa [2] _ (fun L hL hcl v u hS hd K' hK=>by
        simp only[Zal,Zak,eqv,Zl3,Zl4,Nat.reduceSub]at hd
        simp only[Act.put,Zl2,Zl0,Zl1]at hK
        try simp only[hd]at hK
        have x9:u.cell? ⟨w.heap.size,1,none⟩=some (.int .i64 n):=hS.1.cell 1
        go_simp
        exact hK.out _ ⟨hS,Zab _ _⟩) (by kernel_rfl) (j:=4) rfl ?_
       refine Zaa [3] _ (fun L hL hcl v u hS hd K' hK=>by
        simp only[Zal,Zak,eqv,Zl3,Zl4,Nat.reduceSub]at hd
        simp only[Act.put,Zl2,Zl0,Zl1]at hK
        try simp only[hd]at hK
        go_simp
        exact hK.out _ ⟨hS,Zab _ _⟩) (by kernel_rfl) (j:=5) rfl ?_
       refine Zaa [] _ (fun L hL hcl v u hS hd K' hK=>by
        simp only[Act.put,Zl2,Zl0,Zl1]at hK
        go_simp
        exact hK.out _ ⟨hS,Zab _ _⟩) (by kernel_rfl) (j:=6) rfl ?_
       refine Zam [1,5] (fun _ _=>True) (fun _ _ _ _ _ _ _=>trivial) (fun L hL hcl v u hS hd K' hK=>by
        simp only[Zal,Zak,eqv,Zl3,Zl4,Nat.reduceSub]at hd
        simp only[Act.put,Zl2,Zl0,Zl1]at hK
        try simp only[hd]at hK
        obtain ⟨h1,h2,h4,hb⟩:=hS
        rw[hL]at h4
        have y9:u.cell? ⟨w.heap.size+2,1,none⟩=some (.int .i64 0):=h4.cell 1
        have z9:=h4.free 1
        go_simp
        exact hK.out undef _ ⟨⟨h1.far (p:=⟨w.heap.size+2,1,none⟩) (show w.heap.size ≠ w.heap.size+2 by omega) _,h2.far (p:=⟨w.heap.size+2,1,none⟩) (show w.heap.size+1 ≠ w.heap.size+2 by omega) _,h4.set 1 (.int .i64 n),hb.setCell (p:=⟨w.heap.size+2,1,none⟩) (show w.heap.size≤w.heap.size+2 by omega) _⟩,Zbn _ _ _ _,trivial⟩) (by kernel_rfl) (j:=7) rfl ?_
       refine Zaa [] _ (fun L hL hcl v u hS hd K' hK=>by
        simp only[Act.put,Zl2,Zl0,Zl1]at hK
        go_simp
        exact hK.out _ ⟨hS,Zab _ _⟩) (by kernel_rfl) (j:=8) rfl ?_
       refine Zaa [4] _ (fun L hL hcl v u hS hd K' hK=>by
        simp only[Zal,Zak,eqv,Zl3,Zl4,Nat.reduceSub]at hd
        simp only[Act.put,Zl2,Zl0,Zl1]at hK
        try simp only[hd]at hK
        go_simp
        exact hK.out _ ⟨hS,Zab _ _⟩) (by kernel_rfl) (j:=9) rfl ?_
       refine Zau [7,8] (by decide) ?_
       rintro v u hS hR
       simp only[Zal,Zak,eqv,Zl3,Zl4,Nat.reduceSub]at hR
       obtain ⟨hr1,hr2⟩:=hR
       obtain ⟨h1,h2,h4,hb⟩:=hS
       go_wp2_with (first|(at_builtin;fail))
       go_meet
       case rel=>exact ⟨0,by first|rfl|exact hr1,fun _=>by rw[HK.out];rfl,by rw[HOK.out] <;> exact hr2,h1,h2,⟨none,0,by rw[HN.out,HS.out,HT.out,HL.out];exact h4⟩,hb⟩
   · subst hk
     obtain ⟨V,hV⟩:=Zaf (Lib.validD s.data.toList)
     rw[←hV.out]at hval
     by_cases hle:s.size≤256
     · have hi1:(s.size:Int)≤256:=by omega
       have HOK:Hid (OK=V):=Zai (by rw[HO.out];rw[hV.out];simp[okC,Zcx,Zfu,hle])
       go_upto_region 12 with (first|(at_builtin;fail))
       refine Zap (fun L _ u=>Blk u w.heap.size (Zav 3 n s t (.slice A ns.length cA) (.slice B c cB)) 26∧Blk u (w.heap.size+1) Zag 26∧Blk u (w.heap.size+2) (Zav 3 0 (cond (L 16) (s) (⟨#[]⟩)) ⟨#[]⟩ (.slice none 0 0) (.slice none 0 0)) 26∧Below w.heap.size w u) (fun _ u u'=>u.grownBy u' (some (w.heap.size+2))) _ (by kernel_rfl) (by kernel_rfl) (fun v=>by simp only[Zbx,Act.put,List.toList_toArray,Zl2,Zl0,Zl1,Nat.reduceAdd,Nat.zero_add];rfl) ⟨k14,k24,k4,Zaj b4⟩ (fun L L' v u hL h=>by rw[←hL 16 (by decide)];exact h) ?_
       refine Zaa [] _ (fun L hL hcl v u hS hd K' hK=>by
        simp only[Act.put,Zl2,Zl0,Zl1]at hK
        go_simp
        exact hK.out _ ⟨hS,Zab _ _⟩) (by kernel_rfl) (j:=1) rfl ?_
       refine Zaa [0] _ (fun L hL hcl v u hS hd K' hK=>by
        simp only[Zal,Zak,eqv,Zl3,Zl4,Nat.reduceSub]at hd
        simp only[Act.put,Zl2,Zl0,Zl1]at hK
        try simp only[hd]at hK
        have x9:u.cell? ⟨w.heap.size,2,none⟩=some (.string s):=hS.1.cell 2
        go_simp
        exact hK.out _ ⟨hS,Zab _ _⟩) (by kernel_rfl) (j:=2) rfl ?_
       refine Zaa [] _ (fun L hL hcl v u hS hd K' hK=>by
        simp only[Act.put,Zl2,Zl0,Zl1]at hK
        go_simp
        exact hK.out _ ⟨hS,Zab _ _⟩) (by kernel_rfl) (j:=3) rfl ?_
       refine Zaa [2] _ (fun L hL hcl v u hS hd K' hK=>by
        simp only[Zal,Zak,eqv,Zl3,Zl4,Nat.reduceSub]at hd
        simp only[Act.put,Zl2,Zl0,Zl1]at hK
        try simp only[hd]at hK
        have x9:u.cell? ⟨w.heap.size,0,none⟩=some (.int .u8 3):=hS.1.cell 0
        go_simp
        exact hK.out _ ⟨hS,Zab _ _⟩) (by kernel_rfl) (j:=4) rfl ?_
       refine Zaa [3] _ (fun L hL hcl v u hS hd K' hK=>by
        simp only[Zal,Zak,eqv,Zl3,Zl4,Nat.reduceSub]at hd
        simp only[Act.put,Zl2,Zl0,Zl1]at hK
        try simp only[hd]at hK
        go_simp
        exact hK.out _ ⟨hS,Zab _ _⟩) (by kernel_rfl) (j:=5) rfl ?_
       refine Zaa [4] _ (fun L hL hcl v u hS hd K' hK=>by
        simp only[Zal,Zak,eqv,Zl3,Zl4,Nat.reduceSub]at hd
        simp only[Act.put,Zl2,Zl0,Zl1]at hK
        try simp only[hd]at hK
        go_simp
        exact hK.out _ ⟨hS,Zab _ _⟩) (by kernel_rfl) (j:=6) rfl ?_
       refine Zaa [] _ (fun L hL hcl v u hS hd K' hK=>by
        simp only[Act.put,Zl2,Zl0,Zl1]at hK
        go_simp
        exact hK.out _ ⟨hS,Zab _ _⟩) (by kernel_rfl) (j:=7) rfl ?_
       refine Zaa [6] _ (fun L hL hcl v u hS hd K' hK=>by
        simp only[Zal,Zak,eqv,Zl3,Zl4,Nat.reduceSub]at hd
        simp only[Act.put,Zl2,Zl0,Zl1]at hK
        try simp only[hd]at hK
        have x9:u.cell? ⟨w.heap.size,2,none⟩=some (.string s):=hS.1.cell 2
        go_simp
        exact hK.out _ ⟨hS,Zab _ _⟩) (by kernel_rfl) (j:=8) rfl ?_
       refine Zaa [7] _ (fun L hL hcl v u hS hd K' hK=>by
        simp only[Zal,Zak,eqv,Zl3,Zl4,Nat.reduceSub]at hd
        simp only[Act.put,Zl2,Zl0,Zl1]at hK
        try simp only[hd]at hK
        go_simp
        exact hK.out _ ⟨hS,Zab _ _⟩) (by kernel_rfl) (j:=9) rfl ?_
       refine Zaa [8] _ (fun L hL hcl v u hS hd K' hK=>by
        simp only[Zal,Zak,eqv,Zl3,Zl4,Nat.reduceSub]at hd
        simp only[Act.put,Zl2,Zl0,Zl1]at hK
        try simp only[hd]at hK
        go_simp
        exact hK.out _ ⟨hS,Zab _ _⟩) (by kernel_rfl) (j:=10) rfl ?_
       refine Zaa [9] _ (fun L hL hcl v u hS hd K' hK=>by
        simp only[Zal,Zak,eqv,Zl3,Zl4,Nat.reduceSub]at hd
        simp only[Act.put,Zl2,Zl0,Zl1]at hK
        try simp only[hd]at hK
        go_simp
        exact hK.out _ ⟨hS,Zab _ _⟩) (by kernel_rfl) (j:=11) rfl ?_
       refine Zaa [10] _ (fun L hL hcl v u hS hd K' hK=>by
        simp only[Zal,Zak,eqv,Zl3,Zl4,Nat.reduceSub]at hd
        simp only[Act.put,Zl2,Zl0,Zl1]at hK
        try simp only[hd]at hK
        go_simp
        exact hK.out _ ⟨hS,Zab _ _⟩) (by kernel_rfl) (j:=12) rfl ?_
       refine Zaa [10,11] _ (fun L hL hcl v u hS hd K' hK=>by
        simp only[Zal,Zak,eqv,Zl3,Zl4,Nat.reduceSub]at hd
        simp only[Act.put,Zl2,Zl0,Zl1]at hK
        try simp only[hd]at hK
        have x9:u.cell? ⟨w.heap.size,2,none⟩=some (.string s):=hS.1.cell 2
        go_simp
        exact hK.out _ ⟨hS,Zab _ _⟩) (by kernel_rfl) (j:=13) rfl ?_
       refine Zaa [10,12] _ (fun L hL hcl v u hS hd K' hK=>by
        simp only[Zal,Zak,eqv,Zl3,Zl4,Nat.reduceSub]at hd
        simp only[Act.put,Zl2,Zl0,Zl1]at hK
        try simp only[hd]at hK
        go_simp
        refine (hval u hS.2.2.2).mono ?_
        rintro e9 u1 ⟨rfl,hb9⟩
        exact hK.out _ ⟨⟨hS.1.below hb9,hS.2.1.below hb9,hS.2.2.1.below hb9,bt hS.2.2.2 hb9⟩,Zad hb9 _⟩) (by kernel_rfl) (j:=14) rfl ?_
       refine Zaa [10,13] _ (fun L hL hcl v u hS hd K' hK=>by
        simp only[Zal,Zak,eqv,Zl3,Zl4,Nat.reduceSub]at hd
        simp only[Act.put,Zl2,Zl0,Zl1]at hK
        try simp only[hd]at hK
        go_simp
        exact hK.out _ ⟨hS,Zab _ _⟩) (by kernel_rfl) (j:=15) rfl ?_
       refine Zaa [] _ (fun L hL hcl v u hS hd K' hK=>by
        simp only[Act.put,Zl2,Zl0,Zl1]at hK
        go_simp
        exact hK.out _ ⟨hS,Zab _ _⟩) (by kernel_rfl) (j:=16) rfl ?_
       refine Zam [1,15] (fun _ _=>True) (fun _ _ _ _ _ _ _=>trivial) (fun L hL hcl v u hS hd K' hK=>by
        simp only[Zal,Zak,eqv,Zl3,Zl4,Nat.reduceSub]at hd
        simp only[Act.put,Zl2,Zl0,Zl1]at hK
        try simp only[hd]at hK
        obtain ⟨h1,h2,h4,hb⟩:=hS
        rw[hL]at h4
        have y9:u.cell? ⟨w.heap.size+2,2,none⟩=some (.string ⟨#[]⟩):=h4.cell 2
        have z9:=h4.free 2
        go_simp
        exact hK.out undef _ ⟨⟨h1.far (p:=⟨w.heap.size+2,2,none⟩) (show w.heap.size ≠ w.heap.size+2 by omega) _,h2.far (p:=⟨w.heap.size+2,2,none⟩) (show w.heap.size+1 ≠ w.heap.size+2 by omega) _,h4.set 2 (.string s),hb.setCell (p:=⟨w.heap.size+2,2,none⟩) (show w.heap.size≤w.heap.size+2 by omega) _⟩,Zbn _ _ _ _,trivial⟩) (by kernel_rfl) (j:=17) rfl ?_
       refine Zaa [5] _ (fun L hL hcl v u hS hd K' hK=>by
        simp only[Zal,Zak,eqv,Zl3,Zl4,Nat.reduceSub]at hd
        simp only[Act.put,Zl2,Zl0,Zl1]at hK
        try simp only[hd]at hK
        go_simp
        exact hK.out _ ⟨hS,Zab _ _⟩) (by kernel_rfl) (j:=18) rfl ?_
       refine Zaa [14] _ (fun L hL hcl v u hS hd K' hK=>by
        simp only[Zal,Zak,eqv,Zl3,Zl4,Nat.reduceSub]at hd
        simp only[Act.put,Zl2,Zl0,Zl1]at hK
        try simp only[hd]at hK
        go_simp
        exact hK.out _ ⟨hS,Zab _ _⟩) (by kernel_rfl) (j:=19) rfl ?_
       refine Zau [17,18] (by decide) ?_
       rintro v u hS hR
       simp only[Zal,Zak,eqv,Zl3,Zl4,Nat.reduceSub]at hR
       obtain ⟨hr1,hr2⟩:=hR
       obtain ⟨h1,h2,h4,hb⟩:=hS
       go_wp2_with (first|(at_builtin;fail))
       go_meet
       case rel=>exact ⟨0,by first|rfl|exact hr1,fun _=>by rw[HK.out];rfl,by rw[HOK.out] <;> exact hr2,h1,h2,⟨none,0,by rw[HN.out,HS.out,HT.out,HL.out];exact h4⟩,hb⟩
     · have hi1:¬ (s.size:Int)≤256:=by omega
       have HOK:Hid (OK=false):=Zai (by rw[HO.out];simp[okC,Zcx,Zfu,hle])
       clear hval
       go_upto_region 12 with (first|(at_builtin;fail))
       refine Zap (fun L _ u=>Blk u w.heap.size (Zav 3 n s t (.slice A ns.length cA) (.slice B c cB)) 26∧Blk u (w.heap.size+1) Zag 26∧Blk u (w.heap.size+2) (Zav 3 0 (cond (L 16) (s) (⟨#[]⟩)) ⟨#[]⟩ (.slice none 0 0) (.slice none 0 0)) 26∧Below w.heap.size w u) (fun _ u u'=>u.grownBy u' (some (w.heap.size+2))) _ (by kernel_rfl) (by kernel_rfl) (fun v=>by simp only[Zbx,Act.put,List.toList_toArray,Zl2,Zl0,Zl1,Nat.reduceAdd,Nat.zero_add];rfl) ⟨k14,k24,k4,Zaj b4⟩ (fun L L' v u hL h=>by rw[←hL 16 (by decide)];exact h) ?_
       refine Zaa [] _ (fun L hL hcl v u hS hd K' hK=>by
        simp only[Act.put,Zl2,Zl0,Zl1]at hK
        go_simp
        exact hK.out _ ⟨hS,Zab _ _⟩) (by kernel_rfl) (j:=1) rfl ?_
       refine Zaa [0] _ (fun L hL hcl v u hS hd K' hK=>by
        simp only[Zal,Zak,eqv,Zl3,Zl4,Nat.reduceSub]at hd
        simp only[Act.put,Zl2,Zl0,Zl1]at hK
        try simp only[hd]at hK
        have x9:u.cell? ⟨w.heap.size,2,none⟩=some (.string s):=hS.1.cell 2
        go_simp
        exact hK.out _ ⟨hS,Zab _ _⟩) (by kernel_rfl) (j:=2) rfl ?_
       refine Zaa [] _ (fun L hL hcl v u hS hd K' hK=>by
        simp only[Act.put,Zl2,Zl0,Zl1]at hK
        go_simp
        exact hK.out _ ⟨hS,Zab _ _⟩) (by kernel_rfl) (j:=3) rfl ?_
       refine Zaa [2] _ (fun L hL hcl v u hS hd K' hK=>by
        simp only[Zal,Zak,eqv,Zl3,Zl4,Nat.reduceSub]at hd
        simp only[Act.put,Zl2,Zl0,Zl1]at hK
        try simp only[hd]at hK
        have x9:u.cell? ⟨w.heap.size,0,none⟩=some (.int .u8 3):=hS.1.cell 0
        go_simp
        exact hK.out _ ⟨hS,Zab _ _⟩) (by kernel_rfl) (j:=4) rfl ?_
       refine Zaa [3] _ (fun L hL hcl v u hS hd K' hK=>by
        simp only[Zal,Zak,eqv,Zl3,Zl4,Nat.reduceSub]at hd
        simp only[Act.put,Zl2,Zl0,Zl1]at hK
        try simp only[hd]at hK
        go_simp
        exact hK.out _ ⟨hS,Zab _ _⟩) (by kernel_rfl) (j:=5) rfl ?_
       refine Zaa [4] _ (fun L hL hcl v u hS hd K' hK=>by
        simp only[Zal,Zak,eqv,Zl3,Zl4,Nat.reduceSub]at hd
        simp only[Act.put,Zl2,Zl0,Zl1]at hK
        try simp only[hd]at hK
        go_simp
        exact hK.out _ ⟨hS,Zab _ _⟩) (by kernel_rfl) (j:=6) rfl ?_
       refine Zaa [] _ (fun L hL hcl v u hS hd K' hK=>by
        simp only[Act.put,Zl2,Zl0,Zl1]at hK
        go_simp
        exact hK.out _ ⟨hS,Zab _ _⟩) (by kernel_rfl) (j:=7) rfl ?_
       refine Zaa [6] _ (fun L hL hcl v u hS hd K' hK=>by
        simp only[Zal,Zak,eqv,Zl3,Zl4,Nat.reduceSub]at hd
        simp only[Act.put,Zl2,Zl0,Zl1]at hK
        try simp only[hd]at hK
        have x9:u.cell? ⟨w.heap.size,2,none⟩=some (.string s):=hS.1.cell 2
        go_simp
        exact hK.out _ ⟨hS,Zab _ _⟩) (by kernel_rfl) (j:=8) rfl ?_
       refine Zaa [7] _ (fun L hL hcl v u hS hd K' hK=>by
        simp only[Zal,Zak,eqv,Zl3,Zl4,Nat.reduceSub]at hd
        simp only[Act.put,Zl2,Zl0,Zl1]at hK
        try simp only[hd]at hK
        go_simp
        exact hK.out _ ⟨hS,Zab _ _⟩) (by kernel_rfl) (j:=9) rfl ?_
       refine Zaa [8] _ (fun L hL hcl v u hS hd K' hK=>by
        simp only[Zal,Zak,eqv,Zl3,Zl4,Nat.reduceSub]at hd
        simp only[Act.put,Zl2,Zl0,Zl1]at hK
        try simp only[hd]at hK
        go_simp
        exact hK.out _ ⟨hS,Zab _ _⟩) (by kernel_rfl) (j:=10) rfl ?_
       refine Zaa [9] _ (fun L hL hcl v u hS hd K' hK=>by
        simp only[Zal,Zak,eqv,Zl3,Zl4,Nat.reduceSub]at hd
        simp only[Act.put,Zl2,Zl0,Zl1]at hK
        try simp only[hd]at hK
        go_simp
        exact hK.out _ ⟨hS,Zab _ _⟩) (by kernel_rfl) (j:=11) rfl ?_
       refine Zaa [10] _ (fun L hL hcl v u hS hd K' hK=>by
        simp only[Zal,Zak,eqv,Zl3,Zl4,Nat.reduceSub]at hd
        simp only[Act.put,Zl2,Zl0,Zl1]at hK
        try simp only[hd]at hK
        go_simp
        exact hK.out _ ⟨hS,Zab _ _⟩) (by kernel_rfl) (j:=12) rfl ?_
       refine Zaa [10,11] _ (fun L hL hcl v u hS hd K' hK=>by
        simp only[Zal,Zak,eqv,Zl3,Zl4,Nat.reduceSub]at hd
        simp only[Act.put,Zl2,Zl0,Zl1]at hK
        try simp only[hd]at hK
        have x9:u.cell? ⟨w.heap.size,2,none⟩=some (.string s):=hS.1.cell 2
        go_simp
        exact hK.out _ ⟨hS,Zab _ _⟩) (by kernel_rfl) (j:=13) rfl ?_
       refine Zaa [10,12] _ (fun L hL hcl v u hS hd K' hK=>by
        simp only[Zal,Zak,eqv,Zl3,Zl4,Nat.reduceSub]at hd
        simp only[Act.put,Zl2,Zl0,Zl1]at hK
        try simp only[hd]at hK
        go_simp
        exact hK.out _ ⟨hS,Zab _ _⟩) (by kernel_rfl) (j:=14) rfl ?_
       refine Zaa [10,13] _ (fun L hL hcl v u hS hd K' hK=>by
        simp only[Zal,Zak,eqv,Zl3,Zl4,Nat.reduceSub]at hd
        simp only[Act.put,Zl2,Zl0,Zl1]at hK
        try simp only[hd]at hK
        go_simp
        exact hK.out _ ⟨hS,Zab _ _⟩) (by kernel_rfl) (j:=15) rfl ?_
       refine Zaa [] _ (fun L hL hcl v u hS hd K' hK=>by
        simp only[Act.put,Zl2,Zl0,Zl1]at hK
        go_simp
        exact hK.out _ ⟨hS,Zab _ _⟩) (by kernel_rfl) (j:=16) rfl ?_
       refine Zam [1,15] (fun _ _=>True) (fun _ _ _ _ _ _ _=>trivial) (fun L hL hcl v u hS hd K' hK=>by
        simp only[Zal,Zak,eqv,Zl3,Zl4,Nat.reduceSub]at hd
        simp only[Act.put,Zl2,Zl0,Zl1]at hK
        try simp only[hd]at hK
        obtain ⟨h1,h2,h4,hb⟩:=hS
        rw[hL]at h4
        have y9:u.cell? ⟨w.heap.size+2,2,none⟩=some (.string ⟨#[]⟩):=h4.cell 2
        have z9:=h4.free 2
        go_simp
        exact hK.out undef _ ⟨⟨h1.far (p:=⟨w.heap.size+2,2,none⟩) (show w.heap.size ≠ w.heap.size+2 by omega) _,h2.far (p:=⟨w.heap.size+2,2,none⟩) (show w.heap.size+1 ≠ w.heap.size+2 by omega) _,h4.set 2 (.string s),hb.setCell (p:=⟨w.heap.size+2,2,none⟩) (show w.heap.size≤w.heap.size+2 by omega) _⟩,Zbn _ _ _ _,trivial⟩) (by kernel_rfl) (j:=17) rfl ?_
       refine Zaa [5] _ (fun L hL hcl v u hS hd K' hK=>by
        simp only[Zal,Zak,eqv,Zl3,Zl4,Nat.reduceSub]at hd
        simp only[Act.put,Zl2,Zl0,Zl1]at hK
        try simp only[hd]at hK
        go_simp
        exact hK.out _ ⟨hS,Zab _ _⟩) (by kernel_rfl) (j:=18) rfl ?_
       refine Zaa [14] _ (fun L hL hcl v u hS hd K' hK=>by
        simp only[Zal,Zak,eqv,Zl3,Zl4,Nat.reduceSub]at hd
        simp only[Act.put,Zl2,Zl0,Zl1]at hK
        try simp only[hd]at hK
        go_simp
        exact hK.out _ ⟨hS,Zab _ _⟩) (by kernel_rfl) (j:=19) rfl ?_
       refine Zau [17,18] (by decide) ?_
       rintro v u hS hR
       simp only[Zal,Zak,eqv,Zl3,Zl4,Nat.reduceSub]at hR
       obtain ⟨hr1,hr2⟩:=hR
       obtain ⟨h1,h2,h4,hb⟩:=hS
       go_wp2_with (first|(at_builtin;fail))
       go_meet
       case rel=>exact ⟨0,by first|rfl|exact hr1,fun _=>by rw[HK.out];rfl,by rw[HOK.out] <;> exact hr2,h1,h2,⟨none,0,by rw[HN.out,HS.out,HT.out,HL.out];exact h4⟩,hb⟩
   · subst hk
     obtain ⟨U,hU⟩:=Zaf (uidE t s)
     rw[←hU.out]at huid
     have hou:=uidOk_eq t s
     rw[←hU.out]at hou
     by_cases h0:U=0
     · have hi1:(U == 0)=true:=by rw[beq_iff_eq];exact h0
       have HOK:Hid (OK=true):=Zai (by rw[HO.out];simp[okC,Zcx,hou,h0])
       clear h0 hou
       go_upto_region 14 with (first|(at_builtin;fail))
       refine Zap (fun L _ u=>Blk u w.heap.size (Zav 4 n s t (.slice A ns.length cA) (.slice B c cB)) 26∧Blk u (w.heap.size+1) Zag 26∧Blk u (w.heap.size+2) (Zav 4 0 (cond (L 14) (s) (⟨#[]⟩)) (cond (L 12) (t) (⟨#[]⟩)) (.slice none 0 0) (.slice none 0 0)) 26∧Below w.heap.size w u) (fun _ u u'=>u.grownBy u' (some (w.heap.size+2))) _ (by kernel_rfl) (by kernel_rfl) (fun v=>by simp only[Zbx,Act.put,List.toList_toArray,Zl2,Zl0,Zl1,Nat.reduceAdd,Nat.zero_add];rfl) ⟨k14,k24,k4,Zaj b4⟩ (fun L L' v u hL h=>by rw[←hL 12 (by decide)];rw[←hL 14 (by decide)];exact h) ?_
       refine Zaa [] _ (fun L hL hcl v u hS hd K' hK=>by
        simp only[Act.put,Zl2,Zl0,Zl1]at hK
        go_simp
        exact hK.out _ ⟨hS,Zab _ _⟩) (by kernel_rfl) (j:=1) rfl ?_
       refine Zaa [0] _ (fun L hL hcl v u hS hd K' hK=>by
        simp only[Zal,Zak,eqv,Zl3,Zl4,Nat.reduceSub]at hd
        simp only[Act.put,Zl2,Zl0,Zl1]at hK
        try simp only[hd]at hK
        have x9:u.cell? ⟨w.heap.size,3,none⟩=some (.string t):=hS.1.cell 3
        go_simp
        exact hK.out _ ⟨hS,Zab _ _⟩) (by kernel_rfl) (j:=2) rfl ?_
       refine Zaa [] _ (fun L hL hcl v u hS hd K' hK=>by
        simp only[Act.put,Zl2,Zl0,Zl1]at hK
        go_simp
        exact hK.out _ ⟨hS,Zab _ _⟩) (by kernel_rfl) (j:=3) rfl ?_
       refine Zaa [2] _ (fun L hL hcl v u hS hd K' hK=>by
        simp only[Zal,Zak,eqv,Zl3,Zl4,Nat.reduceSub]at hd
        simp only[Act.put,Zl2,Zl0,Zl1]at hK
        try simp only[hd]at hK
        have x9:u.cell? ⟨w.heap.size,2,none⟩=some (.string s):=hS.1.cell 2
        go_simp
        exact hK.out _ ⟨hS,Zab _ _⟩) (by kernel_rfl) (j:=4) rfl ?_
       refine Zaa [] _ (fun L hL hcl v u hS hd K' hK=>by
        simp only[Act.put,Zl2,Zl0,Zl1]at hK
        go_simp
        exact hK.out _ ⟨hS,Zab _ _⟩) (by kernel_rfl) (j:=5) rfl ?_
       refine Zaa [4] _ (fun L hL hcl v u hS hd K' hK=>by
        simp only[Zal,Zak,eqv,Zl3,Zl4,Nat.reduceSub]at hd
        simp only[Act.put,Zl2,Zl0,Zl1]at hK
        try simp only[hd]at hK
        have x9:u.cell? ⟨w.heap.size,3,none⟩=some (.string t):=hS.1.cell 3
        go_simp
        exact hK.out _ ⟨hS,Zab _ _⟩) (by kernel_rfl) (j:=6) rfl ?_
       refine Zaa [] _ (fun L hL hcl v u hS hd K' hK=>by
        simp only[Act.put,Zl2,Zl0,Zl1]at hK
        go_simp
        exact hK.out _ ⟨hS,Zab _ _⟩) (by kernel_rfl) (j:=7) rfl ?_
       refine Zaa [6] _ (fun L hL hcl v u hS hd K' hK=>by
        simp only[Zal,Zak,eqv,Zl3,Zl4,Nat.reduceSub]at hd
        simp only[Act.put,Zl2,Zl0,Zl1]at hK
        try simp only[hd]at hK
        have x9:u.cell? ⟨w.heap.size,2,none⟩=some (.string s):=hS.1.cell 2
        go_simp
        exact hK.out _ ⟨hS,Zab _ _⟩) (by kernel_rfl) (j:=8) rfl ?_
       refine Zaa [5,7] _ (fun L hL hcl v u hS hd K' hK=>by
        simp only[Zal,Zak,eqv,Zl3,Zl4,Nat.reduceSub]at hd
        simp only[Act.put,Zl2,Zl0,Zl1]at hK
        try simp only[hd]at hK
        go_simp
        exact hK.out _ ⟨hS,Zab _ _⟩) (by kernel_rfl) (j:=9) rfl ?_
       refine Zaa [8] _ (fun L hL hcl v u hS hd K' hK=>by
        simp only[Zal,Zak,eqv,Zl3,Zl4,Nat.reduceSub]at hd
        simp only[Act.put,Zl2,Zl0,Zl1]at hK
        try simp only[hd]at hK
        go_simp
        refine (huid u hS.2.2.2).mono ?_
        rintro e9 u1 ⟨rfl,hb9⟩
        exact hK.out _ ⟨⟨hS.1.below hb9,hS.2.1.below hb9,hS.2.2.1.below hb9,bt hS.2.2.2 hb9⟩,Zad hb9 _⟩) (by kernel_rfl) (j:=10) rfl ?_
       refine Zaa [9] _ (fun L hL hcl v u hS hd K' hK=>by
        simp only[Zal,Zak,eqv,Zl3,Zl4,Nat.reduceSub]at hd
        simp only[Act.put,Zl2,Zl0,Zl1]at hK
        try simp only[hd]at hK
        go_simp
        exact hK.out _ ⟨hS,Zab _ _⟩) (by kernel_rfl) (j:=11) rfl ?_
       refine Zaa [] _ (fun L hL hcl v u hS hd K' hK=>by
        simp only[Act.put,Zl2,Zl0,Zl1]at hK
        go_simp
        exact hK.out _ ⟨hS,Zab _ _⟩) (by kernel_rfl) (j:=12) rfl ?_
       refine Zam [1,11] (fun _ _=>True) (fun _ _ _ _ _ _ _=>trivial) (fun L hL hcl v u hS hd K' hK=>by
        simp only[Zal,Zak,eqv,Zl3,Zl4,Nat.reduceSub]at hd
        simp only[Act.put,Zl2,Zl0,Zl1]at hK
        try simp only[hd]at hK
        obtain ⟨h1,h2,h4,hb⟩:=hS
        rw[hL]at h4
        have y9:u.cell? ⟨w.heap.size+2,3,none⟩=some (.string ⟨#[]⟩):=h4.cell 3
        have z9:=h4.free 3
        go_simp
        exact hK.out undef _ ⟨⟨h1.far (p:=⟨w.heap.size+2,3,none⟩) (show w.heap.size ≠ w.heap.size+2 by omega) _,h2.far (p:=⟨w.heap.size+2,3,none⟩) (show w.heap.size+1 ≠ w.heap.size+2 by omega) _,h4.set 3 (.string t),hb.setCell (p:=⟨w.heap.size+2,3,none⟩) (show w.heap.size≤w.heap.size+2 by omega) _⟩,Zbn _ _ _ _,trivial⟩) (by kernel_rfl) (j:=13) rfl ?_
       refine Zaa [] _ (fun L hL hcl v u hS hd K' hK=>by
        simp only[Act.put,Zl2,Zl0,Zl1]at hK
        go_simp
        exact hK.out _ ⟨hS,Zab _ _⟩) (by kernel_rfl) (j:=14) rfl ?_
       refine Zam [3,13] (fun _ _=>True) (fun _ _ _ _ _ _ _=>trivial) (fun L hL hcl v u hS hd K' hK=>by
        simp only[Zal,Zak,eqv,Zl3,Zl4,Nat.reduceSub]at hd
        simp only[Act.put,Zl2,Zl0,Zl1]at hK
        try simp only[hd]at hK
        obtain ⟨h1,h2,h4,hb⟩:=hS
        rw[hL]at h4
        have y9:u.cell? ⟨w.heap.size+2,2,none⟩=some (.string ⟨#[]⟩):=h4.cell 2
        have z9:=h4.free 2
        go_simp
        exact hK.out undef _ ⟨⟨h1.far (p:=⟨w.heap.size+2,2,none⟩) (show w.heap.size ≠ w.heap.size+2 by omega) _,h2.far (p:=⟨w.heap.size+2,2,none⟩) (show w.heap.size+1 ≠ w.heap.size+2 by omega) _,h4.set 2 (.string s),hb.setCell (p:=⟨w.heap.size+2,2,none⟩) (show w.heap.size≤w.heap.size+2 by omega) _⟩,Zbn _ _ _ _,trivial⟩) (by kernel_rfl) (j:=15) rfl ?_
       refine Zaa [] _ (fun L hL hcl v u hS hd K' hK=>by
        simp only[Act.put,Zl2,Zl0,Zl1]at hK
        go_simp
        exact hK.out _ ⟨hS,Zab _ _⟩) (by kernel_rfl) (j:=16) rfl ?_
       refine Zaa [10] _ (fun L hL hcl v u hS hd K' hK=>by
        simp only[Zal,Zak,eqv,Zl3,Zl4,Nat.reduceSub]at hd
        simp only[Act.put,Zl2,Zl0,Zl1]at hK
        try simp only[hd]at hK
        go_simp
        exact hK.out _ ⟨hS,Zab _ _⟩) (by kernel_rfl) (j:=17) rfl ?_
       refine Zau [15,16] (by decide) ?_
       rintro v u hS hR
       simp only[Zal,Zak,eqv,Zl3,Zl4,Nat.reduceSub]at hR
       obtain ⟨hr1,hr2⟩:=hR
       obtain ⟨h1,h2,h4,hb⟩:=hS
       go_wp2_with (first|(at_builtin;fail))
       go_meet
       case rel=>exact ⟨0,by first|rfl|exact hr1,fun _=>by rw[HK.out];rfl,by rw[HOK.out] <;> exact hr2,h1,h2,⟨none,0,by rw[HN.out,HS.out,HT.out,HL.out];exact h4⟩,hb⟩
     · have hi1:(U == 0)=false:=by rw[beq_eq_false_iff_ne];exact h0
       have HOK:Hid (OK=false):=Zai (by rw[HO.out];simp[okC,Zcx,hou,h0])
       clear h0 hou
       go_upto_region 14 with (first|(at_builtin;fail))
       refine Zap (fun L _ u=>Blk u w.heap.size (Zav 4 n s t (.slice A ns.length cA) (.slice B c cB)) 26∧Blk u (w.heap.size+1) Zag 26∧Blk u (w.heap.size+2) (Zav 4 0 (cond (L 14) (s) (⟨#[]⟩)) (cond (L 12) (t) (⟨#[]⟩)) (.slice none 0 0) (.slice none 0 0)) 26∧Below w.heap.size w u) (fun _ u u'=>u.grownBy u' (some (w.heap.size+2))) _ (by kernel_rfl) (by kernel_rfl) (fun v=>by simp only[Zbx,Act.put,List.toList_toArray,Zl2,Zl0,Zl1,Nat.reduceAdd,Nat.zero_add];rfl) ⟨k14,k24,k4,Zaj b4⟩ (fun L L' v u hL h=>by rw[←hL 12 (by decide)];rw[←hL 14 (by decide)];exact h) ?_
       refine Zaa [] _ (fun L hL hcl v u hS hd K' hK=>by
        simp only[Act.put,Zl2,Zl0,Zl1]at hK
        go_simp
        exact hK.out _ ⟨hS,Zab _ _⟩) (by kernel_rfl) (j:=1) rfl ?_
       refine Zaa [0] _ (fun L hL hcl v u hS hd K' hK=>by
        simp only[Zal,Zak,eqv,Zl3,Zl4,Nat.reduceSub]at hd
        simp only[Act.put,Zl2,Zl0,Zl1]at hK
        try simp only[hd]at hK
        have x9:u.cell? ⟨w.heap.size,3,none⟩=some (.string t):=hS.1.cell 3
        go_simp
        exact hK.out _ ⟨hS,Zab _ _⟩) (by kernel_rfl) (j:=2) rfl ?_
       refine Zaa [] _ (fun L hL hcl v u hS hd K' hK=>by
        simp only[Act.put,Zl2,Zl0,Zl1]at hK
        go_simp
        exact hK.out _ ⟨hS,Zab _ _⟩) (by kernel_rfl) (j:=3) rfl ?_
       refine Zaa [2] _ (fun L hL hcl v u hS hd K' hK=>by
        simp only[Zal,Zak,eqv,Zl3,Zl4,Nat.reduceSub]at hd
        simp only[Act.put,Zl2,Zl0,Zl1]at hK
        try simp only[hd]at hK
        have x9:u.cell? ⟨w.heap.size,2,none⟩=some (.string s):=hS.1.cell 2
        go_simp
        exact hK.out _ ⟨hS,Zab _ _⟩) (by kernel_rfl) (j:=4) rfl ?_
       refine Zaa [] _ (fun L hL hcl v u hS hd K' hK=>by
        simp only[Act.put,Zl2,Zl0,Zl1]at hK
        go_simp
        exact hK.out _ ⟨hS,Zab _ _⟩) (by kernel_rfl) (j:=5) rfl ?_
       refine Zaa [4] _ (fun L hL hcl v u hS hd K' hK=>by
        simp only[Zal,Zak,eqv,Zl3,Zl4,Nat.reduceSub]at hd
        simp only[Act.put,Zl2,Zl0,Zl1]at hK
        try simp only[hd]at hK
        have x9:u.cell? ⟨w.heap.size,3,none⟩=some (.string t):=hS.1.cell 3
        go_simp
        exact hK.out _ ⟨hS,Zab _ _⟩) (by kernel_rfl) (j:=6) rfl ?_
       refine Zaa [] _ (fun L hL hcl v u hS hd K' hK=>by
        simp only[Act.put,Zl2,Zl0,Zl1]at hK
        go_simp
        exact hK.out _ ⟨hS,Zab _ _⟩) (by kernel_rfl) (j:=7) rfl ?_
       refine Zaa [6] _ (fun L hL hcl v u hS hd K' hK=>by
        simp only[Zal,Zak,eqv,Zl3,Zl4,Nat.reduceSub]at hd
        simp only[Act.put,Zl2,Zl0,Zl1]at hK
        try simp only[hd]at hK
        have x9:u.cell? ⟨w.heap.size,2,none⟩=some (.string s):=hS.1.cell 2
        go_simp
        exact hK.out _ ⟨hS,Zab _ _⟩) (by kernel_rfl) (j:=8) rfl ?_
       refine Zaa [5,7] _ (fun L hL hcl v u hS hd K' hK=>by
        simp only[Zal,Zak,eqv,Zl3,Zl4,Nat.reduceSub]at hd
        simp only[Act.put,Zl2,Zl0,Zl1]at hK
        try simp only[hd]at hK
        go_simp
        exact hK.out _ ⟨hS,Zab _ _⟩) (by kernel_rfl) (j:=9) rfl ?_
       refine Zaa [8] _ (fun L hL hcl v u hS hd K' hK=>by
        simp only[Zal,Zak,eqv,Zl3,Zl4,Nat.reduceSub]at hd
        simp only[Act.put,Zl2,Zl0,Zl1]at hK
        try simp only[hd]at hK
        go_simp
        refine (huid u hS.2.2.2).mono ?_
        rintro e9 u1 ⟨rfl,hb9⟩
        exact hK.out _ ⟨⟨hS.1.below hb9,hS.2.1.below hb9,hS.2.2.1.below hb9,bt hS.2.2.2 hb9⟩,Zad hb9 _⟩) (by kernel_rfl) (j:=10) rfl ?_
       refine Zaa [9] _ (fun L hL hcl v u hS hd K' hK=>by
        simp only[Zal,Zak,eqv,Zl3,Zl4,Nat.reduceSub]at hd
        simp only[Act.put,Zl2,Zl0,Zl1]at hK
        try simp only[hd]at hK
        go_simp
        exact hK.out _ ⟨hS,Zab _ _⟩) (by kernel_rfl) (j:=11) rfl ?_
       refine Zaa [] _ (fun L hL hcl v u hS hd K' hK=>by
        simp only[Act.put,Zl2,Zl0,Zl1]at hK
        go_simp
        exact hK.out _ ⟨hS,Zab _ _⟩) (by kernel_rfl) (j:=12) rfl ?_
       refine Zam [1,11] (fun _ _=>True) (fun _ _ _ _ _ _ _=>trivial) (fun L hL hcl v u hS hd K' hK=>by
        simp only[Zal,Zak,eqv,Zl3,Zl4,Nat.reduceSub]at hd
        simp only[Act.put,Zl2,Zl0,Zl1]at hK
        try simp only[hd]at hK
        obtain ⟨h1,h2,h4,hb⟩:=hS
        rw[hL]at h4
        have y9:u.cell? ⟨w.heap.size+2,3,none⟩=some (.string ⟨#[]⟩):=h4.cell 3
        have z9:=h4.free 3
        go_simp
        exact hK.out undef _ ⟨⟨h1.far (p:=⟨w.heap.size+2,3,none⟩) (show w.heap.size ≠ w.heap.size+2 by omega) _,h2.far (p:=⟨w.heap.size+2,3,none⟩) (show w.heap.size+1 ≠ w.heap.size+2 by omega) _,h4.set 3 (.string t),hb.setCell (p:=⟨w.heap.size+2,3,none⟩) (show w.heap.size≤w.heap.size+2 by omega) _⟩,Zbn _ _ _ _,trivial⟩) (by kernel_rfl) (j:=13) rfl ?_
       refine Zaa [] _ (fun L hL hcl v u hS hd K' hK=>by
        simp only[Act.put,Zl2,Zl0,Zl1]at hK
        go_simp
        exact hK.out _ ⟨hS,Zab _ _⟩) (by kernel_rfl) (j:=14) rfl ?_
       refine Zam [3,13] (fun _ _=>True) (fun _ _ _ _ _ _ _=>trivial) (fun L hL hcl v u hS hd K' hK=>by
        simp only[Zal,Zak,eqv,Zl3,Zl4,Nat.reduceSub]at hd
        simp only[Act.put,Zl2,Zl0,Zl1]at hK
        try simp only[hd]at hK
        obtain ⟨h1,h2,h4,hb⟩:=hS
        rw[hL]at h4
        have y9:u.cell? ⟨w.heap.size+2,2,none⟩=some (.string ⟨#[]⟩):=h4.cell 2
        have z9:=h4.free 2
        go_simp
        exact hK.out undef _ ⟨⟨h1.far (p:=⟨w.heap.size+2,2,none⟩) (show w.heap.size ≠ w.heap.size+2 by omega) _,h2.far (p:=⟨w.heap.size+2,2,none⟩) (show w.heap.size+1 ≠ w.heap.size+2 by omega) _,h4.set 2 (.string s),hb.setCell (p:=⟨w.heap.size+2,2,none⟩) (show w.heap.size≤w.heap.size+2 by omega) _⟩,Zbn _ _ _ _,trivial⟩) (by kernel_rfl) (j:=15) rfl ?_
       refine Zaa [] _ (fun L hL hcl v u hS hd K' hK=>by
        simp only[Act.put,Zl2,Zl0,Zl1]at hK
        go_simp
        exact hK.out _ ⟨hS,Zab _ _⟩) (by kernel_rfl) (j:=16) rfl ?_
       refine Zaa [10] _ (fun L hL hcl v u hS hd K' hK=>by
        simp only[Zal,Zak,eqv,Zl3,Zl4,Nat.reduceSub]at hd
        simp only[Act.put,Zl2,Zl0,Zl1]at hK
        try simp only[hd]at hK
        go_simp
        exact hK.out _ ⟨hS,Zab _ _⟩) (by kernel_rfl) (j:=17) rfl ?_
       refine Zau [15,16] (by decide) ?_
       rintro v u hS hR
       simp only[Zal,Zak,eqv,Zl3,Zl4,Nat.reduceSub]at hR
       obtain ⟨hr1,hr2⟩:=hR
       obtain ⟨h1,h2,h4,hb⟩:=hS
       go_wp2_with (first|(at_builtin;fail))
       go_meet
       case rel=>exact ⟨0,by first|rfl|exact hr1,fun _=>by rw[HK.out];rfl,by rw[HOK.out] <;> exact hr2,h1,h2,⟨none,0,by rw[HN.out,HS.out,HT.out,HL.out];exact h4⟩,hb⟩
   · subst hk
     obtain ⟨V,hV⟩:=Zaf (Zea.contains s.data.toList)
     rw[←hV.out]at hcon
     have HOK:Hid (OK=V):=Zai (by rw[HO.out];rw[hV.out];simp[okC,Zcx])
     go_upto_region 16 with (first|(at_builtin;fail))
     refine Zap (fun L _ u=>Blk u w.heap.size (Zav 5 n s t (.slice A ns.length cA) (.slice B c cB)) 26∧Blk u (w.heap.size+1) Zag 26∧Blk u (w.heap.size+2) (Zav 5 0 (cond (L 7) (s) (⟨#[]⟩)) ⟨#[]⟩ (.slice none 0 0) (.slice none 0 0)) 26∧Below w.heap.size w u) (fun _ u u'=>u.grownBy u' (some (w.heap.size+2))) _ (by kernel_rfl) (by kernel_rfl) (fun v=>by simp only[Zbx,Act.put,List.toList_toArray,Zl2,Zl0,Zl1,Nat.reduceAdd,Nat.zero_add];rfl) ⟨k14,k24,k4,Zaj b4⟩ (fun L L' v u hL h=>by rw[←hL 7 (by decide)];exact h) ?_
     refine Zaa [] _ (fun L hL hcl v u hS hd K' hK=>by
      simp only[Act.put,Zl2,Zl0,Zl1]at hK
      go_simp
      exact hK.out _ ⟨hS,Zab _ _⟩) (by kernel_rfl) (j:=1) rfl ?_
     refine Zaa [0] _ (fun L hL hcl v u hS hd K' hK=>by
      simp only[Zal,Zak,eqv,Zl3,Zl4,Nat.reduceSub]at hd
      simp only[Act.put,Zl2,Zl0,Zl1]at hK
      try simp only[hd]at hK
      have x9:u.cell? ⟨w.heap.size,2,none⟩=some (.string s):=hS.1.cell 2
      go_simp
      exact hK.out _ ⟨hS,Zab _ _⟩) (by kernel_rfl) (j:=2) rfl ?_
     refine Zam [] (fun v u=>∃ g,v=.slice (some ⟨g,0,none⟩) 4 4∧Blk u g (Zfo (Zea.map str)) 9∧w.heap.size+2 < g) ((by
      rintro j x u u' hj hg ⟨g,h1,h2,h3⟩
      exact ⟨g,h1,h2.grown hg (by omega),h3⟩)) (fun L hL hcl v u hS hd K' hK=>by
      simp only[Act.put,Zl2,Zl0,Zl1]at hK
      have hb9:=Zac u (.cells (Zfo (Zea.map str)).toArray 9)
      have k9:=Blk.new u (Zfo (Zea.map str)) 9
      go_simp
      exact hK.out (.slice (some ⟨u.heap.size,0,none⟩) 4 4) _ ⟨⟨hS.1.below hb9,hS.2.1.below hb9,hS.2.2.1.below hb9,bt hS.2.2.2 hb9⟩,Zad hb9 _,u.heap.size,rfl,k9,hS.2.2.1.lt⟩) (by kernel_rfl) (j:=3) rfl ?_
     refine Zaa [] _ (fun L hL hcl v u hS hd K' hK=>by
      simp only[Act.put,Zl2,Zl0,Zl1]at hK
      go_simp
      exact hK.out _ ⟨hS,Zab _ _⟩) (by kernel_rfl) (j:=4) rfl ?_
     refine Zaa [3] _ (fun L hL hcl v u hS hd K' hK=>by
      simp only[Zal,Zak,eqv,Zl3,Zl4,Nat.reduceSub]at hd
      simp only[Act.put,Zl2,Zl0,Zl1]at hK
      try simp only[hd]at hK
      have x9:u.cell? ⟨w.heap.size,2,none⟩=some (.string s):=hS.1.cell 2
      go_simp
      exact hK.out _ ⟨hS,Zab _ _⟩) (by kernel_rfl) (j:=5) rfl ?_
     refine Zaa [2,4] _ (fun L hL hcl v u hS hd K' hK=>by
      simp only[Zal,Zak,eqv,Zl3,Zl4,Nat.reduceSub]at hd
      simp only[Act.put,Zl2,Zl0,Zl1]at hK
      try simp only[hd]at hK
      obtain ⟨⟨g,h1,h2,h3⟩,h4⟩:=hd
      simp only[h1,h4]at hK ⊢
      go_simp
      refine (hcon u g (txs_of h2)).mono ?_
      rintro e9 u1 ⟨rfl,rfl⟩
      exact hK.out _ ⟨hS,Zab _ _⟩) (by kernel_rfl) (j:=6) rfl ?_
     refine Zaa [] _ (fun L hL hcl v u hS hd K' hK=>by
      simp only[Act.put,Zl2,Zl0,Zl1]at hK
      go_simp
      exact hK.out _ ⟨hS,Zab _ _⟩) (by kernel_rfl) (j:=7) rfl ?_
     refine Zam [1,6] (fun _ _=>True) (fun _ _ _ _ _ _ _=>trivial) (fun L hL hcl v u hS hd K' hK=>by
      simp only[Zal,Zak,eqv,Zl3,Zl4,Nat.reduceSub]at hd
      simp only[Act.put,Zl2,Zl0,Zl1]at hK
      try simp only[hd]at hK
      obtain ⟨h1,h2,h4,hb⟩:=hS
      rw[hL]at h4
      have y9:u.cell? ⟨w.heap.size+2,2,none⟩=some (.string ⟨#[]⟩):=h4.cell 2
      have z9:=h4.free 2
      go_simp
      exact hK.out undef _ ⟨⟨h1.far (p:=⟨w.heap.size+2,2,none⟩) (show w.heap.size ≠ w.heap.size+2 by omega) _,h2.far (p:=⟨w.heap.size+2,2,none⟩) (show w.heap.size+1 ≠ w.heap.size+2 by omega) _,h4.set 2 (.string s),hb.setCell (p:=⟨w.heap.size+2,2,none⟩) (show w.heap.size≤w.heap.size+2 by omega) _⟩,Zbn _ _ _ _,trivial⟩) (by kernel_rfl) (j:=8) rfl ?_
     refine Zaa [] _ (fun L hL hcl v u hS hd K' hK=>by
      simp only[Act.put,Zl2,Zl0,Zl1]at hK
      go_simp
      exact hK.out _ ⟨hS,Zab _ _⟩) (by kernel_rfl) (j:=9) rfl ?_
     refine Zaa [5] _ (fun L hL hcl v u hS hd K' hK=>by
      simp only[Zal,Zak,eqv,Zl3,Zl4,Nat.reduceSub]at hd
      simp only[Act.put,Zl2,Zl0,Zl1]at hK
      try simp only[hd]at hK
      go_simp
      exact hK.out _ ⟨hS,Zab _ _⟩) (by kernel_rfl) (j:=10) rfl ?_
     refine Zau [8,9] (by decide) ?_
     rintro v u hS hR
     simp only[Zal,Zak,eqv,Zl3,Zl4,Nat.reduceSub]at hR
     obtain ⟨hr1,hr2⟩:=hR
     obtain ⟨h1,h2,h4,hb⟩:=hS
     go_wp2_with (first|(at_builtin;fail))
     go_meet
     case rel=>exact ⟨0,by first|rfl|exact hr1,fun _=>by rw[HK.out];rfl,by rw[HOK.out] <;> exact hr2,h1,h2,⟨none,0,by rw[HN.out,HS.out,HT.out,HL.out];exact h4⟩,hb⟩
   · subst hk
     by_cases hc6:c≤16
     · have hi1:(c:Int)≤16:=by omega
       have HOK:Hid (OK=true):=Zai (by rw[HO.out];simp[okC,hc6])
       go_upto_region 18 with (first|(at_builtin;fail))
       refine Zap (fun L _ u=>Blk u w.heap.size (Zav 6 n s t (.slice A ns.length cA) (.slice B c cB)) 26∧Blk u (w.heap.size+1) Zag 26∧Blk u (w.heap.size+2) (Zav 6 0 ⟨#[]⟩ ⟨#[]⟩ (.slice none 0 0) (.slice none 0 0)) 26∧Below w.heap.size w u) (fun _ u u'=>u.grownBy u' (some (w.heap.size+2))) _ (by kernel_rfl) (by kernel_rfl) (fun v=>by simp only[Zbx,Act.put,List.toList_toArray,Zl2,Zl0,Zl1,Nat.reduceAdd,Nat.zero_add];rfl) ⟨k14,k24,k4,Zaj b4⟩ (fun _ _ _ _ _ h=>h) ?_
       refine Zaa [] _ (fun L hL hcl v u hS hd K' hK=>by
        simp only[Act.put,Zl2,Zl0,Zl1]at hK
        go_simp
        exact hK.out _ ⟨hS,Zab _ _⟩) (by kernel_rfl) (j:=1) rfl ?_
       refine Zaa [0] _ (fun L hL hcl v u hS hd K' hK=>by
        simp only[Zal,Zak,eqv,Zl3,Zl4,Nat.reduceSub]at hd
        simp only[Act.put,Zl2,Zl0,Zl1]at hK
        try simp only[hd]at hK
        have x9:u.cell? ⟨w.heap.size,5,none⟩=some (.slice B c cB):=hS.1.cell 5
        go_simp
        exact hK.out _ ⟨hS,Zab _ _⟩) (by kernel_rfl) (j:=2) rfl ?_
       refine Zaa [1] _ (fun L hL hcl v u hS hd K' hK=>by
        simp only[Zal,Zak,eqv,Zl3,Zl4,Nat.reduceSub]at hd
        simp only[Act.put,Zl2,Zl0,Zl1]at hK
        try simp only[hd]at hK
        go_simp
        exact hK.out _ ⟨hS,Zab _ _⟩) (by kernel_rfl) (j:=3) rfl ?_
       refine Zaa [] _ (fun L hL hcl v u hS hd K' hK=>by
        simp only[Act.put,Zl2,Zl0,Zl1]at hK
        go_simp
        exact hK.out _ ⟨hS,Zab _ _⟩) (by kernel_rfl) (j:=4) rfl ?_
       refine Zaa [3] _ (fun L hL hcl v u hS hd K' hK=>by
        simp only[Zal,Zak,eqv,Zl3,Zl4,Nat.reduceSub]at hd
        simp only[Act.put,Zl2,Zl0,Zl1]at hK
        try simp only[hd]at hK
        have x9:u.cell? ⟨w.heap.size,5,none⟩=some (.slice B c cB):=hS.1.cell 5
        go_simp
        exact hK.out _ ⟨hS,Zab _ _⟩) (by kernel_rfl) (j:=5) rfl ?_
       refine Zaa [4] _ (fun L hL hcl v u hS hd K' hK=>by
        simp only[Zal,Zak,eqv,Zl3,Zl4,Nat.reduceSub]at hd
        simp only[Act.put,Zl2,Zl0,Zl1]at hK
        try simp only[hd]at hK
        go_simp
        exact hK.out _ ⟨hS,Zab _ _⟩) (by kernel_rfl) (j:=6) rfl ?_
       refine Zaa [5] _ (fun L hL hcl v u hS hd K' hK=>by
        simp only[Zal,Zak,eqv,Zl3,Zl4,Nat.reduceSub]at hd
        simp only[Act.put,Zl2,Zl0,Zl1]at hK
        try simp only[hd]at hK
        go_simp
        exact hK.out _ ⟨hS,Zab _ _⟩) (by kernel_rfl) (j:=7) rfl ?_
       refine Zaa [2] _ (fun L hL hcl v u hS hd K' hK=>by
        simp only[Zal,Zak,eqv,Zl3,Zl4,Nat.reduceSub]at hd
        simp only[Act.put,Zl2,Zl0,Zl1]at hK
        try simp only[hd]at hK
        go_simp
        exact hK.out _ ⟨hS,Zab _ _⟩) (by kernel_rfl) (j:=8) rfl ?_
       refine Zaa [6] _ (fun L hL hcl v u hS hd K' hK=>by
        simp only[Zal,Zak,eqv,Zl3,Zl4,Nat.reduceSub]at hd
        simp only[Act.put,Zl2,Zl0,Zl1]at hK
        try simp only[hd]at hK
        go_simp
        exact hK.out _ ⟨hS,Zab _ _⟩) (by kernel_rfl) (j:=9) rfl ?_
       refine Zau [7,8] (by decide) ?_
       rintro v u hS hR
       simp only[Zal,Zak,eqv,Zl3,Zl4,Nat.reduceSub]at hR
       obtain ⟨hr1,hr2⟩:=hR
       obtain ⟨h1,h2,h4,hb⟩:=hS
       go_wp2_with (first|(at_builtin;fail))
       go_meet
       case rel=>exact ⟨c,by first|rfl|exact hr1,fun _=>by rw[HK.out];rfl,by rw[HOK.out] <;> exact hr2,h1,h2,⟨none,0,by rw[HN.out,HS.out,HT.out,HL.out];exact h4⟩,hb⟩
     · have hi1:¬ (c:Int)≤16:=by omega
       have HOK:Hid (OK=false):=Zai (by rw[HO.out];simp[okC,hc6])
       go_upto_region 18 with (first|(at_builtin;fail))
       refine Zap (fun L _ u=>Blk u w.heap.size (Zav 6 n s t (.slice A ns.length cA) (.slice B c cB)) 26∧Blk u (w.heap.size+1) Zag 26∧Blk u (w.heap.size+2) (Zav 6 0 ⟨#[]⟩ ⟨#[]⟩ (.slice none 0 0) (.slice none 0 0)) 26∧Below w.heap.size w u) (fun _ u u'=>u.grownBy u' (some (w.heap.size+2))) _ (by kernel_rfl) (by kernel_rfl) (fun v=>by simp only[Zbx,Act.put,List.toList_toArray,Zl2,Zl0,Zl1,Nat.reduceAdd,Nat.zero_add];rfl) ⟨k14,k24,k4,Zaj b4⟩ (fun _ _ _ _ _ h=>h) ?_
       refine Zaa [] _ (fun L hL hcl v u hS hd K' hK=>by
        simp only[Act.put,Zl2,Zl0,Zl1]at hK
        go_simp
        exact hK.out _ ⟨hS,Zab _ _⟩) (by kernel_rfl) (j:=1) rfl ?_
       refine Zaa [0] _ (fun L hL hcl v u hS hd K' hK=>by
        simp only[Zal,Zak,eqv,Zl3,Zl4,Nat.reduceSub]at hd
        simp only[Act.put,Zl2,Zl0,Zl1]at hK
        try simp only[hd]at hK
        have x9:u.cell? ⟨w.heap.size,5,none⟩=some (.slice B c cB):=hS.1.cell 5
        go_simp
        exact hK.out _ ⟨hS,Zab _ _⟩) (by kernel_rfl) (j:=2) rfl ?_
       refine Zaa [1] _ (fun L hL hcl v u hS hd K' hK=>by
        simp only[Zal,Zak,eqv,Zl3,Zl4,Nat.reduceSub]at hd
        simp only[Act.put,Zl2,Zl0,Zl1]at hK
        try simp only[hd]at hK
        go_simp
        exact hK.out _ ⟨hS,Zab _ _⟩) (by kernel_rfl) (j:=3) rfl ?_
       refine Zaa [] _ (fun L hL hcl v u hS hd K' hK=>by
        simp only[Act.put,Zl2,Zl0,Zl1]at hK
        go_simp
        exact hK.out _ ⟨hS,Zab _ _⟩) (by kernel_rfl) (j:=4) rfl ?_
       refine Zaa [3] _ (fun L hL hcl v u hS hd K' hK=>by
        simp only[Zal,Zak,eqv,Zl3,Zl4,Nat.reduceSub]at hd
        simp only[Act.put,Zl2,Zl0,Zl1]at hK
        try simp only[hd]at hK
        have x9:u.cell? ⟨w.heap.size,5,none⟩=some (.slice B c cB):=hS.1.cell 5
        go_simp
        exact hK.out _ ⟨hS,Zab _ _⟩) (by kernel_rfl) (j:=5) rfl ?_
       refine Zaa [4] _ (fun L hL hcl v u hS hd K' hK=>by
        simp only[Zal,Zak,eqv,Zl3,Zl4,Nat.reduceSub]at hd
        simp only[Act.put,Zl2,Zl0,Zl1]at hK
        try simp only[hd]at hK
        go_simp
        exact hK.out _ ⟨hS,Zab _ _⟩) (by kernel_rfl) (j:=6) rfl ?_
       refine Zaa [5] _ (fun L hL hcl v u hS hd K' hK=>by
        simp only[Zal,Zak,eqv,Zl3,Zl4,Nat.reduceSub]at hd
        simp only[Act.put,Zl2,Zl0,Zl1]at hK
        try simp only[hd]at hK
        go_simp
        exact hK.out _ ⟨hS,Zab _ _⟩) (by kernel_rfl) (j:=7) rfl ?_
       refine Zaa [2] _ (fun L hL hcl v u hS hd K' hK=>by
        simp only[Zal,Zak,eqv,Zl3,Zl4,Nat.reduceSub]at hd
        simp only[Act.put,Zl2,Zl0,Zl1]at hK
        try simp only[hd]at hK
        go_simp
        exact hK.out _ ⟨hS,Zab _ _⟩) (by kernel_rfl) (j:=8) rfl ?_
       refine Zaa [6] _ (fun L hL hcl v u hS hd K' hK=>by
        simp only[Zal,Zak,eqv,Zl3,Zl4,Nat.reduceSub]at hd
        simp only[Act.put,Zl2,Zl0,Zl1]at hK
        try simp only[hd]at hK
        go_simp
        exact hK.out _ ⟨hS,Zab _ _⟩) (by kernel_rfl) (j:=9) rfl ?_
       refine Zau [7,8] (by decide) ?_
       rintro v u hS hR
       simp only[Zal,Zak,eqv,Zl3,Zl4,Nat.reduceSub]at hR
       obtain ⟨hr1,hr2⟩:=hR
       obtain ⟨h1,h2,h4,hb⟩:=hS
       go_wp2_with (first|(at_builtin;fail))
       go_meet
       case rel=>exact ⟨c,by first|rfl|exact hr1,fun _=>by rw[HK.out];rfl,by rw[HOK.out] <;> exact hr2,h1,h2,⟨none,0,by rw[HN.out,HS.out,HT.out,HL.out];exact h4⟩,hb⟩
   · subst hk
     by_cases hc6:c≤16
     · have hi1:(c:Int)≤16:=by omega
       by_cases hnc:ns.length=c
       · have hi2:((ns.length:Int) == (c:Int))=true:=by rw[beq_iff_eq];omega
         obtain ⟨V,hV⟩:=Zaf (Zna ns)
         rw[←hV.out]at hlbs
         have HOK:Hid (OK=V):=Zai (by rw[HO.out];rw[hV.out];simp[okC,Zcx,hc6,hnc])
         clear hnc
         go_upto_region 20 with (first|(at_builtin;fail))
         refine Zap (fun L _ u=>Blk u w.heap.size (Zav 7 n s t (.slice A ns.length cA) (.slice B c cB)) 26∧Blk u (w.heap.size+1) Zag 26∧Blk u (w.heap.size+2) (Zav 7 0 ⟨#[]⟩ ⟨#[]⟩ ((cond (L 24) (.slice A ns.length cA) (.slice none 0 0))) (.slice none 0 0)) 26∧Below w.heap.size w u) (fun _ u u'=>u.grownBy u' (some (w.heap.size+2))) _ (by kernel_rfl) (by kernel_rfl) (fun v=>by simp only[Zbx,Act.put,List.toList_toArray,Zl2,Zl0,Zl1,Nat.reduceAdd,Nat.zero_add];rfl) ⟨k14,k24,k4,Zaj b4⟩ (fun L L' v u hL h=>by rw[←hL 24 (by decide)];exact h) ?_
         refine Zaa [] _ (fun L hL hcl v u hS hd K' hK=>by
          simp only[Act.put,Zl2,Zl0,Zl1]at hK
          go_simp
          exact hK.out _ ⟨hS,Zab _ _⟩) (by kernel_rfl) (j:=1) rfl ?_
         refine Zaa [0] _ (fun L hL hcl v u hS hd K' hK=>by
          simp only[Zal,Zak,eqv,Zl3,Zl4,Nat.reduceSub]at hd
          simp only[Act.put,Zl2,Zl0,Zl1]at hK
          try simp only[hd]at hK
          have x9:u.cell? ⟨w.heap.size,4,none⟩=some (.slice A ns.length cA):=hS.1.cell 4
          go_simp
          exact hK.out _ ⟨hS,Zab _ _⟩) (by kernel_rfl) (j:=2) rfl ?_
         refine Zaa [] _ (fun L hL hcl v u hS hd K' hK=>by
          simp only[Act.put,Zl2,Zl0,Zl1]at hK
          go_simp
          exact hK.out _ ⟨hS,Zab _ _⟩) (by kernel_rfl) (j:=3) rfl ?_
         refine Zaa [2] _ (fun L hL hcl v u hS hd K' hK=>by
          simp only[Zal,Zak,eqv,Zl3,Zl4,Nat.reduceSub]at hd
          simp only[Act.put,Zl2,Zl0,Zl1]at hK
          try simp only[hd]at hK
          have x9:u.cell? ⟨w.heap.size,5,none⟩=some (.slice B c cB):=hS.1.cell 5
          go_simp
          exact hK.out _ ⟨hS,Zab _ _⟩) (by kernel_rfl) (j:=4) rfl ?_
         refine Zaa [3] _ (fun L hL hcl v u hS hd K' hK=>by
          simp only[Zal,Zak,eqv,Zl3,Zl4,Nat.reduceSub]at hd
          simp only[Act.put,Zl2,Zl0,Zl1]at hK
          try simp only[hd]at hK
          go_simp
          exact hK.out _ ⟨hS,Zab _ _⟩) (by kernel_rfl) (j:=5) rfl ?_
         refine Zaa [] _ (fun L hL hcl v u hS hd K' hK=>by
          simp only[Act.put,Zl2,Zl0,Zl1]at hK
          go_simp
          exact hK.out _ ⟨hS,Zab _ _⟩) (by kernel_rfl) (j:=6) rfl ?_
         refine Zaa [5] _ (fun L hL hcl v u hS hd K' hK=>by
          simp only[Zal,Zak,eqv,Zl3,Zl4,Nat.reduceSub]at hd
          simp only[Act.put,Zl2,Zl0,Zl1]at hK
          try simp only[hd]at hK
          have x9:u.cell? ⟨w.heap.size,5,none⟩=some (.slice B c cB):=hS.1.cell 5
          go_simp
          exact hK.out _ ⟨hS,Zab _ _⟩) (by kernel_rfl) (j:=7) rfl ?_
         refine Zaa [6] _ (fun L hL hcl v u hS hd K' hK=>by
          simp only[Zal,Zak,eqv,Zl3,Zl4,Nat.reduceSub]at hd
          simp only[Act.put,Zl2,Zl0,Zl1]at hK
          try simp only[hd]at hK
          go_simp
          exact hK.out _ ⟨hS,Zab _ _⟩) (by kernel_rfl) (j:=8) rfl ?_
         refine Zaa [7] _ (fun L hL hcl v u hS hd K' hK=>by
          simp only[Zal,Zak,eqv,Zl3,Zl4,Nat.reduceSub]at hd
          simp only[Act.put,Zl2,Zl0,Zl1]at hK
          try simp only[hd]at hK
          go_simp
          exact hK.out _ ⟨hS,Zab _ _⟩) (by kernel_rfl) (j:=9) rfl ?_
         refine Zaa [8] _ (fun L hL hcl v u hS hd K' hK=>by
          simp only[Zal,Zak,eqv,Zl3,Zl4,Nat.reduceSub]at hd
          simp only[Act.put,Zl2,Zl0,Zl1]at hK
          try simp only[hd]at hK
          go_simp
          exact hK.out _ ⟨hS,Zab _ _⟩) (by kernel_rfl) (j:=10) rfl ?_
         refine Zaa [9] _ (fun L hL hcl v u hS hd K' hK=>by
          simp only[Zal,Zak,eqv,Zl3,Zl4,Nat.reduceSub]at hd
          simp only[Act.put,Zl2,Zl0,Zl1]at hK
          try simp only[hd]at hK
          go_simp
          exact hK.out _ ⟨hS,Zab _ _⟩) (by kernel_rfl) (j:=11) rfl ?_
         refine Zaa [9,10] _ (fun L hL hcl v u hS hd K' hK=>by
          simp only[Zal,Zak,eqv,Zl3,Zl4,Nat.reduceSub]at hd
          simp only[Act.put,Zl2,Zl0,Zl1]at hK
          try simp only[hd]at hK
          have x9:u.cell? ⟨w.heap.size,4,none⟩=some (.slice A ns.length cA):=hS.1.cell 4
          go_simp
          exact hK.out _ ⟨hS,Zab _ _⟩) (by kernel_rfl) (j:=12) rfl ?_
         refine Zaa [9,11] _ (fun L hL hcl v u hS hd K' hK=>by
          simp only[Zal,Zak,eqv,Zl3,Zl4,Nat.reduceSub]at hd
          simp only[Act.put,Zl2,Zl0,Zl1]at hK
          try simp only[hd]at hK
          go_simp
          exact hK.out _ ⟨hS,Zab _ _⟩) (by kernel_rfl) (j:=13) rfl ?_
         refine Zaa [9] _ (fun L hL hcl v u hS hd K' hK=>by
          simp only[Zal,Zak,eqv,Zl3,Zl4,Nat.reduceSub]at hd
          simp only[Act.put,Zl2,Zl0,Zl1]at hK
          try simp only[hd]at hK
          go_simp
          exact hK.out _ ⟨hS,Zab _ _⟩) (by kernel_rfl) (j:=14) rfl ?_
         refine Zaa [9,13] _ (fun L hL hcl v u hS hd K' hK=>by
          simp only[Zal,Zak,eqv,Zl3,Zl4,Nat.reduceSub]at hd
          simp only[Act.put,Zl2,Zl0,Zl1]at hK
          try simp only[hd]at hK
          have x9:u.cell? ⟨w.heap.size,5,none⟩=some (.slice B c cB):=hS.1.cell 5
          go_simp
          exact hK.out _ ⟨hS,Zab _ _⟩) (by kernel_rfl) (j:=15) rfl ?_
         refine Zaa [9,14] _ (fun L hL hcl v u hS hd K' hK=>by
          simp only[Zal,Zak,eqv,Zl3,Zl4,Nat.reduceSub]at hd
          simp only[Act.put,Zl2,Zl0,Zl1]at hK
          try simp only[hd]at hK
          go_simp
          exact hK.out _ ⟨hS,Zab _ _⟩) (by kernel_rfl) (j:=16) rfl ?_
         refine Zaa [9,12,15] _ (fun L hL hcl v u hS hd K' hK=>by
          simp only[Zal,Zak,eqv,Zl3,Zl4,Nat.reduceSub]at hd
          simp only[Act.put,Zl2,Zl0,Zl1]at hK
          try simp only[hd]at hK
          go_simp
          exact hK.out _ ⟨hS,Zab _ _⟩) (by kernel_rfl) (j:=17) rfl ?_
         refine Zaa [9,16] _ (fun L hL hcl v u hS hd K' hK=>by
          simp only[Zal,Zak,eqv,Zl3,Zl4,Nat.reduceSub]at hd
          simp only[Act.put,Zl2,Zl0,Zl1]at hK
          try simp only[hd]at hK
          go_simp
          exact hK.out _ ⟨hS,Zab _ _⟩) (by kernel_rfl) (j:=18) rfl ?_
         refine Zaa [17] _ (fun L hL hcl v u hS hd K' hK=>by
          simp only[Zal,Zak,eqv,Zl3,Zl4,Nat.reduceSub]at hd
          simp only[Act.put,Zl2,Zl0,Zl1]at hK
          try simp only[hd]at hK
          go_simp
          exact hK.out _ ⟨hS,Zab _ _⟩) (by kernel_rfl) (j:=19) rfl ?_
         refine Zaa [18] _ (fun L hL hcl v u hS hd K' hK=>by
          simp only[Zal,Zak,eqv,Zl3,Zl4,Nat.reduceSub]at hd
          simp only[Act.put,Zl2,Zl0,Zl1]at hK
          try simp only[hd]at hK
          go_simp
          exact hK.out _ ⟨hS,Zab _ _⟩) (by kernel_rfl) (j:=20) rfl ?_
         refine Zaa [18,19] _ (fun L hL hcl v u hS hd K' hK=>by
          simp only[Zal,Zak,eqv,Zl3,Zl4,Nat.reduceSub]at hd
          simp only[Act.put,Zl2,Zl0,Zl1]at hK
          try simp only[hd]at hK
          have x9:u.cell? ⟨w.heap.size,4,none⟩=some (.slice A ns.length cA):=hS.1.cell 4
          go_simp
          exact hK.out _ ⟨hS,Zab _ _⟩) (by kernel_rfl) (j:=21) rfl ?_
         refine Zaa [18,20] _ (fun L hL hcl v u hS hd K' hK=>by
          simp only[Zal,Zak,eqv,Zl3,Zl4,Nat.reduceSub]at hd
          simp only[Act.put,Zl2,Zl0,Zl1]at hK
          try simp only[hd]at hK
          go_simp
          refine (hlbs u hS.2.2.2).mono ?_
          rintro e9 u1 ⟨rfl,hb9⟩
          exact hK.out _ ⟨⟨hS.1.below hb9,hS.2.1.below hb9,hS.2.2.1.below hb9,bt hS.2.2.2 hb9⟩,Zad hb9 _⟩) (by kernel_rfl) (j:=22) rfl ?_
         refine Zaa [18,21] _ (fun L hL hcl v u hS hd K' hK=>by
          simp only[Zal,Zak,eqv,Zl3,Zl4,Nat.reduceSub]at hd
          simp only[Act.put,Zl2,Zl0,Zl1]at hK
          try simp only[hd]at hK
          go_simp
          exact hK.out _ ⟨hS,Zab _ _⟩) (by kernel_rfl) (j:=23) rfl ?_
         refine Zaa [] _ (fun L hL hcl v u hS hd K' hK=>by
          simp only[Act.put,Zl2,Zl0,Zl1]at hK
          go_simp
          exact hK.out _ ⟨hS,Zab _ _⟩) (by kernel_rfl) (j:=24) rfl ?_
         refine Zam [1,23] (fun _ _=>True) (fun _ _ _ _ _ _ _=>trivial) (fun L hL hcl v u hS hd K' hK=>by
          simp only[Zal,Zak,eqv,Zl3,Zl4,Nat.reduceSub]at hd
          simp only[Act.put,Zl2,Zl0,Zl1]at hK
          try simp only[hd]at hK
          obtain ⟨h1,h2,h4,hb⟩:=hS
          rw[hL]at h4
          have y9:u.cell? ⟨w.heap.size+2,4,none⟩=some (.slice none 0 0):=h4.cell 4
          have z9:=h4.free 4
          go_simp
          exact hK.out undef _ ⟨⟨h1.far (p:=⟨w.heap.size+2,4,none⟩) (show w.heap.size ≠ w.heap.size+2 by omega) _,h2.far (p:=⟨w.heap.size+2,4,none⟩) (show w.heap.size+1 ≠ w.heap.size+2 by omega) _,h4.set 4 (.slice A ns.length cA),hb.setCell (p:=⟨w.heap.size+2,4,none⟩) (show w.heap.size≤w.heap.size+2 by omega) _⟩,Zbn _ _ _ _,trivial⟩) (by kernel_rfl) (j:=25) rfl ?_
         refine Zaa [4] _ (fun L hL hcl v u hS hd K' hK=>by
          simp only[Zal,Zak,eqv,Zl3,Zl4,Nat.reduceSub]at hd
          simp only[Act.put,Zl2,Zl0,Zl1]at hK
          try simp only[hd]at hK
          go_simp
          exact hK.out _ ⟨hS,Zab _ _⟩) (by kernel_rfl) (j:=26) rfl ?_
         refine Zaa [22] _ (fun L hL hcl v u hS hd K' hK=>by
          simp only[Zal,Zak,eqv,Zl3,Zl4,Nat.reduceSub]at hd
          simp only[Act.put,Zl2,Zl0,Zl1]at hK
          try simp only[hd]at hK
          go_simp
          exact hK.out _ ⟨hS,Zab _ _⟩) (by kernel_rfl) (j:=27) rfl ?_
         refine Zau [25,26] (by decide) ?_
         rintro v u hS hR
         simp only[Zal,Zak,eqv,Zl3,Zl4,Nat.reduceSub]at hR
         obtain ⟨hr1,hr2⟩:=hR
         obtain ⟨h1,h2,h4,hb⟩:=hS
         go_wp2_with (first|(at_builtin;fail))
         go_meet
         case rel=>exact ⟨c,by first|rfl|exact hr1,fun _=>by rw[HK.out];rfl,by rw[HOK.out] <;> exact hr2,h1,h2,⟨A,cA,by rw[HN.out,HS.out,HT.out,HL.out];exact h4⟩,hb⟩
       · have hi2:((ns.length:Int) == (c:Int))=false:=by rw[beq_eq_false_iff_ne];omega
         have HOK:Hid (OK=false):=Zai (by rw[HO.out];simp[okC,Zcx,hnc])
         clear hnc hlbs
         go_upto_region 20 with (first|(at_builtin;fail))
         refine Zap (fun L _ u=>Blk u w.heap.size (Zav 7 n s t (.slice A ns.length cA) (.slice B c cB)) 26∧Blk u (w.heap.size+1) Zag 26∧Blk u (w.heap.size+2) (Zav 7 0 ⟨#[]⟩ ⟨#[]⟩ ((cond (L 24) (.slice A ns.length cA) (.slice none 0 0))) (.slice none 0 0)) 26∧Below w.heap.size w u) (fun _ u u'=>u.grownBy u' (some (w.heap.size+2))) _ (by kernel_rfl) (by kernel_rfl) (fun v=>by simp only[Zbx,Act.put,List.toList_toArray,Zl2,Zl0,Zl1,Nat.reduceAdd,Nat.zero_add];rfl) ⟨k14,k24,k4,Zaj b4⟩ (fun L L' v u hL h=>by rw[←hL 24 (by decide)];exact h) ?_
         refine Zaa [] _ (fun L hL hcl v u hS hd K' hK=>by
          simp only[Act.put,Zl2,Zl0,Zl1]at hK
          go_simp
          exact hK.out _ ⟨hS,Zab _ _⟩) (by kernel_rfl) (j:=1) rfl ?_
         refine Zaa [0] _ (fun L hL hcl v u hS hd K' hK=>by
          simp only[Zal,Zak,eqv,Zl3,Zl4,Nat.reduceSub]at hd
          simp only[Act.put,Zl2,Zl0,Zl1]at hK
          try simp only[hd]at hK
          have x9:u.cell? ⟨w.heap.size,4,none⟩=some (.slice A ns.length cA):=hS.1.cell 4
          go_simp
          exact hK.out _ ⟨hS,Zab _ _⟩) (by kernel_rfl) (j:=2) rfl ?_
         refine Zaa [] _ (fun L hL hcl v u hS hd K' hK=>by
          simp only[Act.put,Zl2,Zl0,Zl1]at hK
          go_simp
          exact hK.out _ ⟨hS,Zab _ _⟩) (by kernel_rfl) (j:=3) rfl ?_
         refine Zaa [2] _ (fun L hL hcl v u hS hd K' hK=>by
          simp only[Zal,Zak,eqv,Zl3,Zl4,Nat.reduceSub]at hd
          simp only[Act.put,Zl2,Zl0,Zl1]at hK
          try simp only[hd]at hK
          have x9:u.cell? ⟨w.heap.size,5,none⟩=some (.slice B c cB):=hS.1.cell 5
          go_simp
          exact hK.out _ ⟨hS,Zab _ _⟩) (by kernel_rfl) (j:=4) rfl ?_
         refine Zaa [3] _ (fun L hL hcl v u hS hd K' hK=>by
          simp only[Zal,Zak,eqv,Zl3,Zl4,Nat.reduceSub]at hd
          simp only[Act.put,Zl2,Zl0,Zl1]at hK
          try simp only[hd]at hK
          go_simp
          exact hK.out _ ⟨hS,Zab _ _⟩) (by kernel_rfl) (j:=5) rfl ?_
         refine Zaa [] _ (fun L hL hcl v u hS hd K' hK=>by
          simp only[Act.put,Zl2,Zl0,Zl1]at hK
          go_simp
          exact hK.out _ ⟨hS,Zab _ _⟩) (by kernel_rfl) (j:=6) rfl ?_
         refine Zaa [5] _ (fun L hL hcl v u hS hd K' hK=>by
          simp only[Zal,Zak,eqv,Zl3,Zl4,Nat.reduceSub]at hd
          simp only[Act.put,Zl2,Zl0,Zl1]at hK
          try simp only[hd]at hK
          have x9:u.cell? ⟨w.heap.size,5,none⟩=some (.slice B c cB):=hS.1.cell 5
          go_simp
          exact hK.out _ ⟨hS,Zab _ _⟩) (by kernel_rfl) (j:=7) rfl ?_
         refine Zaa [6] _ (fun L hL hcl v u hS hd K' hK=>by
          simp only[Zal,Zak,eqv,Zl3,Zl4,Nat.reduceSub]at hd
          simp only[Act.put,Zl2,Zl0,Zl1]at hK
          try simp only[hd]at hK
          go_simp
          exact hK.out _ ⟨hS,Zab _ _⟩) (by kernel_rfl) (j:=8) rfl ?_
         refine Zaa [7] _ (fun L hL hcl v u hS hd K' hK=>by
          simp only[Zal,Zak,eqv,Zl3,Zl4,Nat.reduceSub]at hd
          simp only[Act.put,Zl2,Zl0,Zl1]at hK
          try simp only[hd]at hK
          go_simp
          exact hK.out _ ⟨hS,Zab _ _⟩) (by kernel_rfl) (j:=9) rfl ?_
         refine Zaa [8] _ (fun L hL hcl v u hS hd K' hK=>by
          simp only[Zal,Zak,eqv,Zl3,Zl4,Nat.reduceSub]at hd
          simp only[Act.put,Zl2,Zl0,Zl1]at hK
          try simp only[hd]at hK
          go_simp
          exact hK.out _ ⟨hS,Zab _ _⟩) (by kernel_rfl) (j:=10) rfl ?_
         refine Zaa [9] _ (fun L hL hcl v u hS hd K' hK=>by
          simp only[Zal,Zak,eqv,Zl3,Zl4,Nat.reduceSub]at hd
          simp only[Act.put,Zl2,Zl0,Zl1]at hK
          try simp only[hd]at hK
          go_simp
          exact hK.out _ ⟨hS,Zab _ _⟩) (by kernel_rfl) (j:=11) rfl ?_
         refine Zaa [9,10] _ (fun L hL hcl v u hS hd K' hK=>by
          simp only[Zal,Zak,eqv,Zl3,Zl4,Nat.reduceSub]at hd
          simp only[Act.put,Zl2,Zl0,Zl1]at hK
          try simp only[hd]at hK
          have x9:u.cell? ⟨w.heap.size,4,none⟩=some (.slice A ns.length cA):=hS.1.cell 4
          go_simp
          exact hK.out _ ⟨hS,Zab _ _⟩) (by kernel_rfl) (j:=12) rfl ?_
         refine Zaa [9,11] _ (fun L hL hcl v u hS hd K' hK=>by
          simp only[Zal,Zak,eqv,Zl3,Zl4,Nat.reduceSub]at hd
          simp only[Act.put,Zl2,Zl0,Zl1]at hK
          try simp only[hd]at hK
          go_simp
          exact hK.out _ ⟨hS,Zab _ _⟩) (by kernel_rfl) (j:=13) rfl ?_
         refine Zaa [9] _ (fun L hL hcl v u hS hd K' hK=>by
          simp only[Zal,Zak,eqv,Zl3,Zl4,Nat.reduceSub]at hd
          simp only[Act.put,Zl2,Zl0,Zl1]at hK
          try simp only[hd]at hK
          go_simp
          exact hK.out _ ⟨hS,Zab _ _⟩) (by kernel_rfl) (j:=14) rfl ?_
         refine Zaa [9,13] _ (fun L hL hcl v u hS hd K' hK=>by
          simp only[Zal,Zak,eqv,Zl3,Zl4,Nat.reduceSub]at hd
          simp only[Act.put,Zl2,Zl0,Zl1]at hK
          try simp only[hd]at hK
          have x9:u.cell? ⟨w.heap.size,5,none⟩=some (.slice B c cB):=hS.1.cell 5
          go_simp
          exact hK.out _ ⟨hS,Zab _ _⟩) (by kernel_rfl) (j:=15) rfl ?_
         refine Zaa [9,14] _ (fun L hL hcl v u hS hd K' hK=>by
          simp only[Zal,Zak,eqv,Zl3,Zl4,Nat.reduceSub]at hd
          simp only[Act.put,Zl2,Zl0,Zl1]at hK
          try simp only[hd]at hK
          go_simp
          exact hK.out _ ⟨hS,Zab _ _⟩) (by kernel_rfl) (j:=16) rfl ?_
         refine Zaa [9,12,15] _ (fun L hL hcl v u hS hd K' hK=>by
          simp only[Zal,Zak,eqv,Zl3,Zl4,Nat.reduceSub]at hd
          simp only[Act.put,Zl2,Zl0,Zl1]at hK
          try simp only[hd]at hK
          go_simp
          exact hK.out _ ⟨hS,Zab _ _⟩) (by kernel_rfl) (j:=17) rfl ?_
         refine Zaa [9,16] _ (fun L hL hcl v u hS hd K' hK=>by
          simp only[Zal,Zak,eqv,Zl3,Zl4,Nat.reduceSub]at hd
          simp only[Act.put,Zl2,Zl0,Zl1]at hK
          try simp only[hd]at hK
          go_simp
          exact hK.out _ ⟨hS,Zab _ _⟩) (by kernel_rfl) (j:=18) rfl ?_
         refine Zaa [17] _ (fun L hL hcl v u hS hd K' hK=>by
          simp only[Zal,Zak,eqv,Zl3,Zl4,Nat.reduceSub]at hd
          simp only[Act.put,Zl2,Zl0,Zl1]at hK
          try simp only[hd]at hK
          go_simp
          exact hK.out _ ⟨hS,Zab _ _⟩) (by kernel_rfl) (j:=19) rfl ?_
         refine Zaa [18] _ (fun L hL hcl v u hS hd K' hK=>by
          simp only[Zal,Zak,eqv,Zl3,Zl4,Nat.reduceSub]at hd
          simp only[Act.put,Zl2,Zl0,Zl1]at hK
          try simp only[hd]at hK
          go_simp
          exact hK.out _ ⟨hS,Zab _ _⟩) (by kernel_rfl) (j:=20) rfl ?_
         refine Zaa [18,19] _ (fun L hL hcl v u hS hd K' hK=>by
          simp only[Zal,Zak,eqv,Zl3,Zl4,Nat.reduceSub]at hd
          simp only[Act.put,Zl2,Zl0,Zl1]at hK
          try simp only[hd]at hK
          have x9:u.cell? ⟨w.heap.size,4,none⟩=some (.slice A ns.length cA):=hS.1.cell 4
          go_simp
          exact hK.out _ ⟨hS,Zab _ _⟩) (by kernel_rfl) (j:=21) rfl ?_
         refine Zaa [18,20] _ (fun L hL hcl v u hS hd K' hK=>by
          simp only[Zal,Zak,eqv,Zl3,Zl4,Nat.reduceSub]at hd
          simp only[Act.put,Zl2,Zl0,Zl1]at hK
          try simp only[hd]at hK
          go_simp
          exact hK.out _ ⟨hS,Zab _ _⟩) (by kernel_rfl) (j:=22) rfl ?_
         refine Zaa [18,21] _ (fun L hL hcl v u hS hd K' hK=>by
          simp only[Zal,Zak,eqv,Zl3,Zl4,Nat.reduceSub]at hd
          simp only[Act.put,Zl2,Zl0,Zl1]at hK
          try simp only[hd]at hK
          go_simp
          exact hK.out _ ⟨hS,Zab _ _⟩) (by kernel_rfl) (j:=23) rfl ?_
         refine Zaa [] _ (fun L hL hcl v u hS hd K' hK=>by
          simp only[Act.put,Zl2,Zl0,Zl1]at hK
          go_simp
          exact hK.out _ ⟨hS,Zab _ _⟩) (by kernel_rfl) (j:=24) rfl ?_
         refine Zam [1,23] (fun _ _=>True) (fun _ _ _ _ _ _ _=>trivial) (fun L hL hcl v u hS hd K' hK=>by
          simp only[Zal,Zak,eqv,Zl3,Zl4,Nat.reduceSub]at hd
          simp only[Act.put,Zl2,Zl0,Zl1]at hK
          try simp only[hd]at hK
          obtain ⟨h1,h2,h4,hb⟩:=hS
          rw[hL]at h4
          have y9:u.cell? ⟨w.heap.size+2,4,none⟩=some (.slice none 0 0):=h4.cell 4
          have z9:=h4.free 4
          go_simp
          exact hK.out undef _ ⟨⟨h1.far (p:=⟨w.heap.size+2,4,none⟩) (show w.heap.size ≠ w.heap.size+2 by omega) _,h2.far (p:=⟨w.heap.size+2,4,none⟩) (show w.heap.size+1 ≠ w.heap.size+2 by omega) _,h4.set 4 (.slice A ns.length cA),hb.setCell (p:=⟨w.heap.size+2,4,none⟩) (show w.heap.size≤w.heap.size+2 by omega) _⟩,Zbn _ _ _ _,trivial⟩) (by kernel_rfl) (j:=25) rfl ?_
         refine Zaa [4] _ (fun L hL hcl v u hS hd K' hK=>by
          simp only[Zal,Zak,eqv,Zl3,Zl4,Nat.reduceSub]at hd
          simp only[Act.put,Zl2,Zl0,Zl1]at hK
          try simp only[hd]at hK
          go_simp
          exact hK.out _ ⟨hS,Zab _ _⟩) (by kernel_rfl) (j:=26) rfl ?_
         refine Zaa [22] _ (fun L hL hcl v u hS hd K' hK=>by
          simp only[Zal,Zak,eqv,Zl3,Zl4,Nat.reduceSub]at hd
          simp only[Act.put,Zl2,Zl0,Zl1]at hK
          try simp only[hd]at hK
          go_simp
          exact hK.out _ ⟨hS,Zab _ _⟩) (by kernel_rfl) (j:=27) rfl ?_
         refine Zau [25,26] (by decide) ?_
         rintro v u hS hR
         simp only[Zal,Zak,eqv,Zl3,Zl4,Nat.reduceSub]at hR
         obtain ⟨hr1,hr2⟩:=hR
         obtain ⟨h1,h2,h4,hb⟩:=hS
         go_wp2_with (first|(at_builtin;fail))
         go_meet
         case rel=>exact ⟨c,by first|rfl|exact hr1,fun _=>by rw[HK.out];rfl,by rw[HOK.out] <;> exact hr2,h1,h2,⟨A,cA,by rw[HN.out,HS.out,HT.out,HL.out];exact h4⟩,hb⟩
     · have hi1:¬ (c:Int)≤16:=by omega
       have HOK:Hid (OK=false):=Zai (by rw[HO.out];simp[okC,hc6])
       clear hlbs
       go_upto_region 20 with (first|(at_builtin;fail))
       refine Zap (fun L _ u=>Blk u w.heap.size (Zav 7 n s t (.slice A ns.length cA) (.slice B c cB)) 26∧Blk u (w.heap.size+1) Zag 26∧Blk u (w.heap.size+2) (Zav 7 0 ⟨#[]⟩ ⟨#[]⟩ ((cond (L 24) (.slice A ns.length cA) (.slice none 0 0))) (.slice none 0 0)) 26∧Below w.heap.size w u) (fun _ u u'=>u.grownBy u' (some (w.heap.size+2))) _ (by kernel_rfl) (by kernel_rfl) (fun v=>by simp only[Zbx,Act.put,List.toList_toArray,Zl2,Zl0,Zl1,Nat.reduceAdd,Nat.zero_add];rfl) ⟨k14,k24,k4,Zaj b4⟩ (fun L L' v u hL h=>by rw[←hL 24 (by decide)];exact h) ?_
       refine Zaa [] _ (fun L hL hcl v u hS hd K' hK=>by
        simp only[Act.put,Zl2,Zl0,Zl1]at hK
        go_simp
        exact hK.out _ ⟨hS,Zab _ _⟩) (by kernel_rfl) (j:=1) rfl ?_
       refine Zaa [0] _ (fun L hL hcl v u hS hd K' hK=>by
        simp only[Zal,Zak,eqv,Zl3,Zl4,Nat.reduceSub]at hd
        simp only[Act.put,Zl2,Zl0,Zl1]at hK
        try simp only[hd]at hK
        have x9:u.cell? ⟨w.heap.size,4,none⟩=some (.slice A ns.length cA):=hS.1.cell 4
        go_simp
        exact hK.out _ ⟨hS,Zab _ _⟩) (by kernel_rfl) (j:=2) rfl ?_
       refine Zaa [] _ (fun L hL hcl v u hS hd K' hK=>by
        simp only[Act.put,Zl2,Zl0,Zl1]at hK
        go_simp
        exact hK.out _ ⟨hS,Zab _ _⟩) (by kernel_rfl) (j:=3) rfl ?_
       refine Zaa [2] _ (fun L hL hcl v u hS hd K' hK=>by
        simp only[Zal,Zak,eqv,Zl3,Zl4,Nat.reduceSub]at hd
        simp only[Act.put,Zl2,Zl0,Zl1]at hK
        try simp only[hd]at hK
        have x9:u.cell? ⟨w.heap.size,5,none⟩=some (.slice B c cB):=hS.1.cell 5
        go_simp
        exact hK.out _ ⟨hS,Zab _ _⟩) (by kernel_rfl) (j:=4) rfl ?_
       refine Zaa [3] _ (fun L hL hcl v u hS hd K' hK=>by
        simp only[Zal,Zak,eqv,Zl3,Zl4,Nat.reduceSub]at hd
        simp only[Act.put,Zl2,Zl0,Zl1]at hK
        try simp only[hd]at hK
        go_simp
        exact hK.out _ ⟨hS,Zab _ _⟩) (by kernel_rfl) (j:=5) rfl ?_
       refine Zaa [] _ (fun L hL hcl v u hS hd K' hK=>by
        simp only[Act.put,Zl2,Zl0,Zl1]at hK
        go_simp
        exact hK.out _ ⟨hS,Zab _ _⟩) (by kernel_rfl) (j:=6) rfl ?_
       refine Zaa [5] _ (fun L hL hcl v u hS hd K' hK=>by
        simp only[Zal,Zak,eqv,Zl3,Zl4,Nat.reduceSub]at hd
        simp only[Act.put,Zl2,Zl0,Zl1]at hK
        try simp only[hd]at hK
        have x9:u.cell? ⟨w.heap.size,5,none⟩=some (.slice B c cB):=hS.1.cell 5
        go_simp
        exact hK.out _ ⟨hS,Zab _ _⟩) (by kernel_rfl) (j:=7) rfl ?_
       refine Zaa [6] _ (fun L hL hcl v u hS hd K' hK=>by
        simp only[Zal,Zak,eqv,Zl3,Zl4,Nat.reduceSub]at hd
        simp only[Act.put,Zl2,Zl0,Zl1]at hK
        try simp only[hd]at hK
        go_simp
        exact hK.out _ ⟨hS,Zab _ _⟩) (by kernel_rfl) (j:=8) rfl ?_
       refine Zaa [7] _ (fun L hL hcl v u hS hd K' hK=>by
        simp only[Zal,Zak,eqv,Zl3,Zl4,Nat.reduceSub]at hd
        simp only[Act.put,Zl2,Zl0,Zl1]at hK
        try simp only[hd]at hK
        go_simp
        exact hK.out _ ⟨hS,Zab _ _⟩) (by kernel_rfl) (j:=9) rfl ?_
       refine Zaa [8] _ (fun L hL hcl v u hS hd K' hK=>by
        simp only[Zal,Zak,eqv,Zl3,Zl4,Nat.reduceSub]at hd
        simp only[Act.put,Zl2,Zl0,Zl1]at hK
        try simp only[hd]at hK
        go_simp
        exact hK.out _ ⟨hS,Zab _ _⟩) (by kernel_rfl) (j:=10) rfl ?_
       refine Zaa [9] _ (fun L hL hcl v u hS hd K' hK=>by
        simp only[Zal,Zak,eqv,Zl3,Zl4,Nat.reduceSub]at hd
        simp only[Act.put,Zl2,Zl0,Zl1]at hK
        try simp only[hd]at hK
        go_simp
        exact hK.out _ ⟨hS,Zab _ _⟩) (by kernel_rfl) (j:=11) rfl ?_
       refine Zaa [9,10] _ (fun L hL hcl v u hS hd K' hK=>by
        simp only[Zal,Zak,eqv,Zl3,Zl4,Nat.reduceSub]at hd
        simp only[Act.put,Zl2,Zl0,Zl1]at hK
        try simp only[hd]at hK
        have x9:u.cell? ⟨w.heap.size,4,none⟩=some (.slice A ns.length cA):=hS.1.cell 4
        go_simp
        exact hK.out _ ⟨hS,Zab _ _⟩) (by kernel_rfl) (j:=12) rfl ?_
       refine Zaa [9,11] _ (fun L hL hcl v u hS hd K' hK=>by
        simp only[Zal,Zak,eqv,Zl3,Zl4,Nat.reduceSub]at hd
        simp only[Act.put,Zl2,Zl0,Zl1]at hK
        try simp only[hd]at hK
        go_simp
        exact hK.out _ ⟨hS,Zab _ _⟩) (by kernel_rfl) (j:=13) rfl ?_
       refine Zaa [9] _ (fun L hL hcl v u hS hd K' hK=>by
        simp only[Zal,Zak,eqv,Zl3,Zl4,Nat.reduceSub]at hd
        simp only[Act.put,Zl2,Zl0,Zl1]at hK
        try simp only[hd]at hK
        go_simp
        exact hK.out _ ⟨hS,Zab _ _⟩) (by kernel_rfl) (j:=14) rfl ?_
       refine Zaa [9,13] _ (fun L hL hcl v u hS hd K' hK=>by
        simp only[Zal,Zak,eqv,Zl3,Zl4,Nat.reduceSub]at hd
        simp only[Act.put,Zl2,Zl0,Zl1]at hK
        try simp only[hd]at hK
        have x9:u.cell? ⟨w.heap.size,5,none⟩=some (.slice B c cB):=hS.1.cell 5
        go_simp
        exact hK.out _ ⟨hS,Zab _ _⟩) (by kernel_rfl) (j:=15) rfl ?_
       refine Zaa [9,14] _ (fun L hL hcl v u hS hd K' hK=>by
        simp only[Zal,Zak,eqv,Zl3,Zl4,Nat.reduceSub]at hd
        simp only[Act.put,Zl2,Zl0,Zl1]at hK
        try simp only[hd]at hK
        go_simp
        exact hK.out _ ⟨hS,Zab _ _⟩) (by kernel_rfl) (j:=16) rfl ?_
       refine Zaa [9,12,15] _ (fun L hL hcl v u hS hd K' hK=>by
        simp only[Zal,Zak,eqv,Zl3,Zl4,Nat.reduceSub]at hd
        simp only[Act.put,Zl2,Zl0,Zl1]at hK
        try simp only[hd]at hK
        go_simp
        exact hK.out _ ⟨hS,Zab _ _⟩) (by kernel_rfl) (j:=17) rfl ?_
       refine Zaa [9,16] _ (fun L hL hcl v u hS hd K' hK=>by
        simp only[Zal,Zak,eqv,Zl3,Zl4,Nat.reduceSub]at hd
        simp only[Act.put,Zl2,Zl0,Zl1]at hK
        try simp only[hd]at hK
        go_simp
        exact hK.out _ ⟨hS,Zab _ _⟩) (by kernel_rfl) (j:=18) rfl ?_
       refine Zaa [17] _ (fun L hL hcl v u hS hd K' hK=>by
        simp only[Zal,Zak,eqv,Zl3,Zl4,Nat.reduceSub]at hd
        simp only[Act.put,Zl2,Zl0,Zl1]at hK
        try simp only[hd]at hK
        go_simp
        exact hK.out _ ⟨hS,Zab _ _⟩) (by kernel_rfl) (j:=19) rfl ?_
       refine Zaa [18] _ (fun L hL hcl v u hS hd K' hK=>by
        simp only[Zal,Zak,eqv,Zl3,Zl4,Nat.reduceSub]at hd
        simp only[Act.put,Zl2,Zl0,Zl1]at hK
        try simp only[hd]at hK
        go_simp
        exact hK.out _ ⟨hS,Zab _ _⟩) (by kernel_rfl) (j:=20) rfl ?_
       refine Zaa [18,19] _ (fun L hL hcl v u hS hd K' hK=>by
        simp only[Zal,Zak,eqv,Zl3,Zl4,Nat.reduceSub]at hd
        simp only[Act.put,Zl2,Zl0,Zl1]at hK
        try simp only[hd]at hK
        have x9:u.cell? ⟨w.heap.size,4,none⟩=some (.slice A ns.length cA):=hS.1.cell 4
        go_simp
        exact hK.out _ ⟨hS,Zab _ _⟩) (by kernel_rfl) (j:=21) rfl ?_
       refine Zaa [18,20] _ (fun L hL hcl v u hS hd K' hK=>by
        simp only[Zal,Zak,eqv,Zl3,Zl4,Nat.reduceSub]at hd
        simp only[Act.put,Zl2,Zl0,Zl1]at hK
        try simp only[hd]at hK
        go_simp
        exact hK.out _ ⟨hS,Zab _ _⟩) (by kernel_rfl) (j:=22) rfl ?_
       refine Zaa [18,21] _ (fun L hL hcl v u hS hd K' hK=>by
        simp only[Zal,Zak,eqv,Zl3,Zl4,Nat.reduceSub]at hd
        simp only[Act.put,Zl2,Zl0,Zl1]at hK
        try simp only[hd]at hK
        go_simp
        exact hK.out _ ⟨hS,Zab _ _⟩) (by kernel_rfl) (j:=23) rfl ?_
       refine Zaa [] _ (fun L hL hcl v u hS hd K' hK=>by
        simp only[Act.put,Zl2,Zl0,Zl1]at hK
        go_simp
        exact hK.out _ ⟨hS,Zab _ _⟩) (by kernel_rfl) (j:=24) rfl ?_
       refine Zam [1,23] (fun _ _=>True) (fun _ _ _ _ _ _ _=>trivial) (fun L hL hcl v u hS hd K' hK=>by
        simp only[Zal,Zak,eqv,Zl3,Zl4,Nat.reduceSub]at hd
        simp only[Act.put,Zl2,Zl0,Zl1]at hK
        try simp only[hd]at hK
        obtain ⟨h1,h2,h4,hb⟩:=hS
        rw[hL]at h4
        have y9:u.cell? ⟨w.heap.size+2,4,none⟩=some (.slice none 0 0):=h4.cell 4
        have z9:=h4.free 4
        go_simp
        exact hK.out undef _ ⟨⟨h1.far (p:=⟨w.heap.size+2,4,none⟩) (show w.heap.size ≠ w.heap.size+2 by omega) _,h2.far (p:=⟨w.heap.size+2,4,none⟩) (show w.heap.size+1 ≠ w.heap.size+2 by omega) _,h4.set 4 (.slice A ns.length cA),hb.setCell (p:=⟨w.heap.size+2,4,none⟩) (show w.heap.size≤w.heap.size+2 by omega) _⟩,Zbn _ _ _ _,trivial⟩) (by kernel_rfl) (j:=25) rfl ?_
       refine Zaa [4] _ (fun L hL hcl v u hS hd K' hK=>by
        simp only[Zal,Zak,eqv,Zl3,Zl4,Nat.reduceSub]at hd
        simp only[Act.put,Zl2,Zl0,Zl1]at hK
        try simp only[hd]at hK
        go_simp
        exact hK.out _ ⟨hS,Zab _ _⟩) (by kernel_rfl) (j:=26) rfl ?_
       refine Zaa [22] _ (fun L hL hcl v u hS hd K' hK=>by
        simp only[Zal,Zak,eqv,Zl3,Zl4,Nat.reduceSub]at hd
        simp only[Act.put,Zl2,Zl0,Zl1]at hK
        try simp only[hd]at hK
        go_simp
        exact hK.out _ ⟨hS,Zab _ _⟩) (by kernel_rfl) (j:=27) rfl ?_
       refine Zau [25,26] (by decide) ?_
       rintro v u hS hR
       simp only[Zal,Zak,eqv,Zl3,Zl4,Nat.reduceSub]at hR
       obtain ⟨hr1,hr2⟩:=hR
       obtain ⟨h1,h2,h4,hb⟩:=hS
       go_wp2_with (first|(at_builtin;fail))
       go_meet
       case rel=>exact ⟨c,by first|rfl|exact hr1,fun _=>by rw[HK.out];rfl,by rw[HOK.out] <;> exact hr2,h1,h2,⟨A,cA,by rw[HN.out,HS.out,HT.out,HL.out];exact h4⟩,hb⟩
   · subst hk
     obtain ⟨V,hV⟩:=Zaf (Zoe s)
     rw[←hV.out]at hlab
     have HOK:Hid (OK=V):=Zai (by rw[HO.out];rw[hV.out];simp[okC,Zcx])
     go_upto_region 23 with (first|(at_builtin;fail))
     refine Zap (fun L _ u=>Blk u w.heap.size (Zav 8 n s t (.slice A ns.length cA) (.slice B c cB)) 26∧Blk u (w.heap.size+1) Zag 26∧Blk u (w.heap.size+2) (Zav 8 0 (cond (L 6) (s) (⟨#[]⟩)) ⟨#[]⟩ (.slice none 0 0) (.slice none 0 0)) 26∧Below w.heap.size w u) (fun _ u u'=>u.grownBy u' (some (w.heap.size+2))) _ (by kernel_rfl) (by kernel_rfl) (fun v=>by simp only[Zbx,Act.put,List.toList_toArray,Zl2,Zl0,Zl1,Nat.reduceAdd,Nat.zero_add];rfl) ⟨k14,k24,k4,Zaj b4⟩ (fun L L' v u hL h=>by rw[←hL 6 (by decide)];exact h) ?_
     refine Zaa [] _ (fun L hL hcl v u hS hd K' hK=>by
      simp only[Act.put,Zl2,Zl0,Zl1]at hK
      go_simp
      exact hK.out _ ⟨hS,Zab _ _⟩) (by kernel_rfl) (j:=1) rfl ?_
     refine Zaa [0] _ (fun L hL hcl v u hS hd K' hK=>by
      simp only[Zal,Zak,eqv,Zl3,Zl4,Nat.reduceSub]at hd
      simp only[Act.put,Zl2,Zl0,Zl1]at hK
      try simp only[hd]at hK
      have x9:u.cell? ⟨w.heap.size,2,none⟩=some (.string s):=hS.1.cell 2
      go_simp
      exact hK.out _ ⟨hS,Zab _ _⟩) (by kernel_rfl) (j:=2) rfl ?_
     refine Zaa [] _ (fun L hL hcl v u hS hd K' hK=>by
      simp only[Act.put,Zl2,Zl0,Zl1]at hK
      go_simp
      exact hK.out _ ⟨hS,Zab _ _⟩) (by kernel_rfl) (j:=3) rfl ?_
     refine Zaa [2] _ (fun L hL hcl v u hS hd K' hK=>by
      simp only[Zal,Zak,eqv,Zl3,Zl4,Nat.reduceSub]at hd
      simp only[Act.put,Zl2,Zl0,Zl1]at hK
      try simp only[hd]at hK
      have x9:u.cell? ⟨w.heap.size,2,none⟩=some (.string s):=hS.1.cell 2
      go_simp
      exact hK.out _ ⟨hS,Zab _ _⟩) (by kernel_rfl) (j:=4) rfl ?_
     refine Zaa [3] _ (fun L hL hcl v u hS hd K' hK=>by
      simp only[Zal,Zak,eqv,Zl3,Zl4,Nat.reduceSub]at hd
      simp only[Act.put,Zl2,Zl0,Zl1]at hK
      try simp only[hd]at hK
      go_simp
      refine (hlab u hS.2.2.2).mono ?_
      rintro e9 u1 ⟨rfl,hb9⟩
      exact hK.out _ ⟨⟨hS.1.below hb9,hS.2.1.below hb9,hS.2.2.1.below hb9,bt hS.2.2.2 hb9⟩,Zad hb9 _⟩) (by kernel_rfl) (j:=5) rfl ?_
     refine Zaa [] _ (fun L hL hcl v u hS hd K' hK=>by
      simp only[Act.put,Zl2,Zl0,Zl1]at hK
      go_simp
      exact hK.out _ ⟨hS,Zab _ _⟩) (by kernel_rfl) (j:=6) rfl ?_
     refine Zam [1,5] (fun _ _=>True) (fun _ _ _ _ _ _ _=>trivial) (fun L hL hcl v u hS hd K' hK=>by
      simp only[Zal,Zak,eqv,Zl3,Zl4,Nat.reduceSub]at hd
      simp only[Act.put,Zl2,Zl0,Zl1]at hK
      try simp only[hd]at hK
      obtain ⟨h1,h2,h4,hb⟩:=hS
      rw[hL]at h4
      have y9:u.cell? ⟨w.heap.size+2,2,none⟩=some (.string ⟨#[]⟩):=h4.cell 2
      have z9:=h4.free 2
      go_simp
      exact hK.out undef _ ⟨⟨h1.far (p:=⟨w.heap.size+2,2,none⟩) (show w.heap.size ≠ w.heap.size+2 by omega) _,h2.far (p:=⟨w.heap.size+2,2,none⟩) (show w.heap.size+1 ≠ w.heap.size+2 by omega) _,h4.set 2 (.string s),hb.setCell (p:=⟨w.heap.size+2,2,none⟩) (show w.heap.size≤w.heap.size+2 by omega) _⟩,Zbn _ _ _ _,trivial⟩) (by kernel_rfl) (j:=7) rfl ?_
     refine Zaa [] _ (fun L hL hcl v u hS hd K' hK=>by
      simp only[Act.put,Zl2,Zl0,Zl1]at hK
      go_simp
      exact hK.out _ ⟨hS,Zab _ _⟩) (by kernel_rfl) (j:=8) rfl ?_
     refine Zaa [4] _ (fun L hL hcl v u hS hd K' hK=>by
      simp only[Zal,Zak,eqv,Zl3,Zl4,Nat.reduceSub]at hd
      simp only[Act.put,Zl2,Zl0,Zl1]at hK
      try simp only[hd]at hK
      go_simp
      exact hK.out _ ⟨hS,Zab _ _⟩) (by kernel_rfl) (j:=9) rfl ?_
     refine Zau [7,8] (by decide) ?_
     rintro v u hS hR
     simp only[Zal,Zak,eqv,Zl3,Zl4,Nat.reduceSub]at hR
     obtain ⟨hr1,hr2⟩:=hR
     obtain ⟨h1,h2,h4,hb⟩:=hS
     go_wp2_with (first|(at_builtin;fail))
     go_meet
     case rel=>exact ⟨1,by first|rfl|exact hr1,fun _=>by rw[HK.out];rfl,by rw[HOK.out] <;> exact hr2,h1,h2,⟨none,0,by rw[HN.out,HS.out,HT.out,HL.out];exact h4⟩,hb⟩
   · subst hk
     obtain ⟨V,hV⟩:=Zaf (Zoe s)
     rw[←hV.out]at hlab
     have HOK:Hid (OK=V):=Zai (by rw[HO.out];rw[hV.out];simp[okC,Zcx])
     go_upto_region 23 with (first|(at_builtin;fail))
     refine Zap (fun L _ u=>Blk u w.heap.size (Zav 9 n s t (.slice A ns.length cA) (.slice B c cB)) 26∧Blk u (w.heap.size+1) Zag 26∧Blk u (w.heap.size+2) (Zav 9 0 (cond (L 6) (s) (⟨#[]⟩)) ⟨#[]⟩ (.slice none 0 0) (.slice none 0 0)) 26∧Below w.heap.size w u) (fun _ u u'=>u.grownBy u' (some (w.heap.size+2))) _ (by kernel_rfl) (by kernel_rfl) (fun v=>by simp only[Zbx,Act.put,List.toList_toArray,Zl2,Zl0,Zl1,Nat.reduceAdd,Nat.zero_add];rfl) ⟨k14,k24,k4,Zaj b4⟩ (fun L L' v u hL h=>by rw[←hL 6 (by decide)];exact h) ?_
     refine Zaa [] _ (fun L hL hcl v u hS hd K' hK=>by
      simp only[Act.put,Zl2,Zl0,Zl1]at hK
      go_simp
      exact hK.out _ ⟨hS,Zab _ _⟩) (by kernel_rfl) (j:=1) rfl ?_
     refine Zaa [0] _ (fun L hL hcl v u hS hd K' hK=>by
      simp only[Zal,Zak,eqv,Zl3,Zl4,Nat.reduceSub]at hd
      simp only[Act.put,Zl2,Zl0,Zl1]at hK
      try simp only[hd]at hK
      have x9:u.cell? ⟨w.heap.size,2,none⟩=some (.string s):=hS.1.cell 2
      go_simp
      exact hK.out _ ⟨hS,Zab _ _⟩) (by kernel_rfl) (j:=2) rfl ?_
     refine Zaa [] _ (fun L hL hcl v u hS hd K' hK=>by
      simp only[Act.put,Zl2,Zl0,Zl1]at hK
      go_simp
      exact hK.out _ ⟨hS,Zab _ _⟩) (by kernel_rfl) (j:=3) rfl ?_
     refine Zaa [2] _ (fun L hL hcl v u hS hd K' hK=>by
      simp only[Zal,Zak,eqv,Zl3,Zl4,Nat.reduceSub]at hd
      simp only[Act.put,Zl2,Zl0,Zl1]at hK
      try simp only[hd]at hK
      have x9:u.cell? ⟨w.heap.size,2,none⟩=some (.string s):=hS.1.cell 2
      go_simp
      exact hK.out _ ⟨hS,Zab _ _⟩) (by kernel_rfl) (j:=4) rfl ?_
     refine Zaa [3] _ (fun L hL hcl v u hS hd K' hK=>by
      simp only[Zal,Zak,eqv,Zl3,Zl4,Nat.reduceSub]at hd
      simp only[Act.put,Zl2,Zl0,Zl1]at hK
      try simp only[hd]at hK
      go_simp
      refine (hlab u hS.2.2.2).mono ?_
      rintro e9 u1 ⟨rfl,hb9⟩
      exact hK.out _ ⟨⟨hS.1.below hb9,hS.2.1.below hb9,hS.2.2.1.below hb9,bt hS.2.2.2 hb9⟩,Zad hb9 _⟩) (by kernel_rfl) (j:=5) rfl ?_
     refine Zaa [] _ (fun L hL hcl v u hS hd K' hK=>by
      simp only[Act.put,Zl2,Zl0,Zl1]at hK
      go_simp
      exact hK.out _ ⟨hS,Zab _ _⟩) (by kernel_rfl) (j:=6) rfl ?_
     refine Zam [1,5] (fun _ _=>True) (fun _ _ _ _ _ _ _=>trivial) (fun L hL hcl v u hS hd K' hK=>by
      simp only[Zal,Zak,eqv,Zl3,Zl4,Nat.reduceSub]at hd
      simp only[Act.put,Zl2,Zl0,Zl1]at hK
      try simp only[hd]at hK
      obtain ⟨h1,h2,h4,hb⟩:=hS
      rw[hL]at h4
      have y9:u.cell? ⟨w.heap.size+2,2,none⟩=some (.string ⟨#[]⟩):=h4.cell 2
      have z9:=h4.free 2
      go_simp
      exact hK.out undef _ ⟨⟨h1.far (p:=⟨w.heap.size+2,2,none⟩) (show w.heap.size ≠ w.heap.size+2 by omega) _,h2.far (p:=⟨w.heap.size+2,2,none⟩) (show w.heap.size+1 ≠ w.heap.size+2 by omega) _,h4.set 2 (.string s),hb.setCell (p:=⟨w.heap.size+2,2,none⟩) (show w.heap.size≤w.heap.size+2 by omega) _⟩,Zbn _ _ _ _,trivial⟩) (by kernel_rfl) (j:=7) rfl ?_
     refine Zaa [] _ (fun L hL hcl v u hS hd K' hK=>by
      simp only[Act.put,Zl2,Zl0,Zl1]at hK
      go_simp
      exact hK.out _ ⟨hS,Zab _ _⟩) (by kernel_rfl) (j:=8) rfl ?_
     refine Zaa [4] _ (fun L hL hcl v u hS hd K' hK=>by
      simp only[Zal,Zak,eqv,Zl3,Zl4,Nat.reduceSub]at hd
      simp only[Act.put,Zl2,Zl0,Zl1]at hK
      try simp only[hd]at hK
      go_simp
      exact hK.out _ ⟨hS,Zab _ _⟩) (by kernel_rfl) (j:=9) rfl ?_
     refine Zau [7,8] (by decide) ?_
     rintro v u hS hR
     simp only[Zal,Zak,eqv,Zl3,Zl4,Nat.reduceSub]at hR
     obtain ⟨hr1,hr2⟩:=hR
     obtain ⟨h1,h2,h4,hb⟩:=hS
     go_wp2_with (first|(at_builtin;fail))
     go_meet
     case rel=>exact ⟨1,by first|rfl|exact hr1,fun _=>by rw[HK.out];rfl,by rw[HOK.out] <;> exact hr2,h1,h2,⟨none,0,by rw[HN.out,HS.out,HT.out,HL.out];exact h4⟩,hb⟩
   · subst hk
     obtain ⟨V,hV⟩:=Zaf (Zhe t.data.toList)
     rw[←hV.out]at htyp
     have HOK:Hid (OK=V):=Zai (by rw[HO.out];rw[hV.out];simp[okC,Zcx])
     go_upto_region 25 with (first|(at_builtin;fail))
     refine Zap (fun L _ u=>Blk u w.heap.size (Zav 10 n s t (.slice A ns.length cA) (.slice B c cB)) 26∧Blk u (w.heap.size+1) Zag 26∧Blk u (w.heap.size+2) (Zav 10 0 ⟨#[]⟩ (cond (L 6) (t) (⟨#[]⟩)) (.slice none 0 0) (.slice none 0 0)) 26∧Below w.heap.size w u) (fun _ u u'=>u.grownBy u' (some (w.heap.size+2))) _ (by kernel_rfl) (by kernel_rfl) (fun v=>by simp only[Zbx,Act.put,List.toList_toArray,Zl2,Zl0,Zl1,Nat.reduceAdd,Nat.zero_add];rfl) ⟨k14,k24,k4,Zaj b4⟩ (fun L L' v u hL h=>by rw[←hL 6 (by decide)];exact h) ?_
     refine Zaa [] _ (fun L hL hcl v u hS hd K' hK=>by
      simp only[Act.put,Zl2,Zl0,Zl1]at hK
      go_simp
      exact hK.out _ ⟨hS,Zab _ _⟩) (by kernel_rfl) (j:=1) rfl ?_
     refine Zaa [0] _ (fun L hL hcl v u hS hd K' hK=>by
      simp only[Zal,Zak,eqv,Zl3,Zl4,Nat.reduceSub]at hd
      simp only[Act.put,Zl2,Zl0,Zl1]at hK
      try simp only[hd]at hK
      have x9:u.cell? ⟨w.heap.size,3,none⟩=some (.string t):=hS.1.cell 3
      go_simp
      exact hK.out _ ⟨hS,Zab _ _⟩) (by kernel_rfl) (j:=2) rfl ?_
     refine Zaa [] _ (fun L hL hcl v u hS hd K' hK=>by
      simp only[Act.put,Zl2,Zl0,Zl1]at hK
      go_simp
      exact hK.out _ ⟨hS,Zab _ _⟩) (by kernel_rfl) (j:=3) rfl ?_
     refine Zaa [2] _ (fun L hL hcl v u hS hd K' hK=>by
      simp only[Zal,Zak,eqv,Zl3,Zl4,Nat.reduceSub]at hd
      simp only[Act.put,Zl2,Zl0,Zl1]at hK
      try simp only[hd]at hK
      have x9:u.cell? ⟨w.heap.size,3,none⟩=some (.string t):=hS.1.cell 3
      go_simp
      exact hK.out _ ⟨hS,Zab _ _⟩) (by kernel_rfl) (j:=4) rfl ?_
     refine Zaa [3] _ (fun L hL hcl v u hS hd K' hK=>by
      simp only[Zal,Zak,eqv,Zl3,Zl4,Nat.reduceSub]at hd
      simp only[Act.put,Zl2,Zl0,Zl1]at hK
      try simp only[hd]at hK
      go_simp
      refine (htyp u hS.2.2.2).mono ?_
      rintro e9 u1 ⟨rfl,hb9⟩
      exact hK.out _ ⟨⟨hS.1.below hb9,hS.2.1.below hb9,hS.2.2.1.below hb9,bt hS.2.2.2 hb9⟩,Zad hb9 _⟩) (by kernel_rfl) (j:=5) rfl ?_
     refine Zaa [] _ (fun L hL hcl v u hS hd K' hK=>by
      simp only[Act.put,Zl2,Zl0,Zl1]at hK
      go_simp
      exact hK.out _ ⟨hS,Zab _ _⟩) (by kernel_rfl) (j:=6) rfl ?_
     refine Zam [1,5] (fun _ _=>True) (fun _ _ _ _ _ _ _=>trivial) (fun L hL hcl v u hS hd K' hK=>by
      simp only[Zal,Zak,eqv,Zl3,Zl4,Nat.reduceSub]at hd
      simp only[Act.put,Zl2,Zl0,Zl1]at hK
      try simp only[hd]at hK
      obtain ⟨h1,h2,h4,hb⟩:=hS
      rw[hL]at h4
      have y9:u.cell? ⟨w.heap.size+2,3,none⟩=some (.string ⟨#[]⟩):=h4.cell 3
      have z9:=h4.free 3
      go_simp
      exact hK.out undef _ ⟨⟨h1.far (p:=⟨w.heap.size+2,3,none⟩) (show w.heap.size ≠ w.heap.size+2 by omega) _,h2.far (p:=⟨w.heap.size+2,3,none⟩) (show w.heap.size+1 ≠ w.heap.size+2 by omega) _,h4.set 3 (.string t),hb.setCell (p:=⟨w.heap.size+2,3,none⟩) (show w.heap.size≤w.heap.size+2 by omega) _⟩,Zbn _ _ _ _,trivial⟩) (by kernel_rfl) (j:=7) rfl ?_
     refine Zaa [] _ (fun L hL hcl v u hS hd K' hK=>by
      simp only[Act.put,Zl2,Zl0,Zl1]at hK
      go_simp
      exact hK.out _ ⟨hS,Zab _ _⟩) (by kernel_rfl) (j:=8) rfl ?_
     refine Zaa [4] _ (fun L hL hcl v u hS hd K' hK=>by
      simp only[Zal,Zak,eqv,Zl3,Zl4,Nat.reduceSub]at hd
      simp only[Act.put,Zl2,Zl0,Zl1]at hK
      try simp only[hd]at hK
      go_simp
      exact hK.out _ ⟨hS,Zab _ _⟩) (by kernel_rfl) (j:=9) rfl ?_
     refine Zau [7,8] (by decide) ?_
     rintro v u hS hR
     simp only[Zal,Zak,eqv,Zl3,Zl4,Nat.reduceSub]at hR
     obtain ⟨hr1,hr2⟩:=hR
     obtain ⟨h1,h2,h4,hb⟩:=hS
     go_wp2_with (first|(at_builtin;fail))
     go_meet
     case rel=>exact ⟨1,by first|rfl|exact hr1,fun _=>by rw[HK.out];rfl,by rw[HOK.out] <;> exact hr2,h1,h2,⟨none,0,by rw[HN.out,HS.out,HT.out,HL.out];exact h4⟩,hb⟩
   · subst hk
     obtain ⟨V,hV⟩:=Zaf (Lib.validD s.data.toList)
     rw[←hV.out]at hval
     by_cases hle:s.size≤256
     · have hi1:(s.size:Int)≤256:=by omega
       have HOK:Hid (OK=V):=Zai (by rw[HO.out];rw[hV.out];simp[okC,Zcx,Zfu,hle])
       go_upto_region 12 with (first|(at_builtin;fail))
       refine Zap (fun L _ u=>Blk u w.heap.size (Zav 11 n s t (.slice A ns.length cA) (.slice B c cB)) 26∧Blk u (w.heap.size+1) Zag 26∧Blk u (w.heap.size+2) (Zav 11 0 (cond (L 16) (s) (⟨#[]⟩)) ⟨#[]⟩ (.slice none 0 0) (.slice none 0 0)) 26∧Below w.heap.size w u) (fun _ u u'=>u.grownBy u' (some (w.heap.size+2))) _ (by kernel_rfl) (by kernel_rfl) (fun v=>by simp only[Zbx,Act.put,List.toList_toArray,Zl2,Zl0,Zl1,Nat.reduceAdd,Nat.zero_add];rfl) ⟨k14,k24,k4,Zaj b4⟩ (fun L L' v u hL h=>by rw[←hL 16 (by decide)];exact h) ?_
       refine Zaa [] _ (fun L hL hcl v u hS hd K' hK=>by
        simp only[Act.put,Zl2,Zl0,Zl1]at hK
        go_simp
        exact hK.out _ ⟨hS,Zab _ _⟩) (by kernel_rfl) (j:=1) rfl ?_
       refine Zaa [0] _ (fun L hL hcl v u hS hd K' hK=>by
        simp only[Zal,Zak,eqv,Zl3,Zl4,Nat.reduceSub]at hd
        simp only[Act.put,Zl2,Zl0,Zl1]at hK
        try simp only[hd]at hK
        have x9:u.cell? ⟨w.heap.size,2,none⟩=some (.string s):=hS.1.cell 2
        go_simp
        exact hK.out _ ⟨hS,Zab _ _⟩) (by kernel_rfl) (j:=2) rfl ?_
       refine Zaa [] _ (fun L hL hcl v u hS hd K' hK=>by
        simp only[Act.put,Zl2,Zl0,Zl1]at hK
        go_simp
        exact hK.out _ ⟨hS,Zab _ _⟩) (by kernel_rfl) (j:=3) rfl ?_
       refine Zaa [2] _ (fun L hL hcl v u hS hd K' hK=>by
        simp only[Zal,Zak,eqv,Zl3,Zl4,Nat.reduceSub]at hd
        simp only[Act.put,Zl2,Zl0,Zl1]at hK
        try simp only[hd]at hK
        have x9:u.cell? ⟨w.heap.size,0,none⟩=some (.int .u8 11):=hS.1.cell 0
        go_simp
        exact hK.out _ ⟨hS,Zab _ _⟩) (by kernel_rfl) (j:=4) rfl ?_
       refine Zaa [3] _ (fun L hL hcl v u hS hd K' hK=>by
        simp only[Zal,Zak,eqv,Zl3,Zl4,Nat.reduceSub]at hd
        simp only[Act.put,Zl2,Zl0,Zl1]at hK
        try simp only[hd]at hK
        go_simp
        exact hK.out _ ⟨hS,Zab _ _⟩) (by kernel_rfl) (j:=5) rfl ?_
       refine Zaa [4] _ (fun L hL hcl v u hS hd K' hK=>by
        simp only[Zal,Zak,eqv,Zl3,Zl4,Nat.reduceSub]at hd
        simp only[Act.put,Zl2,Zl0,Zl1]at hK
        try simp only[hd]at hK
        go_simp
        exact hK.out _ ⟨hS,Zab _ _⟩) (by kernel_rfl) (j:=6) rfl ?_
       refine Zaa [] _ (fun L hL hcl v u hS hd K' hK=>by
        simp only[Act.put,Zl2,Zl0,Zl1]at hK
        go_simp
        exact hK.out _ ⟨hS,Zab _ _⟩) (by kernel_rfl) (j:=7) rfl ?_
       refine Zaa [6] _ (fun L hL hcl v u hS hd K' hK=>by
        simp only[Zal,Zak,eqv,Zl3,Zl4,Nat.reduceSub]at hd
        simp only[Act.put,Zl2,Zl0,Zl1]at hK
        try simp only[hd]at hK
        have x9:u.cell? ⟨w.heap.size,2,none⟩=some (.string s):=hS.1.cell 2
        go_simp
        exact hK.out _ ⟨hS,Zab _ _⟩) (by kernel_rfl) (j:=8) rfl ?_
       refine Zaa [7] _ (fun L hL hcl v u hS hd K' hK=>by
        simp only[Zal,Zak,eqv,Zl3,Zl4,Nat.reduceSub]at hd
        simp only[Act.put,Zl2,Zl0,Zl1]at hK
        try simp only[hd]at hK
        go_simp
        exact hK.out _ ⟨hS,Zab _ _⟩) (by kernel_rfl) (j:=9) rfl ?_
       refine Zaa [8] _ (fun L hL hcl v u hS hd K' hK=>by
        simp only[Zal,Zak,eqv,Zl3,Zl4,Nat.reduceSub]at hd
        simp only[Act.put,Zl2,Zl0,Zl1]at hK
        try simp only[hd]at hK
        go_simp
        exact hK.out _ ⟨hS,Zab _ _⟩) (by kernel_rfl) (j:=10) rfl ?_
       refine Zaa [9] _ (fun L hL hcl v u hS hd K' hK=>by
        simp only[Zal,Zak,eqv,Zl3,Zl4,Nat.reduceSub]at hd
        simp only[Act.put,Zl2,Zl0,Zl1]at hK
        try simp only[hd]at hK
        go_simp
        exact hK.out _ ⟨hS,Zab _ _⟩) (by kernel_rfl) (j:=11) rfl ?_
       refine Zaa [10] _ (fun L hL hcl v u hS hd K' hK=>by
        simp only[Zal,Zak,eqv,Zl3,Zl4,Nat.reduceSub]at hd
        simp only[Act.put,Zl2,Zl0,Zl1]at hK
        try simp only[hd]at hK
        go_simp
        exact hK.out _ ⟨hS,Zab _ _⟩) (by kernel_rfl) (j:=12) rfl ?_
       refine Zaa [10,11] _ (fun L hL hcl v u hS hd K' hK=>by
        simp only[Zal,Zak,eqv,Zl3,Zl4,Nat.reduceSub]at hd
        simp only[Act.put,Zl2,Zl0,Zl1]at hK
        try simp only[hd]at hK
        have x9:u.cell? ⟨w.heap.size,2,none⟩=some (.string s):=hS.1.cell 2
        go_simp
        exact hK.out _ ⟨hS,Zab _ _⟩) (by kernel_rfl) (j:=13) rfl ?_
       refine Zaa [10,12] _ (fun L hL hcl v u hS hd K' hK=>by
        simp only[Zal,Zak,eqv,Zl3,Zl4,Nat.reduceSub]at hd
        simp only[Act.put,Zl2,Zl0,Zl1]at hK
        try simp only[hd]at hK
        go_simp
        refine (hval u hS.2.2.2).mono ?_
        rintro e9 u1 ⟨rfl,hb9⟩
        exact hK.out _ ⟨⟨hS.1.below hb9,hS.2.1.below hb9,hS.2.2.1.below hb9,bt hS.2.2.2 hb9⟩,Zad hb9 _⟩) (by kernel_rfl) (j:=14) rfl ?_
       refine Zaa [10,13] _ (fun L hL hcl v u hS hd K' hK=>by
        simp only[Zal,Zak,eqv,Zl3,Zl4,Nat.reduceSub]at hd
        simp only[Act.put,Zl2,Zl0,Zl1]at hK
        try simp only[hd]at hK
        go_simp
        exact hK.out _ ⟨hS,Zab _ _⟩) (by kernel_rfl) (j:=15) rfl ?_
       refine Zaa [] _ (fun L hL hcl v u hS hd K' hK=>by
        simp only[Act.put,Zl2,Zl0,Zl1]at hK
        go_simp
        exact hK.out _ ⟨hS,Zab _ _⟩) (by kernel_rfl) (j:=16) rfl ?_
       refine Zam [1,15] (fun _ _=>True) (fun _ _ _ _ _ _ _=>trivial) (fun L hL hcl v u hS hd K' hK=>by
        simp only[Zal,Zak,eqv,Zl3,Zl4,Nat.reduceSub]at hd
        simp only[Act.put,Zl2,Zl0,Zl1]at hK
        try simp only[hd]at hK
        obtain ⟨h1,h2,h4,hb⟩:=hS
        rw[hL]at h4
        have y9:u.cell? ⟨w.heap.size+2,2,none⟩=some (.string ⟨#[]⟩):=h4.cell 2
        have z9:=h4.free 2
        go_simp
        exact hK.out undef _ ⟨⟨h1.far (p:=⟨w.heap.size+2,2,none⟩) (show w.heap.size ≠ w.heap.size+2 by omega) _,h2.far (p:=⟨w.heap.size+2,2,none⟩) (show w.heap.size+1 ≠ w.heap.size+2 by omega) _,h4.set 2 (.string s),hb.setCell (p:=⟨w.heap.size+2,2,none⟩) (show w.heap.size≤w.heap.size+2 by omega) _⟩,Zbn _ _ _ _,trivial⟩) (by kernel_rfl) (j:=17) rfl ?_
       refine Zaa [5] _ (fun L hL hcl v u hS hd K' hK=>by
        simp only[Zal,Zak,eqv,Zl3,Zl4,Nat.reduceSub]at hd
        simp only[Act.put,Zl2,Zl0,Zl1]at hK
        try simp only[hd]at hK
        go_simp
        exact hK.out _ ⟨hS,Zab _ _⟩) (by kernel_rfl) (j:=18) rfl ?_
       refine Zaa [14] _ (fun L hL hcl v u hS hd K' hK=>by
        simp only[Zal,Zak,eqv,Zl3,Zl4,Nat.reduceSub]at hd
        simp only[Act.put,Zl2,Zl0,Zl1]at hK
        try simp only[hd]at hK
        go_simp
        exact hK.out _ ⟨hS,Zab _ _⟩) (by kernel_rfl) (j:=19) rfl ?_
       refine Zau [17,18] (by decide) ?_
       rintro v u hS hR
       simp only[Zal,Zak,eqv,Zl3,Zl4,Nat.reduceSub]at hR
       obtain ⟨hr1,hr2⟩:=hR
       obtain ⟨h1,h2,h4,hb⟩:=hS
       go_wp2_with (first|(at_builtin;fail))
       go_meet
       case rel=>exact ⟨1,by first|rfl|exact hr1,fun _=>by rw[HK.out];rfl,by rw[HOK.out] <;> exact hr2,h1,h2,⟨none,0,by rw[HN.out,HS.out,HT.out,HL.out];exact h4⟩,hb⟩
     · have hi1:¬ (s.size:Int)≤256:=by omega
       have HOK:Hid (OK=false):=Zai (by rw[HO.out];simp[okC,Zcx,Zfu,hle])
       clear hval
       go_upto_region 12 with (first|(at_builtin;fail))
       refine Zap (fun L _ u=>Blk u w.heap.size (Zav 11 n s t (.slice A ns.length cA) (.slice B c cB)) 26∧Blk u (w.heap.size+1) Zag 26∧Blk u (w.heap.size+2) (Zav 11 0 (cond (L 16) (s) (⟨#[]⟩)) ⟨#[]⟩ (.slice none 0 0) (.slice none 0 0)) 26∧Below w.heap.size w u) (fun _ u u'=>u.grownBy u' (some (w.heap.size+2))) _ (by kernel_rfl) (by kernel_rfl) (fun v=>by simp only[Zbx,Act.put,List.toList_toArray,Zl2,Zl0,Zl1,Nat.reduceAdd,Nat.zero_add];rfl) ⟨k14,k24,k4,Zaj b4⟩ (fun L L' v u hL h=>by rw[←hL 16 (by decide)];exact h) ?_
       refine Zaa [] _ (fun L hL hcl v u hS hd K' hK=>by
        simp only[Act.put,Zl2,Zl0,Zl1]at hK
        go_simp
        exact hK.out _ ⟨hS,Zab _ _⟩) (by kernel_rfl) (j:=1) rfl ?_
       refine Zaa [0] _ (fun L hL hcl v u hS hd K' hK=>by
        simp only[Zal,Zak,eqv,Zl3,Zl4,Nat.reduceSub]at hd
        simp only[Act.put,Zl2,Zl0,Zl1]at hK
        try simp only[hd]at hK
        have x9:u.cell? ⟨w.heap.size,2,none⟩=some (.string s):=hS.1.cell 2
        go_simp
        exact hK.out _ ⟨hS,Zab _ _⟩) (by kernel_rfl) (j:=2) rfl ?_
       refine Zaa [] _ (fun L hL hcl v u hS hd K' hK=>by
        simp only[Act.put,Zl2,Zl0,Zl1]at hK
        go_simp
        exact hK.out _ ⟨hS,Zab _ _⟩) (by kernel_rfl) (j:=3) rfl ?_
       refine Zaa [2] _ (fun L hL hcl v u hS hd K' hK=>by
        simp only[Zal,Zak,eqv,Zl3,Zl4,Nat.reduceSub]at hd
        simp only[Act.put,Zl2,Zl0,Zl1]at hK
        try simp only[hd]at hK
        have x9:u.cell? ⟨w.heap.size,0,none⟩=some (.int .u8 11):=hS.1.cell 0
        go_simp
        exact hK.out _ ⟨hS,Zab _ _⟩) (by kernel_rfl) (j:=4) rfl ?_
       refine Zaa [3] _ (fun L hL hcl v u hS hd K' hK=>by
        simp only[Zal,Zak,eqv,Zl3,Zl4,Nat.reduceSub]at hd
        simp only[Act.put,Zl2,Zl0,Zl1]at hK
        try simp only[hd]at hK
        go_simp
        exact hK.out _ ⟨hS,Zab _ _⟩) (by kernel_rfl) (j:=5) rfl ?_
       refine Zaa [4] _ (fun L hL hcl v u hS hd K' hK=>by
        simp only[Zal,Zak,eqv,Zl3,Zl4,Nat.reduceSub]at hd
        simp only[Act.put,Zl2,Zl0,Zl1]at hK
        try simp only[hd]at hK
        go_simp
        exact hK.out _ ⟨hS,Zab _ _⟩) (by kernel_rfl) (j:=6) rfl ?_
       refine Zaa [] _ (fun L hL hcl v u hS hd K' hK=>by
        simp only[Act.put,Zl2,Zl0,Zl1]at hK
        go_simp
        exact hK.out _ ⟨hS,Zab _ _⟩) (by kernel_rfl) (j:=7) rfl ?_
       refine Zaa [6] _ (fun L hL hcl v u hS hd K' hK=>by
        simp only[Zal,Zak,eqv,Zl3,Zl4,Nat.reduceSub]at hd
        simp only[Act.put,Zl2,Zl0,Zl1]at hK
        try simp only[hd]at hK
        have x9:u.cell? ⟨w.heap.size,2,none⟩=some (.string s):=hS.1.cell 2
        go_simp
        exact hK.out _ ⟨hS,Zab _ _⟩) (by kernel_rfl) (j:=8) rfl ?_
       refine Zaa [7] _ (fun L hL hcl v u hS hd K' hK=>by
        simp only[Zal,Zak,eqv,Zl3,Zl4,Nat.reduceSub]at hd
        simp only[Act.put,Zl2,Zl0,Zl1]at hK
        try simp only[hd]at hK
        go_simp
        exact hK.out _ ⟨hS,Zab _ _⟩) (by kernel_rfl) (j:=9) rfl ?_
       refine Zaa [8] _ (fun L hL hcl v u hS hd K' hK=>by
        simp only[Zal,Zak,eqv,Zl3,Zl4,Nat.reduceSub]at hd
        simp only[Act.put,Zl2,Zl0,Zl1]at hK
        try simp only[hd]at hK
        go_simp
        exact hK.out _ ⟨hS,Zab _ _⟩) (by kernel_rfl) (j:=10) rfl ?_
       refine Zaa [9] _ (fun L hL hcl v u hS hd K' hK=>by
        simp only[Zal,Zak,eqv,Zl3,Zl4,Nat.reduceSub]at hd
        simp only[Act.put,Zl2,Zl0,Zl1]at hK
        try simp only[hd]at hK
        go_simp
        exact hK.out _ ⟨hS,Zab _ _⟩) (by kernel_rfl) (j:=11) rfl ?_
       refine Zaa [10] _ (fun L hL hcl v u hS hd K' hK=>by
        simp only[Zal,Zak,eqv,Zl3,Zl4,Nat.reduceSub]at hd
        simp only[Act.put,Zl2,Zl0,Zl1]at hK
        try simp only[hd]at hK
        go_simp
        exact hK.out _ ⟨hS,Zab _ _⟩) (by kernel_rfl) (j:=12) rfl ?_
       refine Zaa [10,11] _ (fun L hL hcl v u hS hd K' hK=>by
        simp only[Zal,Zak,eqv,Zl3,Zl4,Nat.reduceSub]at hd
        simp only[Act.put,Zl2,Zl0,Zl1]at hK
        try simp only[hd]at hK
        have x9:u.cell? ⟨w.heap.size,2,none⟩=some (.string s):=hS.1.cell 2
        go_simp
        exact hK.out _ ⟨hS,Zab _ _⟩) (by kernel_rfl) (j:=13) rfl ?_
       refine Zaa [10,12] _ (fun L hL hcl v u hS hd K' hK=>by
        simp only[Zal,Zak,eqv,Zl3,Zl4,Nat.reduceSub]at hd
        simp only[Act.put,Zl2,Zl0,Zl1]at hK
        try simp only[hd]at hK
        go_simp
        exact hK.out _ ⟨hS,Zab _ _⟩) (by kernel_rfl) (j:=14) rfl ?_
       refine Zaa [10,13] _ (fun L hL hcl v u hS hd K' hK=>by
        simp only[Zal,Zak,eqv,Zl3,Zl4,Nat.reduceSub]at hd
        simp only[Act.put,Zl2,Zl0,Zl1]at hK
        try simp only[hd]at hK
        go_simp
        exact hK.out _ ⟨hS,Zab _ _⟩) (by kernel_rfl) (j:=15) rfl ?_
       refine Zaa [] _ (fun L hL hcl v u hS hd K' hK=>by
        simp only[Act.put,Zl2,Zl0,Zl1]at hK
        go_simp
        exact hK.out _ ⟨hS,Zab _ _⟩) (by kernel_rfl) (j:=16) rfl ?_
       refine Zam [1,15] (fun _ _=>True) (fun _ _ _ _ _ _ _=>trivial) (fun L hL hcl v u hS hd K' hK=>by
        simp only[Zal,Zak,eqv,Zl3,Zl4,Nat.reduceSub]at hd
        simp only[Act.put,Zl2,Zl0,Zl1]at hK
        try simp only[hd]at hK
        obtain ⟨h1,h2,h4,hb⟩:=hS
        rw[hL]at h4
        have y9:u.cell? ⟨w.heap.size+2,2,none⟩=some (.string ⟨#[]⟩):=h4.cell 2
        have z9:=h4.free 2
        go_simp
        exact hK.out undef _ ⟨⟨h1.far (p:=⟨w.heap.size+2,2,none⟩) (show w.heap.size ≠ w.heap.size+2 by omega) _,h2.far (p:=⟨w.heap.size+2,2,none⟩) (show w.heap.size+1 ≠ w.heap.size+2 by omega) _,h4.set 2 (.string s),hb.setCell (p:=⟨w.heap.size+2,2,none⟩) (show w.heap.size≤w.heap.size+2 by omega) _⟩,Zbn _ _ _ _,trivial⟩) (by kernel_rfl) (j:=17) rfl ?_
       refine Zaa [5] _ (fun L hL hcl v u hS hd K' hK=>by
        simp only[Zal,Zak,eqv,Zl3,Zl4,Nat.reduceSub]at hd
        simp only[Act.put,Zl2,Zl0,Zl1]at hK
        try simp only[hd]at hK
        go_simp
        exact hK.out _ ⟨hS,Zab _ _⟩) (by kernel_rfl) (j:=18) rfl ?_
       refine Zaa [14] _ (fun L hL hcl v u hS hd K' hK=>by
        simp only[Zal,Zak,eqv,Zl3,Zl4,Nat.reduceSub]at hd
        simp only[Act.put,Zl2,Zl0,Zl1]at hK
        try simp only[hd]at hK
        go_simp
        exact hK.out _ ⟨hS,Zab _ _⟩) (by kernel_rfl) (j:=19) rfl ?_
       refine Zau [17,18] (by decide) ?_
       rintro v u hS hR
       simp only[Zal,Zak,eqv,Zl3,Zl4,Nat.reduceSub]at hR
       obtain ⟨hr1,hr2⟩:=hR
       obtain ⟨h1,h2,h4,hb⟩:=hS
       go_wp2_with (first|(at_builtin;fail))
       go_meet
       case rel=>exact ⟨1,by first|rfl|exact hr1,fun _=>by rw[HK.out];rfl,by rw[HOK.out] <;> exact hr2,h1,h2,⟨none,0,by rw[HN.out,HS.out,HT.out,HL.out];exact h4⟩,hb⟩
   · subst hk
     have HOK:Hid (OK=true):=Zai (by rw[HO.out];simp[okC,Zcx])
     go_wp2_with (first|(at_builtin;fail))
     go_meet
     case rel=>exact ⟨1,rfl,fun _=>by rw[HK.out];rfl,by rw[HOK.out],k14,k24,⟨none,0,by rw[HN.out,HS.out,HT.out,HL.out];exact k4⟩,b4⟩
   · subst hk
     have HOK:Hid (OK=true):=Zai (by rw[HO.out];simp[okC,Zcx])
     go_wp2_with (first|(at_builtin;fail))
     go_meet
     case rel=>exact ⟨1,rfl,fun _=>by rw[HK.out];rfl,by rw[HOK.out],k14,k24,⟨none,0,by rw[HN.out,HS.out,HT.out,HL.out];exact k4⟩,b4⟩
   · subst hk
     have HOK:Hid (OK=true):=Zai (by rw[HO.out];simp[okC,Zcx])
     go_wp2_with (first|(at_builtin;fail))
     go_meet
     case rel=>exact ⟨3,rfl,fun _=>by rw[HK.out];rfl,by rw[HOK.out],k14,k24,⟨none,0,by rw[HN.out,HS.out,HT.out,HL.out];exact k4⟩,b4⟩
   · have f0:((o:Int) == 0)=false:=by rw[beq_eq_false_iff_ne];omega
     have f1:((o:Int) == 1)=false:=by rw[beq_eq_false_iff_ne];omega
     have f2:((o:Int) == 2)=false:=by rw[beq_eq_false_iff_ne];omega
     have f3:((o:Int) == 3)=false:=by rw[beq_eq_false_iff_ne];omega
     have f4:((o:Int) == 4)=false:=by rw[beq_eq_false_iff_ne];omega
     have f5:((o:Int) == 5)=false:=by rw[beq_eq_false_iff_ne];omega
     have f6:((o:Int) == 6)=false:=by rw[beq_eq_false_iff_ne];omega
     have f7:((o:Int) == 7)=false:=by rw[beq_eq_false_iff_ne];omega
     have f8:((o:Int) == 8)=false:=by rw[beq_eq_false_iff_ne];omega
     have f9:((o:Int) == 9)=false:=by rw[beq_eq_false_iff_ne];omega
     have f10:((o:Int) == 10)=false:=by rw[beq_eq_false_iff_ne];omega
     have f11:((o:Int) == 11)=false:=by rw[beq_eq_false_iff_ne];omega
     have f12:((o:Int) == 12)=false:=by rw[beq_eq_false_iff_ne];omega
     have f13:((o:Int) == 13)=false:=by rw[beq_eq_false_iff_ne];omega
     have f14:((o:Int) == 14)=false:=by rw[beq_eq_false_iff_ne];omega
     have HOK:Hid (OK=true):=Zai (by rw[HO.out];exact okC_big hk n s t ns c)
     have HKB:Hid (K=2):=Zai (by rw[HK.out];exact kidsC_big hk c)
     have HNB:Hid (N1=0∧S1=⟨#[]⟩∧T1=⟨#[]⟩∧L1=0):=Zai (by rw[HN.out,HS.out,HT.out,HL.out];exact mk_big hk n s t ns)
     clear hk
     go_wp2_with (first|(at_builtin;fail))
     go_meet
     case rel=>exact ⟨2,rfl,fun _=>by rw[HKB.out],by rw[HOK.out],k14,k24,⟨none,0,by obtain ⟨a1,a2,a3,a4⟩:=HNB.out;rw[a1,a2,a3,a4];exact k4⟩,b4⟩
 case rest=>
  obtain ⟨m,rfl,hmK,rfl,h1,h2,⟨A4,c4,h4⟩,hb⟩:=hcut
  rename World=>w9
  clear k14 k24 k4 b4 x0
  cases OK with
  | false=>
    have HRR:Hid (R=false):=Zai (by rw[hRl.out];rfl)
    clear hmK
    go_upto_region 31 with (first|(at_builtin;fail))
    refine Zap (fun L _ u=>Blk u w.heap.size (Zav o n s t (.slice A ns.length cA) (.slice B c cB)) 26∧Blk u (w.heap.size+1) (cond (L 14) (Zav o N1 S1 T1 (.slice A4 L1 c4) (.slice none 0 0)) Zag) 26∧Blk u (w.heap.size+2) (Zav o N1 S1 T1 (.slice A4 L1 c4) (.slice none 0 0)) 26∧Below w.heap.size w u) (fun _ _ _=>True) _ (by kernel_rfl) (by kernel_rfl) (fun v=>by simp only[Zbx,Act.put,List.toList_toArray,Zl2,Zl0,Zl1,Nat.reduceAdd,Nat.zero_add];rfl) ⟨h1,h2,h4,Zaj hb⟩ (fun L L' v u hL h=>by rw[←hL 14 (by decide)];exact h) ?_
    refine Zaa [] _ (fun L hL hcl v u hS hd K' hK=>by
     have k9:=hS.2.2.1
     refine Zbe rfl ?_
     refine wp_load_row 26 _ rfl _ rfl 26 (Zav o N1 S1 T1 (.slice A4 L1 c4) (.slice none 0 0)).toArray (0,0) _ k9 Tryz.underlying26 rfl (kE6 rfl) ?_
     exact hK.out _ ⟨hS,trivial⟩) (by kernel_rfl) (j:=1) rfl ?_
    refine Zaa [] _ (fun L hL hcl v u hS hd K' hK=>by
     simp only[Act.put,Zl2,Zl0,Zl1]at hK
     go_simp
     exact hK.out _ ⟨hS,trivial⟩) (by kernel_rfl) (j:=2) rfl ?_
    refine Zaa [1] _ (fun L hL hcl v u hS hd K' hK=>by
     simp only[Zal,Zak,eqv,Zl3,Zl4,Nat.reduceSub]at hd
     simp only[Act.put,Zl2,Zl0,Zl1]at hK
     try simp only[hd]at hK
     go_simp
     exact hK.out _ ⟨hS,trivial⟩) (by kernel_rfl) (j:=3) rfl ?_
    refine Zaa [2] _ (fun L hL hcl v u hS hd K' hK=>by
     simp only[Zal,Zak,eqv,Zl3,Zl4,Nat.reduceSub]at hd
     simp only[Act.put,Zl2,Zl0,Zl1]at hK
     try simp only[hd]at hK
     go_simp
     exact hK.out _ ⟨hS,trivial⟩) (by kernel_rfl) (j:=4) rfl ?_
    refine Zaa [2,3] _ (fun L hL hcl v u hS hd K' hK=>by
     simp only[Zal,Zak,eqv,Zl3,Zl4,Nat.reduceSub]at hd
     simp only[Act.put,Zl2,Zl0,Zl1]at hK
     try simp only[hd]at hK
     have x9:u.cell? ⟨w.heap.size,0,none⟩=some (.int .u8 (o:Int)):=hS.1.cell 0
     go_simp
     exact hK.out _ ⟨hS,trivial⟩) (by kernel_rfl) (j:=5) rfl ?_
    refine Zaa [2,4] _ (fun L hL hcl v u hS hd K' hK=>by
     simp only[Zal,Zak,eqv,Zl3,Zl4,Nat.reduceSub]at hd
     simp only[Act.put,Zl2,Zl0,Zl1]at hK
     try simp only[hd]at hK
     go_simp
     exact hK.out _ ⟨hS,trivial⟩) (by kernel_rfl) (j:=6) rfl ?_
    refine Zaa [2,5] _ (fun L hL hcl v u hS hd K' hK=>by
     simp only[Zal,Zak,eqv,Zl3,Zl4,Nat.reduceSub]at hd
     simp only[Act.put,Zl2,Zl0,Zl1]at hK
     try simp only[hd]at hK
     go_simp
     exact hK.out _ ⟨hS,trivial⟩) (by kernel_rfl) (j:=7) rfl ?_
    refine Zaa [6] _ (fun L hL hcl v u hS hd K' hK=>by
     simp only[Zal,Zak,eqv,Zl3,Zl4,Nat.reduceSub]at hd
     simp only[Act.put,Zl2,Zl0,Zl1]at hK
     try simp only[hd]at hK
     go_simp
     exact hK.out _ ⟨hS,trivial⟩) (by kernel_rfl) (j:=8) rfl ?_
    refine Zaa [7] _ (fun L hL hcl v u hS hd K' hK=>by
     simp only[Zal,Zak,eqv,Zl3,Zl4,Nat.reduceSub]at hd
     simp only[Act.put,Zl2,Zl0,Zl1]at hK
     try simp only[hd]at hK
     go_simp
     exact hK.out _ ⟨hS,trivial⟩) (by kernel_rfl) (j:=9) rfl ?_
    refine Zaa [7,8] _ (fun L hL hcl v u hS hd K' hK=>by
     simp only[Zal,Zak,eqv,Zl3,Zl4,Nat.reduceSub]at hd
     simp only[Act.put,Zl2,Zl0,Zl1]at hK
     try simp only[hd]at hK
     have x9:u.cell? ⟨w.heap.size,5,none⟩=some (.slice B c cB):=hS.1.cell 5
     go_simp
     exact hK.out _ ⟨hS,trivial⟩) (by kernel_rfl) (j:=10) rfl ?_
    refine Zaa [7,9] _ (fun L hL hcl v u hS hd K' hK=>by
     simp only[Zal,Zak,eqv,Zl3,Zl4,Nat.reduceSub]at hd
     simp only[Act.put,Zl2,Zl0,Zl1]at hK
     try simp only[hd]at hK
     go_simp
     exact hK.out _ ⟨hS,trivial⟩) (by kernel_rfl) (j:=11) rfl ?_
    refine Zaa [7] _ (fun L hL hcl v u hS hd K' hK=>by
     simp only[Zal,Zak,eqv,Zl3,Zl4,Nat.reduceSub]at hd
     simp only[Act.put,Zl2,Zl0,Zl1]at hK
     try simp only[hd]at hK
     go_simp
     exact hK.out _ ⟨hS,trivial⟩) (by kernel_rfl) (j:=12) rfl ?_
    refine Zaa [7,10,11] _ (fun L hL hcl v u hS hd K' hK=>by
     simp only[Zal,Zak,eqv,Zl3,Zl4,Nat.reduceSub]at hd
     simp only[Act.put,Zl2,Zl0,Zl1]at hK
     try simp only[hd]at hK
     go_simp
     exact hK.out _ ⟨hS,trivial⟩) (by kernel_rfl) (j:=13) rfl ?_
    refine Zaa [7,12] _ (fun L hL hcl v u hS hd K' hK=>by
     simp only[Zal,Zak,eqv,Zl3,Zl4,Nat.reduceSub]at hd
     simp only[Act.put,Zl2,Zl0,Zl1]at hK
     try simp only[hd]at hK
     go_simp
     exact hK.out _ ⟨hS,trivial⟩) (by kernel_rfl) (j:=14) rfl ?_
    refine Zam [0] (fun _ _=>True) (fun _ _ _ _ _ _ _=>trivial) (fun L hL hcl v u hS hd K' hK=>by
     simp only[Zal,Zak,eqv,Zl3,Zl4,Nat.reduceSub]at hd
     have k9:=hS.2.1
     rw[hL]at k9
     refine Zbe rfl ?_
     refine wp_store_row 26 _ _ rfl _ (Zav o N1 S1 T1 (.slice A4 L1 c4) (.slice none 0 0)).toArray rfl hd 26 Zag.toArray k9 (kE6 rfl) rfl (Zas Zcd) ?_
     exact hK.out undef _ ⟨⟨(Zch _ _ _ _ (by omega)).trans hS.1,k9.vrow _,(Zch _ _ _ _ (by omega)).trans hS.2.2.1,Zah hS.2.2.2 (by omega) _⟩,trivial,trivial⟩) (by kernel_rfl) (j:=15) rfl ?_
    refine Zaa [13] _ (fun L hL hcl v u hS hd K' hK=>by
     simp only[Zal,Zak,eqv,Zl3,Zl4,Nat.reduceSub]at hd
     simp only[Act.put,Zl2,Zl0,Zl1]at hK
     try simp only[hd]at hK
     go_simp
     exact hK.out _ ⟨hS,trivial⟩) (by kernel_rfl) (j:=16) rfl ?_
    refine Zau [15] (by decide) ?_
    rintro v u hS hR
    simp only[Zal,Zak,eqv,Zl3,Zl4,Nat.reduceSub]at hR
    obtain ⟨-,q2,-,qb⟩:=hS
    go_wp2_with (first|(at_builtin;fail))
    refine bodyPost_ret (eret2 rfl _ rfl q2 rfl rfl) rfl ⟨⟨A4,c4,?_⟩,qb⟩
    first|(rw[HRR.out];done)|(rw[HRR.out];rfl)
  | true=>
    have hmK2:m=K:=hmK rfl
    clear hmK
    by_cases ho30:o < 30
    · have hi1:(o:Int) < 30:=by omega
      by_cases hcm:c=m
      · have hi2:((c:Int) == (m:Int))=true:=by rw[beq_iff_eq];omega
        have HRR:Hid (R=true):=Zai (by rw[hRl.out];rw[decide_eq_true ho30,decide_eq_true (hcm.trans hmK2)];rfl)
        clear hmK2 hcm ho30
        go_upto_region 31 with (first|(at_builtin;fail))
        refine Zap (fun L _ u=>Blk u w.heap.size (Zav o n s t (.slice A ns.length cA) (.slice B c cB)) 26∧Blk u (w.heap.size+1) (cond (L 14) (Zav o N1 S1 T1 (.slice A4 L1 c4) (.slice none 0 0)) Zag) 26∧Blk u (w.heap.size+2) (Zav o N1 S1 T1 (.slice A4 L1 c4) (.slice none 0 0)) 26∧Below w.heap.size w u) (fun _ _ _=>True) _ (by kernel_rfl) (by kernel_rfl) (fun v=>by simp only[Zbx,Act.put,List.toList_toArray,Zl2,Zl0,Zl1,Nat.reduceAdd,Nat.zero_add];rfl) ⟨h1,h2,h4,Zaj hb⟩ (fun L L' v u hL h=>by rw[←hL 14 (by decide)];exact h) ?_
        refine Zaa [] _ (fun L hL hcl v u hS hd K' hK=>by
         have k9:=hS.2.2.1
         refine Zbe rfl ?_
         refine wp_load_row 26 _ rfl _ rfl 26 (Zav o N1 S1 T1 (.slice A4 L1 c4) (.slice none 0 0)).toArray (0,0) _ k9 Tryz.underlying26 rfl (kE6 rfl) ?_
         exact hK.out _ ⟨hS,trivial⟩) (by kernel_rfl) (j:=1) rfl ?_
        refine Zaa [] _ (fun L hL hcl v u hS hd K' hK=>by
         simp only[Act.put,Zl2,Zl0,Zl1]at hK
         go_simp
         exact hK.out _ ⟨hS,trivial⟩) (by kernel_rfl) (j:=2) rfl ?_
        refine Zaa [1] _ (fun L hL hcl v u hS hd K' hK=>by
         simp only[Zal,Zak,eqv,Zl3,Zl4,Nat.reduceSub]at hd
         simp only[Act.put,Zl2,Zl0,Zl1]at hK
         try simp only[hd]at hK
         go_simp
         exact hK.out _ ⟨hS,trivial⟩) (by kernel_rfl) (j:=3) rfl ?_
        refine Zaa [2] _ (fun L hL hcl v u hS hd K' hK=>by
         simp only[Zal,Zak,eqv,Zl3,Zl4,Nat.reduceSub]at hd
         simp only[Act.put,Zl2,Zl0,Zl1]at hK
         try simp only[hd]at hK
         go_simp
         exact hK.out _ ⟨hS,trivial⟩) (by kernel_rfl) (j:=4) rfl ?_
        refine Zaa [2,3] _ (fun L hL hcl v u hS hd K' hK=>by
         simp only[Zal,Zak,eqv,Zl3,Zl4,Nat.reduceSub]at hd
         simp only[Act.put,Zl2,Zl0,Zl1]at hK
         try simp only[hd]at hK
         have x9:u.cell? ⟨w.heap.size,0,none⟩=some (.int .u8 (o:Int)):=hS.1.cell 0
         go_simp
         exact hK.out _ ⟨hS,trivial⟩) (by kernel_rfl) (j:=5) rfl ?_
        refine Zaa [2,4] _ (fun L hL hcl v u hS hd K' hK=>by
         simp only[Zal,Zak,eqv,Zl3,Zl4,Nat.reduceSub]at hd
         simp only[Act.put,Zl2,Zl0,Zl1]at hK
         try simp only[hd]at hK
         go_simp
         exact hK.out _ ⟨hS,trivial⟩) (by kernel_rfl) (j:=6) rfl ?_
        refine Zaa [2,5] _ (fun L hL hcl v u hS hd K' hK=>by
         simp only[Zal,Zak,eqv,Zl3,Zl4,Nat.reduceSub]at hd
         simp only[Act.put,Zl2,Zl0,Zl1]at hK
         try simp only[hd]at hK
         go_simp
         exact hK.out _ ⟨hS,trivial⟩) (by kernel_rfl) (j:=7) rfl ?_
        refine Zaa [6] _ (fun L hL hcl v u hS hd K' hK=>by
         simp only[Zal,Zak,eqv,Zl3,Zl4,Nat.reduceSub]at hd
         simp only[Act.put,Zl2,Zl0,Zl1]at hK
         try simp only[hd]at hK
         go_simp
         exact hK.out _ ⟨hS,trivial⟩) (by kernel_rfl) (j:=8) rfl ?_
        refine Zaa [7] _ (fun L hL hcl v u hS hd K' hK=>by
         simp only[Zal,Zak,eqv,Zl3,Zl4,Nat.reduceSub]at hd
         simp only[Act.put,Zl2,Zl0,Zl1]at hK
         try simp only[hd]at hK
         go_simp
         exact hK.out _ ⟨hS,trivial⟩) (by kernel_rfl) (j:=9) rfl ?_
        refine Zaa [7,8] _ (fun L hL hcl v u hS hd K' hK=>by
         simp only[Zal,Zak,eqv,Zl3,Zl4,Nat.reduceSub]at hd
         simp only[Act.put,Zl2,Zl0,Zl1]at hK
         try simp only[hd]at hK
         have x9:u.cell? ⟨w.heap.size,5,none⟩=some (.slice B c cB):=hS.1.cell 5
         go_simp
         exact hK.out _ ⟨hS,trivial⟩) (by kernel_rfl) (j:=10) rfl ?_
        refine Zaa [7,9] _ (fun L hL hcl v u hS hd K' hK=>by
         simp only[Zal,Zak,eqv,Zl3,Zl4,Nat.reduceSub]at hd
         simp only[Act.put,Zl2,Zl0,Zl1]at hK
         try simp only[hd]at hK
         go_simp
         exact hK.out _ ⟨hS,trivial⟩) (by kernel_rfl) (j:=11) rfl ?_
        refine Zaa [7] _ (fun L hL hcl v u hS hd K' hK=>by
         simp only[Zal,Zak,eqv,Zl3,Zl4,Nat.reduceSub]at hd
         simp only[Act.put,Zl2,Zl0,Zl1]at hK
         try simp only[hd]at hK
         go_simp
         exact hK.out _ ⟨hS,trivial⟩) (by kernel_rfl) (j:=12) rfl ?_
        refine Zaa [7,10,11] _ (fun L hL hcl v u hS hd K' hK=>by
         simp only[Zal,Zak,eqv,Zl3,Zl4,Nat.reduceSub]at hd
         simp only[Act.put,Zl2,Zl0,Zl1]at hK
         try simp only[hd]at hK
         go_simp
         exact hK.out _ ⟨hS,trivial⟩) (by kernel_rfl) (j:=13) rfl ?_
        refine Zaa [7,12] _ (fun L hL hcl v u hS hd K' hK=>by
         simp only[Zal,Zak,eqv,Zl3,Zl4,Nat.reduceSub]at hd
         simp only[Act.put,Zl2,Zl0,Zl1]at hK
         try simp only[hd]at hK
         go_simp
         exact hK.out _ ⟨hS,trivial⟩) (by kernel_rfl) (j:=14) rfl ?_
        refine Zam [0] (fun _ _=>True) (fun _ _ _ _ _ _ _=>trivial) (fun L hL hcl v u hS hd K' hK=>by
         simp only[Zal,Zak,eqv,Zl3,Zl4,Nat.reduceSub]at hd
         have k9:=hS.2.1
         rw[hL]at k9
         refine Zbe rfl ?_
         refine wp_store_row 26 _ _ rfl _ (Zav o N1 S1 T1 (.slice A4 L1 c4) (.slice none 0 0)).toArray rfl hd 26 Zag.toArray k9 (kE6 rfl) rfl (Zas Zcd) ?_
         exact hK.out undef _ ⟨⟨(Zch _ _ _ _ (by omega)).trans hS.1,k9.vrow _,(Zch _ _ _ _ (by omega)).trans hS.2.2.1,Zah hS.2.2.2 (by omega) _⟩,trivial,trivial⟩) (by kernel_rfl) (j:=15) rfl ?_
        refine Zaa [13] _ (fun L hL hcl v u hS hd K' hK=>by
         simp only[Zal,Zak,eqv,Zl3,Zl4,Nat.reduceSub]at hd
         simp only[Act.put,Zl2,Zl0,Zl1]at hK
         try simp only[hd]at hK
         go_simp
         exact hK.out _ ⟨hS,trivial⟩) (by kernel_rfl) (j:=16) rfl ?_
        refine Zau [15] (by decide) ?_
        rintro v u hS hR
        simp only[Zal,Zak,eqv,Zl3,Zl4,Nat.reduceSub]at hR
        obtain ⟨-,q2,-,qb⟩:=hS
        go_wp2_with (first|(at_builtin;fail))
        refine bodyPost_ret (eret2 rfl _ rfl q2 rfl rfl) rfl ⟨⟨A4,c4,?_⟩,qb⟩
        first|(rw[HRR.out];done)|(rw[HRR.out];rfl)
      · have hi2:((c:Int) == (m:Int))=false:=by rw[beq_eq_false_iff_ne];omega
        have HRR:Hid (R=false):=Zai (by rw[hRl.out];rw[decide_eq_false (fun e:c=K=>hcm (e.trans hmK2.symm))];simp)
        clear hmK2 hcm ho30
        go_upto_region 31 with (first|(at_builtin;fail))
        refine Zap (fun L _ u=>Blk u w.heap.size (Zav o n s t (.slice A ns.length cA) (.slice B c cB)) 26∧Blk u (w.heap.size+1) (cond (L 14) (Zav o N1 S1 T1 (.slice A4 L1 c4) (.slice none 0 0)) Zag) 26∧Blk u (w.heap.size+2) (Zav o N1 S1 T1 (.slice A4 L1 c4) (.slice none 0 0)) 26∧Below w.heap.size w u) (fun _ _ _=>True) _ (by kernel_rfl) (by kernel_rfl) (fun v=>by simp only[Zbx,Act.put,List.toList_toArray,Zl2,Zl0,Zl1,Nat.reduceAdd,Nat.zero_add];rfl) ⟨h1,h2,h4,Zaj hb⟩ (fun L L' v u hL h=>by rw[←hL 14 (by decide)];exact h) ?_
        refine Zaa [] _ (fun L hL hcl v u hS hd K' hK=>by
         have k9:=hS.2.2.1
         refine Zbe rfl ?_
         refine wp_load_row 26 _ rfl _ rfl 26 (Zav o N1 S1 T1 (.slice A4 L1 c4) (.slice none 0 0)).toArray (0,0) _ k9 Tryz.underlying26 rfl (kE6 rfl) ?_
         exact hK.out _ ⟨hS,trivial⟩) (by kernel_rfl) (j:=1) rfl ?_
        refine Zaa [] _ (fun L hL hcl v u hS hd K' hK=>by
         simp only[Act.put,Zl2,Zl0,Zl1]at hK
         go_simp
         exact hK.out _ ⟨hS,trivial⟩) (by kernel_rfl) (j:=2) rfl ?_
        refine Zaa [1] _ (fun L hL hcl v u hS hd K' hK=>by
         simp only[Zal,Zak,eqv,Zl3,Zl4,Nat.reduceSub]at hd
         simp only[Act.put,Zl2,Zl0,Zl1]at hK
         try simp only[hd]at hK
         go_simp
         exact hK.out _ ⟨hS,trivial⟩) (by kernel_rfl) (j:=3) rfl ?_
        refine Zaa [2] _ (fun L hL hcl v u hS hd K' hK=>by
         simp only[Zal,Zak,eqv,Zl3,Zl4,Nat.reduceSub]at hd
         simp only[Act.put,Zl2,Zl0,Zl1]at hK
         try simp only[hd]at hK
         go_simp
         exact hK.out _ ⟨hS,trivial⟩) (by kernel_rfl) (j:=4) rfl ?_
        refine Zaa [2,3] _ (fun L hL hcl v u hS hd K' hK=>by
         simp only[Zal,Zak,eqv,Zl3,Zl4,Nat.reduceSub]at hd
         simp only[Act.put,Zl2,Zl0,Zl1]at hK
         try simp only[hd]at hK
         have x9:u.cell? ⟨w.heap.size,0,none⟩=some (.int .u8 (o:Int)):=hS.1.cell 0
         go_simp
         exact hK.out _ ⟨hS,trivial⟩) (by kernel_rfl) (j:=5) rfl ?_
        refine Zaa [2,4] _ (fun L hL hcl v u hS hd K' hK=>by
         simp only[Zal,Zak,eqv,Zl3,Zl4,Nat.reduceSub]at hd
         simp only[Act.put,Zl2,Zl0,Zl1]at hK
         try simp only[hd]at hK
         go_simp
         exact hK.out _ ⟨hS,trivial⟩) (by kernel_rfl) (j:=6) rfl ?_
        refine Zaa [2,5] _ (fun L hL hcl v u hS hd K' hK=>by
         simp only[Zal,Zak,eqv,Zl3,Zl4,Nat.reduceSub]at hd
         simp only[Act.put,Zl2,Zl0,Zl1]at hK
         try simp only[hd]at hK
         go_simp
         exact hK.out _ ⟨hS,trivial⟩) (by kernel_rfl) (j:=7) rfl ?_
        refine Zaa [6] _ (fun L hL hcl v u hS hd K' hK=>by
         simp only[Zal,Zak,eqv,Zl3,Zl4,Nat.reduceSub]at hd
         simp only[Act.put,Zl2,Zl0,Zl1]at hK
         try simp only[hd]at hK
         go_simp
         exact hK.out _ ⟨hS,trivial⟩) (by kernel_rfl) (j:=8) rfl ?_
        refine Zaa [7] _ (fun L hL hcl v u hS hd K' hK=>by
         simp only[Zal,Zak,eqv,Zl3,Zl4,Nat.reduceSub]at hd
         simp only[Act.put,Zl2,Zl0,Zl1]at hK
         try simp only[hd]at hK
         go_simp
         exact hK.out _ ⟨hS,trivial⟩) (by kernel_rfl) (j:=9) rfl ?_
        refine Zaa [7,8] _ (fun L hL hcl v u hS hd K' hK=>by
         simp only[Zal,Zak,eqv,Zl3,Zl4,Nat.reduceSub]at hd
         simp only[Act.put,Zl2,Zl0,Zl1]at hK
         try simp only[hd]at hK
         have x9:u.cell? ⟨w.heap.size,5,none⟩=some (.slice B c cB):=hS.1.cell 5
         go_simp
         exact hK.out _ ⟨hS,trivial⟩) (by kernel_rfl) (j:=10) rfl ?_
        refine Zaa [7,9] _ (fun L hL hcl v u hS hd K' hK=>by
         simp only[Zal,Zak,eqv,Zl3,Zl4,Nat.reduceSub]at hd
         simp only[Act.put,Zl2,Zl0,Zl1]at hK
         try simp only[hd]at hK
         go_simp
         exact hK.out _ ⟨hS,trivial⟩) (by kernel_rfl) (j:=11) rfl ?_
        refine Zaa [7] _ (fun L hL hcl v u hS hd K' hK=>by
         simp only[Zal,Zak,eqv,Zl3,Zl4,Nat.reduceSub]at hd
         simp only[Act.put,Zl2,Zl0,Zl1]at hK
         try simp only[hd]at hK
         go_simp
         exact hK.out _ ⟨hS,trivial⟩) (by kernel_rfl) (j:=12) rfl ?_
        refine Zaa [7,10,11] _ (fun L hL hcl v u hS hd K' hK=>by
         simp only[Zal,Zak,eqv,Zl3,Zl4,Nat.reduceSub]at hd
         simp only[Act.put,Zl2,Zl0,Zl1]at hK
         try simp only[hd]at hK
         go_simp
         exact hK.out _ ⟨hS,trivial⟩) (by kernel_rfl) (j:=13) rfl ?_
        refine Zaa [7,12] _ (fun L hL hcl v u hS hd K' hK=>by
         simp only[Zal,Zak,eqv,Zl3,Zl4,Nat.reduceSub]at hd
         simp only[Act.put,Zl2,Zl0,Zl1]at hK
         try simp only[hd]at hK
         go_simp
         exact hK.out _ ⟨hS,trivial⟩) (by kernel_rfl) (j:=14) rfl ?_
        refine Zam [0] (fun _ _=>True) (fun _ _ _ _ _ _ _=>trivial) (fun L hL hcl v u hS hd K' hK=>by
         simp only[Zal,Zak,eqv,Zl3,Zl4,Nat.reduceSub]at hd
         have k9:=hS.2.1
         rw[hL]at k9
         refine Zbe rfl ?_
         refine wp_store_row 26 _ _ rfl _ (Zav o N1 S1 T1 (.slice A4 L1 c4) (.slice none 0 0)).toArray rfl hd 26 Zag.toArray k9 (kE6 rfl) rfl (Zas Zcd) ?_
         exact hK.out undef _ ⟨⟨(Zch _ _ _ _ (by omega)).trans hS.1,k9.vrow _,(Zch _ _ _ _ (by omega)).trans hS.2.2.1,Zah hS.2.2.2 (by omega) _⟩,trivial,trivial⟩) (by kernel_rfl) (j:=15) rfl ?_
        refine Zaa [13] _ (fun L hL hcl v u hS hd K' hK=>by
         simp only[Zal,Zak,eqv,Zl3,Zl4,Nat.reduceSub]at hd
         simp only[Act.put,Zl2,Zl0,Zl1]at hK
         try simp only[hd]at hK
         go_simp
         exact hK.out _ ⟨hS,trivial⟩) (by kernel_rfl) (j:=16) rfl ?_
        refine Zau [15] (by decide) ?_
        rintro v u hS hR
        simp only[Zal,Zak,eqv,Zl3,Zl4,Nat.reduceSub]at hR
        obtain ⟨-,q2,-,qb⟩:=hS
        go_wp2_with (first|(at_builtin;fail))
        refine bodyPost_ret (eret2 rfl _ rfl q2 rfl rfl) rfl ⟨⟨A4,c4,?_⟩,qb⟩
        first|(rw[HRR.out];done)|(rw[HRR.out];rfl)
    · have hi1:¬ (o:Int) < 30:=by omega
      have HRR:Hid (R=false):=Zai (by rw[hRl.out];rw[decide_eq_false ho30];rfl)
      clear hmK2 ho30
      go_upto_region 31 with (first|(at_builtin;fail))
      refine Zap (fun L _ u=>Blk u w.heap.size (Zav o n s t (.slice A ns.length cA) (.slice B c cB)) 26∧Blk u (w.heap.size+1) (cond (L 14) (Zav o N1 S1 T1 (.slice A4 L1 c4) (.slice none 0 0)) Zag) 26∧Blk u (w.heap.size+2) (Zav o N1 S1 T1 (.slice A4 L1 c4) (.slice none 0 0)) 26∧Below w.heap.size w u) (fun _ _ _=>True) _ (by kernel_rfl) (by kernel_rfl) (fun v=>by simp only[Zbx,Act.put,List.toList_toArray,Zl2,Zl0,Zl1,Nat.reduceAdd,Nat.zero_add];rfl) ⟨h1,h2,h4,Zaj hb⟩ (fun L L' v u hL h=>by rw[←hL 14 (by decide)];exact h) ?_
      refine Zaa [] _ (fun L hL hcl v u hS hd K' hK=>by
       have k9:=hS.2.2.1
       refine Zbe rfl ?_
       refine wp_load_row 26 _ rfl _ rfl 26 (Zav o N1 S1 T1 (.slice A4 L1 c4) (.slice none 0 0)).toArray (0,0) _ k9 Tryz.underlying26 rfl (kE6 rfl) ?_
       exact hK.out _ ⟨hS,trivial⟩) (by kernel_rfl) (j:=1) rfl ?_
      refine Zaa [] _ (fun L hL hcl v u hS hd K' hK=>by
       simp only[Act.put,Zl2,Zl0,Zl1]at hK
       go_simp
       exact hK.out _ ⟨hS,trivial⟩) (by kernel_rfl) (j:=2) rfl ?_
      refine Zaa [1] _ (fun L hL hcl v u hS hd K' hK=>by
       simp only[Zal,Zak,eqv,Zl3,Zl4,Nat.reduceSub]at hd
       simp only[Act.put,Zl2,Zl0,Zl1]at hK
       try simp only[hd]at hK
       go_simp
       exact hK.out _ ⟨hS,trivial⟩) (by kernel_rfl) (j:=3) rfl ?_
      refine Zaa [2] _ (fun L hL hcl v u hS hd K' hK=>by
       simp only[Zal,Zak,eqv,Zl3,Zl4,Nat.reduceSub]at hd
       simp only[Act.put,Zl2,Zl0,Zl1]at hK
       try simp only[hd]at hK
       go_simp
       exact hK.out _ ⟨hS,trivial⟩) (by kernel_rfl) (j:=4) rfl ?_
      refine Zaa [2,3] _ (fun L hL hcl v u hS hd K' hK=>by
       simp only[Zal,Zak,eqv,Zl3,Zl4,Nat.reduceSub]at hd
       simp only[Act.put,Zl2,Zl0,Zl1]at hK
       try simp only[hd]at hK
       have x9:u.cell? ⟨w.heap.size,0,none⟩=some (.int .u8 (o:Int)):=hS.1.cell 0
       go_simp
       exact hK.out _ ⟨hS,trivial⟩) (by kernel_rfl) (j:=5) rfl ?_
      refine Zaa [2,4] _ (fun L hL hcl v u hS hd K' hK=>by
       simp only[Zal,Zak,eqv,Zl3,Zl4,Nat.reduceSub]at hd
       simp only[Act.put,Zl2,Zl0,Zl1]at hK
       try simp only[hd]at hK
       go_simp
       exact hK.out _ ⟨hS,trivial⟩) (by kernel_rfl) (j:=6) rfl ?_
      refine Zaa [2,5] _ (fun L hL hcl v u hS hd K' hK=>by
       simp only[Zal,Zak,eqv,Zl3,Zl4,Nat.reduceSub]at hd
       simp only[Act.put,Zl2,Zl0,Zl1]at hK
       try simp only[hd]at hK
       go_simp
       exact hK.out _ ⟨hS,trivial⟩) (by kernel_rfl) (j:=7) rfl ?_
      refine Zaa [6] _ (fun L hL hcl v u hS hd K' hK=>by
       simp only[Zal,Zak,eqv,Zl3,Zl4,Nat.reduceSub]at hd
       simp only[Act.put,Zl2,Zl0,Zl1]at hK
       try simp only[hd]at hK
       go_simp
       exact hK.out _ ⟨hS,trivial⟩) (by kernel_rfl) (j:=8) rfl ?_
      refine Zaa [7] _ (fun L hL hcl v u hS hd K' hK=>by
       simp only[Zal,Zak,eqv,Zl3,Zl4,Nat.reduceSub]at hd
       simp only[Act.put,Zl2,Zl0,Zl1]at hK
       try simp only[hd]at hK
       go_simp
       exact hK.out _ ⟨hS,trivial⟩) (by kernel_rfl) (j:=9) rfl ?_
      refine Zaa [7,8] _ (fun L hL hcl v u hS hd K' hK=>by
       simp only[Zal,Zak,eqv,Zl3,Zl4,Nat.reduceSub]at hd
       simp only[Act.put,Zl2,Zl0,Zl1]at hK
       try simp only[hd]at hK
       have x9:u.cell? ⟨w.heap.size,5,none⟩=some (.slice B c cB):=hS.1.cell 5
       go_simp
       exact hK.out _ ⟨hS,trivial⟩) (by kernel_rfl) (j:=10) rfl ?_
      refine Zaa [7,9] _ (fun L hL hcl v u hS hd K' hK=>by
       simp only[Zal,Zak,eqv,Zl3,Zl4,Nat.reduceSub]at hd
       simp only[Act.put,Zl2,Zl0,Zl1]at hK
       try simp only[hd]at hK
       go_simp
       exact hK.out _ ⟨hS,trivial⟩) (by kernel_rfl) (j:=11) rfl ?_
      refine Zaa [7] _ (fun L hL hcl v u hS hd K' hK=>by
       simp only[Zal,Zak,eqv,Zl3,Zl4,Nat.reduceSub]at hd
       simp only[Act.put,Zl2,Zl0,Zl1]at hK
       try simp only[hd]at hK
       go_simp
       exact hK.out _ ⟨hS,trivial⟩) (by kernel_rfl) (j:=12) rfl ?_
      refine Zaa [7,10,11] _ (fun L hL hcl v u hS hd K' hK=>by
       simp only[Zal,Zak,eqv,Zl3,Zl4,Nat.reduceSub]at hd
       simp only[Act.put,Zl2,Zl0,Zl1]at hK
       try simp only[hd]at hK
       go_simp
       exact hK.out _ ⟨hS,trivial⟩) (by kernel_rfl) (j:=13) rfl ?_
      refine Zaa [7,12] _ (fun L hL hcl v u hS hd K' hK=>by
       simp only[Zal,Zak,eqv,Zl3,Zl4,Nat.reduceSub]at hd
       simp only[Act.put,Zl2,Zl0,Zl1]at hK
       try simp only[hd]at hK
       go_simp
       exact hK.out _ ⟨hS,trivial⟩) (by kernel_rfl) (j:=14) rfl ?_
      refine Zam [0] (fun _ _=>True) (fun _ _ _ _ _ _ _=>trivial) (fun L hL hcl v u hS hd K' hK=>by
       simp only[Zal,Zak,eqv,Zl3,Zl4,Nat.reduceSub]at hd
       have k9:=hS.2.1
       rw[hL]at k9
       refine Zbe rfl ?_
       refine wp_store_row 26 _ _ rfl _ (Zav o N1 S1 T1 (.slice A4 L1 c4) (.slice none 0 0)).toArray rfl hd 26 Zag.toArray k9 (kE6 rfl) rfl (Zas Zcd) ?_
       exact hK.out undef _ ⟨⟨(Zch _ _ _ _ (by omega)).trans hS.1,k9.vrow _,(Zch _ _ _ _ (by omega)).trans hS.2.2.1,Zah hS.2.2.2 (by omega) _⟩,trivial,trivial⟩) (by kernel_rfl) (j:=15) rfl ?_
      refine Zaa [13] _ (fun L hL hcl v u hS hd K' hK=>by
       simp only[Zal,Zak,eqv,Zl3,Zl4,Nat.reduceSub]at hd
       simp only[Act.put,Zl2,Zl0,Zl1]at hK
       try simp only[hd]at hK
       go_simp
       exact hK.out _ ⟨hS,trivial⟩) (by kernel_rfl) (j:=16) rfl ?_
      refine Zau [15] (by decide) ?_
      rintro v u hS hR
      simp only[Zal,Zak,eqv,Zl3,Zl4,Nat.reduceSub]at hR
      obtain ⟨-,q2,-,qb⟩:=hS
      go_wp2_with (first|(at_builtin;fail))
      refine bodyPost_ret (eret2 rfl _ rfl q2 rfl rfl) rfl ⟨⟨A4,c4,?_⟩,qb⟩
      first|(rw[HRR.out];done)|(rw[HRR.out];rfl)
end Go.Proofs.YtnhooehmcggmdaaGreatDoor
