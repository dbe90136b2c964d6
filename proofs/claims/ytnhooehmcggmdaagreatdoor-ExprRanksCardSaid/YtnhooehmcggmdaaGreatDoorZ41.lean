/- Parts of a proof about the given program: XSize, XChkW. -/
import Derived.Test.YtnhooehmcggmdaaGreatDoorZ40
import Derived.Test.YtnhooehmcggmdaaGreatDoorZ27
import Derived.Test.YtnhooehmcggmdaaGreatDoorZ23
import Derived.Test.YtnhooehmcggmdaaGreatDoorZ35
namespace Go.Proofs.YtnhooehmcggmdaaGreatDoor
set_option maxHeartbeats 16000000
set_option linter.unusedVariables false
set_option linter.unusedSimpArgs false
set_option linter.unusedSectionVars false
open Go.RowKit
theorem ba_inj {s t:ByteArray} (h:s.toList=t.toList):s=t:=by
 rw[ByteArray.toList_eq,ByteArray.toList_eq]at h
 rw[←Zdh s,←Zdh t,h]
theorem ba_beq (s t:ByteArray):(s.toList == t.toList)=decide (s=t):=by
 by_cases h:s=t
 · rw[h];simp
 · rw[decide_eq_false h,beq_eq_false_iff_ne]
   exact fun e=>h (ba_inj e)
theorem hts_snoc:∀ (l:List Et) (x:Et),Et.hts (l ++ [x])=max (Et.hts l) x.ht
 | [],x=>by
   show Et.hts [x]=max (Et.hts []) x.ht
   have h:Et.hts [x]=max x.ht (Et.hts []):=by
    conv=>lhs;rw[Et.hts]
   rw[h,Nat.max_comm]
 | y :: l,x=>by rw[List.cons_append,Et.hts,Et.hts,hts_snoc l x];omega
theorem Zns:∀ (l:List Et) (x:Et),Zcw (l ++ [x])=(Zcw l && Zbt x)
 | [],x=>by
   show Zcw [x]=(Zcw [] && Zbt x)
   have h:Zcw [x]=(Zbt x && Zcw []):=by
    conv=>lhs;rw[Zcw]
   rw[h,Bool.and_comm]
 | y :: l,x=>by rw[List.cons_append,Zcw,Zcw,Zns l x,Bool.and_assoc]
theorem hts_next (l:List Et) (i:Nat) (x:Et) (h:l[i]?=some x):Et.hts (l.take (i+1))=max (Et.hts (l.take i)) x.ht:=by rw[List.take_add_one,h];exact hts_snoc _ _
theorem Zxx (l:List Et) (i:Nat) (x:Et) (h:l[i]?=some x):Et.nodess (l.take (i+1))=Et.nodess (l.take i)+x.nodes:=by rw[List.take_add_one,h];show Et.nodess (_ ++ [x])=_;rw[Zev,Zdx]
theorem Zur (l:List Et) (i:Nat) (x:Et) (h:l[i]?=some x):Zcw (l.take (i+1))=(Zcw (l.take i) && Zbt x):=by rw[List.take_add_one,h];exact Zns _ _
theorem Zxw (l:List Et) (i:Nat):Et.nodess (l.take i)≤Et.nodess l:=by
 have h:=Zev (l.take i) (l.drop i)
 rw[List.take_append_drop]at h
 omega
mutual
theorem ht_nodes:∀ e:Et,e.ht≤e.nodes
 | .mk o n s t ns l=>by
   rw[Et.ht,Et.nodes]
   have:=Zvp l
   omega
theorem Zvp:∀ l:List Et,Et.hts l≤Et.nodess l
 | []=>by rw[Et.hts,Et.nodess];exact Nat.le_refl _
 | x :: l=>by
   rw[Et.hts,Et.nodess]
   have:=ht_nodes x
   have:=Zvp l
   omega
end
theorem nodes_mem {x:Et} {l:List Et} (h:x ∈ l):x.nodes≤Et.nodess l:=by
 induction l with
 | nil=>cases h
 | cons y l ih=>
   rw[Et.nodess]
   rcases List.mem_cons.1 h with rfl|h
   · omega
   · have:=ih h;omega
theorem Zru (n:Nat) (h:n≤9223372036854775807):IntKind.i64.wrap (n:Int)=(n:Int):=by
 simp[IntKind.wrap,IntKind.signed,IntKind.bits]
 omega
set_option maxRecDepth 100000 in
theorem size_n:∀ (N:Nat) (e:Et),e.ht≤N→∀ (r:List Value) (P:Nat→Prop) (w0 w:World),EAt w0 P e r→Below w0.heap.size w0 w→Tb w0→e.nodes≤4611686018427387904 →
 Calls Tryz.prog 24 #[.agg r.toArray] w fun q w'=>q=.returned (.tuple #[.int .i64 (e.ht:Int),.int .i64 (e.nodes:Int),.bool (Zbt e)])∧Below w.heap.size w w':=by
 intro N
 induction N with
 | zero=>intro e h;cases e;rw[Et.ht]at h;omega
 | succ N ih=>
   intro e hht r P w0 w hr hbw htab hnod
   obtain ⟨o,n,s,t,ns,l⟩:=e
   have hhn:=ht_nodes (.mk o n s t ns l)
   have hh1:(Et.mk o n s t ns l).ht=Et.hts l+1:=by rw[Et.ht]
   have hh2:=Zcm o n s t ns l
   have hh3:Zbt (.mk o n s t ns l)=(Zmc o n s t ns l.length && Zcw l):=by rw[Zbt]
   rw[EAt]at hr
   obtain ⟨A,cA,B,cB,rows,hrw,⟨ho,hn1,hn2,hss,hts⟩,hTx,hnsz,⟨hnl,-,hll,-⟩,-,hLi,hEs⟩:=hr
   have kr:=Blk.new w r 26
   have hb0:=Zac w (.cells r.toArray 26)
   obtain ⟨W,hW⟩:=Zaf (w.alloc (.cells r.toArray 26))
   have hWl:Hid (W=w.alloc (.cells #[.int .u8 (o:Int),.int .i64 n,.string s,.string t,.slice A ns.length cA,.slice B l.length cB] 26)):=by
    rw[hrw]at hW
    exact hW
   rw[←hW.out]at kr hb0
   have hbw0:Below w0.heap.size w0 W:=bt hbw hb0
   have hbare:=bare_w o n s t ns A B cA l.length cB W ho hss hts (hTx.below hbw0) hnsz hnl hll (htab.below hbw0)
   rw[←hrw]at hbare
   have hNB:=bare_node o n s t ns l.length
   obtain ⟨R,HR⟩:=Zaf (Zrs o n s t ns l.length)
   obtain ⟨N1,HN⟩:=Zaf (mkN o n)
   obtain ⟨S1,HS⟩:=Zaf (mkS o s)
   obtain ⟨T1,HT⟩:=Zaf (mkT o t)
   obtain ⟨L1,HL⟩:=Zaf (mkL o ns).length
   rw[←HR.out,←HN.out,←HS.out,←HT.out,←HL.out]at hbare hNB
   obtain ⟨NB,HNB⟩:=Zaf (Zmc o n s t ns l.length)
   rw[←HNB.out]at hNB hh3
   obtain ⟨nn,hnn⟩:=Zaf ns.length
   obtain ⟨lm,hlm⟩:=Zaf l.length
   rw[←hnn.out]at hNB
   rw[←hnn.out,←hlm.out]at hWl
   have HRW:=Zai hrw
   have hkr:∀ u:World,Blk u w.heap.size r 26→u.cell? ⟨w.heap.size,1,none⟩=some (.int .i64 n)∧u.cell? ⟨w.heap.size,2,none⟩=some (.string s)∧u.cell? ⟨w.heap.size,3,none⟩=some (.string t)∧u.cell? ⟨w.heap.size,4,none⟩=some (.slice A nn cA)∧u.cell? ⟨w.heap.size,5,none⟩=some (.slice B lm cB):=fun u h=>by
    rw[HRW.out]at h
    rw[hnn.out,hlm.out]
    exact ⟨h.cell 1,h.cell 2,h.cell 3,h.cell 4,h.cell 5⟩
   have HKR:=Zai hkr
   have HH1:=Zai hh1
   have HH2:=Zai hh2
   have HH3:=Zai hh3
   have HNBl:=Zai hNB.symm
   have HLI:=Zai hLi
   have HES:=Zai hEs
   have h6r:r.length=6:=by rw[hrw];rfl
   have HIH:=Zai ih
   have hllm:Hid (l.length * 96≤Zbq):=Zai hll
   rw[hh2]at hnod
   rw[hh1]at hht
   have HHT:=Zai hht
   have hlmb:lm≤1466015503701:=by rw[hlm.out];unfold Zbq at hll;omega
   rw[hh1,hh2]at hhn
   rw[hh1,hh2,hh3]
   clear HR HN HS HT HL HNB hkr hh1 hh2 hh3 hNB hLi hEs hTx hnsz hnl hll hW ih hht
   rw[show (Value.agg r.toArray)=.agg #[.int .u8 (o:Int),.int .i64 n,.string s,.string t,.slice A nn cA,.slice B lm cB] from by rw[hrw,hnn.out,hlm.out];rfl]
   clear hrw
   go_enter Tryz.func24,Tryz.ntmps24
   go_upto_region 1 with (first|(at_builtin;fail))
   rw[←hWl.out]
   clear hWl
   go_wp2_with (first
    | (at_builtin;fail)
    | refine wpList_load_row rfl 26 _ rfl _ rfl 26 r.toArray (0,0) _ kr Tryz.underlying26 rfl (kE6 h6r) ?_)
   refine hbare.mono ?_
   clear hbare
   rintro q w1 ⟨⟨A',c',rfl⟩,hb1⟩
   have k5:=Blk.new w1 Zag 26
   have hb5:=Zac w1 (.cells Zag.toArray 26)
   obtain ⟨W5,hW5⟩:=Zaf (w1.alloc (.cells Zag.toArray 26))
   have hW5l:Hid (W5=w1.alloc (.cells #[.int .u8 0,.int .i64 0,.string ⟨#[]⟩,.string ⟨#[]⟩,.slice none 0 0,.slice none 0 0] 26)):=hW5
   rw[←hW5.out]at k5 hb5
   have kq:=k5.vrow (Zav o N1 S1 T1 (.slice A' L1 c') (.slice none 0 0))
   have hbq:=Zah hb5 (Nat.le_refl _) (Zav o N1 S1 T1 (.slice A' L1 c') (.slice none 0 0)).toArray
   obtain ⟨W6,hW6⟩:=Zaf (W5.setRow w1.heap.size (Zav o N1 S1 T1 (.slice A' L1 c') (.slice none 0 0)).toArray)
   rw[←hW6.out]at kq hbq
   have kr6:=(kr.below hb1).below hbq
   have hbw6:Below w.heap.size w W6:=bt (bt hb0 hb1) hbq
   clear hW5 hb5 hb1 hb0 hbw0 hbq kr
   go_upto_region 2 with (first
    | (at_builtin;fail)
    | (rw[←hW5l.out];refine wpList_store_row rfl 26 _ _ rfl _ (Zav o N1 S1 T1 (.slice A' L1 c') (.slice none 0 0)).toArray rfl rfl 26 Zag.toArray k5 (kE6 rfl) rfl (Zas Zcd) ?_;rw[←hW6.out]))
   clear hW5l hW6 k5
   obtain ⟨k9,hk9⟩:=Zaf w1.heap.size
   rw[←hk9.out]at kq ⊢
   clear hk9
   obtain ⟨x1,x2,x3,x4,x5⟩:=HKR.out W6 kr6
   have y1:W6.cell? ⟨k9,1,none⟩=some (.int .i64 N1):=kq.cell 1
   have y2:W6.cell? ⟨k9,2,none⟩=some (.string S1):=kq.cell 2
   have y3:W6.cell? ⟨k9,3,none⟩=some (.string T1):=kq.cell 3
   have y4:W6.cell? ⟨k9,4,none⟩=some (.slice A' L1 c'):=kq.cell 4
   go_cut [4] from 16 to 46 (fun z wx=>z=.bool NB∧wx=W6)
   case first=>
    as_aux_lemma=>
     cases R with
     | false=>
       have HQ:Hid (NB=false):=Zai (by rw[HNBl.out];rfl)
       clear HNBl
       go_wp2_with (first|(at_builtin;fail))
       go_meet
       case rel=>exact ⟨by rw[HQ.out],rfl⟩
     | true=>
       by_cases e1:N1=n
       · have f1:(N1 == n)=true:=by rw[beq_iff_eq];exact e1
         by_cases e2:S1=s
         · have f2:(S1.toList == s.toList)=true:=by rw[ba_beq];exact decide_eq_true e2
           by_cases e3:T1=t
           · have f3:(T1.toList == t.toList)=true:=by rw[ba_beq];exact decide_eq_true e3
             by_cases e4:L1=nn
             · have f4:((L1:Int) == (nn:Int))=true:=by rw[beq_iff_eq];omega
               have HQ:Hid (NB=true):=Zai (by rw[HNBl.out,decide_eq_true e1,decide_eq_true e2,decide_eq_true e3,decide_eq_true e4];rfl)
               clear HNBl e1 e2 e3 e4
               go_wp2_with (first|(at_builtin;fail))
               go_meet
               case rel=>exact ⟨by rw[HQ.out],rfl⟩
             · have f4:((L1:Int) == (nn:Int))=false:=by rw[beq_eq_false_iff_ne];omega
               have HQ:Hid (NB=false):=Zai (by rw[HNBl.out,decide_eq_false e4];simp)
               clear HNBl e1 e2 e3 e4
               go_wp2_with (first|(at_builtin;fail))
               go_meet
               case rel=>exact ⟨by rw[HQ.out],rfl⟩
           · have f3:(T1.toList == t.toList)=false:=by rw[ba_beq];exact decide_eq_false e3
             have HQ:Hid (NB=false):=Zai (by rw[HNBl.out,decide_eq_false e3];simp)
             clear HNBl e1 e2 e3
             go_wp2_with (first|(at_builtin;fail))
             go_meet
             case rel=>exact ⟨by rw[HQ.out],rfl⟩
         · have f2:(S1.toList == s.toList)=false:=by rw[ba_beq];exact decide_eq_false e2
           have HQ:Hid (NB=false):=Zai (by rw[HNBl.out,decide_eq_false e2];simp)
           clear HNBl e1 e2
           go_wp2_with (first|(at_builtin;fail))
           go_meet
           case rel=>exact ⟨by rw[HQ.out],rfl⟩
       · have f1:(N1 == n)=false:=by rw[beq_eq_false_iff_ne];exact e1
         have HQ:Hid (NB=false):=Zai (by rw[HNBl.out,decide_eq_false e1];simp)
         clear HNBl e1
         go_wp2_with (first|(at_builtin;fail))
         go_meet
         case rel=>exact ⟨by rw[HQ.out],rfl⟩
   case rest=>
    obtain ⟨rfl,rfl⟩:=hcut
    clear y1 y2 y3 y4 x1 x2 x3 x4 kq HNBl
    go_wp2_with (first|(at_builtin;fail))
    go_loopw [2,3,4,7,8,9,10,50] (fun a c d _ _ _ _ i wr=>∃ (k:Nat) (ok:Bool) (H M:Nat),k≤lm∧i=.int .i64 k∧a=.int .i64 H∧c=.int .i64 M∧d=.bool ok∧Hid (H=Et.hts (l.take k))∧Hid (M=Et.nodess (l.take k))∧Hid (ok=(NB && Zcw (l.take k)))∧Below w.heap.size w wr) (fun _ _ _ _ _ _ _ i _=>lm - (intOf i).toNat)
    case atStart=>exact ⟨0,NB,0,0,Nat.zero_le _,rfl,rfl,rfl,rfl,Zai (by rw[List.take_zero,Et.hts]),Zai (by rw[List.take_zero,Et.nodess]),Zai (by rw[List.take_zero,Zcw,Bool.and_true]),hbw6⟩
    case round=>
     clear hbw6 x5 kr6
     obtain ⟨k,ok,H,M,hk,rfl,rfl,rfl,rfl,HH,HM,HO,hbr⟩:=hrel
     by_cases hlt:k < lm
     · have hi0:(0:Int)≤(k:Int):=by omega
       have hi1:(k:Int) < (lm:Int):=by omega
       obtain ⟨x,hx⟩:∃ x,l[k]?=some x:=⟨l[k]'(by rw[←hlm.out];exact hlt),List.getElem?_eq_getElem _⟩
       obtain ⟨q,hq,hqv⟩:=(Zbm HES.out).2 k x hx
       obtain ⟨gB,oB,rfl,-⟩:=HLI.out.2 (by
        have h9:=Zci HES.out
        intro e
        rw[e]at h9
        simp at h9
        have:=hlm.out
        omega)
       have hrg:=Zbf (Zdt HLI.out (Zbl HES.out) hq) (bt hbw hbr)
       have hrq:=Zcl (Zcf hqv)
       have k5:=Blk.new wr Zag 26
       have hb5:=Zac wr (.cells Zag.toArray 26)
       obtain ⟨W7,hW7⟩:=Zaf (wr.alloc (.cells Zag.toArray 26))
       have hW7l:Hid (W7=wr.alloc (.cells #[.int .u8 0,.int .i64 0,.string ⟨#[]⟩,.string ⟨#[]⟩,.slice none 0 0,.slice none 0 0] 26)):=hW7
       rw[←hW7.out]at k5 hb5
       have kq:=k5.vrow q
       have hbq:=Zah hb5 (Nat.le_refl _) q.toArray
       obtain ⟨W8,hW8⟩:=Zaf (W7.setRow wr.heap.size q.toArray)
       rw[←hW8.out]at kq hbq
       have hbr8:Below w.heap.size w W8:=bt hbr hbq
       have hxm:=nodes_mem (List.mem_of_getElem? hx)
       have hcall:=HIH.out x (by have:=Et.ht_mem (List.mem_of_getElem? hx);have:=HHT.out;omega) q P w0 W8 hqv (bt hbw hbr8) htab (by omega)
       have hn1:=hts_next l k x hx
       have hn2:=Zxx l k x hx
       have hn3:=Zur l k x hx
       have hn4:=Zxw l (k+1)
       rw[←HH.out]at hn1
       rw[←HM.out]at hn2
       rw[hn2]at hn4
       obtain ⟨XH,hXH⟩:=Zaf x.ht
       obtain ⟨XM,hXM⟩:=Zaf x.nodes
       obtain ⟨XF,hXF⟩:=Zaf (Zbt x)
       rw[←hXH.out,←hXM.out,←hXF.out]at hcall
       rw[←hXH.out]at hn1
       rw[←hXM.out]at hn2 hn4
       rw[←hXF.out]at hn3
       have HN1:=Zai hn1
       have HN2:=Zai hn2
       have HN3:=Zai hn3
       have hwr:IntKind.i64.wrap ((M:Int)+(XM:Int))=(M:Int)+(XM:Int):=by
        have:=Zru (M+XM) (by omega)
        rw[show ((M+XM:Nat):Int)=(M:Int)+(XM:Int) by omega]at this
        exact this
       have hmx:max (H:Int) (XH:Int)=((max H XH:Nat):Int):=by omega
       have HMX:=Zai hmx
       clear hx hq hqv hW7 hb5 hbq hxm hn1 hn2 hn3 hn4 hXH hXM hXF hmx
       go_wp2_with (first
        | (at_builtin;fail)
        | refine wpList_load_mid rfl 26 _ rfl gB (oB+k * 6) rfl q _ hrg Tryz.underlying26 rfl (Zqh hrq.1) ?_
        | (rw[←hW7l.out];refine wpList_store_row rfl 26 _ _ rfl _ q.toArray rfl rfl 26 Zag.toArray k5 (kE6 hrq.1) (by simp[hrq.1,Zag,Zav]) (Zas hrq.2) ?_;rw[←hW8.out])
        | refine wpList_load_row rfl 26 _ rfl _ rfl 26 q.toArray (0,0) _ kq Tryz.underlying26 rfl (kE6 hrq.1) ?_)
       refine hcall.mono ?_
       clear hcall
       rintro q2 w3 ⟨rfl,hb3⟩
       have hbr3:Below w.heap.size w w3:=bt hbr8 hb3
       clear hb3 hbr8 kq hrg hW7l hW8 k5 hbr
       cases ok with
       | false=>
         have HO2:Hid (false=(NB && Zcw (l.take (k+1)))):=Zai (by rw[HN3.out,←Bool.and_assoc,←HO.out];rfl)
         clear HO
         go_wp2_with (first|(at_builtin;fail))
         go_roundw
         case rel=>exact ⟨k+1,false,max H XH,M+XM,by omega,by go_num,by rw[←HMX.out],by go_num,rfl,Zai HN1.out.symm,Zai HN2.out.symm,HO2,hbr3⟩
         case measure=>simp[intOf];omega
       | true=>
         have HO2:Hid (XF=(NB && Zcw (l.take (k+1)))):=Zai (by rw[HN3.out,←Bool.and_assoc,←HO.out];rfl)
         clear HO
         go_wp2_with (first|(at_builtin;fail))
         go_roundw
         case rel=>exact ⟨k+1,XF,max H XH,M+XM,by omega,by go_num,by rw[←HMX.out],by go_num,rfl,Zai HN1.out.symm,Zai HN2.out.symm,HO2,hbr3⟩
         case measure=>simp[intOf];omega
     · obtain rfl:k=lm:=by omega
       have hi1:¬ (k:Int) < (k:Int):=by omega
       have hf1:=HH.out
       have hf2:=HM.out
       have hf3:=HO.out
       rw[hlm.out,List.take_length]at hf1 hf2 hf3
       have HF1:=Zai hf1
       have HF2:=Zai hf2
       have HF3:=Zai hf3
       have hHb:H≤4611686018427387904:=by omega
       have hMb:M≤4611686018427387904:=by omega
       clear hf1 hf2 hf3 HH HM HO
       have hw1:IntKind.i64.wrap ((H:Int)+1)=(H:Int)+1:=by
        have:=Zru (H+1) (by omega)
        rw[show ((H+1:Nat):Int)=(H:Int)+1 by omega]at this
        exact this
       have hw2:IntKind.i64.wrap ((M:Int)+1)=(M:Int)+1:=by
        have:=Zru (M+1) (by omega)
        rw[show ((M+1:Nat):Int)=(M:Int)+1 by omega]at this
        exact this
       go_wp2_with (first|(at_builtin;fail))
       go_ret3
       refine ⟨?_,hbr⟩
       rw[←HF1.out,←HF2.out,←HF3.out]
       simp
set_option maxRecDepth 100000 in
theorem chk_w:Zhx:=by
 intro e r P w0 w hr hbw htab hnod
 have hrr:=Zcf hr
 obtain ⟨o,n,s,t,A,a,c,B,m,d,hrw⟩:=hrr
 have h6:r.length=6:=by rw[hrw];rfl
 have kr:=Blk.new w r 26
 have hb0:=Zac w (.cells r.toArray 26)
 obtain ⟨W,hW⟩:=Zaf (w.alloc (.cells r.toArray 26))
 have hWl:Hid (W=w.alloc (.cells #[.int .u8 (o:Int),.int .i64 n,.string s,.string t,.slice A a c,.slice B m d] 26)):=by
  rw[hrw]at hW
  exact hW
 rw[←hW.out]at kr hb0
 have hsz:=size_n e.ht e (Nat.le_refl _) r P w W hr hb0 (htab.below hbw) hnod
 have hC:Hid (Zhj e=if Zbt e=false then 5 else if 16 < e.ht then 4 else if 128 < e.nodes then 2 else 0):=rfl
 obtain ⟨C,HC⟩:=Zaf (Zhj e)
 obtain ⟨R,HR⟩:=Zaf (Zbt e)
 obtain ⟨H,HH⟩:=Zaf e.ht
 obtain ⟨M,HM⟩:=Zaf e.nodes
 rw[←HC.out,←HR.out,←HH.out,←HM.out]at hC
 rw[←HR.out,←HH.out,←HM.out]at hsz
 rw[←HC.out]
 clear hW HC HR HH HM hnod hr hbw
 rw[show (Value.agg r.toArray)=.agg #[.int .u8 (o:Int),.int .i64 n,.string s,.string t,.slice A a c,.slice B m d] from by rw[hrw];rfl]
 clear hrw
 go_enter Tryz.func13,Tryz.ntmps13
 go_upto_region 1 with (first|(at_builtin;fail))
 rw[←hWl.out]
 clear hWl
 go_wp2_with (first
  | (at_builtin;fail)
  | refine wpList_load_row rfl 26 _ rfl _ rfl 26 r.toArray (0,0) _ kr Tryz.underlying26 rfl (kE6 h6) ?_)
 refine hsz.mono ?_
 clear hsz kr
 rintro q w1 ⟨rfl,hb1⟩
 have hb:=bt hb0 hb1
 cases R with
 | false=>
   have HQ:Hid (C=5):=Zai (by rw[hC.out];rfl)
   clear hC
   go_wp2_with (first|(at_builtin;fail))
   go_ret
   exact ⟨by rw[HQ.out];rfl,hb⟩
 | true=>
   by_cases h1:16 < H
   · have hi:(16:Int) < (H:Int):=by omega
     have HQ:Hid (C=4):=Zai (by rw[hC.out,if_neg (by simp),if_pos h1])
     clear hC
     go_wp2_with (first|(at_builtin;fail))
     go_ret
     exact ⟨by rw[HQ.out];rfl,hb⟩
   · have hi:¬ (16:Int) < (H:Int):=by omega
     by_cases h2:128 < M
     · have hi2:(128:Int) < (M:Int):=by omega
       have HQ:Hid (C=2):=Zai (by rw[hC.out,if_neg (by simp),if_neg h1,if_pos h2])
       clear hC
       go_wp2_with (first|(at_builtin;fail))
       go_ret
       exact ⟨by rw[HQ.out];rfl,hb⟩
     · have hi2:¬ (128:Int) < (M:Int):=by omega
       have HQ:Hid (C=0):=Zai (by rw[hC.out,if_neg (by simp),if_neg h1,if_neg h2])
       clear hC
       go_wp2_with (first|(at_builtin;fail))
       go_ret
       exact ⟨by rw[HQ.out];rfl,hb⟩
end Go.Proofs.YtnhooehmcggmdaaGreatDoor
