/- Parts of a proof about the given program: XRdW13. -/
import Derived.Test.YtnhooehmcggmdaaGreatDoorZ29
namespace Go.Proofs.YtnhooehmcggmdaaGreatDoor
set_option maxHeartbeats 16000000
set_option linter.unusedVariables false
set_option linter.unusedSimpArgs false
set_option linter.unusedSectionVars false
open Go.RowKit
set_option maxRecDepth 100000 in
theorem Zxk (n:Nat) (hP:Zla 150 (.lv 3) n):Zla 129 (.lv 2) (n+1):=by
 intro f hf p w0 w ts y hr hok hE hy
 have hplt:=hr.lt
 have hb0:=Zac w (.cells Zag.toArray 26)
 have k60:=Blk.new w Zag 26
 obtain ⟨W,hW⟩:=Zaf (w.alloc (.cells Zag.toArray 26))
 have hWl:Hid (W=w.alloc (.cells #[.int .u8 0,.int .i64 0,.string ⟨#[]⟩,.string ⟨#[]⟩,.slice none 0 0,.slice none 0 0] 26)):=hW
 replace k60:Blk W w.heap.size Zag 26:=by rw[hW.out];exact k60
 rw[←hW.out]at hb0
 obtain ⟨f',rfl⟩:∃ f',f=f'+1:=by
  cases f with
  | zero=>cases hy
  | succ f'=>exact ⟨f',rfl⟩
 have hy2:Zcn (pr f' (.lv 3) ts) (Zsj (pr f'))=some y:=by
  have h2:Zbj (pr f') (.lv 2) ts=some y:=hy
  rw[Zip]at h2
  exact h2
 have hf':f'≤n:=by omega
 have hd0:=hr.below hb0
 clear hy hW
 go_enter Tryz.func129,Tryz.ntmps129
 rcases Zbp hy2 with ⟨e0,h1,rfl⟩|⟨e,r,h1,hrel⟩
 · have hone:=hP f' hf' p w0 W ts (.error e0) hd0 hok (hE.step (Zad hb0 _)) h1
   clear hy2 h1
   go_wp2_with (first|(at_builtin;fail))
   rw[←hWl.out]
   refine hone.mono ?_
   rintro e9 w1 ⟨hg1,hd1,rfl⟩
   exact ⟨rfl,(Zad hb0 _).trans hg1,hd1,rfl⟩
 · have hone:=hP f' hf' p w0 W ts (.ok (e,r)) hd0 hok (hE.step (Zad hb0 _)) h1
   have hsf:=(Zmx f' _ _ _ h1).1
   have hokr:=hok.sfx hsf
   clear hy2 h1 hsf
   go_wp2_with (first|(at_builtin;fail))
   rw[←hWl.out]
   refine hone.mono ?_
   rintro e9 w1 ⟨hg1,hd1,v9,rfl,r9,rfl,hv9,hw9⟩
   clear hone hWl hd0
   have hlen:=Zby hv9
   have hgw1:=(Zad hb0 (some p)).trans hg1
   have k61:=k60.grown hg1 (by omega)
   have hsz1:w.heap.size < w1.heap.size:=k61.lt
   have hb2:=Zah (Zac w1 (.cells Zag.toArray 26)) (Nat.le_refl _) r9.toArray
   have k32:Blk ((w1.alloc (.cells Zag.toArray 26)).setRow w1.heap.size r9.toArray) w1.heap.size r9 26:=(Blk.new w1 Zag 26).vrow _
   have k62:=k61.below hb2
   have hd2:=hd1.below hb2
   have hg2:=hgw1.trans (Zad hb2 (some p))
   have hszW:w.heap.size < W.heap.size:=k60.lt
   obtain ⟨w2,hw2n⟩:=Zaf ((w1.alloc (.cells Zag.toArray 26)).setRow w1.heap.size r9.toArray)
   have hwl2:Hid (w2=(w1.alloc (.cells #[.int .u8 0,.int .i64 0,.string ⟨#[]⟩,.string ⟨#[]⟩,.slice none 0 0,.slice none 0 0] 26)).setRow w1.heap.size r9.toArray):=hw2n
   rw[←hw2n.out]at k32 k62 hd2 hg2 hb2
   have hl2:Lft w2 w.heap.size w1.heap.size e:=⟨r9,k32,(hv9.below hb2).imp (fun b hb=>⟨⟨by have:W.heap.size≤b:=hb.1;omega,by have:=hb.2;omega⟩,Nat.lt_of_lt_of_le hb.2 (Zad hb2 (some p)).size⟩),hw9.below hb2⟩
   obtain ⟨p3,hp3⟩:=Zaf w1.heap.size
   obtain ⟨p6,hp6⟩:=Zaf w.heap.size
   have hp63:p6 < p3:=by rw[hp3.out,hp6.out];exact hsz1
   have hpp6:p < p6:=by rw[hp6.out];exact hplt
   rw[←hp3.out,←hp6.out]at hl2
   rw[←hp6.out]at k62
   have hwp3:w.heap.size≤p3:=by rw[hp3.out];exact Nat.le_of_lt hsz1
   have HB:=Zai (Nat.le_of_eq hp6.out)
   have HB2:=Zai (Nat.le_of_eq hp6.out.symm)
   have hb3:=Zac w2 (.cells #[.string ⟨#[61,61]⟩,.string ⟨#[33,61]⟩,.string ⟨#[60]⟩,.string ⟨#[60,61]⟩,.string ⟨#[62]⟩,.string ⟨#[62,61]⟩] 9)
   have hx3:TxS (w2.alloc (.cells #[.string ⟨#[61,61]⟩,.string ⟨#[33,61]⟩,.string ⟨#[60]⟩,.string ⟨#[60,61]⟩,.string ⟨#[62]⟩,.string ⟨#[62,61]⟩] 9)) (some ⟨w2.heap.size,0,none⟩) Zgw:=Zfi w2 Zgw
   have k63:=k62.below hb3
   have hd3:=hd2.below hb3
   have hg3:=hg2.trans (Zad hb3 (some p))
   have hl3:=hl2.grown (Zad hb3 (some p)) hpp6 hp63
   obtain ⟨w3,hw3⟩:=Zaf (w2.alloc (.cells #[.string ⟨#[61,61]⟩,.string ⟨#[33,61]⟩,.string ⟨#[60]⟩,.string ⟨#[60,61]⟩,.string ⟨#[62]⟩,.string ⟨#[62,61]⟩] 9))
   rw[←hw3.out]at hx3 k63 hd3 hg3 hl3
   have htk0:=Zft 4 Zgw (some ⟨w2.heap.size,0,none⟩) 6 p w3 r hd3 (by decide) hx3 hokr
   have htk1:Calls Tryz.prog 97 #[.pointer (some ⟨p,0,none⟩),.int .u8 4,.slice (some ⟨w2.heap.size,0,none⟩) 6 6] w3 fun e w'=>e=.returned (.tuple #[.agg (Zae (Zck 4 Zgw r)).toArray,.bool (nxB 4 Zgw r)])∧Zbg w' p (Zct 4 Zgw r)∧w3.grownBy w' (some p):=htk0
   clear k60 k61 hb0 hb2 hg1 hgw1 hd1 hsz1 hw2n k32 hszW htk0 hx3 k62 hd2 hg2 hl2 hb3
   go_wp2_with (first
    | (at_builtin;fail)
    | (refine wpList_store_row rfl 26 _ _ rfl _ r9.toArray rfl rfl 26 Zag.toArray (Blk.new w1 Zag 26) (kE6 hlen) (zE6 hlen) (Zas (Zcy hv9)) ?_;rw[←hwl2.out]))
   rw[←hp3.out,←hp6.out,←hw3.out]
   clear hwl2 hv9 hw9 hlen hw3
   refine htk1.mono ?_
   clear htk1
   rintro e9 w4 ⟨rfl,hd4,hg4'⟩
   have hg4:=hg3.trans hg4'
   have k64:=k63.grown hg4' (by omega)
   have hl4:=hl3.grown hg4' hpp6 hp63
   clear hg3 hg4' k63 hl3 hd3
   rcases rel_go hrel with ⟨hn,t,r1,rfl,hcon,hbind⟩|⟨hn,hn2,hq⟩|⟨hn,hn2,t,r1,rfl,hkw⟩
   · have e1:Zck 4 Zgw (t :: r1)=t:=by unfold Zck;rw[hn];rfl
     rw[Zhp hn]at hd4
     rw[hn,e1]
     have hsign:=rels_signs t.t (by simpa using hcon)
     have hop256:=opOf_lt t.t
     have hokA:=hokr.tail
     have hb5:=Zah (Zac w4 (.cells #[.int .u8 0,.string ⟨#[]⟩,.int .i64 0,.int .i64 0] 46)) (Nat.le_refl _) (Zae t).toArray
     have kt5:Blk ((w4.alloc (.cells #[.int .u8 0,.string ⟨#[]⟩,.int .i64 0,.int .i64 0] 46)).setRow w4.heap.size (Zae t).toArray) w4.heap.size (Zae t) 46:=(Blk.new w4 (Zae Zan) 46).vrow _
     have k65:=k64.below hb5
     have hd5:=hd4.below hb5
     have hg5:=hg4.trans (Zad hb5 (some p))
     have hl5:=hl4.grown (Zad hb5 (some p)) hpp6 hp63
     have hls5:p3 < w4.heap.size:=by obtain ⟨_,k,-⟩:=hl4;exact k.lt
     obtain ⟨w5,hw5⟩:=Zaf ((w4.alloc (.cells #[.int .u8 0,.string ⟨#[]⟩,.int .i64 0,.int .i64 0] 46)).setRow w4.heap.size (Zae t).toArray)
     rw[←hw5.out]at kt5 k65 hd5 hg5 hl5
     go_upto_region 4 with (first
      | (at_builtin;fail)
      | refine wpList_store_row rfl 46 _ _ rfl _ (Zae t).toArray rfl rfl 46 (Zae Zan).toArray (Blk.new w4 (Zae Zan) 46) (kT4 rfl) rfl (Zay _) ?_)
     rw[←hw5.out]
     obtain ⟨p4,hp4⟩:=Zaf w4.heap.size
     rw[←hp4.out]at kt5 hls5 ⊢
     have hlt5:=kt5.lt
     have kT:=k65
     have hdS:=hd5
     have hgS:=hg5
     have kt:=kt5
     obtain ⟨re,kb1,hv1,-⟩:=hl5
     obtain ⟨o1,n1,s1,t1,A1,a1,c1,B1,b1,d1,hre0,-⟩:=Zbu hv1
     have hre1:=Zai hre0
     have hwS:w.heap.size≤w5.heap.size:=hgS.size
     have hwt:w.heap.size≤p6:=HB2.out
     clear hre0 k64 hd4 hg4 hl4 k65 hd5 hg5 kt5 hw5 hp4 hb5 hn e1 hcon hrel
     rcases Zbp hbind with ⟨e0,h1,hq⟩|⟨eC,rB,h1,hnext⟩
     · have hone:∀ (u:World),Zbg u p r1→Env w0 p u→Calls Tryz.prog 150 #[.pointer (some ⟨p,0,none⟩)] u fun e w'=>u.grownBy w' (some p)∧Zbg w' p e0∧e=.panicked Zgu:=fun u a b=>hP f' hf' p w0 u r1 (.error e0) a hokA b h1
       have hS0:w.grownBy w5.drew (some p)∧w5.heap.size≤w5.drew.heap.size∧((fun _:Nat=>false) 8=false→Blk w5.drew p6 Zag 26)∧Zbg w5.drew p r1∧EAt w5.drew (Up w5.drew (fun b=>p6 < b∧b ≠ p3)) e re∧Blk w5.drew p3 re 26∧Blk w5.drew p4 (Zae t) 46:=⟨hgS.trans (Zad (Zaj (Below.refl _ _)) _),Nat.le_refl _,fun _=>kT,hdS,hv1.up (Zad (Zaj (Below.refl _ _)) (some p)) (fun b hb=>by have:=hb.1;omega),kb1,kt⟩
       refine Zcz (fun ex u=>ex=.panic Zgu∧y=.error e0∧w.grownBy u (some p)∧Zbg u p e0) (by
        rintro ex b u hb ⟨rfl,h1,h2,h3⟩
        refine ⟨hb,?_⟩
        rw[h1]
        exact ⟨h2,h3,rfl⟩) (fun L _ u=>w.grownBy u (some p)∧w5.heap.size≤u.heap.size∧(L 8=false→Blk u p6 Zag 26)∧Zbg u p r1∧EAt u (Up u (fun b=>p6 < b∧b ≠ p3)) e re∧Blk u p3 re 26∧Blk u p4 (Zae t) 46) (fun i u u'=>(i ≠ 8→u.grownBy u' (some p))∧(i=8→u.grownBy u' (some p6))) _ (by kernel_rfl) (by kernel_rfl) (fun v=>by simp only[Zbx,Act.put,List.toList_toArray,Zl2,Zl0,Zl1,Nat.reduceAdd,Nat.zero_add];rfl) hS0 (fun L L' v u hL h=>by rw[←hL 8 (by decide)];exact h) ?_
       refine Zat [] _ (fun L hL hcl v u hS hd K' hK=>by
        simp only[Act.put,Zl2,Zl0,Zl1]at hK
        go_simp
        exact hK.out _ ⟨⟨hS.1,hS.2.1,fun h=>hS.2.2.1 (by simpa using h),hS.2.2.2.1,hS.2.2.2.2.1,hS.2.2.2.2.2.1,hS.2.2.2.2.2.2⟩,⟨fun _=>Zab _ _,fun h=>by cases h⟩⟩) (by kernel_rfl) (j:=1) rfl ?_
       refine Zat [0] _ (fun L hL hcl v u hS hd K' hK=>by
        simp only[Zal,Zak,eqv,Zl3,Zl4,Nat.reduceSub]at hd
        simp only[Act.put,Zl2,Zl0,Zl1]at hK
        try simp only[hd]at hK
        have c1:u.cell? ⟨p4,1,none⟩=some (.string (str t.t)):=hS.2.2.2.2.2.2.cell 1
        go_simp
        exact hK.out _ ⟨⟨hS.1,hS.2.1,fun h=>hS.2.2.1 (by simpa using h),hS.2.2.2.1,hS.2.2.2.2.1,hS.2.2.2.2.2.1,hS.2.2.2.2.2.2⟩,⟨fun _=>Zab _ _,fun h=>by cases h⟩⟩) (by kernel_rfl) (j:=2) rfl ?_
       refine Zat [1] _ (fun L hL hcl v u hS hd K' hK=>by
        simp only[Zal,Zak,eqv,Zl3,Zl4,Nat.reduceSub]at hd
        simp only[Act.put,Zl2,Zl0,Zl1]at hK
        try simp only[hd]at hK
        go_simp
        refine (Zkj t.t hsign u (hE.step hS.1).tbs).mono ?_
        rintro e9 u1 ⟨rfl,hb9⟩
        have hg9:=Zad hb9 (some p)
        exact hK.out _ ⟨⟨hS.1.trans hg9,Nat.le_trans hS.2.1 hg9.size,fun h=>(hS.2.2.1 (by simpa using h)).grown hg9 (by omega),hS.2.2.2.1.below hb9,hS.2.2.2.2.1.up hg9 (fun b hb=>by have:=hb.1;omega),hS.2.2.2.2.2.1.grown hg9 (by omega),hS.2.2.2.2.2.2.grown hg9 (by omega)⟩,⟨fun _=>hg9,fun h=>by cases h⟩⟩) (by kernel_rfl) (j:=3) rfl ?_
       refine Zat [] _ (fun L hL hcl v u hS hd K' hK=>by
        simp only[Act.put,Zl2,Zl0,Zl1]at hK
        have k7:=hS.2.2.2.2.2.1
        rw[hre1.out]at k7
        have q10:u.cell? ⟨p3,0,none⟩=some (.int .u8 (o1:Int)):=k7.cell 0
        have q11:u.cell? ⟨p3,1,none⟩=some (.int .i64 n1):=k7.cell 1
        have q12:u.cell? ⟨p3,2,none⟩=some (.string s1):=k7.cell 2
        have q13:u.cell? ⟨p3,3,none⟩=some (.string t1):=k7.cell 3
        have q14:u.cell? ⟨p3,4,none⟩=some (.slice A1 a1 c1):=k7.cell 4
        have q15:u.cell? ⟨p3,5,none⟩=some (.slice B1 b1 d1):=k7.cell 5
        go_simp
        exact hK.out _ ⟨⟨hS.1,hS.2.1,fun h=>hS.2.2.1 (by simpa using h),hS.2.2.2.1,hS.2.2.2.2.1,hS.2.2.2.2.2.1,hS.2.2.2.2.2.2⟩,⟨fun _=>Zab _ _,fun h=>by cases h⟩⟩) (by kernel_rfl) (j:=4) rfl ?_
       refine Zat [] _ (fun L hL hcl v u hS hd K' hK=>by
        simp only[Act.put,Zl2,Zl0,Zl1]at hK
        go_simp
        exact hK.out _ ⟨⟨hS.1,hS.2.1,fun h=>hS.2.2.1 (by simpa using h),hS.2.2.2.1,hS.2.2.2.2.1,hS.2.2.2.2.2.1,hS.2.2.2.2.2.2⟩,⟨fun _=>Zab _ _,fun h=>by cases h⟩⟩) (by kernel_rfl) (j:=5) rfl ?_
       refine Zar [4] (fun _ _=>False) ((fun _ _ _ _ _ _ h=>h)) (fun L hL hcl v u hS hd K' hK=>by
        simp only[Zal,Zak,eqv,Zl3,Zl4,Nat.reduceSub]at hd
        simp only[Act.put,Zl2,Zl0,Zl1]at hK
        try simp only[hd]at hK
        go_simp
        refine (hone u hS.2.2.2.1 (hE.step hS.1)).mono ?_
        rintro e9 u1 ⟨hg9,hd9,rfl⟩
        first|exact ⟨rfl,hq,hS.1.trans hg9,hd9⟩|exact ⟨rfl,hS.1.trans hg9,hd9⟩|exact ⟨hS.1.trans hg9,hd9⟩) (by kernel_rfl) (j:=6) rfl ?_
       refine Zar [3,5] (fun _ _=>False) ((fun _ _ _ _ _ _ h=>h)) (fun L hL hcl v u hS hd K' hK=>by
        simp only[Zal,Zak,eqv,Zl3,Zl4,Nat.reduceSub]at hd
        try exact hd.2.elim) (by kernel_rfl) (j:=7) rfl ?_
       refine Zar [2,6] (fun _ _=>False) ((fun _ _ _ _ _ _ h=>h)) (fun L hL hcl v u hS hd K' hK=>by
        simp only[Zal,Zak,eqv,Zl3,Zl4,Nat.reduceSub]at hd
        try first|exact hd.elim|exact hd.2.elim) (by kernel_rfl) (j:=8) rfl ?_
       refine Zar [7] (fun _ _=>False) ((fun _ _ _ _ _ _ h=>h)) (fun L hL hcl v u hS hd K' hK=>by
        simp only[Zal,Zak,eqv,Zl3,Zl4,Nat.reduceSub]at hd
        try exact hd.elim) (by kernel_rfl) (j:=9) rfl ?_
       refine Zee [8] (by decide) ?_
       rintro v u hS hR
       simp only[Zal,Zak,eqv,Zl3,Zl4,Nat.reduceSub]at hR
       try exact hR.elim
     · have hone:∀ (u:World),Zbg u p r1→Env w0 p u→Calls Tryz.prog 150 #[.pointer (some ⟨p,0,none⟩)] u fun e w'=>u.grownBy w' (some p)∧Zbg w' p rB∧∃ v,e=.returned v∧ExV u.heap.size eC w' v:=fun u a b=>hP f' hf' p w0 u r1 (.ok (eC,rB)) a hokA b h1
       have HQ:Hid (y=.ok (Zbk (Znt t.t) [e,eC],rB)):=Zai (Option.some.inj hnext).symm
       clear hnext h1 hbind
       have hS0:w.grownBy w5.drew (some p)∧w5.heap.size≤w5.drew.heap.size∧((fun _:Nat=>false) 8=false→Blk w5.drew p6 Zag 26)∧Zbg w5.drew p (if (fun _:Nat=>false) 5 then rB else r1)∧EAt w5.drew (Up w5.drew (fun b=>p6 < b∧b ≠ p3)) e re∧Blk w5.drew p3 re 26∧Blk w5.drew p4 (Zae t) 46:=⟨hgS.trans (Zad (Zaj (Below.refl _ _)) _),Nat.le_refl _,fun _=>kT,hdS,hv1.up (Zad (Zaj (Below.refl _ _)) (some p)) (fun b hb=>by have:=hb.1;omega),kb1,kt⟩
       refine Zap (fun L _ u=>w.grownBy u (some p)∧w5.heap.size≤u.heap.size∧(L 8=false→Blk u p6 Zag 26)∧Zbg u p (if L 5 then rB else r1)∧EAt u (Up u (fun b=>p6 < b∧b ≠ p3)) e re∧Blk u p3 re 26∧Blk u p4 (Zae t) 46) (fun i u u'=>(i ≠ 8→u.grownBy u' (some p))∧(i=8→u.grownBy u' (some p6))) _ (by kernel_rfl) (by kernel_rfl) (fun v=>by simp only[Zbx,Act.put,List.toList_toArray,Zl2,Zl0,Zl1,Nat.reduceAdd,Nat.zero_add];rfl) hS0 (fun L L' v u hL h=>by rw[←hL 5 (by decide),←hL 8 (by decide)];exact h) ?_
       refine Zaa [] _ (fun L hL hcl v u hS hd K' hK=>by
        simp only[Act.put,Zl2,Zl0,Zl1]at hK
        go_simp
        exact hK.out _ ⟨⟨hS.1,hS.2.1,fun h=>hS.2.2.1 (by simpa using h),by simpa using hS.2.2.2.1,hS.2.2.2.2.1,hS.2.2.2.2.2.1,hS.2.2.2.2.2.2⟩,⟨fun _=>Zab _ _,fun h=>by cases h⟩⟩) (by kernel_rfl) (j:=1) rfl ?_
       refine Zaa [0] _ (fun L hL hcl v u hS hd K' hK=>by
        simp only[Zal,Zak,eqv,Zl3,Zl4,Nat.reduceSub]at hd
        simp only[Act.put,Zl2,Zl0,Zl1]at hK
        try simp only[hd]at hK
        have c1:u.cell? ⟨p4,1,none⟩=some (.string (str t.t)):=hS.2.2.2.2.2.2.cell 1
        go_simp
        exact hK.out _ ⟨⟨hS.1,hS.2.1,fun h=>hS.2.2.1 (by simpa using h),by simpa using hS.2.2.2.1,hS.2.2.2.2.1,hS.2.2.2.2.2.1,hS.2.2.2.2.2.2⟩,⟨fun _=>Zab _ _,fun h=>by cases h⟩⟩) (by kernel_rfl) (j:=2) rfl ?_
       refine Zaa [1] _ (fun L hL hcl v u hS hd K' hK=>by
        simp only[Zal,Zak,eqv,Zl3,Zl4,Nat.reduceSub]at hd
        simp only[Act.put,Zl2,Zl0,Zl1]at hK
        try simp only[hd]at hK
        go_simp
        refine (Zkj t.t hsign u (hE.step hS.1).tbs).mono ?_
        rintro e9 u1 ⟨rfl,hb9⟩
        have hg9:=Zad hb9 (some p)
        exact hK.out _ ⟨⟨hS.1.trans hg9,Nat.le_trans hS.2.1 hg9.size,fun h=>(hS.2.2.1 (by simpa using h)).grown hg9 (by omega),by simpa using hS.2.2.2.1.below hb9,hS.2.2.2.2.1.up hg9 (fun b hb=>by have:=hb.1;omega),hS.2.2.2.2.2.1.grown hg9 (by omega),hS.2.2.2.2.2.2.grown hg9 (by omega)⟩,⟨fun _=>hg9,fun h=>by cases h⟩⟩) (by kernel_rfl) (j:=3) rfl ?_
       refine Zaa [] _ (fun L hL hcl v u hS hd K' hK=>by
        simp only[Act.put,Zl2,Zl0,Zl1]at hK
        have k7:=hS.2.2.2.2.2.1
        rw[hre1.out]at k7
        have q10:u.cell? ⟨p3,0,none⟩=some (.int .u8 (o1:Int)):=k7.cell 0
        have q11:u.cell? ⟨p3,1,none⟩=some (.int .i64 n1):=k7.cell 1
        have q12:u.cell? ⟨p3,2,none⟩=some (.string s1):=k7.cell 2
        have q13:u.cell? ⟨p3,3,none⟩=some (.string t1):=k7.cell 3
        have q14:u.cell? ⟨p3,4,none⟩=some (.slice A1 a1 c1):=k7.cell 4
        have q15:u.cell? ⟨p3,5,none⟩=some (.slice B1 b1 d1):=k7.cell 5
        go_simp
        exact hK.out _ ⟨⟨hS.1,hS.2.1,fun h=>hS.2.2.1 (by simpa using h),by simpa using hS.2.2.2.1,hS.2.2.2.2.1,hS.2.2.2.2.2.1,hS.2.2.2.2.2.2⟩,⟨fun _=>Zab _ _,fun h=>by cases h⟩⟩) (by kernel_rfl) (j:=4) rfl ?_
       refine Zaa [] _ (fun L hL hcl v u hS hd K' hK=>by
        simp only[Act.put,Zl2,Zl0,Zl1]at hK
        go_simp
        exact hK.out _ ⟨⟨hS.1,hS.2.1,fun h=>hS.2.2.1 (by simpa using h),by simpa using hS.2.2.2.1,hS.2.2.2.2.1,hS.2.2.2.2.2.1,hS.2.2.2.2.2.2⟩,⟨fun _=>Zab _ _,fun h=>by cases h⟩⟩) (by kernel_rfl) (j:=5) rfl ?_
       refine Zam [4] (fun v u=>∃ (o9:Nat) (n9:Int) (s9 t9:ByteArray) (A9:Option Addr) (a9 c9:Nat) (B9:Option Addr) (b9 d9:Nat),v=.agg #[.int .u8 (o9:Int),.int .i64 n9,.string s9,.string t9,.slice A9 a9 c9,.slice B9 b9 d9]∧EAt u (Up u (fun b=>w5.heap.size≤b)) eC (Zav o9 n9 s9 t9 (.slice A9 a9 c9) (.slice B9 b9 d9))) ((by
        rintro j x u u' hj hg ⟨o9,n9,s9,t9,A9,a9,c9,B9,b9,d9,h1,h2⟩
        refine ⟨o9,n9,s9,t9,A9,a9,c9,B9,b9,d9,h1,?_⟩
        by_cases e:j=8
        · exact h2.up (hg.2 e) (fun b hb=>by omega)
        · exact h2.up (hg.1 e) (fun b hb=>by omega))) (fun L hL hcl v u hS hd K' hK=>by
        simp only[Zal,Zak,eqv,Zl3,Zl4,Nat.reduceSub]at hd
        simp only[Act.put,Zl2,Zl0,Zl1]at hK
        try simp only[hd]at hK
        go_simp
        refine (hone u (by have:=hS.2.2.2.1;rw[hL]at this;exact this) (hE.step hS.1)).mono ?_
        rintro e9 u1 ⟨hg9,hd9,v9,rfl,r9,rfl,hv9,-⟩
        obtain ⟨o9,n9,s9,t9,A9,a9,c9,B9,b9,d9,rfl,-⟩:=Zbu hv9
        exact hK.out _ _ ⟨⟨hS.1.trans hg9,Nat.le_trans hS.2.1 hg9.size,fun h=>(hS.2.2.1 (by simpa using h)).grown hg9 (by omega),by simpa using hd9,hS.2.2.2.2.1.up hg9 (fun b hb=>by have:=hb.1;omega),hS.2.2.2.2.2.1.grown hg9 (by omega),hS.2.2.2.2.2.2.grown hg9 (by omega)⟩,⟨fun _=>hg9,fun h=>by cases h⟩,o9,n9,s9,t9,A9,a9,c9,B9,b9,d9,rfl,hv9.imp (fun b hb=>⟨Nat.le_trans hS.2.1 hb.1,hb.2⟩)⟩) (by kernel_rfl) (j:=6) rfl ?_
       refine Zam [3,5] (fun v u=>∃ (g:Nat) (rb:List Value),v=.slice (some ⟨g,0,none⟩) 2 2∧w5.heap.size≤g∧Blk u g (re ++ rb) 26∧EAt u (Up u (fun b=>w5.heap.size≤b)) eC rb) ((by
        rintro j x u u' hj hg ⟨g,rb,h1,h2,h3,h4⟩
        refine ⟨g,rb,h1,h2,?_⟩
        by_cases e:j=8
        · exact ⟨h3.grown (hg.2 e) (by omega),h4.up (hg.2 e) (fun b hb=>by omega)⟩
        · exact ⟨h3.grown (hg.1 e) (by omega),h4.up (hg.1 e) (fun b hb=>by omega)⟩)) (fun L hL hcl v u hS hd K' hK=>by
        simp only[Zal,Zak,eqv,Zl3,Zl4,Nat.reduceSub]at hd
        simp only[Act.put,Zl2,Zl0,Zl1]at hK
        try simp only[hd]at hK
        obtain ⟨h03,o9,n9,s9,t9,A9,a9,c9,B9,b9,d9,h1,hv⟩:=hd
        simp only[h03,h1]at hK
        simp only[h03,h1]
        go_simp
        have hb9:=Zac u (.cells ((Zav o1 n1 s1 t1 (.slice A1 a1 c1) (.slice B1 b1 d1)) ++ (Zav o9 n9 s9 t9 (.slice A9 a9 c9) (.slice B9 b9 d9))).toArray 26)
        have hg9:=Zad hb9 (some p)
        have k9:=Blk.new u ((Zav o1 n1 s1 t1 (.slice A1 a1 c1) (.slice B1 b1 d1)) ++ (Zav o9 n9 s9 t9 (.slice A9 a9 c9) (.slice B9 b9 d9))) 26
        have hh:=hK.out (.slice (some ⟨u.heap.size,0,none⟩) 2 2) _ ⟨⟨hS.1.trans hg9,Nat.le_trans hS.2.1 hg9.size,fun h=>(hS.2.2.1 (by simpa using h)).grown hg9 (by omega),by simpa using hS.2.2.2.1.below hb9,hS.2.2.2.2.1.up hg9 (fun b hb=>by have:=hb.1;omega),hS.2.2.2.2.2.1.grown hg9 (by omega),hS.2.2.2.2.2.2.grown hg9 (by omega)⟩,⟨fun _=>hg9,fun h=>by cases h⟩,u.heap.size,(Zav o9 n9 s9 t9 (.slice A9 a9 c9) (.slice B9 b9 d9)),rfl,hS.2.1,by rw[hre1.out];exact k9,hv.up hg9 (fun b hb=>by omega)⟩
        exact hh) (by kernel_rfl) (j:=7) rfl ?_
       refine Zam [2,6] (fun v u=>∃ (g:Nat) (rb:List Value),v=.agg (Zav (Znt t.t) 0 ⟨#[]⟩ ⟨#[]⟩ (.slice none 0 0) (.slice (some ⟨g,0,none⟩) 2 2)).toArray∧w5.heap.size≤g∧Blk u g (re ++ rb) 26∧EAt u (Up u (fun b=>w5.heap.size≤b)) eC rb) ((by
        rintro j x u u' hj hg ⟨g,rb,h1,h2,h3,h4⟩
        refine ⟨g,rb,h1,h2,?_⟩
        by_cases e:j=8
        · exact ⟨h3.grown (hg.2 e) (by omega),h4.up (hg.2 e) (fun b hb=>by omega)⟩
        · exact ⟨h3.grown (hg.1 e) (by omega),h4.up (hg.1 e) (fun b hb=>by omega)⟩)) (fun L hL hcl v u hS hd K' hK=>by
        simp only[Zal,Zak,eqv,Zl3,Zl4,Nat.reduceSub]at hd
        simp only[Act.put,Zl2,Zl0,Zl1]at hK
        try simp only[hd]at hK
        obtain ⟨h0,g,rb,h1,h2,h3,h4⟩:=hd
        simp only[h0,h1]at hK ⊢
        go_simp
        refine (Zjp (Znt t.t) (some ⟨g,0,none⟩) 2 2 u).mono ?_
        rintro e9 u1 ⟨rfl,hb9⟩
        have hg9:=Zad hb9 (some p)
        exact hK.out _ _ ⟨⟨hS.1.trans hg9,Nat.le_trans hS.2.1 hg9.size,fun h=>(hS.2.2.1 (by simpa using h)).grown hg9 (by omega),by simpa using hS.2.2.2.1.below hb9,hS.2.2.2.2.1.up hg9 (fun b hb=>by have:=hb.1;omega),hS.2.2.2.2.2.1.grown hg9 (by omega),hS.2.2.2.2.2.2.grown hg9 (by omega)⟩,⟨fun _=>hg9,fun h=>by cases h⟩,g,rb,rfl,h2,h3.below hb9,h4.up hg9 (fun b hb=>by omega)⟩) (by kernel_rfl) (j:=8) rfl ?_
       refine Zam [7] (fun _ u=>∃ (g:Nat) (rb:List Value),Blk u p6 (Zav (Znt t.t) 0 ⟨#[]⟩ ⟨#[]⟩ (.slice none 0 0) (.slice (some ⟨g,0,none⟩) 2 2)) 26∧w5.heap.size≤g∧Blk u g (re ++ rb) 26∧EAt u (Up u (fun b=>w5.heap.size≤b)) eC rb) ((by
        rintro j x u u' hj hg ⟨g,rb,h1,h2,h3,h4⟩
        exact ⟨g,rb,h1.grown (hg.1 hj) (by omega),h2,h3.grown (hg.1 hj) (by omega),h4.up (hg.1 hj) (fun b hb=>by omega)⟩)) (fun L hL hcl v u hS hd K' hK=>by
        simp only[Zal,Zak,eqv,Zl3,Zl4,Nat.reduceSub]at hd
        obtain ⟨g,rb,h1,h2,h3,h4⟩:=hd
        have k7:=hS.2.2.1 hL
        refine Zbe rfl ?_
        refine wp_store_row 26 _ _ rfl _ (Zav (Znt t.t) 0 ⟨#[]⟩ ⟨#[]⟩ (.slice none 0 0) (.slice (some ⟨g,0,none⟩) 2 2)).toArray rfl h1 26 Zag.toArray k7 (kE6 rfl) rfl (Zas Zcd) ?_
        have hgr:=Zbc u p6 (Zav (Znt t.t) 0 ⟨#[]⟩ ⟨#[]⟩ (.slice none 0 0) (.slice (some ⟨g,0,none⟩) 2 2)).toArray
        refine hK.out undef _ ⟨⟨Zaq hS.1 hwt _,by rw[Zgn];exact hS.2.1,fun h=>by simp at h,by simpa using hS.2.2.2.1.row (show p < p6 by omega) _,hS.2.2.2.2.1.up hgr (fun b hb=>by have:=hb.1;omega),hS.2.2.2.2.2.1.grown hgr (by omega),hS.2.2.2.2.2.2.grown hgr (by omega)⟩,⟨fun h=>absurd rfl h,fun _=>hgr⟩,g,rb,k7.vrow _,h2,h3.grown hgr (by omega),h4.up hgr (fun b hb=>by omega)⟩) (by kernel_rfl) (j:=9) rfl ?_
       refine Zau [8] (by decide) ?_
       rintro v u hS hR
       simp only[Zal,Zak,eqv,Zl3,Zl4,Nat.reduceSub]at hR
       obtain ⟨g,rb,q1,q2,q3,q4⟩:=hR
       have z0:=hS.1
       have z3:Zbg u p rB:=by simpa using hS.2.2.2.1
       have z4:=hS.2.2.2.2.1
       clear hS hS0 hone
       have hlt:=q3.lt
       go_wp2_with (first|(at_builtin;fail))
       refine bodyPost_ret (Zfz rfl _ rfl q1 rfl) rfl ?_
       rw[HQ.out]
       refine ⟨z0,z3,_,rfl,_,rfl,?_,?_⟩
       · refine Zfg (l:=[e,eC]) (rows:=[re,rb]) (hop256) ⟨by omega,by omega⟩ (by decide) (by decide) (show 2 * 96≤Zbq by decide) (Nat.le_refl _) (by simpa using q3) ⟨Nat.le_trans hwS q2,hlt⟩ ?_
         exact Zmj (z4.imp (fun b hb=>⟨by have:=hb.1;omega,hb.2⟩)) (q4.imp (fun b hb=>⟨Nat.le_trans hwS hb.1,hb.2⟩))
       · exact Zid q3 (by rw[hre1.out];simp only[List.length_append,Zby q4];exact (by decide:2 * 6≤6+6))
   · have e1:Zck 4 Zgw r=Zan:=by unfold Zck;rw[hn];rfl
     rw[Zkw hn]at hd4
     rw[hn,e1]
     have HQ:=Zai hq
     have hb5:=Zah (Zac w4 (.cells #[.int .u8 0,.string ⟨#[]⟩,.int .i64 0,.int .i64 0] 46)) (Nat.le_refl _) (Zae Zan).toArray
     have kt5:Blk ((w4.alloc (.cells #[.int .u8 0,.string ⟨#[]⟩,.int .i64 0,.int .i64 0] 46)).setRow w4.heap.size (Zae Zan).toArray) w4.heap.size (Zae Zan) 46:=(Blk.new w4 (Zae Zan) 46).vrow _
     have k65:=k64.below hb5
     have hd5:=hd4.below hb5
     have hg5:=hg4.trans (Zad hb5 (some p))
     have hl5:=hl4.grown (Zad hb5 (some p)) hpp6 hp63
     have hls5:p3 < w4.heap.size:=by obtain ⟨_,k,-⟩:=hl4;exact k.lt
     obtain ⟨w5,hw5⟩:=Zaf ((w4.alloc (.cells #[.int .u8 0,.string ⟨#[]⟩,.int .i64 0,.int .i64 0] 46)).setRow w4.heap.size (Zae Zan).toArray)
     rw[←hw5.out]at kt5 k65 hd5 hg5 hl5
     have hb6:=Zac w5 (.cells #[.string ⟨#[105,110]⟩,.string ⟨#[104,97,115]⟩,.string ⟨#[105,115]⟩,.string ⟨#[108,105,107,101]⟩] 9)
     have hx6:TxS (w5.alloc (.cells #[.string ⟨#[105,110]⟩,.string ⟨#[104,97,115]⟩,.string ⟨#[105,115]⟩,.string ⟨#[108,105,107,101]⟩] 9)) (some ⟨w5.heap.size,0,none⟩) kwsL:=Zfi w5 kwsL
     have k66:=k65.below hb6
     have hd6:=hd5.below hb6
     have hg6:=hg5.trans (Zad hb6 (some p))
     have hl6:=hl5.grown (Zad hb6 (some p)) hpp6 hp63
     obtain ⟨w6,hw6⟩:=Zaf (w5.alloc (.cells #[.string ⟨#[105,110]⟩,.string ⟨#[104,97,115]⟩,.string ⟨#[105,115]⟩,.string ⟨#[108,105,107,101]⟩] 9))
     rw[←hw6.out]at hx6 k66 hd6 hg6 hl6
     have htk0:=Zft 1 kwsL (some ⟨w5.heap.size,0,none⟩) 4 p w6 r hd6 (by decide) hx6 hokr
     have e2:Zck 1 kwsL r=Zan:=by unfold Zck;rw[hn2];rfl
     rw[hn2,Zkw hn2,e2]at htk0
     have htk1:Calls Tryz.prog 97 #[.pointer (some ⟨p,0,none⟩),.int .u8 1,.slice (some ⟨w5.heap.size,0,none⟩) 4 4] w6 fun e w'=>e=.returned (.tuple #[.agg (Zae Zan).toArray,.bool false])∧Zbg w' p r∧w6.grownBy w' (some p):=htk0
     clear htk0 hx6 k65 hd5 hg5 hl5 hb6 hn e1 hn2 e2 hq hrel
     go_wp2_with (first
      | (at_builtin;fail)
      | (refine wpList_store_row rfl 46 _ _ rfl _ (Zae Zan).toArray rfl rfl 46 (Zae Zan).toArray (Blk.new w4 (Zae Zan) 46) (kT4 rfl) rfl (Zay _) ?_;rw[←hw5.out]))
     rw[←hw6.out]
     refine htk1.mono ?_
     clear htk1
     rintro e9 w7 ⟨rfl,hd7,hg7'⟩
     have hg7:=hg6.trans hg7'
     have k67:=k66.grown hg7' (by omega)
     have hl7:=hl6.grown hg7' hpp6 hp63
     clear hg6 hg7' k66 hl6 hd6 hd4 hg4 k64 hl4 hb5 hw5 hw6
     have hb8:=Zah (Zac w7 (.cells #[.int .u8 0,.string ⟨#[]⟩,.int .i64 0,.int .i64 0] 46)) (Nat.le_refl _) (Zae Zan).toArray
     have kt8:Blk ((w7.alloc (.cells #[.int .u8 0,.string ⟨#[]⟩,.int .i64 0,.int .i64 0] 46)).setRow w7.heap.size (Zae Zan).toArray) w7.heap.size (Zae Zan) 46:=(Blk.new w7 (Zae Zan) 46).vrow _
     have k68:=k67.below hb8
     have hd8:=hd7.below hb8
     have hg8:=hg7.trans (Zad hb8 (some p))
     have hl8:=hl7.grown (Zad hb8 (some p)) hpp6 hp63
     have hls8:p3 < w7.heap.size:=by obtain ⟨_,k,-⟩:=hl7;exact k.lt
     obtain ⟨w8,hw8⟩:=Zaf ((w7.alloc (.cells #[.int .u8 0,.string ⟨#[]⟩,.int .i64 0,.int .i64 0] 46)).setRow w7.heap.size (Zae Zan).toArray)
     rw[←hw8.out]at kt8 k68 hd8 hg8 hl8
     obtain ⟨re,k3,hv,hw⟩:=hl8
     have hlen:=Zby hv
     have hgr:=Zbc w8 p6 re.toArray
     go_wp2_with (first
      | (at_builtin;fail)
      | (refine wpList_store_row rfl 46 _ _ rfl _ (Zae Zan).toArray rfl rfl 46 (Zae Zan).toArray (Blk.new w7 (Zae Zan) 46) (kT4 rfl) rfl (Zay _) ?_;rw[←hw8.out])
      | refine wpList_load_row rfl 26 _ rfl _ rfl 26 re.toArray (0,0) _ k3 Tryz.underlying26 rfl (kE6 hlen) ?_
      | refine wpList_store_row rfl 26 _ _ rfl _ re.toArray rfl rfl 26 Zag.toArray k68 (kE6 hlen) (zE6 hlen) (Zas (Zcy hv)) ?_)
     have hv6:=hv.up hgr (fun b hb=>by have:=hb.1;omega)
     refine bodyPost_ret (Zfz rfl _ rfl (k68.vrow re) hlen) rfl ?_
     rw[HQ.out]
     refine ⟨Zaq hg8 HB2.out _,hd8.row hpp6 _,_,rfl,re,rfl,?_,hw.grown hv hgr (fun b hb=>by have:=hb.1.1;omega)⟩
     exact hv6.imp (fun b hb=>⟨by have:=HB2.out;have:=hb.1.1;omega,hb.2⟩)
   · have e1:Zck 4 Zgw (t :: r1)=Zan:=by unfold Zck;rw[hn];rfl
     rw[Zkw hn]at hd4
     rw[hn,e1]
     have hb5:=Zah (Zac w4 (.cells #[.int .u8 0,.string ⟨#[]⟩,.int .i64 0,.int .i64 0] 46)) (Nat.le_refl _) (Zae Zan).toArray
     have kt5:Blk ((w4.alloc (.cells #[.int .u8 0,.string ⟨#[]⟩,.int .i64 0,.int .i64 0] 46)).setRow w4.heap.size (Zae Zan).toArray) w4.heap.size (Zae Zan) 46:=(Blk.new w4 (Zae Zan) 46).vrow _
     have k65:=k64.below hb5
     have hd5:=hd4.below hb5
     have hg5:=hg4.trans (Zad hb5 (some p))
     have hl5:=hl4.grown (Zad hb5 (some p)) hpp6 hp63
     have hls5:p3 < w4.heap.size:=by obtain ⟨_,k,-⟩:=hl4;exact k.lt
     obtain ⟨w5,hw5⟩:=Zaf ((w4.alloc (.cells #[.int .u8 0,.string ⟨#[]⟩,.int .i64 0,.int .i64 0] 46)).setRow w4.heap.size (Zae Zan).toArray)
     rw[←hw5.out]at kt5 k65 hd5 hg5 hl5
     have hb6:=Zac w5 (.cells #[.string ⟨#[105,110]⟩,.string ⟨#[104,97,115]⟩,.string ⟨#[105,115]⟩,.string ⟨#[108,105,107,101]⟩] 9)
     have hx6:TxS (w5.alloc (.cells #[.string ⟨#[105,110]⟩,.string ⟨#[104,97,115]⟩,.string ⟨#[105,115]⟩,.string ⟨#[108,105,107,101]⟩] 9)) (some ⟨w5.heap.size,0,none⟩) kwsL:=Zfi w5 kwsL
     have k66:=k65.below hb6
     have hd6:=hd5.below hb6
     have hg6:=hg5.trans (Zad hb6 (some p))
     have hl6:=hl5.grown (Zad hb6 (some p)) hpp6 hp63
     obtain ⟨w6,hw6⟩:=Zaf (w5.alloc (.cells #[.string ⟨#[105,110]⟩,.string ⟨#[104,97,115]⟩,.string ⟨#[105,115]⟩,.string ⟨#[108,105,107,101]⟩] 9))
     rw[←hw6.out]at hx6 k66 hd6 hg6 hl6
     have htk0:=Zft 1 kwsL (some ⟨w5.heap.size,0,none⟩) 4 p w6 (t :: r1) hd6 (by decide) hx6 hokr
     have e2:Zck 1 kwsL (t :: r1)=t:=by unfold Zck;rw[hn2];rfl
     rw[hn2,Zhp hn2,e2]at htk0
     have htk1:Calls Tryz.prog 97 #[.pointer (some ⟨p,0,none⟩),.int .u8 1,.slice (some ⟨w5.heap.size,0,none⟩) 4 4] w6 fun e w'=>e=.returned (.tuple #[.agg (Zae t).toArray,.bool true])∧Zbg w' p r1∧w6.grownBy w' (some p):=htk0
     have hokA:=hokr.tail
     clear htk0 hx6 k65 hd5 hg5 hl5 hb6 hn e1 hn2 e2 hrel
     go_wp2_with (first
      | (at_builtin;fail)
      | (refine wpList_store_row rfl 46 _ _ rfl _ (Zae Zan).toArray rfl rfl 46 (Zae Zan).toArray (Blk.new w4 (Zae Zan) 46) (kT4 rfl) rfl (Zay _) ?_;rw[←hw5.out]))
     rw[←hw6.out]
     refine htk1.mono ?_
     clear htk1
     rintro e9 w7 ⟨rfl,hd7,hg7'⟩
     have hg7:=hg6.trans hg7'
     have k67:=k66.grown hg7' (by omega)
     have hl7:=hl6.grown hg7' hpp6 hp63
     clear hg6 hg7' k66 hl6 hd6 hd4 hg4 k64 hl4 hb5 hw5 hw6
     have hb8:=Zah (Zac w7 (.cells #[.int .u8 0,.string ⟨#[]⟩,.int .i64 0,.int .i64 0] 46)) (Nat.le_refl _) (Zae t).toArray
     have kt8:Blk ((w7.alloc (.cells #[.int .u8 0,.string ⟨#[]⟩,.int .i64 0,.int .i64 0] 46)).setRow w7.heap.size (Zae t).toArray) w7.heap.size (Zae t) 46:=(Blk.new w7 (Zae Zan) 46).vrow _
     have k68:=k67.below hb8
     have hd8:=hd7.below hb8
     have hg8:=hg7.trans (Zad hb8 (some p))
     have hl8:=hl7.grown (Zad hb8 (some p)) hpp6 hp63
     have hls8:p3 < w7.heap.size:=by obtain ⟨_,k,-⟩:=hl7;exact k.lt
     obtain ⟨w8,hw8⟩:=Zaf ((w7.alloc (.cells #[.int .u8 0,.string ⟨#[]⟩,.int .i64 0,.int .i64 0] 46)).setRow w7.heap.size (Zae t).toArray)
     rw[←hw8.out]at kt8 k68 hd8 hg8 hl8
     obtain ⟨p4,hp4⟩:=Zaf w7.heap.size
     have ct1:w8.cell? ⟨w7.heap.size,1,none⟩=some (.string (str t.t)):=kt8.cell 1
     rcases hkw with ⟨hkt,hbind⟩|⟨hkt,hth⟩|⟨hkt,hth⟩|⟨hkt,hth⟩
     · rw[hkt]at ct1
       replace ct1:w8.cell? ⟨w7.heap.size,1,none⟩=some (.string ⟨#[105,110]⟩):=ct1
       go_upto_region 12 with (first
        | (at_builtin;fail)
        | (refine wpList_store_row rfl 46 _ _ rfl _ (Zae t).toArray rfl rfl 46 (Zae Zan).toArray (Blk.new w7 (Zae Zan) 46) (kT4 rfl) rfl (Zay _) ?_;rw[←hw8.out]))
       have kT:=k68
       have hdS:=hd8
       have hgS:=hg8
       obtain ⟨re,kb1,hv1,-⟩:=hl8
       obtain ⟨o1,n1,s1,t1,A1,a1,c1,B1,b1,d1,hre0,-⟩:=Zbu hv1
       have hre1:=Zai hre0
       have hwS:w.heap.size≤w8.heap.size:=hgS.size
       have hwt:w.heap.size≤p6:=HB2.out
       have hlt8:=kb1.lt
       clear hre0 k67 hd7 hg7 hl7 k68 hd8 hg8 kt8 hw8 hp4 hb8 ct1
       rcases Zbp hbind with ⟨e0,h1,hq⟩|⟨eC,rB,h1,hnext⟩
       · have hone:∀ (u:World),Zbg u p r1→Env w0 p u→Calls Tryz.prog 150 #[.pointer (some ⟨p,0,none⟩)] u fun e w'=>u.grownBy w' (some p)∧Zbg w' p e0∧e=.panicked Zgu:=fun u a b=>hP f' hf' p w0 u r1 (.error e0) a hokA b h1
         have hS0:w.grownBy w8.drew (some p)∧w8.heap.size≤w8.drew.heap.size∧((fun _:Nat=>false) 5=false→Blk w8.drew p6 Zag 26)∧Zbg w8.drew p r1∧EAt w8.drew (Up w8.drew (fun b=>p6 < b∧b ≠ p3)) e re∧Blk w8.drew p3 re 26:=⟨hgS.trans (Zad (Zaj (Below.refl _ _)) _),Nat.le_refl _,fun _=>kT,hdS,hv1.up (Zad (Zaj (Below.refl _ _)) (some p)) (fun b hb=>by have:=hb.1;omega),kb1⟩
         refine Zcz (fun ex u=>ex=.panic Zgu∧y=.error e0∧w.grownBy u (some p)∧Zbg u p e0) (by
          rintro ex b u hb ⟨rfl,h1,h2,h3⟩
          refine ⟨hb,?_⟩
          rw[h1]
          exact ⟨h2,h3,rfl⟩) (fun L _ u=>w.grownBy u (some p)∧w8.heap.size≤u.heap.size∧(L 5=false→Blk u p6 Zag 26)∧Zbg u p r1∧EAt u (Up u (fun b=>p6 < b∧b ≠ p3)) e re∧Blk u p3 re 26) (fun i u u'=>(i ≠ 5→u.grownBy u' (some p))∧(i=5→u.grownBy u' (some p6))) _ (by kernel_rfl) (by kernel_rfl) (fun v=>by simp only[Zbx,Act.put,List.toList_toArray,Zl2,Zl0,Zl1,Nat.reduceAdd,Nat.zero_add];rfl) hS0 (fun L L' v u hL h=>by rw[←hL 5 (by decide)];exact h) ?_
         refine Zat [] _ (fun L hL hcl v u hS hd K' hK=>by
          simp only[Act.put,Zl2,Zl0,Zl1]at hK
          have k7:=hS.2.2.2.2.2
          rw[hre1.out]at k7
          have q10:u.cell? ⟨p3,0,none⟩=some (.int .u8 (o1:Int)):=k7.cell 0
          have q11:u.cell? ⟨p3,1,none⟩=some (.int .i64 n1):=k7.cell 1
          have q12:u.cell? ⟨p3,2,none⟩=some (.string s1):=k7.cell 2
          have q13:u.cell? ⟨p3,3,none⟩=some (.string t1):=k7.cell 3
          have q14:u.cell? ⟨p3,4,none⟩=some (.slice A1 a1 c1):=k7.cell 4
          have q15:u.cell? ⟨p3,5,none⟩=some (.slice B1 b1 d1):=k7.cell 5
          go_simp
          exact hK.out _ ⟨⟨hS.1,hS.2.1,fun h=>hS.2.2.1 (by simpa using h),hS.2.2.2.1,hS.2.2.2.2.1,hS.2.2.2.2.2⟩,⟨fun _=>Zab _ _,fun h=>by cases h⟩⟩) (by kernel_rfl) (j:=1) rfl ?_
         refine Zat [] _ (fun L hL hcl v u hS hd K' hK=>by
          simp only[Act.put,Zl2,Zl0,Zl1]at hK
          go_simp
          exact hK.out _ ⟨⟨hS.1,hS.2.1,fun h=>hS.2.2.1 (by simpa using h),hS.2.2.2.1,hS.2.2.2.2.1,hS.2.2.2.2.2⟩,⟨fun _=>Zab _ _,fun h=>by cases h⟩⟩) (by kernel_rfl) (j:=2) rfl ?_
         refine Zar [1] (fun _ _=>False) ((fun _ _ _ _ _ _ h=>h)) (fun L hL hcl v u hS hd K' hK=>by
          simp only[Zal,Zak,eqv,Zl3,Zl4,Nat.reduceSub]at hd
          simp only[Act.put,Zl2,Zl0,Zl1]at hK
          try simp only[hd]at hK
          go_simp
          refine (hone u hS.2.2.2.1 (hE.step hS.1)).mono ?_
          rintro e9 u1 ⟨hg9,hd9,rfl⟩
          first|exact ⟨rfl,hq,hS.1.trans hg9,hd9⟩|exact ⟨rfl,hS.1.trans hg9,hd9⟩|exact ⟨hS.1.trans hg9,hd9⟩) (by kernel_rfl) (j:=3) rfl ?_
         refine Zar [0,2] (fun _ _=>False) ((fun _ _ _ _ _ _ h=>h)) (fun L hL hcl v u hS hd K' hK=>by
          simp only[Zal,Zak,eqv,Zl3,Zl4,Nat.reduceSub]at hd
          try exact hd.2.elim) (by kernel_rfl) (j:=4) rfl ?_
         refine Zar [3] (fun _ _=>False) ((fun _ _ _ _ _ _ h=>h)) (fun L hL hcl v u hS hd K' hK=>by
          simp only[Zal,Zak,eqv,Zl3,Zl4,Nat.reduceSub]at hd
          try first|exact hd.elim|exact hd.2.elim) (by kernel_rfl) (j:=5) rfl ?_
         refine Zar [4] (fun _ _=>False) ((fun _ _ _ _ _ _ h=>h)) (fun L hL hcl v u hS hd K' hK=>by
          simp only[Zal,Zak,eqv,Zl3,Zl4,Nat.reduceSub]at hd
          try exact hd.elim) (by kernel_rfl) (j:=6) rfl ?_
         refine Zee [5] (by decide) ?_
         rintro v u hS hR
         simp only[Zal,Zak,eqv,Zl3,Zl4,Nat.reduceSub]at hR
         try exact hR.elim
       · have hone:∀ (u:World),Zbg u p r1→Env w0 p u→Calls Tryz.prog 150 #[.pointer (some ⟨p,0,none⟩)] u fun e w'=>u.grownBy w' (some p)∧Zbg w' p rB∧∃ v,e=.returned v∧ExV u.heap.size eC w' v:=fun u a b=>hP f' hf' p w0 u r1 (.ok (eC,rB)) a hokA b h1
         have HQ:Hid (y=.ok (Zbk 23 [e,eC],rB)):=Zai (Option.some.inj hnext).symm
         clear hnext h1 hbind
         have hS0:w.grownBy w8.drew (some p)∧w8.heap.size≤w8.drew.heap.size∧((fun _:Nat=>false) 5=false→Blk w8.drew p6 Zag 26)∧Zbg w8.drew p (if (fun _:Nat=>false) 2 then rB else r1)∧EAt w8.drew (Up w8.drew (fun b=>p6 < b∧b ≠ p3)) e re∧Blk w8.drew p3 re 26:=⟨hgS.trans (Zad (Zaj (Below.refl _ _)) _),Nat.le_refl _,fun _=>kT,hdS,hv1.up (Zad (Zaj (Below.refl _ _)) (some p)) (fun b hb=>by have:=hb.1;omega),kb1⟩
         refine Zap (fun L _ u=>w.grownBy u (some p)∧w8.heap.size≤u.heap.size∧(L 5=false→Blk u p6 Zag 26)∧Zbg u p (if L 2 then rB else r1)∧EAt u (Up u (fun b=>p6 < b∧b ≠ p3)) e re∧Blk u p3 re 26) (fun i u u'=>(i ≠ 5→u.grownBy u' (some p))∧(i=5→u.grownBy u' (some p6))) _ (by kernel_rfl) (by kernel_rfl) (fun v=>by simp only[Zbx,Act.put,List.toList_toArray,Zl2,Zl0,Zl1,Nat.reduceAdd,Nat.zero_add];rfl) hS0 (fun L L' v u hL h=>by rw[←hL 2 (by decide),←hL 5 (by decide)];exact h) ?_
         refine Zaa [] _ (fun L hL hcl v u hS hd K' hK=>by
          simp only[Act.put,Zl2,Zl0,Zl1]at hK
          have k7:=hS.2.2.2.2.2
          rw[hre1.out]at k7
          have q10:u.cell? ⟨p3,0,none⟩=some (.int .u8 (o1:Int)):=k7.cell 0
          have q11:u.cell? ⟨p3,1,none⟩=some (.int .i64 n1):=k7.cell 1
          have q12:u.cell? ⟨p3,2,none⟩=some (.string s1):=k7.cell 2
          have q13:u.cell? ⟨p3,3,none⟩=some (.string t1):=k7.cell 3
          have q14:u.cell? ⟨p3,4,none⟩=some (.slice A1 a1 c1):=k7.cell 4
          have q15:u.cell? ⟨p3,5,none⟩=some (.slice B1 b1 d1):=k7.cell 5
          go_simp
          exact hK.out _ ⟨⟨hS.1,hS.2.1,fun h=>hS.2.2.1 (by simpa using h),by simpa using hS.2.2.2.1,hS.2.2.2.2.1,hS.2.2.2.2.2⟩,⟨fun _=>Zab _ _,fun h=>by cases h⟩⟩) (by kernel_rfl) (j:=1) rfl ?_
         refine Zaa [] _ (fun L hL hcl v u hS hd K' hK=>by
          simp only[Act.put,Zl2,Zl0,Zl1]at hK
          go_simp
          exact hK.out _ ⟨⟨hS.1,hS.2.1,fun h=>hS.2.2.1 (by simpa using h),by simpa using hS.2.2.2.1,hS.2.2.2.2.1,hS.2.2.2.2.2⟩,⟨fun _=>Zab _ _,fun h=>by cases h⟩⟩) (by kernel_rfl) (j:=2) rfl ?_
         refine Zam [1] (fun v u=>∃ (o9:Nat) (n9:Int) (s9 t9:ByteArray) (A9:Option Addr) (a9 c9:Nat) (B9:Option Addr) (b9 d9:Nat),v=.agg #[.int .u8 (o9:Int),.int .i64 n9,.string s9,.string t9,.slice A9 a9 c9,.slice B9 b9 d9]∧EAt u (Up u (fun b=>w8.heap.size≤b)) eC (Zav o9 n9 s9 t9 (.slice A9 a9 c9) (.slice B9 b9 d9))) ((by
          rintro j x u u' hj hg ⟨o9,n9,s9,t9,A9,a9,c9,B9,b9,d9,h1,h2⟩
          refine ⟨o9,n9,s9,t9,A9,a9,c9,B9,b9,d9,h1,?_⟩
          by_cases e:j=5
          · exact h2.up (hg.2 e) (fun b hb=>by omega)
          · exact h2.up (hg.1 e) (fun b hb=>by omega))) (fun L hL hcl v u hS hd K' hK=>by
          simp only[Zal,Zak,eqv,Zl3,Zl4,Nat.reduceSub]at hd
          simp only[Act.put,Zl2,Zl0,Zl1]at hK
          try simp only[hd]at hK
          go_simp
          refine (hone u (by have:=hS.2.2.2.1;rw[hL]at this;exact this) (hE.step hS.1)).mono ?_
          rintro e9 u1 ⟨hg9,hd9,v9,rfl,r9,rfl,hv9,-⟩
          obtain ⟨o9,n9,s9,t9,A9,a9,c9,B9,b9,d9,rfl,-⟩:=Zbu hv9
          exact hK.out _ _ ⟨⟨hS.1.trans hg9,Nat.le_trans hS.2.1 hg9.size,fun h=>(hS.2.2.1 (by simpa using h)).grown hg9 (by omega),by simpa using hd9,hS.2.2.2.2.1.up hg9 (fun b hb=>by have:=hb.1;omega),hS.2.2.2.2.2.grown hg9 (by omega)⟩,⟨fun _=>hg9,fun h=>by cases h⟩,o9,n9,s9,t9,A9,a9,c9,B9,b9,d9,rfl,hv9.imp (fun b hb=>⟨Nat.le_trans hS.2.1 hb.1,hb.2⟩)⟩) (by kernel_rfl) (j:=3) rfl ?_
         refine Zam [0,2] (fun v u=>∃ (g:Nat) (rb:List Value),v=.slice (some ⟨g,0,none⟩) 2 2∧w8.heap.size≤g∧Blk u g (re ++ rb) 26∧EAt u (Up u (fun b=>w8.heap.size≤b)) eC rb) ((by
          rintro j x u u' hj hg ⟨g,rb,h1,h2,h3,h4⟩
          refine ⟨g,rb,h1,h2,?_⟩
          by_cases e:j=5
          · exact ⟨h3.grown (hg.2 e) (by omega),h4.up (hg.2 e) (fun b hb=>by omega)⟩
          · exact ⟨h3.grown (hg.1 e) (by omega),h4.up (hg.1 e) (fun b hb=>by omega)⟩)) (fun L hL hcl v u hS hd K' hK=>by
          simp only[Zal,Zak,eqv,Zl3,Zl4,Nat.reduceSub]at hd
          simp only[Act.put,Zl2,Zl0,Zl1]at hK
          try simp only[hd]at hK
          obtain ⟨h00,o9,n9,s9,t9,A9,a9,c9,B9,b9,d9,h1,hv⟩:=hd
          simp only[h00,h1]at hK
          simp only[h00,h1]
          go_simp
          have hb9:=Zac u (.cells ((Zav o1 n1 s1 t1 (.slice A1 a1 c1) (.slice B1 b1 d1)) ++ (Zav o9 n9 s9 t9 (.slice A9 a9 c9) (.slice B9 b9 d9))).toArray 26)
          have hg9:=Zad hb9 (some p)
          have k9:=Blk.new u ((Zav o1 n1 s1 t1 (.slice A1 a1 c1) (.slice B1 b1 d1)) ++ (Zav o9 n9 s9 t9 (.slice A9 a9 c9) (.slice B9 b9 d9))) 26
          have hh:=hK.out (.slice (some ⟨u.heap.size,0,none⟩) 2 2) _ ⟨⟨hS.1.trans hg9,Nat.le_trans hS.2.1 hg9.size,fun h=>(hS.2.2.1 (by simpa using h)).grown hg9 (by omega),by simpa using hS.2.2.2.1.below hb9,hS.2.2.2.2.1.up hg9 (fun b hb=>by have:=hb.1;omega),hS.2.2.2.2.2.grown hg9 (by omega)⟩,⟨fun _=>hg9,fun h=>by cases h⟩,u.heap.size,(Zav o9 n9 s9 t9 (.slice A9 a9 c9) (.slice B9 b9 d9)),rfl,hS.2.1,by rw[hre1.out];exact k9,hv.up hg9 (fun b hb=>by omega)⟩
          exact hh) (by kernel_rfl) (j:=4) rfl ?_
         refine Zam [3] (fun v u=>∃ (g:Nat) (rb:List Value),v=.agg (Zav 23 0 ⟨#[]⟩ ⟨#[]⟩ (.slice none 0 0) (.slice (some ⟨g,0,none⟩) 2 2)).toArray∧w8.heap.size≤g∧Blk u g (re ++ rb) 26∧EAt u (Up u (fun b=>w8.heap.size≤b)) eC rb) ((by
          rintro j x u u' hj hg ⟨g,rb,h1,h2,h3,h4⟩
          refine ⟨g,rb,h1,h2,?_⟩
          by_cases e:j=5
          · exact ⟨h3.grown (hg.2 e) (by omega),h4.up (hg.2 e) (fun b hb=>by omega)⟩
          · exact ⟨h3.grown (hg.1 e) (by omega),h4.up (hg.1 e) (fun b hb=>by omega)⟩)) (fun L hL hcl v u hS hd K' hK=>by
          simp only[Zal,Zak,eqv,Zl3,Zl4,Nat.reduceSub]at hd
          simp only[Act.put,Zl2,Zl0,Zl1]at hK
          try simp only[hd]at hK
          obtain ⟨g,rb,h1,h2,h3,h4⟩:=hd
          simp only[h1]at hK ⊢
          go_simp
          refine (Zjp 23 (some ⟨g,0,none⟩) 2 2 u).mono ?_
          rintro e9 u1 ⟨rfl,hb9⟩
          have hg9:=Zad hb9 (some p)
          exact hK.out _ _ ⟨⟨hS.1.trans hg9,Nat.le_trans hS.2.1 hg9.size,fun h=>(hS.2.2.1 (by simpa using h)).grown hg9 (by omega),by simpa using hS.2.2.2.1.below hb9,hS.2.2.2.2.1.up hg9 (fun b hb=>by have:=hb.1;omega),hS.2.2.2.2.2.grown hg9 (by omega)⟩,⟨fun _=>hg9,fun h=>by cases h⟩,g,rb,rfl,h2,h3.below hb9,h4.up hg9 (fun b hb=>by omega)⟩) (by kernel_rfl) (j:=5) rfl ?_
         refine Zam [4] (fun _ u=>∃ (g:Nat) (rb:List Value),Blk u p6 (Zav 23 0 ⟨#[]⟩ ⟨#[]⟩ (.slice none 0 0) (.slice (some ⟨g,0,none⟩) 2 2)) 26∧w8.heap.size≤g∧Blk u g (re ++ rb) 26∧EAt u (Up u (fun b=>w8.heap.size≤b)) eC rb) ((by
          rintro j x u u' hj hg ⟨g,rb,h1,h2,h3,h4⟩
          exact ⟨g,rb,h1.grown (hg.1 hj) (by omega),h2,h3.grown (hg.1 hj) (by omega),h4.up (hg.1 hj) (fun b hb=>by omega)⟩)) (fun L hL hcl v u hS hd K' hK=>by
          simp only[Zal,Zak,eqv,Zl3,Zl4,Nat.reduceSub]at hd
          obtain ⟨g,rb,h1,h2,h3,h4⟩:=hd
          have k7:=hS.2.2.1 hL
          refine Zbe rfl ?_
          refine wp_store_row 26 _ _ rfl _ (Zav 23 0 ⟨#[]⟩ ⟨#[]⟩ (.slice none 0 0) (.slice (some ⟨g,0,none⟩) 2 2)).toArray rfl h1 26 Zag.toArray k7 (kE6 rfl) rfl (Zas Zcd) ?_
          have hgr:=Zbc u p6 (Zav 23 0 ⟨#[]⟩ ⟨#[]⟩ (.slice none 0 0) (.slice (some ⟨g,0,none⟩) 2 2)).toArray
          refine hK.out undef _ ⟨⟨Zaq hS.1 hwt _,by rw[Zgn];exact hS.2.1,fun h=>by simp at h,by simpa using hS.2.2.2.1.row (show p < p6 by omega) _,hS.2.2.2.2.1.up hgr (fun b hb=>by have:=hb.1;omega),hS.2.2.2.2.2.grown hgr (by omega)⟩,⟨fun h=>absurd rfl h,fun _=>hgr⟩,g,rb,k7.vrow _,h2,h3.grown hgr (by omega),h4.up hgr (fun b hb=>by omega)⟩) (by kernel_rfl) (j:=6) rfl ?_
         refine Zau [5] (by decide) ?_
         rintro v u hS hR
         simp only[Zal,Zak,eqv,Zl3,Zl4,Nat.reduceSub]at hR
         obtain ⟨g,rb,q1,q2,q3,q4⟩:=hR
         have z0:=hS.1
         have z3:Zbg u p rB:=by simpa using hS.2.2.2.1
         have z4:=hS.2.2.2.2.1
         clear hS hS0 hone
         have hlt:=q3.lt
         go_wp2_with (first|(at_builtin;fail))
         refine bodyPost_ret (Zfz rfl _ rfl q1 rfl) rfl ?_
         rw[HQ.out]
         refine ⟨z0,z3,_,rfl,_,rfl,?_,?_⟩
         · refine Zfg (l:=[e,eC]) (rows:=[re,rb]) (by decide) ⟨by omega,by omega⟩ (by decide) (by decide) (show 2 * 96≤Zbq by decide) (Nat.le_refl _) (by simpa using q3) ⟨Nat.le_trans hwS q2,hlt⟩ ?_
           exact Zmj (z4.imp (fun b hb=>⟨by have:=hb.1;omega,hb.2⟩)) (q4.imp (fun b hb=>⟨Nat.le_trans hwS hb.1,hb.2⟩))
         · exact Zid q3 (by rw[hre1.out];simp only[List.length_append,Zby q4];exact (by decide:2 * 6≤6+6))
     · rw[hkt]at ct1
       replace ct1:w8.cell? ⟨w7.heap.size,1,none⟩=some (.string ⟨#[104,97,115]⟩):=ct1
       obtain ⟨re8,k38,hv8,-⟩:=hl8
       obtain ⟨o1,n1,s1,t1,A1,a1,c1,B1,b1,d1,rfl,-⟩:=Zbu hv8
       have q0:w8.cell? ⟨p3,0,none⟩=some (.int .u8 (o1:Int)):=k38.cell 0
       have q1:w8.cell? ⟨p3,1,none⟩=some (.int .i64 n1):=k38.cell 1
       have q2:w8.cell? ⟨p3,2,none⟩=some (.string s1):=k38.cell 2
       have q3:w8.cell? ⟨p3,3,none⟩=some (.string t1):=k38.cell 3
       have q4:w8.cell? ⟨p3,4,none⟩=some (.slice A1 a1 c1):=k38.cell 4
       have q5:w8.cell? ⟨p3,5,none⟩=some (.slice B1 b1 d1):=k38.cell 5
       have hba8:=Zac w8 (.cells (Zav o1 n1 s1 t1 (.slice A1 a1 c1) (.slice B1 b1 d1)).toArray 26)
       have hnd8:=Zjp 9 (some ⟨w8.heap.size,0,none⟩) 1 1 (w8.alloc (.cells (Zav o1 n1 s1 t1 (.slice A1 a1 c1) (.slice B1 b1 d1)).toArray 26))
       go_wp2_with (first
        | (at_builtin;fail)
        | (refine wpList_store_row rfl 46 _ _ rfl _ (Zae t).toArray rfl rfl 46 (Zae Zan).toArray (Blk.new w7 (Zae Zan) 46) (kT4 rfl) rfl (Zay _) ?_;rw[←hw8.out]))
       refine hnd8.mono ?_
       clear hnd8
       rintro e9 v8 ⟨rfl,hbn8⟩
       clear q0 q1 q2 q3 q4 q5
       have hbb8:Below w8.heap.size w8 v8:=hba8.trans (hbn8.mono (by rw[Zkz];exact Nat.le_succ _))
       have hh9:=Znf 9 hv8 k38 (by omega) hbn8
       have hd9:=(hd8.below hbb8).row (show p < p3 by omega) (Zav 9 0 ⟨#[]⟩ ⟨#[]⟩ (.slice none 0 0) (.slice (some ⟨w8.heap.size,0,none⟩) 1 1)).toArray
       have hg9:=Zaq (hg8.trans (Zad hbb8 (some p))) (show w.heap.size≤p3 by omega) (Zav 9 0 ⟨#[]⟩ ⟨#[]⟩ (.slice none 0 0) (.slice (some ⟨w8.heap.size,0,none⟩) 1 1)).toArray
       have k69:=(k68.below hbb8).grown (Zbc v8 p3 (Zav 9 0 ⟨#[]⟩ ⟨#[]⟩ (.slice none 0 0) (.slice (some ⟨w8.heap.size,0,none⟩) 1 1)).toArray) (by omega)
       have k3n8:=k38.below hbb8
       obtain ⟨w9,hw9⟩:=Zaf (v8.setRow p3 (Zav 9 0 ⟨#[]⟩ ⟨#[]⟩ (.slice none 0 0) (.slice (some ⟨w8.heap.size,0,none⟩) 1 1)).toArray)
       rw[←hw9.out]at hh9 hd9 hg9 k69
       go_wp2_with (first
        | (at_builtin;fail)
        | (refine wpList_store_row rfl 26 _ _ rfl _ (Zav 9 0 ⟨#[]⟩ ⟨#[]⟩ (.slice none 0 0) (.slice (some ⟨w8.heap.size,0,none⟩) 1 1)).toArray rfl rfl 26 (Zav o1 n1 s1 t1 (.slice A1 a1 c1) (.slice B1 b1 d1)).toArray k3n8 (kE6 rfl) rfl (Zas Zcd) ?_;rw[←hw9.out]))
       clear hw9 hv8 k38 k3n8 hba8 hbn8 hbb8 hd8 hg8 k68
       have hlb:=Zsi p w0 w9 r1 hd9 hokA (hE.step hg9)
       refine hlb.mono ?_
       clear hlb
       rintro e9 wA ⟨hgA',h⟩
       rcases Zca hth with ⟨e0,h1,hq⟩|⟨s,r2,h1,hth2⟩
       · rw[h1]at h
         obtain ⟨h2,rfl⟩:=h
         refine ⟨rfl,?_⟩
         rw[hq]
         exact ⟨hg9.trans hgA',h2,rfl⟩
       · rw[h1]at h
         obtain ⟨hdA,v,rfl,rfl⟩:=h
         have HQ:Hid (y=.ok (.mk 9 0 (str s) noS [] [e],r2)):=Zai (Option.some.inj hth2).symm
         have hgA:=hg9.trans hgA'
         have hhA:=hh9.grown hgA' hpp6 hp63
         have k6A:=k69.grown hgA' (by omega)
         have hsz:(str s).size≤Zbq:=by
          obtain ⟨t2,e2,e3⟩:=Zkp h1
          exact Zls (by rw[←e3];exact (hokA.2 t2 (by rw[e2];simp)).1)
         have hlB:=hhA.text (by decide) (str s) hsz
         obtain ⟨g,reb,k3b,-⟩:=hhA
         have f2:=k3b.free 2
         have f2c:wA.cell? ⟨p3,2,none⟩=some (.string ⟨#[]⟩):=k3b.cell 2
         have hdB:=hdA.far (show p < p3 by omega) 2 (.string (str s))
         have hgB:=Zed hgA hwp3 2 (.string (str s))
         have k6B:=k6A.far (p:=⟨p3,2,none⟩) (show p6 ≠ p3 by omega) (.string (str s))
         clear h1 hth hth2 hh9 hd9 hg9 k69 hdA hgA' k6A hgA k3b
         obtain ⟨re,k3,hv,hw⟩:=hlB
         have hlen:=Zby hv
         have hgr:=Zbc (wA.setCell ⟨p3,2,none⟩ (.string (str s))) p6 re.toArray
         go_wp2_with (first
          | (at_builtin;fail)
          | refine wpList_load_row rfl 26 _ rfl _ rfl 26 re.toArray (0,0) _ k3 Tryz.underlying26 rfl (kE6 hlen) ?_
          | refine wpList_store_row rfl 26 _ _ rfl _ re.toArray rfl rfl 26 Zag.toArray k6B (kE6 hlen) (zE6 hlen) (Zas (Zcy hv)) ?_)
         have hv6:=hv.up hgr (fun b hb=>by have:=hb.1;omega)
         refine bodyPost_ret (Zfz rfl _ rfl (k6B.vrow re) hlen) rfl ?_
         rw[HQ.out]
         refine ⟨Zaq hgB HB2.out _,hdB.row hpp6 _,_,rfl,re,rfl,?_,hw.grown hv hgr (fun b hb=>by have:=hb.1.1;omega)⟩
         exact hv6.imp (fun b hb=>⟨by have:=HB2.out;have:=hb.1.1;omega,hb.2⟩)
     · rw[hkt]at ct1
       replace ct1:w8.cell? ⟨w7.heap.size,1,none⟩=some (.string ⟨#[105,115]⟩):=ct1
       obtain ⟨re8,k38,hv8,-⟩:=hl8
       obtain ⟨o1,n1,s1,t1,A1,a1,c1,B1,b1,d1,rfl,-⟩:=Zbu hv8
       have q0:w8.cell? ⟨p3,0,none⟩=some (.int .u8 (o1:Int)):=k38.cell 0
       have q1:w8.cell? ⟨p3,1,none⟩=some (.int .i64 n1):=k38.cell 1
       have q2:w8.cell? ⟨p3,2,none⟩=some (.string s1):=k38.cell 2
       have q3:w8.cell? ⟨p3,3,none⟩=some (.string t1):=k38.cell 3
       have q4:w8.cell? ⟨p3,4,none⟩=some (.slice A1 a1 c1):=k38.cell 4
       have q5:w8.cell? ⟨p3,5,none⟩=some (.slice B1 b1 d1):=k38.cell 5
       have hba8:=Zac w8 (.cells (Zav o1 n1 s1 t1 (.slice A1 a1 c1) (.slice B1 b1 d1)).toArray 26)
       have hnd8:=Zjp 10 (some ⟨w8.heap.size,0,none⟩) 1 1 (w8.alloc (.cells (Zav o1 n1 s1 t1 (.slice A1 a1 c1) (.slice B1 b1 d1)).toArray 26))
       go_wp2_with (first
        | (at_builtin;fail)
        | (refine wpList_store_row rfl 46 _ _ rfl _ (Zae t).toArray rfl rfl 46 (Zae Zan).toArray (Blk.new w7 (Zae Zan) 46) (kT4 rfl) rfl (Zay _) ?_;rw[←hw8.out]))
       refine hnd8.mono ?_
       clear hnd8
       rintro e9 v8 ⟨rfl,hbn8⟩
       clear q0 q1 q2 q3 q4 q5
       have hbb8:Below w8.heap.size w8 v8:=hba8.trans (hbn8.mono (by rw[Zkz];exact Nat.le_succ _))
       have hh9:=Znf 10 hv8 k38 (by omega) hbn8
       have hd9:=(hd8.below hbb8).row (show p < p3 by omega) (Zav 10 0 ⟨#[]⟩ ⟨#[]⟩ (.slice none 0 0) (.slice (some ⟨w8.heap.size,0,none⟩) 1 1)).toArray
       have hg9:=Zaq (hg8.trans (Zad hbb8 (some p))) (show w.heap.size≤p3 by omega) (Zav 10 0 ⟨#[]⟩ ⟨#[]⟩ (.slice none 0 0) (.slice (some ⟨w8.heap.size,0,none⟩) 1 1)).toArray
       have k69:=(k68.below hbb8).grown (Zbc v8 p3 (Zav 10 0 ⟨#[]⟩ ⟨#[]⟩ (.slice none 0 0) (.slice (some ⟨w8.heap.size,0,none⟩) 1 1)).toArray) (by omega)
       have k3n8:=k38.below hbb8
       obtain ⟨w9,hw9⟩:=Zaf (v8.setRow p3 (Zav 10 0 ⟨#[]⟩ ⟨#[]⟩ (.slice none 0 0) (.slice (some ⟨w8.heap.size,0,none⟩) 1 1)).toArray)
       rw[←hw9.out]at hh9 hd9 hg9 k69
       go_wp2_with (first
        | (at_builtin;fail)
        | (refine wpList_store_row rfl 26 _ _ rfl _ (Zav 10 0 ⟨#[]⟩ ⟨#[]⟩ (.slice none 0 0) (.slice (some ⟨w8.heap.size,0,none⟩) 1 1)).toArray rfl rfl 26 (Zav o1 n1 s1 t1 (.slice A1 a1 c1) (.slice B1 b1 d1)).toArray k3n8 (kE6 rfl) rfl (Zas Zcd) ?_;rw[←hw9.out]))
       clear hw9 hv8 k38 k3n8 hba8 hbn8 hbb8 hd8 hg8 k68
       have hlb:=rtype_w p w0 w9 r1 hd9 hokA (hE.step hg9)
       refine hlb.mono ?_
       clear hlb
       rintro e9 wA ⟨hgA',h⟩
       rcases Zca hth with ⟨e0,h1,hq⟩|⟨s,r2,h1,hth2⟩
       · rw[h1]at h
         obtain ⟨h2,rfl⟩:=h
         refine ⟨rfl,?_⟩
         rw[hq]
         exact ⟨hg9.trans hgA',h2,rfl⟩
       · rw[h1]at h
         obtain ⟨hdA,v,rfl,rfl⟩:=h
         have HQ:Hid (y=.ok (.mk 10 0 noS (str s) [] [e],r2)):=Zai (Option.some.inj hth2).symm
         have hgA:=hg9.trans hgA'
         have hhA:=hh9.grown hgA' hpp6 hp63
         have k6A:=k69.grown hgA' (by omega)
         have hsz:(str s).size≤Zbq:=str_mx2 (typeP_size hokA h1)
         have hlB:=hhA.typ (by decide) (str s) hsz
         obtain ⟨g,reb,k3b,-⟩:=hhA
         have f2:=k3b.free 3
         have f2c:wA.cell? ⟨p3,3,none⟩=some (.string ⟨#[]⟩):=k3b.cell 3
         have hdB:=hdA.far (show p < p3 by omega) 3 (.string (str s))
         have hgB:=Zed hgA hwp3 3 (.string (str s))
         have k6B:=k6A.far (p:=⟨p3,3,none⟩) (show p6 ≠ p3 by omega) (.string (str s))
         clear h1 hth hth2 hh9 hd9 hg9 k69 hdA hgA' k6A hgA k3b
         obtain ⟨re,k3,hv,hw⟩:=hlB
         have hlen:=Zby hv
         have hgr:=Zbc (wA.setCell ⟨p3,3,none⟩ (.string (str s))) p6 re.toArray
         go_wp2_with (first
          | (at_builtin;fail)
          | refine wpList_load_row rfl 26 _ rfl _ rfl 26 re.toArray (0,0) _ k3 Tryz.underlying26 rfl (kE6 hlen) ?_
          | refine wpList_store_row rfl 26 _ _ rfl _ re.toArray rfl rfl 26 Zag.toArray k6B (kE6 hlen) (zE6 hlen) (Zas (Zcy hv)) ?_)
         have hv6:=hv.up hgr (fun b hb=>by have:=hb.1;omega)
         refine bodyPost_ret (Zfz rfl _ rfl (k6B.vrow re) hlen) rfl ?_
         rw[HQ.out]
         refine ⟨Zaq hgB HB2.out _,hdB.row hpp6 _,_,rfl,re,rfl,?_,hw.grown hv hgr (fun b hb=>by have:=hb.1.1;omega)⟩
         exact hv6.imp (fun b hb=>⟨by have:=HB2.out;have:=hb.1.1;omega,hb.2⟩)
     · rw[hkt]at ct1
       replace ct1:w8.cell? ⟨w7.heap.size,1,none⟩=some (.string ⟨#[108,105,107,101]⟩):=ct1
       obtain ⟨re8,k38,hv8,-⟩:=hl8
       obtain ⟨o1,n1,s1,t1,A1,a1,c1,B1,b1,d1,rfl,-⟩:=Zbu hv8
       have q0:w8.cell? ⟨p3,0,none⟩=some (.int .u8 (o1:Int)):=k38.cell 0
       have q1:w8.cell? ⟨p3,1,none⟩=some (.int .i64 n1):=k38.cell 1
       have q2:w8.cell? ⟨p3,2,none⟩=some (.string s1):=k38.cell 2
       have q3:w8.cell? ⟨p3,3,none⟩=some (.string t1):=k38.cell 3
       have q4:w8.cell? ⟨p3,4,none⟩=some (.slice A1 a1 c1):=k38.cell 4
       have q5:w8.cell? ⟨p3,5,none⟩=some (.slice B1 b1 d1):=k38.cell 5
       have hba8:=Zac w8 (.cells (Zav o1 n1 s1 t1 (.slice A1 a1 c1) (.slice B1 b1 d1)).toArray 26)
       have hnd8:=Zjp 11 (some ⟨w8.heap.size,0,none⟩) 1 1 (w8.alloc (.cells (Zav o1 n1 s1 t1 (.slice A1 a1 c1) (.slice B1 b1 d1)).toArray 26))
       go_wp2_with (first
        | (at_builtin;fail)
        | (refine wpList_store_row rfl 46 _ _ rfl _ (Zae t).toArray rfl rfl 46 (Zae Zan).toArray (Blk.new w7 (Zae Zan) 46) (kT4 rfl) rfl (Zay _) ?_;rw[←hw8.out]))
       refine hnd8.mono ?_
       clear hnd8
       rintro e9 v8 ⟨rfl,hbn8⟩
       clear q0 q1 q2 q3 q4 q5
       have hbb8:Below w8.heap.size w8 v8:=hba8.trans (hbn8.mono (by rw[Zkz];exact Nat.le_succ _))
       have hh9:=Znf 11 hv8 k38 (by omega) hbn8
       have hd9:=(hd8.below hbb8).row (show p < p3 by omega) (Zav 11 0 ⟨#[]⟩ ⟨#[]⟩ (.slice none 0 0) (.slice (some ⟨w8.heap.size,0,none⟩) 1 1)).toArray
       have hg9:=Zaq (hg8.trans (Zad hbb8 (some p))) (show w.heap.size≤p3 by omega) (Zav 11 0 ⟨#[]⟩ ⟨#[]⟩ (.slice none 0 0) (.slice (some ⟨w8.heap.size,0,none⟩) 1 1)).toArray
       have k69:=(k68.below hbb8).grown (Zbc v8 p3 (Zav 11 0 ⟨#[]⟩ ⟨#[]⟩ (.slice none 0 0) (.slice (some ⟨w8.heap.size,0,none⟩) 1 1)).toArray) (by omega)
       have k3n8:=k38.below hbb8
       obtain ⟨w9,hw9⟩:=Zaf (v8.setRow p3 (Zav 11 0 ⟨#[]⟩ ⟨#[]⟩ (.slice none 0 0) (.slice (some ⟨w8.heap.size,0,none⟩) 1 1)).toArray)
       rw[←hw9.out]at hh9 hd9 hg9 k69
       go_wp2_with (first
        | (at_builtin;fail)
        | (refine wpList_store_row rfl 26 _ _ rfl _ (Zav 11 0 ⟨#[]⟩ ⟨#[]⟩ (.slice none 0 0) (.slice (some ⟨w8.heap.size,0,none⟩) 1 1)).toArray rfl rfl 26 (Zav o1 n1 s1 t1 (.slice A1 a1 c1) (.slice B1 b1 d1)).toArray k3n8 (kE6 rfl) rfl (Zas Zcd) ?_;rw[←hw9.out]))
       clear hw9 hv8 k38 k3n8 hba8 hbn8 hbb8 hd8 hg8 k68
       have hnd0:=Zmv 3 [] none 0 p w9 r1 hd9 (by decide) (TxS.nil _ _) hokA
       rw[Zvf]at hnd0
       have hnd2:Calls Tryz.prog 100 #[.pointer (some ⟨p,0,none⟩),.int .u8 3,.slice none 0 0] w9 fun e w'=>Zhk p w9 (Zdg r1) (fun s _ v=>v=.string (str s)) e w':=hnd0
       clear hnd0
       refine hnd2.mono ?_
       clear hnd2
       rintro e9 wA ⟨hgA',h⟩
       rcases Zca hth with ⟨e0,h1,hq⟩|⟨s,r2,h1,hth2⟩
       · rw[h1]at h
         obtain ⟨h2,rfl⟩:=h
         refine ⟨rfl,?_⟩
         rw[hq]
         exact ⟨hg9.trans hgA',h2,rfl⟩
       · rw[h1]at h
         obtain ⟨hdA,v,rfl,rfl⟩:=h
         have HQ:Hid (y=.ok (.mk 11 0 (str s) noS [] [e],r2)):=Zai (Option.some.inj hth2).symm
         have hgA:=hg9.trans hgA'
         have hhA:=hh9.grown hgA' hpp6 hp63
         have k6A:=k69.grown hgA' (by omega)
         have hsz:(str s).size≤Zbq:=by
          obtain ⟨t2,e2,e3⟩:=Zjv h1
          exact Zls (by rw[←e3];exact (hokA.2 t2 (by rw[e2];simp)).1)
         have hlB:=hhA.text (by decide) (str s) hsz
         obtain ⟨g,reb,k3b,-⟩:=hhA
         have f2:=k3b.free 2
         have f2c:wA.cell? ⟨p3,2,none⟩=some (.string ⟨#[]⟩):=k3b.cell 2
         have hdB:=hdA.far (show p < p3 by omega) 2 (.string (str s))
         have hgB:=Zed hgA hwp3 2 (.string (str s))
         have k6B:=k6A.far (p:=⟨p3,2,none⟩) (show p6 ≠ p3 by omega) (.string (str s))
         clear h1 hth hth2 hh9 hd9 hg9 k69 hdA hgA' k6A hgA k3b
         obtain ⟨re,k3,hv,hw⟩:=hlB
         have hlen:=Zby hv
         have hgr:=Zbc (wA.setCell ⟨p3,2,none⟩ (.string (str s))) p6 re.toArray
         go_wp2_with (first
          | (at_builtin;fail)
          | refine wpList_load_row rfl 26 _ rfl _ rfl 26 re.toArray (0,0) _ k3 Tryz.underlying26 rfl (kE6 hlen) ?_
          | refine wpList_store_row rfl 26 _ _ rfl _ re.toArray rfl rfl 26 Zag.toArray k6B (kE6 hlen) (zE6 hlen) (Zas (Zcy hv)) ?_)
         have hv6:=hv.up hgr (fun b hb=>by have:=hb.1;omega)
         refine bodyPost_ret (Zfz rfl _ rfl (k6B.vrow re) hlen) rfl ?_
         rw[HQ.out]
         refine ⟨Zaq hgB HB2.out _,hdB.row hpp6 _,_,rfl,re,rfl,?_,hw.grown hv hgr (fun b hb=>by have:=hb.1.1;omega)⟩
         exact hv6.imp (fun b hb=>⟨by have:=HB2.out;have:=hb.1.1;omega,hb.2⟩)
end Go.Proofs.YtnhooehmcggmdaaGreatDoor
