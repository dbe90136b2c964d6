/- Parts of a proof about the given program: XWrapW. -/
import Derived.Test.YtnhooehmcggmdaaGreatDoorZ36
import Derived.Test.YtnhooehmcggmdaaGreatDoorZ42
namespace Go.Proofs.YtnhooehmcggmdaaGreatDoor
set_option maxHeartbeats 16000000
set_option linter.unusedVariables false
set_option linter.unusedSimpArgs false
set_option linter.unusedSectionVars false
open Go.RowKit
theorem Ztm {E:Et} {o:Nat} {l:List Et} (hb:Zmc o 0 noS noS [] l.length=true) (hl:∀ x ∈ l,x=E) (h0:l ≠ []):(Zhj E=5∧Zhj (Zbk o l)=5)∨(Zhj E=4∧Zhj (Zbk o l)=4)∨(Zhj E ≠ 5∧Zhj E ≠ 4∧Zhj (Zbk o l) ≠ 5):=by
 have hr:Zbt (Zbk o l)=Zbt E:=by
  show (Zmc o 0 noS noS [] l.length && Zcw l)=_
  rw[hb,Bool.true_and]
  cases l with
  | nil=>exact absurd rfl h0
  | cons x l=>
    obtain rfl:=hl x (by simp)
    rw[Zcw]
    cases hx:Zbt x with
    | false=>rfl
    | true=>
      rw[Bool.true_and]
      clear h0 hb
      induction l with
      | nil=>rfl
      | cons y l ih=>
        obtain rfl:=hl y (by simp)
        rw[Zcw,hx,Bool.true_and]
        exact ih (fun z hz=>hl z (by simp at hz ⊢;rcases hz with h|h <;> simp[h]))
 have hh:E.ht < (Zbk o l).ht:=by
  cases l with
  | nil=>exact absurd rfl h0
  | cons x l=>
    obtain rfl:=hl x (by simp)
    show x.ht < Et.hts (x :: l)+1
    rw[Et.hts]
    omega
 unfold Zhj
 rw[hr]
 by_cases h1:Zbt E=false
 · rw[if_pos h1,if_pos h1];exact .inl ⟨rfl,rfl⟩
 · rw[if_neg h1,if_neg h1]
   by_cases h2:16 < E.ht
   · rw[if_pos h2,if_pos (by omega)];exact .inr (.inl ⟨rfl,rfl⟩)
   · rw[if_neg h2]
     refine .inr (.inr ⟨?_,?_,?_⟩)
     · split <;> simp
     · split <;> simp
     · split
       · simp
       · split <;> simp
theorem chk_two (E:Et):Zhj (Zbk 12 [E,E])=5:=by
 unfold Zhj
 rw[if_pos]
 show (Zmc 12 0 noS noS [] 2 && Zcw [E,E])=false
 rw[show Zmc 12 0 noS noS [] 2=false by decide]
 rfl
set_option maxRecDepth 100000 in
theorem Ztf (hC:Zhx) (E:Et) (r:List Value) (w:World) (hE:EAt w (fun _=>True) E r) (hn:E.nodes≤1048576) (htab:Tb8 w):Calls Tryz.prog 8 #[.agg r.toArray] w fun e w'=>e=.returned (.bool true)∧Below w.heap.size w w':=by
 obtain ⟨o1,n1,s1,t1,X1,a1,c1,Y1,m1,d1,hrw1⟩:=Zcf hE
 have kr:=Blk.new w r 26
 have hb0:=Zac w (.cells r.toArray 26)
 obtain ⟨W,hW⟩:=Zaf (w.alloc (.cells r.toArray 26))
 have hWl:Hid (W=w.alloc (.cells #[.int .u8 (o1:Int),.int .i64 n1,.string s1,.string t1,.slice X1 a1 c1,.slice Y1 m1 d1] 26)):=by
  rw[hrw1]at hW
  exact hW
 have hWs:W.heap.size=w.heap.size+1:=by rw[hW.out];exact Array.size_push _
 rw[←hW.out]at kr hb0
 have hli:=Zpr hC W (htab.below hb0)
 rw[Zhv hrw1]
 have HRW1:=Zai hrw1
 clear hrw1
 go_enter Tryz.func8,Tryz.ntmps8
 go_upto_region 1 with (first|(at_builtin;fail))
 rw[←hWl.out]
 clear hW hWl hWs
 go_wp2_with (first|(at_builtin;fail))
 refine hli.mono ?_
 clear hli
 rintro e w1 ⟨rfl,hb1⟩
 have kr1:=kr.below hb1
 have hbw1:=bt hb0 hb1
 have hE1:=hE.below hbw1
 have hch:=hC E r (fun _=>True) w1 w1 hE1 (Below.refl _ _) (htab.below hbw1).tb (by omega)
 go_upto_region 3 with (first|(at_builtin;fail))
 go_wp2_with (first
  | (at_builtin;fail)
  | refine wpList_load_row rfl 26 _ rfl _ rfl 26 r.toArray (0,0) _ kr1 Tryz.underlying26 rfl (kE6 (Zcl (Zcf hE)).1) ?_)
 refine hch.mono ?_
 clear hch
 rintro e W ⟨rfl,hb2⟩
 have kr2:=kr1.below hb2
 have hbw2:=bt hbw1 hb2
 have hE2:=hE1.below hb2
 have hg:w.heap.size < W.heap.size:=kr2.lt
 have hg1:¬ w.heap.size=W.heap.size:=by omega
 have hc1:=Ztm (E:=E) (o:=12) (l:=[E]) (by show Zmc 12 0 noS noS [] 1=true;decide) (by simp) (by simp)
 have hc2:=Ztm (E:=E) (o:=6) (l:=[E,E]) (by show Zmc 6 0 noS noS [] 2=true;decide) (by simp) (by simp)
 have hc3:=Ztm (E:=E) (o:=14) (l:=[E,E,E]) (by show Zmc 14 0 noS noS [] 3=true;decide) (by simp) (by simp)
 have hall:Hid (∀ x ∈ [Zbk 12 [E],Zbk 6 [E,E],Zbk 14 [E,E,E]],(Zhj E=5∧Zhj x=5)∨(Zhj E=4∧Zhj x=4)∨(Zhj E ≠ 5∧Zhj E ≠ 4∧Zhj x ≠ 5)):=Zai (by
  intro x hx
  simp only[List.mem_cons,List.not_mem_nil,or_false]at hx
  rcases hx with rfl|rfl|rfl
  · exact hc1
  · exact hc2
  · exact hc3)
 clear hc1 hc2 hc3 kr1 kr
 have hsz1:∀ (u:World) (ob:Obj),(u.alloc ob).heap.size=u.heap.size+1:=fun u ob=>Array.size_push _
 have b1:=Blk.new W r 26
 have b2:=Blk.new (W.alloc (.cells r.toArray 26)) (r ++ r) 26
 have b3:=Blk.new ((W.alloc (.cells r.toArray 26)).alloc (.cells (r ++ r).toArray 26)) (r ++ r ++ r) 26
 rw[hsz1]at b2
 rw[hsz1,hsz1]at b3
 obtain ⟨V3,hV3⟩:=Zaf (((W.alloc (.cells r.toArray 26)).alloc (.cells (r ++ r).toArray 26)).alloc (.cells (r ++ r ++ r).toArray 26))
 have hsV3:V3.heap.size=W.heap.size+1+1+1:=by rw[hV3.out,hsz1,hsz1,hsz1]
 have b13:Blk V3 W.heap.size r 26:=by rw[hV3.out];exact (b1.alloc _).alloc _
 have b23:Blk V3 (W.heap.size+1) (r ++ r) 26:=by rw[hV3.out];exact b2.alloc _
 have b33:Blk V3 (W.heap.size+1+1) (r ++ r ++ r) 26:=by rw[hV3.out];exact b3
 have hbV3:Below W.heap.size W V3:=by rw[hV3.out];exact bt (bt (Zac _ _) (Zac _ _)) (Zac _ _)
 have hEV:=hE2.below hbV3
 have hes1:Zdz V3 (fun _=>True) [E] [r]:=by rw[Zdz];exact ⟨r,[],rfl,hEV,by rw[Zdz]⟩
 have hes2:Zdz V3 (fun _=>True) [E,E] [r,r]:=by rw[Zdz];exact ⟨r,[r],rfl,hEV,hes1⟩
 have hes3:Zdz V3 (fun _=>True) [E,E,E] [r,r,r]:=by rw[Zdz];exact ⟨r,[r,r],rfl,hEV,hes2⟩
 have e1:=Zfg (o:=12) (n:=0) (s:=⟨#[]⟩) (t:=⟨#[]⟩) (c:=1) (by decide) (by decide) (by decide) (by decide) (by simp[Zbq]) (by simp) (show Blk V3 W.heap.size [r].flatten _ by simpa using b13) trivial hes1
 have e2:=Zfg (o:=6) (n:=0) (s:=⟨#[]⟩) (t:=⟨#[]⟩) (c:=2) (by decide) (by decide) (by decide) (by decide) (by simp[Zbq]) (by simp) (show Blk V3 (W.heap.size+1) [r,r].flatten _ by simpa using b23) trivial hes2
 have e3:=Zfg (o:=14) (n:=0) (s:=⟨#[]⟩) (t:=⟨#[]⟩) (c:=3) (by decide) (by decide) (by decide) (by decide) (by simp[Zbq]) (by simp) (show Blk V3 (W.heap.size+1+1) [r,r,r].flatten _ by simpa using b33) trivial hes3
 simp only[List.length_cons,List.length_nil]at e1 e2 e3
 obtain ⟨q1,hq1⟩:=Zaf (Zav 12 0 ⟨#[]⟩ ⟨#[]⟩ (.slice none 0 0) (.slice (some ⟨W.heap.size,0,none⟩) 1 1))
 obtain ⟨q2,hq2⟩:=Zaf (Zav 6 0 ⟨#[]⟩ ⟨#[]⟩ (.slice none 0 0) (.slice (some ⟨W.heap.size+1,0,none⟩) 2 2))
 obtain ⟨q3,hq3⟩:=Zaf (Zav 14 0 ⟨#[]⟩ ⟨#[]⟩ (.slice none 0 0) (.slice (some ⟨W.heap.size+1+1,0,none⟩) 3 3))
 have e1':EAt V3 (fun _=>True) (Zbk 12 [E]) q1:=by rw[hq1.out];exact e1
 have e2':EAt V3 (fun _=>True) (Zbk 6 [E,E]) q2:=by rw[hq2.out];exact e2
 have e3':EAt V3 (fun _=>True) (Zbk 14 [E,E,E]) q3:=by rw[hq3.out];exact e3
 have hbV4:=Zac V3 (.cells (q1 ++ q2 ++ q3).toArray 26)
 have b4:=Blk.new V3 (q1 ++ q2 ++ q3) 26
 obtain ⟨V4,hV4⟩:=Zaf (V3.alloc (.cells (q1 ++ q2 ++ q3).toArray 26))
 rw[←hV4.out]at hbV4 b4
 rw[hsV3]at b4
 have hV4l:Hid (V4=((((W.alloc (.cells #[.int .u8 (o1:Int),.int .i64 n1,.string s1,.string t1,.slice X1 a1 c1,.slice Y1 m1 d1] 26)).alloc (.cells #[.int .u8 (o1:Int),.int .i64 n1,.string s1,.string t1,.slice X1 a1 c1,.slice Y1 m1 d1,.int .u8 (o1:Int),.int .i64 n1,.string s1,.string t1,.slice X1 a1 c1,.slice Y1 m1 d1] 26)).alloc (.cells #[.int .u8 (o1:Int),.int .i64 n1,.string s1,.string t1,.slice X1 a1 c1,.slice Y1 m1 d1,.int .u8 (o1:Int),.int .i64 n1,.string s1,.string t1,.slice X1 a1 c1,.slice Y1 m1 d1,.int .u8 (o1:Int),.int .i64 n1,.string s1,.string t1,.slice X1 a1 c1,.slice Y1 m1 d1] 26)).alloc (.cells #[.int .u8 12,.int .i64 0,.string ⟨#[]⟩,.string ⟨#[]⟩,.slice none 0 0,.slice (some ⟨W.heap.size,0,none⟩) 1 1,.int .u8 6,.int .i64 0,.string ⟨#[]⟩,.string ⟨#[]⟩,.slice none 0 0,.slice (some ⟨(W.heap.size+1),0,none⟩) 2 2,.int .u8 14,.int .i64 0,.string ⟨#[]⟩,.string ⟨#[]⟩,.slice none 0 0,.slice (some ⟨(W.heap.size+1+1),0,none⟩) 3 3] 26))):=Zai (by rw[hV4.out,hV3.out,hq1.out,hq2.out,hq3.out,HRW1.out];rfl)
 have hesL:Zdz V4 (fun _=>True) [Zbk 12 [E],Zbk 6 [E,E],Zbk 14 [E,E,E]] [q1,q2,q3]:=by
  rw[Zdz]
  refine ⟨q1,[q2,q3],rfl,e1'.below hbV4,?_⟩
  rw[Zdz]
  refine ⟨q2,[q3],rfl,e2'.below hbV4,?_⟩
  rw[Zdz]
  exact ⟨q3,[],rfl,e3'.below hbV4,by rw[Zdz]⟩
 have hlL:Zek V4 (some ⟨W.heap.size+1+1+1,0,none⟩) 3 6 [q1,q2,q3].flatten:=by
  refine ⟨Zci hesL,fun _=>⟨_,0,rfl,fun j v hj=>?_⟩⟩
  rw[Nat.zero_add,b4.cell]
  simpa using hj
 have hbV:Below w.heap.size w V4:=bt (bt hbw2 hbV3) hbV4
 have krV:=(kr2.below hbV3).below hbV4
 have HES:=Zai hesL
 have HLL:=Zai hlL
 have HE:=Zai (hE2.below (bt hbV3 hbV4))
 obtain ⟨c0,hc0⟩:=Zaf (Zhj E)
 have hnn:Hid (∀ x ∈ [Zbk 12 [E],Zbk 6 [E,E],Zbk 14 [E,E,E]],x.nodes≤4611686018427387904):=Zai (by
  intro x hx
  simp only[List.mem_cons,List.not_mem_nil,or_false]at hx
  rcases hx with rfl|rfl|rfl
  · show Et.nodess [E]+1≤_
    simp only[Et.nodess];omega
  · show Et.nodess [E,E]+1≤_
    simp only[Et.nodess];omega
  · show Et.nodess [E,E,E]+1≤_
    simp only[Et.nodess];omega)
 have kr2':=kr2
 rw[HRW1.out]at kr2'
 have x0:W.cell? ⟨w.heap.size,0,none⟩=some (.int .u8 (o1:Int)):=kr2'.cell 0
 have x1:W.cell? ⟨w.heap.size,1,none⟩=some (.int .i64 n1):=kr2'.cell 1
 have x2:W.cell? ⟨w.heap.size,2,none⟩=some (.string s1):=kr2'.cell 2
 have x3:W.cell? ⟨w.heap.size,3,none⟩=some (.string t1):=kr2'.cell 3
 have x4:W.cell? ⟨w.heap.size,4,none⟩=some (.slice X1 a1 c1):=kr2'.cell 4
 have x5:W.cell? ⟨w.heap.size,5,none⟩=some (.slice Y1 m1 d1):=kr2'.cell 5
 have y0:(W.alloc (.cells #[.int .u8 (o1:Int),.int .i64 n1,.string s1,.string t1,.slice X1 a1 c1,.slice Y1 m1 d1] 26)).cell? ⟨w.heap.size,0,none⟩=some (.int .u8 (o1:Int)):=(kr2'.alloc _).cell 0
 have y1:(W.alloc (.cells #[.int .u8 (o1:Int),.int .i64 n1,.string s1,.string t1,.slice X1 a1 c1,.slice Y1 m1 d1] 26)).cell? ⟨w.heap.size,1,none⟩=some (.int .i64 n1):=(kr2'.alloc _).cell 1
 have y2:(W.alloc (.cells #[.int .u8 (o1:Int),.int .i64 n1,.string s1,.string t1,.slice X1 a1 c1,.slice Y1 m1 d1] 26)).cell? ⟨w.heap.size,2,none⟩=some (.string s1):=(kr2'.alloc _).cell 2
 have y3:(W.alloc (.cells #[.int .u8 (o1:Int),.int .i64 n1,.string s1,.string t1,.slice X1 a1 c1,.slice Y1 m1 d1] 26)).cell? ⟨w.heap.size,3,none⟩=some (.string t1):=(kr2'.alloc _).cell 3
 have y4:(W.alloc (.cells #[.int .u8 (o1:Int),.int .i64 n1,.string s1,.string t1,.slice X1 a1 c1,.slice Y1 m1 d1] 26)).cell? ⟨w.heap.size,4,none⟩=some (.slice X1 a1 c1):=(kr2'.alloc _).cell 4
 have y5:(W.alloc (.cells #[.int .u8 (o1:Int),.int .i64 n1,.string s1,.string t1,.slice X1 a1 c1,.slice Y1 m1 d1] 26)).cell? ⟨w.heap.size,5,none⟩=some (.slice Y1 m1 d1):=(kr2'.alloc _).cell 5
 have z0:((W.alloc (.cells #[.int .u8 (o1:Int),.int .i64 n1,.string s1,.string t1,.slice X1 a1 c1,.slice Y1 m1 d1] 26)).alloc (.cells #[.int .u8 (o1:Int),.int .i64 n1,.string s1,.string t1,.slice X1 a1 c1,.slice Y1 m1 d1,.int .u8 (o1:Int),.int .i64 n1,.string s1,.string t1,.slice X1 a1 c1,.slice Y1 m1 d1] 26)).cell? ⟨w.heap.size,0,none⟩=some (.int .u8 (o1:Int)):=((kr2'.alloc _).alloc _).cell 0
 have z1:((W.alloc (.cells #[.int .u8 (o1:Int),.int .i64 n1,.string s1,.string t1,.slice X1 a1 c1,.slice Y1 m1 d1] 26)).alloc (.cells #[.int .u8 (o1:Int),.int .i64 n1,.string s1,.string t1,.slice X1 a1 c1,.slice Y1 m1 d1,.int .u8 (o1:Int),.int .i64 n1,.string s1,.string t1,.slice X1 a1 c1,.slice Y1 m1 d1] 26)).cell? ⟨w.heap.size,1,none⟩=some (.int .i64 n1):=((kr2'.alloc _).alloc _).cell 1
 have z2:((W.alloc (.cells #[.int .u8 (o1:Int),.int .i64 n1,.string s1,.string t1,.slice X1 a1 c1,.slice Y1 m1 d1] 26)).alloc (.cells #[.int .u8 (o1:Int),.int .i64 n1,.string s1,.string t1,.slice X1 a1 c1,.slice Y1 m1 d1,.int .u8 (o1:Int),.int .i64 n1,.string s1,.string t1,.slice X1 a1 c1,.slice Y1 m1 d1] 26)).cell? ⟨w.heap.size,2,none⟩=some (.string s1):=((kr2'.alloc _).alloc _).cell 2
 have z3:((W.alloc (.cells #[.int .u8 (o1:Int),.int .i64 n1,.string s1,.string t1,.slice X1 a1 c1,.slice Y1 m1 d1] 26)).alloc (.cells #[.int .u8 (o1:Int),.int .i64 n1,.string s1,.string t1,.slice X1 a1 c1,.slice Y1 m1 d1,.int .u8 (o1:Int),.int .i64 n1,.string s1,.string t1,.slice X1 a1 c1,.slice Y1 m1 d1] 26)).cell? ⟨w.heap.size,3,none⟩=some (.string t1):=((kr2'.alloc _).alloc _).cell 3
 have z4:((W.alloc (.cells #[.int .u8 (o1:Int),.int .i64 n1,.string s1,.string t1,.slice X1 a1 c1,.slice Y1 m1 d1] 26)).alloc (.cells #[.int .u8 (o1:Int),.int .i64 n1,.string s1,.string t1,.slice X1 a1 c1,.slice Y1 m1 d1,.int .u8 (o1:Int),.int .i64 n1,.string s1,.string t1,.slice X1 a1 c1,.slice Y1 m1 d1] 26)).cell? ⟨w.heap.size,4,none⟩=some (.slice X1 a1 c1):=((kr2'.alloc _).alloc _).cell 4
 have z5:((W.alloc (.cells #[.int .u8 (o1:Int),.int .i64 n1,.string s1,.string t1,.slice X1 a1 c1,.slice Y1 m1 d1] 26)).alloc (.cells #[.int .u8 (o1:Int),.int .i64 n1,.string s1,.string t1,.slice X1 a1 c1,.slice Y1 m1 d1,.int .u8 (o1:Int),.int .i64 n1,.string s1,.string t1,.slice X1 a1 c1,.slice Y1 m1 d1] 26)).cell? ⟨w.heap.size,5,none⟩=some (.slice Y1 m1 d1):=((kr2'.alloc _).alloc _).cell 5
 clear hq1 hq2 hq3 e1 e2 e3 e1' e2' e3' b1 b2 b3 b13 b23 b33 hes1 hes2 hes3 hEV hV3 hV4 hsV3 hbV3 hbV4 hesL hlL b4 hE1 hE2 kr2' kr2
 have hall2:Hid (∀ x ∈ [Zbk 12 [E],Zbk 6 [E,E],Zbk 14 [E,E,E]],(c0=5∧Zhj x=5)∨(c0=4∧Zhj x=4)∨(c0 ≠ 5∧c0 ≠ 4∧Zhj x ≠ 5)):=by rw[hc0.out];exact hall
 clear hall
 rw[←hc0.out]
 go_upto_region 5 with (first|(at_builtin;fail))
 rw[←hV4l.out]
 clear hV4l x0 y0 z0 x1 y1 z1 x2 y2 z2 x3 y3 z3 x4 y4 z4 x5 y5 z5 hg1 hg
 obtain ⟨g4,hg4⟩:=Zaf (W.heap.size+1+1+1)
 rw[←hg4.out]at HLL ⊢
 have KR:=Zai krV
 have HBV:=Zai hbV
 clear krV hbV hc0 hg4
 go_loopw [25] (fun i wr=>∃ k:Nat,k≤3∧i=.int .i64 k∧Below V4.heap.size V4 wr) (fun i _=>3 - (intOf i).toNat)
 case atStart=>exact ⟨0,by omega,rfl,Below.refl _ _⟩
 case round=>
  obtain ⟨k,hk,rfl,hbr⟩:=hrel
  by_cases hlt:k < 3
  · have hi0:(0:Int)≤(k:Int):=by omega
    have hi1:(k:Int) < 3:=by omega
    obtain ⟨x,hx⟩:∃ x,[Zbk 12 [E],Zbk 6 [E,E],Zbk 14 [E,E,E]][k]?=some x:=⟨_,List.getElem?_eq_getElem (by simpa using hlt)⟩
    obtain ⟨q,hq,hqv⟩:=(Zbm HES.out).2 k x hx
    have hxm:=List.mem_of_getElem? hx
    have hrg:=Zbf (Zdt HLL.out (Zbl HES.out) hq) hbr
    rw[Nat.zero_add]at hrg
    have hrq:=Zcl (Zcf hqv)
    have k5:=Blk.new wr Zag 26
    have hb5:=Zac wr (.cells Zag.toArray 26)
    obtain ⟨W7,hW7⟩:=Zaf (wr.alloc (.cells Zag.toArray 26))
    have hW7l:Hid (W7=wr.alloc (.cells #[.int .u8 0,.int .i64 0,.string ⟨#[]⟩,.string ⟨#[]⟩,.slice none 0 0,.slice none 0 0] 26)):=hW7
    rw[←hW7.out]at k5 hb5
    have kq:=k5.vrow q
    have hbq:=Zah hb5 (Nat.le_refl _) q.toArray
    obtain ⟨W8,hW8⟩:=Zaf (W7.setRow wr.heap.size q.toArray)
    rw[←hW8.out]at kq hbq
    have hbr8:Below V4.heap.size V4 W8:=bt hbr hbq
    have hcall:=hC x q (fun _=>True) W8 W8 (hqv.below hbr8) (Below.refl _ _) (htab.below (bt HBV.out hbr8)).tb (hnn.out x hxm)
    have hd:=hall2.out x hxm
    obtain ⟨dx,hdx⟩:=Zaf (Zhj x)
    rw[←hdx.out]at hcall hd
    clear hW7 hb5 hx hq hqv hxm hdx
    go_wp2_with (first
     | (at_builtin;fail)
     | refine wpList_load_mid rfl 26 _ rfl g4 (k * 6) rfl q _ hrg Tryz.underlying26 rfl (Zqh hrq.1) ?_
     | (rw[←hW7l.out];refine wpList_store_row rfl 26 _ _ rfl _ q.toArray rfl rfl 26 Zag.toArray k5 (kE6 hrq.1) (by simp[hrq.1,Zag,Zav]) (Zas hrq.2) ?_;rw[←hW8.out])
     | refine wpList_load_row rfl 26 _ rfl _ rfl 26 q.toArray (0,0) _ kq Tryz.underlying26 rfl (kE6 hrq.1) ?_)
    refine hcall.mono ?_
    clear hcall
    rintro e w5 ⟨rfl,hb5⟩
    have hbr5:Below V4.heap.size V4 w5:=bt hbr8 hb5
    clear hrg k5 kq hW7l hW8
    rcases hd with ⟨h1,h2⟩|⟨h1,h2⟩|⟨h1,h2,h3⟩
    · subst h1
      subst h2
      go_wp2_with (first|(at_builtin;fail))
      go_roundw
      case rel=>exact ⟨k+1,by omega,by go_num,hbr5⟩
      case measure=>simp[intOf];omega
    · subst h1
      subst h2
      go_wp2_with (first|(at_builtin;fail))
      go_roundw
      case rel=>exact ⟨k+1,by omega,by go_num,hbr5⟩
      case measure=>simp[intOf];omega
    · have f1:(c0 == 5)=false:=by rw[beq_eq_false_iff_ne];exact h1
      have f2:(dx == 5)=false:=by rw[beq_eq_false_iff_ne];exact h3
      have f3:(c0 == 4)=false:=by rw[beq_eq_false_iff_ne];exact h2
      have f4:(c0 != 5)=true:=by rw[bne,f1];rfl
      have f5:(dx != 5)=true:=by rw[bne,f2];rfl
      clear h1 h2 h3
      go_wp2_with (first|(at_builtin;fail))
      go_roundw
      case rel=>exact ⟨k+1,by omega,by go_num,hbr5⟩
      case measure=>simp[intOf];omega
  · obtain rfl:k=3:=by omega
    have k6:=KR.out.below hbr
    have hbw6:=bt HBV.out hbr
    have hE6:=HE.out.below hbr
    have kr6:=k6
    rw[HRW1.out]at kr6
    have x0:wr.cell? ⟨w.heap.size,0,none⟩=some (.int .u8 (o1:Int)):=kr6.cell 0
    have x1:wr.cell? ⟨w.heap.size,1,none⟩=some (.int .i64 n1):=kr6.cell 1
    have x2:wr.cell? ⟨w.heap.size,2,none⟩=some (.string s1):=kr6.cell 2
    have x3:wr.cell? ⟨w.heap.size,3,none⟩=some (.string t1):=kr6.cell 3
    have x4:wr.cell? ⟨w.heap.size,4,none⟩=some (.slice X1 a1 c1):=kr6.cell 4
    have x5:wr.cell? ⟨w.heap.size,5,none⟩=some (.slice Y1 m1 d1):=kr6.cell 5
    have hg6:w.heap.size < wr.heap.size:=k6.lt
    have b6:=Blk.new wr (r ++ r) 26
    have hb6:=Zac wr (.cells (r ++ r).toArray 26)
    obtain ⟨V6,hV6⟩:=Zaf (wr.alloc (.cells (r ++ r).toArray 26))
    rw[←hV6.out]at b6 hb6
    have hV6l:Hid (V6=wr.alloc (.cells #[.int .u8 (o1:Int),.int .i64 n1,.string s1,.string t1,.slice X1 a1 c1,.slice Y1 m1 d1,.int .u8 (o1:Int),.int .i64 n1,.string s1,.string t1,.slice X1 a1 c1,.slice Y1 m1 d1] 26)):=Zai (by rw[hV6.out,HRW1.out];rfl)
    have hE7:=hE6.below hb6
    have hes7:Zdz V6 (fun _=>True) [E,E] [r,r]:=by rw[Zdz];exact ⟨r,[r],rfl,hE7,by rw[Zdz];exact ⟨r,[],rfl,hE7,by rw[Zdz]⟩⟩
    have e7:=Zfg (o:=12) (n:=0) (s:=⟨#[]⟩) (t:=⟨#[]⟩) (c:=2) (by decide) (by decide) (by decide) (by decide) (by simp[Zbq]) (by simp) (show Blk V6 wr.heap.size [r,r].flatten _ by simpa using b6) trivial hes7
    simp only[List.length_cons,List.length_nil]at e7
    have hcall:=hC (Zbk 12 [E,E]) _ (fun _=>True) V6 V6 e7 (Below.refl _ _) (htab.below (bt hbw6 hb6)).tb (by show Et.nodess [E,E]+1≤_;simp only[Et.nodess];omega)
    rw[chk_two]at hcall
    have hcall2:Calls Tryz.prog 13 #[.agg #[.int .u8 12,.int .i64 0,.string ⟨#[]⟩,.string ⟨#[]⟩,.slice none 0 0,.slice (some ⟨wr.heap.size,0,none⟩) 2 2]] V6 fun q w'=>q=.returned (.int .i64 5)∧Below V6.heap.size V6 w':=hcall
    clear hcall e7 hes7 hE7 b6 hV6 k6 kr6 hE6
    go_wp2_with (first|(at_builtin;fail))
    rw[←hV6l.out]
    refine hcall2.mono ?_
    rintro e w9 ⟨rfl,hb9⟩
    go_wp2_with (first|(at_builtin;fail))
    go_ret
    exact ⟨rfl,bt (bt hbw6 hb6) hb9⟩
end Go.Proofs.YtnhooehmcggmdaaGreatDoor
