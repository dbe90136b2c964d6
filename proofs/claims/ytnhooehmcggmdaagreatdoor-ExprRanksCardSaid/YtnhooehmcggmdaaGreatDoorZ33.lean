/- Parts of a proof about the given program: XRdW18, XRdW19, XRdW20. -/
import Derived.Test.YtnhooehmcggmdaaGreatDoorZ32
namespace Go.Proofs.YtnhooehmcggmdaaGreatDoor
set_option maxHeartbeats 16000000
set_option linter.unusedVariables false
set_option linter.unusedSimpArgs false
set_option linter.unusedSectionVars false
open Go.RowKit
theorem strInfo:(Tryz.prog.info? 9).map (fun i=>(i.zero,i.size,i.bytes))=some (some (.string ⟨#[]⟩),1,16):=by kernel_rfl
def Zsx (rec:Bool) (ns:List ByteArray) (f:Nat) (r1:List Tok):Option (Zcs (List ByteArray × Et)):=Zdc (Zkx rec ns r1) fun ns2 r=>Zcn (pr f .expr r) fun e r2=>some (.ok ((ns2,e),r2))
theorem itemR_set {ns:List ByteArray} {f:Nat} {r1:List Tok} {x:Zcs (List ByteArray × Et)} (h:Zsx false ns f r1=some x):(∃ e0,pr f .expr r1=some (.error e0)∧x=.error e0)∨∃ e r2,pr f .expr r1=some (.ok (e,r2))∧x=.ok ((ns,e),r2):=by
 have h2:Zcn (pr f .expr r1) (fun e r2=>some (.ok ((ns,e),r2)))=some x:=h
 rcases Zbp h2 with ⟨e0,h3,h4⟩|⟨e,r2,h3,h4⟩
 · exact .inl ⟨e0,h3,h4⟩
 · exact .inr ⟨e,r2,h3,(Option.some.inj h4).symm⟩
theorem itemR_rec {ns:List ByteArray} {f:Nat} {r1:List Tok} {x:Zcs (List ByteArray × Et)} (h:Zsx true ns f r1=some x):(∃ e0,Zda r1=.error e0∧x=.error e0)∨∃ s r2,Zda r1=.ok (s,r2)∧((∃ e0,Zbr [58] r2=.error e0∧x=.error e0)∨∃ r3,Zbr [58] r2=.ok ((),r3) ∧
 ((∃ e0,pr f .expr r3=some (.error e0)∧x=.error e0)∨∃ e r4,pr f .expr r3=some (.ok (e,r4))∧x=.ok ((ns ++ [str s],e),r4))):=by
 unfold Zsx Zkx at h
 rw[if_pos rfl]at h
 cases h1:Zda r1 with
 | error e0=>rw[h1]at h;exact .inl ⟨e0,rfl,(Option.some.inj h).symm⟩
 | ok z=>
   obtain ⟨s,r2⟩:=z
   rw[h1]at h
   refine .inr ⟨s,r2,rfl,?_⟩
   simp only[]at h
   cases h2:Zbr [58] r2 with
   | error e0=>rw[h2]at h;exact .inl ⟨e0,rfl,(Option.some.inj h).symm⟩
   | ok z=>
     obtain ⟨⟨⟩,r3⟩:=z
     rw[h2]at h
     refine .inr ⟨r3,rfl,?_⟩
     have h4:Zcn (pr f .expr r3) (fun e r2=>some (.ok ((ns ++ [str s],e),r2)))=some x:=h
     rcases Zbp h4 with ⟨e0,h5,h6⟩|⟨e,r4,h5,h6⟩
     · exact .inl ⟨e0,h5,h6⟩
     · exact .inr ⟨e,r4,h5,(Option.some.inj h6).symm⟩
theorem Zjq.grown {p3 o q:Nat} {u u':World} {ns:List ByteArray} {l:List Et} (h:Zjq p3 o u ns l) (hg:u.grownBy u' (some q)) (hq:q < p3):Zjq p3 o u' ns l:=by
 obtain ⟨vn,vk,rows,h1,h2,h3,h4,h5⟩:=h
 exact ⟨vn,vk,rows,h1.grown hg (by omega),h2.kept hg (.inr (fun e=>by have:=Zht h2 q e;omega)),h3.kept hg (.inr (fun e=>by have:=Zht h3 q e;omega)),h4,h5.grown hg (fun b hb e=>by have q2:=Option.some.inj e;have:=hb.1;omega) (fun b hb=>⟨hb.1,Nat.lt_of_lt_of_le hb.2.1 hg.size,hb.2.2⟩)⟩
set_option maxRecDepth 100000 in
theorem rrec1_w (n:Nat) (hX:Zla 55 .expr n) (w w0 u0:World) (p p1 p3 o:Nat) (ns:List ByteArray) (l:List Et) (r1:List Tok) (hp1:p < p1) (hp3:p1 < p3) (hwp:w.heap.size≤p3) (hll:l.length≤4096) (hnsl:ns.length≤4096) (hE:Env w0 p w) (hok:Zhb r1)
 (hg:w.grownBy u0 (some p)) (hd:Zbg u0 p r1) (hbx:Blk u0 p1 [.pointer (some ⟨p,0,none⟩)] 84) (hI:Zjq p3 o u0 ns l) (f:Nat) (hf:f≤n) (x:Zcs (List ByteArray × Et)) (hx:Zsx true ns f r1=some x) :
 Calls Tryz.prog 209 #[.pointer (some ⟨p3,0,none⟩),.pointer (some ⟨p1,0,none⟩)] u0 fun e w'=>Zyr w p p1 p3 x (fun z w'=>Zjq p3 o w' z.1 (l ++ [z.2])) e w':=by
 obtain ⟨vn,vk,rows,kr,hon,hok9,hne,hes⟩:=hI
 obtain ⟨Ak,ck,rfl⟩:=Zmb hok9
 obtain ⟨B,hB⟩:=Zaf u0.heap.size
 have hlt3:p3 < B:=by rw[hB.out];exact kr.lt
 obtain ⟨An,cn,rfl⟩:=Zmb hon
 have hkB:∀ g,Value.ownBlock (.slice Ak l.length ck)=some g→p3 < g∧g < B:=fun g q=>by have:=Zht hok9 g q;rw[hB.out];omega
 have hnB:∀ g,Value.ownBlock (.slice An ns.length cn)=some g→p3 < g∧g < B:=fun g q=>by have:=Zht hon g q;rw[hB.out];omega
 have C:ApC w p p1 p3 B l (.slice An ns.length cn) (.slice Ak l.length ck):=⟨hp1,hp3,hlt3,hwp,fun g q=>by have:=Zht hok9 g q;rw[hB.out];omega,fun g q=>by have:=Zht hon g q;rw[hB.out];omega,hne,hll⟩
 have hrows:rows.flatten.length=l.length * 6:=Zci hes
 have hknb:Value.ownBlock (.slice Ak l.length ck)=none∨Value.ownBlock (.slice Ak l.length ck) ≠ Value.ownBlock (.slice An ns.length cn):=by
  cases hq:Value.ownBlock (.slice Ak l.length ck) with
  | none=>exact .inl rfl
  | some g=>exact .inr (fun q=>hne g q.symm hq)
 have hgd:u0.grownBy u0.drew (some p):=Zad (Zaj (Below.refl _ _)) _
 obtain ⟨j0,hj⟩:∃ i,Tryz.prog.info? 9=some i:=by
  cases hq:Tryz.prog.info? 9 with
  | none=>have:=strInfo;rw[hq]at this;cases this
  | some i=>exact ⟨i,rfl⟩
 have hy:=strInfo
 rw[hj]at hy
 have hy0:j0.zero=some (.string ⟨#[]⟩):=congrArg (fun z=>z.1) (Option.some.inj hy)
 have hy1:j0.size=1:=congrArg (fun z=>z.2.1) (Option.some.inj hy)
 have hy2:j0.bytes=16:=congrArg (fun z=>z.2.2) (Option.some.inj hy)
 have hy3:(Value.string ⟨#[]⟩).cells.size=1:=rfl
 clear hy
 go_enter Tryz.func209,Tryz.ntmps209
 go_upto_region 0 with (first|(at_builtin;fail))
 rcases itemR_rec hx with ⟨e0,h1,hq⟩|⟨s,r2,h1,hx3⟩
 · have hone:∀ (u:World),Zbg u p r1→Env w0 p u→Calls Tryz.prog 151 #[.pointer (some ⟨p,0,none⟩)] u fun e w'=>u.grownBy w' (some p)∧Zbg w' p e0∧e=.panicked Zgu:=fun u a b=>by
    have:=Zsi p w0 u r1 a hok b
    rw[h1]at this
    exact this
   have hS0:w.grownBy u0.drew (some p)∧B≤u0.drew.heap.size∧Zbg u0.drew p r1∧Blk u0.drew p1 [.pointer (some ⟨p,0,none⟩)] 84∧((fun _:Nat=>false) 7=false→Blk u0.drew p3 (sRow o (.slice An ns.length cn) (.slice Ak l.length ck)) 26)∧u0.drew.ownsRow (p3+1) 26 6 (.slice Ak l.length ck) l.length rows.flatten∧Zdz u0.drew (fun b=>p3 < b∧b < B∧some b ≠ Value.ownBlock (.slice Ak l.length ck)∧some b ≠ Value.ownBlock (.slice An ns.length cn)) l rows∧((fun _:Nat=>false) 5=false→u0.drew.ownsRow (p3+1) 9 1 (.slice An ns.length cn) ns.length (ns.map .string))∧((fun _:Nat=>false) 7=false→(fun _:Nat=>undef) 7=undef)∧((fun _:Nat=>false) 7=true→(fun _:Nat=>undef) 7=(fun _:Nat=>undef) 5):=⟨hg.trans hgd,Nat.le_of_eq hB.out,hd,hbx,fun _=>kr,hok9,hes.keep (fun _ _ _ h=>h) (fun b hb=>⟨hb.1,by rw[hB.out];exact hb.2.1,hb.2.2⟩),fun _=>hon,fun _=>rfl,fun h=>by cases h⟩
   refine Zcz (fun ex u=>ex=.panic Zgu∧x=.error e0∧w.grownBy u (some p)∧Zbg u p e0) (by
    rintro ex b u hb ⟨rfl,h1,h2,h3⟩
    refine ⟨hb,?_⟩
    rw[h1]
    exact ⟨h2,h3,rfl⟩) (fun L v u=>w.grownBy u (some p)∧B≤u.heap.size∧Zbg u p r1∧Blk u p1 [.pointer (some ⟨p,0,none⟩)] 84∧(L 7=false→Blk u p3 (sRow o (.slice An ns.length cn) (.slice Ak l.length ck)) 26)∧u.ownsRow (p3+1) 26 6 (.slice Ak l.length ck) l.length rows.flatten∧Zdz u (fun b=>p3 < b∧b < B∧some b ≠ Value.ownBlock (.slice Ak l.length ck)∧some b ≠ Value.ownBlock (.slice An ns.length cn)) l rows∧(L 5=false→u.ownsRow (p3+1) 9 1 (.slice An ns.length cn) ns.length (ns.map .string))∧(L 7=false→v 7=undef)∧(L 7=true→v 7=v 5)) (fun i u u'=>(i ≠ 5∧i ≠ 7→u.grownBy u' (some p))∧(i=5→u.grownBy u' (Value.ownBlock (.slice An ns.length cn)))∧(i=7→u.grownBy u' (some p3))) _ (by kernel_rfl) (by kernel_rfl) (fun v=>by simp only[Zbx,Act.put,List.toList_toArray,Zl2,Zl0,Zl1,Nat.reduceAdd,Nat.zero_add];rfl) hS0 (fun L L' v u hL h=>by rw[←hL 5 (by decide),←hL 7 (by decide)];exact h) ?_
   refine Zat [] _ (fun L hL hcl v u hS hd K' hK=>by
    simp only[Act.put,Zl2,Zl0,Zl1]at hK
    go_simp
    exact hK.out _ ⟨⟨hS.1,hS.2.1,hS.2.2.1,hS.2.2.2.1,fun h=>hS.2.2.2.2.1 (by simpa using h),hS.2.2.2.2.2.1,hS.2.2.2.2.2.2.1,fun h=>hS.2.2.2.2.2.2.2.1 (by simpa using h),fun h=>hS.2.2.2.2.2.2.2.2.1 (by simpa using h),fun h=>hS.2.2.2.2.2.2.2.2.2 (by simpa using h)⟩,⟨fun _=>Zab _ _,fun h=>(by cases h),fun h=>by cases h⟩⟩) (by kernel_rfl) (j:=1) rfl ?_
   refine Zat [0] _ (fun L hL hcl v u hS hd K' hK=>by
    simp only[Zal,Zak,eqv,Zl3,Zl4,Nat.reduceSub]at hd
    simp only[Act.put,Zl2,Zl0,Zl1]at hK
    try simp only[hd]at hK
    have hq7:L 7=false:=by
     cases hq:L 7 with
     | false=>rfl
     | true=>have:=hcl 7 1 hq (by kernel_rfl);rw[hL]at this;cases this
    have k7:=hS.2.2.2.2.1 hq7
    have c4:u.cell? ⟨p3,4,none⟩=some (.slice An ns.length cn):=k7.cell 4
    go_simp
    exact hK.out _ ⟨⟨hS.1,hS.2.1,hS.2.2.1,hS.2.2.2.1,fun h=>hS.2.2.2.2.1 (by simpa using h),hS.2.2.2.2.2.1,hS.2.2.2.2.2.2.1,fun h=>hS.2.2.2.2.2.2.2.1 (by simpa using h),fun h=>hS.2.2.2.2.2.2.2.2.1 (by simpa using h),fun h=>hS.2.2.2.2.2.2.2.2.2 (by simpa using h)⟩,⟨fun _=>Zab _ _,fun h=>(by cases h),fun h=>by cases h⟩⟩) (by kernel_rfl) (j:=2) rfl ?_
   refine Zat [] _ (fun L hL hcl v u hS hd K' hK=>by
    simp only[Act.put,Zl2,Zl0,Zl1]at hK
    have c0:u.cell? ⟨p1,0,none⟩=some (.pointer (some ⟨p,0,none⟩)):=hS.2.2.2.1.cell 0
    go_simp
    exact hK.out _ ⟨⟨hS.1,hS.2.1,hS.2.2.1,hS.2.2.2.1,fun h=>hS.2.2.2.2.1 (by simpa using h),hS.2.2.2.2.2.1,hS.2.2.2.2.2.2.1,fun h=>hS.2.2.2.2.2.2.2.1 (by simpa using h),fun h=>hS.2.2.2.2.2.2.2.2.1 (by simpa using h),fun h=>hS.2.2.2.2.2.2.2.2.2 (by simpa using h)⟩,⟨fun _=>Zab _ _,fun h=>(by cases h),fun h=>by cases h⟩⟩) (by kernel_rfl) (j:=3) rfl ?_
   refine Zar [2] (fun _ _=>False) ((fun _ _ _ _ _ _ h=>h)) (fun L hL hcl v u hS hd K' hK=>by
    simp only[Zal,Zak,eqv,Zl3,Zl4,Nat.reduceSub]at hd
    simp only[Act.put,Zl2,Zl0,Zl1]at hK
    try simp only[hd]at hK
    go_simp
    refine (hone u hS.2.2.1 (hE.step hS.1)).mono ?_
    rintro e9 u1 ⟨hg9,hd9,rfl⟩
    first|exact ⟨rfl,hq,hS.1.trans hg9,hd9⟩|exact ⟨rfl,hS.1.trans hg9,hd9⟩|exact ⟨hS.1.trans hg9,hd9⟩) (by kernel_rfl) (j:=4) rfl ?_
   refine Zar [3] (fun _ _=>False) ((fun _ _ _ _ _ _ h=>h)) (fun L hL hcl v u hS hd K' hK=>by
    simp only[Zal,Zak,eqv,Zl3,Zl4,Nat.reduceSub]at hd
    try exact hd.elim) (by kernel_rfl) (j:=5) rfl ?_
   refine Zar [1,4] (fun _ _=>False) ((fun _ _ _ _ _ _ h=>h)) (fun L hL hcl v u hS hd K' hK=>by
    simp only[Zal,Zak,eqv,Zl3,Zl4,Nat.reduceSub]at hd
    try first|exact hd.1.elim|exact hd.2.elim) (by kernel_rfl) (j:=6) rfl ?_
   refine Zat [] _ (fun L hL hcl v u hS hd K' hK=>by
    simp only[Act.put,Zl2,Zl0,Zl1]at hK
    go_simp
    exact hK.out _ ⟨⟨hS.1,hS.2.1,hS.2.2.1,hS.2.2.2.1,fun h=>hS.2.2.2.2.1 (by simpa using h),hS.2.2.2.2.2.1,hS.2.2.2.2.2.2.1,fun h=>hS.2.2.2.2.2.2.2.1 (by simpa using h),fun h=>hS.2.2.2.2.2.2.2.2.1 (by simpa using h),fun h=>hS.2.2.2.2.2.2.2.2.2 (by simpa using h)⟩,⟨fun _=>Zab _ _,fun h=>(by cases h),fun h=>by cases h⟩⟩) (by kernel_rfl) (j:=7) rfl ?_
   refine Zar [5,6] (fun _ _=>False) ((fun _ _ _ _ _ _ h=>h)) (fun L hL hcl v u hS hd K' hK=>by
    simp only[Zal,Zak,eqv,Zl3,Zl4,Nat.reduceSub]at hd
    try first|exact hd.1.elim|exact hd.2.elim) (by kernel_rfl) (j:=8) rfl ?_
   refine Zee [7] (by decide) ?_
   rintro v u hS hR
   simp only[Zal,Zak,eqv,Zl3,Zl4,Nat.reduceSub]at hR
   try exact hR.elim
   try exact hR.1.elim
 · have hone:∀ (u:World),Zbg u p r1→Env w0 p u→Calls Tryz.prog 151 #[.pointer (some ⟨p,0,none⟩)] u fun e w'=>u.grownBy w' (some p)∧Zbg w' p r2∧∃ v,e=.returned v∧v=.string (str s):=fun u a b=>by
    have:=Zsi p w0 u r1 a hok b
    rw[h1]at this
    exact this
   have hok2:Zhb r2:=by
    obtain ⟨t2,e2,e3⟩:=Zkp h1
    exact hok.sfx (by rw[e2];exact List.suffix_cons _ _)
   have hS0:w.grownBy u0.drew (some p)∧B≤u0.drew.heap.size∧Zbg u0.drew p (if (fun _:Nat=>false) 3 then r2 else r1)∧Blk u0.drew p1 [.pointer (some ⟨p,0,none⟩)] 84∧((fun _:Nat=>false) 7=false→Blk u0.drew p3 (sRow o (.slice An ns.length cn) (.slice Ak l.length ck)) 26)∧u0.drew.ownsRow (p3+1) 26 6 (.slice Ak l.length ck) l.length rows.flatten∧Zdz u0.drew (fun b=>p3 < b∧b < B∧some b ≠ Value.ownBlock (.slice Ak l.length ck)∧some b ≠ Value.ownBlock (.slice An ns.length cn)) l rows∧((fun _:Nat=>false) 5=false→u0.drew.ownsRow (p3+1) 9 1 (.slice An ns.length cn) ns.length (ns.map .string))∧((fun _:Nat=>false) 7=false→(fun _:Nat=>undef) 7=undef)∧((fun _:Nat=>false) 7=true→(fun _:Nat=>undef) 7=(fun _:Nat=>undef) 5):=⟨hg.trans hgd,Nat.le_of_eq hB.out,hd,hbx,fun _=>kr,hok9,hes.keep (fun _ _ _ h=>h) (fun b hb=>⟨hb.1,by rw[hB.out];exact hb.2.1,hb.2.2⟩),fun _=>hon,fun _=>rfl,fun h=>by cases h⟩
   clear h1 hx
   refine Zap (fun L v u=>w.grownBy u (some p)∧B≤u.heap.size∧Zbg u p (if L 3 then r2 else r1)∧Blk u p1 [.pointer (some ⟨p,0,none⟩)] 84∧(L 7=false→Blk u p3 (sRow o (.slice An ns.length cn) (.slice Ak l.length ck)) 26)∧u.ownsRow (p3+1) 26 6 (.slice Ak l.length ck) l.length rows.flatten∧Zdz u (fun b=>p3 < b∧b < B∧some b ≠ Value.ownBlock (.slice Ak l.length ck)∧some b ≠ Value.ownBlock (.slice An ns.length cn)) l rows∧(L 5=false→u.ownsRow (p3+1) 9 1 (.slice An ns.length cn) ns.length (ns.map .string))∧(L 7=false→v 7=undef)∧(L 7=true→v 7=v 5)) (fun i u u'=>(i ≠ 5∧i ≠ 7→u.grownBy u' (some p))∧(i=5→u.grownBy u' (Value.ownBlock (.slice An ns.length cn)))∧(i=7→u.grownBy u' (some p3))) _ (by kernel_rfl) (by kernel_rfl) (fun v=>by simp only[Zbx,Act.put,List.toList_toArray,Zl2,Zl0,Zl1,Nat.reduceAdd,Nat.zero_add];rfl) hS0 (fun L L' v u hL h=>by rw[←hL 3 (by decide),←hL 5 (by decide),←hL 7 (by decide)];exact h) ?_
   refine Zaa [] _ (fun L hL hcl v u hS hd K' hK=>by
    simp only[Act.put,Zl2,Zl0,Zl1]at hK
    go_simp
    exact hK.out _ ⟨⟨hS.1,hS.2.1,by simpa using hS.2.2.1,hS.2.2.2.1,fun h=>hS.2.2.2.2.1 (by simpa using h),hS.2.2.2.2.2.1,hS.2.2.2.2.2.2.1,fun h=>hS.2.2.2.2.2.2.2.1 (by simpa using h),fun h=>hS.2.2.2.2.2.2.2.2.1 (by simpa using h),fun h=>hS.2.2.2.2.2.2.2.2.2 (by simpa using h)⟩,⟨fun _=>Zab _ _,fun h=>(by cases h),fun h=>by cases h⟩⟩) (by kernel_rfl) (j:=1) rfl ?_
   refine Zaa [0] _ (fun L hL hcl v u hS hd K' hK=>by
    simp only[Zal,Zak,eqv,Zl3,Zl4,Nat.reduceSub]at hd
    simp only[Act.put,Zl2,Zl0,Zl1]at hK
    try simp only[hd]at hK
    have hq7:L 7=false:=by
     cases hq:L 7 with
     | false=>rfl
     | true=>have:=hcl 7 1 hq (by kernel_rfl);rw[hL]at this;cases this
    have k7:=hS.2.2.2.2.1 hq7
    have c4:u.cell? ⟨p3,4,none⟩=some (.slice An ns.length cn):=k7.cell 4
    go_simp
    exact hK.out _ ⟨⟨hS.1,hS.2.1,by simpa using hS.2.2.1,hS.2.2.2.1,fun h=>hS.2.2.2.2.1 (by simpa using h),hS.2.2.2.2.2.1,hS.2.2.2.2.2.2.1,fun h=>hS.2.2.2.2.2.2.2.1 (by simpa using h),fun h=>hS.2.2.2.2.2.2.2.2.1 (by simpa using h),fun h=>hS.2.2.2.2.2.2.2.2.2 (by simpa using h)⟩,⟨fun _=>Zab _ _,fun h=>(by cases h),fun h=>by cases h⟩⟩) (by kernel_rfl) (j:=2) rfl ?_
   refine Zaa [] _ (fun L hL hcl v u hS hd K' hK=>by
    simp only[Act.put,Zl2,Zl0,Zl1]at hK
    have c0:u.cell? ⟨p1,0,none⟩=some (.pointer (some ⟨p,0,none⟩)):=hS.2.2.2.1.cell 0
    go_simp
    exact hK.out _ ⟨⟨hS.1,hS.2.1,by simpa using hS.2.2.1,hS.2.2.2.1,fun h=>hS.2.2.2.2.1 (by simpa using h),hS.2.2.2.2.2.1,hS.2.2.2.2.2.2.1,fun h=>hS.2.2.2.2.2.2.2.1 (by simpa using h),fun h=>hS.2.2.2.2.2.2.2.2.1 (by simpa using h),fun h=>hS.2.2.2.2.2.2.2.2.2 (by simpa using h)⟩,⟨fun _=>Zab _ _,fun h=>(by cases h),fun h=>by cases h⟩⟩) (by kernel_rfl) (j:=3) rfl ?_
   refine Zaa [2] _ (fun L hL hcl v u hS hd K' hK=>by
    simp only[Zal,Zak,eqv,Zl3,Zl4,Nat.reduceSub]at hd
    simp only[Act.put,Zl2,Zl0,Zl1]at hK
    try simp only[hd]at hK
    go_simp
    refine (hone u (by have:=hS.2.2.1;rw[hL]at this;exact this) (hE.step hS.1)).mono ?_
    rintro e9 u1 ⟨hg9,hd9,v9,rfl,rfl⟩
    exact hK.out _ ⟨⟨hS.1.trans hg9,Nat.le_trans hS.2.1 hg9.size,by simpa using hd9,hS.2.2.2.1.grown hg9 (by omega),fun h=>(hS.2.2.2.2.1 (by simpa using h)).grown hg9 (by omega),hS.2.2.2.2.2.1.kept hg9 (.inr (fun q=>by have:=hkB p q;omega)),hS.2.2.2.2.2.2.1.grown hg9 (fun b hb e=>by have q:=Option.some.inj e;have:=hb.1;omega) (fun b hb=>hb),fun h=>(hS.2.2.2.2.2.2.2.1 (by simpa using h)).kept hg9 (.inr (fun q=>by have:=hnB p q;omega)),fun h=>hS.2.2.2.2.2.2.2.2.1 (by simpa using h),fun h=>hS.2.2.2.2.2.2.2.2.2 (by simpa using h)⟩,⟨fun _=>hg9,fun h=>(by cases h),fun h=>by cases h⟩⟩) (by kernel_rfl) (j:=4) rfl ?_
   refine Zam [3] (fun v u=>∃ g,v=.slice (some ⟨g,0,none⟩) 1 1∧B≤g∧Blk u g [.string (str s)] 9) ((by
    rintro j x u u' hj hg ⟨g,h1,h2,h3⟩
    refine ⟨g,h1,h2,?_⟩
    by_cases e5:j=5
    · exact h3.grownQ (hg.2.1 e5) (fun q=>by have:=hnB g q.symm;omega)
    · by_cases e7:j=7
      · exact h3.grown (hg.2.2 e7) (by omega)
      · exact h3.grown (hg.1 ⟨e5,e7⟩) (by omega))) (fun L hL hcl v u hS hd K' hK=>by
    simp only[Zal,Zak,eqv,Zl3,Zl4,Nat.reduceSub]at hd
    simp only[Act.put,Zl2,Zl0,Zl1]at hK
    try simp only[hd]at hK
    go_simp
    have hb9:=Zac u (.cells #[.string (str s)] 9)
    have hg9:=Zad hb9 (some p)
    exact hK.out (.slice (some ⟨u.heap.size,0,none⟩) 1 1) _ ⟨⟨hS.1.trans hg9,Nat.le_trans hS.2.1 hg9.size,by simpa using hS.2.2.1.below hb9,hS.2.2.2.1.grown hg9 (by omega),fun h=>(hS.2.2.2.2.1 (by simpa using h)).grown hg9 (by omega),hS.2.2.2.2.2.1.kept hg9 (.inr (fun q=>by have:=hkB p q;omega)),hS.2.2.2.2.2.2.1.grown hg9 (fun b hb e=>by have q:=Option.some.inj e;have:=hb.1;omega) (fun b hb=>hb),fun h=>(hS.2.2.2.2.2.2.2.1 (by simpa using h)).kept hg9 (.inr (fun q=>by have:=hnB p q;omega)),fun h=>hS.2.2.2.2.2.2.2.2.1 (by simpa using h),fun h=>hS.2.2.2.2.2.2.2.2.2 (by simpa using h)⟩,⟨fun _=>hg9,fun h=>(by cases h),fun h=>by cases h⟩,_,rfl,hS.2.1,Blk.new u [.string (str s)] 9⟩) (by kernel_rfl) (j:=5) rfl ?_
   refine Zam [1,4] (fun v u=>u.ownsRow (p3+1) 9 1 v (ns.length+1) (ns.map .string ++ [.string (str s)])∧(v.ownBlock=Value.ownBlock (.slice An ns.length cn)∨∃ g,v.ownBlock=some g∧B≤g)) ((by
    rintro j x u u' hj hg ⟨h1,h2⟩
    refine ⟨?_,h2⟩
    by_cases e7:j=7
    · exact h1.kept (hg.2.2 e7) (.inr (fun q=>by have:=Zht h1 p3 q;omega))
    · exact h1.kept (hg.1 ⟨hj,e7⟩) (.inr (fun q=>by have:=Zht h1 p q;omega)))) (fun L hL hcl v u hS hd K' hK=>by
    simp only[Zal,Zak,eqv,Zl3,Zl4,Nat.reduceSub]at hd
    obtain ⟨h1,g4,h4,hg4,hb4⟩:=hd
    have hq7:L 7=false:=by
     cases hq:L 7 with
     | false=>rfl
     | true=>have:=hcl 7 5 hq (by kernel_rfl);rw[hL]at this;cases this
    refine Zfq _ (by rfl) _ _ _ (by rfl) (p3+1) 9 j0 _ 1 16 Tryz.underlying23 hj hy0 hy1 hy2 hy3 (by omega) (.slice An ns.length cn) ns.length _ (by exact h1) (hS.2.2.2.2.2.2.2.1 hL) (some ⟨g4,0,none⟩) 1 1 [.string (str s)] (by exact h4) ⟨rfl,fun _=>⟨g4,0,rfl,fun j x hx=>by rw[Nat.zero_add];exact (hb4.cell j).trans hx⟩⟩ (by intro u hu;simp only[List.mem_singleton]at hu;subst hu;rfl) (by unfold maxLen;omega) (by omega) (by have:=hS.2.1;omega) ?_
    intro v' u' hown hgr hx
    exact hK.out _ _ ⟨⟨Zhh hS.1 hgr (fun k q=>by have:=hnB k q;omega),Nat.le_trans hS.2.1 hgr.size,by have:=hS.2.2.1.grownQ hgr (fun k q=>by have:=hnB k q;omega);simpa using this,hS.2.2.2.1.grownQ hgr (fun q=>by have:=hnB p1 q.symm;omega),fun h=>(hS.2.2.2.2.1 (by simpa using h)).grownQ hgr (fun q=>by have:=hnB p3 q.symm;omega),hS.2.2.2.2.2.1.kept hgr hknb,hS.2.2.2.2.2.2.1.grown hgr (fun b hb e=>hb.2.2.2 e) (fun b hb=>hb),fun h=>by simp at h,fun h=>hS.2.2.2.2.2.2.2.2.1 (by simpa using h),fun h=>by simp[hq7]at h⟩,⟨fun h=>absurd rfl h.1,fun _=>hgr,fun h=>by cases h⟩,hown,hx.imp id (fun q=>⟨_,q,hS.2.1⟩)⟩) (by kernel_rfl) (j:=6) rfl ?_
   refine Zaa [] _ (fun L hL hcl v u hS hd K' hK=>by
    simp only[Act.put,Zl2,Zl0,Zl1]at hK
    go_simp
    exact hK.out _ ⟨⟨hS.1,hS.2.1,by simpa using hS.2.2.1,hS.2.2.2.1,fun h=>hS.2.2.2.2.1 (by simpa using h),hS.2.2.2.2.2.1,hS.2.2.2.2.2.2.1,fun h=>hS.2.2.2.2.2.2.2.1 (by simpa using h),fun h=>hS.2.2.2.2.2.2.2.2.1 (by simpa using h),fun h=>hS.2.2.2.2.2.2.2.2.2 (by simpa using h)⟩,⟨fun _=>Zab _ _,fun h=>(by cases h),fun h=>by cases h⟩⟩) (by kernel_rfl) (j:=7) rfl ?_
   refine Zam [5,6] (fun v u=>Blk u p3 (sRow o v (.slice Ak l.length ck)) 26) ((by
    rintro j x u u' hj hg h1
    by_cases e5:j=5
    · exact h1.grownQ (hg.2.1 e5) (fun q=>by have:=hnB p3 q.symm;omega)
    · exact h1.grown (hg.1 ⟨e5,hj⟩) (by omega))) (fun L hL hcl v u hS hd K' hK=>by
    simp only[Zal,Zak,eqv,Zl3,Zl4,Nat.reduceSub]at hd
    obtain ⟨⟨hown,hx⟩,h6⟩:=hd
    have k7:=hS.2.2.2.2.1 hL
    have f4:=k7.free 4
    have c4:u.cell? ⟨p3,4,none⟩=some (.slice An ns.length cn):=k7.cell 4
    have hgr:=Zbn u p3 4 (v 5)
    obtain ⟨g5,c5,h5⟩:=Zpo hown
    refine Zbe rfl ?_
    refine Zgm 23 _ _ rfl _ _ h6 (rfl:_=v 5) (u':=u.setCell ⟨p3,4,none⟩ (v 5)) (by rw[h5];exact Zoy 23 (by kernel_rfl) c4 f4 rfl) ?_
    exact hK.out (v 5) _ ⟨⟨Zhh hS.1 hgr (fun k q=>by have q2:=Option.some.inj q;omega),Nat.le_trans hS.2.1 hgr.size,by have:=hS.2.2.1.grownQ hgr (fun k q=>by have q2:=Option.some.inj q;omega);simpa using this,hS.2.2.2.1.grown hgr (by omega),fun h=>by simp at h,hS.2.2.2.2.2.1.kept hgr (.inr (fun q=>by have:=hkB p3 q;omega)),hS.2.2.2.2.2.2.1.grown hgr (fun b hb e=>by have q:=Option.some.inj e;have:=hb.1;omega) (fun b hb=>hb),fun h=>(hS.2.2.2.2.2.2.2.1 (by simpa using h)).kept hgr (.inr (fun q=>by have:=hnB p3 q;omega)),fun h=>by simp at h,fun _=>rfl⟩,⟨fun h=>absurd rfl h.2,fun h=>(by cases h),fun _=>hgr⟩,k7.set 4 (v 5)⟩) (by kernel_rfl) (j:=8) rfl ?_
   refine Zau [5,7] (by decide) ?_
   rintro v u hS hR
   simp only[Zal,Zak,eqv,Zl3,Zl4,Nat.reduceSub]at hR
   obtain ⟨⟨hown,hx⟩,hrow⟩:=hR
   have h75:=hS.2.2.2.2.2.2.2.2.2 rfl
   have hZ:Zjq p3 o u (ns ++ [str s]) l:=by
    refine ⟨v 5,_,rows,by rw[←h75];exact hrow,by simpa using hown,hS.2.2.2.2.2.1,fun g q=>?_,hS.2.2.2.2.2.2.1.keep (fun _ _ _ h=>h) (fun b hb=>⟨hb.1,by have:=hS.2.1;have:=hb.2.1;omega,hb.2.2.1,fun q=>?_⟩)⟩
    · rcases hx with hx|⟨g',hx,hg'⟩
      · exact hne g (hx.symm.trans q)
      · intro q2
        have:=hkB g q2
        rw[hx]at q
        have q3:=Option.some.inj q
        omega
    · rcases hx with hx|⟨g',hx,hg'⟩
      · exact hb.2.2.2 (q.trans hx)
      · rw[hx]at q
        have q3:=Option.some.inj q
        have:=hb.2.1
        omega
   have z1:=hS.1
   have z2:Zbg u p r2:=by simpa using hS.2.2.1
   have z3:=hS.2.2.2.1
   clear hS hS0 hone hown hx hrow h75 hon hok9 hne hes kr C
   have hsn:=Zmu [58] p u r2 z2 hok2
   have hsn2:Calls Tryz.prog 203 #[.pointer (some ⟨p,0,none⟩),.string ⟨#[58]⟩] u fun e w'=>Zhk p u (Zbr [58] r2) (fun _ _ v=>v=.tuple #[]) e w':=hsn
   have c0:u.cell? ⟨p1,0,none⟩=some (.pointer (some ⟨p,0,none⟩)):=z3.cell 0
   clear hsn
   go_wp2_with (first|(at_builtin;fail))
   refine hsn2.mono ?_
   clear hsn2 c0
   rintro e9 u0 ⟨hg9,h⟩
   rcases hx3 with ⟨e0,h2,hq⟩|⟨r3,h2,hx4⟩
   · rw[h2]at h
     obtain ⟨h3,rfl⟩:=h
     refine ⟨rfl,z1.trans hg9,?_⟩
     rw[hq]
     exact ⟨h3,rfl⟩
   rw[h2]at h
   obtain ⟨hd,v9,rfl,rfl⟩:=h
   replace hg:=z1.trans hg9
   replace hbx:=z3.grown hg9 (by omega)
   have hI:Zjq p3 o u0 (ns ++ [str s]) l:=hZ.grown hg9 (by omega)
   obtain ⟨NS,hNS⟩:=Zaf (ns ++ [str s])
   rw[←hNS.out]at hI
   clear hZ z1 z2 z3 hg9 hgd hkB hnB hB hlt3 hrows hknb hnsl
   clear hj hy0 hy1 hy2 hy3
   clear j0 rows
   obtain ⟨vn,vk,rows,kr,hon,hok9,hne,hes⟩:=hI
   obtain ⟨Ak,ck,rfl⟩:=Zmb hok9
   obtain ⟨B,hB⟩:=Zaf u0.heap.size
   have hlt3:p3 < B:=by rw[hB.out];exact kr.lt
   have C:ApC w p p1 p3 B l vn (.slice Ak l.length ck):=⟨hp1,hp3,hlt3,hwp,fun g q=>by have:=Zht hok9 g q;rw[hB.out];omega,fun g q=>by have:=Zht hon g q;rw[hB.out];omega,hne,hll⟩
   have hrows:rows.flatten.length=l.length * 6:=Zci hes
   have hgd:u0.grownBy u0.drew (some p):=Zad (Zaj (Below.refl _ _)) _
   obtain ⟨j0,hj⟩:∃ i,Tryz.prog.info? 26=some i:=by
    cases hq:Tryz.prog.info? 26 with
    | none=>have:=Zof;rw[hq]at this;cases this
    | some i=>exact ⟨i,rfl⟩
   have hy:=Zof
   rw[hj]at hy
   have hy0:j0.zero=some (.agg Zag.toArray):=congrArg (fun z=>z.1) (Option.some.inj hy)
   have hy1:j0.size=6:=congrArg (fun z=>z.2.1) (Option.some.inj hy)
   have hy2:j0.bytes=96:=congrArg (fun z=>z.2.2) (Option.some.inj hy)
   have hy3:(Value.agg Zag.toArray).cells.size=6:=rfl
   clear hy
   have hok3:Zhb r3:=by
    obtain ⟨t2,e2⟩:=Zcv h2
    exact hok2.sfx (by rw[e2];exact List.suffix_cons _ _)
   go_upto_region 2 with (first|(at_builtin;fail))
   rcases hx4 with ⟨e0,hx5,hq⟩|⟨e,r4,hx5,hq⟩
   · have hone:∀ (u:World),Zbg u p r3→Env w0 p u→Calls Tryz.prog 55 #[.pointer (some ⟨p,0,none⟩)] u fun e w'=>u.grownBy w' (some p)∧Zbg w' p e0∧e=.panicked Zgu:=fun u a b=>hX f hf p w0 u r3 (.error e0) a hok3 b hx5
     have r4:List Tok:=[]
     have e:Et:=Zbk 0 []
     have hS0:ApS w p p1 p3 B o NS l rows vn (.slice Ak l.length ck) e r3 r4 ((fun _:Nat=>false) 3) ((fun _:Nat=>false) 6) ((fun _:Nat=>false) 10) (fun _=>undef) u0.drew:=⟨hg.trans hgd,Nat.le_of_eq hB.out,hd,hbx,fun _=>kr,fun q=>(by cases q),hon,hes.keep (fun _ _ _ h=>h) (fun b hb=>⟨hb.1,by rw[hB.out];exact hb.2.1,hb.2.2⟩),fun _=>hok9,fun _=>⟨rfl,rfl,rfl,rfl⟩,fun a q=>(by cases q),fun g m c q=>(by cases q),fun g m c q=>(by cases q),fun k i q=>by cases q⟩
     refine Zcz (fun ex u=>ex=.panic Zgu∧x=.error e0∧w.grownBy u (some p)∧Zbg u p e0) (by
      rintro ex b u hb ⟨rfl,h1,h2,h3⟩
      refine ⟨hb,?_⟩
      rw[h1]
      exact ⟨h2,h3,rfl⟩) (fun L v u=>ApS w p p1 p3 B o NS l rows vn (.slice Ak l.length ck) e r3 r4 (L 3) (L 6) (L 10) v u) (fun _ _ _=>True) _ (by kernel_rfl) (by kernel_rfl) (fun v=>by simp only[Zbx,Act.put,List.toList_toArray,Zl2,Zl0,Zl1,Nat.reduceAdd,Nat.zero_add];rfl) hS0 (fun L L' v u hL h=>by rw[←hL 3 (by decide),←hL 6 (by decide),←hL 10 (by decide)];exact h) ?_
     refine Zat [] _ (fun L hL hcl v u hS hd K' hK=>by
      simp only[Act.put,Zl2,Zl0,Zl1]at hK
      go_simp
      exact hK.out _ ⟨hS.quiet _ (by decide) _,trivial⟩) (by kernel_rfl) (j:=1) rfl ?_
     refine Zat [0] _ (fun L hL hcl v u hS hd K' hK=>by
      simp only[Zal,Zak,eqv,Zl3,Zl4,Nat.reduceSub]at hd
      simp only[Act.put,Zl2,Zl0,Zl1]at hK
      try simp only[hd]at hK
      have hq10:L 10=false:=by
       cases hq:L 10 with
       | false=>rfl
       | true=>have:=hcl 10 1 hq (by kernel_rfl);rw[hL]at this;cases this
      have k7:=hS.row hq10
      have c5:u.cell? ⟨p3,5,none⟩=some (.slice Ak l.length ck):=k7.cell 5
      go_simp
      exact hK.out _ ⟨hS.quiet _ (by decide) _,trivial⟩) (by kernel_rfl) (j:=2) rfl ?_
     refine Zat [] _ (fun L hL hcl v u hS hd K' hK=>by
      simp only[Act.put,Zl2,Zl0,Zl1]at hK
      have c0:u.cell? ⟨p1,0,none⟩=some (.pointer (some ⟨p,0,none⟩)):=hS.bx.cell 0
      go_simp
      exact hK.out _ ⟨hS.quiet _ (by decide) _,trivial⟩) (by kernel_rfl) (j:=3) rfl ?_
     refine Zar [2] (fun _ _=>False) ((fun _ _ _ _ _ _ h=>h)) (fun L hL hcl v u hS hd K' hK=>by
      simp only[Zal,Zak,eqv,Zl3,Zl4,Nat.reduceSub]at hd
      simp only[Act.put,Zl2,Zl0,Zl1]at hK
      try simp only[hd]at hK
      go_simp
      have hrd:=hS.rd
      rw[hL]at hrd
      refine (hone u hrd (hE.step hS.hg)).mono ?_
      rintro e9 u1 ⟨hg9,hd9,rfl⟩
      first|exact ⟨rfl,hq,hS.hg.trans hg9,hd9⟩|exact ⟨rfl,hS.hg.trans hg9,hd9⟩|exact ⟨hS.hg.trans hg9,hd9⟩) (by kernel_rfl) (j:=4) rfl ?_
     refine Zat [1] _ (fun L hL hcl v u hS hd K' hK=>by
      simp only[Zal,Zak,eqv,Zl3,Zl4,Nat.reduceSub]at hd
      simp only[Act.put,Zl2,Zl0,Zl1]at hK
      try simp only[hd]at hK
      go_simp
      exact hK.out _ ⟨hS.quiet _ (by decide) _,trivial⟩) (by kernel_rfl) (j:=5) rfl ?_
     refine Zar [] (fun v _=>∃ g,v=.slice (some ⟨g,0,none⟩) 1 1) ((fun _ _ _ _ _ _ h=>h)) (fun L hL hcl v u hS hd K' hK=>by
      simp only[Act.put,Zl2,Zl0,Zl1]at hK
      have hq6:L 6=false:=by
       cases hq:L 6 with
       | false=>rfl
       | true=>have:=hcl 6 5 hq (by kernel_rfl);rw[hL]at this;cases this
      go_simp
      have hS1:=hS
      rw[hq6]at hS1
      have hS2:=hS1.lit C
      rw[←hq6]at hS2
      exact hK.out (.slice (some ⟨u.heap.size,0,none⟩) 1 1) _ ⟨hS2,trivial,_,rfl⟩) (by kernel_rfl) (j:=6) rfl ?_
     refine Zar [1,3,5] (fun _ _=>False) ((fun _ _ _ _ _ _ h=>h)) (fun L hL hcl v u hS hd K' hK=>by
      simp only[Zal,Zak,eqv,Zl3,Zl4,Nat.reduceSub]at hd
      try exact hd.2.1.elim) (by kernel_rfl) (j:=7) rfl ?_
     refine Zar [4,6] (fun _ _=>False) ((fun _ _ _ _ _ _ h=>h)) (fun L hL hcl v u hS hd K' hK=>by
      simp only[Zal,Zak,eqv,Zl3,Zl4,Nat.reduceSub]at hd
      try first|exact hd.elim|exact hd.1.elim|exact hd.2.elim) (by kernel_rfl) (j:=8) rfl ?_
     refine Zar [3,7] (fun _ _=>False) ((fun _ _ _ _ _ _ h=>h)) (fun L hL hcl v u hS hd K' hK=>by
      simp only[Zal,Zak,eqv,Zl3,Zl4,Nat.reduceSub]at hd
      try first|exact hd.elim|exact hd.1.elim|exact hd.2.elim) (by kernel_rfl) (j:=9) rfl ?_
     refine Zat [] _ (fun L hL hcl v u hS hd K' hK=>by
      simp only[Act.put,Zl2,Zl0,Zl1]at hK
      go_simp
      exact hK.out _ ⟨hS.quiet _ (by decide) _,trivial⟩) (by kernel_rfl) (j:=10) rfl ?_
     refine Zar [6,9] (fun _ _=>False) ((fun _ _ _ _ _ _ h=>h)) (fun L hL hcl v u hS hd K' hK=>by
      simp only[Zal,Zak,eqv,Zl3,Zl4,Nat.reduceSub]at hd
      try first|exact hd.elim|exact hd.1.elim|exact hd.2.elim) (by kernel_rfl) (j:=11) rfl ?_
     refine Zee [6,8,10] (by decide) ?_
     rintro v u hS hR
     simp only[Zal,Zak,eqv,Zl3,Zl4,Nat.reduceSub]at hR
     try exact hR.elim
     try exact hR.1.elim
   · have hone:∀ (u:World),Zbg u p r3→Env w0 p u→Calls Tryz.prog 55 #[.pointer (some ⟨p,0,none⟩)] u fun e9 w'=>u.grownBy w' (some p)∧Zbg w' p r4∧∃ v,e9=.returned v∧ExV u.heap.size e w' v:=fun u a b=>hX f hf p w0 u r3 (.ok (e,r4)) a hok3 b hx5
     have hS0:ApS w p p1 p3 B o NS l rows vn (.slice Ak l.length ck) e r3 r4 ((fun _:Nat=>false) 3) ((fun _:Nat=>false) 6) ((fun _:Nat=>false) 10) (fun _=>undef) u0.drew:=⟨hg.trans hgd,Nat.le_of_eq hB.out,hd,hbx,fun _=>kr,fun q=>(by cases q),hon,hes.keep (fun _ _ _ h=>h) (fun b hb=>⟨hb.1,by rw[hB.out];exact hb.2.1,hb.2.2⟩),fun _=>hok9,fun _=>⟨rfl,rfl,rfl,rfl⟩,fun a q=>(by cases q),fun g m c q=>(by cases q),fun g m c q=>(by cases q),fun k i q=>by cases q⟩
     have hq3:Hid (x=.ok ((NS,e),r4)):=by refine Zai ?_;rw[hNS.out];exact hq
     clear hq
     refine Zap (fun L v u=>ApS w p p1 p3 B o NS l rows vn (.slice Ak l.length ck) e r3 r4 (L 3) (L 6) (L 10) v u) (fun _ _ _=>True) _ (by kernel_rfl) (by kernel_rfl) (fun v=>by simp only[Zbx,Act.put,List.toList_toArray,Zl2,Zl0,Zl1,Nat.reduceAdd,Nat.zero_add];rfl) hS0 (fun L L' v u hL h=>by rw[←hL 3 (by decide),←hL 6 (by decide),←hL 10 (by decide)];exact h) ?_
     refine Zaa [] _ (fun L hL hcl v u hS hd K' hK=>by
      simp only[Act.put,Zl2,Zl0,Zl1]at hK
      go_simp
      exact hK.out _ ⟨hS.quiet _ (by decide) _,trivial⟩) (by kernel_rfl) (j:=1) rfl ?_
     refine Zaa [0] _ (fun L hL hcl v u hS hd K' hK=>by
      simp only[Zal,Zak,eqv,Zl3,Zl4,Nat.reduceSub]at hd
      simp only[Act.put,Zl2,Zl0,Zl1]at hK
      try simp only[hd]at hK
      have hq10:L 10=false:=by
       cases hq:L 10 with
       | false=>rfl
       | true=>have:=hcl 10 1 hq (by kernel_rfl);rw[hL]at this;cases this
      have k7:=hS.row hq10
      have c5:u.cell? ⟨p3,5,none⟩=some (.slice Ak l.length ck):=k7.cell 5
      go_simp
      exact hK.out _ ⟨hS.quiet _ (by decide) _,trivial⟩) (by kernel_rfl) (j:=2) rfl ?_
     refine Zaa [] _ (fun L hL hcl v u hS hd K' hK=>by
      simp only[Act.put,Zl2,Zl0,Zl1]at hK
      have c0:u.cell? ⟨p1,0,none⟩=some (.pointer (some ⟨p,0,none⟩)):=hS.bx.cell 0
      go_simp
      exact hK.out _ ⟨hS.quiet _ (by decide) _,trivial⟩) (by kernel_rfl) (j:=3) rfl ?_
     refine Zam [2] (fun v _=>∃ a,v=.agg a) ((fun _ _ _ _ _ _ h=>h)) (fun L hL hcl v u hS hd K' hK=>by
      simp only[Zal,Zak,eqv,Zl3,Zl4,Nat.reduceSub]at hd
      simp only[Act.put,Zl2,Zl0,Zl1]at hK
      try simp only[hd]at hK
      have hq6:L 6=false:=by
       cases hq:L 6 with
       | false=>rfl
       | true=>have:=hcl 6 3 hq (by kernel_rfl);rw[hL]at this;cases this
      go_simp
      have hrd:=hS.rd
      rw[hL]at hrd
      refine (hone u hrd (hE.step hS.hg)).mono ?_
      rintro e9 u1 ⟨hg9,hd9,v9,rfl,r9,rfl,hv9,-⟩
      have hS1:=hS
      rw[hL,hq6]at hS1
      have hS2:=hS1.kid C hg9 hd9 hv9
      rw[←hq6]at hS2
      exact hK.out _ _ ⟨hS2,trivial,_,rfl⟩) (by kernel_rfl) (j:=4) rfl ?_
     refine Zaa [1] _ (fun L hL hcl v u hS hd K' hK=>by
      simp only[Zal,Zak,eqv,Zl3,Zl4,Nat.reduceSub]at hd
      simp only[Act.put,Zl2,Zl0,Zl1]at hK
      try simp only[hd]at hK
      go_simp
      exact hK.out _ ⟨hS.quiet _ (by decide) _,trivial⟩) (by kernel_rfl) (j:=5) rfl ?_
     refine Zam [] (fun v _=>∃ g,v=.slice (some ⟨g,0,none⟩) 1 1) ((fun _ _ _ _ _ _ h=>h)) (fun L hL hcl v u hS hd K' hK=>by
      simp only[Act.put,Zl2,Zl0,Zl1]at hK
      have hq6:L 6=false:=by
       cases hq:L 6 with
       | false=>rfl
       | true=>have:=hcl 6 5 hq (by kernel_rfl);rw[hL]at this;cases this
      go_simp
      have hS1:=hS
      rw[hq6]at hS1
      have hS2:=hS1.lit C
      rw[←hq6]at hS2
      exact hK.out (.slice (some ⟨u.heap.size,0,none⟩) 1 1) _ ⟨hS2,trivial,_,rfl⟩) (by kernel_rfl) (j:=6) rfl ?_
     refine Zam [1,3,5] (fun v _=>∃ g m c,v=.slice (some ⟨g,0,none⟩) m c) ((fun _ _ _ _ _ _ h=>h)) (fun L hL hcl v u hS hd K' hK=>by
      simp only[Zal,Zak,eqv,Zl3,Zl4,Nat.reduceSub]at hd
      obtain ⟨h1,-,g5,h5⟩:=hd
      have hq10:L 10=false:=by
       cases hq:L 10 with
       | false=>rfl
       | true=>have:=hcl 10 6 hq (by kernel_rfl);rw[hL]at this;cases this
      have hS1:=hS
      rw[hL,hq10]at hS1
      obtain ⟨-,-,hgB,hzb⟩:=hS.one g5 1 1 h5
      have hz:=hzb hL
      refine Zfq _ (by rfl) _ _ _ (by rfl) (p3+1) 26 j0 _ 6 96 Tryz.underlying24 hj hy0 hy1 hy2 hy3 (by omega) (.slice Ak l.length ck) l.length _ (by exact h1) (hS.own_k hL) (some ⟨g5,0,none⟩) 1 1 Zag (by exact h5) ⟨rfl,fun _=>⟨g5,0,rfl,fun j x hx=>by rw[Nat.zero_add];exact (hz.cell j).trans hx⟩⟩ Zfp (by have:=C.hl;unfold maxLen;omega) (by have:=C.hl;omega) (by have:=hS.hB;have:=C.hB;omega) ?_
      intro v' u' hown hgr hx
      have hS2:=hS1.appended C hown hgr hx
      rw[←hq10]at hS2
      obtain ⟨gx,cx,hvx⟩:=Zpo hown
      exact hK.out _ _ ⟨hS2,trivial,gx,l.length+1,cx,hvx⟩) (by kernel_rfl) (j:=7) rfl ?_
     refine Zam [4,6] (fun v _=>∃ k i,v=.pointer (some ⟨k,i,none⟩)) ((fun _ _ _ _ _ _ h=>h)) (fun L hL hcl v u hS hd K' hK=>by
      simp only[Zal,Zak,eqv,Zl3,Zl4,Nat.reduceSub]at hd
      simp only[Act.put,Zl2,Zl0,Zl1]at hK
      try simp only[hd]at hK
      obtain ⟨h4,g,m,c,h6⟩:=hd
      obtain ⟨hm,-⟩:=hS.app g m c h6
      subst hm
      have hlt:(l.length:Int) < (l.length:Int)+1:=by omega
      simp only[h4,h6]at hK ⊢
      go_simp
      exact hK.out _ _ ⟨hS.place h6,trivial,_,_,rfl⟩) (by kernel_rfl) (j:=8) rfl ?_
     refine Zam [3,7] (fun v _=>v=.bool true) ((fun _ _ _ _ _ _ h=>h)) (fun L hL hcl v u hS hd K' hK=>by
      simp only[Zal,Zak,eqv,Zl3,Zl4,Nat.reduceSub]at hd
      obtain ⟨⟨a,h3⟩,k,i,h7⟩:=hd
      obtain ⟨hi,m,c,h6⟩:=hS.idx k i h7
      subst hi
      have h6t:L 6=true:=by
       cases hq:L 6 with
       | true=>rfl
       | false=>have:=(hS.pre hq).1;rw[h6]at this;cases this
      obtain ⟨re,ha,htr⟩:=hS.tree a h3
      rw[ha]at h3
      have hlen:=Zby htr
      obtain ⟨hm,last,hl6,hown,hgb,-⟩:=hS.app k m c h6
      subst hm
      rw[h6]at hown
      obtain ⟨u',q1,q2,q3⟩:=Zue Tryz.prog hown hrows hlen (Zcy htr) kE
      have hS1:=hS
      rw[h6t]at hS1
      have hS2:ApS w p p1 p3 B o NS l rows vn (.slice Ak l.length ck) e r3 r4 (L 3) (L 6) (L 10) (Zcq v 8 (.bool true)) u':=by rw[h6t];exact hS1.stored C h6 h3 hlen (by rw[h6];exact q2) q3
      refine Zbe rfl ?_
      refine Zgm 26 _ _ rfl _ _ h7 h3 q1 ?_
      exact hK.out (.bool true) _ ⟨hS2,trivial,rfl⟩) (by kernel_rfl) (j:=9) rfl ?_
     refine Zaa [] _ (fun L hL hcl v u hS hd K' hK=>by
      simp only[Act.put,Zl2,Zl0,Zl1]at hK
      go_simp
      exact hK.out _ ⟨hS.quiet _ (by decide) _,trivial⟩) (by kernel_rfl) (j:=10) rfl ?_
     refine Zam [6,9] (fun v _=>v=.bool true) ((fun _ _ _ _ _ _ h=>h)) (fun L hL hcl v u hS hd K' hK=>by
      simp only[Zal,Zak,eqv,Zl3,Zl4,Nat.reduceSub]at hd
      obtain ⟨⟨g,m,c,h6⟩,h9⟩:=hd
      have h6t:L 6=true:=by
       cases hq:L 6 with
       | true=>rfl
       | false=>have:=(hS.pre hq).1;rw[h6]at this;cases this
      have k7:=hS.row hL
      have f5:=k7.free 5
      have c5:u.cell? ⟨p3,5,none⟩=some (.slice Ak l.length ck):=k7.cell 5
      have hS1:=hS
      rw[h6t]at hS1
      have hS2:ApS w p p1 p3 B o NS l rows vn (.slice Ak l.length ck) e r3 r4 (L 3) (L 6) true (Zcq v 10 (.bool true)) (u.setCell ⟨p3,5,none⟩ (v 6)):=by rw[h6t];exact hS1.laid C k7 h6
      refine Zbe rfl ?_
      refine Zgm 24 _ _ rfl _ _ h9 (rfl:_=v 6) (u':=u.setCell ⟨p3,5,none⟩ (v 6)) (by rw[h6];exact Zoy 24 (by kernel_rfl) c5 f5 rfl) ?_
      exact hK.out (.bool true) _ ⟨hS2,trivial,rfl⟩) (by kernel_rfl) (j:=11) rfl ?_
     refine Zau [6,8,10] (by decide) ?_
     rintro v u hS hR
     simp only[Zal,Zak,eqv,Zl3,Zl4,Nat.reduceSub]at hR
     obtain ⟨h6,h8,h10⟩:=hR
     obtain ⟨z1,z2,z3,z4⟩:=hS.done C h6 h8 h10
     clear hS hS0 hone
     refine bodyPost_ret (v:=.tuple #[]) (by simp[results,Tryz.results209,go_sem]) rfl ?_
     rw[hq3.out]
     exact ⟨z1,rfl,z2,z3,z4⟩
def kindR (rec:Bool):Nat:=if rec then 7 else 6
def finR (rec:Bool) (ns:List ByteArray) (l:List Et) (r:List Tok):Zcs Et:=match Zbr (Zdf rec) r with
 | .ok (_,r')=>.ok (.mk (kindR rec) 0 noS noS ns l,r')
 | .error e=>.error e
theorem brk_go {f:Nat} {rec:Bool} {r:List Tok} {y:Zcs Et} (h:Zqe (pr f) rec r=some y):(nxB 4 [Zdf rec] r=true∧y=finR rec [] [] r)∨(nxB 4 [Zdf rec] r=false∧pr f (.items rec [] []) r=some y):=by
 cases r with
 | nil=>exact .inr ⟨rfl,h⟩
 | cons t r=>
   rw[Zsq]
   have h2:(if isS t (Zdf rec)=true then okP (.mk (if rec then 7 else 6) 0 noS noS [] []) r else pr f (.items rec [] []) (t :: r))=some y:=h
   split at h2
   · next hc=>
     refine .inl ⟨hc,?_⟩
     cases h2
     unfold finR Zbr
     simp only[hc,if_true]
     rfl
   · next hc=>exact .inr ⟨by simpa using hc,h2⟩
theorem item_go {n:Nat} {rec:Bool} {ns:List ByteArray} {l:List Et} {r:List Tok} {y:Zcs Et} (h:∃ f,f≤n+1∧pr f (.items rec ns l) r=some y) (hk:Zhb r) :
 ∃ (f:Nat) (x:Zcs (List ByteArray × Et)),f≤n∧Zsx rec ns f r=some x∧match x with
   | .error e0=>y=.error e0
   | .ok (z,r2)=>r2 <:+ r∧r2.length < r.length∧z.1.length≤ns.length+1∧((∀ q ∈ ns,q.size≤Zbq)→∀ q ∈ z.1,q.size≤Zbq) ∧
     ((nxB 4 [[44]] r2=true∧pr f (.items rec z.1 (l ++ [z.2])) (Zct 4 [[44]] r2)=some y)∨(nxB 4 [[44]] r2=false∧y=finR rec z.1 (l ++ [z.2]) r2)):=by
 obtain ⟨f,hf,h⟩:=h
 cases f with
 | zero=>cases h
 | succ f1=>
   have h2:Zbj (pr f1) (.items rec ns l) r=some y:=h
   rw[Zfs]at h2
   have hlast:∀ (ns2:List ByteArray) (e:Et) (r2:List Tok),Znc (pr f1) rec l ns2 e r2=some y→(nxB 4 [[44]] r2=true∧pr f1 (.items rec ns2 (l ++ [e])) (Zct 4 [[44]] r2)=some y)∨(nxB 4 [[44]] r2=false∧y=finR rec ns2 (l ++ [e]) r2):=by
    intro ns2 e r2 h3
    cases r2 with
    | nil=>cases h3;exact .inr ⟨rfl,rfl⟩
    | cons t r3=>
      unfold Znc at h3
      simp only[]at h3
      have hn:=Zsq t r3 [44]
      split at h3
      · next hc=>exact .inl ⟨by rw[hn];exact hc,by rw[Zhp (by rw[hn];exact hc)];exact h3⟩
      · next hc=>
        refine .inr ⟨by rw[hn];simpa using hc,?_⟩
        unfold finR Zbr
        split at h3
        · next hc2=>cases h3;simp only[hc2,if_true];rfl
        · next hc2=>cases h3;simp only[hc2];rfl
   rcases Zca h2 with ⟨e0,h3,rfl⟩|⟨ns2,r1,h3,h4⟩
   · exact ⟨f1,.error e0,by omega,by unfold Zsx;rw[h3];rfl,rfl⟩
   · have hr1:r1 <:+ r∧ns2.length≤ns.length+1∧((∀ q ∈ ns,q.size≤Zbq)→∀ q ∈ ns2,q.size≤Zbq):=by
      unfold Zkx at h3
      split at h3
      · cases h5:Zda r with
        | error e0=>rw[h5]at h3;cases h3
        | ok z=>
          obtain ⟨s,r5⟩:=z
          rw[h5]at h3
          simp only[]at h3
          obtain ⟨t5,rfl,rfl⟩:=Zkp h5
          cases h6:Zbr [58] r5 with
          | error e0=>rw[h6]at h3;cases h3
          | ok z=>
            obtain ⟨⟨⟩,r6⟩:=z
            rw[h6]at h3
            obtain ⟨t6,rfl⟩:=Zcv h6
            cases h3
            refine ⟨(List.suffix_cons _ _).trans (List.suffix_cons _ _),by simp,fun hq q hq2=>?_⟩
            rcases List.mem_append.1 hq2 with hq3|hq3
            · exact hq q hq3
            · rw[List.mem_singleton]at hq3
              subst hq3
              exact Zls (hk.2 t5 (by simp)).1
      · cases h3
        exact ⟨List.suffix_refl _,Nat.le_succ _,fun hq=>hq⟩
     rcases Zbp h4 with ⟨e0,h5,rfl⟩|⟨e,r2,h5,h6⟩
     · refine ⟨f1,.error e0,by omega,?_,rfl⟩
       unfold Zsx
       rw[h3]
       show Zcn (pr f1 .expr r1) _=_
       rw[h5]
       rfl
     · have hs:=Zmx f1 _ _ _ h5
       refine ⟨f1,.ok ((ns2,e),r2),by omega,?_,hs.1.trans hr1.1,Nat.lt_of_lt_of_le ?_ hr1.1.length_le,hr1.2.1,hr1.2.2,hlast ns2 e r2 h6⟩
       · unfold Zsx
         rw[h3]
         show Zcn (pr f1 .expr r1) _=_
         rw[h5]
         rfl
       · have:=hs.2
         have h9:Zim .expr=1:=rfl
         omega
def Zyq (w:World) (p p3 o:Nat) (rec:Bool) (y:Zcs Et) (e:Ending) (w':World):Prop:=
 w.grownBy w' (some p)∧match y with
  | .ok (e1,r)=>e=.returned (.tuple #[])∧Zbg w' p r∧∃ ns l,e1=.mk (kindR rec) 0 noS noS ns l∧Zjq p3 o w' ns l∧l.length≤4096∧ns.length≤4096∧∀ q ∈ ns,q.size≤Zbq
  | .error e0=>Zbg w' p e0∧e=.panicked Zgu
set_option maxRecDepth 100000 in
theorem Zup (rec:Bool) (F:FuncId) (n:Nat) (w w0 u:World) (p p1 p3 o:Nat) (hp1:p < p1) (hp3:p1 < p3) (hE:Env w0 p w) (hin:∀ a b W,(callFunc F #[a,b]).run Tryz.prog W=.ok (.enter F #[a,b]) W)
 (hitem:∀ (u0:World) (ns:List ByteArray) (l:List Et) (r1:List Tok) (f:Nat) (x:Zcs (List ByteArray × Et)),f≤n→l.length≤4096→ns.length≤4096→Zhb r1→w.grownBy u0 (some p)→Zbg u0 p r1→Blk u0 p1 [.pointer (some ⟨p,0,none⟩)] 84→Zjq p3 o u0 ns l→Zsx rec ns f r1=some x →
   Calls Tryz.prog F #[.pointer (some ⟨p3,0,none⟩),.pointer (some ⟨p1,0,none⟩)] u0 fun e w'=>Zyr w p p1 p3 x (fun z w'=>Zjq p3 o w' z.1 (l ++ [z.2])) e w')
 (r:List Tok) (hok:Zhb r) (hg:w.grownBy u (some p)) (hd:Zbg u p r) (hbx:Blk u p1 [.pointer (some ⟨p,0,none⟩)] 84) (hI:Zjq p3 o u [] []) (f:Nat) (hf:f≤n+1) (y:Zcs Et) (hy:Zqe (pr f) rec r=some y) :
 Calls Tryz.prog 207 #[.pointer (some ⟨p,0,none⟩),.string (str (Zdf rec)),.func (.func F) #[] #[.pointer (some ⟨p3,0,none⟩),.pointer (some ⟨p1,0,none⟩)]] u fun e w'=>Zyq w p p3 o rec y e w':=by
 have hbu:=Zac u (.cells #[.string (str (Zdf rec))] 9)
 have hgu:=Zad hbu (some p)
 have hnx:=Zxl 4 [Zdf rec] (some ⟨u.heap.size,0,none⟩) 1 p _ r (hd.below hbu) (show 1≤4096 by decide) (Zwx u (Zdf rec)) hok
 have hnx2:Calls Tryz.prog 127 #[.pointer (some ⟨p,0,none⟩),.int .u8 4,.slice (some ⟨u.heap.size,0,none⟩) 1 1] (u.alloc (.cells #[.string (str (Zdf rec))] 9)) fun e w'=>e=.returned (.bool (nxB 4 [Zdf rec] r))∧w'=u.alloc (.cells #[.string (str (Zdf rec))] 9):=hnx
 have hd1:=hd.below hbu
 have hg1:=hg.trans hgu
 have hbx1:=hbx.below hbu
 have hI1:=hI.grown hgu (by omega)
 obtain ⟨u1,hu1⟩:=Zaf (u.alloc (.cells #[.string (str (Zdf rec))] 9))
 rw[←hu1.out]at hnx2 hd1 hg1 hbx1 hI1
 have hstart:(nxB 4 [Zdf rec] r=true∧y=finR rec [] [] r)∨(nxB 4 [Zdf rec] r=false∧∃ f,f≤n+1∧pr f (.items rec [] []) r=some y):=by
  rcases brk_go hy with ⟨h1,h2⟩|⟨h1,h2⟩
  · exact .inl ⟨h1,h2⟩
  · exact .inr ⟨h1,f,hf,h2⟩
 have HST:=Zai hstart
 obtain ⟨cl,hcl⟩:=Zaf (Zdf rec)
 rw[←hcl.out]at hnx2 hu1
 rw[←hcl.out]
 clear hnx hbu hgu hd hg hbx hI hy hstart
 go_enter Tryz.func207,Tryz.ntmps207
 go_wp2_with (first|(at_builtin;fail))
 rw[←hu1.out]
 refine hnx2.mono ?_
 clear hnx2
 rintro e9 w1 ⟨rfl,hw1⟩
 replace hw1:=hw1.symm
 subst hw1
 have hnot:=not_run (nxB 4 [cl] r)
 go_wp2_with (first|(at_builtin;fail))
 clear hu1
 obtain ⟨b0,hb0⟩:=Zaf (!nxB 4 [cl] r)
 rw[←hb0.out]
 have HST2:Hid ((b0=false∧y=finR rec [] [] r)∨(b0=true∧∃ f,f≤n+1∧pr f (.items rec [] []) r=some y)):=by
  refine Zai ?_
  rw[hb0.out,hcl.out]
  rcases HST.out with ⟨h1,h2⟩|⟨h1,h2⟩
  · exact .inl ⟨by rw[h1];rfl,h2⟩
  · exact .inr ⟨by rw[h1];rfl,h2⟩
 clear HST hb0 hnot
 go_loopw [6] (fun t wr=>∃ (b:Bool) (ns:List ByteArray) (l:List Et) (r:List Tok),t=.bool b∧Zhb r∧Hid ((b=false∧y=finR rec ns l r)∨(b=true∧∃ f,f≤n+1∧pr f (.items rec ns l) r=some y))∧w.grownBy wr (some p)∧Zbg wr p r∧Blk wr p1 [.pointer (some ⟨p,0,none⟩)] 84∧Zjq p3 o wr ns l∧l.length+r.length≤4096∧ns.length+r.length≤4096∧Hid (∀ q ∈ ns,q.size≤Zbq)) (fun _ wr=>Zxn wr p)
 case atStart=>exact ⟨b0,[],[],r,rfl,hok,HST2,hg1,hd1,hbx1,hI1,by simpa using hok.1,by simpa using hok.1,fun q hq=>by cases hq⟩
 case round=>
  obtain ⟨b,ns,l,r',rfl,hokr,HS,hg,hd,hbx,hI,hll,hnl,HNS⟩:=hrel
  clear HST2 hg1 hd1 hbx1 hI1
  rcases HS.out with ⟨rfl,hq⟩|⟨rfl,hgo⟩
  · have HQ:=Zai hq
    have hsn:=Zmu (Zdf rec) p wr r' hd hokr
    rw[←hcl.out]at hsn
    clear hq HS
    go_wp2_with (first|(at_builtin;fail))
    refine hsn.mono ?_
    clear hsn
    rintro e9 w2 ⟨hg2,h⟩
    cases hs:Zbr (Zdf rec) r' with
    | error e0=>
      rw[hcl.out,hs]at h
      obtain ⟨h2,rfl⟩:=h
      have hy:y=.error e0:=by rw[HQ.out];unfold finR;rw[hs]
      subst hy
      exact ⟨rfl,hg.trans hg2,h2,rfl⟩
    | ok z=>
      obtain ⟨⟨⟩,r3⟩:=z
      rw[hcl.out,hs]at h
      obtain ⟨h2,v,rfl,rfl⟩:=h
      have hy:y=.ok (.mk (kindR rec) 0 noS noS ns l,r3):=by rw[HQ.out];unfold finR;rw[hs]
      subst hy
      have hI2:=hI.grown hg2 (by omega)
      clear HQ hs
      go_wp2_with (first|(at_builtin;fail))
      refine bodyPost_ret (v:=.tuple #[]) (by simp[results,Tryz.results207,go_sem]) rfl ?_
      exact ⟨hg.trans hg2,rfl,h2,ns,l,rfl,hI2,by omega,by omega,HNS.out⟩
  · obtain ⟨f1,x,hf1,hx,hrest⟩:=item_go hgo hokr
    have hit:=hitem wr ns l r' f1 x hf1 (by omega) (by omega) hokr hg hd hbx hI hx
    have HD:=Zai hd
    have HL1:=Zai hll
    have HN1:=Zai hnl
    have HXX:=Zai hrest
    have HOK:=Zai hokr
    clear hgo hx HS hrest hll hnl
    go_wp2_with (first|(at_builtin;fail))
    refine hit.mono ?_
    clear hit
    rintro e9 w2 ⟨hg2,h⟩
    cases x with
    | error e0=>
      have hy:y=.error e0:=HXX.out
      subst hy
      obtain ⟨h2,rfl⟩:=h
      exact ⟨rfl,hg2,h2,rfl⟩
    | ok z=>
      obtain ⟨⟨ns2,e2⟩,r2⟩:=z
      obtain ⟨rfl,hd2,hbx2,hI2⟩:=h
      obtain ⟨x1,x2,x3,x4,x5⟩:=HXX.out
      have hok2:=HOK.out.sfx x1
      have hhas:=Zlw [44] p w2 r2 hd2 hok2
      have hhas2:Calls Tryz.prog 171 #[.pointer (some ⟨p,0,none⟩),.string ⟨#[44]⟩] w2 fun e w'=>e=.returned (.bool (nxB 4 [[44]] r2))∧Zbg w' p (Zct 4 [[44]] r2)∧w2.grownBy w' (some p):=hhas
      have HX2:=Zai x2
      have HX3:=Zai x3
      have HX4:=Zai x4
      have HX5:=Zai x5
      clear hhas x1 x2 x3 x4 x5 HXX hd hg hbx hI
      go_wp2_with (first|(at_builtin;fail))
      refine hhas2.mono ?_
      clear hhas2
      rintro e9 w3 ⟨rfl,hd3,hg3⟩
      have hgf:=hg2.trans hg3
      have hbx3:=hbx2.grown hg3 (by omega)
      have hI3:=hI2.grown hg3 (by omega)
      obtain ⟨b3,hb3⟩:=Zaf (nxB 4 [[44]] r2)
      obtain ⟨r3,hr3⟩:=Zaf (Zct 4 [[44]] r2)
      rw[←hr3.out]at hd3
      rw[←hb3.out]
      have HL3:Hid (r3.length≤r2.length∧r3 <:+ r2):=by
       refine Zai ?_
       rw[hr3.out]
       unfold Zct
       split
       · cases r2 with
         | nil=>exact ⟨Nat.le_refl _,List.suffix_refl _⟩
         | cons t q=>exact ⟨Nat.le_succ _,List.suffix_cons _ _⟩
       · exact ⟨Nat.le_refl _,List.suffix_refl _⟩
      have HST3:Hid ((b3=false∧y=finR rec ns2 (l ++ [e2]) r3)∨(b3=true∧∃ f,f≤n+1∧pr f (.items rec ns2 (l ++ [e2])) r3=some y)):=by
       refine Zai ?_
       rw[hb3.out,hr3.out]
       rcases HX5.out with ⟨q1,q2⟩|⟨q1,q2⟩
       · exact .inr ⟨q1,f1,by omega,q2⟩
       · exact .inl ⟨q1,by rw[Zkw q1];exact q2⟩
      clear HX5 hb3 hr3 hd2 hbx2 hI2 hg2 hg3
      go_wp2_with (first|(at_builtin;fail))
      go_roundw
      case rel=>exact ⟨b3,ns2,l ++ [e2],r3,rfl,hok2.sfx HL3.out.2,HST3,hgf,hd3,hbx3,hI3,by rw[List.length_append,List.length_singleton];have:=HL3.out.1;have:=HX2.out;have:=HL1.out;omega,by have:=HL3.out.1;have:=HX2.out;have q3:ns2.length≤ns.length+1:=HX3.out;have:=HN1.out;omega,HX4.out HNS.out⟩
      case measure=>
       rw[Zdn hd3,Zdn HD.out]
       have:=HL3.out.1
       have:=HX2.out
       omega
def Ztu (F:FuncId) (rec:Bool) (n:Nat):Prop:=∀ f,f≤n→∀ (p:Nat) (w0 w:World) (r:List Tok) (y:Zcs Et),Zbg w p r→Zhb r→Env w0 p w→Zqe (pr f) rec r=some y →
 Calls Tryz.prog F #[.pointer (some ⟨p,0,none⟩)] w fun e w'=>Zhk p w y (ExV w.heap.size) e w'
theorem wrC_own {w:World} {base n c size:Nat} {e:TypeId} {A:Option Addr} {xs:List Value} (h:w.ownsRow base e size (.slice A n c) n xs):WrC w A (n * size):=by
 rcases h.2 with ⟨q,rfl⟩|⟨g,cap,cur,q,_⟩
 · cases q
   exact WrC.nil _ _
 · cases q
   intro a ha
   cases ha
   refine ⟨rfl,fun j hj=>?_⟩
   rw[Nat.zero_add]
   refine ⟨?_,h.frozenAt j⟩
   rw[h.cellAt j hj,List.getElem?_eq_getElem (by rw[h.1];exact hj)]
   rfl
theorem Zvm {p3 o:Nat} {u:World} {ns:List ByteArray} {l:List Et} (h:Zjq p3 o u ns l) (ho:o < 256) (hl:l.length≤4096) (hn:ns.length≤4096) (hq:∀ q ∈ ns,q.size≤Zbq) :
 ∃ re:List Value,Blk u p3 re 26∧EAt u (Nw (p3+1) u) (.mk o 0 noS noS ns l) re∧WrE u re:=by
 obtain ⟨vn,vk,rows,h1,h2,h3,h4,h5⟩:=h
 obtain ⟨A,c,rfl,a1,a2,a3,a4⟩:=Zek.of_own h2
 obtain ⟨B,d,rfl,b1,b2,b3,b4⟩:=Zek.of_own h3
 refine ⟨_,h1,?_,⟨fun A' m c' q=>?_,fun A' m c' q=>?_⟩⟩
 · rw[EAt]
   refine ⟨A,c,B,d,rows,rfl,⟨ho,by omega,by omega,by decide,by decide⟩,?_,hq,⟨by unfold Zbq;omega,a1,by unfold Zbq;omega,b1⟩,⟨fun a q=>?_,fun a q=>?_⟩,b3,Zjm h5 (fun x r _ hx=>hx.imp (fun b hb=>⟨by have:=hb.1;omega,hb.2.1⟩))⟩
   · exact a3
   · subst q
     exact ⟨a4 a rfl,(Zht h2 a.block rfl).2⟩
   · subst q
     exact ⟨b4 a rfl,(Zht h3 a.block rfl).2⟩
 · cases q
   have:=wrC_own h2
   rwa [Nat.mul_one]at this
 · cases q
   exact wrC_own h3
set_option maxRecDepth 100000 in
theorem rset_w (n:Nat) (hX:Zla 55 .expr n):Ztu 204 false (n+1):=by
 intro f hf p w0 w r y hr hok hE hy
 have hplt:=hr.lt
 have hb0:=Zac w (.cells #[.pointer (some ⟨p,0,none⟩)] 84)
 have kx:=Blk.new w [.pointer (some ⟨p,0,none⟩)] 84
 obtain ⟨v0,hv0⟩:=Zaf (w.alloc (.cells #[.pointer (some ⟨p,0,none⟩)] 84))
 have hs0:v0.heap.size=w.heap.size+1:=by rw[hv0.out];exact Zkz _ _
 replace kx:Blk v0 w.heap.size [.pointer (some ⟨p,0,none⟩)] 84:=by rw[hv0.out];exact kx
 rw[←hv0.out]at hb0
 have hb1:=Zac v0 (.cells Zag.toArray 26)
 have k2:=Blk.new v0 Zag 26
 obtain ⟨v1,hv1⟩:=Zaf (v0.alloc (.cells Zag.toArray 26))
 have hs1:v1.heap.size=w.heap.size+1+1:=by rw[hv1.out,Zkz,hs0]
 replace k2:Blk v1 (w.heap.size+1) Zag 26:=by rw[hv1.out,←hs0];exact k2
 rw[←hv1.out]at hb1
 have hb2:=Zac v1 (.cells #[.int .u8 6,.int .i64 0,.string ⟨#[]⟩,.string ⟨#[]⟩,.slice none 0 0,.slice none 0 0] 26)
 have k3:=Blk.new v1 (sRow 6 (.slice none 0 0) (.slice none 0 0)) 26
 obtain ⟨u,hu⟩:=Zaf (v1.alloc (.cells #[.int .u8 6,.int .i64 0,.string ⟨#[]⟩,.string ⟨#[]⟩,.slice none 0 0,.slice none 0 0] 26))
 replace k3:Blk u (w.heap.size+1+1) (sRow 6 (.slice none 0 0) (.slice none 0 0)) 26:=by rw[hu.out,←hs1];exact k3
 rw[←hu.out]at hb2
 have hbv:=hb0.trans (hb1.mono (by omega))
 have hgv:=Zad hbv (some p)
 have hdv:=hr.below hbv
 have hd:=hdv.below hb2
 have hg:=Zad hb2 (some p)
 have kxu:=(kx.below hb1).below hb2
 have hI:Zjq (w.heap.size+1+1) 6 u [] []:=⟨.slice none 0 0,.slice none 0 0,[],k3,World.ownsRow_nil _ _ _ _,World.ownsRow_nil _ _ _ _,fun g q=>(by cases q),by rw[Zdz]⟩
 have hEv:=hE.step hgv
 have hli:=Zup false 208 n v1 w0 u p w.heap.size (w.heap.size+1+1) 6 hplt (by omega) hEv (fun _ _ _=>rfl) (fun u0 ns l r1 f x a1 a2 a3 a4 a5 a6 a7 a8 a9=>by
  rcases itemR_set a9 with ⟨e0,q1,rfl⟩|⟨e,r2,q1,rfl⟩
  · exact (rset1_w n hX v1 w0 u0 p w.heap.size (w.heap.size+1+1) 6 ns l r1 hplt (by omega) (by omega) a2 hEv a4 a5 a6 a7 a8 f a1 _ q1).mono (fun e w' h=>h)
  · exact (rset1_w n hX v1 w0 u0 p w.heap.size (w.heap.size+1+1) 6 ns l r1 hplt (by omega) (by omega) a2 hEv a4 a5 a6 a7 a8 f a1 _ q1).mono (fun e w' h=>h)) r hok hg hd kxu hI f hf y hy
 have hli2:Calls Tryz.prog 207 #[.pointer (some ⟨p,0,none⟩),.string ⟨#[93]⟩,.func (.func 208) #[] #[.pointer (some ⟨w.heap.size+1+1,0,none⟩),.pointer (some ⟨w.heap.size,0,none⟩)]] u fun e w'=>Zyq v1 p (w.heap.size+1+1) 6 false y e w':=hli
 have hul:Hid (u=((w.alloc (.cells #[.pointer (some ⟨p,0,none⟩)] 84)).alloc (.cells #[.int .u8 0,.int .i64 0,.string ⟨#[]⟩,.string ⟨#[]⟩,.slice none 0 0,.slice none 0 0] 26)).alloc (.cells #[.int .u8 6,.int .i64 0,.string ⟨#[]⟩,.string ⟨#[]⟩,.slice none 0 0,.slice none 0 0] 26)):=by refine Zai ?_;rw[hu.out,hv1.out,hv0.out];rfl
 have c0:u.cell? ⟨w.heap.size,0,none⟩=some (.pointer (some ⟨p,0,none⟩)):=kxu.cell 0
 have HS1:=Zai hs1
 clear hli hI hd hbv hb0 hb1 hb2 kx hv0 hv1 hu hy hs0 hs1 k3 hdv
 go_enter Tryz.func204,Tryz.ntmps204
 go_wp2_with (first|(at_builtin;fail))
 try rw[←hul.out]
 refine hli2.mono ?_
 clear hli2 c0
 rintro e9 w1 ⟨hg1,h⟩
 cases y with
 | error e0=>
   obtain ⟨h2,rfl⟩:=h
   exact ⟨rfl,hgv.trans hg1,h2,rfl⟩
 | ok z=>
   obtain ⟨e1,r2⟩:=z
   obtain ⟨rfl,h2,ns,l,rfl,hI,hl4,hn4,hq⟩:=h
   obtain ⟨re,k3,hv,hw⟩:=Zvm hI (by decide) hl4 hn4 hq
   have hlen:=Zby hv
   have k2w:Blk w1 (w.heap.size+1) Zag 26:=k2.grown hg1 (by omega)
   have hgw:=hgv.trans hg1
   have hgr:=Zbc w1 (w.heap.size+1) re.toArray
   go_wp2_with (first
    | (at_builtin;fail)
    | refine wpList_load_row rfl 26 _ rfl _ rfl 26 re.toArray (0,0) _ k3 Tryz.underlying26 rfl (kE6 hlen) ?_
    | refine wpList_store_row rfl 26 _ _ rfl _ re.toArray rfl rfl 26 Zag.toArray k2w (kE6 hlen) (zE6 hlen) (Zas (Zcy hv)) ?_)
   refine bodyPost_ret (Zfz rfl _ rfl (k2w.vrow re) hlen) rfl ?_
   refine ⟨Zaq hgw (by omega) _,h2.row (by omega) _,_,rfl,re,rfl,?_,hw.grown hv hgr (fun b hb=>by have:w.heap.size+1+1+1≤b:=hb.1;omega)⟩
   exact (EAt.up (Q:=fun b=>w.heap.size+1+1+1≤b) hv hgr (fun b hb=>by have:w.heap.size+1+1+1≤b:=hb;omega)).imp (fun b hb=>⟨by have:w.heap.size+1+1+1≤b:=hb.1;omega,hb.2⟩)
set_option maxRecDepth 100000 in
theorem Zuo (n:Nat) (hX:Zla 55 .expr n):Ztu 205 true (n+1):=by
 intro f hf p w0 w r y hr hok hE hy
 have hplt:=hr.lt
 have hb0:=Zac w (.cells #[.pointer (some ⟨p,0,none⟩)] 84)
 have kx:=Blk.new w [.pointer (some ⟨p,0,none⟩)] 84
 obtain ⟨v0,hv0⟩:=Zaf (w.alloc (.cells #[.pointer (some ⟨p,0,none⟩)] 84))
 have hs0:v0.heap.size=w.heap.size+1:=by rw[hv0.out];exact Zkz _ _
 replace kx:Blk v0 w.heap.size [.pointer (some ⟨p,0,none⟩)] 84:=by rw[hv0.out];exact kx
 rw[←hv0.out]at hb0
 have hb1:=Zac v0 (.cells Zag.toArray 26)
 have k2:=Blk.new v0 Zag 26
 obtain ⟨v1,hv1⟩:=Zaf (v0.alloc (.cells Zag.toArray 26))
 have hs1:v1.heap.size=w.heap.size+1+1:=by rw[hv1.out,Zkz,hs0]
 replace k2:Blk v1 (w.heap.size+1) Zag 26:=by rw[hv1.out,←hs0];exact k2
 rw[←hv1.out]at hb1
 have hb2:=Zac v1 (.cells #[.int .u8 7,.int .i64 0,.string ⟨#[]⟩,.string ⟨#[]⟩,.slice none 0 0,.slice none 0 0] 26)
 have k3:=Blk.new v1 (sRow 7 (.slice none 0 0) (.slice none 0 0)) 26
 obtain ⟨u,hu⟩:=Zaf (v1.alloc (.cells #[.int .u8 7,.int .i64 0,.string ⟨#[]⟩,.string ⟨#[]⟩,.slice none 0 0,.slice none 0 0] 26))
 replace k3:Blk u (w.heap.size+1+1) (sRow 7 (.slice none 0 0) (.slice none 0 0)) 26:=by rw[hu.out,←hs1];exact k3
 rw[←hu.out]at hb2
 have hbv:=hb0.trans (hb1.mono (by omega))
 have hgv:=Zad hbv (some p)
 have hdv:=hr.below hbv
 have hd:=hdv.below hb2
 have hg:=Zad hb2 (some p)
 have kxu:=(kx.below hb1).below hb2
 have hI:Zjq (w.heap.size+1+1) 7 u [] []:=⟨.slice none 0 0,.slice none 0 0,[],k3,World.ownsRow_nil _ _ _ _,World.ownsRow_nil _ _ _ _,fun g q=>(by cases q),by rw[Zdz]⟩
 have hEv:=hE.step hgv
 have hli:=Zup true 209 n v1 w0 u p w.heap.size (w.heap.size+1+1) 7 hplt (by omega) hEv (fun _ _ _=>rfl) (fun u0 ns l r1 f x a1 a2 a3 a4 a5 a6 a7 a8 a9=>rrec1_w n hX v1 w0 u0 p w.heap.size (w.heap.size+1+1) 7 ns l r1 hplt (by omega) (by omega) a2 a3 hEv a4 a5 a6 a7 a8 f a1 x a9) r hok hg hd kxu hI f hf y hy
 have hli2:Calls Tryz.prog 207 #[.pointer (some ⟨p,0,none⟩),.string ⟨#[125]⟩,.func (.func 209) #[] #[.pointer (some ⟨w.heap.size+1+1,0,none⟩),.pointer (some ⟨w.heap.size,0,none⟩)]] u fun e w'=>Zyq v1 p (w.heap.size+1+1) 7 true y e w':=hli
 have hul:Hid (u=((w.alloc (.cells #[.pointer (some ⟨p,0,none⟩)] 84)).alloc (.cells #[.int .u8 0,.int .i64 0,.string ⟨#[]⟩,.string ⟨#[]⟩,.slice none 0 0,.slice none 0 0] 26)).alloc (.cells #[.int .u8 7,.int .i64 0,.string ⟨#[]⟩,.string ⟨#[]⟩,.slice none 0 0,.slice none 0 0] 26)):=by refine Zai ?_;rw[hu.out,hv1.out,hv0.out];rfl
 have c0:u.cell? ⟨w.heap.size,0,none⟩=some (.pointer (some ⟨p,0,none⟩)):=kxu.cell 0
 have HS1:=Zai hs1
 clear hli hI hd hbv hb0 hb1 hb2 kx hv0 hv1 hu hy hs0 hs1 k3 hdv
 go_enter Tryz.func205,Tryz.ntmps205
 go_wp2_with (first|(at_builtin;fail))
 try rw[←hul.out]
 refine hli2.mono ?_
 clear hli2 c0
 rintro e9 w1 ⟨hg1,h⟩
 cases y with
 | error e0=>
   obtain ⟨h2,rfl⟩:=h
   exact ⟨rfl,hgv.trans hg1,h2,rfl⟩
 | ok z=>
   obtain ⟨e1,r2⟩:=z
   obtain ⟨rfl,h2,ns,l,rfl,hI,hl4,hn4,hq⟩:=h
   obtain ⟨re,k3,hv,hw⟩:=Zvm hI (by decide) hl4 hn4 hq
   have hlen:=Zby hv
   have k2w:Blk w1 (w.heap.size+1) Zag 26:=k2.grown hg1 (by omega)
   have hgw:=hgv.trans hg1
   have hgr:=Zbc w1 (w.heap.size+1) re.toArray
   go_wp2_with (first
    | (at_builtin;fail)
    | refine wpList_load_row rfl 26 _ rfl _ rfl 26 re.toArray (0,0) _ k3 Tryz.underlying26 rfl (kE6 hlen) ?_
    | refine wpList_store_row rfl 26 _ _ rfl _ re.toArray rfl rfl 26 Zag.toArray k2w (kE6 hlen) (zE6 hlen) (Zas (Zcy hv)) ?_)
   refine bodyPost_ret (Zfz rfl _ rfl (k2w.vrow re) hlen) rfl ?_
   refine ⟨Zaq hgw (by omega) _,h2.row (by omega) _,_,rfl,re,rfl,?_,hw.grown hv hgr (fun b hb=>by have:w.heap.size+1+1+1≤b:=hb.1;omega)⟩
   exact (EAt.up (Q:=fun b=>w.heap.size+1+1+1≤b) hv hgr (fun b hb=>by have:w.heap.size+1+1+1≤b:=hb;omega)).imp (fun b hb=>⟨by have:w.heap.size+1+1+1≤b:=hb.1;omega,hb.2⟩)
end Go.Proofs.YtnhooehmcggmdaaGreatDoor
