/- Parts of a proof about the given program: XLbls, XBare0. -/
import Derived.Sort.OwnSorted
import Derived.Test.YtnhooehmcggmdaaGreatDoorZ37
import Derived.Test.YtnhooehmcggmdaaGreatDoorZ23
import Derived.Test.YtnhooehmcggmdaaGreatDoorZ38
import Derived.Test.YtnhooehmcggmdaaGreatDoorZ12
import Derived.Test.YtnhooehmcggmdaaGreatDoorZ03
namespace Go.Proofs.YtnhooehmcggmdaaGreatDoor
set_option maxHeartbeats 16000000
set_option linter.unusedVariables false
set_option linter.unusedSimpArgs false
set_option linter.unusedSectionVars false
open Go.RowKit Go.Sort
theorem texts_lt {w:World} {A:Option Addr} {ns:List ByteArray} (h:Zib w A ns):∀ a,A=some a→a.block < w.heap.size∨ns=[]:=by
 intro a ha
 by_cases h0:ns=[]
 · exact .inr h0
 · have hp:0 < ns.length:=List.length_pos_iff.2 h0
   obtain ⟨b,o,e,hc⟩:=h.at_ hp
   rw[ha]at e
   cases e
   exact .inl (World.block_lt_of_cell? w _ hc)
def Zpd (l:List (List UInt8)):List (List UInt8):=l.mergeSort fun x y=>decide (x≤y)
theorem Zpc (l:List (List UInt8)):(Zpd l).length=l.length:=(List.mergeSort_perm _ _).length_eq
theorem Zyg (l:List (List UInt8)):l.map encStr=Zfo (l.map str):=by
 unfold Zfo
 rw[List.map_map]
 rfl
theorem enc_data (l:List ByteArray):(l.map fun x=>x.data.toList).map encStr=Zfo l:=by
 rw[Zyg,List.map_map]
 congr 1
 rw[show (str ∘ fun x:ByteArray=>x.data.toList)=id from funext Zdh,List.map_id]
theorem sortS_w (base:Nat) (v:Value) (ns:List ByteArray) (w:World) (h:w.ownsRow base 9 1 v ns.length (Zfo ns)) (hn:ns.length≤140737488351232) :
 Calls Tryz.prog 147 #[v] w fun e w'=>e=.returned (.tuple #[])∧w'.ownsRow base 9 1 v ns.length (Zfo ((Zpd (ns.map (·.data.toList))).map str))∧w.grownBy w' v.ownBlock:=by
 rcases h.2 with ⟨rfl,h0⟩|⟨g,cap,cur,rfl,hg,hb,h1,h2,h3,h4⟩
 · have:ns=[]:=List.eq_nil_of_length_eq_zero h0
   subst this
   refine (Tryz.slices_Sort_string_none none 0 w).mono ?_
   rintro e w' ⟨rfl,rfl⟩
   exact ⟨rfl,by simpa [Zpd] using h,⟨rfl,rfl,rfl,Nat.le_refl _,fun _ _ _=>rfl⟩⟩
 · have h4':cur.toList.take (ns.map fun x=>x.data.toList).length=(ns.map fun x=>x.data.toList).map encStr:=by
    rw[enc_data,List.length_map,←h4,Nat.mul_one]
   have hH:=holds_of_block (ss:=ns.map fun x=>x.data.toList) hb h4'
   have hs:=Tryz.slices_Sort_string g 0 cap (ns.map fun x=>x.data.toList) w hH (Array.getElem?_eq_some_iff.1 hb).1 (by rw[List.length_map];omega)
   rw[List.length_map]at hs
   refine hs.mono ?_
   rintro e w' ⟨rfl,n,os,rfl⟩
   have hl:(Zpd (ns.map (·.data.toList))).length=(ns.map fun x=>x.data.toList).length:=Zpc _
   have ho:=ownsRow_sorted (n:=n) (os:=os) hl hg hb (by rw[List.length_map];exact h1) h2 h3
   rw[Zyg,List.length_map]at ho
   exact ⟨rfl,ho,grownBy_sorted _⟩
theorem compactS_w (base:Nat) (v:Value) (ls:List (List UInt8)) (w:World) (h:w.ownsRow base 9 1 v ls.length (Zfo (ls.map str))) (hn:ls.length≤140737488351232) :
 Calls Tryz.prog 123 #[v] w fun e w'=>(∃ A c,e=.returned (.slice A (Lib.compact ls).length c))∧w.grownBy w' v.ownBlock:=by
 rcases h.2 with ⟨rfl,h0⟩|⟨g,cap,cur,rfl,hg,hb,h1,h2,h3,h4⟩
 · have:ls=[]:=List.eq_nil_of_length_eq_zero h0
   subst this
   refine (Tryz.slices_Compact_string_empty none 0 w).mono ?_
   rintro e w' ⟨rfl,rfl⟩
   exact ⟨⟨none,0,rfl⟩,⟨rfl,rfl,rfl,Nat.le_refl _,fun _ _ _=>rfl⟩⟩
 · have hH:=holds_of_block (ss:=ls) hb (by rw[Zyg,←h4,Nat.mul_one])
   have hs:=Tryz.slices_Compact_string g 0 cap ls w hH (by omega) h1
   refine hs.mono ?_
   rintro e w' ⟨rfl,q,rfl⟩
   refine ⟨⟨_,_,rfl⟩,?_⟩
   have:=grownBy_sorted (w:=w) (g:=g) (n:=q) (os:=#[]) (Lib.compact ls ++ List.replicate (ls.length - (Lib.compact ls).length) []).toArray
   rw[grow_empty]at this
   exact this
theorem own_base {w:World} {base:Nat} {e:TypeId} {size n:Nat} {v:Value} {xs:List Value} (h:w.ownsRow base e size v n xs):∀ j,v.ownBlock=some j→base≤j:=by
 intro j hj
 rcases h.2 with ⟨rfl,_⟩|⟨g,cap,cur,rfl,hg,_⟩
 · simp[Value.ownBlock]at hj
 · have:g=j:=by simpa [Value.ownBlock] using hj
   omega
set_option maxRecDepth 100000 in
theorem sorted_in (n:Nat) (hn:5≤n) (Bs:Nat) (A:Option Addr) (ns:List ByteArray) (cap:Nat) (hreach:ns.length * 16≤140737488351232) (w:World) (hBs:Bs < w.heap.size) (hA:∀ a,A=some a→a.block < w.heap.size∨ns=[])
 (hc:w.cell? ⟨Bs,0,none⟩=some (.slice A ns.length cap)) (hT:Zib w A ns) :
 CallsIn Fence.wide n Tryz.prog 119 #[.func (.func 148) #[] #[.pointer (some ⟨Bs,0,none⟩)]] w fun e W'=>∃ v,e=.returned v∧W'.ownsRow w.heap.size 9 1 v ns.length (Zfo ((Zpd (ns.map (·.data.toList))).map str))∧Below w.heap.size w W':=by
 have h1:1≤n:=by omega
 have hF1:Fence.wide.fn 146:=trivial
 have hF2:Fence.wide.fn 147:=trivial
 have cA:=collect_in (n - 1) (by omega) Bs A ns cap hreach w hBs hA hc hT
 refine callsIn_of_wp Tryz.func119 rfl trivial ?_ rfl
 simp only[Tryz.ntmps119,List.size_toArray,List.length_cons,List.length_nil,Nat.reduceAdd,Nat.reduceSub,Array.replicate_succ,Array.replicate_zero,List.push_toArray,List.append_toArray,List.nil_append,List.cons_append]
 gi_wp2_with (first
  | (gi_at_call 146;go_loud (refine cA.mono ?_;clear cA;rintro e w1 ⟨v,rfl,hrow,hb⟩;have cS:=fun k=>(callsIn_wide (n:=k)).2 (sortS_w _ v ns w1 hrow (by omega))))
  | (gi_at_call 147;refine (cS _).mono ?_;clear cS;rintro e w2 ⟨rfl,hrow2,hg⟩))
 go_ret
 exact ⟨v,rfl,hrow2,hb.grown hg hb.size (fun j hj=>own_base hrow j hj)⟩
set_option maxRecDepth 100000 in
theorem noLab_w (s:ByteArray) (w:World) (hs:s.size≤140737488351232) (htab:Tb w) :
 Calls Tryz.prog 122 #[.string s] w fun e w'=>e=.returned (.bool (!Zoe s))∧Below w.heap.size w w':=by
 have h1:=label_w s w hs htab
 obtain ⟨d,hd⟩:=Zaf (Zoe s)
 rw[←hd.out]at h1 ⊢
 clear hd
 go_enter Tryz.func122,Tryz.ntmps122
 go_wp2_with fail
 refine h1.mono ?_
 rintro e w1 ⟨rfl,hb⟩
 go_wp2_with fail
 go_ret
 exact ⟨rfl,hb⟩
def Zyb (s:ByteArray):Bool:=!Zoe s
theorem anyl_hit {l:List ByteArray} {k:Nat} {x:ByteArray} (h:l[k]?=some x) (hx:Zyb x=true):l.any Zyb=true:=List.any_eq_true.2 ⟨x,List.mem_of_getElem? h,hx⟩
theorem anyl_none {l:List ByteArray} (h:∀ j < l.length,∀ x,l[j]?=some x→Zyb x=false):l.any Zyb=false:=by
 rw[List.any_eq_false]
 intro x hx
 obtain ⟨j,hj,e⟩:=List.mem_iff_getElem.1 hx
 rw[h j hj x (by rw[←e];exact List.getElem?_eq_getElem hj)]
 exact Bool.false_ne_true
set_option maxRecDepth 100000 in
theorem idxLab_w (l:List ByteArray) (w:World) (b o c:Nat) (hl:l.length≤140737488351232) (hsz:∀ x ∈ l,x.size≤140737488351232) (htab:Tb w) (hc:∀ j x,l[j]?=some x→w.cell? ⟨b,o+j,none⟩=some (.string x)) :
 Calls Tryz.prog 149 #[.slice (some ⟨b,o,none⟩) l.length c,.func (.func 122) #[] #[]] w fun e w'=>(∃ i:Int,e=.returned (.int .i64 i)∧decide (0≤i)=l.any Zyb)∧Below w.heap.size w w':=by
 have eg:∀ args w,(callFunc 122 args).run Tryz.prog w=.ok (.enter 122 args) w:=fun _ _=>by kernel_rfl
 go_enter Tryz.func149,Tryz.ntmps149
 go_wp2
 go_loopw [5,8] (fun _ i wr=>∃ k:Nat,k≤l.length∧i=.int .i64 k∧(∀ j < k,∀ x,l[j]?=some x→Zyb x=false)∧Below w.heap.size w wr) (fun _ i _=>l.length - (intOf i).toNat)
 case atStart=>exact ⟨0,by omega,rfl,fun j hj=>absurd hj (by omega),Below.refl _ _⟩
 case round=>
  obtain ⟨k,hk,rfl,hno,hbw⟩:=hrel
  by_cases hlt:k < l.length
  · have hi0:(0:Int)≤(k:Int):=by omega
    have hi1:(k:Int) < (l.length:Int):=by omega
    obtain ⟨x,hx⟩:∃ x,l[k]?=some x:=⟨l[k],List.getElem?_eq_getElem hlt⟩
    have hcell:=Zcg (hc k x hx) hbw
    have hx2:=fun (W:World) (hW:Below w.heap.size w W)=>noLab_w x W (hsz x (List.mem_of_getElem? hx)) (htab.below hW)
    have hq0:Zyb x=!Zoe x:=rfl
    have HX:=Zai hx
    clear hx hc
    rw[←hq0]at hx2
    clear hq0
    cases hq:Zyb x with
    | true=>
      rw[hq]at hx2
      go_wp2_with (go_at_fn 122;refine (hx2 _ hbw).mono ?_;rintro e w1 ⟨rfl,hb⟩)
      go_ret
      exact ⟨⟨_,rfl,by rw[anyl_hit HX.out hq];exact decide_eq_true hi0⟩,hbw.trans (hb.mono hbw.size)⟩
    | false=>
      rw[hq]at hx2
      go_wp2_with (go_at_fn 122;refine (hx2 _ hbw).mono ?_;rintro e w1 ⟨rfl,hb⟩)
      go_roundw
      case rel=>
       refine ⟨k+1,by omega,by go_num,fun j hj y hy=>?_,hbw.trans (hb.mono hbw.size)⟩
       by_cases e:j=k
       · subst e;have hx:=HX.out;rw[hx]at hy;cases hy;exact hq
       · exact hno j (by omega) y hy
      case measure=>simp[intOf];omega
  · have hk2:k=l.length:=by omega
    have hi1:¬ (k:Int) < (l.length:Int):=by omega
    go_wp2_with (go_quiet (fail))
    go_ret
    exact ⟨⟨_,rfl,by rw[anyl_none (by rw[←hk2];exact hno)];rfl⟩,hbw⟩
set_option maxRecDepth 100000 in
theorem idxLab0_w (w:World) (A:Option Addr) (c:Nat) :
 Calls Tryz.prog 149 #[.slice A 0 c,.func (.func 122) #[] #[]] w fun e w'=>(∃ i:Int,e=.returned (.int .i64 i)∧decide (0≤i)=([]:List ByteArray).any Zyb)∧Below w.heap.size w w':=by
 go_enter Tryz.func149,Tryz.ntmps149
 go_wp2
 go_loopw [5,8] (fun _ i wr=>i=.int .i64 0∧Below w.heap.size w wr) (fun _ i _=>0)
 case atStart=>exact ⟨rfl,Below.refl _ _⟩
 case round=>
  obtain ⟨rfl,hbw⟩:=hrel
  go_wp2_with (go_quiet (fail))
  go_ret
  exact ⟨⟨_,rfl,rfl⟩,hbw⟩
set_option maxRecDepth 100000 in
theorem hasLab_w (l:List ByteArray) (w:World) (A:Option Addr) (c:Nat) (hl:l.length≤140737488351232) (hsz:∀ x ∈ l,x.size≤140737488351232) (htab:Tb w) (hT:Zib w A l) :
 Calls Tryz.prog 121 #[.slice A l.length c,.func (.func 122) #[] #[]] w fun e w'=>e=.returned (.bool (l.any Zyb))∧Below w.heap.size w w':=by
 have h1:Calls Tryz.prog 149 #[.slice A l.length c,.func (.func 122) #[] #[]] w fun e w'=>(∃ i:Int,e=.returned (.int .i64 i)∧decide (0≤i)=l.any Zyb)∧Below w.heap.size w w':=by
  by_cases h0:l=[]
  · subst h0
    exact idxLab0_w w A c
  · obtain ⟨b,o,rfl,hc⟩:=hT.2 (by intro e;exact h0 (List.map_eq_nil_iff.1 e))
    exact idxLab_w l w b o c hl hsz htab (fun j x hx=>hc j _ (by unfold Zfo;rw[List.getElem?_map,hx];rfl))
 obtain ⟨d,hd⟩:=Zaf (l.any Zyb)
 rw[←hd.out]at h1 ⊢
 obtain ⟨m,hm⟩:=Zaf l.length
 rw[←hm.out]at h1 ⊢
 clear hd hm
 go_enter Tryz.func121,Tryz.ntmps121
 go_wp2_with fail
 refine h1.mono ?_
 rintro e w1 ⟨⟨i,rfl,hi⟩,hb⟩
 cases d with
 | true=>
   have h0:(0:Int)≤i:=of_decide_eq_true hi
   go_wp2_with fail
   go_ret
   exact ⟨rfl,hb⟩
 | false=>
   have h0:¬ (0:Int)≤i:=of_decide_eq_false hi
   go_wp2_with fail
   go_ret
   exact ⟨rfl,hb⟩
theorem labsB_eq (ns:List ByteArray):Zna ns=(!(ns.any Zyb) && decide ((Lib.compact (Zpd (ns.map (·.data.toList)))).length=ns.length)):=by
 unfold Zna
 congr 1
 · rw[Bool.eq_iff_iff,List.all_eq_true,Bool.not_eq_true',List.any_eq_false]
   unfold Zyb
   constructor
   · intro h x hx e
     rw[h x hx]at e
     cases e
   · intro h x hx
     have:=h x hx
     simpa using this
 · have:=Ztl (ns.map (·.data.toList))
   rw[List.length_map]at this
   exact decide_eq_decide.2 this.symm
set_option maxRecDepth 100000 in
theorem labels_w (ns:List ByteArray) (A:Option Addr) (c:Nat) (w:World) (hreach:ns.length * 16≤140737488351232) (hsz:∀ x ∈ ns,x.size≤140737488351232) (htab:Tb w) (hT:Zib w A ns) :
 Calls Tryz.prog 87 #[.slice A ns.length c] w fun e w'=>e=.returned (.bool (Zna ns))∧Below w.heap.size w w':=by
 have hmf:∀ fn first cap w,(Instr.makeFunc fn first cap).run Tryz.prog w=.ok (.func fn first cap) w:=fun _ _ _ _=>rfl
 have hA:=texts_lt hT
 have hb0:=Zac w (.cells #[.slice A ns.length c] 23)
 have k0:=Blk.new w [.slice A ns.length c] 23
 have hV:=vals_w A ns.length c w
 obtain ⟨W,hW⟩:=Zaf (w.alloc (.cells #[.slice A ns.length c] 23))
 have hsW:W.heap.size=w.heap.size+1:=by rw[hW.out];show (w.heap.push _).size=_;exact Array.size_push _
 change Blk (w.alloc (.cells #[.slice A ns.length c] 23)) _ _ _ at k0
 rw[←hW.out]at hb0 k0 hV
 have hS:=(callsIn_wide (n:=5)).1 (sorted_in 5 (by omega) w.heap.size A ns c hreach W (by omega) (fun a ha=>(hA a ha).imp (fun h=>by omega) id) (k0.cell 0) (hT.below hb0))
 have hC:=fun (W2:World) (h2:Below w.heap.size w W2)=>hasLab_w ns W2 A c (by omega) hsz (htab.below h2) (hT.below h2)
 have hP:=fun (v:Value) (W2:World) (h:W2.ownsRow W.heap.size 9 1 v (Zpd (ns.map (·.data.toList))).length (Zfo ((Zpd (ns.map (·.data.toList))).map str)))=>compactS_w W.heap.size v (Zpd (ns.map (·.data.toList))) W2 h (by rw[Zpc,List.length_map];omega)
 have hsl:(Zpd (ns.map (·.data.toList))).length=ns.length:=by rw[Zpc,List.length_map]
 rw[hsl]at hP
 have hL:=labsB_eq ns
 obtain ⟨R,HR⟩:=Zaf (Zna ns)
 obtain ⟨d,hd⟩:=Zaf (ns.any Zyb)
 obtain ⟨m,hm⟩:=Zaf ns.length
 obtain ⟨q,hq⟩:=Zaf (Lib.compact (Zpd (ns.map (·.data.toList)))).length
 rw[←HR.out,←hd.out,←hm.out,←hq.out]at hL
 rw[←HR.out,←hm.out]
 simp only[←hd.out,←hm.out]at hC
 simp only[←hm.out,←hq.out]at hP
 rw[←hm.out]at hS hV
 have HL:=Zai hL
 clear hL HR hd hm hq hsl hreach hsz hT hA k0 hW
 go_enter Tryz.func87,Tryz.ntmps87
 go_wp2_with (first|(at_builtin;fail))
 refine hV.mono ?_
 clear hV
 rintro e w1 ⟨rfl,rfl⟩
 go_wp2_with (first|(at_builtin;fail))
 refine hS.mono ?_
 clear hS
 rintro e w2 ⟨v,rfl,hrow,hb2⟩
 have hb02:Below w.heap.size w w2:=bt hb0 hb2
 go_wp2_with (first|(at_builtin;fail))
 refine (hC w2 hb02).mono ?_
 clear hC
 rintro e w3 ⟨rfl,hb3⟩
 have hb03:Below w.heap.size w w3:=bt hb02 hb3
 have hrow3:=Ziu hrow hb3
 cases d with
 | true=>
   go_wp2_with (first|(at_builtin;fail))
   go_ret
   exact ⟨by rw[HL.out];rfl,hb03⟩
 | false=>
   have hcp:=hP v w3 hrow3
   have hob:=own_base hrow3
   clear hP hrow hrow3
   go_wp2_with (first|(at_builtin;fail))
   refine hcp.mono ?_
   clear hcp
   rintro e w4 ⟨⟨A4,c4,rfl⟩,hg⟩
   have hb04:Below w.heap.size w w4:=hb03.grown hg hb03.size (fun j hj=>by have:=hob j hj;omega)
   by_cases hqm:q=m
   · have hi:(q:Int)=(m:Int):=by omega
     have HQ:Hid (R=true):=Zai (by rw[HL.out,decide_eq_true hqm];rfl)
     subst hqm
     clear hi HL
     go_wp2_with (first|(at_builtin;fail))
     go_ret
     exact ⟨by rw[HQ.out];rfl,hb04⟩
   · have hi:((q:Int) == (m:Int))=false:=by rw[beq_eq_false_iff_ne];omega
     have HQ:Hid (R=false):=Zai (by rw[HL.out,decide_eq_false hqm];rfl)
     clear HL
     go_wp2_with (first|(at_builtin;fail))
     go_ret
     exact ⟨by rw[HQ.out];rfl,hb04⟩
open Go.RowKit
def mkN (o:Nat) (n:Int):Int:=if o=1∨o=2 then n else 0
def mkS (o:Nat) (s:ByteArray):ByteArray:=if o=3∨o=4∨o=5∨o=8∨o=9∨o=11 then s else ⟨#[]⟩
def mkT (o:Nat) (t:ByteArray):ByteArray:=if o=4∨o=10 then t else ⟨#[]⟩
def mkL (o:Nat) (ns:List ByteArray):List ByteArray:=if o=7 then ns else []
def kidsC (o c:Nat):Nat:=match Zfn o with
 | some k=>k
 | none=>c
def okC (o:Nat) (n:Int) (s t:ByteArray) (ns:List ByteArray) (c:Nat):Bool:=
 if o=0 then false else if o=6 then decide (c≤16) else if o=7 then decide (c≤16) && Zcx o n s t ns c else Zcx o n s t ns c
def Zrs (o:Nat) (n:Int) (s t:ByteArray) (ns:List ByteArray) (c:Nat):Bool:=okC o n s t ns c && (decide (o < 30) && decide (c=kidsC o c))
theorem ba_size0 (s:ByteArray):s.size=0 ↔ s=⟨#[]⟩:=by
 constructor
 · intro h
   cases s with
   | mk d=>
     have h2:d.size=0:=h
     have h3:d=#[]:=Array.size_eq_zero_iff.1 h2
     rw[h3]
 · rintro rfl
   rfl
theorem part6 (n:Int) (s t:ByteArray) (ns:List ByteArray) (c:Nat):Zcx 6 n s t ns c=true:=rfl
theorem bare_node (o:Nat) (n:Int) (s t:ByteArray) (ns:List ByteArray) (c:Nat):(Zrs o n s t ns c && (decide (mkN o n=n) && (decide (mkS o s=s) && (decide (mkT o t=t) && decide ((mkL o ns).length=ns.length)))))=Zmc o n s t ns c:=by
 have e0:(⟨#[]⟩:ByteArray)=s ↔ s.size=0:=by rw[ba_size0];exact eq_comm
 have e1:(⟨#[]⟩:ByteArray)=t ↔ t.size=0:=by rw[ba_size0];exact eq_comm
 have e2:(0:Int)=n ↔ n=0:=eq_comm
 have e3:0=ns.length ↔ ns.length=0:=eq_comm
 rcases Nat.lt_or_ge o 15 with h|h
 · rcases (by omega:o=0∨o=1∨o=2∨o=3∨o=4∨o=5∨o=6∨o=7∨o=8∨o=9∨o=10∨o=11∨o=12∨o=13∨o=14) with h|h|h|h|h|h|h|h|h|h|h|h|h|h|h <;> subst h <;>
    simp[part6,Zrs,okC,Zmc,Zld,bareB,kidsC,Zfn,mkN,mkS,mkT,mkL,e0,e1,e2,e3,Bool.and_assoc,Bool.and_comm,Bool.and_left_comm]
 · have a:∀ k,k < 15→o ≠ k:=fun k hk e=>by omega
   have hk:Zfn o=some 2:=by
    unfold Zfn
    rw[if_neg (by omega),if_neg (by omega),if_neg (by omega),if_neg (by omega)]
   have hp:Zcx o n s t ns c=true:=by
    unfold Zcx
    simp[a 1,a 2,a 3,a 4,a 5,a 7,a 8,a 9,a 10,a 11]
   simp[Zrs,okC,Zmc,Zld,bareB,kidsC,hk,hp,mkN,mkS,mkT,mkL,a 0,a 1,a 2,a 3,a 4,a 5,a 6,a 7,a 8,a 9,a 10,a 11,e0,e1,e2,e3,Bool.and_assoc,Bool.and_comm,Bool.and_left_comm]
end Go.Proofs.YtnhooehmcggmdaaGreatDoor
