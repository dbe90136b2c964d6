/- Parts of a proof about the given program: XValName, XValType, XRefType. -/
import Derived.Laws.IdiomStrings
import Derived.Test.YtnhooehmcggmdaaGreatDoorZ10
import Derived.Test.YtnhooehmcggmdaaGreatDoorZ11
import Derived.Test.YtnhooehmcggmdaaGreatDoorZ12
import Derived.Test.YtnhooehmcggmdaaGreatDoorZ09
namespace Go.Proofs.YtnhooehmcggmdaaGreatDoor
set_option maxHeartbeats 16000000
set_option linter.unusedVariables false
set_option linter.unusedSimpArgs false
set_option linter.unusedSectionVars false
open Go.RowKit
abbrev Zgl (w:World):Prop:=Lib.TabIs Tryz.prog w "strings.asciiSpace" .u8 Lib.asciiSpaceTab
theorem name_dig {l:List UInt8} (h:Zgz (l.headD 0)=true):Zcu l=false:=by
 unfold Zcu
 rw[h]
 simp
theorem name_any (l:List UInt8) (he:l.isEmpty=false) (hl:l.length≤64) (hd:Zgz (l.headD 0)=false) (hk:Zix.contains l=false):Zcu l=!l.any Zwn:=by
 unfold Zcu
 rw[he,decide_eq_true hl,hd,hk]
 have:l.any Zwn=!l.all (fun b=>Zhd b || Zgz b):=by
  rw[List.not_all_eq_any_not]
  congr 1
  funext b
  simp[Zwn]
 rw[this]
 simp
def kwS:List ByteArray:=Zix.map fun l=>⟨l.toArray⟩
theorem kwS_has (x:ByteArray):Lib.containsS (kwS.take 19) x=Zix.contains x.data.toList:=by
 rw[show kwS.take 19=kwS from rfl,Bool.eq_iff_iff,Lib.containsS_iff,List.contains_iff_mem]
 unfold kwS
 rw[List.mem_map]
 constructor
 · rintro ⟨l,hl,rfl⟩
   exact hl
 · intro h
   exact ⟨_,h,rfl⟩
theorem fields_kw (w:World) (htab:Zgl w) :
 Calls Tryz.prog 78 #[.string ⟨Zrm.toArray⟩] w fun e w'=>e=.returned (.slice (some ⟨w.heap.size,0,none⟩) 19 19)∧w'=w.alloc (.cells kwV.toArray 9):=by
 have h:=Tryz.strings_Fields ⟨Zrm.toArray⟩ w (by decide +kernel) (fun j b hb=>Zvl b (List.mem_of_getElem? hb)) htab
 rw[show (⟨Zrm.toArray⟩:ByteArray).data.toList=Zrm from rfl,Zsw]at h
 exact h
theorem kw_in (w:World) (x:ByteArray) :
 Calls Tryz.prog 80 #[.slice (some ⟨w.heap.size,0,none⟩) 19 19,.string x] (w.alloc (.cells kwV.toArray 9)) fun e w'=>e=.returned (.bool (Zix.contains x.data.toList))∧w'=w.alloc (.cells kwV.toArray 9):=by
 have h:=Tryz.slices_Contains_string w.heap.size 0 19 19 kwS x (w.alloc (.cells kwV.toArray 9)) (Nat.le_refl _) (by omega) (fun j hj=>by
  obtain ⟨l,hl,hc⟩:=kw_cells w hj
  rw[Nat.zero_add,hc]
  simp[kwS,List.getD,List.getElem?_map,hl])
 rw[kwS_has]at h
 exact h
theorem Zyj (W:World) (s:ByteArray) (c:Nat) (m:Nat × Nat) (j:Nat) (x:UInt8) (h:s.data.toList[j]?=some x):(W.alloc (.cells (bytesRow s c) 5 m)).cell? ⟨W.heap.size,j,none⟩=some (.int .u8 (x.toNat:Int)):=by
 have hj:j < s.data.size:=by
  have:=(List.getElem?_eq_some_iff.1 h).1
  simpa using this
 have hx:s.data[j]=x:=by
  rw[Array.getElem?_toList]at h
  exact (Array.getElem?_eq_some_iff.1 h).2
 have hj2:j < s.size:=hj
 simp only[World.cell?,World.alloc,Array.getElem?_push,if_true]
 simp[bytesRow,Array.getElem?_append,hj2]
 rw[hx]
theorem Zwl (W:World) (o:Obj):Below W.heap.size W (W.alloc o):=(Below.refl _ W).alloc (Nat.le_refl _) o
set_option maxRecDepth 100000 in
theorem name_w (s:ByteArray) (w:World) (hs:s.size≤140737488351232) (htab:Zgl w) :
 Calls Tryz.prog 40 #[.string s] w fun e w'=>e=.returned (.bool (Zcu s.data.toList))∧Below w.heap.size w w':=by
 have hw:=fields_kw w htab
 have hbel:=Zac w (.cells kwV.toArray 9)
 have hin:=kw_in w s
 obtain ⟨W,HW⟩:=Zaf (w.alloc (.cells kwV.toArray 9))
 have hsz:w.heap.size≤W.heap.size:=by rw[HW.out];exact hbel.size
 rw[←HW.out]at hbel hw hin
 clear HW
 obtain ⟨R,HR⟩:=Zaf (Zcu s.data.toList)
 rw[←HR.out]
 obtain ⟨q,hq⟩:=Zaf (Zix.contains s.data.toList)
 rw[←hq.out]at hin
 go_enter Tryz.func40,Tryz.ntmps40
 go_wp2_with fail
 refine hw.mono ?_
 rintro e w1 ⟨rfl,rfl⟩
 clear hw
 cases he:s.toList.isEmpty with
 | true=>
   go_wp2_with (go_quiet (fail))
   go_ret
   refine ⟨?_,hbel⟩
   rw[HR.out,show Zcu s.data.toList=false by rw[ByteArray.toList_eq]at he;simp[Zcu,he]]
   rfl
 | false=>
   by_cases hl:(64:Int) < (s.size:Int)
   · go_wp2_with (go_quiet (fail))
     go_ret
     refine ⟨?_,hbel⟩
     rw[HR.out,show Zcu s.data.toList=false from by
      have:¬ s.data.toList.length≤64:=by rw[←Lib.size_eq];omega
      exact nameL_long this]
     rfl
   · have he2:s.data.toList.isEmpty=false:=by rw[ByteArray.toList_eq]at he;exact he
     have hpos:0 < s.size:=by
      rw[Lib.size_eq]
      cases h:s.data.toList with
      | nil=>rw[h]at he2;cases he2
      | cons a r=>simp
     have hi1:(0:Int) < (s.size:Int):=by omega
     have hdig:=digit_w (s[0]'hpos)
     have hhd:s.data.toList.headD 0=s[0]'hpos:=by
      have e:s.data.toList[0]?=some (s[0]'hpos):=by
       rw[Array.getElem?_toList]
       exact Array.getElem?_eq_getElem _
      cases h:s.data.toList with
      | nil=>rw[h]at e;cases e
      | cons a r=>rw[h]at e;simpa using e
     rw[←hhd]at hdig
     have hld:decide ((64:Int) < (s.size:Int))=false:=decide_eq_false hl
     have hln:s.data.toList.length≤64:=by rw[←Lib.size_eq];omega
     cases hd:Zgz (s.data.toList.headD 0) with
     | true=>
       have hR:R=false:=by rw[HR.out];exact name_dig hd
       rw[hd]at hdig
       rw[hhd]at hdig
       clear hd hhd he2 hl HR hq hln hin
       go_wp2_with (go_quiet (fail))
       refine (hdig _).mono ?_
       rintro e w2 ⟨rfl,rfl⟩
       go_wp2_with (go_quiet (fail))
       go_ret
       refine ⟨?_,hbel⟩
       rw[hR]
       rfl
     | false=>
       have hR:q=false→R=!s.data.toList.any Zwn:=fun hq0=>by
        rw[HR.out]
        exact name_any _ he2 hln hd (by rw[←hq.out];exact hq0)
       have hR2:q=true→R=false:=fun hq1=>by
        rw[HR.out]
        unfold Zcu
        rw[←hq.out,hq1]
        exact Bool.and_false _
       rw[hd]at hdig
       rw[hhd]at hdig
       clear hd hhd he2 HR hq hl
       go_wp2_with (go_quiet (fail))
       refine (hdig _).mono ?_
       rintro e w2 ⟨rfl,rfl⟩
       clear hdig
       go_wp2_with (go_quiet (fail))
       refine hin.mono ?_
       rintro e w3 ⟨rfl,rfl⟩
       clear hin
       cases q with
       | true=>
         go_wp2_with (go_quiet (fail))
         go_ret
         refine ⟨?_,hbel⟩
         rw[hR2 (by simp)]
         rfl
       | false=>
         have hR1:=hR (by simp)
         clear hR hR2
         have kc:=run_bytes_of_string (P:=Tryz.prog) w3 9 51 5 s Tryz.underlying9 Tryz.underlying51 Tryz.underlying5
         obtain ⟨c,hc⟩:=Zaf (grownCap w3 s.size 0 5)
         rw[←hc.out]at kc
         have hb2:=Zwl w3.drew (.cells (bytesRow s c) 5 ((bytesRow s c).size,(bytesRow s c).size+1))
         have hcells:=fun j x h=>Zyj w3.drew s c ((bytesRow s c).size,(bytesRow s c).size+1) j x h
         obtain ⟨W4,HW4⟩:=Zaf (w3.drew.alloc (.cells (bytesRow s c) 5 ((bytesRow s c).size,(bytesRow s c).size+1)))
         rw[←HW4.out]at kc hb2
         have hhas:=hasBytes_w s.data.toList W4 w3.heap.size c (by omega) (fun j x h=>by rw[HW4.out];exact hcells j x h)
         rw[←Lib.size_eq]at hhas
         obtain ⟨y,hy⟩:=Zaf (s.data.toList.any Zwn)
         rw[←hy.out]at hhas hR1
         clear hcells HW4 hc hy
         have HR1:=Zai hR1
         clear hR1
         go_wp2_with (go_quiet (fail))
         refine hhas.mono ?_
         rintro e w5 ⟨rfl,m,rfl⟩
         clear hhas kc
         go_wp2_with (go_quiet (fail))
         go_ret
         have hb3:Below w.heap.size w W4:=hbel.trans ((show Below w3.heap.size w3 W4 from (Zbz (Below.refl w3.heap.size w3) 1).trans hb2).mono hsz)
         refine ⟨?_,Zbz hb3 m⟩
         rw[HR1.out]
         rfl
structure Tb (w:World):Prop where
 space:Zgl w
 max:∃ m,w.cell? ⟨5,0,none⟩=some (.int .i64 m)
 u8:Lib.Utf8Tabs 1 2 w
theorem gSpace:Tryz.prog.globalNamed "strings.asciiSpace"=some 0:=by kernel_rfl
theorem Zcg {w w':World} {a:Addr} {v:Value} (h:w.cell? a=some v) (hb:Below w.heap.size w w'):w'.cell? a=some v:=by
 rw[hb.cell (World.block_lt_of_cell? w _ h)]
 exact h
theorem Zlf {w w':World} (h:Zgl w) (hb:Below w.heap.size w w'):Zgl w':=by
 unfold Zgl Lib.TabIs World.var? at h ⊢
 rw[gSpace]at h ⊢
 simp only[Option.bind_some]at h ⊢
 have hlt:0 < w.heap.size:=by
  rcases Nat.lt_or_ge 0 w.heap.size with h'|h'
  · exact h'
  · rw[Array.getElem?_eq_none h']at h;simp at h
 rw[hb.block _ hlt]
 exact h
theorem Tb.below {w w':World} (h:Tb w) (hb:Below w.heap.size w w'):Tb w':=
 ⟨Zlf h.space hb,by obtain ⟨m,hm⟩:=h.max;exact ⟨m,Zcg hm hb⟩,
   fun c hc=>Zcg (h.u8.1 c hc) hb,fun i hi=>⟨Zcg (h.u8.2 i hi).1 hb,Zcg (h.u8.2 i hi).2 hb⟩⟩
set_option maxRecDepth 100000 in
theorem noName_w (s:ByteArray) (w:World) (hs:s.size≤140737488351232) (htab:Zgl w) :
 Calls Tryz.prog 124 #[.string s] w fun e w'=>e=.returned (.bool (!Zcu s.data.toList))∧Below w.heap.size w w':=by
 have h1:=name_w s w hs htab
 obtain ⟨d,hd⟩:=Zaf (Zcu s.data.toList)
 rw[←hd.out]at h1 ⊢
 clear hd
 go_enter Tryz.func124,Tryz.ntmps124
 go_wp2_with fail
 refine h1.mono ?_
 rintro e w1 ⟨rfl,hb⟩
 go_wp2_with fail
 go_ret
 exact ⟨rfl,hb⟩
def noN (s:ByteArray):Bool:=!Zcu s.data.toList
theorem anyn_hit {l:List ByteArray} {k:Nat} {x:ByteArray} (h:l[k]?=some x) (hx:noN x=true):l.any noN=true:=List.any_eq_true.2 ⟨x,List.mem_of_getElem? h,hx⟩
theorem anyn_none {l:List ByteArray} (h:∀ j < l.length,∀ x,l[j]?=some x→noN x=false):l.any noN=false:=by
 rw[List.any_eq_false]
 intro x hx
 obtain ⟨j,hj,e⟩:=List.mem_iff_getElem.1 hx
 rw[h j hj x (by rw[←e];exact List.getElem?_eq_getElem hj)]
 exact Bool.false_ne_true
set_option maxRecDepth 100000 in
theorem idxStrs_w (l:List ByteArray) (w:World) (b c:Nat) (hl:l.length≤140737488351232) (hsz:∀ x ∈ l,x.size≤140737488351232) (htab:Zgl w) (hc:∀ j x,l[j]?=some x→w.cell? ⟨b,j,none⟩=some (.string x)) :
 Calls Tryz.prog 149 #[.slice (some ⟨b,0,none⟩) l.length c,.func (.func 124) #[] #[]] w fun e w'=>(∃ i:Int,e=.returned (.int .i64 i)∧decide (0≤i)=l.any noN)∧Below w.heap.size w w':=by
 have eg:∀ args w,(callFunc 124 args).run Tryz.prog w=.ok (.enter 124 args) w:=fun _ _=>by kernel_rfl
 go_enter Tryz.func149,Tryz.ntmps149
 go_wp2
 go_loopw [5,8] (fun _ i wr=>∃ k:Nat,k≤l.length∧i=.int .i64 k∧(∀ j < k,∀ x,l[j]?=some x→noN x=false)∧Below w.heap.size w wr) (fun _ i _=>l.length - (intOf i).toNat)
 case atStart=>exact ⟨0,by omega,rfl,fun j hj=>absurd hj (by omega),Below.refl _ _⟩
 case round=>
  obtain ⟨k,hk,rfl,hno,hbw⟩:=hrel
  by_cases hlt:k < l.length
  · have hi0:(0:Int)≤(k:Int):=by omega
    have hi1:(k:Int) < (l.length:Int):=by omega
    obtain ⟨x,hx⟩:∃ x,l[k]?=some x:=⟨l[k],List.getElem?_eq_getElem hlt⟩
    have hcell:=Zcg (hc k x hx) hbw
    have hx2:=fun (W:World) (hW:Below w.heap.size w W)=>noName_w x W (hsz x (List.mem_of_getElem? hx)) (Zlf htab hW)
    have hq0:noN x=!Zcu x.data.toList:=rfl
    have HX:=Zai hx
    clear hx hc
    rw[←hq0]at hx2
    clear hq0
    cases hq:noN x with
    | true=>
      rw[hq]at hx2
      go_wp2_with (go_at_fn 124;refine (hx2 _ hbw).mono ?_;rintro e w1 ⟨rfl,hb⟩)
      go_ret
      exact ⟨⟨_,rfl,by rw[anyn_hit HX.out hq];exact decide_eq_true hi0⟩,hbw.trans (hb.mono hbw.size)⟩
    | false=>
      rw[hq]at hx2
      go_wp2_with (go_at_fn 124;refine (hx2 _ hbw).mono ?_;rintro e w1 ⟨rfl,hb⟩)
      go_roundw
      case rel=>
       refine ⟨k+1,by omega,by go_num,fun j hj y hy=>?_,hbw.trans (hb.mono hbw.size)⟩
       by_cases e:j=k
       · subst e;have hx:=HX.out;rw[hx]at hy;cases hy;exact hq
       · exact hno j (by omega) y hy
      case measure=>simp[intOf];omega
  · have hk2:k=l.length:=by omega
    have hi1:¬ (k:Int) < (l.length:Int):=by omega
    go_wp2_with (go_quiet (fail))
    go_ret
    exact ⟨⟨_,rfl,by rw[anyn_none (by rw[←hk2];exact hno)];rfl⟩,hbw⟩
set_option maxRecDepth 100000 in
theorem hasStrs_w (l:List ByteArray) (w:World) (b c:Nat) (hl:l.length≤140737488351232) (hsz:∀ x ∈ l,x.size≤140737488351232) (htab:Zgl w) (hc:∀ j x,l[j]?=some x→w.cell? ⟨b,j,none⟩=some (.string x)) :
 Calls Tryz.prog 121 #[.slice (some ⟨b,0,none⟩) l.length c,.func (.func 124) #[] #[]] w fun e w'=>e=.returned (.bool (l.any noN))∧Below w.heap.size w w':=by
 have h1:=idxStrs_w l w b c hl hsz htab hc
 obtain ⟨d,hd⟩:=Zaf (l.any noN)
 rw[←hd.out]at h1 ⊢
 clear hd
 go_enter Tryz.func121,Tryz.ntmps121
 go_wp2_with fail
 refine h1.mono ?_
 rintro e w1 ⟨⟨i,rfl,hi⟩,hb⟩
 cases d with
 | true=>
   have h0:(0:Int)≤i:=of_decide_eq_true hi
   go_wp2_with fail
   go_ret
   exact ⟨rfl,hb⟩
 | false=>
   have h0:¬ (0:Int)≤i:=of_decide_eq_false hi
   go_wp2_with fail
   go_ret
   exact ⟨rfl,hb⟩
def Zgr (s:ByteArray):List ByteArray:=Lib.splitB ⟨#[58,58]⟩ 0 (Lib.countB s ⟨#[58,58]⟩) s
theorem Zpn (s:ByteArray):(Zgr s).map (·.data.toList)=pcs [] s.data.toList:=by
 unfold Zgr
 rw[Lib.splitB_data,←split_pcs _ _ (Nat.le_refl _)]
 rfl
theorem pieces_any (s:ByteArray):(Zgr s).any noN=!(pcs [] s.data.toList).all Zcu:=by
 rw[←Zpn,List.all_map,List.not_all_eq_any_not]
 rfl
theorem Zrd (s:ByteArray):(Zgr s).length=Lib.countB s ⟨#[58,58]⟩+1:=Lib.splitB_all ⟨#[58,58]⟩ (by decide) 0 _ s rfl
theorem pcs_small:∀ (n:Nat) (l acc:List UInt8),l.length≤n→∀ p ∈ pcs acc l,p.length≤acc.length+l.length:=by
 intro n
 induction n with
 | zero=>
   intro l acc h p hp
   have:l=[]:=List.eq_nil_of_length_eq_zero (by omega)
   subst this
   rw[Zsl]at hp
   simp at hp
   simp[hp]
 | succ n ih=>
   intro l acc h p hp
   match l,h,hp with
   | [],_,hp=>rw[Zsl]at hp;simp at hp;simp[hp]
   | [b],_,hp=>rw[pcs]at hp;simp at hp;simp[hp]
   | b :: c :: r,h,hp=>
     simp only[List.length_cons]at h
     rw[pcs]at hp
     split at hp
     · rcases List.mem_cons.1 hp with rfl|hp
       · simp
       · have:=ih r [] (by omega) p hp
         simp at this ⊢
         omega
     · have:=ih (c :: r) (acc ++ [b]) (by simp;omega) p hp
       simp at this ⊢
       omega
theorem Zuw (s:ByteArray):∀ x ∈ Zgr s,x.size≤s.size:=by
 intro x hx
 have h:x.data.toList ∈ pcs [] s.data.toList:=by
  rw[←Zpn]
  exact List.mem_map.2 ⟨x,hx,rfl⟩
 have:=pcs_small _ _ _ (Nat.le_refl _) _ h
 rw[←Lib.size_eq,←Lib.size_eq]at this
 simpa using this
set_option maxRecDepth 100000 in
theorem type_w (s:ByteArray) (w:World) (hs:s.size≤140737488351232) (htab:Tb w) :
 Calls Tryz.prog 89 #[.string s] w fun e w'=>e=.returned (.bool (Zhe s.data.toList))∧Below w.heap.size w w':=by
 have hR:Zhe s.data.toList=(decide (s.size≤64) && !(Zgr s).any noN):=by
  rw[pieces_any]
  unfold Zhe
  rw[←Lib.size_eq]
  simp
 obtain ⟨R,HR⟩:=Zaf (Zhe s.data.toList)
 rw[←HR.out]at hR ⊢
 have HR2:=Zai hR
 clear HR hR
 by_cases hl:s.size≤64
 · obtain ⟨m,hm⟩:=htab.max
   have hsp:=Tryz.strings_Split s ⟨#[58,58]⟩ m w (by omega) hm (by decide)
   rw[←Zrd]at hsp
   rw[show Lib.splitB ⟨#[58,58]⟩ 0 (Lib.countB s ⟨#[58,58]⟩) s=Zgr s from rfl]at hsp
   have hN:(Zgr s).length≤140737488351232:=by
    rw[Zrd]
    have:=Lib.countB_le ⟨#[58,58]⟩ (by decide) s.size s (Nat.le_refl _)
    omega
   have hbel:=Zac w (.cells ((Zgr s).map Value.string).toArray 9)
   have hcells:∀ j x,(Zgr s)[j]?=some x→(w.alloc (.cells ((Zgr s).map Value.string).toArray 9)).cell? ⟨w.heap.size,j,none⟩=some (.string x):=fun j x h=>by
    rw[(Blk.new w ((Zgr s).map Value.string) 9).cell]
    simp[h]
   obtain ⟨W,HW⟩:=Zaf (w.alloc (.cells ((Zgr s).map Value.string).toArray 9))
   rw[←HW.out]at hbel hsp hcells
   have hhas:=hasStrs_w (Zgr s) W w.heap.size (Zgr s).length hN (fun x hx=>Nat.le_trans (Zuw s x hx) hs) (Zlf htab.space hbel) hcells
   obtain ⟨d,hd⟩:=Zaf ((Zgr s).any noN)
   rw[←hd.out]at hhas HR2
   clear HW hcells hN hm htab hd
   obtain ⟨n,hn⟩:=Zaf (Zgr s).length
   rw[←hn.out]at hsp hhas
   clear hn
   have hl2:(s.size:Int)≤64:=by omega
   rw[decide_eq_true hl]at HR2
   clear hl
   go_enter Tryz.func89,Tryz.ntmps89
   go_wp2_with (go_quiet (fail))
   refine hsp.mono ?_
   rintro e w1 ⟨rfl,rfl⟩
   clear hsp
   go_wp2_with (go_quiet (fail))
   refine hhas.mono ?_
   rintro e w2 ⟨rfl,hb⟩
   clear hhas
   go_wp2_with (go_quiet (fail))
   go_ret
   refine ⟨?_,hbel.trans (hb.mono hbel.size)⟩
   rw[HR2.out]
   rfl
 · have hl2:¬ (s.size:Int)≤64:=by omega
   rw[decide_eq_false hl]at HR2
   clear hl
   go_enter Tryz.func89,Tryz.ntmps89
   go_wp2_with (go_quiet (fail))
   go_ret
   refine ⟨?_,Below.refl _ _⟩
   rw[HR2.out]
   rfl
theorem two {L:List UInt8} {i:Nat} (h:i+1 < L.length):∃ b c,L.drop i=b :: c :: L.drop (i+2)∧L[i]?=some b∧L.drop (i+1)=c :: L.drop (i+2):=by
 refine ⟨L[i],L[i+1],?_,List.getElem?_eq_getElem (by omega),List.drop_eq_getElem_cons h⟩
 rw[List.drop_eq_getElem_cons (by omega),List.drop_eq_getElem_cons h]
end Go.Proofs.YtnhooehmcggmdaaGreatDoor
