/- Parts of a proof about the given program: XApp, XTokW8. -/
import Derived.Maps.AppendAt
import Derived.Deep.AppendLies
import Derived.RegionTactic
import Derived.Test.YtnhooehmcggmdaaGreatDoorZ02
import Derived.Test.YtnhooehmcggmdaaGreatDoorZ17
import Derived.Test.YtnhooehmcggmdaaGreatDoorZ19
import Derived.Test.YtnhooehmcggmdaaGreatDoorZ07
namespace Go.Proofs.YtnhooehmcggmdaaGreatDoor
set_option maxHeartbeats 16000000
set_option linter.unusedVariables false
set_option linter.unusedSimpArgs false
set_option linter.unusedSectionVars false
open Go.RowKit
theorem Zyp (b o j:Nat):(⟨b,o,none⟩:Addr).add j=⟨b,o+j,none⟩:=by unfold Addr.add;split <;> simp_all
theorem Zyc {w:World} {n size:Nat} {xs:List Value} (h:Zek w none n size xs) (hs:0 < size):n=0∧xs=[]:=by
 have:xs=[]:=by
  rcases Classical.em (xs=[]) with e|e
  · exact e
  · obtain ⟨b,o,e',_⟩:=h.2 e;cases e'
 subst this
 have h1:=h.1
 refine ⟨?_,rfl⟩
 simp only[List.length_nil]at h1
 rcases Nat.mul_eq_zero.1 h1.symm with h1|h1 <;> omega
section
variable {P:Program} (w:World)
theorem Zmt (base:Nat) (t ty e:TypeId) (i:TypeInfo) (size:Nat) (ht:P.underlying t=some (.slice e)) (hi:P.info? e=some i)
 (v:Value) (n:Nat) (xs:List Value) (hown:w.ownsRow base e size v n xs) (c:Nat):(Builtin.append_ #[t,t] ty #[v,.slice none 0 c]).run P w=.ok v w:=by
 rcases hown.2 with ⟨rfl,rfl⟩|⟨g,cap,cur,rfl,_,_,hnc,_⟩
 · simp[Builtin.append_,run_underlying ht,sizeOf,typeInfo,hi,Builtin.lenOf,Builtin.firstCells]
 · simp[Builtin.append_,run_underlying ht,sizeOf,typeInfo,hi,Builtin.lenOf,Builtin.firstCells,hnc,storeCells]
theorem Zqk (base:Nat) (t ty e:TypeId) (i:TypeInfo) (z:Value) (size bytes:Nat) (ht:P.underlying t=some (.slice e)) (hi:P.info? e=some i) (hz:i.zero=some z)
 (hsize:i.size=size) (hby:i.bytes=bytes) (hzs:z.cells.size=size) (hsz:0 < size)
 (v:Value) (n:Nat) (xs:List Value) (hown:w.ownsRow base e size v n xs)
 (A:Option Addr) (m c:Nat) (news:List Value) (hr:Zek w A m size news) (h1:∀ u ∈ news,u.oneCell'=true)
 (h63:n+m≤maxLen) (hbytes:(n+m) * bytes≤140737488355328) (hbase:base≤w.heap.size) :
 ∃ v' w',(Builtin.append_ #[t,t] ty #[v,.slice A m c]).run P w=.ok v' w'∧w'.ownsRow base e size v' (n+m) (xs ++ news)∧w.grownBy w' v.ownBlock ∧
   (v'.ownBlock=v.ownBlock∨v'.ownBlock=some w.heap.size):=by
 rcases A with _|ad
 · obtain ⟨hm,hn⟩:=Zyc hr hsz
   subst hm
   subst hn
   exact ⟨v,w,Zmt w base t ty e i size ht hi v n xs hown c,by simpa using hown,World.grownBy.refl w _,.inl rfl⟩
 · have hcells:∀ j u,news[j]?=some u→w.cell? (ad.add j)=some u:=by
    intro j u hu
    obtain ⟨b,o,h,hc⟩:=hr.2 (fun e=>by rw[e]at hu;simp at hu)
    injection h with h
    subst h
    rw[Zyp]
    exact hc j u hu
   obtain ⟨v',w',hrun,h2,h3,_,h5⟩:=run_append_own_at (P:=P) w base t ty e i z size bytes ht hi hz hsize hby hzs hsz v n xs hown ad m c news hr.1 hcells h1 h63 hbytes hbase
   exact ⟨v',w',hrun,h2,h3,h5⟩
theorem Zlp {o:Oper} {a:Act} {K:Act→World→Prop} {Q:Exit→Act→World→Prop} (s x:Operand) (t:TypeId)
 (ho:o.op=.call { callee:=.builtin .append,args:=#[s,x],argTypes:=#[t,t] })
 (base:Nat) (e:TypeId) (i:TypeInfo) (z:Value) (size bytes:Nat) (ht:P.underlying t=some (.slice e)) (hi:P.info? e=some i) (hz:i.zero=some z)
 (hsize:i.size=size) (hby:i.bytes=bytes) (hzs:z.cells.size=size) (hsz:0 < size)
 (v:Value) (n:Nat) (xs:List Value) (hs:a.eval s=v) (hown:w.ownsRow base e size v n xs)
 (A:Option Addr) (m c:Nat) (news:List Value) (hx:a.eval x=.slice A m c) (hr:Zek w A m size news) (h1:∀ u ∈ news,u.oneCell'=true)
 (h63:n+m≤maxLen) (hbytes:(n+m) * bytes≤140737488355328) (hbase:base≤w.heap.size)
 (h:∀ v' w',w'.ownsRow base e size v' (n+m) (xs ++ news)→w.grownBy w' v.ownBlock→(v'.ownBlock=v.ownBlock∨v'.ownBlock=some w.heap.size)→K (a.put o.dst v') w'):o.wp P a w K Q:=by
 obtain ⟨v',w',hrun,h2,h3,h4⟩:=Zqk (P:=P) w base t o.type e i z size bytes ht hi hz hsize hby hzs hsz v n xs hown A m c news hr h1 h63 hbytes hbase
 unfold Oper.wp execOp
 simp only[ho,resolve,invoke,builtin,Sem.run_bind,Sem.run_pure,Result.andThen_ok,List.map_toArray,List.map_cons,List.map_nil,hs,hx,hrun]
 exact h v' w' h2 h3 h4
theorem Zin {ops:Array Oper} {rest:List Oper} {o:Oper} {a:Act} {Q:Exit→Act→World→Prop} (hgd:o.guard=none) (s x:Operand) (t:TypeId)
 (ho:o.op=.call { callee:=.builtin .append,args:=#[s,x],argTypes:=#[t,t] })
 (base:Nat) (e:TypeId) (i:TypeInfo) (z:Value) (size bytes:Nat) (ht:P.underlying t=some (.slice e)) (hi:P.info? e=some i) (hz:i.zero=some z)
 (hsize:i.size=size) (hby:i.bytes=bytes) (hzs:z.cells.size=size) (hsz:0 < size)
 (v:Value) (n:Nat) (xs:List Value) (hs:a.eval s=v) (hown:w.ownsRow base e size v n xs)
 (A:Option Addr) (m c:Nat) (news:List Value) (hx:a.eval x=.slice A m c) (hr:Zek w A m size news) (h1:∀ u ∈ news,u.oneCell'=true)
 (h63:n+m≤maxLen) (hbytes:(n+m) * bytes≤140737488355328) (hbase:base≤w.heap.size)
 (h:∀ v' w',w'.ownsRow base e size v' (n+m) (xs ++ news)→w.grownBy w' v.ownBlock→(v'.ownBlock=v.ownBlock∨v'.ownBlock=some w.heap.size)→wpList P ops Q rest (a.put o.dst v') w'):wpList P ops Q (o :: rest) a w:=
 wpList_plain hgd fun _ hK=>Zlp w s x t ho base e i z size bytes ht hi hz hsize hby hzs hsz v n xs hs hown A m c news hx hr h1 h63 hbytes hbase fun v' w' h2 h3 h4=>hK _ _ (h v' w' h2 h3 h4)
theorem Zfq {ops:Array Oper} {o:Oper} {a:Act} {K:Act→World→Prop} {Q:Exit→Act→World→Prop} {E:Prop} (hgd:o.guard=none) (s x:Operand) (t:TypeId)
 (ho:o.op=.call { callee:=.builtin .append,args:=#[s,x],argTypes:=#[t,t] })
 (base:Nat) (e:TypeId) (i:TypeInfo) (z:Value) (size bytes:Nat) (ht:P.underlying t=some (.slice e)) (hi:P.info? e=some i) (hz:i.zero=some z)
 (hsize:i.size=size) (hby:i.bytes=bytes) (hzs:z.cells.size=size) (hsz:0 < size)
 (v:Value) (n:Nat) (xs:List Value) (hs:a.eval s=v) (hown:w.ownsRow base e size v n xs)
 (A:Option Addr) (m c:Nat) (news:List Value) (hx:a.eval x=.slice A m c) (hr:Zek w A m size news) (h1:∀ u ∈ news,u.oneCell'=true)
 (h63:n+m≤maxLen) (hbytes:(n+m) * bytes≤140737488355328) (hbase:base≤w.heap.size)
 (h:∀ v' w',w'.ownsRow base e size v' (n+m) (xs ++ news)→w.grownBy w' v.ownBlock→(v'.ownBlock=v.ownBlock∨v'.ownBlock=some w.heap.size)→K (a.put o.dst v') w') :
 if Region.wanted o (yielded ops a.tmps)=true then Oper.wp P o a w K Q else E:=by
 have hw:Region.wanted o (yielded ops a.tmps)=true:=by simp[Region.wanted,hgd]
 rw[if_pos hw]
 exact Zlp w s x t ho base e i z size bytes ht hi hz hsize hby hzs hsz v n xs hs hown A m c news hx hr h1 h63 hbytes hbase h
end
theorem tokInfo:(Tryz.prog.info? 46).map (fun i=>(i.zero,i.size,i.bytes))=some (some (.agg #[.int .u8 0,.string ⟨#[]⟩,.int .i64 0,.int .i64 0]),4,40):=by kernel_rfl
theorem tok_cells {t:Tok}:∀ u ∈ Zae t,u.oneCell'=true:=fun v hv=>by
 simp only[Zae,List.mem_cons,List.not_mem_nil,or_false]at hv
 rcases hv with rfl|rfl|rfl|rfl <;> rfl
theorem Zht {w:World} {base:Nat} {e:TypeId} {size n:Nat} {v:Value} {xs:List Value} (h:w.ownsRow base e size v n xs):∀ g,v.ownBlock=some g→base≤g∧g < w.heap.size:=by
 intro g hg
 rcases h.2 with ⟨rfl,_⟩|⟨g',cap,cur,rfl,hb,hh,_⟩
 · cases hg
 · cases hg
   exact ⟨hb,(Array.getElem?_eq_some_iff.1 hh).1⟩
def szOf:Value→Nat
 | .string q=>q.size
 | _=>0
theorem ret3 {fn:Func} {a b c:Tmp} (hr:fn.results=#[.tmp a,.tmp b,.tmp c]) (tmps:Array Value) {w:World} {x y z:Value} (hx:tmps.getD a undef=x) (hy:tmps.getD b undef=y) (hz:tmps.getD c undef=z) :
 (results fn tmps).run Tryz.prog w=.ok (.tuple #[x,y,z]) w:=by
 simp only[results,hr]
 have hx':tmps[a]?.getD undef=x:=by simpa using hx
 have hy':tmps[b]?.getD undef=y:=by simpa using hy
 have hz':tmps[c]?.getD undef=z:=by simpa using hz
 simp[hx',hy',hz']
def cutPost (w:World) (x:Except (Int × Nat) (List Tok)) (e:Ending) (w':World):Prop:=match x with
 | .error (k,at_)=>e=.returned (.tuple #[.slice none 0 0,.int .i64 k,.int .i64 (at_:Int)])∧Below w.heap.size w w'
 | .ok ts=>∃ v,e=.returned (.tuple #[v,.int .i64 0,.int .i64 0])∧w'.ownsRow w.heap.size 46 4 v ts.length (ts.flatMap Zae)∧Below w.heap.size w w'
set_option maxRecDepth 100000 in
theorem cut_w (s:ByteArray) (w:World) (hs:s.size≤140737488351232) (ht:Tb8 w) :
 Calls Tryz.prog 19 #[.string s] w fun e w'=>cutPost w (Zln s.data.toList) e w':=by
 obtain ⟨j0,hj,hy0,hy1,hy2⟩:=info_parts tokInfo
 have hy3:(Value.agg #[.int .u8 0,.string ⟨#[]⟩,.int .i64 0,.int .i64 0]).cells.size=4:=rfl
 obtain ⟨R,HR⟩:=Zaf (Zln s.data.toList)
 rw[←HR.out]
 have hR:=HR.out
 rw[Zni]at hR
 clear HR
 have hsz:=Lib.size_eq s
 by_cases hlong:2048 < s.size
 · have hl1:(2048:Int) < (s.size:Int):=by omega
   rw[if_pos (by omega)]at hR
   subst hR
   clear hsz
   go_enter Tryz.func19,Tryz.ntmps19
   go_wp2_with (first|(at_builtin;fail))
   exact bodyPost_ret (ret3 rfl _ rfl rfl rfl) rfl ⟨rfl,Below.refl _ _⟩
 · have hl1:¬ (2048:Int) < (s.size:Int):=by omega
   rw[if_neg (by omega),←hsz]at hR
   have hskl0:=Zhf s.data.toList
   rw[←hsz]at hskl0
   have hsk:=skip_w s w hs
   obtain ⟨r0,hr0⟩:=Zaf (Zco s.data.toList)
   rw[←hr0.out]at hR hskl0 hsk
   have HR:=Zai hR
   clear hR hr0 hsz
   go_enter Tryz.func19,Tryz.ntmps19
   go_wp2_with (first|(at_builtin;fail))
   refine hsk.mono ?_
   rintro e1 w1 ⟨rfl,hw1⟩
   replace hw1:=hw1.symm
   subst hw1
   clear hsk
   go_wp2_with (first|(at_builtin;fail))
   go_loopw [5,6] (fun vo vr wr=>∃ (pre:List Tok) (rest:List UInt8) (v5:Value),vo=v5∧pre.length+rest.length≤s.size∧vr=.string (str rest)∧wr.ownsRow w.heap.size 46 4 v5 pre.length (pre.flatMap Zae)∧Hid (R=addT pre (Zqo s.size rest))∧Below w.heap.size w wr) (fun _ vr _=>szOf vr)
   case atStart=>exact ⟨[],r0,_,rfl,by simpa using hskl0,rfl,⟨rfl,.inl ⟨rfl,rfl⟩⟩,by rw[HR.out];cases Zqo s.size r0 <;> rfl,Below.refl _ _⟩
   case round=>
    obtain ⟨pre,rest,v5,h5,hlen,rfl,hown,HR2,hbw⟩:=hrel
    replace h5:=h5.symm
    subst h5
    clear HR
    by_cases hr:rest=[]
    · subst hr
      have hemp:(str []).toList.isEmpty=true:=by rw[Zgc];rfl
      go_wp2_with (first|(at_builtin;fail))
      refine bodyPost_ret (ret3 rfl _ rfl rfl rfl) rfl ?_
      rw[HR2.out,Zks]
      show cutPost w (.ok (pre ++ [])) _ _
      rw[List.append_nil]
      exact ⟨_,rfl,hown,hbw⟩
    · have hemp:=Zxe hr
      have hnx:=next_w (str rest) wr (by rw[Zbo];omega) (by rw[Zbo];exact List.length_pos_iff.2 hr) (ht.below hbw)
      rw[Zax]at hnx
      have hsub:Hid ((s.size:Int) - (rest.length:Int)=((s.size - rest.length:Nat):Int)):=by refine Zai ?_;omega
      have htok:=Blk.new wr (Zae Zan) 46
      have hls:((str rest).size:Int)=(rest.length:Int):=by rw[Zbo]
      cases hn:Zdb rest with
      | error e0=>
        rw[hn]at hnx
        have hn00:=Zai hn
        rw[show resV (.error e0)=Value.tuple #[.agg (Zae Zan).toArray,.int .i64 0,.int .i64 e0] from rfl]at hnx
        have HQ:Hid (R=.error (e0,s.size - rest.length)):=by
         refine Zai ?_
         rw[HR2.out,Ztj hr hn]
         rfl
        clear HR2 hn
        go_wp2_with (first|(at_builtin;fail))
        refine hnx.mono ?_
        rintro e1 w1 ⟨rfl,hb1⟩
        have hne:(e0 != 0)=true:=by
         rw[bne_iff_ne]
         exact next_err hn00.out
        have hb2:=bt hbw hb1
        clear hnx hn00
        go_wp2_with (first
         | (at_builtin;fail)
         | refine wpList_store_row rfl 46 _ _ rfl _ (Zae Zan).toArray rfl rfl 46 (Zae Zan).toArray (Blk.new w1 (Zae Zan) 46) (kT4 rfl) rfl (Zay _) ?_)
        refine bodyPost_ret (ret3 rfl _ rfl rfl rfl) rfl ?_
        rw[HQ.out]
        exact ⟨by rw[hsub.out];rfl,Zah (bt hb2 (Zac w1 _)) (by have:=hb2.size;omega) _⟩
      | ok z=>
        obtain ⟨t,n⟩:=z
        rw[hn]at hnx
        rw[show resV (.ok (t,n))=Value.tuple #[.agg (Zae t).toArray,.int .i64 (n:Int),.int .i64 0] from rfl]at hnx
        obtain ⟨hp1,hp2,hp3⟩:=Zkk hn
        have hskl:=Zhf (rest.drop n)
        rw[List.length_drop]at hskl
        obtain ⟨tk,htk⟩:=Zaf ({ t with at_:=s.size - rest.length }:Tok)
        have HR2':Hid (R=addT (pre ++ [tk]) (Zqo s.size (Zco (rest.drop n)))):=by
         refine Zai ?_
         rw[HR2.out,Zke hr hn,Zwp,htk.out]
        clear HR2
        have HR2:=HR2'
        clear HR2' hn
        have hn1:(n:Int)≤(rest.length:Int):=by omega
        have hn0:(0:Int)≤(n:Int):=by omega
        have hex:(str rest).extract n (str rest).size=str (rest.drop n):=by
         rw[Zdy,Zax,List.take_of_length_le (by rw[List.length_drop,Zbo];omega)]
        have hsk0:=fun W=>skip_w (str (rest.drop n)) W (by rw[Zbo,List.length_drop];omega)
        rw[Zax]at hsk0
        have HEX:=Zai hex
        clear hex
        go_wp2_with (first|(at_builtin;fail))
        refine hnx.mono ?_
        rintro e1 w1 ⟨rfl,hb1⟩
        have hb2:=bt hbw hb1
        have hown1:=Ziu hown hb1
        clear hnx
        go_upto_region 8 with (first
         | (at_builtin;fail)
         | refine wpList_store_row rfl 46 _ _ rfl _ (Zae t).toArray rfl rfl 46 (Zae Zan).toArray (Blk.new w1 (Zae Zan) 46) (kT4 rfl) rfl (Zay _) ?_)
        rw[hsub.out]
        obtain ⟨p8,hp8n⟩:=Zaf w1.heap.size
        have hb18:Below w1.heap.size w1 ((w1.alloc (.cells #[.int .u8 0,.string ⟨#[]⟩,.int .i64 0,.int .i64 0] 46)).setRow w1.heap.size (Zae t).toArray):=Zah (Zac w1 _) (Nat.le_refl _) _
        have k8:Blk ((w1.alloc (.cells #[.int .u8 0,.string ⟨#[]⟩,.int .i64 0,.int .i64 0] 46)).setRow w1.heap.size (Zae t).toArray) w1.heap.size (Zae t) 46:=(Blk.new w1 (Zae Zan) _).vrow _
        have hoA:=Zht hown1
        obtain ⟨W8,hW8⟩:=Zaf ((w1.alloc (.cells #[.int .u8 0,.string ⟨#[]⟩,.int .i64 0,.int .i64 0] 46)).setRow w1.heap.size (Zae t).toArray)
        rw[←hW8.out]at hb18 k8 ⊢
        have hown8:=Ziu hown1 hb18
        have hb8:=bt hb2 hb18
        have hle8:=hb2.size
        rw[←hp8n.out]at k8 hoA hle8 ⊢
        clear hW8 hp8n hb18 hb1 hb2 hown1 hown hbw
        have f3:=k8.free 3
        have f3c:W8.cell? ⟨p8,3,none⟩=some (.int .i64 (t.at_:Int)):=k8.cell 3
        go_upto_region 11 with (first|(at_builtin;fail))
        have k5:=k8.set 3 (.int .i64 ((s.size - rest.length:Nat):Int))
        have hrow:(Zae t).set 3 (.int .i64 ((s.size - rest.length:Nat):Int))=Zae tk:=by rw[htk.out];rfl
        rw[hrow]at k5
        have hb5:Below w.heap.size w (W8.setCell ⟨p8,3,none⟩ (.int .i64 ((s.size - rest.length:Nat):Int))):=hb8.setCell (p:=⟨p8,3,none⟩) hle8 _
        have hown5:=own_far hown8 (p:=⟨p8,3,none⟩) (fun e=>by have:=(hoA p8 e).2;omega) (.int .i64 ((s.size - rest.length:Nat):Int))
        obtain ⟨w5,hw5⟩:=Zaf (W8.setCell ⟨p8,3,none⟩ (.int .i64 ((s.size - rest.length:Nat):Int)))
        have hsz5:w5.heap.size=W8.heap.size:=by rw[hw5.out];exact World.size_setCell ..
        have hlt8:=k8.lt
        rw[←hw5.out]at k5 hb5 hown5 ⊢
        clear hw5 k8 hown8 hb8 f3 f3c hrow htk
        have hp8:some p8 ≠ v5.ownBlock:=fun e=>by have:=(hoA p8 e.symm).2;omega
        have hbk:∀ g,w5.heap.size≤g→some g ≠ v5.ownBlock:=fun g hg e=>by have:=(hoA g e.symm).2;omega
        have hown_ge:∀ j,v5.ownBlock=some j→w.heap.size≤j:=fun j e=>(hoA j e).1
        have hS0:Blk w5.drew p8 (Zae tk) 46∧Below w.heap.size w w5.drew∧w5.heap.size≤w5.drew.heap.size∧((fun _:Nat=>false) 3=false→w5.drew.ownsRow w.heap.size 46 4 v5 pre.length (pre.flatMap Zae)):=⟨k5,Zaj hb5,Nat.le_refl _,fun _=>hown5⟩
        have hskip:=hsk0
        have hex:=HEX.out
        clear k5 hb5 hown5 hsz5 hlt8 hsk0
        refine Zuu (fun _ _=>False) (fun _ _ _ _ h=>False.elim h) 8 (fun L _ u=>Blk u p8 (Zae tk) 46∧Below w.heap.size w u∧w5.heap.size≤u.heap.size∧(L 3=false→u.ownsRow w.heap.size 46 4 v5 pre.length (pre.flatMap Zae))) (fun i u u'=>(i ≠ 3→Below u.heap.size u u')∧(i=3→u.grownBy u' v5.ownBlock)) _ (by kernel_rfl) (by kernel_rfl) (by kernel_rfl) (by decide) (fun v=>by simp only[Zbx,Act.put,List.toList_toArray,List.take_succ_cons,List.take_zero,Zl2,Zl0,Zl1,Nat.reduceAdd,Nat.zero_add];rfl) hS0 (fun L L' v u hL h=>⟨h.1,h.2.1,h.2.2.1,fun e=>h.2.2.2 (by rw[hL 3 (by decide)];exact e)⟩) ?_
        refine Ziz [] _ (fun L hL hcl v u hS hd K' hK=>by
         simp only[Act.put,Zl2,Zl0,Zl1]at hK
         go_simp
         exact hK.out _ ⟨⟨hS.1,hS.2.1,hS.2.2.1,fun h=>hS.2.2.2 (by simpa using h)⟩,⟨fun _=>Below.refl _ _,fun h=>by cases h⟩⟩) (by kernel_rfl) (j:=1) rfl ?_
        refine Ziz [] _ (fun L hL hcl v u hS hd K' hK=>by
         simp only[Act.put,Zl2,Zl0,Zl1]at hK
         have c0:u.cell? ⟨p8,0,none⟩=some (.int .u8 (tk.k:Int)):=hS.1.cell 0
         have c1:u.cell? ⟨p8,1,none⟩=some (.string (str tk.t)):=hS.1.cell 1
         have c2:u.cell? ⟨p8,2,none⟩=some (.int .i64 tk.n):=hS.1.cell 2
         have c3:u.cell? ⟨p8,3,none⟩=some (.int .i64 (tk.at_:Int)):=hS.1.cell 3
         go_simp
         exact hK.out _ ⟨⟨hS.1,hS.2.1,hS.2.2.1,fun h=>hS.2.2.2 (by simpa using h)⟩,⟨fun _=>Below.refl _ _,fun h=>by cases h⟩⟩) (by kernel_rfl) (j:=2) rfl ?_
        refine Zvt [1] (fun v u=>∃ g,w5.heap.size≤g∧v=.slice (some ⟨g,0,none⟩) 1 1∧Blk u g (Zae tk) 46) ((by
         rintro j x u u' hj hg ⟨g,h1,h2,h3⟩
         refine ⟨g,h1,h2,?_⟩
         by_cases e:j=3
         · exact ((hg.2 e).block g h3.lt (hbk g h1)).trans h3
         · exact h3.below (hg.1 e))) (fun L hL hcl v u hS hd K' hK=>by
         simp only[Zal,Zak,eqv,Zl3,Zl4,Nat.reduceSub]at hd
         simp only[Act.put,Zl2,Zl0,Zl1]at hK
         try simp only[hd]at hK
         go_simp
         exact hK.out _ _ ⟨⟨hS.1.alloc _,bt hS.2.1 (Zac u _),by show _≤(u.heap.push _).size;rw[Array.size_push];have:=hS.2.2.1;omega,fun h=>(hS.2.2.2 (by simpa using h)).alloc _⟩,⟨fun _=>Zac u _,fun h=>by cases h⟩,u.heap.size,hS.2.2.1,rfl,Blk.new u (Zae tk) _⟩) (by kernel_rfl) (j:=3) rfl ?_
        refine Zvt [0,2] (fun v u=>u.ownsRow w.heap.size 46 4 v (pre.length+1) ((pre ++ [tk]).flatMap Zae)) ((by
         rintro j x u u' hj hg hx
         exact Ziu hx (hg.1 hj))) (fun L hL hcl v u hS hd K' hK=>by
         simp only[Zal,Zak,eqv,Zl3,Zl4,Nat.reduceSub]at hd
         obtain ⟨h0,g,hg1,h2,h3⟩:=hd
         have hown:=hS.2.2.2 hL
         refine Zfq _ (by rfl) _ _ _ (by rfl) w.heap.size 46 j0 _ 4 40 Tryz.underlying41 hj hy0 hy1 hy2 hy3 (by omega) v5 pre.length _ (by simp only[h0];rfl) hown (some ⟨g,0,none⟩) 1 1 (Zae tk) (by simp only[h2];rfl) ⟨rfl,fun _=>⟨g,0,rfl,fun j x hx=>by rw[Nat.zero_add];exact (h3.cell j).trans hx⟩⟩ tok_cells (by unfold maxLen;omega) (by omega) (hS.2.1.size) ?_
         intro v' u' hown' hgr _
         have hfm:pre.flatMap Zae ++ Zae tk=(pre ++ [tk]).flatMap Zae:=by simp
         rw[hfm]at hown'
         exact hK.out _ _ ⟨⟨(hgr.block p8 hS.1.lt hp8).trans hS.1,hS.2.1.grown hgr hS.2.1.size hown_ge,Nat.le_trans hS.2.2.1 hgr.size,fun h=>by simp at h⟩,⟨fun h=>absurd rfl h,fun _=>hgr⟩,hown'⟩) (by kernel_rfl) (j:=4) rfl ?_
        refine Ziz [] _ (fun L hL hcl v u hS hd K' hK=>by
         simp only[Act.put,Zl2,Zl0,Zl1]at hK
         go_simp
         exact hK.out _ ⟨⟨hS.1,hS.2.1,hS.2.2.1,fun h=>hS.2.2.2 (by simpa using h)⟩,⟨fun _=>Below.refl _ _,fun h=>by cases h⟩⟩) (by kernel_rfl) (j:=5) rfl ?_
        refine Ziz [] _ (fun L hL hcl v u hS hd K' hK=>by
         simp only[Act.put,Zl2,Zl0,Zl1]at hK
         go_simp
         exact hK.out _ ⟨⟨hS.1,hS.2.1,hS.2.2.1,fun h=>hS.2.2.2 (by simpa using h)⟩,⟨fun _=>Below.refl _ _,fun h=>by cases h⟩⟩) (by kernel_rfl) (j:=6) rfl ?_
        refine Ziz [4,5] _ (fun L hL hcl v u hS hd K' hK=>by
         simp only[Zal,Zak,eqv,Zl3,Zl4,Nat.reduceSub]at hd
         simp only[Act.put,Zl2,Zl0,Zl1]at hK
         try simp only[hd]at hK
         go_simp
         exact hK.out _ ⟨⟨hS.1,hS.2.1,hS.2.2.1,fun h=>hS.2.2.2 (by simpa using h)⟩,⟨fun _=>Below.refl _ _,fun h=>by cases h⟩⟩) (by kernel_rfl) (j:=7) rfl ?_
        refine Ziz [6] _ (fun L hL hcl v u hS hd K' hK=>by
         simp only[Zal,Zak,eqv,Zl3,Zl4,Nat.reduceSub]at hd
         simp only[Act.put,Zl2,Zl0,Zl1]at hK
         try simp only[hd]at hK
         go_simp
         refine (hskip u).mono ?_
         rintro e1 u1 ⟨rfl,rfl⟩
         exact hK.out _ ⟨⟨hS.1,hS.2.1,hS.2.2.1,fun h=>hS.2.2.2 (by simpa using h)⟩,⟨fun _=>Below.refl _ _,fun h=>by cases h⟩⟩) (by kernel_rfl) (j:=8) rfl ?_
        refine flatT_end [3,7] (by decide) ?_
        rintro v u hS hR
        simp only[Zal,Zak,eqv,Zl3,Zl4,Nat.reduceSub]at hR
        simp only[List.toList_toArray,List.drop_succ_cons,List.drop_zero]
        refine Zpg fun K0 hK0=>?_
        go_simp
        refine hK0.out _ _ ?_
        clear hK0
        refine Zpg fun K1 hK1=>?_
        go_simp
        refine hK1.out _ _ (seqOps_nil ?_)
        clear hK1
        obtain ⟨hS1,hS2,hS3,-⟩:=hS
        clear hS1 hS3 hS0 hbk hp8 hown_ge hskip
        go_wp2_with (first|(at_builtin;fail))
        go_roundw
        case rel=>exact ⟨pre ++ [tk],Zco (rest.drop n),_,rfl,by rw[List.length_append];have:=hskl;simp only[List.length_cons,List.length_nil];omega,rfl,by rw[List.length_append];exact hR.1,HR2,hS2⟩
        case measure=>have:=hskl;simp only[szOf];rw[Zbo,Zbo];omega
end Go.Proofs.YtnhooehmcggmdaaGreatDoor
