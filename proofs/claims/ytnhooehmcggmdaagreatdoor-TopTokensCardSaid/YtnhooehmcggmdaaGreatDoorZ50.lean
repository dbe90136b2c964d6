/- Parts of a proof about the given program: XCrcB, XSecPlain, XSecNew, XBegins8, XTopTokW. -/
import Derived.Deep.QuietTactic
import Derived.BigQuiet
import Derived.BigRegion
import Derived.StillTailTactics
import Derived.Test.YtnhooehmcggmdaaGreatDoorZ49
import Derived.Test.YtnhooehmcggmdaaGreatDoorZ07
import Derived.Test.YtnhooehmcggmdaaGreatDoorZ02
import Derived.Deep.OwnRows
import Derived.Laws.CopyOwn
import Derived.Test.YtnhooehmcggmdaaGreatDoorZ12
import Derived.Test.YtnhooehmcggmdaaGreatDoorZ36
namespace Go.Proofs.YtnhooehmcggmdaaGreatDoor
set_option maxHeartbeats 16000000
set_option linter.unusedVariables false
set_option linter.unusedSimpArgs false
set_option linter.unusedSectionVars false
open Go.RowKit
open Crc
theorem bit_w (c:BitVec 32) (w:World) :
 Calls Tryz.prog 132 #[.int .u32 (c.toNat:Int)] w fun e w'=>e=.returned (.int .u32 ((bit c).toNat:Int))∧w=w':=by
 go_enter Tryz.func132,Tryz.ntmps132
 go_wp2
 go_ret
 exact ⟨ret_int (bit_walk c),rfl⟩
theorem eat_w (c:BitVec 32) (b:UInt8) (w:World) :
 Calls Tryz.prog 103 #[.int .u32 (c.toNat:Int),.int .u8 (b.toNat:Int)] w fun e w'=>e=.returned (.int .u32 ((eat c b).toNat:Int))∧w=w':=by
 have hx:Hid _:=eat_walk c b
 go_enter Tryz.func103,Tryz.ntmps103
 go_wp2
 go_loop [0,10] (fun x i=>∃ k:Nat,k≤8∧i=.int .i64 k∧x=.int .u32 ((bits8 k (c ^^^ Zwk b)).toNat:Int)) (fun _ i=>8 - (intOf i).toNat)
 case atStart=>exact ⟨0,by omega,rfl,by rw[hx.out];rfl⟩
 case round=>
  obtain ⟨k,hk,rfl,rfl⟩:=hrel
  by_cases hlt:k < 8
  · go_wp2_with (go_at_call 132;refine (bit_w _ _).mono ?_;rintro e w' ⟨rfl,rfl⟩)
    go_round
    case rel=>exact ⟨k+1,by omega,by go_num,rfl⟩
    case measure=>simp[intOf];omega
  · obtain rfl:k=8:=by omega
    go_wp2
    go_ret
    exact ⟨rfl,rfl⟩
theorem more_w (c:BitVec 32) (s:ByteArray) (w:World) (hs:s.size≤maxLen) :
 Calls Tryz.prog 58 #[.int .u32 (c.toNat:Int),.string s] w fun e w'=>e=.returned (.int .u32 ((more c s.data.toList).toNat:Int))∧w=w':=by
 unfold maxLen at hs
 go_enter Tryz.func58,Tryz.ntmps58
 go_wp2
 rw[not_walk]
 go_loop [5,11] (fun x i=>∃ k:Nat,k≤s.size∧i=.int .i64 k∧x=.int .u32 ((run (inv c) (s.data.toList.take k)).toNat:Int)) (fun _ i=>s.size - (intOf i).toNat)
 case atStart=>exact ⟨0,by omega,rfl,rfl⟩
 case round=>
  obtain ⟨k,hk,rfl,rfl⟩:=hrel
  by_cases hlt:k < s.size
  · go_wp2_with (go_at_call 103;refine (eat_w _ _ _).mono ?_;rintro e w' ⟨rfl,rfl⟩)
    go_round
    case rel=>exact ⟨k+1,by omega,by go_num,by rw[take_snoc s k hlt,run_append];rfl⟩
    case measure=>simp[intOf];omega
  · go_wp2
    go_ret
    exact ⟨ret_int (by rw[not_walk,List.take_of_length_le (by simp;omega)];rfl),rfl⟩
theorem sum_w (s:ByteArray) (w:World) (hs:s.size≤maxLen) :
 Calls Tryz.prog 30 #[.string s] w fun e w'=>e=.returned (.int .u32 ((more 0#32 s.data.toList).toNat:Int))∧w=w':=by
 go_enter Tryz.func30,Tryz.ntmps30
 go_wp2_with (go_at_call 58;refine (more_w 0#32 _ _ hs).mono ?_;rintro e w' ⟨rfl,rfl⟩)
 go_ret
 exact ⟨rfl,rfl⟩
structure Wr where
 sec:Int
 data:ByteArray
structure Dk where
 secs:List ByteArray
 pend:List Wr
 off:Bool
 fuse:Int
def wrs (l:List Wr):List Value:=l.flatMap fun x=>[.int .i64 x.sec,.string x.data]
theorem wrs_length (l:List Wr):(wrs l).length=l.length * 2:=by
 induction l with
 | nil=>rfl
 | cons x l ih=>simp only[wrs,List.flatMap_cons,List.length_append,List.length_cons,List.length_nil]at ih ⊢;omega
theorem wrs_get (l:List Wr) (k:Nat) (h:k < l.length):(wrs l)[k * 2]?=some (.int .i64 l[k].sec)∧(wrs l)[k * 2+1]?=some (.string l[k].data):=by
 induction l generalizing k with
 | nil=>simp at h
 | cons x l ih=>
   cases k with
   | zero=>exact ⟨rfl,rfl⟩
   | succ k=>
     have:=ih k (by simp at h;omega)
     rw[show (k+1) * 2=k * 2+1+1 from by omega]
     exact this
def Zrt (w:World) (A:Option Addr) (l:List Wr):Prop:=Zek w A l.length 2 (wrs l)
section
variable {w w':World} {A:Option Addr} {l:List Wr}
theorem Zrt.below (h:Zrt w A l) (hb:Below w.heap.size w w'):Zrt w' A l:=Zek.below h hb
theorem Zrt.at_ (h:Zrt w A l) {k:Nat} (hk:k < l.length):∃ b o,A=some ⟨b,o,none⟩∧w.cell? ⟨b,o+k * 2,none⟩=some (.int .i64 l[k].sec)∧w.cell? ⟨b,o+k * 2+1,none⟩=some (.string l[k].data):=by
 obtain ⟨b,o,e,hc⟩:=h.2 (by intro h0;have:=wrs_length l;rw[h0]at this;simp at this;omega)
 obtain ⟨h1,h2⟩:=wrs_get l k hk
 exact ⟨b,o,e,hc _ _ h1,by rw[Nat.add_assoc];exact hc _ _ h2⟩
end
def DkIs (w:World) (v:Value) (d:Dk):Prop:=∃ A1 c1 A2 c2,v=.agg #[.slice A1 d.secs.length c1,.slice A2 d.pend.length c2,.bool d.off,.int .i64 d.fuse]∧Zib w A1 d.secs∧Zrt w A2 d.pend ∧
 d.secs.length≤140737488351232∧d.pend.length≤140737488351232∧-9223372036854775808≤d.fuse∧d.fuse≤9223372036854775807
theorem DkIs.below {w w':World} {v:Value} {d:Dk} (h:DkIs w v d) (hb:Below w.heap.size w w'):DkIs w' v d:=by
 obtain ⟨A1,c1,A2,c2,e,h1,h2,h3⟩:=h
 exact ⟨A1,c1,A2,c2,e,h1.below hb,h2.below hb,h3⟩
def DkRet (d:Dk) (why:Int) (w:World) (e:Ending) (w':World):Prop:=∃ v,e=.returned (.tuple #[v,.int .i64 why])∧DkIs w' v d∧Below w.heap.size w w'
def dk0:Dk:=⟨[],[],false,0⟩
theorem DkIs.zero (w:World):DkIs w (.agg #[.slice none 0 0,.slice none 0 0,.bool false,.int .i64 0]) dk0:=
 ⟨none,0,none,0,rfl,Zek.nil _ _ _,Zek.nil _ _ _,by decide,by decide,by decide,by decide⟩
def odd (s:ByteArray):Bool:=s.size != 64
def there (secs:List ByteArray) (n:Int):Bool:=decide (0≤n) && decide (n < secs.length)
def wrongW (secs:List ByteArray) (x:Wr):Bool:=!there secs x.sec || odd x.data
def sizeOk (n:Nat):Bool:=decide (1≤n) && decide (n≤1024)
def zero64:ByteArray:=str (List.replicate 64 0)
def right (d:Dk):Bool:=sizeOk d.secs.length && decide (d.pend.length≤4096) && !d.secs.any odd && !d.pend.any (wrongW d.secs)
theorem mul_one_w (n:Nat) (w:World) (hn:n < 18446744073709551616) :
 Calls Tryz.prog 102 #[.int .u64 1,.int .u64 (n:Int)] w fun e w'=>e=.returned (.tuple #[.int .u64 0,.int .u64 (n:Int)])∧w=w':=by
 refine (Tryz.bits_Mul 1 n (by decide) hn w).mono ?_
 rintro e w' ⟨rfl,rfl⟩
 refine ⟨?_,rfl⟩
 rw[Nat.one_mul,Nat.div_eq_of_lt hn,Nat.mod_eq_of_lt hn]
 rfl
def Zlm (s:ByteArray) (n k:Nat):List Value:=List.replicate k (.string s) ++ List.replicate (n - k) (.string ⟨#[]⟩)
theorem Zpu (s:ByteArray) (n k:Nat) (h:k≤n):(Zlm s n k).length=n:=by simp[Zlm];omega
theorem half_full (s:ByteArray) (n:Nat):Zlm s n n=Zfo (List.replicate n s):=by simp[Zlm,Zfo]
theorem half_get (s:ByteArray) (n k j:Nat) (v:Value) (h:(List.replicate k (Value.string s))[j]?=some v):(Zlm s n k)[j]?=some v:=by
 have:j < k:=by
  rcases Nat.lt_or_ge j k with h'|h'
  · exact h'
  · simp[h']at h
 rw[Zlm,List.getElem?_append_left (by simpa using this)];exact h
theorem Zvs (s:ByteArray) (n k m:Nat):(Zlm s n k).take k ++ List.replicate m (Value.string s) ++ (Zlm s n k).drop (k+m)=Zlm s n (k+m):=by
 rw[Zlm,List.take_left' (by simp),List.drop_append,Zlm]
 simp[List.replicate_append_replicate]
 omega
theorem Tryz.isize9:(Tryz.prog.info? 9).map (·.size)=some 1:=by kernel_rfl
theorem made_half (s:ByteArray) (n:Nat):madeCells #[Value.string ⟨#[]⟩] n=(Zlm s n 0).toArray:=by
 rw[made_rep];simp[Zlm]
set_option maxRecDepth 100000 in
theorem repeat_w (b:Nat) (s:ByteArray) (n:Nat) (w:World) (hn:1≤n) (hn':n≤1024) (hc:w.cell? ⟨b,0,none⟩=some (.string s)) :
 Calls Tryz.prog 57 #[.slice (some ⟨b,0,none⟩) 1 1,.int .i64 (n:Int)] w fun e w'=>∃ v,e=.returned v∧w'.ownsRow w.heap.size 9 1 v n (Zfo (List.replicate n s))∧Below w.heap.size w w':=by
 have hmk:=run_make_row' (P:=Tryz.prog) 23 9 (.string ⟨#[]⟩) 16 Tryz.underlying23 Tryz.info9 rfl .i64 .i64 n (by omega) (by omega)
 rw[made_half s n]at hmk
 have hcp0:=run_copy_row (P:=Tryz.prog) (w.alloc (.cells (Zlm s n 0).toArray 9)) 23 23 3 9 w.heap.size 0 n n ⟨b,0,none⟩ 1 1 (Zlm s n 0).toArray 9 [.string s] Tryz.underlying23 Tryz.isize9 (heap_alloc_new w _)
  (by show (1:Nat)=min 1 n;omega) (fun j v hj=>by
    match j,hj with
    | 0,hj=>
      simp at hj;subst hj
      have hlt:=World.block_lt_of_cell? w _ hc
      simpa [Addr.add] using (World.cell?_alloc_lt w (.cells (Zlm s n 0).toArray 9) ⟨b,0,none⟩ hlt).trans hc) (by simp[Zlm];omega) (by intro v hv;simp at hv;subst hv;rfl)
 have e1:((Zlm s n 0).toArray.toList.take 0 ++ [Value.string s] ++ (Zlm s n 0).toArray.toList.drop (0+[Value.string s].length)).toArray=(Zlm s n 1).toArray:=by
  have:=Zvs s n 0 1
  simpa using this
 rw[e1]at hcp0
 clear e1
 obtain ⟨W1,hW1⟩:=Zaf ((w.alloc (.cells (Zlm s n 0).toArray 9)).setRow w.heap.size (Zlm s n 1).toArray)
 rw[←hW1.out]at hcp0
 have hg1:W1.heap[w.heap.size]?=some (.cells (Zlm s n 1).toArray 9 (0,0)):=by rw[hW1.out];exact setRow_heap _ _ _ _ _ _ (heap_alloc_new w _)
 have hb1:Below w.heap.size w W1:=by
  rw[hW1.out]
  exact Znu (Zac w _) (Nat.le_refl _) _
 have Hg1:=Zai hg1
 clear hg1
 go_enter Tryz.func57,Tryz.ntmps57
 go_wp2_with fail
 refine (mul_one_w n _ (by omega)).mono ?_
 rintro e w1 ⟨rfl,rfl⟩
 go_wp2
 clear hmk hcp0
 go_loopw [8] (fun i wr=>∃ k:Nat,1≤k∧k≤n∧i=.int .i64 k∧wr.heap[w.heap.size]?=some (.cells (Zlm s n k).toArray 9 (0,0))∧Below w.heap.size w wr) (fun i _=>n - (intOf i).toNat)
 case atStart=>exact ⟨1,by omega,by omega,rfl,Hg1.out,hb1⟩
 case round=>
  obtain ⟨k,hk1,hk,rfl,hg,hb⟩:=hrel
  have Hg:=Zai hg
  by_cases hlt:k < n
  · have hcp:=run_copy_row (P:=Tryz.prog) wr.drew 23 23 3 9 w.heap.size k (n - k) (n - k) ⟨w.heap.size,0,none⟩ k n (Zlm s n k).toArray 9 (List.replicate (min k (n - k)) (.string s)) Tryz.underlying23 Tryz.isize9 hg
     (by simp) (fun j v hj=>by
       rw[Zmm]
       have hj':(Zlm s n k)[j]?=some v:=half_get s n k j v (by
        have hjk:j < k:=by
         rcases Nat.lt_or_ge j (min k (n - k)) with h'|h'
         · omega
         · rw[List.getElem?_eq_none (by simpa using h')]at hj;cases hj
        rw[List.getElem?_replicate]at hj ⊢
        rw[if_pos hjk]
        split at hj
        · exact hj
        · cases hj)
       have:=cell_of_row wr w.heap.size (0+j) (Zlm s n k).toArray 9 (0,0) hg
       exact this.trans (by simpa using hj')) (by rw[List.length_replicate,List.size_toArray,Zpu s n k hk];omega) (by intro v hv;simp at hv;rw[hv.2];rfl)
    have e1:((Zlm s n k).toArray.toList.take k ++ List.replicate (min k (n - k)) (Value.string s) ++ (Zlm s n k).toArray.toList.drop (k+(List.replicate (min k (n - k)) (Value.string s)).length)).toArray=(Zlm s n (k+min k (n - k))).toArray:=by
     have:=Zvs s n k (min k (n - k))
     simpa using this
    rw[e1,List.length_replicate]at hcp
    clear e1 hg
    have hnk:¬ n=k:=by omega
    obtain ⟨m,hm⟩:=Zaf (min k (n - k))
    have hm1:1≤m∧k+m≤n:=by rw[hm.out];omega
    rw[←hm.out]at hcp
    go_wp2
    go_region
    go_wp2
    go_roundw
    case rel=>exact ⟨k+m,by omega,by omega,by go_num,setRow_heap _ _ _ _ _ _ (show wr.drew.heap[w.heap.size]?=_ from Hg.out),Znu (hb.drew) (Nat.le_refl _) _⟩
    case measure=>simp[intOf];omega
  · obtain rfl:k=n:=by omega
    go_wp2
    go_ret
    refine ⟨_,rfl,⟨by rw[Zfk];simp,.inr ⟨w.heap.size,k,_,rfl,Nat.le_refl _,Hg.out,Nat.le_refl _,by unfold maxLen;omega,by simp[Zpu],?_⟩⟩,hb⟩
    rw[half_full,Nat.mul_one,List.take_of_length_le (by simp[Zfk])]
theorem made_zero:madeCells #[Value.int .u8 0] 64=(Znj (List.replicate 64 0)).toArray:=by rw[made_rep];simp[Znj]
set_option maxRecDepth 100000 in
theorem new_yes (n:Nat) (w:World) (h1:1≤n) (h2:n≤1024) :
 Calls Tryz.prog 29 #[.int .i64 (n:Int)] w (DkRet ⟨List.replicate n zero64,[],false,-1⟩ 0 w):=by
 have hmk:=run_make_row' (P:=Tryz.prog) 51 5 (.int .u8 0) 1 Tryz.underlying51 Tryz.info5 rfl .i64 .i64 64 (by omega) (by omega)
 rw[made_zero]at hmk
 have hcv:=fun w=>back_cells (P:=Tryz.prog) w 51 9 5 5 (List.replicate 64 0) 64 (by simp) Tryz.underlying51 Tryz.underlying5 Tryz.underlying9 64
 obtain ⟨cs,hcs⟩:=Zaf (Znj (List.replicate 64 0)).toArray
 rw[←hcs.out]at hmk hcv
 have hmk':∀ w,(Instr.makeSlice 51 (.int .i64 64) (.int .i64 64)).run Tryz.prog w=.ok (.slice (some ⟨w.heap.size,0,none⟩) 64 64) (w.alloc (.cells cs 5)):=hmk
 have hcv':∀ (w:World) (g:Nat),g=w.heap.size→(convert 51 9 (.slice (some ⟨g,0,none⟩) 64 64)).run Tryz.prog (w.alloc (.cells cs 5))=.ok (.string zero64) (w.alloc (.cells cs 5)):=fun w g hg=>by subst hg;exact hcv w
 clear hmk hcv hcs
 go_enter Tryz.func29,Tryz.ntmps29
 go_wp2_with fail
 refine (repeat_w _ zero64 n _ h1 h2 (by rw[World.cell?_alloc_at _ _ _ _ (by simp)];rfl)).mono ?_
 rintro e w1 ⟨v,rfl,hown,hb⟩
 obtain ⟨A,c,rfl,hnc,hcm,hl,hA⟩:=Zek.of_own hown
 have hblk:w1.heap[w.heap.size]?=some (.cells [.slice none 0 0,.slice none 0 0,.bool false,.int .i64 0].toArray 66 (0,0)):=by
  rw[hb.block _ (by simp;omega)]
  exact (Below.heap_alloc _ _ _ (by simp;omega)).trans ((Below.heap_alloc _ _ _ (by simp)).trans (blk_new w _ _))
 have hc:=blk_cell hblk
 have hf:=blk_free hblk
 have hsz:w.heap.size < w1.heap.size:=by have:=hb.size;simp at this;omega
 have hbw:Below w.heap.size w w1:=bt (bt (bt (Zac _ _) (Zac _ _)) (Zac _ _)) hb
 have hA':=Zai (fun a (h:A=some a)=>show a.block ≠ w.heap.size by have:=hA a h;simp at this;omega)
 clear hown hmk' hcv' hb hblk hA
 go_wp2
 refine bodyPost_ret (v:=.tuple #[.agg #[.slice A n c,.slice none 0 0,.bool false,.int .i64 (-1)],.int .i64 0]) (by simp[results,Tryz.results29,go_sem,hc]) rfl ?_
 refine ⟨_,rfl,⟨A,c,none,0,by simp,?_,Zek.nil _ _ _,by simp;omega,by simp,by simp,by simp⟩,?_⟩
 · have:=(((hl.far (p:=⟨w.heap.size,0,none⟩) hA'.out (.slice A n c)).far (p:=⟨w.heap.size,1,none⟩) hA'.out (.slice none 0 0)).far (p:=⟨w.heap.size,2,none⟩) hA'.out (.bool false)).far (p:=⟨w.heap.size,3,none⟩) hA'.out (.int .i64 (-1))
   simpa [Zib] using this
 · exact (((hbw.setCell (p:=⟨w.heap.size,0,none⟩) (Nat.le_refl _) _).setCell (p:=⟨w.heap.size,1,none⟩) (Nat.le_refl _) _).setCell (p:=⟨w.heap.size,2,none⟩) (Nat.le_refl _) _).setCell (p:=⟨w.heap.size,3,none⟩) (Nat.le_refl _) _
def nineL:List UInt8:=[49,50,51,52,53,54,55,56,57]
theorem nine_sum:(more 0#32 nineL).toNat=3421780262:=by decide +kernel
theorem nine_w (w:World):Calls Tryz.prog 30 #[.string ⟨#[49,50,51,52,53,54,55,56,57]⟩] w fun e w'=>e=.returned (.int .u32 3421780262)∧w=w':=by
 have:=sum_w ⟨#[49,50,51,52,53,54,55,56,57]⟩ w (by decide)
 rw[show (⟨#[49,50,51,52,53,54,55,56,57]⟩:ByteArray).data.toList=nineL from rfl,nine_sum]at this
 exact this
set_option maxRecDepth 100000 in
theorem begins8_w (w:World):Calls Tryz.prog 18 #[] w fun e w'=>e=.returned (.bool true)∧Below w.heap.size w w':=by
 go_enter Tryz.func18,Tryz.ntmps18
 go_wp2_with fail
 refine (new_yes 1 _ (by decide) (by decide)).mono ?_
 rintro e w1 ⟨v1,rfl,⟨P,p,Q,q,rfl,t1,u1,l1,m1,f1,g1⟩,hb1⟩
 have hw1:=bt hb1 (Zac w1 (.cells #[.slice P 1 p,.slice Q 0 q,.bool false,.int .i64 (-1)] 66))
 clear t1 u1
 go_wp2_with fail
 refine (nine_w _).mono ?_
 rintro e w2 ⟨rfl,rfl⟩
 go_wp2
 go_ret
 exact ⟨by simp,hw1⟩
theorem Zpf (sep:List UInt8) (ts:List Tok) (k:Nat) (t:Tok) (h:ts[k]?=some t):Zfc sep (ts.take (k+1))=Zfc sep (ts.take k) ++ (Zbw t ++ sep):=by
 obtain ⟨hk,rfl⟩:=List.getElem?_eq_some_iff.1 h
 unfold Zfc
 rw[List.take_succ_eq_append_getElem hk,List.flatMap_append]
 simp only[List.flatMap_cons,List.flatMap_nil,List.append_nil]
theorem shownT_len {sep:List UInt8} {ts:List Tok} (hs:sep.length≤4) (h:∀ t ∈ ts,(Zbw t).length≤2048) (k:Nat):(Zfc sep (ts.take k)).length≤k * 2052:=by
 induction k with
 | zero=>rw[List.take_zero];exact Nat.zero_le _
 | succ k ih=>
   cases hk:ts[k]? with
   | none=>
     have hl:=List.getElem?_eq_none_iff.1 hk
     rw[List.take_of_length_le (Nat.le_trans hl (Nat.le_succ k))]
     rw[List.take_of_length_le hl]at ih
     exact Nat.le_trans ih (Nat.mul_le_mul_right 2052 (Nat.le_succ k))
   | some t=>
     rw[Zpf sep ts k t hk,Nat.succ_mul]
     have:=h t (List.mem_of_getElem? hk)
     simp only[List.length_append]
     exact Nat.add_le_add ih (Nat.le_trans (Nat.add_le_add this hs) (Nat.le_refl 2052))
theorem tkc_cells {w:World} {b o:Nat} {ts:List Tok} {i:Nat} {t:Tok} (h:Zek w (some ⟨b,o,none⟩) ts.length 4 (ts.flatMap Zae)) (hi:ts[i]?=some t):∀ j v,(Zae t)[j]?=some v→w.cell? ⟨b,o+i * 4+j,none⟩=some v:=by
 intro j v hj
 obtain ⟨b',o',e,hc⟩:=h.2 (by
  intro e
  have:=h.1
  rw[e]at this
  have hlt:=(List.getElem?_eq_some_iff.1 hi).1
  simp at this
  omega)
 cases e
 rw[Nat.add_assoc]
 refine hc _ _ ?_
 have hf:∀ (l:List Tok) (k:Nat),l[k]?=some t→(l.flatMap Zae)[k * 4+j]?=some v:=by
  intro l
  induction l with
  | nil=>intro k hk;cases hk
  | cons u l ih=>
    intro k hk
    rw[List.flatMap_cons]
    cases k with
    | zero=>
      simp only[List.getElem?_cons_zero,Option.some.injEq]at hk
      subst hk
      rw[Nat.zero_mul,Nat.zero_add,List.getElem?_append_left (List.getElem?_eq_some_iff.1 hj).1]
      exact hj
    | succ k=>
      rw[List.getElem?_cons_succ]at hk
      rw[List.getElem?_append_right (by show 4≤_;omega),show (k+1) * 4+j - (Zae u).length=k * 4+j from by show (k+1) * 4+j - 4=_;omega]
      exact ih k hk
 exact hf ts i hi
set_option maxRecDepth 100000 in
theorem Zwy (hC:Zhx) (s:ByteArray) (q:Nat) (w:World) (hs:s.size≤140737488351232) (hq:q < 256) (htab:Tb8 w):Calls Tryz.prog 9 #[.string s,.int .u8 (q:Int)] w fun e w'=>e=.returned (.bool true)∧Below w.heap.size w w':=by
 have hli:=begins8_w w
 have hvq:(0:Int)≤(q:Int):=by omega
 have hsep:∃ sp ∈ Zsg,sp.length≤4∧(((q:Int) % 4=0∧sp=[32])∨((q:Int) % 4=1∧sp=[10])∨((q:Int) % 4=2∧sp=[47,47,41,10])∨((q:Int) % 4=3∧sp=[9,32])):=by
  have h4:(q:Int) % 4=0∨(q:Int) % 4=1∨(q:Int) % 4=2∨(q:Int) % 4=3:=by omega
  rcases h4 with h|h|h|h
  · exact ⟨[32],by simp[Zsg],by decide,.inl ⟨h,rfl⟩⟩
  · exact ⟨[10],by simp[Zsg],by decide,.inr (.inl ⟨h,rfl⟩)⟩
  · exact ⟨[47,47,41,10],by simp[Zsg],by decide,.inr (.inr (.inl ⟨h,rfl⟩))⟩
  · exact ⟨[9,32],by simp[Zsg],by decide,.inr (.inr (.inr ⟨h,rfl⟩))⟩
 obtain ⟨sp,hspm,hsp4,hspc⟩:=hsep
 have HSP:=Zai hspc
 clear hspc
 go_enter Tryz.func9,Tryz.ntmps9
 go_upto_region 1 with (first|(at_builtin;fail))
 go_wp2_with (first|(at_builtin;fail))
 refine hli.mono ?_
 clear hli
 rintro e w0 ⟨rfl,hb0⟩
 have hp1:=Zgy hC s w0 hs (htab.below hb0)
 cases hX:Zcp s.data.toList with
 | mk x1 kx=>
 obtain ⟨k1x,a1x⟩:=kx
 rw[hX]at hp1
 go_upto_region 3 with (first|(at_builtin;fail))
 go_wp2_with (first|(at_builtin;fail))
 refine hp1.mono ?_
 clear hp1
 rintro e w1 ⟨⟨v1,rfl,hres1⟩,hba1⟩
 obtain ⟨r1,rfl,h61,h11,hex1,hze1⟩:=Zdm hres1
 clear hres1
 have k01:=Blk.new w1 Zag 26
 have hbc1:=Zac w1 (.cells Zag.toArray 26)
 obtain ⟨A1,hA1⟩:=Zaf (w1.alloc (.cells Zag.toArray 26))
 have hAl1:Hid (A1=w1.alloc (.cells #[.int .u8 0,.int .i64 0,.string ⟨#[]⟩,.string ⟨#[]⟩,.slice none 0 0,.slice none 0 0] 26)):=hA1
 rw[←hA1.out]at k01 hbc1
 have k1:=k01.vrow r1
 have hbd1:=Zah hbc1 (Nat.le_refl _) r1.toArray
 obtain ⟨B1,hB1⟩:=Zaf (A1.setRow w1.heap.size r1.toArray)
 rw[←hB1.out]at k1 hbd1
 have hbB1:Below w.heap.size w B1:=bt (bt hb0 hba1) hbd1
 have hgs1:w.heap.size≤w1.heap.size:=(bt hb0 hba1).size
 clear hA1 hbc1
 have hcu:=cut_w s B1 hs (htab.below hbB1)
 cases x1 with
 | none=>
   clear hex1 hze1
   have hk1:=(Zrh hX).1
   simp only[]at hk1
   have hk2:(k1x == 0)=false:=by rw[beq_eq_false_iff_ne];exact hk1
   have hk3:(k1x != 0)=true:=by rw[bne,hk2];rfl
   obtain ⟨C,hCt⟩:=Zaf (Zln s.data.toList)
   rw[←hCt.out]at hcu
   clear hX hk1 hCt
   go_upto_region 4 with (first
    | (at_builtin;fail)
    | (rw[←hAl1.out];refine wpList_store_row rfl 26 _ _ rfl _ r1.toArray rfl rfl 26 Zag.toArray k01 (kE6 h61) (by simp[h61,Zag,Zav]) (Zas h11) ?_;rw[←hB1.out]))
   go_wp2_with (first|(at_builtin;fail))
   refine hcu.mono ?_
   clear hcu
   intro e w2 hcp
   cases C with
   | error y=>
     obtain ⟨rfl,hb2⟩:=hcp
     go_wp2_with (first|(at_builtin;fail))
     go_ret
     exact ⟨rfl,bt hbB1 hb2⟩
   | ok ts=>
     obtain ⟨v,rfl,-,hb2⟩:=hcp
     go_wp2_with (first|(at_builtin;fail))
     go_ret
     exact ⟨rfl,bt hbB1 hb2⟩
 | some E=>
   obtain ⟨hk1,ts,hcut,hpr,hchk⟩:=Zit hX
   obtain ⟨rfl,rfl⟩:k1x=0∧a1x=0:=by simpa using hk1
   have hpsh:(Zfc sp ts).length≤2048→Zcp (Zfc sp ts)=(some E,0,0):=fun h=>Zxq hspm hX hcut h
   have hplo:2048 < (Zfc sp ts).length→Zcp (Zfc sp ts)=(none,3,0):=fun h=>Zri h
   obtain ⟨hE1,-⟩:=hex1 E rfl
   have hEB:=hE1.below hbd1
   have hcok:=Zwe hchk
   have hnod:E.nodes≤4611686018427387904:=by omega
   have hcl:=Zti hcut
   have hto:=Zvz hcut
   have htl:∀ t ∈ ts,t.t.length≤2048:=fun t ht=>Nat.le_trans (hcl.2.2 t ht).1 hcl.1
   have htx:∀ t ∈ ts,(Zbw t).length≤2048:=fun t ht=>by have:=Zou (hto t ht) (htl t ht);omega
   have hslen:=fun k=>shownT_len hsp4 htx k
   rw[hcut]at hcu
   have hpE:Hid (Zly E=str (Zao E)):=Zai (if_pos hchk)
   have hsl:=(Zob E.ht E (Nat.le_refl _) hcok.1 (Zqa E r1 hE1)).2
   have hN48:ts.length≤2048:=by have:=hcl.1;have:=hcl.2.1;omega
   clear hX hk1 hpr hcut hcl
   go_upto_region 4 with (first
    | (at_builtin;fail)
    | (rw[←hAl1.out];refine wpList_store_row rfl 26 _ _ rfl _ r1.toArray rfl rfl 26 Zag.toArray k01 (kE6 h61) (by simp[h61,Zag,Zav]) (Zas h11) ?_;rw[←hB1.out]))
   go_wp2_with (first|(at_builtin;fail))
   refine hcu.mono ?_
   clear hcu
   rintro e w2 ⟨v,rfl,hown,hb2⟩
   obtain ⟨A,c,rfl,-,-,hl3,-⟩:=Zek.of_own hown
   have hb2w:=bt hbB1 hb2
   have k1b:=k1.below hb2
   have HL:=Zai hl3
   obtain ⟨N,hN⟩:=Zaf ts.length
   rw[←hN.out]at hN48 ⊢
   have HNl:=Zai hN.out
   clear hown hl3 hN
   go_upto_region 8 with (first|(at_builtin;fail))
   go_wp2_with (first|(at_builtin;fail))
   go_loopw [11,47] (fun z i wr=>∃ (k:Nat) (U:ByteArray),k≤N∧i=.int .i64 k∧z=.string U∧Hid (U=str (Zfc sp (ts.take k)))∧Below w2.heap.size w2 wr) (fun _ i _=>N - (intOf i).toNat)
   case atStart=>exact ⟨0,⟨#[]⟩,Nat.zero_le _,rfl,rfl,Zai (by rw[List.take_zero];rfl),Below.refl _ _⟩
   case round=>
    obtain ⟨k,U,hk,rfl,rfl,HU,hbr⟩:=hrel
    by_cases hlt:k < N
    · have hi0:(0:Int)≤(k:Int):=by omega
      have hi1:(k:Int) < (N:Int):=by omega
      obtain ⟨t,htk⟩:∃ t,ts[k]?=some t:=⟨_,List.getElem?_eq_getElem (by rw[←HNl.out];exact hlt)⟩
      have htm:=List.mem_of_getElem? htk
      obtain ⟨gb,go,rfl,-⟩:=HL.out.2 (by
       intro e
       have:=HL.out.1
       rw[e]at this
       have hlt2:=(List.getElem?_eq_some_iff.1 htk).1
       simp at this
       omega)
      have hcells:=tkc_cells (HL.out.below hbr) htk
      have l0:wr.cell? ⟨gb,go+k * 4,none⟩=some (.int .u8 (t.k:Int)):=hcells 0 _ rfl
      have l1:wr.cell? ⟨gb,go+k * 4+1,none⟩=some (.string (str t.t)):=hcells 1 _ rfl
      have l2:wr.cell? ⟨gb,go+k * 4+2,none⟩=some (.int .i64 t.n):=hcells 2 _ rfl
      have l3:wr.cell? ⟨gb,go+k * 4+3,none⟩=some (.int .i64 (t.at_:Int)):=hcells 3 _ rfl
      have hbr2:=bt hb2w hbr
      have hsh:=fun u (hu:Below w.heap.size w u)=>tshow_w t (hto t htm) (htl t htm) u (htab.below hu)
      have hst:=Zpf sp ts k t htk
      have hUl:=hslen k
      have htxl:=htx t htm
      have hUs:U.size=(Zfc sp (ts.take k)).length:=by rw[HU.out,Zbo]
      have hUb:(Zfc sp (ts.take k)).length≤4202496:=by have:k * 2052≤2048 * 2052:=Nat.mul_le_mul_right _ (by omega);omega
      obtain ⟨TT,hTT⟩:=Zaf (str (Zbw t))
      obtain ⟨V1,hV1⟩:=Zaf (str (Zbw t ++ sp))
      obtain ⟨V2,hV2⟩:=Zaf (str (Zfc sp (ts.take k) ++ (Zbw t ++ sp)))
      have e2:=Zhw (a:=Zfc sp (ts.take k)) (c:=Zbw t ++ sp) (S:=U) (T:=V1) HU.out hV1.out hV2.out (by simp only[List.length_append];omega)
      have e1:∀ S:ByteArray,S=str sp→∀ w:World,(Op.stringOp .add TT S).run Tryz.prog w=.ok (.string V1) w:=fun S hS=>Zhw hTT.out hS hV1.out (by omega)
      have HV2:Hid (V2=str (Zfc sp (ts.take (k+1)))):=Zai (by rw[hst];exact hV2.out)
      have hTT2:=hTT
      rw[←hTT2.out]at hsh
      have ha4:=Zac wr (.cells #[.int .u8 (t.k:Int),.string (str t.t),.int .i64 t.n,.int .i64 (t.at_:Int)] 46)
      have hsh2:=hsh _ (bt hbr2 ha4)
      clear hcells hst hUl htxl hUs hUb hTT hTT2 hV1 hV2 hsh htk htm
      go_wp2_with (first|(at_builtin;fail))
      refine hsh2.mono ?_
      clear hsh2
      rintro e w3 ⟨rfl,hb3⟩
      have hb3r:Below w2.heap.size w2 w3:=bt (bt hbr ha4) hb3
      have hb4:=bt hb3r (Zac w3 (.cells #[.string ⟨#[32]⟩,.string ⟨#[10]⟩,.string ⟨#[47,47,41,10]⟩,.string ⟨#[9,32]⟩] 9))
      clear l0 l1 l2 l3
      rcases HSP.out with ⟨hm,hsp⟩|⟨hm,hsp⟩|⟨hm,hsp⟩|⟨hm,hsp⟩
      · have e3:=e1 ⟨#[32]⟩ (by rw[hsp];rfl)
        clear e1 hsp
        go_wp2_with (first|(at_builtin;fail))
        go_roundw
        case rel=>exact ⟨k+1,V2,by omega,by go_num,rfl,HV2,hb4⟩
        case measure=>simp[intOf];omega
      · have e3:=e1 ⟨#[10]⟩ (by rw[hsp];rfl)
        clear e1 hsp
        go_wp2_with (first|(at_builtin;fail))
        go_roundw
        case rel=>exact ⟨k+1,V2,by omega,by go_num,rfl,HV2,hb4⟩
        case measure=>simp[intOf];omega
      · have e3:=e1 ⟨#[47,47,41,10]⟩ (by rw[hsp];rfl)
        clear e1 hsp
        go_wp2_with (first|(at_builtin;fail))
        go_roundw
        case rel=>exact ⟨k+1,V2,by omega,by go_num,rfl,HV2,hb4⟩
        case measure=>simp[intOf];omega
      · have e3:=e1 ⟨#[9,32]⟩ (by rw[hsp];rfl)
        clear e1 hsp
        go_wp2_with (first|(at_builtin;fail))
        go_roundw
        case rel=>exact ⟨k+1,V2,by omega,by go_num,rfl,HV2,hb4⟩
        case measure=>simp[intOf];omega
    · obtain rfl:k=N:=by omega
      have hi1:¬ (k:Int) < (k:Int):=by omega
      have hUo:=HU.out
      rw[HNl.out,List.take_length]at hUo
      have hlk:=hslen k
      rw[HNl.out,List.take_length,←HNl.out]at hlk
      have hUd:U.data.toList=Zfc sp ts:=by rw[hUo];rfl
      have hUs:U.size=(Zfc sp ts).length:=by rw[hUo,Zbo]
      have hUb:U.size≤140737488351232:=by have:k * 2052≤2048 * 2052:=Nat.mul_le_mul_right _ hN48;omega
      have hbr2:=bt hb2w hbr
      have k1c:=k1b.below hbr
      have hEr:=(hEB.below hb2).below hbr
      have hp3:=Zgy hC U wr hUb (htab.below hbr2)
      rw[hUd]at hp3
      go_upto_region 16 with (first|(at_builtin;fail))
      by_cases hlo:U.size≤2048
      · have hi2:¬ (2048:Int) < (U.size:Int):=by omega
        rw[hpsh (by omega)]at hp3
        clear hUo hUd hlk hUb HU hslen
        go_wp2_with (first|(at_builtin;fail))
        refine hp3.mono ?_
        clear hp3
        rintro e w3 ⟨⟨v3,rfl,hres3⟩,hba3⟩
        obtain ⟨r3,rfl,h63,h13,hex3,hze3⟩:=Zdm hres3
        clear hres3
        have k03:=Blk.new w3 Zag 26
        have hbc3:=Zac w3 (.cells Zag.toArray 26)
        obtain ⟨A3,hA3⟩:=Zaf (w3.alloc (.cells Zag.toArray 26))
        have hAl3:Hid (A3=w3.alloc (.cells #[.int .u8 0,.int .i64 0,.string ⟨#[]⟩,.string ⟨#[]⟩,.slice none 0 0,.slice none 0 0] 26)):=hA3
        rw[←hA3.out]at k03 hbc3
        have k3:=k03.vrow r3
        have hbd3:=Zah hbc3 (Nat.le_refl _) r3.toArray
        obtain ⟨B3,hB3⟩:=Zaf (A3.setRow w3.heap.size r3.toArray)
        rw[←hB3.out]at k3 hbd3
        have hbB3:Below w.heap.size w B3:=bt (bt hbr2 hba3) hbd3
        have hgs3:w.heap.size≤w3.heap.size:=(bt hbr2 hba3).size
        clear hA3 hbc3
        obtain ⟨hE2,-⟩:=hex3 E rfl
        have k1d:=(k1c.below hba3).below hbd3
        have hEd:=(hEr.below hba3).below hbd3
        have hE2d:=hE2.below hbd3
        have hpr1:=Zpl hC E r1 (Nw w0.heap.size w1) B3 B3 hEd (Below.refl _ _) (htab.below hbB3) hnod
        have hpr2:=fun u (hu:Below B3.heap.size B3 u)=>Zpl hC E r3 (Nw wr.heap.size w3) u u (hE2d.below hu) (Below.refl _ _) (htab.below (bt hbB3 hu)) hnod
        obtain ⟨PS,hPS⟩:=Zaf (Zly E)
        rw[←hPS.out,hchk]at hpr1
        rw[←hPS.out,hchk]at hpr2
        clear hPS
        go_upto_region 17 with (first
         | (at_builtin;fail)
         | (rw[←hAl3.out];refine wpList_store_row rfl 26 _ _ rfl _ r3.toArray rfl rfl 26 Zag.toArray k03 (kE6 h63) (by simp[h63,Zag,Zav]) (Zas h13) ?_;rw[←hB3.out]))
        go_wp2_with (first
         | (at_builtin;fail)
         | refine wpList_load_row rfl 26 _ rfl _ rfl 26 r1.toArray (0,0) _ k1d Tryz.underlying26 rfl (kE6 h61) ?_)
        refine hpr1.mono ?_
        clear hpr1
        rintro e w5 ⟨rfl,hb5⟩
        have k2d:=k3.below hb5
        have hpr3:=hpr2 w5 hb5
        go_wp2_with (first
         | (at_builtin;fail)
         | refine wpList_load_row rfl 26 _ rfl _ rfl 26 r3.toArray (0,0) _ k2d Tryz.underlying26 rfl (kE6 h63) ?_)
        refine hpr3.mono ?_
        clear hpr3 hpr2
        rintro e w6 ⟨rfl,hb6⟩
        have hPP:(PS.toList == PS.toList)=true:=by simp
        go_wp2_with (first|(at_builtin;fail))
        go_ret
        exact ⟨rfl,bt (bt hbB3 hb5) hb6⟩
      · have hi2:(2048:Int) < (U.size:Int):=by omega
        rw[hplo (by omega)]at hp3
        clear hUo hUd hlk hUb HU hslen
        go_wp2_with (first|(at_builtin;fail))
        refine hp3.mono ?_
        clear hp3
        rintro e w3 ⟨⟨v3,rfl,hres3⟩,hba3⟩
        obtain ⟨r3,rfl,h63,h13,hex3,hze3⟩:=Zdm hres3
        clear hres3
        have k03:=Blk.new w3 Zag 26
        have hbc3:=Zac w3 (.cells Zag.toArray 26)
        obtain ⟨A3,hA3⟩:=Zaf (w3.alloc (.cells Zag.toArray 26))
        have hAl3:Hid (A3=w3.alloc (.cells #[.int .u8 0,.int .i64 0,.string ⟨#[]⟩,.string ⟨#[]⟩,.slice none 0 0,.slice none 0 0] 26)):=hA3
        rw[←hA3.out]at k03 hbc3
        have k3:=k03.vrow r3
        have hbd3:=Zah hbc3 (Nat.le_refl _) r3.toArray
        obtain ⟨B3,hB3⟩:=Zaf (A3.setRow w3.heap.size r3.toArray)
        rw[←hB3.out]at k3 hbd3
        have hbB3:Below w.heap.size w B3:=bt (bt hbr2 hba3) hbd3
        have hgs3:w.heap.size≤w3.heap.size:=(bt hbr2 hba3).size
        clear hA3 hbc3
        clear hex3 hze3
        go_upto_region 17 with (first
         | (at_builtin;fail)
         | (rw[←hAl3.out];refine wpList_store_row rfl 26 _ _ rfl _ r3.toArray rfl rfl 26 Zag.toArray k03 (kE6 h63) (by simp[h63,Zag,Zav]) (Zas h13) ?_;rw[←hB3.out]))
        go_wp2_with (first|(at_builtin;fail))
        go_ret
        exact ⟨rfl,hbB3⟩
end Go.Proofs.YtnhooehmcggmdaaGreatDoor
