/- Parts of a proof about the given program: XLawExpr. -/
import Derived.Test.YtnhooehmcggmdaaGreatDoorRows
import Derived.Lib.SmallJoins
import Derived.Deep.Slices
import Derived.SliceStrings
import Derived.DataReads
import Derived.Test.YtnhooehmcggmdaaGreatDoorZ44
import Derived.Test.YtnhooehmcggmdaaGreatDoorZ27
namespace Go.Proofs.YtnhooehmcggmdaaGreatDoor
set_option maxHeartbeats 16000000
set_option linter.unusedVariables false
set_option linter.unusedSimpArgs false
set_option linter.unusedSectionVars false
open Go.Joins Go.ChangeShapes Go.WideShapes Go.RowKit Go.Deep
theorem qOp:Tryz.prog.cellsOf 22=1:=by kernel_rfl
theorem qI64:Tryz.prog.cellsOf 2=1:=by kernel_rfl
theorem qStr:Tryz.prog.cellsOf 9=1:=by kernel_rfl
theorem qStrs:Tryz.prog.cellsOf 23=1:=by kernel_rfl
theorem qExprs:Tryz.prog.cellsOf 24=1:=by kernel_rfl
theorem qExpr:Tryz.prog.cellsOf 26=6:=by kernel_rfl
theorem qExprB:Tryz.prog.bytesOf 26=96:=by kernel_rfl
theorem Zwi {w:World} {base:Nat} {a:Addr} {n:Nat} {cs:List Value} (h:w.cells? base a n=some cs):cs.length=n∧∀ j v,cs[j]?=some v→w.cell? (a.add j)=some v:=by
 unfold World.cells? at h
 split at h
 · have hl:=mapM_some_length h
   rw[List.length_range]at hl
   refine ⟨hl,fun j v hj=>?_⟩
   have hjn:j < n:=by rw[←hl];exact (List.getElem?_eq_some_iff.1 hj).1
   have:=mapM_some_get h j j (by simp[hjn])
   rw[this,hj]
 · cases h
theorem flist6 {r:List Value} (h:r.length=6):∃ a b c d e f,r=[a,b,c,d,e,f]:=by
 match r,h with
 | [a,b,c,d,e,f],_=>exact ⟨a,b,c,d,e,f,rfl⟩
theorem flatget6 {rows:List (List Value)} (h:∀ r ∈ rows,r.length=6):∀ (j:Nat) (v:Value),rows.flatten[j]?=some v→∃ r,rows[j / 6]?=some r∧r[j % 6]?=some v:=by
 induction rows with
 | nil=>intro j v h;cases h
 | cons q rows ih=>
   intro j v hv
   have hq:=h q (by simp)
   rw[List.flatten_cons]at hv
   rcases Nat.lt_or_ge j 6 with hj|hj
   · rw[List.getElem?_append_left (by omega)]at hv
     exact ⟨q,by rw[Nat.div_eq_of_lt hj];rfl,by rw[Nat.mod_eq_of_lt hj];exact hv⟩
   · rw[List.getElem?_append_right (by omega),hq]at hv
     obtain ⟨r,h1,h2⟩:=ih (fun r hr=>h r (by simp[hr])) (j - 6) v hv
     refine ⟨r,?_,?_⟩
     · rw[show j / 6=(j - 6) / 6+1 by omega,List.getElem?_cons_succ]
       exact h1
     · rw[show j % 6=(j - 6) % 6 by omega]
       exact h2
section
variable {H:Type} {enc:TypeId × Value→H} {w:World}
set_option maxRecDepth 100000 in
theorem open_txtsT {n:Nat} {cs:List Value} {y:DataW H × List MemPlace} (hf:DataW.trod enc Tryz.prog w 0 (fun _=>true) true n 23 cs=some y) (hw:∀ k ∈ y.1.weights Tryz.prog 23,k≤reachBytes) :
 ∃ (l:List ByteArray) (A:Option Addr) (c:Nat),cs=[.slice A l.length c]∧Zib w A l∧l.length≤c∧l.length * 16≤Zbq∧∀ x ∈ l,x.size≤Zbq:=by
 obtain ⟨d,pp⟩:=y
 rcases open_strings Tryz.underlying23 Tryz.underlying9 (by kernel_rfl) hf with ⟨hc,hd⟩|⟨a,len,cap,ss,hc,_,hl,hm,hlen,hd,hcell,_⟩
 · subst hc
   exact ⟨[],none,0,rfl,Zek.nil _ _ _,Nat.le_refl _,by decide,fun x h=>by cases h⟩
 · subst hc
   simp only[if_true]at hlen
   have hlt:(ss.take len).length=len:=by simp;omega
   injection hd with hd _
   rw[hd]at hw
   refine ⟨ss.take len,some a,cap,by rw[hlt],⟨by rw[Zfk,Nat.mul_one],fun hne=>?_⟩,by rw[hlt];exact hl,?_,?_⟩
   · have hpos:0 < len:=by
      rcases Nat.eq_zero_or_pos len with e|e
      · subst e;simp[Zfo]at hne
      · exact e
     have h0:=hcell 0 (by omega)
     have ha:=Zqz h0
     have ha':a=⟨a.block,a.off,none⟩:=by
      have:(a.add 0)=a:=by simp[Addr.add]
      rw[this]at ha
      exact ha
     refine ⟨a.block,a.off,by rw[←ha'],fun j u hu=>?_⟩
     have hj:j < len:=by
      have:=(List.getElem?_eq_some_iff.1 hu).1
      rw[Zfk,hlt]at this
      exact this
     have hcj:=hcell j (by omega)
     rw[ha',Zmm]at hcj
     rw[hcj]
     simp only[Zfo,List.getElem?_map,List.getElem?_take,if_pos hj,Option.map_eq_some_iff]at hu
     obtain ⟨s,hs,rfl⟩:=hu
     simp[List.getD,hs]
   · have h1:=hw ((((ChangeShapes.strs (ss.take len):List (DataW H)).length+(ChangeShapes.strs (ss.drop len):List (DataW H)).length)) * Tryz.prog.bytesOf 9) (by simp[DataW.weights,Tryz.underlying23])
     rw[show Tryz.prog.bytesOf 9=16 by kernel_rfl]at h1
     simp only[reachBytes,ChangeShapes.strs,List.length_map,List.length_take,List.length_drop]at h1
     simp only[List.length_take,Zbq]
     omega
   · intro x hx
     have h2:∀ (l:List ByteArray),x ∈ l→x.data.toList.length ∈ DataW.weightsAll Tryz.prog 9 (ChangeShapes.strs l:List (DataW H)):=by
      intro l
      induction l with
      | nil=>intro h;cases h
      | cons y l ih=>
        intro h
        have e:(ChangeShapes.strs (y :: l):List (DataW H))=.lit (.string y.data.toList) :: ChangeShapes.strs l:=rfl
        rw[e,DataW.weightsAll,DataW.weights]
        rcases List.mem_cons.1 h with rfl|h
        · simp
        · exact List.mem_append_right _ (ih h)
     have h3:=hw x.data.toList.length (by
      rw[DataW.weights,Tryz.underlying23]
      simp only
      exact List.mem_cons_of_mem _ (List.mem_append_left _ (h2 _ hx)))
     have e:x.size=x.data.toList.length:=Lib.size_eq x
     rw[e]
     exact h3
theorem Zty {l:List TypeId} {ds:List (DataW H)} {k:Nat}:∀ (i:Nat) (t:TypeId) (d:DataW H),l[i]?=some t→ds[i]?=some d→k ∈ d.weights Tryz.prog t→k ∈ DataW.weightsEach Tryz.prog l ds:=by
 induction l generalizing ds with
 | nil=>intro i t d h;cases h
 | cons t0 l ih=>
   intro i t d hl hd hk
   cases ds with
   | nil=>cases hd
   | cons d0 ds=>
     rw[DataW.weightsEach]
     cases i with
     | zero=>
       simp only[List.getElem?_cons_zero,Option.some.injEq]at hl hd
       subst hl hd
       exact List.mem_append_left _ hk
     | succ i=>
       rw[List.getElem?_cons_succ]at hl hd
       exact List.mem_append_right _ (ih i t d hl hd hk)
theorem Zwv {t:TypeId} {ds:List (DataW H)} {k:Nat} {d:DataW H} (hd:d ∈ ds) (hk:k ∈ d.weights Tryz.prog t):k ∈ DataW.weightsAll Tryz.prog t ds:=by
 induction ds with
 | nil=>cases hd
 | cons d0 ds ih=>
   rw[DataW.weightsAll]
   rcases List.mem_cons.1 hd with rfl|hd
   · exact List.mem_append_left _ hk
   · exact List.mem_append_right _ (ih hd)
theorem Zqp (a b:List (DataW H)):Rows.uptoBulkAll (a ++ b)=Rows.uptoBulkAll a+Rows.uptoBulkAll b:=by
 induction a with
 | nil=>simp[Rows.uptoBulkAll]
 | cons x a ih=>rw[List.cons_append,Rows.uptoBulkAll,Rows.uptoBulkAll,ih];omega
theorem Zxt (N:Nat) (ih:∀ (n:Nat) (cs:List Value) (y:DataW H × List MemPlace),n < N→DataW.trod enc Tryz.prog w 0 (fun _=>true) true n 26 cs=some y→(∀ k ∈ y.1.weights Tryz.prog 26,k≤reachBytes)→∃ t,EAt w (fun _=>True) t cs∧t.nodes≤Rows.uptoBulk y.1)
 {cs:List Value} {y:DataW H × List MemPlace} (hf:DataW.trod enc Tryz.prog w 0 (fun _=>true) true N 24 cs=some y) (hw:∀ k ∈ y.1.weights Tryz.prog 24,k≤reachBytes) :
 ∃ (l:List Et) (rows:List (List Value)) (B:Option Addr) (d:Nat),cs=[.slice B l.length d]∧Zek w B l.length 6 rows.flatten∧Zdz w (fun _=>True) l rows∧l.length≤d∧l.length * 96≤Zbq∧Et.nodess l+1≤Rows.uptoBulk y.1:=by
 rcases DataW.trod_slice Tryz.underlying24 hf with ⟨rfl,rfl⟩|⟨a,len,cap,elems,rest,n,rfl,rfl,rfl,_,hl,hm,hlen,hel,-,-⟩
 · exact ⟨[],[],none,0,rfl,Zek.nil _ _ _,by rw[Zdz],Nat.le_refl _,by decide,by simp[Et.nodess,Rows.uptoBulk]⟩
 · have hex:∀ i (hi:i < len),∃ (r:List Value) (t:Et),w.cells? 0 (a.add (i * 6)) 6=some r∧EAt w (fun _=>True) t r∧t.nodes≤Rows.uptoBulk (elems[i]'(by omega)).1:=by
    intro i hi
    have h1:=hel i hi
    rw[qExpr,List.getElem?_eq_getElem (by omega)]at h1
    obtain ⟨r,hr1,hr2⟩:=Option.bind_eq_some_iff.1 h1
    obtain ⟨t,ht⟩:=ih n r _ (by omega) hr2 (fun k hk=>hw k (by
     rw[DataW.weights,Tryz.underlying24]
     simp only
     exact List.mem_cons_of_mem _ (List.mem_append_left _ (Zwv (List.mem_map.2 ⟨_,List.getElem_mem (show i < elems.length by omega),rfl⟩) hk))))
    exact ⟨r,t,hr1,ht.1,ht.2⟩
   have hfam:∀ m,m≤len→∃ (l:List Et) (rows:List (List Value)),l.length=m∧Zdz w (fun _=>True) l rows∧Et.nodess l≤Rows.uptoBulkAll ((elems.take m).map (·.1))∧∀ i r,rows[i]?=some r→w.cells? 0 (a.add (i * 6)) 6=some r:=by
    intro m
    induction m with
    | zero=>intro _;exact ⟨[],[],rfl,by rw[Zdz],by simp[Et.nodess],fun i r h=>by cases h⟩
    | succ m ihm=>
      intro hm
      obtain ⟨l,rows,h1,h2,hB,h3⟩:=ihm (by omega)
      obtain ⟨r,t,h4,h5,hB2⟩:=hex m (by omega)
      have hrl:=(Zbm h2).1
      refine ⟨l ++ [t],rows ++ [r],by simp[h1],esAt_mk (by simp[hrl]) fun i x q hx hq=>?_,?_,fun i q hq=>?_⟩
      · rcases Nat.lt_or_ge i l.length with hi|hi
        · rw[List.getElem?_append_left hi]at hx
          rw[List.getElem?_append_left (by omega)]at hq
          obtain ⟨q',hq',hv⟩:=(Zbm h2).2 i x hx
          rw[hq]at hq'
          cases hq'
          exact hv
        · rw[List.getElem?_append_right hi]at hx
          rw[List.getElem?_append_right (by omega),hrl]at hq
          cases hj:i - l.length with
          | zero=>
            rw[hj]at hx hq
            simp only[List.getElem?_cons_zero,Option.some.injEq]at hx hq
            subst hx hq
            exact h5
          | succ j=>rw[hj]at hx;cases hx
      · rw[Zev,Zdx,List.take_succ_eq_append_getElem (by omega),List.map_append,Zqp]
        simp only[List.map_cons,List.map_nil,Rows.uptoBulkAll]
        omega
      · rcases Nat.lt_or_ge i rows.length with hi|hi
        · rw[List.getElem?_append_left hi]at hq
          exact h3 i q hq
        · rw[List.getElem?_append_right hi]at hq
          cases hj:i - rows.length with
          | zero=>
            rw[hj]at hq
            simp only[List.getElem?_cons_zero,Option.some.injEq]at hq
            subst hq
            rw[show i=m by omega]
            exact h4
          | succ j=>rw[hj]at hq;cases hq
   obtain ⟨l,rows,h1,h2,hB,h3⟩:=hfam len (Nat.le_refl _)
   rw[List.take_of_length_le (by omega)]at hB
   have hrl:=(Zbm h2).1
   refine ⟨l,rows,some a,cap,by rw[h1],⟨Zci h2,fun hne=>?_⟩,h2,by rw[h1];exact hl,?_,by simp only[Rows.uptoBulk];omega⟩
   · have h7:=Zbl h2
     have hpos:0 < len:=by
      rcases Nat.eq_zero_or_pos len with e|e
      · have h9:=Zci h2
        rw[h1,e]at h9
        exact absurd (List.eq_nil_of_length_eq_zero (by simpa using h9)) hne
      · exact e
     obtain ⟨r0,hr0⟩:∃ r,rows[0]?=some r:=⟨_,List.getElem?_eq_getElem (by omega)⟩
     obtain ⟨hl0,hc0⟩:=Zwi (h3 0 r0 hr0)
     have h0:=hc0 0 r0[0] (List.getElem?_eq_getElem (by omega))
     have ha':a=⟨a.block,a.off,none⟩:=by
      have:=Zqz h0
      simpa [Addr.add] using this
     refine ⟨a.block,a.off,by rw[←ha'],fun j v hj=>?_⟩
     obtain ⟨r,hr1,hr2⟩:=flatget6 h7 j v hj
     obtain ⟨hl1,hc1⟩:=Zwi (h3 _ r hr1)
     have:=hc1 _ v hr2
     rw[ha',Zmm,Zmm]at this
     rw[show a.off+j=a.off+j / 6 * 6+j % 6 by omega]
     exact this
   · have h9:=hw ((elems.map (·.1)).length * 96+(rest.map (·.1)).length * 96) (by
      rw[DataW.weights,Tryz.underlying24]
      simp only[qExprB,Nat.add_mul]
      exact List.mem_cons_self)
     simp only[List.length_map,reachBytes]at h9
     unfold Zbq
     omega
set_option maxRecDepth 100000 in
theorem open_exprT:∀ (N n:Nat) (cs:List Value) (y:DataW H × List MemPlace),n≤N→DataW.trod enc Tryz.prog w 0 (fun _=>true) true n 26 cs=some y→(∀ k ∈ y.1.weights Tryz.prog 26,k≤reachBytes)→∃ t,EAt w (fun _=>True) t cs∧t.nodes≤Rows.uptoBulk y.1:=by
 intro N
 induction N with
 | zero=>
   intro n cs y hn h
   obtain rfl:n=0:=by omega
   cases h
 | succ N ih=>
   intro n cs y hn h hw
   obtain ⟨ys,m,rfl,rfl,hl,hlen,hf⟩:=DataW.trod_struct Tryz.underlying26 h
   match ys,hlen with
   | [y0,y1,y2,y3,y4,y5],_=>
   rw[qExpr]at hl
   obtain ⟨c0,c1,c2,c3,c4,c5,rfl⟩:=flist6 hl
   have h0:=hf 0 _ rfl
   have h1:=hf 1 _ rfl
   have h2:=hf 2 _ rfl
   have h3:=hf 3 _ rfl
   have h4:=hf 4 _ rfl
   have h5:=hf 5 _ rfl
   simp[qOp,qI64,qStr,qStrs,qExprs]at h0 h1 h2 h3 h4 h5
   have hwi:∀ (i:Nat) (t:TypeId) (z:DataW H × List MemPlace),([22,2,9,9,23,24]:List TypeId)[i]?=some t→([y0,y1,y2,y3,y4,y5])[i]?=some z→∀ k ∈ z.1.weights Tryz.prog t,k≤reachBytes:=by
    intro i t z ht hz k hk
    refine hw k ?_
    rw[DataW.weights,Tryz.underlying26]
    exact Zty i t z.1 ht (by rw[List.getElem?_map,hz];rfl) hk
   obtain ⟨z,ez,rfl,wf⟩:=DataW.trod_int Tryz.underlying22 h0
   obtain ⟨q,eq_,rfl,wf2⟩:=DataW.trod_int Tryz.underlying2 h1
   obtain ⟨s,es,rfl,-⟩:=DataW.trod_string Tryz.underlying9 h2
   obtain ⟨t,et,rfl,-⟩:=DataW.trod_string Tryz.underlying9 h3
   have w3:=hwi 2 _ _ rfl rfl s.data.toList.length (by simp[DataW.weights])
   have w4:=hwi 3 _ _ rfl rfl t.data.toList.length (by simp[DataW.weights])
   obtain ⟨ns,A,c,e5,hT,hc,hns,hnz⟩:=open_txtsT h4 (hwi 4 _ _ rfl rfl)
   obtain ⟨l,rows,B,d,e6,hL,hV,hd,hls,hBu⟩:=Zxt m (fun n cs y hn h hw=>ih n cs y (by omega) h hw) h5 (hwi 5 _ _ rfl rfl)
   obtain ⟨k,rfl,hk⟩:=nat_u8 wf
   have hq:=bnd_i64 wf2
   cases ez
   cases eq_
   cases es
   cases et
   cases e5
   cases e6
   refine ⟨.mk k q s t ns l,?_,?_⟩
   rotate_left
   · rw[Zcm]
     simp only[List.map_cons,List.map_nil,Rows.uptoBulk,Rows.uptoBulkAll]
     omega
   rw[EAt]
   have e1:s.size=s.data.toList.length:=Lib.size_eq s
   have e2:t.size=t.data.toList.length:=Lib.size_eq t
   exact ⟨A,c,B,d,rows,rfl,⟨hk,hq.1,hq.2,by rw[e1];exact w3,by rw[e2];exact w4⟩,hT,hnz,⟨hns,hc,hls,hd⟩,⟨fun _ _=>trivial,fun _ _=>trivial⟩,hL,hV⟩
set_option maxRecDepth 100000 in
theorem Zvc {v:Value} {b0:Nat} {d:DataW H} {p:List MemPlace} (hv:Value.okWide Tryz.prog w .any b0 26 v) (h:DataW.Trod enc Tryz.prog w 0 (fun _=>true) true 26 v d p) (hw:∀ k ∈ d.weights Tryz.prog 26,k≤reachBytes) :
 ∃ (t:Et) (r:List Value),v=.agg r.toArray∧EAt w (fun _=>True) t r∧t.nodes≤Rows.uptoBulk d:=by
 obtain ⟨cs,rfl,hsz⟩:=okWide_struct Tryz.underlying26 hv
 obtain ⟨fuel,hf⟩:=h
 have hf2:DataW.trod enc Tryz.prog w 0 (fun _=>true) true fuel 26 cs.toList=some (d,p):=hf
 obtain ⟨t,ht,hb⟩:=open_exprT fuel fuel _ _ (Nat.le_refl _) hf2 hw
 exact ⟨t,cs.toList,by simp,ht,hb⟩
end
end Go.Proofs.YtnhooehmcggmdaaGreatDoor
