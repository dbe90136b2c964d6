/- Parts of a proof about the given program: XEt, XParse0, XParse1, XParse2, XParse3, XShow0, XSkip. -/
import Derived.Deep.DeepCutAuto
import Derived.Laws.Rows
import Derived.Laws.Tables
import Derived.Deep.MidRow
import Derived.Test.YtnhooehmcggmdaaGreatDoorZ02
import Derived.Test.YtnhooehmcggmdaaGreatDoorZ01
namespace Go.Proofs.YtnhooehmcggmdaaGreatDoor
set_option maxHeartbeats 16000000
set_option linter.unusedVariables false
set_option linter.unusedSimpArgs false
set_option linter.unusedSectionVars false
open Go.RowKit
def Zbq:Nat:=140737488351232
inductive Et where
 | mk (o:Nat) (n:Int) (s t:ByteArray) (ns:List ByteArray) (l:List Et)
instance:Inhabited Et:=⟨.mk 0 0 ⟨#[]⟩ ⟨#[]⟩ [] []⟩
mutual
def Et.ht:Et→Nat
 | .mk _ _ _ _ _ l=>Et.hts l+1
def Et.hts:List Et→Nat
 | []=>0
 | x :: l=>max x.ht (Et.hts l)
end
theorem Et.ht_mem {x:Et} {l:List Et} (h:x ∈ l):x.ht≤Et.hts l:=by
 induction l with
 | nil=>cases h
 | cons y l ih=>
   rw[Et.hts]
   rcases List.mem_cons.1 h with rfl|h
   · omega
   · have:=ih h;omega
def Zav (o:Nat) (n:Int) (s t:ByteArray) (N K:Value):List Value:=[.int .u8 (o:Int),.int .i64 n,.string s,.string t,N,K]
def Zag:List Value:=Zav 0 0 ⟨#[]⟩ ⟨#[]⟩ (.slice none 0 0) (.slice none 0 0)
mutual
def EAt (w:World) (P:Nat→Prop):Et→List Value→Prop
 | .mk o n s t ns l,r=>∃ (A:Option Addr) (c:Nat) (B:Option Addr) (d:Nat) (rows:List (List Value)),
    r=Zav o n s t (.slice A ns.length c) (.slice B l.length d)∧(o < 256∧-9223372036854775808≤n∧n≤9223372036854775807∧s.size≤Zbq∧t.size≤Zbq) ∧
    Zib w A ns∧(∀ x ∈ ns,x.size≤Zbq)∧(ns.length * 16≤Zbq∧ns.length≤c∧l.length * 96≤Zbq∧l.length≤d) ∧
    ((∀ a,A=some a→P a.block)∧(∀ a,B=some a→P a.block))∧Zek w B l.length 6 rows.flatten∧Zdz w P l rows
def Zdz (w:World) (P:Nat→Prop):List Et→List (List Value)→Prop
 | [],rows=>rows=[]
 | x :: l,rows=>∃ r rs,rows=r :: rs∧EAt w P x r∧Zdz w P l rs
end
theorem Zbm {w:World} {P:Nat→Prop}:∀ {l:List Et} {rows:List (List Value)},Zdz w P l rows→rows.length=l.length∧∀ (i:Nat) (x:Et),l[i]?=some x→∃ r,rows[i]?=some r∧EAt w P x r:=by
 intro l
 induction l with
 | nil=>intro rows h;rw[Zdz]at h;subst h;exact ⟨rfl,fun i x h=>by cases h⟩
 | cons y l ih=>
   intro rows h
   rw[Zdz]at h
   obtain ⟨r,rs,rfl,h1,h2⟩:=h
   obtain ⟨i1,i2⟩:=ih h2
   refine ⟨by simp[i1],fun i x hx=>?_⟩
   cases i with
   | zero=>simp only[List.getElem?_cons_zero,Option.some.injEq]at hx;subst hx;exact ⟨r,rfl,h1⟩
   | succ i=>rw[List.getElem?_cons_succ]at hx ⊢;exact i2 i x hx
theorem esAt_mk {w:World} {P:Nat→Prop}:∀ {l:List Et} {rows:List (List Value)},rows.length=l.length→(∀ (i:Nat) (x:Et) (r:List Value),l[i]?=some x→rows[i]?=some r→EAt w P x r)→Zdz w P l rows:=by
 intro l
 induction l with
 | nil=>intro rows h _;rw[Zdz];exact List.eq_nil_of_length_eq_zero h
 | cons x l ih=>
   intro rows h hr
   match rows,h with
   | r :: rs,h=>
     rw[Zdz]
     exact ⟨r,rs,rfl,hr 0 x r rfl rfl,ih (by simpa using h) fun i y q h1 h2=>hr (i+1) y q h1 h2⟩
theorem Zjm {w w':World} {P Q:Nat→Prop} {l:List Et} {rows:List (List Value)} (h:Zdz w P l rows) (f:∀ x r,x ∈ l→EAt w P x r→EAt w' Q x r):Zdz w' Q l rows:=
 esAt_mk (Zbm h).1 fun i x q hx hq=>by
  obtain ⟨q',hq',hv⟩:=(Zbm h).2 i x hx
  rw[hq]at hq'
  cases hq'
  exact f x q (List.mem_of_getElem? hx) hv
theorem Zvx {w:World} {P:Nat→Prop} {l:List Et} {rows:List (List Value)} {x:Et} {r:List Value} (h:Zdz w P l rows) (hx:EAt w P x r):Zdz w P (l ++ [x]) (rows ++ [r]):=by
 induction l generalizing rows with
 | nil=>rw[Zdz]at h;subst h;rw[List.nil_append,List.nil_append,Zdz];exact ⟨r,[],rfl,hx,by rw[Zdz]⟩
 | cons y l ih=>
   rw[Zdz]at h
   obtain ⟨q,rs,rfl,h1,h2⟩:=h
   rw[List.cons_append,List.cons_append,Zdz]
   exact ⟨q,rs ++ [r],rfl,h1,ih h2⟩
theorem Zby {w:World} {P:Nat→Prop} {t:Et} {r:List Value} (h:EAt w P t r):r.length=6:=by
 cases t
 rw[EAt]at h
 obtain ⟨A,c,B,d,rows,rfl,_⟩:=h
 rfl
theorem Zbl {w:World} {P:Nat→Prop} {l:List Et} {rows:List (List Value)} (h:Zdz w P l rows):∀ r ∈ rows,r.length=6:=by
 intro r hr
 obtain ⟨i,hi,e⟩:=List.mem_iff_getElem.1 hr
 have hl:=(Zbm h).1
 obtain ⟨q,hq,hv⟩:=(Zbm h).2 i _ (List.getElem?_eq_getElem (show i < l.length by omega))
 rw[List.getElem?_eq_getElem hi,e]at hq
 cases hq
 exact Zby hv
theorem Zci {w:World} {P:Nat→Prop} {l:List Et} {rows:List (List Value)} (h:Zdz w P l rows):rows.flatten.length=l.length * 6:=by
 have h6:=Zbl h
 have hl:=(Zbm h).1
 rw[←hl]
 clear h hl
 induction rows with
 | nil=>rfl
 | cons r rows ih=>
   rw[List.flatten_cons,List.length_append,ih (fun q hq=>h6 q (by simp[hq])),h6 r (by simp),List.length_cons]
   omega
theorem Zcy {w:World} {P:Nat→Prop} {t:Et} {r:List Value} (h:EAt w P t r):∀ v ∈ r,v.oneCell'=true:=by
 cases t
 rw[EAt]at h
 obtain ⟨A,c,B,d,rows,rfl,_⟩:=h
 intro v hv
 simp only[Zav,List.mem_cons,List.not_mem_nil,or_false]at hv
 rcases hv with rfl|rfl|rfl|rfl|rfl|rfl <;> rfl
theorem Zkm {w w':World} {P:Nat→Prop} (hk:∀ (p:Addr) v,P p.block→w.cell? p=some v→w'.cell? p=some v) {X:Option Addr} {q size:Nat} {xs:List Value} (hX:∀ a,X=some a→P a.block) (hL:Zek w X q size xs):Zek w' X q size xs:=by
 refine ⟨hL.1,fun hn=>?_⟩
 obtain ⟨bb,o,e,hc⟩:=hL.2 hn
 exact ⟨bb,o,e,fun j v hj=>hk ⟨bb,o+j,none⟩ v (show P bb from hX ⟨bb,o,none⟩ e) (hc j v hj)⟩
theorem eAt_keepn {w w':World} {P Q:Nat→Prop} (hk:∀ (p:Addr) v,P p.block→w.cell? p=some v→w'.cell? p=some v) (hPQ:∀ b,P b→Q b):∀ (n:Nat) (t:Et) (r:List Value),t.ht≤n→EAt w P t r→EAt w' Q t r:=by
 intro n
 induction n with
 | zero=>intro t r h;cases t;rw[Et.ht]at h;omega
 | succ n ih=>
   intro t r h hv
   cases t with
   | mk o m s u ns l=>
     rw[Et.ht]at h
     rw[EAt]at hv ⊢
     obtain ⟨A,c,B,d,rows,e,h1,h2,h3,h4,⟨h5,h5'⟩,h6,h7⟩:=hv
     exact ⟨A,c,B,d,rows,e,h1,Zkm hk h5 h2,h3,h4,⟨fun a ha=>hPQ _ (h5 a ha),fun a ha=>hPQ _ (h5' a ha)⟩,Zkm hk h5' h6,Zjm h7 fun x r hx hv=>ih x r (by have:=Et.ht_mem hx;omega) hv⟩
theorem EAt.keep {w w':World} {P Q:Nat→Prop} {t:Et} {r:List Value} (h:EAt w P t r) (hk:∀ (p:Addr) v,P p.block→w.cell? p=some v→w'.cell? p=some v) (hPQ:∀ b,P b→Q b):EAt w' Q t r:=eAt_keepn hk hPQ t.ht t r (Nat.le_refl _) h
theorem EAt.below {w w':World} {P:Nat→Prop} {t:Et} {r:List Value} (h:EAt w P t r) (hb:Below w.heap.size w w'):EAt w' P t r:=
 h.keep (fun p v _ hc=>by rw[hb.cell (World.block_lt_of_cell? w p hc)];exact hc) fun _ h=>h
theorem Zdz.below {w w':World} {P:Nat→Prop} {l:List Et} {rows:List (List Value)} (h:Zdz w P l rows) (hb:Below w.heap.size w w'):Zdz w' P l rows:=Zjm h fun _ _ _ hv=>hv.below hb
theorem EAt.imp {w:World} {P Q:Nat→Prop} {t:Et} {r:List Value} (h:EAt w P t r) (hPQ:∀ b,P b→Q b):EAt w Q t r:=h.keep (fun _ _ _ h=>h) hPQ
theorem EAt.grown {w w':World} {g:Nat} {P:Nat→Prop} {t:Et} {r:List Value} (h:EAt w P t r) (hg:w.grownBy w' (some g)) (hP:∀ b,P b→b ≠ g):EAt w' P t r:=
 h.keep (fun p v hp hc=>hg.cell hc (fun e=>hP _ hp (Option.some.inj e))) fun _ h=>h
theorem flatE_at {rows:List (List Value)} (h:∀ r ∈ rows,r.length=6):∀ (k i:Nat) (r:List Value) (v:Value),rows[k]?=some r→r[i]?=some v→rows.flatten[k * 6+i]?=some v:=by
 induction rows with
 | nil=>intro k i r v h;cases h
 | cons q rows ih=>
   intro k i r v hr hv
   have hq:=h q (by simp)
   rw[List.flatten_cons]
   cases k with
   | zero=>
     simp only[List.getElem?_cons_zero,Option.some.injEq]at hr
     subst hr
     rw[Nat.zero_mul,Nat.zero_add,List.getElem?_append_left (List.getElem?_eq_some_iff.1 hv).1]
     exact hv
   | succ k=>
     rw[List.getElem?_cons_succ]at hr
     rw[List.getElem?_append_right (by omega),hq,show (k+1) * 6+i - 6=k * 6+i by omega]
     exact ih (fun r hr=>h r (by simp[hr])) k i r v hr hv
theorem Zdt {w:World} {b o n:Nat} {rows:List (List Value)} {i:Nat} {r:List Value} (hl:Zek w (some ⟨b,o,none⟩) n 6 rows.flatten) (h6:∀ r ∈ rows,r.length=6) (hr:rows[i]?=some r):w.rangeAt b (o+i * 6) r:=by
 intro j v hj
 have hf:=flatE_at h6 i j r v hr hj
 obtain ⟨b',o',e,hc⟩:=hl.2 (by intro h0;rw[h0]at hf;cases hf)
 cases e
 rw[Nat.add_assoc]
 exact hc _ _ hf
theorem Zka {w w':World} {b o:Nat} {r:List Value} (h:w.rangeAt b o r) (hb:Below w.heap.size w w'):w'.rangeAt b o r:=fun j v hj=>by
 rw[hb.cell (World.block_lt_of_cell? w _ (h j v hj))]
 exact h j v hj
def isW (t:Tok) (s:List UInt8):Bool:=decide (t.k=1) && (t.t == s)
def isS (t:Tok) (s:List UInt8):Bool:=decide (t.k=4) && (t.t == s)
def wIf:List UInt8:=[105,102]
def Zeu:List UInt8:=[116,104,101,110]
def Zem:List UInt8:=[101,108,115,101]
def wIn:List UInt8:=[105,110]
def Zjt:List UInt8:=[104,97,115]
def wIs:List UInt8:=[105,115]
def Zel:List UInt8:=[108,105,107,101]
def Zkv:List UInt8:=[116,114,117,101]
def Zhn:List UInt8:=[102,97,108,115,101]
def Zqq:List UInt8:=[112,114,105,110,99,105,112,97,108]
def wAction:List UInt8:=[97,99,116,105,111,110]
def wResource:List UInt8:=[114,101,115,111,117,114,99,101]
def Zyv:List UInt8:=[99,111,110,116,101,120,116]
def Zea:List (List UInt8):=[Zqq,wAction,wResource,Zyv]
def Zoo:List UInt8:=[99,111,110,116,97,105,110,115]
def Zbv:List (List UInt8):=[Zoo,Zoo ++ [65,108,108],Zoo ++ [65,110,121]]
def Zdd:List (List UInt8):=[[38,38],[124,124],[61,61],[33,61],[60],[60,61],[62],[62,61],[105,110],[43],[45],[42]]
def Znt (s:List UInt8):Nat:=15+Zdd.idxOf s
def Zej (k:Nat):List (List UInt8):=if k=0 then [[124,124]] else if k=1 then [[38,38]] else if k=3 then [[43],[45]] else [[42]]
def Zgw:List (List UInt8):=[[61,61],[33,61],[60],[60,61],[62],[62,61]]
abbrev Zcs (α:Type):=Except (List Tok) (α × List Tok)
def Zcj:List Tok→Zcs (List UInt8)
 | t :: r=>if t.k=1∧Zcu t.t=true then .ok (t.t,r) else .error (t :: r)
 | []=>.error []
def Zda:List Tok→Zcs (List UInt8)
 | t :: r=>if t.k=3 then .ok (t.t,r) else Zcj (t :: r)
 | []=>.error []
def Zdg:List Tok→Zcs (List UInt8)
 | t :: r=>if t.k=3 then .ok (t.t,r) else .error (t :: r)
 | []=>.error []
def Zbr (s:List UInt8):List Tok→Zcs Unit
 | t :: r=>if isS t s=true then .ok ((),r) else .error (t :: r)
 | []=>.error []
def Zhy (s:List UInt8):List Tok→Zcs Unit
 | t :: r=>if isW t s=true then .ok ((),r) else .error (t :: r)
 | []=>.error []
def Zfh:Nat→List UInt8→List Tok→Zcs (List UInt8)
 | 0,acc,ts=>.ok (acc,ts)
 | f+1,acc,ts=>match Zbr [58,58] ts with
   | .error _=>.ok (acc,ts)
   | .ok (_,r)=>match Zcj r with
     | .error x=>.error x
     | .ok (s,r')=>Zfh f (acc ++ [58,58] ++ s) r'
def Zju (ts:List Tok):Zcs (List UInt8):=match Zcj ts with
 | .error x=>.error x
 | .ok (s,r)=>Zfh (r.length+1) s r
def Zlb:Nat→List UInt8→List Tok→Zcs (List UInt8 × List UInt8)
 | 0,_,ts=>.error ts
 | f+1,acc,ts=>match Zbr [58,58] ts with
   | .error x=>.error x
   | .ok (_,r)=>match Zdg r with
     | .ok (s,r')=>.ok ((acc,s),r')
     | .error _=>match Zcj r with
       | .error x=>.error x
       | .ok (s,r')=>Zlb f (acc ++ [58,58] ++ s) r'
def Zqt (ts:List Tok):Zcs (List UInt8 × List UInt8):=match Zcj ts with
 | .error x=>.error x
 | .ok (s,r)=>Zlb (r.length+1) s r
def noS:ByteArray:=⟨#[]⟩
def Zbk (o:Nat) (l:List Et):Et:=.mk o 0 noS noS [] l
inductive NT where
 | expr
 | lv (k:Nat)
 | rowT (k:Nat) (e:Et)
 | memT (e:Et)
 | items (rec:Bool) (ns:List ByteArray) (l:List Et)
def Zcn {α:Type} (x:Option (Zcs Et)) (k:Et→List Tok→Option (Zcs α)):Option (Zcs α):=match x with
 | none=>none
 | some (.error e)=>some (.error e)
 | some (.ok (e,r))=>k e r
def Zdc {α β:Type} (x:Zcs α) (k:α→List Tok→Option (Zcs β)):Option (Zcs β):=match x with
 | .error e=>some (.error e)
 | .ok (e,r)=>k e r
def okP (e:Et) (r:List Tok):Option (Zcs Et):=some (.ok (e,r))
def Zdf (rec:Bool):List UInt8:=if rec then [125] else [93]
def Zbj (rc:NT→List Tok→Option (Zcs Et)):NT→List Tok→Option (Zcs Et)
 | .expr,ts=>match ts with
   | t :: r=>
     if isW t wIf=true then
      Zcn (rc .expr r) fun a r1=>Zdc (Zhy Zeu r1) fun _ r2=>Zcn (rc .expr r2) fun b r3=>Zdc (Zhy Zem r3) fun _ r4=>Zcn (rc .expr r4) fun c r5=>okP (Zbk 14 [a,b,c]) r5
     else rc (.lv 0) ts
   | []=>rc (.lv 0) ts
 | .lv 2,ts=>Zcn (rc (.lv 3) ts) fun e ts=>match ts with
   | []=>okP e []
   | t :: r=>
     if decide (t.k=4) && Zgw.contains t.t then Zcn (rc (.lv 3) r) fun e2 r2=>okP (Zbk (Znt t.t) [e,e2]) r2
     else if isW t wIn=true then Zcn (rc (.lv 3) r) fun e2 r2=>okP (Zbk 23 [e,e2]) r2
     else if isW t Zjt=true then Zdc (Zda r) fun s r2=>okP (.mk 9 0 (str s) noS [] [e]) r2
     else if isW t wIs=true then Zdc (Zju r) fun s r2=>okP (.mk 10 0 noS (str s) [] [e]) r2
     else if isW t Zel=true then Zdc (Zdg r) fun s r2=>okP (.mk 11 0 (str s) noS [] [e]) r2
     else okP e (t :: r)
 | .lv 5,ts=>match ts with
   | t :: r=>
     if isS t [33]=true then Zcn (rc (.lv 5) r) fun e r2=>okP (Zbk 12 [e]) r2
     else if isS t [45]=true then Zcn (rc (.lv 5) r) fun e r2=>okP (Zbk 13 [e]) r2
     else rc (.lv 6) ts
   | []=>rc (.lv 6) ts
 | .lv 6,ts=>Zcn (rc (.lv 7) ts) fun e r=>rc (.memT e) r
 | .lv 7,ts=>match ts with
   | []=>some (.error [])
   | t :: r=>
     if t.k=2 then okP (.mk 2 t.n noS noS [] []) r
     else if t.k=3 then okP (.mk 3 0 (str t.t) noS [] []) r
     else if isW t Zkv=true then okP (.mk 1 1 noS noS [] []) r
     else if isW t Zhn=true then okP (.mk 1 0 noS noS [] []) r
     else if decide (t.k=1) && Zea.contains t.t then okP (.mk 5 0 (str t.t) noS [] []) r
     else if isS t [40]=true then Zcn (rc .expr r) fun e r2=>Zdc (Zbr [41] r2) fun _ r3=>okP e r3
     else if isS t [91]=true then (match r with
      | t2 :: r2=>if isS t2 [93]=true then okP (.mk 6 0 noS noS [] []) r2 else rc (.items false [] []) r
      | []=>rc (.items false [] []) r)
     else if isS t [123]=true then (match r with
      | t2 :: r2=>if isS t2 [125]=true then okP (.mk 7 0 noS noS [] []) r2 else rc (.items true [] []) r
      | []=>rc (.items true [] []) r)
     else Zdc (Zqt (t :: r)) fun u r2=>okP (.mk 4 0 (str u.2) (str u.1) [] []) r2
 | .lv k,ts=>Zcn (rc (.lv (k+1)) ts) fun e r=>rc (.rowT k e) r
 | .rowT k e,ts=>match ts with
   | []=>okP e []
   | t :: r=>if decide (t.k=4) && (Zej k).contains t.t then Zcn (rc (.lv (k+1)) r) fun e2 r2=>rc (.rowT k (Zbk (Znt t.t) [e,e2])) r2 else okP e (t :: r)
 | .memT e,ts=>match ts with
   | []=>okP e []
   | t :: r=>
     if isS t [91]=true then Zdc (Zdg r) fun s r2=>Zdc (Zbr [93] r2) fun _ r3=>rc (.memT (.mk 8 0 (str s) noS [] [e])) r3
     else if isS t [46]=true then Zdc (Zcj r) fun s r2=>
      (match r2 with
       | t2 :: r3=>if Zbv.contains s && isS t2 [40] then Zcn (rc .expr r3) fun a r4=>Zdc (Zbr [41] r4) fun _ r5=>rc (.memT (Zbk (27+Zbv.idxOf s) [e,a])) r5
          else rc (.memT (.mk 8 0 (str s) noS [] [e])) r2
       | []=>rc (.memT (.mk 8 0 (str s) noS [] [e])) r2)
     else okP e (t :: r)
 | .items rec ns l,ts=>
   Zdc (if rec then (match Zda ts with|.error x=>.error x|.ok (s,r)=>match Zbr [58] r with|.error x=>.error x|.ok (_,r2)=>.ok (ns ++ [str s],r2)) else .ok (ns,ts)) fun ns2 r=>
   Zcn (rc .expr r) fun e r2=>match r2 with
    | []=>some (.error [])
    | t :: r3=>if isS t [44]=true then rc (.items rec ns2 (l ++ [e])) r3
      else if isS t (Zdf rec)=true then okP (.mk (if rec then 7 else 6) 0 noS noS ns2 (l ++ [e])) r3 else some (.error (t :: r3))
def pr:Nat→NT→List Tok→Option (Zcs Et)
 | 0=>fun _ _=>none
 | f+1=>Zbj (pr f)
def Le {α:Type} (x y:Option α):Prop:=∀ r,x=some r→y=some r
theorem Le.refl {α:Type} (x:Option α):Le x x:=fun _ h=>h
theorem bindP_le {α:Type} {x y:Option (Zcs Et)} {k k':Et→List Tok→Option (Zcs α)} (h:Le x y) (hk:∀ e r,Le (k e r) (k' e r)):Le (Zcn x k) (Zcn y k'):=by
 intro q hq
 cases hx:x with
 | none=>rw[hx]at hq;cases hq
 | some z=>
   rw[h z hx]
   rw[hx]at hq
   cases z with
   | error e=>exact hq
   | ok z=>exact hk z.1 z.2 q hq
theorem thenP_le {α β:Type} {x:Zcs α} {k k':α→List Tok→Option (Zcs β)} (hk:∀ e r,Le (k e r) (k' e r)):Le (Zdc x k) (Zdc x k'):=by
 cases x with
 | error e=>exact Le.refl _
 | ok z=>exact hk z.1 z.2
theorem ite_le {α:Type} {c:Prop} [Decidable c] {a b a' b':Option α} (h1:Le a a') (h2:Le b b'):Le (if c then a else b) (if c then a' else b'):=by
 split
 · exact h1
 · exact h2
theorem prStep_le {rc rc':NT→List Tok→Option (Zcs Et)} (h:∀ nt ts,Le (rc nt ts) (rc' nt ts)):∀ nt ts,Le (Zbj rc nt ts) (Zbj rc' nt ts):=by
 intro nt ts
 unfold Zbj
 split <;> repeat' (first|exact h _ _|exact Le.refl _|apply ite_le|(apply bindP_le;exact h _ _;intro e r)|(apply thenP_le;intro e r)|split)
theorem pr_mono:∀ (f:Nat) (nt:NT) (ts:List Tok),Le (pr f nt ts) (pr (f+1) nt ts):=by
 intro f
 induction f with
 | zero=>intro nt ts r h;cases h
 | succ f ih=>exact prStep_le ih
theorem pr_le {f g:Nat} (h:f≤g) (nt:NT) (ts:List Tok):Le (pr f nt ts) (pr g nt ts):=by
 induction h with
 | refl=>exact Le.refl _
 | step _ ih=>exact fun r hr=>pr_mono _ nt ts r (ih r hr)
theorem pr_one {f g:Nat} {nt:NT} {ts:List Tok} {r q:Zcs Et} (h:pr f nt ts=some r) (k:pr g nt ts=some q):r=q:=by
 have h1:=pr_le (Nat.le_max_left f g) nt ts r h
 have h2:=pr_le (Nat.le_max_right f g) nt ts q k
 rw[h1]at h2
 exact Option.some.inj h2
theorem Zbp {α:Type} {x:Option (Zcs Et)} {k:Et→List Tok→Option (Zcs α)} {y:Zcs α} (h:Zcn x k=some y):(∃ e,x=some (.error e)∧y=.error e)∨∃ e r,x=some (.ok (e,r))∧k e r=some y:=by
 cases x with
 | none=>cases h
 | some z=>
   cases z with
   | error e=>exact .inl ⟨e,rfl,by simpa [Zcn] using h.symm⟩
   | ok z=>exact .inr ⟨z.1,z.2,rfl,h⟩
theorem Zca {α β:Type} {x:Zcs α} {k:α→List Tok→Option (Zcs β)} {y:Zcs β} (h:Zdc x k=some y):(∃ e,x=.error e∧y=.error e)∨∃ e r,x=.ok (e,r)∧k e r=some y:=by
 cases x with
 | error e=>exact .inl ⟨e,rfl,by simpa [Zdc] using h.symm⟩
 | ok z=>exact .inr ⟨z.1,z.2,rfl,h⟩
theorem Zaw {α:Type} {x:Option (Zcs Et)} {k:Et→List Tok→Option (Zcs α)} {e:Et} {r:List Tok} (h:x=some (.ok (e,r))):Zcn x k=k e r:=by rw[h];rfl
theorem Zbb {α β:Type} {x:Zcs α} {k:α→List Tok→Option (Zcs β)} {e:α} {r:List Tok} (h:x=.ok (e,r)):Zdc x k=k e r:=by rw[h];rfl
section
variable {g:Tok→Tok} {x:List Tok} (hk:∀ t,(g t).k=t.k) (ht:∀ t,(g t).t=t.t) (hn:∀ t,(g t).n=t.n)
 (hx:∀ t x',x=t :: x'→t.k=4∧t.t=[41])
def mv (g:Tok→Tok) (x:List Tok) (ts:List Tok):List Tok:=ts.map g ++ x
theorem Zex (t:Tok) (ts:List Tok):mv g x (t :: ts)=g t :: mv g x ts:=rfl
include hk ht in
theorem Zvo (t:Tok) (s:List UInt8):isW (g t) s=isW t s:=by unfold isW;rw[hk,ht]
include hk ht in
theorem Znd (t:Tok) (s:List UInt8):isS (g t) s=isS t s:=by unfold isS;rw[hk,ht]
theorem Zlt {t:Tok} (h:t.k=4∧t.t=[41]) (s:List UInt8):isW t s=false:=by unfold isW;rw[h.1];rfl
theorem Zjf {t:Tok} (h:t.k=4∧t.t=[41]) {s:List UInt8} (hs:s ≠ [41]):isS t s=false:=by
 unfold isS
 rw[h.1,h.2]
 simp only[decide_true,Bool.true_and]
 exact beq_eq_false_iff_ne.2 (Ne.symm hs)
include hk ht in
theorem Zkl {ts:List Tok} {s:List UInt8} {r:List Tok} (h:Zcj ts=.ok (s,r)):Zcj (mv g x ts)=.ok (s,mv g x r):=by
 cases ts with
 | nil=>cases h
 | cons t ts=>
   rw[Zex]
   simp only[Zcj]at h ⊢
   rw[hk,ht]
   split at h
   · next hc=>rw[if_pos hc];cases h;rfl
   · cases h
include hk ht in
theorem Zsb {ts:List Tok} {s:List UInt8} {r:List Tok} (h:Zdg ts=.ok (s,r)):Zdg (mv g x ts)=.ok (s,mv g x r):=by
 cases ts with
 | nil=>cases h
 | cons t ts=>
   rw[Zex]
   simp only[Zdg]at h ⊢
   rw[hk,ht]
   split at h
   · next hc=>rw[if_pos hc];cases h;rfl
   · cases h
include hk ht in
theorem Zvj {ts:List Tok} {s:List UInt8} {r:List Tok} (h:Zda ts=.ok (s,r)):Zda (mv g x ts)=.ok (s,mv g x r):=by
 cases ts with
 | nil=>cases h
 | cons t ts=>
   rw[Zex]
   simp only[Zda]at h ⊢
   rw[hk,ht]
   split at h
   · next hc=>rw[if_pos hc];cases h;rfl
   · next hc=>rw[if_neg hc];exact Zkl (x:=x) hk ht h
include hk ht in
theorem Zki {s:List UInt8} {ts:List Tok} {r:List Tok} (h:Zbr s ts=.ok ((),r)):Zbr s (mv g x ts)=.ok ((),mv g x r):=by
 cases ts with
 | nil=>cases h
 | cons t ts=>
   rw[Zex]
   simp only[Zbr]at h ⊢
   rw[Znd hk ht]
   split at h
   · next hc=>rw[if_pos hc];cases h;rfl
   · cases h
include hk ht in
theorem Zyu {s:List UInt8} {ts:List Tok} {r:List Tok} (h:Zhy s ts=.ok ((),r)):Zhy s (mv g x ts)=.ok ((),mv g x r):=by
 cases ts with
 | nil=>cases h
 | cons t ts=>
   rw[Zex]
   simp only[Zhy]at h ⊢
   rw[Zvo hk ht]
   split at h
   · next hc=>rw[if_pos hc];cases h;rfl
   · cases h
include hk ht hx in
theorem Zxh {s:List UInt8} (hs:s ≠ [41]) {ts e:List Tok} (h:Zbr s ts=.error e):∃ e',Zbr s (mv g x ts)=.error e':=by
 cases ts with
 | nil=>
   show ∃ e',Zbr s x=.error e'
   cases x with
   | nil=>exact ⟨_,rfl⟩
   | cons t x'=>
     simp only[Zbr]
     rw[Zjf (hx t x' rfl) hs]
     exact ⟨_,rfl⟩
 | cons t ts=>
   rw[Zex]
   simp only[Zbr]at h ⊢
   rw[Znd hk ht]
   split at h
   · cases h
   · next hc=>rw[if_neg hc];exact ⟨_,rfl⟩
include hk ht in
theorem Zxa {ts e:List Tok} (hx:∀ t x',x=t :: x'→t.k=4∧t.t=[41]) (h:Zdg ts=.error e):∃ e',Zdg (mv g x ts)=.error e':=by
 cases ts with
 | nil=>
   show ∃ e',Zdg x=.error e'
   cases x with
   | nil=>exact ⟨_,rfl⟩
   | cons t x'=>
     simp only[Zdg]
     rw[if_neg (by rw[(hx t x' rfl).1];decide)]
     exact ⟨_,rfl⟩
 | cons t ts=>
   rw[Zex]
   simp only[Zdg]at h ⊢
   rw[hk]
   split at h
   · cases h
   · next hc=>rw[if_neg hc];exact ⟨_,rfl⟩
end
theorem Zcv {s:List UInt8} {ts r:List Tok} (h:Zbr s ts=.ok ((),r)):∃ t,ts=t :: r:=by
 cases ts with
 | nil=>cases h
 | cons t ts=>
   simp only[Zbr]at h
   split at h
   · cases h;exact ⟨t,rfl⟩
   · cases h
theorem Zon {s:List UInt8} {ts r:List Tok} (h:Zhy s ts=.ok ((),r)):∃ t,ts=t :: r:=by
 cases ts with
 | nil=>cases h
 | cons t ts=>
   simp only[Zhy]at h
   split at h
   · cases h;exact ⟨t,rfl⟩
   · cases h
theorem Zce {s:List UInt8} {ts r:List Tok} (h:Zcj ts=.ok (s,r)):∃ t,ts=t :: r∧t.t=s:=by
 cases ts with
 | nil=>cases h
 | cons t ts=>
   simp only[Zcj]at h
   split at h
   · cases h;exact ⟨t,rfl,rfl⟩
   · cases h
theorem Zjv {s:List UInt8} {ts r:List Tok} (h:Zdg ts=.ok (s,r)):∃ t,ts=t :: r∧t.t=s:=by
 cases ts with
 | nil=>cases h
 | cons t ts=>
   simp only[Zdg]at h
   split at h
   · cases h;exact ⟨t,rfl,rfl⟩
   · cases h
theorem Zkp {s:List UInt8} {ts r:List Tok} (h:Zda ts=.ok (s,r)):∃ t,ts=t :: r∧t.t=s:=by
 cases ts with
 | nil=>cases h
 | cons t ts=>
   simp only[Zda]at h
   split at h
   · cases h;exact ⟨t,rfl,rfl⟩
   · exact Zce h
theorem Zuk {s:List UInt8} {ts e:List Tok} (h:Zbr s ts=.error e):e=ts:=by
 cases ts with
 | nil=>cases h;rfl
 | cons t ts=>
   simp only[Zbr]at h
   split at h
   · cases h
   · cases h;rfl
theorem wordP_err {s:List UInt8} {ts e:List Tok} (h:Zhy s ts=.error e):e=ts:=by
 cases ts with
 | nil=>cases h;rfl
 | cons t ts=>
   simp only[Zhy]at h
   split at h
   · cases h
   · cases h;rfl
theorem Ziw {ts e:List Tok} (h:Zcj ts=.error e):e=ts:=by
 cases ts with
 | nil=>cases h;rfl
 | cons t ts=>
   simp only[Zcj]at h
   split at h
   · cases h
   · cases h;rfl
theorem textP_err {ts e:List Tok} (h:Zdg ts=.error e):e=ts:=by
 cases ts with
 | nil=>cases h;rfl
 | cons t ts=>
   simp only[Zdg]at h
   split at h
   · cases h
   · cases h;rfl
theorem labelP_err {ts e:List Tok} (h:Zda ts=.error e):e=ts:=by
 cases ts with
 | nil=>cases h;rfl
 | cons t ts=>
   simp only[Zda]at h
   split at h
   · cases h
   · exact Ziw h
theorem Zqw:∀ (f g:Nat) (acc:List UInt8) (ts:List Tok),ts.length < f→ts.length < g→Zfh f acc ts=Zfh g acc ts
 | 0,_,_,_,h,_=>by omega
 | f+1,0,_,_,_,h=>by omega
 | f+1,g+1,acc,ts,h1,h2=>by
   unfold Zfh
   cases hs:Zbr [58,58] ts with
   | error e=>rfl
   | ok z=>
     obtain ⟨⟨⟩,r⟩:=z
     obtain ⟨t,rfl⟩:=Zcv hs
     simp only[]
     cases hn:Zcj r with
     | error e=>rfl
     | ok z=>
       obtain ⟨s,r'⟩:=z
       obtain ⟨t',rfl,_⟩:=Zce hn
       exact Zqw f g _ _ (by simp at h1;omega) (by simp at h2;omega)
theorem Zuc:∀ (f g:Nat) (acc:List UInt8) (ts:List Tok),ts.length < f→ts.length < g→Zlb f acc ts=Zlb g acc ts
 | 0,_,_,_,h,_=>by omega
 | f+1,0,_,_,_,h=>by omega
 | f+1,g+1,acc,ts,h1,h2=>by
   unfold Zlb
   cases hs:Zbr [58,58] ts with
   | error e=>rfl
   | ok z=>
     obtain ⟨⟨⟩,r⟩:=z
     obtain ⟨t,rfl⟩:=Zcv hs
     simp only[]
     cases hq:Zdg r with
     | ok z=>rfl
     | error e=>
       simp only[]
       cases hn:Zcj r with
       | error e=>rfl
       | ok z=>
         obtain ⟨s,r'⟩:=z
         obtain ⟨t',rfl,_⟩:=Zce hn
         exact Zuc f g _ _ (by simp at h1;omega) (by simp at h2;omega)
section
variable {g:Tok→Tok} {x:List Tok} (hk:∀ t,(g t).k=t.k) (ht:∀ t,(g t).t=t.t) (hn:∀ t,(g t).n=t.n)
 (hx:∀ t x',x=t :: x'→t.k=4∧t.t=[41])
include hk ht hx in
theorem Zyz:∀ (f:Nat) (acc:List UInt8) (ts:List Tok) (s:List UInt8) (r:List Tok) (f':Nat),ts.length < f→(mv g x ts).length < f'→Zfh f acc ts=.ok (s,r)→Zfh f' acc (mv g x ts)=.ok (s,mv g x r)
 | 0,_,_,_,_,_,h,_,_=>by omega
 | f+1,acc,ts,s,r,0,_,h,_=>by omega
 | f+1,acc,ts,s,r,f'+1,h1,h2,h=>by
   unfold Zfh at h ⊢
   cases hs:Zbr [58,58] ts with
   | error e=>
     obtain ⟨e',he'⟩:=Zxh hk ht hx (by decide) hs
     rw[he']
     rw[hs]at h
     cases h
     rfl
   | ok z=>
     obtain ⟨⟨⟩,r1⟩:=z
     obtain ⟨t,rfl⟩:=Zcv hs
     rw[hs]at h
     rw[Zki (x:=x) hk ht hs]
     simp only[]at h ⊢
     cases hn:Zcj r1 with
     | error e=>rw[hn]at h;cases h
     | ok z=>
       obtain ⟨s1,r'⟩:=z
       rw[hn]at h
       rw[Zkl (x:=x) hk ht hn]
       obtain ⟨t',rfl,_⟩:=Zce hn
       exact Zyz f _ _ _ _ f' (by simp at h1;omega) (by simp[mv]at h2 ⊢;omega) h
include hk ht hx in
theorem typeP_mv {ts:List Tok} {s:List UInt8} {r:List Tok} (h:Zju ts=.ok (s,r)):Zju (mv g x ts)=.ok (s,mv g x r):=by
 unfold Zju at h ⊢
 cases hn:Zcj ts with
 | error e=>rw[hn]at h;cases h
 | ok z=>
   obtain ⟨s1,r'⟩:=z
   rw[hn]at h
   rw[Zkl (x:=x) hk ht hn]
   exact Zyz hk ht hx _ _ _ _ _ _ (by omega) (by omega) h
include hk ht hx in
theorem uidT_mv:∀ (f:Nat) (acc:List UInt8) (ts:List Tok) (s:List UInt8 × List UInt8) (r:List Tok) (f':Nat),ts.length < f→(mv g x ts).length < f'→Zlb f acc ts=.ok (s,r)→Zlb f' acc (mv g x ts)=.ok (s,mv g x r)
 | 0,_,_,_,_,_,h,_,_=>by omega
 | f+1,acc,ts,s,r,0,_,h,_=>by omega
 | f+1,acc,ts,s,r,f'+1,h1,h2,h=>by
   unfold Zlb at h ⊢
   cases hs:Zbr [58,58] ts with
   | error e=>rw[hs]at h;cases h
   | ok z=>
     obtain ⟨⟨⟩,r1⟩:=z
     obtain ⟨t,rfl⟩:=Zcv hs
     rw[hs]at h
     rw[Zki (x:=x) hk ht hs]
     simp only[]at h ⊢
     cases hq:Zdg r1 with
     | ok z=>
       rw[hq]at h
       obtain ⟨s1,r'⟩:=z
       rw[Zsb (x:=x) hk ht hq]
       cases h
       rfl
     | error e=>
       obtain ⟨e',he'⟩:=Zxa hk ht hx hq
       rw[hq]at h
       rw[he']
       simp only[]at h ⊢
       cases hn:Zcj r1 with
       | error e=>rw[hn]at h;cases h
       | ok z=>
         obtain ⟨s1,r'⟩:=z
         rw[hn]at h
         rw[Zkl (x:=x) hk ht hn]
         obtain ⟨t',rfl,_⟩:=Zce hn
         exact uidT_mv f _ _ _ _ f' (by simp at h1;omega) (by simp[mv]at h2 ⊢;omega) h
include hk ht hx in
theorem uidP_mv {ts:List Tok} {s:List UInt8 × List UInt8} {r:List Tok} (h:Zqt ts=.ok (s,r)):Zqt (mv g x ts)=.ok (s,mv g x r):=by
 unfold Zqt at h ⊢
 cases hn:Zcj ts with
 | error e=>rw[hn]at h;cases h
 | ok z=>
   obtain ⟨s1,r'⟩:=z
   rw[hn]at h
   rw[Zkl (x:=x) hk ht hn]
   exact uidT_mv hk ht hx _ _ _ _ _ _ (by omega) (by omega) h
end
section
variable {rc:NT→List Tok→Option (Zcs Et)}
theorem Zxg:Zbj rc .expr []=rc (.lv 0) []:=rfl
theorem Zhq (t:Tok) (r:List Tok):Zbj rc .expr (t :: r)=if isW t wIf=true then
 Zcn (rc .expr r) fun a r1=>Zdc (Zhy Zeu r1) fun _ r2=>Zcn (rc .expr r2) fun b r3=>Zdc (Zhy Zem r3) fun _ r4=>Zcn (rc .expr r4) fun c r5=>okP (Zbk 14 [a,b,c]) r5
 else rc (.lv 0) (t :: r):=rfl
def Zsj (rc:NT→List Tok→Option (Zcs Et)) (e:Et):List Tok→Option (Zcs Et)
 | []=>okP e []
 | t :: r=>
   if decide (t.k=4) && Zgw.contains t.t then Zcn (rc (.lv 3) r) fun e2 r2=>okP (Zbk (Znt t.t) [e,e2]) r2
   else if isW t wIn=true then Zcn (rc (.lv 3) r) fun e2 r2=>okP (Zbk 23 [e,e2]) r2
   else if isW t Zjt=true then Zdc (Zda r) fun s r2=>okP (.mk 9 0 (str s) noS [] [e]) r2
   else if isW t wIs=true then Zdc (Zju r) fun s r2=>okP (.mk 10 0 noS (str s) [] [e]) r2
   else if isW t Zel=true then Zdc (Zdg r) fun s r2=>okP (.mk 11 0 (str s) noS [] [e]) r2
   else okP e (t :: r)
theorem Zip (ts:List Tok):Zbj rc (.lv 2) ts=Zcn (rc (.lv 3) ts) (Zsj rc):=by
 have:Zsj rc=fun e ts=>Zsj rc e ts:=rfl
 rw[this]
 unfold Zbj
 simp only[]
 congr 1
theorem st_un_nil:Zbj rc (.lv 5) []=rc (.lv 6) []:=rfl
theorem Zqj (t:Tok) (r:List Tok):Zbj rc (.lv 5) (t :: r)=if isS t [33]=true then Zcn (rc (.lv 5) r) fun e r2=>okP (Zbk 12 [e]) r2
 else if isS t [45]=true then Zcn (rc (.lv 5) r) fun e r2=>okP (Zbk 13 [e]) r2 else rc (.lv 6) (t :: r):=rfl
theorem Zuf (ts:List Tok):Zbj rc (.lv 6) ts=Zcn (rc (.lv 7) ts) fun e r=>rc (.memT e) r:=rfl
def Zqe (rc:NT→List Tok→Option (Zcs Et)) (rec:Bool) (r:List Tok):Option (Zcs Et):=match r with
 | t2 :: r2=>if isS t2 (Zdf rec)=true then okP (.mk (if rec then 7 else 6) 0 noS noS [] []) r2 else rc (.items rec [] []) r
 | []=>rc (.items rec [] []) r
theorem Zxf:Zbj rc (.lv 7) []=some (.error []):=rfl
theorem Zfr (t:Tok) (r:List Tok):Zbj rc (.lv 7) (t :: r) =
 if t.k=2 then okP (.mk 2 t.n noS noS [] []) r
 else if t.k=3 then okP (.mk 3 0 (str t.t) noS [] []) r
 else if isW t Zkv=true then okP (.mk 1 1 noS noS [] []) r
 else if isW t Zhn=true then okP (.mk 1 0 noS noS [] []) r
 else if decide (t.k=1) && Zea.contains t.t then okP (.mk 5 0 (str t.t) noS [] []) r
 else if isS t [40]=true then Zcn (rc .expr r) fun e r2=>Zdc (Zbr [41] r2) fun _ r3=>okP e r3
 else if isS t [91]=true then Zqe rc false r
 else if isS t [123]=true then Zqe rc true r
 else Zdc (Zqt (t :: r)) fun u r2=>okP (.mk 4 0 (str u.2) (str u.1) [] []) r2:=by
 cases r <;> rfl
theorem Zlu (k:Nat) (h2:k ≠ 2) (h5:k ≠ 5) (h6:k ≠ 6) (h7:k ≠ 7) (ts:List Tok):Zbj rc (.lv k) ts=Zcn (rc (.lv (k+1)) ts) fun e r=>rc (.rowT k e) r:=by
 match k,h2,h5,h6,h7 with
 | 0,_,_,_,_=>rfl
 | 1,_,_,_,_=>rfl
 | 3,_,_,_,_=>rfl
 | 4,_,_,_,_=>rfl
 | k+8,_,_,_,_=>rfl
theorem Zgv (k:Nat) (e:Et) (t:Tok) (r:List Tok):Zbj rc (.rowT k e) (t :: r)=if decide (t.k=4) && (Zej k).contains t.t then Zcn (rc (.lv (k+1)) r) fun e2 r2=>rc (.rowT k (Zbk (Znt t.t) [e,e2])) r2 else okP e (t :: r):=rfl
def dotT (rc:NT→List Tok→Option (Zcs Et)) (e:Et) (s:List UInt8) (r2:List Tok):Option (Zcs Et):=match r2 with
 | t2 :: r3=>if Zbv.contains s && isS t2 [40] then Zcn (rc .expr r3) fun a r4=>Zdc (Zbr [41] r4) fun _ r5=>rc (.memT (Zbk (27+Zbv.idxOf s) [e,a])) r5
    else rc (.memT (.mk 8 0 (str s) noS [] [e])) r2
 | []=>rc (.memT (.mk 8 0 (str s) noS [] [e])) r2
theorem Zgd (e:Et) (t:Tok) (r:List Tok):Zbj rc (.memT e) (t :: r) =
 if isS t [91]=true then Zdc (Zdg r) fun s r2=>Zdc (Zbr [93] r2) fun _ r3=>rc (.memT (.mk 8 0 (str s) noS [] [e])) r3
 else if isS t [46]=true then Zdc (Zcj r) (dotT rc e)
 else okP e (t :: r):=by
 have:dotT rc e=fun s r2=>dotT rc e s r2:=rfl
 rw[this]
 unfold Zbj
 simp only[]
 congr 1
def Zkx (rec:Bool) (ns:List ByteArray) (ts:List Tok):Zcs (List ByteArray):=if rec then (match Zda ts with|.error x=>.error x|.ok (s,r)=>match Zbr [58] r with|.error x=>.error x|.ok (_,r2)=>.ok (ns ++ [str s],r2)) else .ok (ns,ts)
def Znc (rc:NT→List Tok→Option (Zcs Et)) (rec:Bool) (l:List Et) (ns2:List ByteArray) (e:Et) (r2:List Tok):Option (Zcs Et):=match r2 with
 | []=>some (.error [])
 | t :: r3=>if isS t [44]=true then rc (.items rec ns2 (l ++ [e])) r3
   else if isS t (Zdf rec)=true then okP (.mk (if rec then 7 else 6) 0 noS noS ns2 (l ++ [e])) r3 else some (.error (t :: r3))
theorem Zfs (rec:Bool) (ns:List ByteArray) (l:List Et) (ts:List Tok):Zbj rc (.items rec ns l) ts=Zdc (Zkx rec ns ts) fun ns2 r=>Zcn (rc .expr r) (Znc rc rec l ns2):=by
 unfold Zbj
 simp only[]
 have e1:(fun ns2 r=>Zcn (rc .expr r) (Znc rc rec l ns2))=fun ns2 r=>Zcn (rc .expr r) fun e r2=>match r2 with
  | []=>some (.error [])
  | t :: r3=>if isS t [44]=true then rc (.items rec ns2 (l ++ [e])) r3
    else if isS t (Zdf rec)=true then okP (.mk (if rec then 7 else 6) 0 noS noS ns2 (l ++ [e])) r3 else some (.error (t :: r3)):=by
  funext ns2 r
  congr 1
 rw[e1]
 rfl
end
section
variable {g:Tok→Tok} {x:List Tok} (hk:∀ t,(g t).k=t.k) (ht:∀ t,(g t).t=t.t) (hn:∀ t,(g t).n=t.n)
 (hx:∀ t x',x=t :: x'→t.k=4∧t.t=[41]) {rc:NT→List Tok→Option (Zcs Et)}
theorem itemP_mv {g:Tok→Tok} {x:List Tok} (hk:∀ t,(g t).k=t.k) (ht:∀ t,(g t).t=t.t) {rec:Bool} {ns a:List ByteArray} {ts r:List Tok} (h:Zkx rec ns ts=.ok (a,r)):Zkx rec ns (mv g x ts)=.ok (a,mv g x r):=by
 unfold Zkx at h ⊢
 cases rec with
 | false=>simp only[Bool.false_eq_true,if_false]at h ⊢;cases h;rfl
 | true=>
   simp only[if_true]at h ⊢
   cases hl:Zda ts with
   | error e=>rw[hl]at h;cases h
   | ok z=>
     obtain ⟨s,r1⟩:=z
     rw[hl]at h
     rw[Zvj (x:=x) hk ht hl]
     simp only[]at h ⊢
     cases hs:Zbr [58] r1 with
     | error e=>rw[hs]at h;cases h
     | ok z=>
       obtain ⟨⟨⟩,r2⟩:=z
       rw[hs]at h
       rw[Zki (x:=x) hk ht hs]
       simp only[]at h ⊢
       cases h
       rfl
def Mv (g:Tok→Tok) (x:List Tok) (rc:NT→List Tok→Option (Zcs Et)):Prop:=∀ nt ts e r,rc nt ts=some (.ok (e,r))→rc nt (mv g x ts)=some (.ok (e,mv g x r))
include hk ht hn hx in
theorem step_mv (hrc:Mv g x rc):Mv g x (Zbj rc):=by
 intro nt ts e r h
 cases nt with
 | expr=>
   cases ts with
   | nil=>
     rw[Zxg]at h
     have h1:=hrc _ _ _ _ h
     show Zbj rc .expr x=_
     cases x with
     | nil=>exact h1
     | cons t x'=>
       rw[Zhq,if_neg (by rw[Zlt (hx t x' rfl)];decide)]
       exact h1
   | cons t ts=>
     rw[Zhq]at h
     rw[Zex,Zhq,Zvo hk ht]
     by_cases c:isW t wIf=true
     · rw[if_pos c]at h ⊢
       rcases Zbp h with ⟨_,_,h⟩|⟨a,r1,h1,h⟩
       · cases h
       rw[Zaw (hrc _ _ _ _ h1)]
       rcases Zca h with ⟨_,_,h⟩|⟨u,r2,h2,h⟩
       · cases h
       rw[Zbb (Zyu hk ht h2)]
       rcases Zbp h with ⟨_,_,h⟩|⟨b,r3,h3,h⟩
       · cases h
       rw[Zaw (hrc _ _ _ _ h3)]
       rcases Zca h with ⟨_,_,h⟩|⟨u,r4,h4,h⟩
       · cases h
       rw[Zbb (Zyu hk ht h4)]
       rcases Zbp h with ⟨_,_,h⟩|⟨d,r5,h5,h⟩
       · cases h
       rw[Zaw (hrc _ _ _ _ h5)]
       cases h
       rfl
     · rw[if_neg c]at h ⊢
       exact hrc _ _ _ _ h
 | lv k=>
   by_cases h2:k=2
   · subst h2
     rw[Zip]at h ⊢
     rcases Zbp h with ⟨_,_,h⟩|⟨a,r1,h1,h⟩
     · cases h
     rw[Zaw (hrc _ _ _ _ h1)]
     cases r1 with
     | nil=>
       cases h
       show Zsj rc e x=_
       cases x with
       | nil=>rfl
       | cons t x'=>
         have hs:=hx t x' rfl
         simp only[Zsj]
         rw[if_neg (by rw[hs.2];simp[Zgw]),if_neg (by rw[Zlt hs];decide),if_neg (by rw[Zlt hs];decide),if_neg (by rw[Zlt hs];decide),if_neg (by rw[Zlt hs];decide)]
         rfl
     | cons t r1=>
       rw[Zex]
       simp only[Zsj]at h ⊢
       rw[Zvo hk ht,Zvo hk ht,Zvo hk ht,Zvo hk ht,hk,ht]
       by_cases c:(decide (t.k=4) && Zgw.contains t.t)=true
       · rw[if_pos c]at h ⊢
         rcases Zbp h with ⟨_,_,h⟩|⟨b,r3,h3,h⟩
         · cases h
         rw[Zaw (hrc _ _ _ _ h3)]
         cases h
         rfl
       rw[if_neg c]at h ⊢
       by_cases c:isW t wIn=true
       · rw[if_pos c]at h ⊢
         rcases Zbp h with ⟨_,_,h⟩|⟨b,r3,h3,h⟩
         · cases h
         rw[Zaw (hrc _ _ _ _ h3)]
         cases h
         rfl
       rw[if_neg c]at h ⊢
       by_cases c:isW t Zjt=true
       · rw[if_pos c]at h ⊢
         rcases Zca h with ⟨_,_,h⟩|⟨b,r3,h3,h⟩
         · cases h
         rw[Zbb (Zvj hk ht h3)]
         cases h
         rfl
       rw[if_neg c]at h ⊢
       by_cases c:isW t wIs=true
       · rw[if_pos c]at h ⊢
         rcases Zca h with ⟨_,_,h⟩|⟨b,r3,h3,h⟩
         · cases h
         rw[Zbb (typeP_mv hk ht hx h3)]
         cases h
         rfl
       rw[if_neg c]at h ⊢
       by_cases c:isW t Zel=true
       · rw[if_pos c]at h ⊢
         rcases Zca h with ⟨_,_,h⟩|⟨b,r3,h3,h⟩
         · cases h
         rw[Zbb (Zsb hk ht h3)]
         cases h
         rfl
       rw[if_neg c]at h ⊢
       cases h
       rfl
   by_cases h5:k=5
   · subst h5
     cases ts with
     | nil=>
       rw[st_un_nil]at h
       have h1:=hrc _ _ _ _ h
       show Zbj rc (.lv 5) x=_
       cases x with
       | nil=>exact h1
       | cons t x'=>
         have hs:=hx t x' rfl
         rw[Zqj,if_neg (by rw[Zjf hs (by decide)];decide),if_neg (by rw[Zjf hs (by decide)];decide)]
         exact h1
     | cons t ts=>
       rw[Zqj]at h
       rw[Zex,Zqj,Znd hk ht,Znd hk ht]
       by_cases c:isS t [33]=true
       · rw[if_pos c]at h ⊢
         rcases Zbp h with ⟨_,_,h⟩|⟨b,r3,h3,h⟩
         · cases h
         rw[Zaw (hrc _ _ _ _ h3)]
         cases h
         rfl
       rw[if_neg c]at h ⊢
       by_cases c:isS t [45]=true
       · rw[if_pos c]at h ⊢
         rcases Zbp h with ⟨_,_,h⟩|⟨b,r3,h3,h⟩
         · cases h
         rw[Zaw (hrc _ _ _ _ h3)]
         cases h
         rfl
       rw[if_neg c]at h ⊢
       exact hrc _ _ _ _ h
   by_cases h6:k=6
   · subst h6
     rw[Zuf]at h ⊢
     rcases Zbp h with ⟨_,_,h⟩|⟨b,r3,h3,h⟩
     · cases h
     rw[Zaw (hrc _ _ _ _ h3)]
     exact hrc _ _ _ _ h
   by_cases h7:k=7
   · subst h7
     cases ts with
     | nil=>rw[Zxf]at h;cases h
     | cons t ts=>
       have hbrk:∀ b:Bool,Zqe rc b ts=some (.ok (e,r))→Zqe rc b (mv g x ts)=some (.ok (e,mv g x r)):=by
        intro b h
        cases ts with
        | nil=>
          have h1:=hrc _ _ _ _ h
          show Zqe rc b x=_
          cases x with
          | nil=>exact h1
          | cons t2 x'=>
            simp only[Zqe]
            rw[if_neg (by rw[Zjf (hx t2 x' rfl) (by cases b <;> decide)];decide)]
            exact h1
        | cons t2 ts2=>
          rw[Zex]
          simp only[Zqe]at h ⊢
          rw[Znd hk ht]
          by_cases c:isS t2 (Zdf b)=true
          · rw[if_pos c]at h ⊢
            cases h
            rfl
          · rw[if_neg c]at h ⊢
            exact hrc _ _ _ _ h
       have huid:∀ (u:List UInt8 × List UInt8) r2,Zqt (t :: ts)=.ok (u,r2)→Zqt (g t :: mv g x ts)=.ok (u,mv g x r2):=fun u r2 h=>uidP_mv (x:=x) hk ht hx h
       rw[Zfr]at h
       rw[Zex,Zfr,Zvo hk ht,Zvo hk ht,Znd hk ht,Znd hk ht,Znd hk ht,hk,ht,hn]
       by_cases c:t.k=2
       · rw[if_pos c]at h ⊢;cases h;rfl
       rw[if_neg c]at h ⊢
       by_cases c:t.k=3
       · rw[if_pos c]at h ⊢;cases h;rfl
       rw[if_neg c]at h ⊢
       by_cases c:isW t Zkv=true
       · rw[if_pos c]at h ⊢;cases h;rfl
       rw[if_neg c]at h ⊢
       by_cases c:isW t Zhn=true
       · rw[if_pos c]at h ⊢;cases h;rfl
       rw[if_neg c]at h ⊢
       by_cases c:(decide (t.k=1) && Zea.contains t.t)=true
       · rw[if_pos c]at h ⊢;cases h;rfl
       rw[if_neg c]at h ⊢
       by_cases c:isS t [40]=true
       · rw[if_pos c]at h ⊢
         rcases Zbp h with ⟨_,_,h⟩|⟨b,r3,h3,h⟩
         · cases h
         rw[Zaw (hrc _ _ _ _ h3)]
         rcases Zca h with ⟨_,_,h⟩|⟨u,r4,h4,h⟩
         · cases h
         rw[Zbb (Zki hk ht h4)]
         cases h
         rfl
       rw[if_neg c]at h ⊢
       by_cases c:isS t [91]=true
       · rw[if_pos c]at h ⊢
         exact hbrk _ h
       rw[if_neg c]at h ⊢
       by_cases c:isS t [123]=true
       · rw[if_pos c]at h ⊢
         exact hbrk _ h
       rw[if_neg c]at h ⊢
       rcases Zca h with ⟨_,_,h⟩|⟨u,r4,h4,h⟩
       · cases h
       rw[Zbb (huid _ _ h4)]
       cases h
       rfl
   rw[Zlu k h2 h5 h6 h7]at h ⊢
   rcases Zbp h with ⟨_,_,h⟩|⟨b,r3,h3,h⟩
   · cases h
   rw[Zaw (hrc _ _ _ _ h3)]
   exact hrc _ _ _ _ h
 | rowT k a=>
   cases ts with
   | nil=>
     cases h
     show Zbj rc (.rowT k e) x=_
     cases x with
     | nil=>rfl
     | cons t x'=>
       have hs:=hx t x' rfl
       rw[Zgv,if_neg (by
        rw[hs.2]
        unfold Zej
        by_cases c0:k=0
        · rw[if_pos c0];simp
        rw[if_neg c0]
        by_cases c1:k=1
        · rw[if_pos c1];simp
        rw[if_neg c1]
        by_cases c3:k=3
        · rw[if_pos c3];simp
        rw[if_neg c3];simp)]
       rfl
   | cons t ts=>
     rw[Zgv]at h
     rw[Zex,Zgv,hk,ht]
     by_cases c:(decide (t.k=4) && (Zej k).contains t.t)=true
     · rw[if_pos c]at h ⊢
       rcases Zbp h with ⟨_,_,h⟩|⟨b,r3,h3,h⟩
       · cases h
       rw[Zaw (hrc _ _ _ _ h3)]
       exact hrc _ _ _ _ h
     · rw[if_neg c]at h ⊢
       cases h
       rfl
 | memT a=>
   cases ts with
   | nil=>
     cases h
     show Zbj rc (.memT e) x=_
     cases x with
     | nil=>rfl
     | cons t x'=>
       have hs:=hx t x' rfl
       rw[Zgd,if_neg (by rw[Zjf hs (by decide)];decide),if_neg (by rw[Zjf hs (by decide)];decide)]
       rfl
   | cons t ts=>
     rw[Zgd]at h
     rw[Zex,Zgd,Znd hk ht,Znd hk ht]
     by_cases c:isS t [91]=true
     · rw[if_pos c]at h ⊢
       rcases Zca h with ⟨_,_,h⟩|⟨s,r3,h3,h⟩
       · cases h
       rw[Zbb (Zsb hk ht h3)]
       rcases Zca h with ⟨_,_,h⟩|⟨u,r4,h4,h⟩
       · cases h
       rw[Zbb (Zki hk ht h4)]
       exact hrc _ _ _ _ h
     rw[if_neg c]at h ⊢
     by_cases c:isS t [46]=true
     · rw[if_pos c]at h ⊢
       rcases Zca h with ⟨_,_,h⟩|⟨s,r3,h3,h⟩
       · cases h
       rw[Zbb (Zkl hk ht h3)]
       cases r3 with
       | nil=>
         have h1:=hrc _ _ _ _ h
         show dotT rc a s x=_
         cases x with
         | nil=>exact h1
         | cons t2 x'=>
           simp only[dotT]
           rw[if_neg (by rw[Zjf (hx t2 x' rfl) (by decide),Bool.and_false];decide)]
           exact h1
       | cons t2 r3=>
         rw[Zex]
         simp only[dotT]at h ⊢
         rw[Znd hk ht]
         by_cases c:(Zbv.contains s && isS t2 [40])=true
         · rw[if_pos c]at h ⊢
           rcases Zbp h with ⟨_,_,h⟩|⟨b,r4,h4,h⟩
           · cases h
           rw[Zaw (hrc _ _ _ _ h4)]
           rcases Zca h with ⟨_,_,h⟩|⟨u,r5,h5,h⟩
           · cases h
           rw[Zbb (Zki hk ht h5)]
           exact hrc _ _ _ _ h
         · rw[if_neg c]at h ⊢
           exact hrc _ _ _ _ h
     rw[if_neg c]at h ⊢
     cases h
     rfl
 | items b ns l=>
   rw[Zfs]at h ⊢
   rcases Zca h with ⟨_,_,h⟩|⟨ns2,r1,h1,h⟩
   · cases h
   rw[Zbb (itemP_mv hk ht h1)]
   rcases Zbp h with ⟨_,_,h⟩|⟨a,r2,h2,h⟩
   · cases h
   rw[Zaw (hrc _ _ _ _ h2)]
   cases r2 with
   | nil=>cases h
   | cons t r2=>
     rw[Zex]
     simp only[Znc]at h ⊢
     rw[Znd hk ht,Znd hk ht]
     by_cases c:isS t [44]=true
     · rw[if_pos c]at h ⊢
       exact hrc _ _ _ _ h
     rw[if_neg c]at h ⊢
     by_cases c:isS t (Zdf b)=true
     · rw[if_pos c]at h ⊢
       cases h
       rfl
     rw[if_neg c]at h
     cases h
include hk ht hn hx in
theorem pr_mv:∀ f:Nat,Mv g x (pr f):=by
 intro f
 induction f with
 | zero=>intro nt ts e r h;cases h
 | succ f ih=>exact step_mv hk ht hn hx ih
end
def PS {α:Type} (y:Zcs α) (ts:List Tok) (n:Nat):Prop:=match y with
 | .ok (_,r)=>r <:+ ts∧r.length+n≤ts.length
 | .error e=>e <:+ ts
theorem PS.mono {α:Type} {y:Zcs α} {ts r:List Tok} {n m d:Nat} (h:PS y r n) (hr:r <:+ ts) (hl:r.length+d≤ts.length) (hm:m≤n+d):PS y ts m:=by
 cases y with
 | error e=>exact List.IsSuffix.trans h hr
 | ok z=>exact ⟨h.1.trans hr,by have:=h.2;omega⟩
theorem PS.weak {α:Type} {y:Zcs α} {ts:List Tok} {n m:Nat} (h:PS y ts n) (hm:m≤n):PS y ts m:=h.mono (d:=0) List.suffix_rfl (by omega) (by omega)
theorem PS.cons {α:Type} {y:Zcs α} {t:Tok} {ts:List Tok} {n m:Nat} (h:PS y ts n) (hm:m≤n+1):PS y (t :: ts) m:=h.mono (d:=1) (List.suffix_cons t ts) (by simp) hm
theorem Zer {e:Et} {r:List Tok} {y:Zcs Et} (h:okP e r=some y):PS y r 0:=by cases h;exact ⟨List.suffix_rfl,by omega⟩
theorem ps_err {ts:List Tok} {y:Zcs Et} (h:some (.error ts)=some y) (n:Nat):PS y ts n:=by cases h;exact List.suffix_rfl
theorem Zgh (s:List UInt8) (ts:List Tok):PS (Zbr s ts) ts 1:=by
 cases h:Zbr s ts with
 | error e=>rw[Zuk h];exact List.suffix_rfl
 | ok z=>obtain ⟨⟨⟩,r⟩:=z;obtain ⟨t,rfl⟩:=Zcv h;exact ⟨List.suffix_cons _ _,by simp⟩
theorem Zkg (s:List UInt8) (ts:List Tok):PS (Zhy s ts) ts 1:=by
 cases h:Zhy s ts with
 | error e=>rw[wordP_err h];exact List.suffix_rfl
 | ok z=>obtain ⟨⟨⟩,r⟩:=z;obtain ⟨t,rfl⟩:=Zon h;exact ⟨List.suffix_cons _ _,by simp⟩
theorem Zss (ts:List Tok):PS (Zcj ts) ts 1:=by
 cases h:Zcj ts with
 | error e=>rw[Ziw h];exact List.suffix_rfl
 | ok z=>obtain ⟨s,r⟩:=z;obtain ⟨t,rfl,_⟩:=Zce h;exact ⟨List.suffix_cons _ _,by simp⟩
theorem Zkh (ts:List Tok):PS (Zdg ts) ts 1:=by
 cases h:Zdg ts with
 | error e=>rw[textP_err h];exact List.suffix_rfl
 | ok z=>obtain ⟨s,r⟩:=z;obtain ⟨t,rfl,_⟩:=Zjv h;exact ⟨List.suffix_cons _ _,by simp⟩
theorem Zmg (ts:List Tok):PS (Zda ts) ts 1:=by
 cases h:Zda ts with
 | error e=>rw[labelP_err h];exact List.suffix_rfl
 | ok z=>obtain ⟨s,r⟩:=z;obtain ⟨t,rfl,_⟩:=Zkp h;exact ⟨List.suffix_cons _ _,by simp⟩
theorem Zyy:∀ (f:Nat) (acc:List UInt8) (ts:List Tok),PS (Zfh f acc ts) ts 0
 | 0,acc,ts=>⟨List.suffix_rfl,by omega⟩
 | f+1,acc,ts=>by
   unfold Zfh
   cases hs:Zbr [58,58] ts with
   | error e=>exact ⟨List.suffix_rfl,by omega⟩
   | ok z=>
     obtain ⟨⟨⟩,r⟩:=z
     obtain ⟨t,rfl⟩:=Zcv hs
     simp only[]
     cases hn:Zcj r with
     | error e=>rw[Ziw hn];exact List.suffix_cons _ _
     | ok z=>
       obtain ⟨s,r'⟩:=z
       obtain ⟨t',rfl,_⟩:=Zce hn
       exact (Zyy f _ _).mono (d:=2) (List.IsSuffix.trans (List.suffix_cons _ _) (List.suffix_cons _ _)) (by simp) (by omega)
theorem Zry (ts:List Tok):PS (Zju ts) ts 1:=by
 unfold Zju
 cases hn:Zcj ts with
 | error e=>rw[Ziw hn];exact List.suffix_rfl
 | ok z=>
   obtain ⟨s,r'⟩:=z
   obtain ⟨t',rfl,_⟩:=Zce hn
   exact (Zyy _ _ _).cons (by omega)
theorem uidT_ps:∀ (f:Nat) (acc:List UInt8) (ts:List Tok),PS (Zlb f acc ts) ts 0
 | 0,acc,ts=>List.suffix_rfl
 | f+1,acc,ts=>by
   unfold Zlb
   cases hs:Zbr [58,58] ts with
   | error e=>rw[Zuk hs];exact List.suffix_rfl
   | ok z=>
     obtain ⟨⟨⟩,r⟩:=z
     obtain ⟨t,rfl⟩:=Zcv hs
     simp only[]
     cases hq:Zdg r with
     | ok z=>
       obtain ⟨s,r'⟩:=z
       obtain ⟨t',rfl,_⟩:=Zjv hq
       exact ⟨List.IsSuffix.trans (List.suffix_cons _ _) (List.suffix_cons _ _),by simp only[List.length_cons];omega⟩
     | error e=>
       simp only[]
       cases hn:Zcj r with
       | error e=>rw[Ziw hn];exact List.suffix_cons _ _
       | ok z=>
         obtain ⟨s,r'⟩:=z
         obtain ⟨t',rfl,_⟩:=Zce hn
         exact (uidT_ps f _ _).mono (d:=2) (List.IsSuffix.trans (List.suffix_cons _ _) (List.suffix_cons _ _)) (by simp) (by omega)
theorem Zww (ts:List Tok):PS (Zqt ts) ts 1:=by
 unfold Zqt
 cases hn:Zcj ts with
 | error e=>rw[Ziw hn];exact List.suffix_rfl
 | ok z=>
   obtain ⟨s,r'⟩:=z
   obtain ⟨t',rfl,_⟩:=Zce hn
   exact (uidT_ps _ _ _).cons (by omega)
theorem Zsy (rec:Bool) (ns:List ByteArray) (ts:List Tok):PS (Zkx rec ns ts) ts 0:=by
 unfold Zkx
 cases rec with
 | false=>exact ⟨List.suffix_rfl,by omega⟩
 | true=>
   simp only[if_true]
   have h1:=Zmg ts
   cases hl:Zda ts with
   | error e=>rw[hl]at h1;exact h1
   | ok z=>
     obtain ⟨s,r1⟩:=z
     rw[hl]at h1
     simp only[]
     have h2:=Zgh [58] r1
     cases hs:Zbr [58] r1 with
     | error e=>rw[hs]at h2;exact List.IsSuffix.trans h2 h1.1
     | ok z=>
       obtain ⟨⟨⟩,r2⟩:=z
       rw[hs]at h2
       exact ⟨h2.1.trans h1.1,by have:=h1.2;have:=h2.2;omega⟩
def Zim:NT→Nat
 | .rowT _ _=>0
 | .memT _=>0
 | _=>1
def Sf (rc:NT→List Tok→Option (Zcs Et)):Prop:=∀ nt ts y,rc nt ts=some y→PS y ts (Zim nt)
section
variable {rc:NT→List Tok→Option (Zcs Et)}
theorem Zfw (hrc:Sf rc) {nt:NT} {ts:List Tok} {k:Et→List Tok→Option (Zcs Et)} {y:Zcs Et} {m n:Nat} (h:Zcn (rc nt ts) k=some y) (hk:∀ e r,k e r=some y→PS y r m) (hn:n≤m+Zim nt):PS y ts n:=by
 rcases Zbp h with ⟨e,he,rfl⟩|⟨e,r,he,h⟩
 · exact hrc _ _ _ he
 · have:=hrc _ _ _ he
   exact (hk e r h).mono (d:=Zim nt) this.1 this.2 hn
theorem Zgx {α:Type} {x:Zcs α} {ts:List Tok} {d:Nat} (hp:PS x ts d) {k:α→List Tok→Option (Zcs Et)} {y:Zcs Et} {m n:Nat} (h:Zdc x k=some y) (hk:∀ e r,k e r=some y→PS y r m) (hn:n≤m+d):PS y ts n:=by
 rcases Zca h with ⟨e,rfl,rfl⟩|⟨e,r,rfl,h⟩
 · exact hp
 · exact (hk e r h).mono (d:=d) hp.1 hp.2 hn
theorem step_sf (hrc:Sf rc):Sf (Zbj rc):=by
 intro nt ts y h
 cases nt with
 | expr=>
   cases ts with
   | nil=>exact hrc (.lv 0) _ _ h
   | cons t ts=>
     rw[Zhq]at h
     split at h
     · refine PS.cons (n:=0) ?_ (by decide)
       refine Zfw hrc h (m:=0) (fun _ _ h=>?_) (by omega)
       refine Zgx (Zkg _ _) h (m:=0) (fun _ _ h=>?_) (by omega)
       refine Zfw hrc h (m:=0) (fun _ _ h=>?_) (by omega)
       refine Zgx (Zkg _ _) h (m:=0) (fun _ _ h=>?_) (by omega)
       exact Zfw hrc h (m:=0) (fun _ _ h=>Zer h) (by omega)
     · exact hrc (.lv 0) _ _ h
 | lv k=>
   by_cases h2:k=2
   · subst h2
     rw[Zip]at h
     refine Zfw hrc h (m:=0) (fun e r h=>?_) (by decide)
     cases r with
     | nil=>exact Zer h
     | cons t r=>
       simp only[Zsj]at h
       split at h
       · exact (Zfw hrc h (m:=0) (n:=0) (fun _ _ h=>Zer h) (by omega)).cons (by omega)
       split at h
       · exact (Zfw hrc h (m:=0) (n:=0) (fun _ _ h=>Zer h) (by omega)).cons (by omega)
       split at h
       · exact (Zgx (Zmg _) h (m:=0) (n:=0) (fun _ _ h=>Zer h) (by omega)).cons (by omega)
       split at h
       · exact (Zgx (Zry _) h (m:=0) (n:=0) (fun _ _ h=>Zer h) (by omega)).cons (by omega)
       split at h
       · exact (Zgx (Zkh _) h (m:=0) (n:=0) (fun _ _ h=>Zer h) (by omega)).cons (by omega)
       exact Zer h
   by_cases h5:k=5
   · subst h5
     cases ts with
     | nil=>exact hrc (.lv 6) _ _ h
     | cons t ts=>
       rw[Zqj]at h
       split at h
       · exact (Zfw hrc h (m:=0) (n:=0) (fun _ _ h=>Zer h) (by omega)).cons (by decide)
       split at h
       · exact (Zfw hrc h (m:=0) (n:=0) (fun _ _ h=>Zer h) (by omega)).cons (by decide)
       exact hrc (.lv 6) _ _ h
   by_cases h6:k=6
   · subst h6
     exact Zfw hrc h (m:=0) (fun e r h=>hrc _ _ _ h) (by decide)
   by_cases h7:k=7
   · subst h7
     cases ts with
     | nil=>exact ps_err h _
     | cons t ts=>
       have hbrk:∀ b:Bool,Zqe rc b ts=some y→PS y (t :: ts) 1:=by
        intro b h
        cases ts with
        | nil=>exact (hrc _ _ _ h).cons (by simp only[Zim];omega)
        | cons t2 ts2=>
          simp only[Zqe]at h
          split at h
          · exact ((Zer h).cons (m:=1) (by omega)).cons (by omega)
          · exact (hrc _ _ _ h).cons (by simp only[Zim];omega)
       rw[Zfr]at h
       show PS y (t :: ts) 1
       split at h
       · exact (Zer h).cons (by omega)
       split at h
       · exact (Zer h).cons (by omega)
       split at h
       · exact (Zer h).cons (by omega)
       split at h
       · exact (Zer h).cons (by omega)
       split at h
       · exact (Zer h).cons (by omega)
       split at h
       · refine PS.cons (n:=0) ?_ (by omega)
         refine Zfw hrc h (m:=0) (fun _ _ h=>?_) (by omega)
         exact Zgx (Zgh _ _) h (m:=0) (fun _ _ h=>Zer h) (by omega)
       split at h
       · exact hbrk _ h
       split at h
       · exact hbrk _ h
       exact Zgx (Zww _) h (m:=0) (fun _ _ h=>Zer h) (by omega)
   rw[Zlu k h2 h5 h6 h7]at h
   exact Zfw hrc h (m:=0) (fun e r h=>hrc _ _ _ h) (by show 1≤0+1;omega)
 | rowT k a=>
   cases ts with
   | nil=>exact Zer h
   | cons t ts=>
     rw[Zgv]at h
     split at h
     · refine PS.cons (n:=0) ?_ (by show 0≤0+1;omega)
       exact Zfw hrc h (m:=0) (fun e r h=>hrc _ _ _ h) (by omega)
     · exact Zer h
 | memT a=>
   cases ts with
   | nil=>exact Zer h
   | cons t ts=>
     rw[Zgd]at h
     show PS y (t :: ts) 0
     split at h
     · refine PS.cons (n:=0) ?_ (by omega)
       refine Zgx (Zkh _) h (m:=0) (fun _ _ h=>?_) (by omega)
       exact Zgx (Zgh _ _) h (m:=0) (fun _ _ h=>hrc _ _ _ h) (by omega)
     split at h
     · refine PS.cons (n:=0) ?_ (by omega)
       refine Zgx (Zss _) h (m:=0) (fun s r h=>?_) (by omega)
       cases r with
       | nil=>exact hrc _ _ _ h
       | cons t2 r=>
         simp only[dotT]at h
         split at h
         · refine PS.cons (n:=0) ?_ (by omega)
           refine Zfw hrc h (m:=0) (fun _ _ h=>?_) (by omega)
           exact Zgx (Zgh _ _) h (m:=0) (fun _ _ h=>hrc _ _ _ h) (by omega)
         · exact hrc _ _ _ h
     · exact Zer h
 | items b ns l=>
   rw[Zfs]at h
   refine Zgx (Zsy _ _ _) h (m:=1) (fun ns2 r h=>?_) (by show 1≤1+0;omega)
   refine Zfw hrc h (m:=0) (fun e r h=>?_) (by show 1≤0+1;omega)
   cases r with
   | nil=>exact ps_err h _
   | cons t r=>
     simp only[Znc]at h
     split at h
     · exact (hrc _ _ _ h).cons (by omega)
     split at h
     · exact (Zer h).cons (by omega)
     exact ps_err h _
end
theorem Zmx:∀ f:Nat,Sf (pr f):=by
 intro f
 induction f with
 | zero=>intro nt ts y h;cases h
 | succ f ih=>exact step_sf ih
def Zep:NT→Nat
 | .expr=>10
 | .lv k=>9 - k
 | .rowT _ _=>0
 | .memT _=>0
 | .items _ _ _=>11
def validN:NT→Prop
 | .lv k=>k≤7
 | .rowT k _=>k≤4
 | _=>True
def Zeg (nt:NT) (ts:List Tok):Nat:=ts.length * 12+Zep nt
section
variable {rc:NT→List Tok→Option (Zcs Et)}
theorem Zeh (hrc:Sf rc) {nt:NT} {ts:List Tok} {k:Et→List Tok→Option (Zcs Et)} (h:(rc nt ts).isSome=true) (hk:∀ e r,r.length+Zim nt≤ts.length→(k e r).isSome=true):(Zcn (rc nt ts) k).isSome=true:=by
 cases hx:rc nt ts with
 | none=>rw[hx]at h;cases h
 | some z=>
   cases z with
   | error e=>rfl
   | ok z=>exact hk z.1 z.2 (hrc _ _ _ hx).2
theorem Zfe {α:Type} {x:Zcs α} {ts:List Tok} {d:Nat} (hp:PS x ts d) {k:α→List Tok→Option (Zcs Et)} (hk:∀ e r,r.length+d≤ts.length→(k e r).isSome=true):(Zdc x k).isSome=true:=by
 cases x with
 | error e=>rfl
 | ok z=>exact hk z.1 z.2 hp.2
theorem step_tot (hrc:Sf rc) {c:Nat} (ih:∀ nt ts,validN nt→Zeg nt ts < c→(rc nt ts).isSome=true):∀ nt ts,validN nt→Zeg nt ts < c+1→(Zbj rc nt ts).isSome=true:=by
 intro nt ts hv hc
 cases nt with
 | expr=>
   cases ts with
   | nil=>exact ih _ _ (by show 0≤7;omega) (by simp[Zeg,Zep]at hc ⊢;omega)
   | cons t ts=>
     rw[Zhq]
     simp only[Zeg,Zep,List.length_cons]at hc
     split
     · refine Zeh hrc (ih _ _ trivial (by simp only[Zeg,Zep];omega)) fun a r1 h1=>?_
       refine Zfe (Zkg _ _) fun _ r2 h2=>?_
       simp only[Zim]at h1
       refine Zeh hrc (ih _ _ trivial (by simp only[Zeg,Zep];omega)) fun b r3 h3=>?_
       refine Zfe (Zkg _ _) fun _ r4 h4=>?_
       simp only[Zim]at h3
       exact Zeh hrc (ih _ _ trivial (by simp only[Zeg,Zep];omega)) fun d r5 h5=>rfl
     · exact ih _ _ (by show 0≤7;omega) (by simp only[Zeg,Zep,List.length_cons];omega)
 | lv k=>
   have hk7:k≤7:=hv
   simp only[Zeg,Zep]at hc
   by_cases h2:k=2
   · subst h2
     rw[Zip]
     refine Zeh hrc (ih _ _ (by show 3≤7;omega) (by simp only[Zeg,Zep];omega)) fun e r hr=>?_
     simp only[Zim]at hr
     cases r with
     | nil=>rfl
     | cons t r=>
       rw[List.length_cons]at hr
       simp only[Zsj]
       split
       · exact Zeh hrc (ih _ _ (by show 3≤7;omega) (by simp only[Zeg,Zep];omega)) fun _ _ _=>rfl
       split
       · exact Zeh hrc (ih _ _ (by show 3≤7;omega) (by simp only[Zeg,Zep];omega)) fun _ _ _=>rfl
       split
       · exact Zfe (Zmg _) fun _ _ _=>rfl
       split
       · exact Zfe (Zry _) fun _ _ _=>rfl
       split
       · exact Zfe (Zkh _) fun _ _ _=>rfl
       rfl
   by_cases h5:k=5
   · subst h5
     cases ts with
     | nil=>exact ih _ _ (by show 6≤7;omega) (by simp only[Zeg,Zep,List.length_nil]at hc ⊢;omega)
     | cons t ts=>
       rw[List.length_cons]at hc
       rw[Zqj]
       split
       · exact Zeh hrc (ih _ _ (by show 5≤7;omega) (by simp only[Zeg,Zep];omega)) fun _ _ _=>rfl
       split
       · exact Zeh hrc (ih _ _ (by show 5≤7;omega) (by simp only[Zeg,Zep];omega)) fun _ _ _=>rfl
       exact ih _ _ (by show 6≤7;omega) (by simp only[Zeg,Zep,List.length_cons];omega)
   by_cases h6:k=6
   · subst h6
     rw[Zuf]
     refine Zeh hrc (ih _ _ (by show 7≤7;omega) (by simp only[Zeg,Zep];omega)) fun e r hr=>?_
     simp only[Zim]at hr
     exact ih _ _ trivial (by simp only[Zeg,Zep];omega)
   by_cases h7:k=7
   · subst h7
     cases ts with
     | nil=>rfl
     | cons t ts=>
       rw[List.length_cons]at hc
       have hbrk:∀ b:Bool,(Zqe rc b ts).isSome=true:=by
        intro b
        cases ts with
        | nil=>exact ih _ _ trivial (by simp only[Zeg,Zep];omega)
        | cons t2 ts2=>
          simp only[Zqe]
          split
          · rfl
          · exact ih _ _ trivial (by simp only[Zeg,Zep];omega)
       rw[Zfr]
       split
       · rfl
       split
       · rfl
       split
       · rfl
       split
       · rfl
       split
       · rfl
       split
       · refine Zeh hrc (ih _ _ trivial (by simp only[Zeg,Zep];omega)) fun e r hr=>?_
         exact Zfe (Zgh _ _) fun _ _ _=>rfl
       split
       · exact hbrk _
       split
       · exact hbrk _
       exact Zfe (Zww _) fun _ _ _=>rfl
   rw[Zlu k h2 h5 h6 h7]
   refine Zeh hrc (ih _ _ (by show k+1≤7;omega) (by simp only[Zeg,Zep];omega)) fun e r hr=>?_
   simp only[Zim]at hr
   exact ih _ _ (by show k≤4;omega) (by simp only[Zeg,Zep];omega)
 | rowT k a=>
   have hk4:k≤4:=hv
   cases ts with
   | nil=>rfl
   | cons t ts=>
     simp only[Zeg,Zep,List.length_cons]at hc
     rw[Zgv]
     split
     · refine Zeh hrc (ih _ _ (by show k+1≤7;omega) (by simp only[Zeg,Zep];omega)) fun e r hr=>?_
       simp only[Zim]at hr
       exact ih _ _ hk4 (by simp only[Zeg,Zep];omega)
     · rfl
 | memT a=>
   cases ts with
   | nil=>rfl
   | cons t ts=>
     simp only[Zeg,Zep,List.length_cons]at hc
     rw[Zgd]
     split
     · refine Zfe (Zkh _) fun s r1 h1=>?_
       refine Zfe (Zgh _ _) fun _ r2 h2=>?_
       exact ih _ _ trivial (by simp only[Zeg,Zep];omega)
     split
     · refine Zfe (Zss _) fun s r1 h1=>?_
       cases r1 with
       | nil=>exact ih _ _ trivial (by simp only[Zeg,Zep,List.length_nil]at h1 ⊢;omega)
       | cons t2 r1=>
         rw[List.length_cons]at h1
         simp only[dotT]
         split
         · refine Zeh hrc (ih _ _ trivial (by simp only[Zeg,Zep];omega)) fun e r hr=>?_
           simp only[Zim]at hr
           refine Zfe (Zgh _ _) fun _ r3 h3=>?_
           exact ih _ _ trivial (by simp only[Zeg,Zep];omega)
         · exact ih _ _ trivial (by simp only[Zeg,Zep,List.length_cons];omega)
     · rfl
 | items b ns l=>
   simp only[Zeg,Zep]at hc
   rw[Zfs]
   refine Zfe (Zsy _ _ _) fun ns2 r1 h1=>?_
   refine Zeh hrc (ih _ _ trivial (by simp only[Zeg,Zep];omega)) fun e r hr=>?_
   simp only[Zim]at hr
   cases r with
   | nil=>rfl
   | cons t r=>
     rw[List.length_cons]at hr
     simp only[Znc]
     split
     · exact ih _ _ trivial (by simp only[Zeg,Zep];omega)
     split
     · rfl
     rfl
end
theorem pr_tot:∀ (c:Nat) (nt:NT) (ts:List Tok),validN nt→Zeg nt ts < c→(pr c nt ts).isSome=true:=by
 intro c
 induction c with
 | zero=>intro _ _ _ h;omega
 | succ c ih=>exact step_tot (Zmx c) ih
def prL (ts:List Tok):Zcs Et:=(pr (ts.length * 12+11) .expr ts).getD (.error ts)
theorem Zpm (ts:List Tok):pr (ts.length * 12+11) .expr ts=some (prL ts):=by
 have:=pr_tot (ts.length * 12+11) .expr ts trivial (by simp only[Zeg,Zep];omega)
 unfold prL
 cases h:pr (ts.length * 12+11) .expr ts with
 | none=>rw[h]at this;cases this
 | some z=>rfl
theorem Zzu {f:Nat} {ts:List Tok} {y:Zcs Et} (h:pr f .expr ts=some y):prL ts=y:=pr_one (Zpm ts) h
theorem Zzt (ts:List Tok):PS (prL ts) ts 1:=Zmx _ _ _ _ (Zpm ts)
def Et.op:Et→Nat
 | .mk o _ _ _ _ _=>o
def Et.kids:Et→List Et
 | .mk _ _ _ _ _ l=>l
def Zfn (o:Nat):Option Nat:=if o=6∨o=7 then none else if o < 6 then some 0 else if o≤13 then some 1 else if o=14 then some 3 else some 2
def Zfu (s:ByteArray):Bool:=Lib.validD s.data.toList && decide (s.size≤256)
def Zoe (s:ByteArray):Bool:=Zfu s && decide (s.size ≠ 0) && decide (s.size≤64)
def Zna (ns:List ByteArray):Bool:=ns.all Zoe && decide (ns.map (·.data.toList)).Nodup
def Zqi (t i:ByteArray):Bool:=Zhe t.data.toList && Lib.validD i.data.toList && decide (i.size≤64)
def bareB (o:Nat) (n:Int) (s t:ByteArray) (ns:List ByteArray):Bool:=
 decide (o=1∨o=2∨n=0) && decide (o=3∨o=4∨o=5∨o=8∨o=9∨o=11∨s.size=0) && decide (o=4∨o=10∨t.size=0) && decide (o=7∨ns.length=0)
def Zcx (o:Nat) (n:Int) (s t:ByteArray) (ns:List ByteArray) (c:Nat):Bool:=
 if o=1 then decide (n=0∨n=1) else if o=2 then decide (0≤n) else if o=3∨o=11 then Zfu s else if o=4 then Zqi t s
 else if o=5 then Zea.contains s.data.toList else if o=10 then Zhe t.data.toList else if o=8∨o=9 then Zoe s else if o=7 then decide (ns.length=c) && Zna ns else true
def Zld (o c:Nat):Bool:=decide (o ≠ 0) && decide (o < 30) && (match Zfn o with|some k=>decide (c=k)|none=>decide (c≤16))
def Zmc (o:Nat) (n:Int) (s t:ByteArray) (ns:List ByteArray) (c:Nat):Bool:=Zld o c && bareB o n s t ns && Zcx o n s t ns c
mutual
def Zbt:Et→Bool
 | .mk o n s t ns l=>Zmc o n s t ns l.length && Zcw l
def Zcw:List Et→Bool
 | []=>true
 | x :: l=>Zbt x && Zcw l
end
mutual
def Et.nodes:Et→Nat
 | .mk _ _ _ _ _ l=>Et.nodess l+1
def Et.nodess:List Et→Nat
 | []=>0
 | x :: l=>x.nodes+Et.nodess l
end
def Zhj (e:Et):Int:=if Zbt e=false then 5 else if 16 < e.ht then 4 else if 128 < e.nodes then 2 else 0
theorem Zeo {x:Et} {l:List Et} (h:Zcw l=true) (hx:x ∈ l):Zbt x=true:=by
 induction l with
 | nil=>cases hx
 | cons y l ih=>
   rw[Zcw,Bool.and_eq_true]at h
   rcases List.mem_cons.1 hx with rfl|hx
   · exact h.1
   · exact ih h.2 hx
def tW (s:List UInt8):Tok:=⟨1,s,0,0⟩
def tN (n:Int):Tok:=⟨2,[],n,0⟩
def tQ (s:List UInt8):Tok:=⟨3,s,0,0⟩
def tS (s:List UInt8):Tok:=⟨4,s,0,0⟩
def Zhc (ps:List (List UInt8)):List Tok:=ps.flatMap fun p=>[tS [58,58],tW p]
def tyT (t:List UInt8):List Tok:=match pcs [] t with
 | []=>[]
 | p :: ps=>tW p :: Zhc ps
def Znw (s:List UInt8):Tok:=if Zcu s then tW s else tQ s
def unE (e:Et):Bool:=decide (e.op=12∨e.op=13)
def Znm (u:Bool) (k:List Tok):List Tok:=if u then tS [40] :: (k ++ [tS [41]]) else k
def Zph:List (List Tok)→List Tok
 | []=>[]
 | [k]=>k
 | k :: q :: l=>k ++ tS [44] :: Zph (q :: l)
def Zuv (ns:List ByteArray) (K:List (List Tok)):List (List Tok):=List.zipWith (fun (x:ByteArray) k=>Znw x.data.toList :: tS [58] :: k) ns K
def Zfm (o:Nat):List UInt8:=Zbv.getD (o - 27) []
def Zjn (o:Nat):List UInt8:=Zdd.getD (o - 15) []
def opT (o:Nat):Tok:=if o=23 then tW wIn else tS (Zjn o)
def Zxy (o:Nat) (n:Int) (s t:List UInt8) (ns:List ByteArray) (K:List (List Tok)) (u:Bool):List Tok:=
 let k0:=K.getD 0 []
 let k1:=K.getD 1 []
 let k2:=K.getD 2 []
 if o=1 then [tW (if n=1 then Zkv else Zhn)]
 else if o=2 then [tN n]
 else if o=3 then [tQ s]
 else if o=4 then tyT t ++ [tS [58,58],tQ s]
 else if o=5 then [tW s]
 else if o=6 then tS [91] :: (Zph K ++ [tS [93]])
 else if o=7 then tS [123] :: (Zph (Zuv ns K) ++ [tS [125]])
 else if o=8 then Znm u k0 ++ (if Zcu s then [tS [46],tW s] else [tS [91],tQ s,tS [93]])
 else if o=9 then tS [40] :: (k0 ++ [tW Zjt,Znw s,tS [41]])
 else if o=10 then tS [40] :: (k0 ++ tW wIs :: (tyT t ++ [tS [41]]))
 else if o=11 then tS [40] :: (k0 ++ [tW Zel,tQ s,tS [41]])
 else if o=12 then tS [33] :: k0
 else if o=13 then tS [45] :: k0
 else if o=14 then tS [40] :: tW wIf :: (k0 ++ tW Zeu :: (k1 ++ tW Zem :: (k2 ++ [tS [41]])))
 else if 27≤o then Znm u k0 ++ tS [46] :: tW (Zfm o) :: tS [40] :: (k1 ++ [tS [41]])
 else tS [40] :: (k0 ++ opT o :: (k1 ++ [tS [41]]))
mutual
def Zbd:Et→List Tok
 | .mk o n s t ns l=>Zxy o n s.data.toList t.data.toList ns (Zzc l) (l.head?.elim false unE)
def Zzc:List Et→List (List Tok)
 | []=>[]
 | x :: l=>Zbd x :: Zzc l
end
theorem toksEs_map (l:List Et):Zzc l=l.map Zbd:=by
 induction l with
 | nil=>rfl
 | cons x l ih=>rw[Zzc,ih];rfl
def Zlk (acc:List UInt8) (ps:List (List UInt8)):List UInt8:=ps.foldl (fun a p=>a ++ [58,58] ++ p) acc
theorem joinR_app (a b:List UInt8) (ps:List (List UInt8)):Zlk (a ++ b) ps=a ++ Zlk b ps:=by
 induction ps generalizing b with
 | nil=>rfl
 | cons p ps ih=>
   show Zlk (a ++ b ++ [58,58] ++ p) ps=a ++ Zlk (b ++ [58,58] ++ p) ps
   rw[←ih]
   simp
theorem Zzx:∀ (n:Nat) (l acc:List UInt8),l.length≤n→pcs acc l ≠ []:=by
 intro n
 induction n with
 | zero=>
   intro l acc h
   obtain rfl:l=[]:=List.eq_nil_of_length_eq_zero (by omega)
   rw[pcs]
   simp
 | succ n ih=>
   intro l acc h
   match l with
   | []=>rw[pcs];simp
   | [b]=>rw[pcs];simp
   | b :: c :: r=>
     rw[pcs]
     split
     · simp
     · exact ih _ _ (by simpa using h)
theorem Zzy:∀ (n:Nat) (l acc p:List UInt8) (ps:List (List UInt8)),l.length≤n→pcs acc l=p :: ps→Zlk p ps=acc ++ l:=by
 intro n
 induction n with
 | zero=>
   intro l acc p ps h he
   obtain rfl:l=[]:=List.eq_nil_of_length_eq_zero (by omega)
   rw[pcs]at he
   cases he
   simp[Zlk]
 | succ n ih=>
   intro l acc p ps h he
   match l with
   | []=>rw[pcs]at he;cases he;simp[Zlk]
   | [b]=>rw[pcs]at he;cases he;simp[Zlk]
   | b :: c :: r=>
     rw[pcs]at he
     split at he
     · next hc=>
       obtain ⟨rfl,rfl⟩:=hc
       cases he
       cases hq:pcs [] r with
       | nil=>exact absurd hq (Zzx _ r [] (Nat.le_refl _))
       | cons q qs=>
         have:=ih r [] q qs (by simp at h;omega) hq
         show Zlk (acc ++ [58,58] ++ q) qs=_
         rw[joinR_app,this]
         simp
     · have:=ih _ _ _ _ (by simpa using h) he
       rw[this]
       simp
theorem Zmf {x:List UInt8} (h:Zcu x=true) {y:List UInt8} (hy:Zix.contains y=true):x ≠ y:=by
 rintro rfl
 unfold Zcu at h
 rw[hy]at h
 simp at h
theorem name_pos {x:List UInt8} (h:Zcu x=true):x ≠ []:=by
 rintro rfl
 cases h
theorem Zgg (m:Nat) (l:List UInt8):Zba m l≤l.length:=by
 unfold Zba
 induction l with
 | nil=>simp
 | cons b l ih=>rw[List.takeWhile_cons];split <;> simp <;> omega
theorem Zny (p:UInt8→Bool) (l:List UInt8):∃ n,n≤l.length∧l.dropWhile p=l.drop n:=by
 induction l with
 | nil=>exact ⟨0,by simp,rfl⟩
 | cons b l ih=>
   obtain ⟨n,h1,h2⟩:=ih
   rw[List.dropWhile_cons]
   split
   · exact ⟨n+1,by simp;omega,by rw[h2];rfl⟩
   · exact ⟨0,by simp,rfl⟩
theorem Zjy (l:List UInt8):∃ n,n≤l.length∧Zec l=l.drop n:=by
 unfold Zec
 simp only[]
 split
 · obtain ⟨n,h1,h2⟩:=Zny (fun b=>b.toNat ≠ 10) (l.drop (Zba 1 l))
   have:=Zgg 1 l
   rw[List.length_drop]at h1
   exact ⟨Zba 1 l+n,by omega,by rw[h2,List.drop_drop]⟩
 · exact ⟨Zba 1 l,Zgg 1 l,rfl⟩
theorem Zjh (l:List UInt8):(Zec l).length≤l.length:=by
 obtain ⟨n,h1,h2⟩:=Zjy l
 rw[h2];simp
theorem Zlv {l:List UInt8} (h:(Zec l).length=l.length):Zec l=l:=by
 obtain ⟨n,h1,h2⟩:=Zjy l
 rw[h2,List.length_drop]at h
 by_cases hn:n=0
 · rw[h2,hn];rfl
 · have:l.length=0:=by omega
   rw[List.length_eq_zero_iff]at this
   rw[h2,this];simp
theorem Zra:∀ (f g:Nat) (l:List UInt8),l.length < f→l.length < g→Zse f l=Zse g l
 | 0,_,_,h,_=>by omega
 | f+1,0,_,_,h=>by omega
 | f+1,g+1,l,h1,h2=>by
   have:=Zjh l
   unfold Zse
   split
   · rfl
   · exact Zra f g _ (by omega) (by omega)
theorem Zjx {l:List UInt8} (h:(Zec l).length=l.length):Zco l=l:=by
 unfold Zco Zse
 rw[if_pos h]
theorem Zdq {l:List UInt8} (h:(Zec l).length ≠ l.length):Zco l=Zco (Zec l):=by
 have:=Zjh l
 unfold Zco
 rw[Zse,if_neg h]
 exact Zra _ _ _ (by omega) (by omega)
theorem Zzi:∀ (f:Nat) (l:List UInt8),∃ n,n≤l.length∧Zse f l=l.drop n
 | 0,l=>⟨0,by omega,rfl⟩
 | f+1,l=>by
   unfold Zse
   split
   · exact ⟨0,by omega,rfl⟩
   · obtain ⟨n,h1,h2⟩:=Zjy l
     obtain ⟨m,h3,h4⟩:=Zzi f (Zec l)
     rw[h2,List.length_drop]at h3
     exact ⟨n+m,by omega,by rw[h4,h2,List.drop_drop]⟩
theorem Zuh (l:List UInt8):∃ n,n≤l.length∧Zco l=l.drop n:=Zzi _ _
end Go.Proofs.YtnhooehmcggmdaaGreatDoor
