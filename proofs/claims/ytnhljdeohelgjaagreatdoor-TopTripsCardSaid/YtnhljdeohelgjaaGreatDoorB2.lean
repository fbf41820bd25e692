/- Part 2 of the proof. -/
import Derived.Test.YtnhljdeohelgjaaGreatDoorB1
import Derived.WalkKit
import Derived.Shelf.Strings.Builder1
import Derived.Shelf.Small.Bits
import Derived.Shelf.Small.Strs
import Derived.Shelf.Small.Wraps
import Derived.Shelf.Strings.BuilderF
import Derived.Shelf.Strings.BuilderK
import Derived.Shelf.Strconv.Atoi
import Derived.Shelf.Strconv.Itoa0
import Derived.Shelf.Strconv.Itoa1
import Derived.Shelf.LaysM
import Derived.Shelf.Strconv.Itoa2
import Derived.Shelf.Strconv.Itoa3
import Derived.Shelf.Strconv.AtoiErrFast
import Derived.Shelf.Strconv.ParseIntEmpty
import Derived.Shelf.Strconv.AtoiFail
import Derived.Shelf.Strconv.Clone
import Derived.Shelf.Strconv.SyntaxError
import Derived.Shelf.LaysC
import Derived.Shelf.Strconv.ToError
import Derived.Shelf.Strconv.Lower
import Derived.Shelf.Strconv.ParseUint10
import Derived.Shelf.Strconv.ParseUint10Empty
import Derived.Shelf.Strconv.ParseUint10Any
import Derived.Shelf.Strconv.ParseInt10
import Derived.Shelf.Strconv.AtoiLong
import Derived.Shelf.Strconv.AtoiInnerAll
import Derived.Shelf.Strconv.RangeError
import Derived.Shelf.Strconv.ToErrorRange
import Derived.Shelf.Strconv.AtoiAll
import Derived.Shelf.Strings.Search1
import Derived.Shelf.Strings.Fields
import Derived.Shelf.Unicode.Latin
import Derived.Shelf.Bits.Mul64
import Derived.Shelf.Unicode.Is16White
import Derived.Shelf.Unicode.IsSpaceAny
import Derived.Shelf.Unicode.Is16Any
import Derived.Shelf.Unicode.Is32Any
import Derived.Shelf.Unicode.ExclAny
import Derived.Shelf.Strings.BuilderCap
import Derived.Shelf.Slices.Turned
import Derived.Shelf.Slices.Equal
import Derived.Test.YtnhljdeohelgjaaGreatDoorProg
import Derived.Recover
import Derived.Defers
import Derived.DeepKeys5
import Derived.DeepKeys4
set_option linter.unusedVariables false
set_option linter.unusedSimpArgs false
namespace Go.Pl
open Go.RowKit
theorem aJ3:∀ (l:List Value) (cs:Array Value) (k p:Nat),k+l.length≤cs.size→(aI9 cs k l)[p]?=if k≤p∧p<k+l.length then l[p-k]? else cs[p]?
 | [],cs,k,p,h=>by
  rw [if_neg (by simp only [List.length_nil];omega)];rfl
 | v::l,cs,k,p,h=>by
  rw [List.length_cons] at h;unfold aI9;rw [aJ3 l _ _ p (by rw [Array.size_setIfInBounds];omega),Array.getElem?_setIfInBounds,List.length_cons]
  by_cases h1:p=k
  ·subst h1;rw [if_neg (by omega),if_pos rfl,if_pos (by omega),if_pos (by omega),Nat.sub_self];rfl
  ·by_cases h2:k+1≤p∧p<k+1+l.length
   ·rw [if_pos h2,if_pos (by omega),show p-k=p-(k+1)+1 by omega,List.getElem?_cons_succ]
   ·rw [if_neg h2,if_neg (fun e=>h1 e.symm),if_neg (by omega)]
section
variable {P:Program}{w:World}{α:Type}{f:α→List Value}{c:Nat}{E:TypeId}{B n cap g:Nat}{q:Option Addr}{A:List α}
theorem aTd (hlen:∀ x,(f x).length=c) (h:ow f c E w B (.slice q n cap) A) {i:Nat}{y:α}(hy:A[i]?=some y):∃ g,q=some ⟨g,0,none⟩∧w.rangeAt g (0+i*c) (f y):=by
 have hi:=(List.getElem?_eq_some_iff.1 hy).1;rcases h.2 with ⟨_,h2⟩ | ⟨g,cap',cur,h1,hB,h3,h4,h5,h6,h7⟩
 ·omega
 ·injection h1 with e1 e2 e3
  refine ⟨g,e1,fun j u hu=>?_⟩;have hj:j<c:=by rw [←hlen y];exact (List.getElem?_eq_some_iff.1 hu).1
  have h8:=aCG hlen A i y hy j hj
  rw [hu,←h7,List.getElem?_take_of_lt (by
   have:i*c+c≤A.length*c:=by rw [←Nat.succ_mul];exact Nat.mul_le_mul_right c hi
   omega),Array.getElem?_toList] at h8
  rw [aAt h3,Nat.zero_add];exact h8
theorem aOu (hlen:∀ x,(f x).length=c) (h:ow f c E w B (.slice q n cap) A) (hq:q=some ⟨g,0,none⟩) {i k:Nat}{y y':α}{us:List Value}(hy:A[i]?=some y) (hk:k+us.length≤c) (hy':f y'=(f y).take k++us++(f y).drop (k+us.length)) (ho:us.all (·.oneCell')=true) :
  ∃ w',(storeCells ⟨g,0+i*c+k,none⟩ us 0).run P w = .ok () w'∧ow f c E w' B (.slice q n cap) (A.set i y')∧Fr (fun r=>r=g) w w':=by
 have hi:=(List.getElem?_eq_some_iff.1 hy).1;rcases h.2 with ⟨_,h2⟩ | ⟨g',cap',cur,h1,hB,h3,h4,h5,h6,h7⟩
 ·omega
 ·injection h1 with e1 e2 e3
  rw [hq] at e1
  injection e1 with e1
  injection e1 with e1 _ _
  subst e1 e3;have hic:i*c+c≤A.length*c:=by rw [←Nat.succ_mul];exact Nat.mul_le_mul_right c hi
  have hcs:A.length*c≤cur.size:=by rw [h6];exact Nat.mul_le_mul_right c h4
  obtain ⟨w',r1,r2,r3⟩:=aAS (P:=P) us (k:=0+i*c+k) (i:=0) h3 (by omega) ho;refine ⟨w',r1,⟨by rw [aBK hlen,List.length_set],.inr ⟨g,cap,_,by rw [hq,List.length_set,e2],hB,r2,by rw [List.length_set];exact h4,h5,by rw [aLW];exact h6,?_⟩⟩,r3⟩;have hpg:=aJ3 us cur (0+i*c+k+0);have hfy:(f y).length=c:=hlen y;apply List.ext_getElem?;intro p;rw [List.length_set]
  by_cases hp:p<A.length*c
  ·have hc:0<c:=Nat.pos_of_ne_zero fun e=>by rw [e] at hp;omega
   have hm:p%c<c:=Nat.mod_lt _ hc;have hd:p / c<A.length:=(Nat.div_lt_iff_lt_mul hc).2 hp;have e:p / c*c+p%c=p:=by rw [Nat.mul_comm];exact Nat.div_add_mod p c
   obtain ⟨x,hx⟩:∃ x,(A.set i y')[p / c]?=some x:=⟨_,List.getElem?_eq_getElem (by rw [List.length_set];exact hd)⟩;have h8:=aCG hlen (A.set i y') (p / c) x hx (p%c) hm;rw [e] at h8;rw [h8,List.getElem?_take_of_lt hp,Array.getElem?_toList,hpg p (by omega)]
   have hold:∀ z,A[p / c]?=some z→cur[p]?=(f z)[p%c]?:=fun z hz=>by
    have h9:=aCG hlen A (p / c) z hz (p%c) hm;rw [e,←h7,List.getElem?_take_of_lt hp,Array.getElem?_toList] at h9;exact h9
   by_cases ht:i=p / c
   ·rw [←ht,List.getElem?_set_self hi] at hx;have hx:=Option.some.inj hx;subst hx;have hz:=hold y (by rw [←ht];exact hy);have e':i*c+p%c=p:=by rw [ht];exact e
    rw [hy']
    by_cases h1:p%c<k
    ·rw [if_neg (by omega),hz,List.append_assoc,List.getElem?_append_left (by rw [List.length_take];omega),List.getElem?_take_of_lt h1]
    ·by_cases h2:p%c<k+us.length
     ·rw [if_pos (by omega),List.append_assoc,List.getElem?_append_right (by rw [List.length_take];omega),List.length_take,Nat.min_eq_left (by omega),List.getElem?_append_left (by omega),show p-(0+i*c+k+0)=p%c-k by omega]
     ·rw [if_neg (by omega),hz,List.getElem?_append_right (by rw [List.length_append,List.length_take];omega),List.length_append,List.length_take,Nat.min_eq_left (by omega),List.getElem?_drop,show k+us.length+(p%c-(k+us.length))=p%c by omega]
   ·rw [List.getElem?_set_ne ht] at hx;rw [if_neg ?_,hold x hx];intro hh;rcases Nat.lt_or_ge (p / c) i with h | h
    ·have:p / c*c+c≤i*c:=by rw [←Nat.succ_mul];exact Nat.mul_le_mul_right c h
     omega
    ·have h:i<p / c:=by omega
     have:i*c+c≤p / c*c:=by rw [←Nat.succ_mul];exact Nat.mul_le_mul_right c h
     omega
  ·rw [List.getElem?_eq_none (by rw [List.length_take];omega),List.getElem?_eq_none (by rw [aBK hlen,List.length_set];omega)]
end
section
variable {P:Program}{B:Code}{R:Pst}{ds:List Deferred}{n:Nat}{p:Option (Nat×Nat)}{L:Frm}{w w0:World}{r' i':Nat}{F:List Ft}{F0:Nat→Prop}{M:List Ent}
variable {α:Type}{f:α→List Value}{c:Nat}{E TS:TypeId}{q:Option Addr}{A:List α}{g cap m:Nat}
theorem Mm.el (X:ElT P f c TS E) (hM:Mm F0 w0 w M) {j:Nat}(hj:M[j]?=some (rw_ f c E (.slice q m cap) A)) {i:Nat}{y:α}(hy:A[i]?=some y):∃ g,q=some ⟨g,0,none⟩∧w.rangeAt g (0+i*c) (f y) :=
 aTd X.len (hM.get j hj) hy
theorem ldr (T:TypeId) (j k:Nat) {i:Nat}{y:α}{v:Value}(X:ElT P f c TS E) (hM:Mm F0 w0 w M) (hj:M[j]?=some (rw_ f c E (.slice q m cap) A)) (hq:q=some ⟨g,0,none⟩) (hy:A[i]?=some y) (hv:(f y)[k]?=some v) (hT:scT P T=true:=by kernel_rfl):Ft.ok P w (.g1 (.load T) (vP g (0+i*c+k)) v):=by
 obtain ⟨g',h1,h2⟩:=hM.el X hj hy;rw [hq] at h1
 injection h1 with h1
 injection h1 with h1 _ _
 subst h1;exact ld T (h2 k v hv) hT
theorem lar (T:TypeId) (j k l:Nat) {i:Nat}{y:α}(X:ElT P f c TS E) (hM:Mm F0 w0 w M) (hj:M[j]?=some (rw_ f c E (.slice q m cap) A)) (hq:q=some ⟨g,0,none⟩) (hy:A[i]?=some y) (hT:agT P T (((f y).drop k).take l).length=true:=by kernel_rfl):Ft.ok P w (.g1 (.load T) (vP g (0+i*c+k)) (vA (((f y).drop k).take l))):=by
 obtain ⟨g',h1,h2⟩:=hM.el X hj hy;rw [hq] at h1
 injection h1 with h1
 injection h1 with h1 _ _
 subst h1;exact la T (rs h2 k l) hT
theorem Mm.rowput (X:ElT P f c TS E) (hM:Mm F0 w0 w M) {j:Nat}(hj:M[j]?=some (rw_ f c E (.slice q m cap) A)) (hq:q=some ⟨g,0,none⟩) {i k:Nat}{y y':α}{us:List Value}(hy:A[i]?=some y) (hk:k+us.length≤c) (hy':f y'=(f y).take k++us++(f y).drop (k+us.length)) (ho:us.all (·.oneCell')=true) :
  ∃ w',(storeCells ⟨g,0+i*c+k,none⟩ us 0).run P w = .ok () w'∧Mm F0 w0 w' (M.set j (rw_ f c E (.slice q m cap) (A.set i y'))):=by
 obtain ⟨w',r1,r2,r3⟩:=aOu (P:=P) X.len (hM.get j hj) hq hy hk hy' ho;refine ⟨w',r1,hM.put j hj r3 (fun k _ e=>?_) r2 fun k e => .inl e⟩;subst e;show (Value.slice q m cap).ownBlock=some k;rw [hq];rfl
theorem aL8 {T:TypeId}{w w':World}{g off:Nat}{v:Value}{o:Oper}{ρ:Operand→Value}{x y:Operand}(hT:(P.info? T).map (·.size)=some v.cells.size) (ho:o.op = .store T x y) (hx:ρ x=vP g off) (hy:ρ y=v) (g1:(storeCells ⟨g,off,none⟩ v.cells.toList 0).run P w = .ok () w'):(execOp ρ o).run P w = .ok .skip w':=by
 obtain ⟨i,hi,hs⟩:=Option.map_eq_some_iff.1 hT;have hs:i.size=v.cells.size:=hs;simp only [execOp,ho,hx,hy,Instr.storeAt,Instr.sureAddr,storeVar,sizeOf,typeInfo];generalize v.cells=cc at *;simp [go_sem,hi,hs,g1]
end
section
variable {rd:Option Nat}{P:Program}{B:Code}{ds:List Deferred}{n:Nat}{L:Frm}{w w0:World}{r:Nat}{F0:Nat→Prop}{ef:List Nat}{V:Lts→List (Option Value)}{F:Lts→List Ft}{Mf:Lts→List Bool→List Ent}
variable {α:Type}{f:α→List Value}{c:Nat}{E TS:TypeId}{q:Option Addr}{g cap m:Nat}
theorem aF8 (p i:Nat) (T:TypeId) (j k e:Nat) (A:List α) {y:α}(y':α) (v:Lts→Value) (X:ElT P f c TS E) (hq:q=some ⟨g,0,none⟩) (hy:A[e]?=some y)
  (hy':∀ γ,f y'=(f y).take k++(v γ).cells.toList++(f y).drop (k+(v γ).cells.toList.length))
  (hj:∀ γ fr,(Mf γ (flg B r ef i fr))[j]?=some (rw_ f c E (.slice q m cap) A):=by intro γ fr;kernel_rfl)
  (hm:∀ γ fr,(Mf γ (flg B r ef i fr)).set j (rw_ f c E (.slice q m cap) (A.set e y'))=Mf (aB6 γ p undef) ((flg B r ef i fr).set p true):=by intro γ fr;kernel_rfl)
  (hT:∀ γ,(Nat.ble (k+(v γ).cells.toList.length) c,(v γ).cells.toList.all (·.oneCell'),(P.info? T).map (·.size),((V (aB6 γ p undef))[p]?).getD none)=(true,true,some (v γ).cells.size,none):=by intro γ;kernel_rfl)
  (hs:∀ γ,aNu (aAz B r) i (frX P w n B r L ef V F i γ)=aNt (aAz B r) i (fun x y => .store T x y) (vP g (0+e*c+k)) (v γ) none:=by intro γ;kernel_rfl):Arm rd P w n B r L ef V F ds F0 w0 Mf p i:=by
 intro γ fr a wm Q o ho En hw hM;obtain ⟨x,z,h1,h2,h3,h4⟩:=aE9 ho En (hs γ);have ht:=hT γ;simp only [Prod.mk.injEq] at ht;obtain ⟨t1,t2,t3,t4⟩:=ht;obtain ⟨w',g1,g2⟩:=hM.rowput X (hj γ fr) hq hy (Nat.le_of_ble_eq_true t1) (hy' γ) t2;rw [hm] at g2;exact aIs (aL8 t3 h1 h2 h3 g1) h4 ⟨undef,γ.e p,by rw [aAo,t4];rfl,by rw [aAo];exact g2⟩
theorem aIl (p i:Nat) (T:TypeId) (j k e d:Nat) (A:List α) {y:α}(v:Lts→Value) (X:ElT P f c TS E) (hq:q=some ⟨g,0,none⟩) (hy:A[e]?=some y)
  (hv:∀ γ,(f y)[k]?=some (v γ))
  (hj:∀ γ fr,(Mf γ (flg B r ef i fr))[j]?=some (rw_ f c E (.slice q m cap) A):=by intro γ fr;kernel_rfl)
  (hm:∀ γ fr,Mf γ (flg B r ef i fr)=Mf (aB6 γ p undef) ((flg B r ef i fr).set p true):=by intro γ fr;kernel_rfl)
  (hV:∀ γ,((V (aB6 γ p undef))[p]?).getD none=some (v γ):=by intro γ;rfl) (hT:scT P T=true:=by kernel_rfl)
  (hs:∀ γ,aR9 (aAz B r) i (frX P w n B r L ef V F i γ)=aR8 (aAz B r) i (.load T) (vP g (0+e*c+k)) (some d):=by intro γ;kernel_rfl):Arm rd P w n B r L ef V F ds F0 w0 Mf p i:=by
 intro γ fr a wm Q o ho En hw hM;obtain ⟨x,h1,h2,h3⟩:=aLC ho En (hs γ);obtain ⟨g',e1,e2⟩:=hM.el X (hj γ fr) hy;rw [hq] at e1
 injection e1 with e1
 injection e1 with e1 _ _
 subst e1;have hl:=aBi (P:=P) hT (e2 k _ (hv γ));rw [hm] at hM;refine aFQ (v:=v γ) (w':=wm) ?_ ⟨undef,γ.e p,by rw [aAo,hV,h3];rfl,by rw [aAo];exact hM⟩;simp only [execOp,h1,h2,Sem.run_bind,hl,Result.andThen_ok,Sem.run_pure]
end
theorem aAB {α:Type}{f:α→List Value}{c:Nat}{w w':World}{B:Nat}{p:Option Addr}{cap:Nat}{L:List α}{G:Nat→Prop}(h:SrcB f c w B p cap L) (k:Fr G w w') (hG:∀ k,G k→B≤k):SrcB f c w' B p cap L:=⟨h.le,h.ca,h.at_.fr k fun r hr hg=>by have:=hG r hg;omega,h.nil⟩
def Apt {α:Type}(f:α→List Value) (c:Nat) (G:Nat→Prop) (w:World) (v:Value) (L:List α):Prop:=∀ w',Fr G w w'→Src f c w' v L
theorem aBG {α:Type}{f:α→List Value}{c:Nat}{G:Nat→Prop}{w:World}:Apt f c G w (.slice none 0 0) ([]:List α):=fun w' _=>Src.nil w'
theorem aD4 {α:Type}{f:α→List Value}{c:Nat}{G:Nat→Prop}{w:World}{b:Nat}{cs:Array Value}{T:TypeId}{v:Value}{L:List α}(h:w.heap[b]?=some (.cells cs T (0,0))) (hn:¬ G b) (hs:∀ w',w'.heap[b]?=some (.cells cs T (0,0))→Src f c w' v L):Apt f c G w v L:=fun w' fr=>hs w' (fr.obj h hn)
theorem Mm.notin {F0:Nat→Prop}{w0 w:World}{M:List Ent}(h:Mm F0 w0 w M) {i:Nat}{js:List Nat}{x:Ent}{b:Nat}(hi:M[i]?=some x) (hb:x.B b) (hn:i∉js):¬ BlM (aBw M js) b:=by
 rintro ⟨e,he,heb⟩;obtain ⟨j,hj,hje⟩:=aCv he;have h1:=(List.getElem?_eq_some_iff.1 hi);have h2:=(List.getElem?_eq_some_iff.1 hje);obtain ⟨l1,e1⟩:=h1;obtain ⟨l2,e2⟩:=h2;rcases Nat.lt_trichotomy i j with hl | hl | hl
 ·exact List.pairwise_iff_getElem.1 h.nd i j l1 l2 hl b (by rw [e1];exact hb) (by rw [e2];exact heb)
 ·subst hl;exact hn hj
 ·exact List.pairwise_iff_getElem.1 h.nd j i l2 l1 hl b (by rw [e2];exact heb) (by rw [e1];exact hb)
theorem aDH {Ms:List Ent}{b:Nat}{cs:Array Value}{T:TypeId}(hp:Ms=[bk b cs T]) {k:Nat}(h:BlM Ms k):k=b:=by
 obtain ⟨e,he,hb⟩:=h;rw [hp,List.mem_singleton] at he;subst he;exact hb
theorem aTJ {Ms:List Ent}{b:Nat}{cs:Array Value}{T:TypeId}{e2:Ent}(hp:Ms=[bk b cs T,e2]) {k:Nat}(h:BlM Ms k):k=b∨e2.B k:=by
 obtain ⟨e,he,hb⟩:=h;rw [hp] at he;simp only [List.mem_cons,List.not_mem_nil,or_false] at he;rcases he with rfl | rfl
 ·exact .inl hb
 ·exact .inr hb
def pfE (Q:Ent→Prop) (e:Ent):Ent where
 B:=e.B
 H:=fun w=>Q e∧e.H w
 lt:=fun h k=>e.lt h.2 k
 fr:=fun h f hd=>⟨h.1,e.fr h.2 f hd⟩
theorem Mm.pf {F0:Nat→Prop}{w0 w:World}{M:List Ent}{Q:Ent→Prop}{e:Ent}{j:Nat}(h:Mm F0 w0 w M) (hj:M[j]?=some e) (hQ:Q e):Mm F0 w0 w (M.set j (pfE Q e)) :=
 h.put j hj (Fr.refl (fun _=>False) w) (fun k _ e=>e.elim) (e':=pfE Q e) ⟨hQ,h.get j hj⟩ fun k e => .inl e
theorem Mm.unpf {F0:Nat→Prop}{w0 w:World}{M:List Ent}{Q:Ent→Prop}{e:Ent}{j:Nat}(h:Mm F0 w0 w M) (hj:M[j]?=some (pfE Q e)):Q e∧Mm F0 w0 w (M.set j e) :=
 ⟨(h.get j hj).1,h.put j hj (Fr.refl (fun _=>False) w) (fun k _ e=>e.elim) (e':=e) (h.get j hj).2 fun k e => .inl e⟩
section
variable {rd:Option Nat}{P:Program}{B:Code}{ds:List Deferred}{n:Nat}{L:Frm}{w w0:World}{r:Nat}{F0:Nat→Prop}{ef:List Nat}{V:Lts→List (Option Value)}{F:Lts→List Ft}{Mf:Lts→List Bool→List Ent}
theorem aTw (p i:Nat) (T:TypeId) (j d c:Nat) {K e:TypeId}(b:Nat) (m:Value→Option Value) (key z v:Value) (LK:Maps.Keyed P K) (ht:P.underlying T=some (.map K e)) (hk:∃ l,keyOf P K key=some l) (hz:∀ w,(zeroValue e).run P w = .ok z w) (hv:(m key).getD z=v)
  (hj:∀ γ fr,(Mf γ (flg B r ef i fr))[j]?=some (mp P K b c m):=by intro γ fr;kernel_rfl)
  (hm:∀ γ fr,Mf γ (flg B r ef i fr)=Mf (aB6 γ p undef) ((flg B r ef i fr).set p true):=by intro γ fr;kernel_rfl)
  (hV:∀ γ,((V (aB6 γ p undef))[p]?).getD none=some v:=by intro γ;rfl)
  (hs:∀ γ,aNu (aAz B r) i (frX P w n B r L ef V F i γ)=aNt (aAz B r) i (fun x y => .lookup T x y false) (.map (some b)) key (some d):=by intro γ;kernel_rfl):Arm rd P w n B r L ef V F ds F0 w0 Mf p i:=by
 intro γ fr a wm Q o ho E hw hM;obtain ⟨x,y,h1,h2,h3,h4⟩:=aE9 ho E (hs γ);obtain ⟨l,hk⟩:=hk;have hmm:aCj P K wm b c m:=hM.get j (hj γ fr);have hl:=hmm.at.look LK ht hk (hz wm);rw [hv] at hl;rw [hm] at hM;refine aFQ (v:=v) (w':=wm) ?_ ⟨undef,γ.e p,by rw [aAo,hV,h4];rfl,by rw [aAo];exact hM⟩;simp only [execOp,h1,h2,h3,Sem.run_bind,hl,Result.andThen_ok,Sem.run_pure]
theorem aPG (p i j d k:Nat) (ts:Array TypeId) {l:Nat}{v:Value}{J:Nat→Ent→Prop}(e:Lts→Ent)
  (hR:∀ γ wm,J k (e γ)→(e γ).H wm→Fr F0 w0 wm→aFB P l #[v] wm (aSE J k (e γ) wm) fun _=>False)
  (hj:∀ γ fr,(Mf γ (flg B r ef i fr))[j]?=some (pfE (J k) (e γ)):=by intro γ fr;kernel_rfl)
  (hm:∀ γ fr e',(Mf γ (flg B r ef i fr)).set j (pfE (J (k+1)) e')=Mf (aFX (aB6 γ p (.bool true)) p e') ((flg B r ef i fr).set p true):=by intro γ fr e';kernel_rfl)
  (hV:∀ γ e',((V (aFX (aB6 γ p (.bool true)) p e'))[p]?).getD none=some (.bool true):=by intro γ e';rfl)
  (hs:∀ γ,aNu (aAz B r) i (frX P w n B r L ef V F i γ)=aNt (aAz B r) i (fun x y => .call ⟨.value x,#[y],ts⟩) (.func (.yield l) #[] #[]) v (some d):=by intro γ;kernel_rfl):Arm rd P w n B r L ef V F ds F0 w0 Mf p i:=by
 intro γ fr a wm Q o ho E hw hM;obtain ⟨x,y,h1,h2,h3,h4⟩:=aE9 ho E (hs γ);obtain ⟨hJ,hH⟩:=hM.get j (hj γ fr);refine aJi (fun _ _ _ _ h=>aFY h1 h2 h3 h) (hR γ wm hJ hH hM.fr) (fun w' hw'=>?_) fun w' h=>h.elim;obtain ⟨e',g1,g2,g3,g4⟩:=hw';have hM':=hM.put (w':=w') j (hj γ fr) g4 (fun k _ e=>e) (e':=pfE (J (k+1)) e') ⟨g1,g2⟩ g3;rw [hm] at hM';exact ⟨.bool true,e',by rw [hV,h4];rfl,hM'⟩
end
section
variable {P:Program}{B:Code}{R:Pst}{ds:List Deferred}{n:Nat}{p:Option (Nat×Nat)}{L N:Frm}{w w0:World}{F:List Ft}{F0:Nat→Prop}{M:List Ent}{r' i':Nat}
def aO8 (n:Nat) (LL:Frm) (f:Operand→Op):Md→Option (Option Nat×Option Bool×Op×Op×Option Value)
 | .ops _ O (o::_) _ _=>match o.op.operands[0]? with
  | some x=>some (o.dst,aCp O LL n o,o.op,f x,opv LL x)
  | _=>none
 | _=>none
def aRo (x:Res) (n:Nat) (L:Frm) (f:Operand→Op):Option (Option Nat×Option Bool×Op×Option Value) :=
 match x with
 | some (m,nw,_,_)=>match aO8 n (nw++L) f m with
  | some (d,wt,a,b,u)=>some (d,wt,a,u)
  | none=>none
 | none=>none
def aRn (x:Res) (n:Nat) (L:Frm) (f:Operand→Op) (d:Option Nat) (v:Value):Option (Option Nat×Option Bool×Op×Option Value) :=
 match x with
 | some (m,nw,_,_)=>match aO8 n (nw++L) f m with
  | some (_,_,_,b,_)=>some (d,some true,b,some v)
  | none=>some (none,none,f (.tmp 0),none)
 | none=>some (none,none,f (.tmp 0),none)
theorem aJ5 {f:Operand→Op}{d:Option Nat}{v:Value}(hF:aAM P w F)
  (h:(lhs (go P w n B p L r' i' F) N L,aRo (go P w n B p L r' i' F) n L f)=(rhs (go P w n B p L r' i' F) N B r' i',aRn (go P w n B p L r' i' F) n L f d v))
  (k:∀ (O:Array Oper) (kk:List Kon) (o:Oper) (l:List Oper) (a:Act) x,aAL r' B []=some (O,false,kk)→O.toList.drop i'=o::l→EnvS ds n (N++L) a→o.dst=d→Region.wanted o (yielded O a.tmps)=true→o.op=f x→a.eval x=v→wpListIn (fen R.rd) 0 P O (post P R kk) (o::l) a w):AtO P B R ds n p L w:=by
 obtain ⟨h1,h2⟩:=Prod.mk.inj h;obtain ⟨m,nw,fs,es,hx,hE,⟨z,hl,ht⟩,hs⟩:=aDD h1;rw [hx] at h2;refine aGU hx hF hE fun a E=>?_;unfold aRo aRn at h2;simp only at h2
 cases hta:aO8 n (nw++L) f m with
 | none=>rw [hta] at h2;cases h2
 | some q =>
  obtain ⟨d1,wt,oa,ob,u1⟩:=q;rw [hta] at h2;simp only [Option.some.injEq,Prod.mk.injEq] at h2;obtain ⟨rfl,rfl,rfl,rfl⟩:=h2
  cases m with
  | ops r O l i k1 =>
   cases l with
   | nil=>cases hta
   | cons o l =>
    unfold aO8 at hta;simp only at hta
    split at hta
    ·rename_i x hx0;simp only [Option.some.injEq,Prod.mk.injEq] at hta;obtain ⟨q1,q3,q4,q5,q6⟩:=hta;unfold aHu at ht
     cases hf:aAL r' B [] with
     | none=>rw [hf] at ht;cases ht
     | some z1 =>
      obtain ⟨O1,dr,kk⟩:=z1;rw [hf] at ht
      cases dr with
      | true =>
       cases i' with
       | zero=>cases ht;cases hl
       | succ i'=>cases ht
      | false =>
       cases ht;have hl:(some (O,false,k1,o::l,0):Option (Array Oper×Bool×List Kon×List Oper×Nat))=some (O1,false,kk,O1.toList.drop i',0):=hl;simp only [Option.some.injEq,Prod.mk.injEq] at hl;obtain ⟨rfl,_,rfl,hl,_⟩:=hl;exact k O k1 o l a x hf hl.symm (E.sub hs) q1 (aBN q3 E) (q4.trans q5.symm) (E.opv q6)
    ·cases hta
  | _=>cases hta
theorem aKk {T:TypeId}{o:Oper}{ρ:Operand→Value}{x:Operand}{b:Nat}{v:Value}{w':World}(h:(Instr.range T (.map (some b))).run P w = .ok v w') (ho:o.op = .range T x) (hx:ρ x = .map (some b)):(execOp ρ o).run P w = .ok (.value v) w':=by
 simp [execOp,ho,hx,h,Result.andThen]
theorem aH4 {o:Oper}{ρ:Operand→Value}{x:Operand}{r:Nat}{v:Value}{w':World}(h:(Instr.next (.pointer (some ⟨r,0,none⟩)) false o.type).run P w = .ok v w') (ho:o.op = .next x false) (hx:ρ x = .pointer (some ⟨r,0,none⟩)):(execOp ρ o).run P w = .ok (.value v) w':=by
 simp [execOp,ho,hx,h,Result.andThen]
theorem aKl {o:Oper}{ρ:Operand→Value}{x:Operand}{r:Nat}{v:Value}(h:(Instr.entry (.pointer (some ⟨r,0,none⟩))).run P w = .ok v w) (ho:o.op = .entry x) (hx:ρ x = .pointer (some ⟨r,0,none⟩)):(execOp ρ o).run P w = .ok (.value v) w:=by
 simp [execOp,ho,hx,h,Result.andThen]
def aPv (P:Program) (K:TypeId) (b r n:Nat) (m:Value→Option Value) (left:Value→Prop) (cnt:Nat):Ent where
 B k:=k=b∨k=r
 H w:=Rng P K w b r m left cnt∧aCj P K w b n m
 lt h e:=by rcases e with rfl | rfl;exact h.2.lt;exact h.1.lt
 fr h f hn:=⟨h.1.fr f (hn _ (.inl rfl)) (hn _ (.inr rfl)),h.2.fr f (hn _ (.inl rfl))⟩
theorem rgm (r' i' d:Nat) (N:Frm) (T:TypeId) (j:Nat) {K e:TypeId}{b c:Nat}{m:Value→Option Value}(hd:d<n) (hF:aAM P w F) (hM:Mm F0 w0 w M) (hj:M[j]?=some (mp P K b c m)) (ht:P.underlying T=some (.map K e))
  (kk:∀ r cnt w',Mm F0 w0 w' (M.set j (aPv P K b r c m (fun k=>(m k).isSome=true) cnt))→AtO P B R ds n (some (r',i'+1)) ((d,vP r 0)::(N++L)) w')
  (h:(lhs (go P w n B p L r' i' F) N L,aRo (go P w n B p L r' i' F) n L (fun x => .range T x))=(rhs (go P w n B p L r' i' F) N B r' i',aRn (go P w n B p L r' i' F) n L (fun x => .range T x) (some d) (.map (some b))):=by kernel_rfl):AtO P B R ds n p L w:=by
 refine aJ5 hF h fun O k1 o l a x hf hd1 En hdd hw ho hx=>?_;have hm:aCj P K w b c m:=hM.get j hj;obtain ⟨ob,cnt,hr,hR⟩:=hm.at.range ht;refine aCS hw (aKk hr ho hx) ?_;rw [hdd];have f1:Fr (fun _=>False) w (w.alloc ob):=(Fr.refl _ _).alloc _
 have hM':=hM.put (w':=w.alloc ob) j (e':=aPv P K b w.heap.size c m (fun k=>(m k).isSome=true) cnt) hj f1 (fun _ _ h=>h.elim) ⟨hR,hm.fr f1 id⟩ fun k e=>by
  rcases e with rfl | rfl
  ·exact .inl rfl
  ·exact .inr (Nat.le_refl _)
 obtain ⟨O1,dr,k2,hf1,hk⟩:=kk _ _ _ hM';rw [hf] at hf1;cases hf1;have hdr:O.toList.drop (i'+1)=l:=by rw [←List.tail_drop,hd1];rfl
 rw [←hdr];exact hk _ (En.put hd)
theorem nxm (r' i' d:Nat) (N:Frm) (j:Nat) {K:TypeId}{b r c cnt:Nat}{m:Value→Option Value}{left:Value→Prop}(hd:d<n) (hF:aAM P w F) (hM:Mm F0 w0 w M) (hj:M[j]?=some (aPv P K b r c m left cnt))
  (k1:(∀ k,¬ left k)→AtO P B R ds n (some (r',i'+1)) ((d,.tuple #[vB false])::(N++L)) w)
  (k2:∀ key v cnt' w',left key→m key=some v→(∃ l,keyOf P K key=some l)→cnt'<cnt→Mm F0 w0 w' (M.set j (aPv P K b r c m (fun x=>left x∧x≠key) cnt'))→(Instr.entry (.pointer (some ⟨r,0,none⟩))).run P w' = .ok (.tuple #[key,v]) w'→AtO P B R ds n (some (r',i'+1)) ((d,.tuple #[vB true,key,v])::(N++L)) w')
  (h:(lhs (go P w n B p L r' i' F) N L,aRo (go P w n B p L r' i' F) n L (fun x => .next x false))=(rhs (go P w n B p L r' i' F) N B r' i',aRn (go P w n B p L r' i' F) n L (fun x => .next x false) (some d) (vP r 0)):=by kernel_rfl):AtO P B R ds n p L w:=by
 refine aJ5 hF h fun O k1' o l a x hf hd1 En hdd hw ho hx=>?_;have hdr:O.toList.drop (i'+1)=l:=by rw [←List.tail_drop,hd1];rfl
 obtain ⟨hR,hm⟩:Rng P K w b r m left cnt∧aCj P K w b c m:=hM.get j hj;rcases hR.next o.type with ⟨h0,hr⟩ | ⟨key,v,w',cnt',g1,g2,g3,hr,g4,g5,g6,g7⟩
 ·refine aCS hw (aH4 hr ho hx) ?_;rw [hdd];obtain ⟨O1,dr,k2,hf1,hk⟩:=k1 h0;rw [hf] at hf1;cases hf1;rw [←hdr];exact hk _ (En.put hd)
 ·refine aCS hw (aH4 hr ho hx) ?_;rw [hdd];have hM':=hM.put (w':=w') j (e':=aPv P K b r c m (fun x=>left x∧x≠key) cnt') hj g6 (fun k _ e => .inr e) ⟨g4,hm.fr g6 (fun e=>hR.ne e.symm)⟩ fun k e => .inl e;obtain ⟨O1,dr,k2,hf1,hk⟩:=k2 _ _ _ _ g1 g2 g3 g5 hM' g7;rw [hf] at hf1;cases hf1;rw [←hdr];exact hk _ (En.put hd)
theorem aO3 {r:Nat}{key v:Value}(h:(Instr.entry (.pointer (some ⟨r,0,none⟩))).run P w = .ok (.tuple #[key,v]) w):Ft.ok P w (.g1 (fun x => .entry x) (vP r 0) (.tuple #[key,v])):=fun o ρ x ho hx=>aKl h ho hx
theorem Mm.unrng {K:TypeId}{b r c cnt j:Nat}{m:Value→Option Value}{left:Value→Prop}(hM:Mm F0 w0 w M) (hj:M[j]?=some (aPv P K b r c m left cnt)):Mm F0 w0 w (M.set j (mp P K b c m)) :=
 hM.put j hj (Fr.refl (fun _=>False) _) (fun _ _ h=>h.elim) (show aCj P K w b c m from (hM.get j hj).2) fun k e => .inl (.inl e)
end
def slp:Value→Option Addr
 | .slice p _ _=>p
 | _=>none
def slc:Value→Nat
 | .slice _ _ c=>c
 | _=>0
section
variable {P:Program}{w w0:World}{rd:Option Nat}{B:Code}{r n:Nat}{L:Frm}{ef:List Nat}{V:Lts→List (Option Value)}{F:Lts→List Ft}{ds:List Deferred}{F0:Nat→Prop}{Mf:Lts→List Bool→List Ent}
theorem aE7 {α:Type}{f:α→List Value}{c:Nat}(p i j d:Nat) (T E:TypeId) (G:Nat) (v:Lts→Value) (A S:List α) (q:Lts→Nat) (cap:Nat) (X:ElT P f c T E) (hl:A.length+S.length≤1500000000000)
  (hsrc:∀ γ fr wm,Mm F0 w0 wm (Mf γ (flg B r ef i fr))→aCM f c wm (q γ+1) (some ⟨q γ,0,none⟩) S)
  (hj:∀ γ fr,(Mf γ (flg B r ef i fr))[j]?=some (rw_ f c E (v γ) A):=by intro γ fr;kernel_rfl)
  (hm:∀ γ fr p' c',(Mf γ (flg B r ef i fr)).set j (rw_ f c E (vL p' (A++S).length c') (A++S))=Mf (aB6 γ p (vL p' (A++S).length c')) ((flg B r ef i fr).set p true):=by intro γ fr p' c';kernel_rfl)
  (hV:∀ γ p' c',((V (aB6 γ p (vL p' (A++S).length c')))[p]?).getD none=some (vL p' (A++S).length c'):=by intro γ p' c';rfl)
  (hs:∀ γ,aNu (aAz B r) i (frX P w n B r L ef V F i γ)=aNt (aAz B r) i (fun x y => .call { callee := .builtin .append,args:=#[x,y],argTypes:=#[T,T] }) (v γ) (.slice (some ⟨q γ,0,none⟩) S.length cap) (some d):=by intro γ;kernel_rfl):Arm rd P w n B r L ef V F ds F0 w0 Mf p i:=by
 intro γ fr a wm Q o ho En hw hM;obtain ⟨x,y,h1,h2,h3,h4⟩:=aE9 ho En (hs γ);have hrow:ow f c E wm 0 (v γ) A:=hM.get j (hj γ fr);obtain ⟨w',v',g1,g2,g3,g4⟩:=aNm X h1 h2 hrow h3 (hsrc γ fr wm hM) (by simp) hl (Nat.zero_le _)
 have hM':=hM.put (w':=w') j (e':=rw_ f c E v' (A++S)) (hj γ fr) g3 (fun k _ e=>e) g2 (fun k e=>by
  have e:v'.ownBlock=some k:=e;rcases g4 with h3 | h3
  ·exact .inl (by rw [h3] at e;exact e)
  ·rw [h3] at e;cases e;exact .inr (Nat.le_refl _))
 obtain ⟨p',c',hv,-⟩:=g2.src X.len;subst hv;rw [hm] at hM';exact aC9 g1 ⟨vL p' (A++S).length c',γ.e p,by rw [aAo,hV,h4];rfl,by rw [aAo];exact hM'⟩
end
section
variable {P:Program}{B:Code}{R:Pst}{ds:List Deferred}{n:Nat}{p:Option (Nat×Nat)}{L N:Frm}{w w0:World}{F:List Ft}{F0:Nat→Prop}{M A Ms:List Ent}
abbrev Mth (P:Program) (w:World) (t:TypeId) (v:Value) (name:String) (f:FuncId) (rv:Value):Prop:=(method (P.types.size+100) t v name).run P w = .ok (f,rv) w
section
variable {o:Oper}{ρ:Operand→Value}{x y z:Operand}{t:TypeId}{v rv u1 u2:Value}{f:FuncId}{name:String}{ts:Array TypeId}
theorem aLL (hm:Mth P w t v name f rv) (eg:aEM P f) (ho:o.op = .call ⟨.invoke x name,#[],ts⟩) (hx:ρ x = .iface t v):(execOp ρ o).run P w = .ok (.enter f #[rv]) w:=by
 have hm:(method (P.types.size+100) t v name).run P w = .ok (f,rv) w:=hm;simp [execOp,ho,hx,resolve,invoke,callMethod,go_sem,hm,eg]
theorem aLK (hm:Mth P w t v name f rv) (eg:aEM P f) (ho:o.op = .call ⟨.invoke x name,#[y],ts⟩) (hx:ρ x = .iface t v) (hy:ρ y=u1):(execOp ρ o).run P w = .ok (.enter f #[rv,u1]) w:=by
 have hm:(method (P.types.size+100) t v name).run P w = .ok (f,rv) w:=hm;simp [execOp,ho,hx,hy,resolve,invoke,callMethod,go_sem,hm,eg]
theorem aLJ (hm:Mth P w t v name f rv) (eg:aEM P f) (ho:o.op = .call ⟨.invoke x name,#[y,z],ts⟩) (hx:ρ x = .iface t v) (hy:ρ y=u1) (hz:ρ z=u2):(execOp ρ o).run P w = .ok (.enter f #[rv,u1,u2]) w:=by
 have hm:(method (P.types.size+100) t v name).run P w = .ok (f,rv) w:=hm;simp [execOp,ho,hx,hy,hz,resolve,invoke,callMethod,go_sem,hm,eg]
end
theorem aSB (r' i' d:Nat) (N:Frm) (name:String) (ts:Array TypeId) {t:TypeId}{v rv:Value}{f:FuncId}{K:Value→World→Prop}(hd:d<n) (hF:aAM P w F) (hm:Mth P w t v name f rv) (eg:aEM P f) (hc:Calls P f #[rv] w fun e w'=>∃ u,e = .returned u∧K u w') (k:∀ u w',K u w'→AtO P B R ds n (some (r',i'+1)) ((d,u)::(N++L)) w')
  (h:(lhs (go P w n B p L r' i' F) N L,aRo (go P w n B p L r' i' F) n L (fun x => .call ⟨.invoke x name,#[],ts⟩))=(rhs (go P w n B p L r' i' F) N B r' i',aRn (go P w n B p L r' i' F) n L (fun x => .call ⟨.invoke x name,#[],ts⟩) (some d) (.iface t v)):=by kernel_rfl):AtO P B R ds n p L w :=
 aJ5 hF h fun O kk o l a x hf hd1 E hdd hw ho hx=>by
  refine aFd hw (aLL hm eg ho hx) hc fun u w' hK=>?_;obtain ⟨O1,dr,k1,hf1,hk⟩:=k u w' hK;rw [hf] at hf1;cases hf1;have:=hk _ (E.put (v:=u) hd);rw [hdd];have hdr:O.toList.drop (i'+1)=l:=by rw [←List.tail_drop,hd1];rfl
  rw [←hdr];exact this
theorem aUC (r' i' d:Nat) (N:Frm) (name:String) (ts:Array TypeId) {t:TypeId}{v rv u1:Value}{f:FuncId}{K:Value→World→Prop}(hd:d<n) (hF:aAM P w F) (hm:Mth P w t v name f rv) (eg:aEM P f) (hc:Calls P f #[rv,u1] w fun e w'=>∃ u,e = .returned u∧K u w') (k:∀ u w',K u w'→AtO P B R ds n (some (r',i'+1)) ((d,u)::(N++L)) w')
  (h:(lhs (go P w n B p L r' i' F) N L,aLr (go P w n B p L r' i' F) n L (fun x y => .call ⟨.invoke x name,#[y],ts⟩))=(rhs (go P w n B p L r' i' F) N B r' i',aLq (go P w n B p L r' i' F) n L (fun x y => .call ⟨.invoke x name,#[y],ts⟩) (some d) false (.iface t v) u1):=by kernel_rfl):AtO P B R ds n p L w :=
 aHr hF h fun O kk o l a x y hf hd1 E hdd _ hw ho hx hy=>by
  refine aFd hw (aLK hm eg ho hx hy) hc fun u w' hK=>?_;obtain ⟨O1,dr,k1,hf1,hk⟩:=k u w' hK;rw [hf] at hf1;cases hf1;have:=hk _ (E.put (v:=u) hd);rw [hdd];have hdr:O.toList.drop (i'+1)=l:=by rw [←List.tail_drop,hd1];rfl
  rw [←hdr];exact this
theorem aNx (r' i' d:Nat) (N:Frm) (name:String) (ts:Array TypeId) {t:TypeId}{v rv u1 u2:Value}{f:FuncId}{K:Value→World→Prop}(hd:d<n) (hF:aAM P w F) (hm:Mth P w t v name f rv) (eg:aEM P f) (hc:Calls P f #[rv,u1,u2] w fun e w'=>∃ u,e = .returned u∧K u w') (k:∀ u w',K u w'→AtO P B R ds n (some (r',i'+1)) ((d,u)::(N++L)) w')
  (h:(lhs (go P w n B p L r' i' F) N L,aR0 (go P w n B p L r' i' F) n L (fun x y z => .call ⟨.invoke x name,#[y,z],ts⟩))=(rhs (go P w n B p L r' i' F) N B r' i',aRz (go P w n B p L r' i' F) n L (fun x y z => .call ⟨.invoke x name,#[y,z],ts⟩) (some d) (.iface t v) u1 u2):=by kernel_rfl):AtO P B R ds n p L w :=
 aLx hF h fun O kk o l a x y z hf hd1 E hdd hw ho hx hy hz=>by
  refine aFd hw (aLJ hm eg ho hx hy hz) hc fun u w' hK=>?_;obtain ⟨O1,dr,k1,hf1,hk⟩:=k u w' hK;rw [hf] at hf1;cases hf1;have:=hk _ (E.put (v:=u) hd);rw [hdd];have hdr:O.toList.drop (i'+1)=l:=by rw [←List.tail_drop,hd1];rfl
  rw [←hdr];exact this
theorem aQ5 {g:FuncId}{args:Array Value}{K:Value→List Ent→Prop}(is js:List Nat) (hM:Mm F0 w0 w M) (hA:aBw M is=A) (hS:aBw M js=Ms) (hn:(is++js).Nodup) (hc:Mm (BlM Ms) w w Ms→Calls P g args w fun e w'=>∃ v Mn,e = .returned v∧K v Mn∧Mm (BlM Ms) w w' Mn):Calls P g args w fun e w'=>∃ v,e = .returned v∧∃ Mn,K v Mn∧Mm F0 w0 w' (A++Mn):=by
 have hp:aBw M (is++js)=A++Ms:=by rw [←hA,←hS,aDZ]
 have hM1:=hM.pick (is++js) hp hn;have hMs:Mm F0 w0 w Ms:=hM.pick js hS (List.nodup_append.1 hn).2.1;exact (hc (hMs.re fun e he k hk=>⟨e,he,hk⟩)).mono fun e w' ⟨v,Mn,h1,h2,h3⟩=>⟨v,h1,Mn,h2,hM1.call h3 fun _ _ h=>h⟩
end
theorem aSH {P:Program}{w:World}{f:FuncId}{args:Array Value}{v:Value}(hc:Calls P f args w fun e w'=>e = .returned v∧Fr (fun _=>False) w w'):Calls P f args w fun e w'=>∃ u,e = .returned u∧(u=v∧Fr (fun _=>False) w w'):=hc.mono fun _ _ h=>⟨v,h.1,rfl,h.2⟩
section
variable {P:Program}{w w0:World}{α:Type}{f:α→List Value}{c:Nat}{E TS:TypeId}{B:Nat}{p:Option Addr}{F0:Nat→Prop}{M:List Ent}{A:List α}
theorem aRN (hlen:∀ x,(f x).length=c) {n cap:Nat}{Y:List α}{x:α}(h:ow f c E w B (.slice p n cap) (Y++[x])):ow f c E w B (.slice p (n-1) cap) Y:=by
 rcases h.2 with ⟨h1,h2⟩ | ⟨g,c2,cur,h1,hB,h3,h4,h5,h6,h7⟩
 ·simp at h2
 ·simp only [Value.slice.injEq] at h1;obtain ⟨rfl,hn,rfl⟩:=h1;simp only [List.length_append,List.length_singleton] at h4 h7 hn;refine ⟨by rw [aBK hlen],.inr ⟨g,cap,cur,by rw [hn];rfl,hB,h3,by omega,h5,h6,?_⟩⟩;have h8:=congrArg (List.take (Y.length*c)) h7;rw [List.take_take,Nat.min_eq_left (by rw [Nat.succ_mul];omega)] at h8;rw [h8,aMG hlen];rw [List.take_append_of_le_length (Nat.le_refl _),List.take_length]
theorem Mm.popE (hlen:∀ x,(f x).length=c) (hM:Mm F0 w0 w M) {j n cap:Nat}{Y:List α}{x:α}(hj:M[j]?=some (rw_ f c E (.slice p n cap) (Y++[x]))):Mm F0 w0 w (M.set j (rw_ f c E (.slice p (n-1) cap) Y)) :=
 hM.put j hj (Fr.refl (fun _=>False) _) (fun _ _ h=>h.elim) (show ow f c E w 0 _ Y from aRN hlen (hM.get j hj)) fun k e => .inl (by cases p<;>exact e)
theorem aTV (T:TypeId) {g n cap i:Nat}{z:Int}(hz:z=(i:Int)) (hle:n≤cap) (hi:i<n) (hT:P.underlying T=some (.slice E)) (hE:(P.info? E).isSome=true:=by kernel_rfl):Ft.ok P w (.g2 (fun x y => .slice T x none (some y) none) (vL (some ⟨g,0,none⟩) n cap) (vI z) (vL (some ⟨g,0,none⟩) i cap)):=fun o ρ x y ho hx hy=>by
 subst hz;have h1:(i:Int)≤cap:=by omega
 have h0:(0:Int)≤i:=by omega
 have h3:cap≠0:=by omega
 obtain ⟨ti,hti⟩:=Option.isSome_iff_exists.1 hE;simp [execOp,ho,hx,hy,go_sem,h1,h0,h3,hT,sizeOf,typeInfo,hti]
theorem aDR {X:List α}{i j:Nat}{x y:α}(hx:X[i]?=some x) (hy:X[j]?=some y):((X.set i y).set j x).Perm X:=by
 obtain ⟨hi,hx⟩:=List.getElem?_eq_some_iff.1 hx;obtain ⟨hj,hy⟩:=List.getElem?_eq_some_iff.1 hy;have h:=Array.swap_perm (xs:=X.toArray) (i:=i) (j:=j) (by simpa using hi) (by simpa using hj);have h2:=Array.perm_iff_toList_perm.1 h;rw [Array.toList_swap] at h2;simpa [hx,hy] using h2
end
section
variable {P:Program}{w w0:World}{rd:Option Nat}{B:Code}{r n:Nat}{L:Frm}{ef:List Nat}{V:Lts→List (Option Value)}{F:Lts→List Ft}{ds:List Deferred}{F0:Nat→Prop}{Mf:Lts→List Bool→List Ent}
variable {α:Type}{f:α→List Value}{c:Nat}{E TS:TypeId}{q:Option Addr}{g cap m:Nat}
theorem aPH (p i:Nat) (T:TypeId) (j k l e d:Nat) (A:List α) {y:α}(X:ElT P f c TS E) (hq:q=some ⟨g,0,none⟩) (hy:A[e]?=some y)
  (hj:∀ γ fr,(Mf γ (flg B r ef i fr))[j]?=some (rw_ f c E (.slice q m cap) A):=by intro γ fr;kernel_rfl)
  (hm:∀ γ fr,Mf γ (flg B r ef i fr)=Mf (aB6 γ p undef) ((flg B r ef i fr).set p true):=by intro γ fr;kernel_rfl)
  (hV:∀ γ,((V (aB6 γ p undef))[p]?).getD none=some (vA (((f y).drop k).take l)):=by intro γ;rfl) (hT:agT P T (((f y).drop k).take l).length=true:=by kernel_rfl)
  (hs:∀ γ,aR9 (aAz B r) i (frX P w n B r L ef V F i γ)=aR8 (aAz B r) i (.load T) (vP g (0+e*c+k)) (some d):=by intro γ;kernel_rfl):Arm rd P w n B r L ef V F ds F0 w0 Mf p i:=by
 intro γ fr a wm Q o ho En hw hM;obtain ⟨x,h1,h2,h3⟩:=aLC ho En (hs γ);obtain ⟨g',e1,e2⟩:=hM.el X (hj γ fr) hy;rw [hq] at e1
 injection e1 with e1
 injection e1 with e1 _ _
 subst e1;have hl:=aDV (P:=P) hT (rs e2 k l);rw [hm] at hM;refine aFQ (v:=vA (((f y).drop k).take l)) (w':=wm) ?_ ⟨undef,γ.e p,by rw [aAo,hV,h3];rfl,by rw [aAo];exact hM⟩;simp only [execOp,h1,h2,Sem.run_bind,hl,Result.andThen_ok,Sem.run_pure]
end
section
variable {P:Program}{B:Code}{R:Pst}{ds:List Deferred}{n:Nat}{p:Option (Nat×Nat)}{L:Frm}{w w0:World}{F:List Ft}{F0:Nat→Prop}{M:List Ent}
theorem aUl (r' i' d:Nat) (N:Frm) {f:Operand→Op}{v u:Value}(hd:d<n) (hF:aAM P w F) (hr:Ft.ok P w (.g1 f v u)) (k:AtO P B R ds n (some (r',i'+1)) ((d,u)::(N++L)) w)
  (h:(lhs (go P w n B p L r' i' F) N L,aRo (go P w n B p L r' i' F) n L f)=(rhs (go P w n B p L r' i' F) N B r' i',aRn (go P w n B p L r' i' F) n L f (some d) v):=by kernel_rfl):AtO P B R ds n p L w:=by
 refine aJ5 hF h fun O k1 o l a x hf hd1 En hdd hw ho hx=>aCS hw (hr o _ x ho hx) ?_;rw [hdd];obtain ⟨O1,dr,k2,hf1,hk⟩:=k;rw [hf] at hf1;cases hf1;have hdr:O.toList.drop (i'+1)=l:=by rw [←List.tail_drop,hd1];rfl
 rw [←hdr];exact hk _ (En.put hd)
theorem ins (r' i':Nat) (N:Frm) (T:TypeId) (j:Nat) {K e:TypeId}{b c:Nat}{m:Value→Option Value}(key v:Value) (hF:aAM P w F) (hM:Mm F0 w0 w M) (hj:M[j]?=some (mp P K b c m)) (LK:Maps.Keyed P K) (ht:P.underlying T=some (.map K e)) (hk:∃ l,keyOf P K key=some l) (kk:∀ w',Mm F0 w0 w' (M.set j (mp P K b (c+1) (upd m key v)))→AtO P B R ds n (some (r',i'+1)) (N++L) w')
  (h:(lhs (go P w n B p L r' i' F) N L,aR0 (go P w n B p L r' i' F) n L (fun x y z => .insert T x y z))=(rhs (go P w n B p L r' i' F) N B r' i',aRz (go P w n B p L r' i' F) n L (fun x y z => .insert T x y z) none (.map (some b)) key v):=by kernel_rfl):AtO P B R ds n p L w:=by
 obtain ⟨l,hk⟩:=hk;have hm:aCj P K w b c m:=hM.get j hj;obtain ⟨ob,hob⟩:=hm.store LK ht hk v;obtain ⟨h1,h2⟩:=hob w rfl;have hM':=hM.put (w':=setBlk w b ob) j (e':=mp P K b (c+1) (upd m key v)) hj ((Fr.refl (fun r=>r=b) w).setBlk (fun _=>rfl) ob) (fun k _ e=>e) (h2.mono (by split<;>omega)) (fun k e => .inl e);refine aLx hF h fun O k1 o l a x y z hf hd1 E hd hw ho hx hy hz=>aI3 hw (w':=setBlk w b ob) (by simp only [execOp,ho,hx,hy,hz,Sem.run_bind,h1,Result.andThen_ok,Sem.run_pure]) hd ?_;obtain ⟨O1,dr,k2,hf1,hk⟩:=kk _ hM';rw [hf] at hf1;cases hf1;have:=hk _ E;have hdr:O.toList.drop (i'+1)=l:=by rw [←List.tail_drop,hd1];rfl
 rw [←hdr];exact this
end
section
variable {P:Program}{w w0:World}{rd:Option Nat}{B:Code}{r n:Nat}{L:Frm}{ef:List Nat}{V:Lts→List (Option Value)}{F:Lts→List Ft}{ds:List Deferred}{F0:Nat→Prop}{Mf:Lts→List Bool→List Ent}
def enL (P:Program) (wm:World) (O:Array Oper) (i:Nat) (LL:Frm):Option (Nat×Array Value×Option Nat×World) :=
 match O[i]? with
 | some o=>bif aDd LL o.op&&(match o.op with | .select _ _=>false | _=>true) then (match (execOp (rho LL) o).run P wm with
  | .ok (.enter f args) w'=>some (f,args,o.dst,w')
  | _=>none) else none
 | none=>none
theorem aIT {wm:World}{O:Array Oper}{i:Nat}{LL:Frm}{f:Nat}{args:Array Value}{d:Option Nat}{o:Oper}{ds:List Deferred}{n:Nat}{a:Act}(ho:O[i]?=some o) (E:EnvS ds n LL a) (h:enL P wm O i LL=some (f,args,d,wm)):(execOp a.eval o).run P wm = .ok (.enter f args) wm∧o.dst=d:=by
 unfold enL at h;rw [ho] at h;simp only at h
 cases hc:(aDd LL o.op&&(match o.op with | .select _ _=>false | _=>true)) with
 | false=>rw [hc] at h;cases h
 | true =>
  rw [hc] at h;simp only [cond_true] at h;rw [Bool.and_eq_true] at hc;rw [aEA E hc.1 fun cs b e=>by rw [e] at hc;cases hc.2]
  split at h
  ·rename_i f1 args1 w1 hr;simp only [Option.some.injEq,Prod.mk.injEq] at h;obtain ⟨rfl,rfl,rfl,rfl⟩:=h;exact ⟨hr,rfl⟩
  ·cases h
theorem aS1 (p i j d:Nat) {f:FuncId}(args:Lts→Array Value) (v:Value) (e e':Ent)
  (hc:∀ (γ:Lts) wm,e.H wm→Fr F0 w0 wm→Calls P f (args γ) wm fun x w'=>x = .returned v∧Fr e.B wm w'∧e'.H w'∧∀ k,e'.B k→e.B k∨wm.heap.size≤k)
  (hj:∀ γ fr,(Mf γ (flg B r ef i fr))[j]?=some e:=by intro γ fr;kernel_rfl)
  (hm:∀ γ fr,(Mf γ (flg B r ef i fr)).set j e'=Mf (aB6 γ p v) ((flg B r ef i fr).set p true):=by intro γ fr;kernel_rfl)
  (hV:∀ γ,((V (aB6 γ p v))[p]?).getD none=some v:=by intro γ;rfl)
  (hs:∀ γ wm,enL P wm (aAz B r) i (frX P w n B r L ef V F i γ)=some (f,args γ,some d,wm):=by intro γ wm;kernel_rfl):Arm rd P w n B r L ef V F ds F0 w0 Mf p i:=by
 intro γ fr a wm Q o ho En hw hM;obtain ⟨h1,h2⟩:=aIT ho En (hs γ wm);refine aCA (R:=fun u w'=>u=v∧Fr e.B wm w'∧e'.H w'∧∀ k,e'.B k→e.B k∨wm.heap.size≤k) h1 ((hc γ wm (hM.get j (hj γ fr)) hM.fr).mono fun x w' ⟨g1,g2⟩=>⟨v,g1,rfl,g2⟩) fun u w' ⟨hu,g1,g2,g3⟩=>?_;subst hu;have hM':=hM.put (w':=w') j (hj γ fr) g1 (fun k _ h=>h) g2 g3;rw [hm] at hM';exact ⟨u,γ.e p,by rw [aAo,hV,h2];rfl,by rw [aAo];exact hM'⟩
end
end Go.Pl
namespace Go.Proofs.YtnhljdeohelgjaaGreatDoor
open Go.RowKit Go.Pl
theorem aPx {w:World}:Calls Tryz.prog 97 #[] w fun e w'=>∃ p,e = .returned (vL p 6 6)∧Fr (fun _=>False) w w':=by
  refine beg Tryz.func97 rfl rfl [] rfl rfl fun Φ hΦ=>?_;have hM:=Mm.nil (fun _=>False) w;refine aAn 1 0 1 [] (cs:=#[vS [97,110,121],vS [110,111,100,101],vS [119,97,121],vS [97,114,101,97],vS [114,111,117,116,101],vS [116,117,114,110]]) (T:=9) (v:=fun b=>vL (some ⟨b,0,none⟩) 6 6) f0 hM fun b1 w1 hM=>rt1 0 (vL (some ⟨b1,0,none⟩) 6 6) rfl f0 (hΦ _ _ ⟨_,rfl,hM.fr⟩)
theorem aBJ {w:World}(n lo hi:Int):Calls Tryz.prog 99 #[vI n,vI lo,vI hi] w fun e w'=>e = .returned (vB (decide (lo≤n)&&decide (n≤hi)))∧Fr (fun _=>False) w w':=by
  refine beg Tryz.func99 rfl rfl [(0,vI n),(1,vI lo),(2,vI hi)] rfl rfl fun Φ hΦ=>?_;have hM:=Mm.nil (fun _=>False) w;refine seg 1 4 [(10,vB (decide (lo≤n)))] f0 ?_;cases h2:(decide (lo≤n))
  ·have rh2:=df h2;exact rt1 6 (vB false) rfl f0 (hΦ _ _ ⟨by simp only [h2]<;>rfl,hM.fr⟩)
  have rh2:=dt h2;exact rt1 6 (vB (decide (n≤hi))) rfl f0 (hΦ _ _ ⟨by simp only [h2]<;>rfl,hM.fr⟩)
theorem aOI {w:World}(f:FuncId) (caps:Array Value):Calls Tryz.prog 239 #[vL none 0 0,.func (.func f) #[] caps] w fun e w'=>e = .returned (vI (-1))∧Fr (fun _=>False) w w':=by
  refine beg Tryz.func239 rfl rfl [(0,vL none 0 0),(1,.func (.func f) #[] caps)] rfl rfl fun Φ hΦ=>?_;have hM:=Mm.nil (fun _=>False) w;exact rt1 4 (vI (-1)) rfl f0 (hΦ _ _ ⟨rfl,hM.fr⟩)
theorem aMY {w:World}(f:FuncId) (caps:Array Value):Calls Tryz.prog 190 #[vL none 0 0,.func (.func f) #[] caps] w fun e w'=>e = .returned (vB false)∧Fr (fun _=>False) w w':=by
  refine beg Tryz.func190 rfl rfl [(0,vL none 0 0),(1,.func (.func f) #[] caps)] rfl rfl fun Φ hΦ=>?_;have hM:=Mm.nil (fun _=>False) w;refine aAq 1 2 7 [(5,vL none 0 0),(6,.func (.func f) #[] caps)] f0 hM (aOI f caps) fun w1 hM=>rt1 4 (vB false) rfl f0 (hΦ _ _ ⟨rfl,hM.fr⟩)
theorem aMk {w:World}:Calls Tryz.prog 147 #[.agg #[vI 1,vS [],vS [],vI 0,vL none 0 0]] w fun e w'=>e = .returned (vB true)∧Fr (fun _=>False) w w':=by
  refine beg Tryz.func147 rfl rfl [(0,.agg #[vI 1,vS [],vS [],vI 0,vL none 0 0])] rfl rfl fun Φ hΦ=>?_;have hM:=Mm.nil (fun _=>False) w;refine aAn 0 0 1 [] (cs:=#[vI 1,vS [],vS [],vI 0,vL none 0 0]) (T:=39) (v:=fun b=>vP b 0) f0 hM fun b3 w1 hM=>rt1 2 (vB true) rfl (fc (ldm 9 0 1 hM rfl rfl) (fc (rz (seq 9 ([]:Bys) []) rfl) (fc (ldm 9 0 2 hM rfl rfl) (fc (rz (seq 9 ([]:Bys) []) rfl) (fc (ldm 3 0 3 hM rfl rfl) (fc (ldm 37 0 4 hM rfl rfl) (fc (ldm 3 0 0 hM rfl rfl) f0))))))) (hΦ _ _ ⟨rfl,hM.fr⟩)
theorem aKh {w:World}{G:Nat→Prop}{b:Nat}(hM0:Mm G w w [bk b #[vI 0] 3]):Calls Tryz.prog 189 #[.agg #[vI 1,vS [],vS [],vI 0,vL none 0 0],vP b 0] w fun e w'=>∃ u Mn,e = .returned u∧(u=vB true∧Mn=[bk b #[vI 1] 3])∧Mm G w w' Mn:=by
  refine beg Tryz.func189 rfl rfl [(0,.agg #[vI 1,vS [],vS [],vI 0,vL none 0 0]),(1,vP b 0)] rfl rfl fun Φ hΦ=>?_;have hM:=hM0;refine aAn 0 0 2 [] (cs:=#[vI 1,vS [],vS [],vI 0,vL none 0 0]) (T:=39) (v:=fun b=>vP b 0) f0 hM fun b4 w1 hM=>stm 1 2 [(5,vI (0+1))] 3 0 0 (vI (0+1)) (fc (ldm 3 0 0 hM rfl rfl) (fc (aAh 0 1 u3_) f0)) hM rfl fun w1 hM=>rt1 3 (vB (decide ((0+1)≤60))) rfl (fc (ldm 3 0 0 hM rfl rfl) f0) (hΦ _ _ ⟨_,_,rfl,⟨rfl,rfl⟩,hM.pick [0]⟩)
theorem aKa {w:World}:Calls Tryz.prog 146 #[.agg #[vI 1,vS [],vS [],vI 0,vL none 0 0],.func (.func 147) #[] #[]] w fun e w'=>e = .returned (vB true)∧Fr (fun _=>False) w w':=by
  refine beg Tryz.func146 rfl rfl [(0,.agg #[vI 1,vS [],vS [],vI 0,vL none 0 0]),(1,.func (.func 147) #[] #[])] rfl rfl fun Φ hΦ=>?_;have hM:=Mm.nil (fun _=>False) w;refine aAn 0 0 2 [] (cs:=#[vI 1,vS [],vS [],vI 0,vL none 0 0]) (T:=39) (v:=fun b=>vP b 0) f0 hM fun b5 w1 hM=>aAn 0 1 3 [] (cs:=#[.func (.func 147) #[] #[]]) (T:=206) (v:=fun b=>vP b 0) f0 hM fun b6 w1 hM=>aAq 1 2 7 [(5,.func (.func 147) #[] #[]),(6,.agg #[vI 1,vS [],vS [],vI 0,vL none 0 0])] (fc (ldm 206 1 0 hM rfl rfl) (fc (lam 39 0 0 5 hM rfl) f0)) hM aMk fun w1 hM=>aAq 1 7 12 [(8,vB true),(10,vL none 0 0),(11,.func (.func 191) #[] #[vP b6 0])] (fc (ldm 37 0 4 hM rfl rfl) f0) hM (aMY 191 #[vP b6 0]) fun w1 hM=>rt1 4 (vB true) rfl f0 (hΦ _ _ ⟨rfl,hM.fr⟩)
theorem aJZ {w:World}{G:Nat→Prop}{b:Nat}(hM0:Mm G w w [bk b #[vI 0] 3]):Calls Tryz.prog 146 #[.agg #[vI 1,vS [],vS [],vI 0,vL none 0 0],.func (.func 189) #[] #[vP b 0]] w fun e w'=>∃ u Mn,e = .returned u∧(u=vB true∧Mn=[bk b #[vI 1] 3])∧Mm G w w' Mn:=by
  refine beg Tryz.func146 rfl rfl [(0,.agg #[vI 1,vS [],vS [],vI 0,vL none 0 0]),(1,.func (.func 189) #[] #[vP b 0])] rfl rfl fun Φ hΦ=>?_;have hM:=hM0;refine aAn 0 0 2 [] (cs:=#[vI 1,vS [],vS [],vI 0,vL none 0 0]) (T:=39) (v:=fun b=>vP b 0) f0 hM fun b7 w1 hM=>aAn 0 1 3 [] (cs:=#[.func (.func 189) #[] #[vP b 0]]) (T:=206) (v:=fun b=>vP b 0) f0 hM fun b8 w1 hM=>aB3 1 2 7 [(5,.func (.func 189) #[] #[vP b 0]),(6,.agg #[vI 1,vS [],vS [],vI 0,vL none 0 0])] (K:=fun u Mn=>u=vB true∧Mn=[bk b #[vI 1] 3]) [1,2] [0] (fc (ldm 206 2 0 hM rfl rfl) (fc (lam 39 1 0 5 hM rfl) f0)) hM rfl rfl (by decide) (fun hm=>aKh hm) fun u Mn w1 hK hM=>?_;obtain ⟨rfl,rfl⟩:=hK;refine aAq 1 7 12 [(8,vB true),(10,vL none 0 0),(11,.func (.func 191) #[] #[vP b8 0])] (fc (ldm 37 0 4 hM rfl rfl) f0) hM (aMY 191 #[vP b8 0]) fun w1 hM=>rt1 4 (vB true) rfl f0 (hΦ _ _ ⟨_,_,rfl,⟨rfl,rfl⟩,hM.pick [2]⟩)
theorem aLE {w:World}:Calls Tryz.prog 145 #[.agg #[vI 1,vS [],vS [],vI 0,vL none 0 0]] w fun e w'=>e = .returned (vI 1)∧Fr (fun _=>False) w w':=by
  refine beg Tryz.func145 rfl rfl [(0,.agg #[vI 1,vS [],vS [],vI 0,vL none 0 0])] rfl rfl fun Φ hΦ=>?_;have hM:=Mm.nil (fun _=>False) w;refine aAn 0 0 1 [] (cs:=#[vI 1,vS [],vS [],vI 0,vL none 0 0]) (T:=39) (v:=fun b=>vP b 0) f0 hM fun b9 w1 hM=>aBD 1 0 3 [] [] 3 (vI 0) f0 hM fun aa w1 hM=>aB3 2 2 6 [(4,.agg #[vI 1,vS [],vS [],vI 0,vL none 0 0]),(5,.func (.func 189) #[] #[vP aa 0])] (K:=fun u Mn=>u=vB true∧Mn=[bk aa #[vI 1] 3]) [0] [1] (fc (lam 39 0 0 5 hM rfl) f0) hM rfl rfl (by decide) (fun hm=>aJZ hm) fun u Mn w1 hK hM=>?_;obtain ⟨rfl,rfl⟩:=hK;exact rt1 2 (vI 1) rfl (fc (ldm 3 1 0 hM rfl rfl) f0) (hΦ _ _ ⟨rfl,hM.fr⟩)
theorem aFR {w:World}:Calls Tryz.prog 98 #[.agg #[vI 1,vS [],vS [],vI 0,vL none 0 0]] w fun e w'=>e = .returned (vB true)∧Fr (fun _=>False) w w':=by
  refine beg Tryz.func98 rfl rfl [(0,.agg #[vI 1,vS [],vS [],vI 0,vL none 0 0])] rfl rfl fun Φ hΦ=>?_;have hM:=Mm.nil (fun _=>False) w;refine aAn 0 0 1 [] (cs:=#[vI 1,vS [],vS [],vI 0,vL none 0 0]) (T:=39) (v:=fun b=>vP b 0) f0 hM fun aa w1 hM=>aAq 1 1 4 [(3,.agg #[vI 1,vS [],vS [],vI 0,vL none 0 0])] (fc (lam 39 0 0 5 hM rfl) f0) hM aLE fun w1 hM=>aAq 1 5 8 [(6,vB true),(7,.agg #[vI 1,vS [],vS [],vI 0,vL none 0 0])] (fc (lam 39 0 0 5 hM rfl) f0) hM aKa fun w1 hM=>rt1 2 (vB true) rfl f0 (hΦ _ _ ⟨rfl,hM.fr⟩)
def aIq (o:Ob):Bool:=decide (o.refs.length≤12)&&decide (o.tags.length≤20)&&decide (o.id.length≤60)&&o.refs.all (fun s=>decide (s.length≤60))&&o.tags.all (fun t=>decide (IntKind.i64.wrap ((t.1.length:Int)+(t.2.length:Int))≤300))
def aDC (l:List Ob) (n:Int):Bool:=decide ((l.length:Int)≤n)&&l.all aIq
theorem aBe {α:Type}{p:α→Bool}{l:List α}{i:Nat}{y:α}(hy:l[i]?=some y):(l.drop i).all p=(p y&&(l.drop (i+1)).all p):=by rw [gd hy,List.all_cons]
theorem aHd {α:Type}{p:α→Bool}{l:List α}{i:Nat}(h:l.length≤i):(l.drop i).all p=true:=by rw [List.drop_of_length_le h];rfl
abbrev A26 (Φ:Ending→World→Prop):=AtO Tryz.prog (aAr Tryz.f5) (aA2 (bodyPost Tryz.prog Tryz.f5 Φ)) [] 79
theorem aIQ {w:World}{v:Value}{l:List ObR}(hm:aDy w v l) (n:Int):Calls Tryz.prog 5 #[.agg #[v],vI n] w fun e w'=>e = .returned (vB (aDC (aAa l) n))∧Fr (fun _=>False) w w':=by
  obtain ⟨hs0,hob⟩:=hm;obtain ⟨p0,cp0,hp0,sp0⟩:=hs0.op;subst hp0;have bp0:=sp0.bnd;refine beg Tryz.func5 rfl rfl [(0,.agg #[vL p0 l.length cp0]),(1,vI n)] rfl rfl fun Φ hΦ=>?_;have hM:=Mm.nil (fun _=>False) w;refine aAn 0 0 2 [] (cs:=#[vL p0 l.length cp0]) (T:=24) (v:=fun b=>vP b 0) f0 hM fun b7 w1 hM=>seg 1 5 [(13,vB (decide (n<(l.length:Int))))] (fc (ldm 22 0 0 hM rfl rfl) f0) ?_;cases h8:(decide (n<(l.length:Int)))
  rotate_left
  ·have rh8:=dt h8;exact rt1 4 (vB false) rfl f0 (hΦ _ _ ⟨by unfold aDC;rw [aA3,decide_eq_false (by omega)];rfl,hM.fr⟩)
  have rh8:=df h8;refine seg 4 0 [(5,vI 0)] f0 ?_
  have lp9:∀ (ab:Nat) (i:Nat) (w2:World),i≤l.length→(aAa l).all aIq=((aAa l).drop i).all aIq→Mm (fun _=>False) w w2 [bk b7 #[vL p0 l.length cp0] 24]→ab=l.length-i→A26 Φ (some (4,0)) [(5,vI (i:Int)),(2,vP b7 0)] w2:=by
   refine aBh fun ab af i w2 hi hv hM aw=>seg 4 5 [(18,vB (decide ((i:Int)<(l.length:Int))))] (fc (ldm 22 0 0 hM rfl rfl) f0) ?_;cases h12:(decide ((i:Int)<(l.length:Int)))
   ·have ag:=df h12;exact rt1 4 (vB true) rfl f0 (hΦ _ _ ⟨by unfold aDC;rw [hv,aHd (by rw [aA3];omega),aA3,decide_eq_true (by omega)];rfl,hM.fr⟩)
   have ag:=dt h12;obtain ⟨y,hy,ax,ay,q13,ah⟩:=sp0.el (i:=i) (by omega);refine aBD 6 5 6 [(25,.agg #[vS y.o.id,vI y.o.kind,vI y.o.x,vI y.o.y,vL y.pr y.o.refs.length y.cr,vL y.pt y.o.tags.length y.ct])] [] 52 (.agg #[vS y.o.id,vI y.o.kind,vI y.o.x,vI y.o.y,vL y.pr y.o.refs.length y.cr,vL y.pt y.o.tags.length y.ct]) (fc (ldm 22 0 0 hM rfl rfl) (fc (ix 22 cp0 q13 (gl hy)) (fc (la0 52 hM ah) f0))) hM fun aa w1 hM=>seg 7 5 [(30,vB (decide (12<(y.o.refs.length:Int))))] (fc (ldm 27 1 4 hM rfl rfl) f0) ?_;cases h15:(decide (12<(y.o.refs.length:Int)))
   rotate_left
   ·have ai:=dt h15;exact rt1 4 (vB false) rfl f0 (hΦ _ _ ⟨by unfold aDC;rw [hv,aBe (aA4 hy),show aIq y.o=false from (by unfold aIq;simp;omega)];simp,hM.fr⟩)
   have ai:=df h15;refine seg 7 11 [(36,vB (decide (20<(y.o.tags.length:Int))))] (fc (ldm 50 1 5 hM rfl rfl) f0) ?_;cases h16:(decide (20<(y.o.tags.length:Int)))
   rotate_left
   ·have aj:=dt h16;exact rt1 4 (vB false) rfl f0 (hΦ _ _ ⟨by unfold aDC;rw [hv,aBe (aA4 hy),show aIq y.o=false from (by unfold aIq;simp;omega)];simp,hM.fr⟩)
   have aj:=df h16;refine seg 7 16 [(41,vB (decide (60<(y.o.id.length:Int))))] (fc (ldm 9 1 0 hM rfl rfl) (fc (aGz 9 y.o.id) f0)) ?_;cases h17:(decide (60<(y.o.id.length:Int)))
   rotate_left
   ·have ak:=dt h17;exact rt1 4 (vB false) rfl f0 (hΦ _ _ ⟨by unfold aDC;rw [hv,aBe (aA4 hy),show aIq y.o=false from (by unfold aIq;simp;omega)];simp,hM.fr⟩)
   have ak:=df h17;refine seg 10 0 [(7,vI 0)] f0 ?_
   have al:∀ (ac:Nat) (k:Nat) (w2:World),k≤y.o.refs.length→y.o.refs.all (fun s=>decide (s.length≤60))=(y.o.refs.drop k).all (fun s=>decide (s.length≤60))→Mm (fun _=>False) w w2 [bk b7 #[vL p0 l.length cp0] 24,bk aa #[vS y.o.id,vI y.o.kind,vI y.o.x,vI y.o.y,vL y.pr y.o.refs.length y.cr,vL y.pt y.o.tags.length y.ct] 52]→ac=y.o.refs.length-k→A26 Φ (some (10,0)) [(7,vI (k:Int)),(6,vP aa 0),(5,vI (i:Int)),(2,vP b7 0)] w2:=by
    refine aBh fun ac am k w2 hk hv2 hM az=>seg 10 5 [(46,vB (decide ((k:Int)<(y.o.refs.length:Int))))] (fc (ldm 27 1 4 hM rfl rfl) f0) ?_;cases h21:(decide ((k:Int)<(y.o.refs.length:Int)))
    rotate_left
    ·have an:=dt h21;have s29:=(hob _ (gm hy)).refs;have a0:=s29.bnd;obtain ⟨z,hz,a1,a2,q30,ao⟩:=s29.el (i:=k) (by omega);refine seg 12 7 [(55,vB (decide (60<(z.length:Int))))] (fc (ldm 27 1 4 hM rfl rfl) (fc (ix 27 y.cr q30 (gl hz)) (fc (ld0 9 hM (ao 0 _ rfl)) (fc (aGz 9 z) f0)))) ?_;cases h31:(decide (60<(z.length:Int)))
     ·have ap:=df h31;refine seg 10 0 [(7,vI ((k:Int)+1))] (fc (aAh (k:Int) 1 u3_) f0) (aAb _ (am _ (by omega) (k+1) _ (gl hz) (by rw [hv2,aBe hz,decide_eq_true (show z.length≤60 by omega)];rfl) hM rfl))
     have ap:=dt h31;exact rt1 4 (vB false) rfl f0 (hΦ _ _ ⟨by unfold aDC;rw [hv,aBe (aA4 hy),show aIq y.o=false from (by unfold aIq;rw [hv2,aBe hz,decide_eq_false (show ¬ z.length≤60 by omega)];simp)];simp,hM.fr⟩)
    have an:=df h21;have hr1:y.o.refs.all (fun s=>decide (s.length≤60))=true:=by rw [hv2];exact aHd (by omega)
    refine seg 15 0 [(8,vI 0)] f0 ?_
    have aq:∀ (ad:Nat) (k:Nat) (w2:World),k≤y.o.tags.length→y.o.tags.all (fun t=>decide (IntKind.i64.wrap ((t.1.length:Int)+(t.2.length:Int))≤300))=(y.o.tags.drop k).all (fun t=>decide (IntKind.i64.wrap ((t.1.length:Int)+(t.2.length:Int))≤300))→Mm (fun _=>False) w w2 [bk b7 #[vL p0 l.length cp0] 24,bk aa #[vS y.o.id,vI y.o.kind,vI y.o.x,vI y.o.y,vL y.pr y.o.refs.length y.cr,vL y.pt y.o.tags.length y.ct] 52]→ad=y.o.tags.length-k→A26 Φ (some (15,0)) [(8,vI (k:Int)),(6,vP aa 0),(5,vI (i:Int)),(2,vP b7 0)] w2:=by
     refine aBh fun ad ar k w2 hk hv3 hM a3=>seg 15 5 [(60,vB (decide ((k:Int)<(y.o.tags.length:Int))))] (fc (ldm 50 1 5 hM rfl rfl) f0) ?_;cases h25:(decide ((k:Int)<(y.o.tags.length:Int)))
     ·have au:=df h25;have hr2:y.o.tags.all (fun t=>decide (IntKind.i64.wrap ((t.1.length:Int)+(t.2.length:Int))≤300))=true:=by rw [hv3];exact aHd (by omega)
      refine seg 4 0 [(5,vI ((i:Int)+1))] (fc (aAh (i:Int) 1 u3_) f0) (aAb _ (af _ (by omega) (i+1) _ (gl hy) (by rw [hv,aBe (aA4 hy)];rw [show aIq y.o=true by unfold aIq;rw [hr1,hr2];simp;omega];rfl) (hM.pick [0]) rfl))
     have au:=dt h25;have s26:=(hob _ (gm hy)).tags;have a4:=s26.bnd;obtain ⟨u,hu,a5,a6,q27,ae⟩:=s26.el (i:=k) (by omega);refine seg 17 0 [] f0 ?_;have hM:=hM.q ((Fr.refl _ _).drew);refine drq [(78,vB (decide (300<(IntKind.i64.wrap ((u.1.length:Int)+(u.2.length:Int))))))] rfl (fc (ldm 50 1 5 hM rfl rfl) (fc (ix 50 y.ct q27 (gl hu)) (fc (ld0 9 hM (ae 0 _ rfl)) (fc (aGz 9 u.1) (fc (ldm 50 1 5 hM rfl rfl) (fc (ix 50 y.ct q27 (gl hu)) (fc (ld0 9 hM (ae 1 _ rfl)) (fc (aGz 9 u.2) (fc (taddw (u.1.length:Int) (u.2.length:Int) u3_) f0))))))))) ?_;cases h28:(decide (300<(IntKind.i64.wrap ((u.1.length:Int)+(u.2.length:Int)))))
     ·have av:=df h28;refine seg 15 0 [(8,vI ((k:Int)+1))] (fc (aAh (k:Int) 1 u3_) f0) (aAb _ (ar _ (by omega) (k+1) _ (gl hu) (by rw [hv3,aBe hu,decide_eq_true (show IntKind.i64.wrap ((u.1.length:Int)+(u.2.length:Int))≤300 by omega)];rfl) hM rfl))
     have av:=dt h28;exact rt1 4 (vB false) rfl f0 (hΦ _ _ ⟨by unfold aDC;rw [hv,aBe (aA4 hy),show aIq y.o=false from (by unfold aIq;rw [hv3,aBe hu,decide_eq_false (show ¬ IntKind.i64.wrap ((u.1.length:Int)+(u.2.length:Int))≤300 by omega)];simp)];simp,hM.fr⟩)
    exact aAb _ (aq _ 0 _ (Nat.zero_le _) rfl hM rfl)
   exact aAb _ (al _ 0 _ (Nat.zero_le _) rfl hM rfl)
  exact aAb _ (lp9 _ 0 _ (Nat.zero_le _) rfl hM rfl)
abbrev Sp:=Int×Int
def vl:Int→List Sp→Bool
  | _,[]=>true
  | lo,s::l=>decide (lo<s.1)&&decide (s.1<s.2)&&decide (s.2≤10080)&&vl s.2 l
def mn (l:List Sp) (m:Int):Prop:=∃ s∈l,s.1≤m∧m<s.2
theorem aGj (m:Int):¬ mn [] m:=by rintro ⟨s,h,_⟩;cases h
theorem aAT {s:Sp}{l:List Sp}{m:Int}:mn (s::l) m↔(s.1≤m∧m<s.2)∨mn l m:=by
  unfold mn;simp
theorem aCx {a b:List Sp}{m:Int}:mn (a++b) m↔mn a m∨mn b m:=by
  unfold mn;constructor
  · rintro ⟨s,h,k⟩
    rcases List.mem_append.1 h with h | h
    · exact .inl ⟨s,h,k⟩
    · exact .inr ⟨s,h,k⟩
  · rintro (⟨s,h,k⟩ | ⟨s,h,k⟩)
    · exact ⟨s,List.mem_append_left _ h,k⟩
    · exact ⟨s,List.mem_append_right _ h,k⟩
theorem aMt {a b:List Sp}(h:a.Perm b) {m:Int}:mn a m↔mn b m:=by
  unfold mn;constructor
  · rintro ⟨s,h1,k⟩;exact ⟨s,h.mem_iff.1 h1,k⟩
  · rintro ⟨s,h1,k⟩;exact ⟨s,h.mem_iff.2 h1,k⟩
theorem aBr {lo:Int}{s:Sp}{l:List Sp}:vl lo (s::l)=true↔lo<s.1∧s.1<s.2∧s.2≤10080∧vl s.2 l=true:=by
  simp [vl,and_assoc]
theorem aEE {lo:Int}{l:List Sp}(h:vl lo l=true) {m:Int}(hm:mn l m):lo<m:=by
  induction l generalizing lo with
  | nil=>exact absurd hm (aGj m)
  | cons s l ih =>
    obtain ⟨h1,h2,h3,h4⟩:=aBr.1 h;rcases aAT.1 hm with h5 | h5
    · omega
    · have:=ih h4 h5;omega
theorem aLi:∀ {a b:List Sp}{lo lo':Int},vl lo a=true→vl lo' b=true→(∀ m,mn a m↔mn b m)→a=b
  | [],[],_,_,_,_,_=>rfl
  | [],t::b,lo,lo',_,hb,h=>by
    obtain ⟨h1,h2,h3,h4⟩:=aBr.1 hb;exact absurd ((h t.1).2 (aAT.2 (.inl (by omega)))) (aGj _)
  | s::a,[],lo,lo',ha,_,h=>by
    obtain ⟨h1,h2,h3,h4⟩:=aBr.1 ha;exact absurd ((h s.1).1 (aAT.2 (.inl (by omega)))) (aGj _)
  | s::a,t::b,lo,lo',ha,hb,h=>by
    obtain ⟨h1,h2,h3,h4⟩:=aBr.1 ha;obtain ⟨k1,k2,k3,k4⟩:=aBr.1 hb
    have e1:s.1=t.1:=by
      have x1:=(h s.1).1 (aAT.2 (.inl (by omega)));have x2:=(h t.1).2 (aAT.2 (.inl (by omega)));rcases aAT.1 x1 with x1 | x1<;>rcases aAT.1 x2 with x2 | x2
      · omega
      · have:=aEE h4 x2;omega
      · have:=aEE k4 x1;omega
      · have:=aEE h4 x2;have:=aEE k4 x1;omega
    have e2:s.2=t.2:=by
      rcases Int.lt_trichotomy s.2 t.2 with hlt | he | hlt
      · have x:=(h s.2).2 (aAT.2 (.inl (by omega)))
        rcases aAT.1 x with x | x
        · omega
        · have:=aEE h4 x;omega
      · exact he
      · have x:=(h t.2).1 (aAT.2 (.inl (by omega)))
        rcases aAT.1 x with x | x
        · omega
        · have:=aEE k4 x;omega
    obtain rfl:s=t:=Prod.ext e1 e2;congr 1;refine aLi h4 k4 fun m=>?_;have hm:=h m;rw [aAT,aAT] at hm;constructor
    · intro x
      rcases hm.1 (.inr x) with y | y
      · have:=aEE h4 x;omega
      · exact y
    · intro x
      rcases hm.2 (.inr x) with y | y
      · have:=aEE k4 x;omega
      · exact y
def aCQ (out:List Sp) (s:Sp):List Sp :=
  match out.getLast? with
  | some q=>if s.1≤q.2 then out.dropLast++[(q.1,max q.2 s.2)] else out++[s]
  | none=>out++[s]
def aAR (l:List Sp):List Sp:=l.foldl aCQ []
theorem aIv {lo:Int}{l:List Sp}{s:Sp}:vl lo (l++[s])=true↔vl lo l=true∧lo<s.1∧(∀ q,l.getLast?=some q→q.2<s.1)∧s.1<s.2∧s.2≤10080:=by
  induction l generalizing lo with
  | nil=>simp [vl];omega
  | cons x l ih =>
    rw [List.cons_append,aBr,ih,aBr]
    cases l with
    | nil=>simp [vl];omega
    | cons y l =>
      simp only [List.getLast?_cons_cons];constructor
      · rintro ⟨h1,h2,h3,h4,h5,h6,h7,h8⟩;exact ⟨⟨h1,h2,h3,h4⟩,by omega,h6,h7,h8⟩
      · rintro ⟨⟨h1,h2,h3,h4⟩,h5,h6,h7,h8⟩
        refine ⟨h1,h2,h3,h4,?_,h6,h7,h8⟩;obtain ⟨q,hq⟩:∃ q,(y::l).getLast?=some q:=⟨_,List.getLast?_eq_some_getLast (by simp)⟩;have:=h6 q hq
        have hm:mn (y::l) (q.2-1):=by
          refine ⟨q,List.mem_of_getLast? hq,?_,by omega⟩;have hv:=h4
          have:∀ {lo:Int}{l:List Sp},vl lo l=true→∀ s∈l,s.1<s.2:=by
            intro lo l
            induction l generalizing lo with
            | nil=>intro _ s hs;cases hs
            | cons z l ih=>intro h s hs;obtain ⟨a,b,c,d⟩:=aBr.1 h;rcases List.mem_cons.1 hs with rfl | hs;exact b;exact ih d s hs
          have:=this hv q (List.mem_of_getLast? hq);omega
        have:=aEE h4 hm;omega
structure Un (out:List Sp) (l:List Sp):Prop where
  ok:vl (-1) out=true
  at_:∀ m,mn out m↔mn l m
theorem aNB {out l:List Sp}{s:Sp}(h:Un out l) (h0:0≤s.1) (h1:s.1<s.2) (h2:s.2≤10080) (hs:∀ q,out.getLast?=some q→q.1≤s.1):Un (aCQ out s) (l++[s]):=by
  unfold aCQ
  cases hq:out.getLast? with
  | none =>
    have:out=[]:=by simpa using hq
    subst this;simp only [List.nil_append];refine ⟨aBr.2 ⟨by omega,h1,h2,rfl⟩,fun m=>?_⟩;rw [aCx,←h.at_ m];simp [aGj]
  | some q =>
    simp only;have hqs:=hs q hq
    split
    · rename_i hle
      obtain ⟨o,rfl⟩:∃ o,out=o++[q]:=List.getLast?_eq_some_iff.1 hq;have hok:=aIv.1 h.ok;obtain ⟨a1,a2,a3,a4,a5⟩:=hok;simp only [List.dropLast_concat];refine ⟨aIv.2 ⟨a1,a2,a3,by simp only;omega,by simp only;omega⟩,fun m=>?_⟩;rw [aCx,aCx,←h.at_ m,aCx];simp only [aAT,aGj,or_false];constructor
      · rintro (h | h)
        · exact .inl (.inl h)
        · by_cases hm:m<q.2
          · exact .inl (.inr ⟨h.1,hm⟩)
          · exact .inr (by omega)
      · rintro ((h | h) | h)
        · exact .inl h
        · exact .inr (by omega)
        · exact .inr (by omega)
    · rename_i hle
      refine ⟨aIv.2 ⟨h.ok,by omega,fun p hp=>by rw [hq] at hp;obtain rfl:=Option.some.inj hp;omega,h1,h2⟩,fun m=>?_⟩;rw [aCx,aCx,h.at_ m]
theorem aKc {out:List Sp}{s:Sp}(hs:∀ q,out.getLast?=some q→q.1≤s.1):∃ q,(aCQ out s).getLast?=some q∧q.1≤s.1:=by
  unfold aCQ
  cases hq:out.getLast? with
  | none=>exact ⟨s,by simp,Int.le_refl _⟩
  | some q =>
    simp only
    split
    · exact ⟨(q.1,max q.2 s.2),by simp,hs q hq⟩
    · exact ⟨s,by simp,Int.le_refl _⟩
def wk (l:List Sp):Prop:=∀ s∈l,0≤s.1∧s.1<s.2∧s.2≤10080
theorem aJj {l:List Sp}(hw:wk l) (hp:l.Pairwise fun a b=>a.1≤b.1):Un (aAR l) l:=by
  have main:∀ (l out done:List Sp),Un out done→wk l→l.Pairwise (fun a b=>a.1≤b.1)→(∀ q,out.getLast?=some q→∀ s∈l,q.1≤s.1)→Un (l.foldl aCQ out) (done++l):=by
    intro l
    induction l with
    | nil=>intro out done h _ _ _;simpa using h
    | cons s l ih =>
      intro out done h hw hp hq;rw [List.foldl_cons];have hs:=hw s (by simp)
      have:=ih (aCQ out s) (done++[s]) (aNB h hs.1 hs.2.1 hs.2.2 fun q hq'=>hq q hq' s (by simp)) (fun x hx=>hw x (by simp [hx])) (List.pairwise_cons.1 hp).2 (fun q hq' x hx=>by
        obtain ⟨q2,h2,h3⟩:=aKc (out:=out) (s:=s) fun q hq'=>hq q hq' s (by simp);rw [h2] at hq';obtain rfl:=Option.some.inj hq';have:=(List.pairwise_cons.1 hp).1 x hx;omega)
      simpa using this
  exact main l [] [] ⟨rfl,fun m=>Iff.rfl⟩ hw hp (by simp)
def aQC (s:Sp):List Sp→List Sp
  | []=>[s]
  | x::l=>if s.1≤x.1 then s::x::l else x::aQC s l
def aRA:List Sp→List Sp
  | []=>[]
  | s::l=>aQC s (aRA l)
theorem aHK (s:Sp) (l:List Sp):(aQC s l).Perm (s::l):=by
  induction l with
  | nil=>exact .refl _
  | cons x l ih =>
    unfold aQC
    split
    · exact .refl _
    · exact (ih.cons x).trans (.swap _ _ _)
theorem aHw (l:List Sp):(aRA l).Perm l:=by
  induction l with
  | nil=>exact .refl _
  | cons x l ih=>exact (aHK x _).trans (ih.cons x)
theorem aIL {s:Sp}{l:List Sp}(h:l.Pairwise fun a b=>a.1≤b.1):(aQC s l).Pairwise fun a b=>a.1≤b.1:=by
  induction l with
  | nil=>simp [aQC]
  | cons x l ih =>
    obtain ⟨h1,h2⟩:=List.pairwise_cons.1 h;unfold aQC
    split
    · rename_i hle
      refine List.pairwise_cons.2 ⟨fun y hy=>?_,h⟩;rcases List.mem_cons.1 hy with rfl | hy
      · exact hle
      · have:=h1 y hy;omega
    · rename_i hle
      refine List.pairwise_cons.2 ⟨fun y hy=>?_,ih h2⟩;rcases List.mem_cons.1 ((aHK s l).mem_iff.1 hy) with rfl | hy
      · omega
      · exact h1 y hy
theorem aI2 (l:List Sp):(aRA l).Pairwise fun a b=>a.1≤b.1:=by
  induction l with
  | nil=>simp [aRA]
  | cons x l ih=>exact aIL ih
def aE6 (l:List Sp):List Sp:=aAR (aRA l)
theorem aLc {a b:List Sp}(h:a.Perm b) (hw:wk b):wk a:=fun s hs=>hw s (h.mem_iff.1 hs)
theorem aJP {l:List Sp}(hw:wk l):Un (aE6 l) l:=by
  have h:=aJj (aLc (aHw l) hw) (aI2 l);exact ⟨h.ok,fun m=>(h.at_ m).trans (aMt (aHw l))⟩
theorem Un.eq {a b l:List Sp}(h:Un a l) (k:Un b l):a=b:=aLi h.ok k.ok fun m=>(h.at_ m).trans (k.at_ m).symm
theorem Un.of {a l l':List Sp}(h:Un a l) (k:∀ m,mn l m↔mn l' m):Un a l':=⟨h.ok,fun m=>(h.at_ m).trans (k m)⟩
theorem aIx {l s:List Sp}(hw:wk l) (hp:s.Perm l) (hs:s.Pairwise fun a b=>a.1≤b.1):aAR s=aE6 l :=
  ((aJj (aLc hp hw) hs).of fun m=>aMt hp).eq (aJP hw)
theorem aPN {lo:Int}(h0 : -1≤lo) {l:List Sp}(h:vl lo l=true):wk l:=by
  induction l generalizing lo with
  | nil=>intro s hs;cases hs
  | cons x l ih =>
    obtain ⟨a,b,c,d⟩:=aBr.1 h;intro s hs;rcases List.mem_cons.1 hs with rfl | hs
    · exact ⟨by omega,b,c⟩
    · exact ih (by omega) d s hs
def aUD:Int→List Sp→List Sp
  | fr,[]=>if fr<10080 then [(fr,10080)] else []
  | fr,s::l=>(if fr<s.1 then [(fr,s.1)] else [])++aUD s.2 l
def aBW (b:UInt8):Bool:=(97≤b&&b≤122)||(65≤b&&b≤90)
def aA5 (b:UInt8):Bool:=48≤b&&b≤57
def aBA (b:UInt8):Bool:=aBW b||aA5 b||b==95
def aCc (b:UInt8):Bool:=b==32||b==9||b==10
def aUY:Bys:=[59,44,46,58,40,41,123,125,91,93,61,60,62,47,45]
def aEh (b:UInt8):Bool:=aUY.contains b
abbrev Tok (α:Type):=Int×Bys×α
def aDS:Bys→Option (Bys×Nat)
  | []=>none
  | c::l =>
    if c==34 then some ([],1)
    else if c==10 then none
    else if c==92 then
      match l with
      | []=>none
      | d::l=>if d==92||d==34||d==110 then (aDS l).map fun r=>((if d==110 then 10 else d)::r.1,r.2+2) else none
    else (aDS l).map fun r=>(c::r.1,r.2+1)
def one (c:UInt8) (l:Bys):Int×Bys×Nat×Int :=
  if aCc c then (0,[],0,0)
  else if c==35 then (0,[],(l.takeWhile (· != 10)).length,0)
  else if aBW c then (1,c::l.takeWhile aBA,(l.takeWhile aBA).length,if (l.takeWhile aBA).length+1>24 then 2 else 0)
  else if aA5 c then (2,c::l.takeWhile aA5,(l.takeWhile aA5).length,if (l.takeWhile aA5).length+1>7||(match (l.dropWhile aA5) with | d::_=>aBA d | []=>false) then 4 else 0)
  else if c==34 then (match aDS l with | some (s,k)=>(3,s,k,0) | none=>(0,[],0,3))
  else if aEh c then (4,[c],0,0)
  else (0,[],0,3)
def aNw:Nat→Bys→Int→List (Tok Int×Int)
  | 0,_,_=>[]
  | _+1,[],_=>[]
  | n+1,c::l,at_ =>
    match one c l with
    | (k,s,m,e) =>
      if e != 0 then [((k,s,at_),e)]
      else if k==0 then aNw n (l.drop m) (at_+1+m)
      else ((k,s,at_),0)::aNw n (l.drop m) (at_+1+m)
def aBx (l:Bys) (at_:Int):List (Tok Int×Int):=aNw l.length l at_
theorem aMy:∀ (n:Nat) (l:Bys) (a:Int),l.length≤n→aNw n l a=aBx l a:=by
  have main:∀ (n m:Nat) (l:Bys) (a:Int),l.length≤n→l.length≤m→aNw n l a=aNw m l a:=by
    intro n
    induction n with
    | zero =>
      intro m l a h _;have:l=[]:=by cases l with | nil=>rfl | cons=>simp at h
      subst this;cases m<;>rfl
    | succ n ih =>
      intro m l a h h2
      cases l with
      | nil=>cases m<;>rfl
      | cons c l =>
        cases m with
        | zero=>simp at h2
        | succ m =>
          simp only [List.length_cons] at h h2;unfold aNw;have hd:∀ k,(l.drop k).length≤l.length:=fun k=>by simp
          split
          split
          · rfl
          · split
            · exact ih m _ _ (Nat.le_trans (hd _) (by omega)) (Nat.le_trans (hd _) (by omega))
            · rw [ih m _ _ (Nat.le_trans (hd _) (by omega)) (Nat.le_trans (hd _) (by omega))]
  intro n l a h;exact main n l.length l a h (Nat.le_refl _)
theorem aGQ (a:Int):aBx [] a=[]:=rfl
theorem aCz (c:UInt8) (l:Bys) (a:Int):aBx (c::l) a =
    if (one c l).2.2.2 != 0 then [(((one c l).1,(one c l).2.1,a),(one c l).2.2.2)]
    else if (one c l).1==0 then aBx (l.drop (one c l).2.2.1) (a+1+(one c l).2.2.1)
    else (((one c l).1,(one c l).2.1,a),0)::aBx (l.drop (one c l).2.2.1) (a+1+(one c l).2.2.1):=by
  show aNw (l.length+1) (c::l) a=_;rw [aNw];have:∀ k,aNw l.length (l.drop k) (a+1+k)=aBx (l.drop k) (a+1+k):=fun k=>aMy _ _ _ (by simp);rw [←this]
def aE5:List (Tok Int×Int)→Option (Int×Int)
  | []=>none
  | x::l=>if x.2 != 0 then some (x.2,x.1.2.2) else aE5 l
def aNv (l:Bys):Except (Int×Int) (List (Tok Int)):=match aE5 (aBx l 0) with | some e => .error e | none => .ok ((aBx l 0).map (·.1))
theorem aJC:∀ (n:Nat) (l:Bys) (a:Int),l.length≤n→(aBx l a).length≤l.length:=by
  intro n
  induction n with
  | zero => intro l a h; have : l = [] := by cases l with | nil => rfl | cons => simp at h
            subst this;simp [aGQ]
  | succ n ih =>
    intro l a h
    cases l with
    | nil=>simp [aGQ]
    | cons c l =>
      simp only [List.length_cons] at h;rw [aCz];have:=fun k b=>ih (l.drop k) b (by simp;omega)
      split
      · simp
      · split
        · refine Nat.le_trans (this _ _) ?_;simp;omega
        · simp only [List.length_cons]
          have:=this (one c l).2.2.1 (a+1+(one c l).2.2.1);rw [List.length_drop] at this;omega
def aIz {α:Type}(t:Tok α):Prop :=
  (t.1=1∧(∃ c l,t.2.1=c::l∧aBW c=true))∨(t.1=2∧t.2.1≠[]∧t.2.1.length≤7∧∀ b∈t.2.1,aA5 b=true)∨t.1=3∨(t.1=4∧∃ c,t.2.1=[c]∧aEh c=true)
theorem aGN {p:UInt8→Bool}{l:Bys}{b:UInt8}(h:b∈l.takeWhile p):p b=true:=by
  induction l with
  | nil=>cases h
  | cons c l ih =>
    rw [List.takeWhile_cons] at h
    split at h
    · rename_i hc
      rcases List.mem_cons.1 h with rfl | h
      · exact hc
      · exact ih h
    · cases h
theorem aRO {c:UInt8}{l:Bys}(h:(one c l).2.2.2=0) (hk:(one c l).1≠0) (a:Int):aIz ((one c l).1,(one c l).2.1,a):=by
  unfold one at *
  split at h
  · rename_i h1;rw [if_pos h1] at hk;exact absurd rfl hk
  rename_i h1;rw [if_neg h1] at hk ⊢
  split at h
  · rename_i h2;rw [if_pos h2] at hk;exact absurd rfl hk
  rename_i h2;rw [if_neg h2] at hk ⊢
  split at h
  · rename_i h3;rw [if_pos h3];exact .inl ⟨rfl,c,_,rfl,h3⟩
  rename_i h3;rw [if_neg h3] at hk ⊢
  split at h
  · rename_i h4
    rw [if_pos h4]
    by_cases h5:(l.takeWhile aA5).length+1>7
    · simp only at h
      rw [if_pos (by simp [h5])] at h;cases h
    · refine .inr (.inl ⟨rfl,by simp,by simp only [List.length_cons];omega,fun b hb=>?_⟩)
      rcases List.mem_cons.1 hb with rfl | hb
      · exact h4
      · exact aGN hb
  rename_i h4;rw [if_neg h4] at hk ⊢
  split at h
  · rename_i h5;rw [if_pos h5] at hk ⊢
    cases hs:aDS l with
    | none=>rw [hs] at hk;exact absurd rfl hk
    | some r=>obtain ⟨s,k⟩:=r;exact .inr (.inr (.inl rfl))
  rename_i h5;rw [if_neg h5] at hk ⊢
  split at h
  · rename_i h6;rw [if_pos h6];exact .inr (.inr (.inr ⟨rfl,c,rfl,h6⟩))
  · cases h
theorem aQ6:∀ (n:Nat) (l:Bys) (a:Int),l.length≤n→∀ x∈aBx l a,x.2=0→aIz x.1∧a≤x.1.2.2∧x.1.2.2<a+l.length:=by
  intro n
  induction n with
  | zero => intro l a h; have : l = [] := by cases l with | nil => rfl | cons => simp at h
            subst this;intro x hx;cases hx
  | succ n ih =>
    intro l a h x hx h0
    cases l with
    | nil=>cases hx
    | cons c l =>
      simp only [List.length_cons] at h ⊢;rw [aCz] at hx
      have ih2:∀ k,x∈aBx (l.drop k) (a+1+k)→aIz x.1∧a≤x.1.2.2∧x.1.2.2<a+((l.length+1:Nat):Int):=fun k hx=>by
        by_cases hk:k≤l.length
        · obtain ⟨h1,h2,h3⟩:=ih (l.drop k) _ (by simp;omega) x hx h0
          rw [List.length_drop] at h3;exact ⟨h1,by omega,by omega⟩
        · rw [List.drop_of_length_le (by omega)] at hx;cases hx
      split at hx
      · rename_i he
        simp only [List.mem_singleton] at hx;subst hx;simp only at h0;rw [h0] at he;cases he
      · rename_i he
        split at hx
        · exact ih2 _ hx
        · rename_i hk
          rcases List.mem_cons.1 hx with rfl | hx
          · refine ⟨aRO (by simpa using he) (by simpa using hk) a,by simp only;omega,by simp only;omega⟩
          · exact ih2 _ hx
end Go.Proofs.YtnhljdeohelgjaaGreatDoor
namespace Go.Proofs
open Go.Shelf
def Tryz.lays169_ren:Go.Shelf.Ren:=⟨fun | 169=>225 | n=>n,fun | 70=>346 | 9=>9 | 0=>0 | 72=>348 | 37=>312 | 127=>378 | 3=>3 | 5=>5 | n=>n,fun | n=>n⟩
theorem Tryz.lays169:Go.Proofs.Lays.n169 Tryz.prog Tryz.lays169_ren:={
 mixed:=by kernel_rfl
 f169:=Tryz.func225.trans (congrArg some (by kernel_rfl))
 t0:=Tryz.underlying0
 a0:=Tryz.isAgg0
 z0:=Tryz.sizeOf0
 v0:=Tryz.zeroValue0
 t3:=Tryz.underlying3
 a3:=Tryz.isAgg3
 z3:=Tryz.sizeOf3
 v3:=Tryz.zeroValue3
 t9:=Tryz.underlying9
 a9:=Tryz.isAgg9
 z9:=Tryz.sizeOf9
 v9:=Tryz.zeroValue9
 t37:=Tryz.underlying312
 a37:=Tryz.isAgg312
 z37:=Tryz.sizeOf312
 v37:=Tryz.zeroValue312
 t70:=Tryz.underlying346
 a70:=Tryz.isAgg346
 z70:=Tryz.sizeOf346
 v70:=Tryz.zeroValue346
 t72:=Tryz.underlying348
 a72:=Tryz.isAgg348
 z72:=Tryz.sizeOf348
 v72:=Tryz.zeroValue348
 t127:=Tryz.underlying378
 a127:=Tryz.isAgg378
 z127:=Tryz.sizeOf378
 v127:=Tryz.zeroValue378 }
theorem Tryz.Builder_Extra_169:Builder.Extra Tryz.prog Tryz.lays169_ren:={
 sizeBuilder:=by kernel_rfl
 liesBuilder:=by kernel_rfl
 t5:=Tryz.underlying5
 a5:=Tryz.isAgg5
 z5:=Tryz.sizeOf5
 v5:=Tryz.zeroValue5
 infoByte:=by kernel_rfl
 cellsByte:=by kernel_rfl
 sizeByte:=by kernel_rfl
 neB5:=by decide }
open Go.RowKit in
theorem Tryz.Builder_String_any (B b:Nat) (l:List UInt8) (w:World) (h:Lib.IsBuilder 348 5 B b (Lib.byteCells l) w) (hBw:B≤w.heap.size) :
  Calls Tryz.prog 225 #[.pointer (some ⟨b,0,none⟩)] w fun e w'=>e = .returned (.string ⟨l.toArray⟩)∧Below B w w':=Any.Builder_String_any Tryz.lays169 Tryz.Builder_Extra_169 B b l w h hBw
def Tryz.lays213_ren:Go.Shelf.Ren:=⟨fun | 213=>111 | 265=>163 | n=>n,fun | 9=>9 | 3=>3 | n=>n,fun | n=>n⟩
def Tryz.lays106_ren:Go.Shelf.Ren:=⟨fun | 106=>64 | 213=>111 | 265=>163 | n=>n,fun | 9=>9 | 3=>3 | n=>n,fun | n=>n⟩
theorem Tryz.lays106:Go.Proofs.Lays.n106 Tryz.prog Tryz.lays106_ren:={
 mixed:=by kernel_rfl
 f106:=Tryz.func64.trans (congrArg some (by kernel_rfl))
 f213:=Tryz.func111.trans (congrArg some (by kernel_rfl))
 f265:=Tryz.func163.trans (congrArg some (by kernel_rfl))
 t3:=Tryz.underlying3
 a3:=Tryz.isAgg3
 z3:=Tryz.sizeOf3
 v3:=Tryz.zeroValue3
 t9:=Tryz.underlying9
 a9:=Tryz.isAgg9
 z9:=Tryz.sizeOf9
 v9:=Tryz.zeroValue9 }
open Go.RowKit in
theorem Tryz.strings_Compare (a b:ByteArray) (w:World) :
  Calls Tryz.prog 64 #[.string a,.string b] w fun e w'=>e = .returned (.int .i64 (Lib.compareBytes a.data.toList b.data.toList))∧w'=w:=Any.strings_Compare Tryz.lays106 a b w
def Tryz.lays137_ren:Go.Shelf.Ren:=⟨fun | 137=>130 | 217=>173 | 266=>224 | n=>n,fun | 9=>9 | 5=>5 | 3=>3 | n=>n,fun | n=>n⟩
theorem Tryz.lays137:Go.Proofs.Lays.n137 Tryz.prog Tryz.lays137_ren:={
 mixed:=by kernel_rfl
 f137:=Tryz.func130.trans (congrArg some (by kernel_rfl))
 f217:=Tryz.func173.trans (congrArg some (by kernel_rfl))
 f266:=Tryz.func224.trans (congrArg some (by kernel_rfl))
 t3:=Tryz.underlying3
 a3:=Tryz.isAgg3
 z3:=Tryz.sizeOf3
 v3:=Tryz.zeroValue3
 t5:=Tryz.underlying5
 a5:=Tryz.isAgg5
 z5:=Tryz.sizeOf5
 v5:=Tryz.zeroValue5
 t9:=Tryz.underlying9
 a9:=Tryz.isAgg9
 z9:=Tryz.sizeOf9
 v9:=Tryz.zeroValue9 }
open Go.RowKit in
theorem Tryz.strings_IndexByte (s:ByteArray) (c:Int) (w:World) :
  Calls Tryz.prog 130 #[.string s,.int .u8 c] w fun e w'=>e = .returned (.int .i64 (Lib.indexByte s.data.toList c.toNat.toUInt8))∧w'=w:=Any.strings_IndexByte Tryz.lays137 s c w
def Tryz.lays215_ren:Go.Shelf.Ren:=⟨fun | 215=>188 | n=>n,fun | 3=>3 | 4=>4 | n=>n,fun | n=>n⟩
def Tryz.lays122_ren:Go.Shelf.Ren:=⟨fun | 122=>144 | 215=>188 | n=>n,fun | 3=>3 | 4=>4 | n=>n,fun | n=>n⟩
theorem Tryz.lays122:Go.Proofs.Lays.n122 Tryz.prog Tryz.lays122_ren:={
 mixed:=by kernel_rfl
 f122:=Tryz.func144.trans (congrArg some (by kernel_rfl))
 f215:=Tryz.func188.trans (congrArg some (by kernel_rfl))
 t3:=Tryz.underlying3
 a3:=Tryz.isAgg3
 z3:=Tryz.sizeOf3
 v3:=Tryz.zeroValue3
 t4:=Tryz.underlying4
 a4:=Tryz.isAgg4
 z4:=Tryz.sizeOf4
 v4:=Tryz.zeroValue4 }
open Go.RowKit in
theorem Tryz.cmp_Compare_int (x y:Int) (w:World) :
  Calls Tryz.prog 144 #[.int .i64 x,.int .i64 y] w fun e w'=>e = .returned (.int .i64 (Lib.compareInt x y))∧w'=w:=Any.cmp_Compare_int Tryz.lays122 x y w
def Tryz.lays172_ren:Go.Shelf.Ren:=⟨fun | 172=>87 | 244=>138 | 245=>139 | 247=>182 | 279=>183 | 280=>184 | 281=>185 | 282=>186 | 287=>232 | 316=>233 | 171=>88 | 205=>234 | 321=>258 | 322=>259 | 243=>140 | 246=>187 | 283=>235 | 284=>236 | 285=>237 | 286=>238 | 129=>217 | 317=>260 | 318=>261 | 319=>262 | 320=>263 | 337=>284 | 338=>285 | n=>n,fun | 9=>9 | 3=>3 | 75=>187 | 76=>188 | 4=>4 | 5=>5 | 167=>311 | 37=>312 | 0=>0 | 85=>313 | 2=>2 | 168=>315 | 53=>197 | 175=>356 | 46=>198 | 210=>360 | 127=>378 | 145=>385 | 143=>383 | 21=>21 | 171=>362 | 173=>364 | 212=>387 | 51=>340 | 20=>20 | 213=>388 | 232=>425 | 233=>426 | 80=>349 | n=>n,fun | 15=>3 | 16=>4 | 17=>6 | 18=>8 | 19=>9 | n=>n⟩
theorem Tryz.lays172:Go.Proofs.Lays.n172 Tryz.prog Tryz.lays172_ren:={
 mixed:=by kernel_rfl
 f129:=Tryz.func217.trans (congrArg some (by kernel_rfl))
 f171:=Tryz.func88.trans (congrArg some (by kernel_rfl))
 f172:=Tryz.func87.trans (congrArg some (by kernel_rfl))
 f205:=Tryz.func234.trans (congrArg some (by kernel_rfl))
 f243:=Tryz.func140.trans (congrArg some (by kernel_rfl))
 f244:=Tryz.func138.trans (congrArg some (by kernel_rfl))
 f245:=Tryz.func139.trans (congrArg some (by kernel_rfl))
 f246:=Tryz.func187.trans (congrArg some (by kernel_rfl))
 f247:=Tryz.func182.trans (congrArg some (by kernel_rfl))
 f279:=Tryz.func183.trans (congrArg some (by kernel_rfl))
 f280:=Tryz.func184.trans (congrArg some (by kernel_rfl))
 f281:=Tryz.func185.trans (congrArg some (by kernel_rfl))
 f282:=Tryz.func186.trans (congrArg some (by kernel_rfl))
 f283:=Tryz.func235.trans (congrArg some (by kernel_rfl))
 f284:=Tryz.func236.trans (congrArg some (by kernel_rfl))
 f285:=Tryz.func237.trans (congrArg some (by kernel_rfl))
 f286:=Tryz.func238.trans (congrArg some (by kernel_rfl))
 f287:=Tryz.func232.trans (congrArg some (by kernel_rfl))
 f316:=Tryz.func233.trans (congrArg some (by kernel_rfl))
 f317:=Tryz.func260.trans (congrArg some (by kernel_rfl))
 f318:=Tryz.func261.trans (congrArg some (by kernel_rfl))
 f319:=Tryz.func262.trans (congrArg some (by kernel_rfl))
 f320:=Tryz.func263.trans (congrArg some (by kernel_rfl))
 f321:=Tryz.func258.trans (congrArg some (by kernel_rfl))
 f322:=Tryz.func259.trans (congrArg some (by kernel_rfl))
 f337:=Tryz.func284.trans (congrArg some (by kernel_rfl))
 f338:=Tryz.func285.trans (congrArg some (by kernel_rfl))
 t0:=Tryz.underlying0
 a0:=Tryz.isAgg0
 z0:=Tryz.sizeOf0
 v0:=Tryz.zeroValue0
 t2:=Tryz.underlying2
 a2:=Tryz.isAgg2
 z2:=Tryz.sizeOf2
 v2:=Tryz.zeroValue2
 t3:=Tryz.underlying3
 a3:=Tryz.isAgg3
 z3:=Tryz.sizeOf3
 v3:=Tryz.zeroValue3
 t4:=Tryz.underlying4
 a4:=Tryz.isAgg4
 z4:=Tryz.sizeOf4
 v4:=Tryz.zeroValue4
 t5:=Tryz.underlying5
 a5:=Tryz.isAgg5
 z5:=Tryz.sizeOf5
 v5:=Tryz.zeroValue5
 t9:=Tryz.underlying9
 a9:=Tryz.isAgg9
 z9:=Tryz.sizeOf9
 v9:=Tryz.zeroValue9
 t20:=Tryz.underlying20
 a20:=Tryz.isAgg20
 z20:=Tryz.sizeOf20
 v20:=Tryz.zeroValue20
 t21:=Tryz.underlying21
 a21:=Tryz.isAgg21
 z21:=Tryz.sizeOf21
 v21:=Tryz.zeroValue21
 t37:=Tryz.underlying312
 a37:=Tryz.isAgg312
 z37:=Tryz.sizeOf312
 v37:=Tryz.zeroValue312
 t46:=Tryz.underlying198
 a46:=Tryz.isAgg198
 z46:=Tryz.sizeOf198
 v46:=Tryz.zeroValue198
 t51:=Tryz.underlying340
 a51:=Tryz.isAgg340
 z51:=Tryz.sizeOf340
 v51:=Tryz.zeroValue340
 t53:=Tryz.underlying197
 a53:=Tryz.isAgg197
 z53:=Tryz.sizeOf197
 v53:=Tryz.zeroValue197
 t75:=Tryz.underlying187
 a75:=Tryz.isAgg187
 z75:=Tryz.sizeOf187
 v75:=Tryz.zeroValue187
 t76:=Tryz.underlying188
 a76:=Tryz.isAgg188
 z76:=Tryz.sizeOf188
 v76:=Tryz.zeroValue188
 t85:=Tryz.underlying313
 a85:=Tryz.isAgg313
 z85:=Tryz.sizeOf313
 v85:=Tryz.zeroValue313
 t127:=Tryz.underlying378
 a127:=Tryz.isAgg378
 z127:=Tryz.sizeOf378
 v127:=Tryz.zeroValue378
 t143:=Tryz.underlying383
 a143:=Tryz.isAgg383
 z143:=Tryz.sizeOf383
 v143:=Tryz.zeroValue383
 t145:=Tryz.underlying385
 a145:=Tryz.isAgg385
 z145:=Tryz.sizeOf385
 v145:=Tryz.zeroValue385
 t167:=Tryz.underlying311
 a167:=Tryz.isAgg311
 z167:=Tryz.sizeOf311
 v167:=Tryz.zeroValue311
 t168:=Tryz.underlying315
 a168:=Tryz.isAgg315
 z168:=Tryz.sizeOf315
 v168:=Tryz.zeroValue315
 t171:=Tryz.underlying362
 a171:=Tryz.isAgg362
 z171:=Tryz.sizeOf362
 v171:=Tryz.zeroValue362
 t173:=Tryz.underlying364
 a173:=Tryz.isAgg364
 z173:=Tryz.sizeOf364
 v173:=Tryz.zeroValue364
 t175:=Tryz.underlying356
 a175:=Tryz.isAgg356
 z175:=Tryz.sizeOf356
 v175:=Tryz.zeroValue356
 t210:=Tryz.underlying360
 a210:=Tryz.isAgg360
 z210:=Tryz.sizeOf360
 v210:=Tryz.zeroValue360
 t212:=Tryz.underlying387
 a212:=Tryz.isAgg387
 z212:=Tryz.sizeOf387
 v212:=Tryz.zeroValue387
 t213:=Tryz.underlying388
 a213:=Tryz.isAgg388
 z213:=Tryz.sizeOf388
 t232:=Tryz.underlying425
 a232:=Tryz.isAgg425
 z232:=Tryz.sizeOf425
 v232:=Tryz.zeroValue425
 t233:=Tryz.underlying426
 a233:=Tryz.isAgg426
 z233:=Tryz.sizeOf426
 v233:=Tryz.zeroValue426
 g15:=by kernel_rfl
 g16:=by kernel_rfl
 g17:=by kernel_rfl
 g18:=by kernel_rfl
 g19:=by kernel_rfl }
open Go.RowKit in
theorem Tryz.strconv_Atoi (s:ByteArray) (n:Int) (hl:s.size≤18) (h:Lib.atoi s.data.toList=some n) (w:World) :
  Calls Tryz.prog 87 #[.string s] w fun e w'=>e = .returned (.tuple #[.int .i64 n,.nilIface])∧∃ t,w'=Lib.bytesWorld w 5 t:=Any.strconv_Atoi Tryz.lays172 s n hl h w
def Tryz.laysM246_ren:Go.Shelf.Ren:=⟨fun | 246=>187 | 283=>235 | 284=>236 | 285=>237 | 286=>238 | 129=>217 | 317=>260 | 318=>261 | 319=>262 | 320=>263 | 337=>284 | 338=>285 | n=>n,fun | 2=>2 | 3=>3 | 9=>9 | 4=>4 | 171=>362 | 0=>0 | 53=>197 | 37=>312 | 5=>5 | 173=>364 | 212=>387 | 51=>340 | 20=>20 | 213=>388 | 46=>198 | 232=>425 | 233=>426 | n=>n,fun | 17=>6 | 18=>8 | 19=>9 | n=>n⟩
def Tryz.laysM243_ren:Go.Shelf.Ren:=⟨fun | 243=>140 | 246=>187 | 283=>235 | 284=>236 | 285=>237 | 286=>238 | 129=>217 | 317=>260 | 318=>261 | 319=>262 | 320=>263 | 337=>284 | 338=>285 | n=>n,fun | 3=>3 | 9=>9 | 2=>2 | 4=>4 | 171=>362 | 0=>0 | 53=>197 | 37=>312 | 5=>5 | 173=>364 | 212=>387 | 51=>340 | 20=>20 | 213=>388 | 46=>198 | 232=>425 | 233=>426 | n=>n,fun | 17=>6 | 18=>8 | 19=>9 | n=>n⟩
def Tryz.laysM171_ren:Go.Shelf.Ren:=⟨fun | 171=>88 | 243=>140 | 246=>187 | 283=>235 | 284=>236 | 285=>237 | 286=>238 | 129=>217 | 317=>260 | 318=>261 | 319=>262 | 320=>263 | 337=>284 | 338=>285 | n=>n,fun | 3=>3 | 9=>9 | 2=>2 | 4=>4 | 171=>362 | 0=>0 | 53=>197 | 37=>312 | 5=>5 | 173=>364 | 212=>387 | 51=>340 | 20=>20 | 213=>388 | 46=>198 | 232=>425 | 233=>426 | n=>n,fun | 17=>6 | 18=>8 | 19=>9 | n=>n⟩
theorem Tryz.laysM171:Go.Proofs.LaysM.n171 Tryz.prog Tryz.laysM171_ren:={
 mixed:=by kernel_rfl
 f129:=Tryz.func217.trans (congrArg some (by kernel_rfl))
 f171:=Tryz.func88.trans (congrArg some (by kernel_rfl))
 f243:=Tryz.func140.trans (congrArg some (by kernel_rfl))
 f246:=Tryz.func187.trans (congrArg some (by kernel_rfl))
 f283:=Tryz.func235.trans (congrArg some (by kernel_rfl))
 f284:=Tryz.func236.trans (congrArg some (by kernel_rfl))
 f285:=Tryz.func237.trans (congrArg some (by kernel_rfl))
 f286:=Tryz.func238.trans (congrArg some (by kernel_rfl))
 f317:=Tryz.func260.trans (congrArg some (by kernel_rfl))
 f318:=Tryz.func261.trans (congrArg some (by kernel_rfl))
 f319:=Tryz.func262.trans (congrArg some (by kernel_rfl))
 f320:=Tryz.func263.trans (congrArg some (by kernel_rfl))
 f337:=Tryz.func284.trans (congrArg some (by kernel_rfl))
 f338:=Tryz.func285.trans (congrArg some (by kernel_rfl))
 t0:=Tryz.underlying0
 a0:=Tryz.isAgg0
 z0:=Tryz.sizeOf0
 v0:=Tryz.zeroValue0
 t2:=Tryz.underlying2
 a2:=Tryz.isAgg2
 z2:=Tryz.sizeOf2
 v2:=Tryz.zeroValue2
 t3:=Tryz.underlying3
 a3:=Tryz.isAgg3
 z3:=Tryz.sizeOf3
 v3:=Tryz.zeroValue3
 t4:=Tryz.underlying4
 a4:=Tryz.isAgg4
 z4:=Tryz.sizeOf4
 v4:=Tryz.zeroValue4
 t5:=Tryz.underlying5
 a5:=Tryz.isAgg5
 z5:=Tryz.sizeOf5
 v5:=Tryz.zeroValue5
 t9:=Tryz.underlying9
 a9:=Tryz.isAgg9
 z9:=Tryz.sizeOf9
 v9:=Tryz.zeroValue9
 t20:=Tryz.underlying20
 a20:=Tryz.isAgg20
 z20:=Tryz.sizeOf20
 v20:=Tryz.zeroValue20
 t37:=Tryz.underlying312
 a37:=Tryz.isAgg312
 z37:=Tryz.sizeOf312
 v37:=Tryz.zeroValue312
 t46:=Tryz.underlying198
 a46:=Tryz.isAgg198
 z46:=Tryz.sizeOf198
 v46:=Tryz.zeroValue198
 t51:=Tryz.underlying340
 a51:=Tryz.isAgg340
 z51:=Tryz.sizeOf340
 v51:=Tryz.zeroValue340
 t53:=Tryz.underlying197
 a53:=Tryz.isAgg197
 z53:=Tryz.sizeOf197
 v53:=Tryz.zeroValue197
 t171:=Tryz.underlying362
 a171:=Tryz.isAgg362
 z171:=Tryz.sizeOf362
 v171:=Tryz.zeroValue362
 t173:=Tryz.underlying364
 a173:=Tryz.isAgg364
 z173:=Tryz.sizeOf364
 v173:=Tryz.zeroValue364
 t212:=Tryz.underlying387
 a212:=Tryz.isAgg387
 z212:=Tryz.sizeOf387
 v212:=Tryz.zeroValue387
 t213:=Tryz.underlying388
 a213:=Tryz.isAgg388
 z213:=Tryz.sizeOf388
 t232:=Tryz.underlying425
 a232:=Tryz.isAgg425
 z232:=Tryz.sizeOf425
 v232:=Tryz.zeroValue425
 t233:=Tryz.underlying426
 a233:=Tryz.isAgg426
 z233:=Tryz.sizeOf426
 v233:=Tryz.zeroValue426
 g17:=by kernel_rfl
 g18:=by kernel_rfl
 g19:=by kernel_rfl
 i0:=by kernel_rfl
 i2:=by kernel_rfl
 i3:=by kernel_rfl
 i4:=by kernel_rfl
 i5:=by kernel_rfl
 i9:=by kernel_rfl
 i20:=by kernel_rfl
 i37:=by kernel_rfl
 i46:=by kernel_rfl
 i51:=by kernel_rfl
 i53:=by kernel_rfl
 i171:=by kernel_rfl
 i173:=by kernel_rfl
 i212:=by kernel_rfl
 i232:=by kernel_rfl
 i233:=by kernel_rfl
 m17:=by kernel_rfl
 m18:=by kernel_rfl
 m19:=by kernel_rfl }
open Go.RowKit Go.Sort Go.Lib in
theorem Tryz.strconv_Itoa (n:Int) (h0 : -9223372036854775808≤n) (h1:n≤9223372036854775807) (w:World) (htab:Lib.TabIs Tryz.prog w "internal/strconv.uint64pow10" .u64 Lib.pow10Tab) :
  Calls Tryz.prog 88 #[.int .i64 n] w fun e w'=>e = .returned (.string ⟨(Lib.itoa n).toArray⟩)∧∃ k os,w'=grow (w.drewN k) os:=Any.strconv_Itoa Tryz.laysM171 n h0 h1 w htab
def Tryz.laysC172_ren:Go.Shelf.Ren:=⟨fun | 172=>87 | 244=>138 | 245=>139 | 247=>182 | 279=>183 | 280=>184 | 281=>185 | 282=>186 | 287=>232 | 316=>233 | 171=>88 | 205=>234 | 321=>258 | 322=>259 | 243=>140 | 246=>187 | 283=>235 | 284=>236 | 285=>237 | 286=>238 | 129=>217 | 317=>260 | 318=>261 | 319=>262 | 320=>263 | 337=>284 | 338=>285 | n=>n,fun | 9=>9 | 3=>3 | 75=>187 | 76=>188 | 4=>4 | 5=>5 | 167=>311 | 37=>312 | 0=>0 | 85=>313 | 2=>2 | 168=>315 | 53=>197 | 175=>356 | 46=>198 | 210=>360 | 127=>378 | 145=>385 | 143=>383 | 21=>21 | 171=>362 | 173=>364 | 212=>387 | 51=>340 | 20=>20 | 213=>388 | 232=>425 | 233=>426 | 80=>349 | n=>n,fun | 15=>3 | 16=>4 | 17=>6 | 18=>8 | 19=>9 | n=>n⟩
theorem Tryz.laysC172:Go.Proofs.LaysC.n172 Tryz.prog Tryz.laysC172_ren:={
 mixed:=by kernel_rfl
 f129:=Tryz.func217.trans (congrArg some (by kernel_rfl))
 f171:=Tryz.func88.trans (congrArg some (by kernel_rfl))
 f172:=Tryz.func87.trans (congrArg some (by kernel_rfl))
 f205:=Tryz.func234.trans (congrArg some (by kernel_rfl))
 f243:=Tryz.func140.trans (congrArg some (by kernel_rfl))
 f244:=Tryz.func138.trans (congrArg some (by kernel_rfl))
 f245:=Tryz.func139.trans (congrArg some (by kernel_rfl))
 f246:=Tryz.func187.trans (congrArg some (by kernel_rfl))
 f247:=Tryz.func182.trans (congrArg some (by kernel_rfl))
 f279:=Tryz.func183.trans (congrArg some (by kernel_rfl))
 f280:=Tryz.func184.trans (congrArg some (by kernel_rfl))
 f281:=Tryz.func185.trans (congrArg some (by kernel_rfl))
 f282:=Tryz.func186.trans (congrArg some (by kernel_rfl))
 f283:=Tryz.func235.trans (congrArg some (by kernel_rfl))
 f284:=Tryz.func236.trans (congrArg some (by kernel_rfl))
 f285:=Tryz.func237.trans (congrArg some (by kernel_rfl))
 f286:=Tryz.func238.trans (congrArg some (by kernel_rfl))
 f287:=Tryz.func232.trans (congrArg some (by kernel_rfl))
 f316:=Tryz.func233.trans (congrArg some (by kernel_rfl))
 f317:=Tryz.func260.trans (congrArg some (by kernel_rfl))
 f318:=Tryz.func261.trans (congrArg some (by kernel_rfl))
 f319:=Tryz.func262.trans (congrArg some (by kernel_rfl))
 f320:=Tryz.func263.trans (congrArg some (by kernel_rfl))
 f321:=Tryz.func258.trans (congrArg some (by kernel_rfl))
 f322:=Tryz.func259.trans (congrArg some (by kernel_rfl))
 f337:=Tryz.func284.trans (congrArg some (by kernel_rfl))
 f338:=Tryz.func285.trans (congrArg some (by kernel_rfl))
 t0:=Tryz.underlying0
 a0:=Tryz.isAgg0
 z0:=Tryz.sizeOf0
 v0:=Tryz.zeroValue0
 t2:=Tryz.underlying2
 a2:=Tryz.isAgg2
 z2:=Tryz.sizeOf2
 v2:=Tryz.zeroValue2
 t3:=Tryz.underlying3
 a3:=Tryz.isAgg3
 z3:=Tryz.sizeOf3
 v3:=Tryz.zeroValue3
 t4:=Tryz.underlying4
 a4:=Tryz.isAgg4
 z4:=Tryz.sizeOf4
 v4:=Tryz.zeroValue4
 t5:=Tryz.underlying5
 a5:=Tryz.isAgg5
 z5:=Tryz.sizeOf5
 v5:=Tryz.zeroValue5
 t9:=Tryz.underlying9
 a9:=Tryz.isAgg9
 z9:=Tryz.sizeOf9
 v9:=Tryz.zeroValue9
 t20:=Tryz.underlying20
 a20:=Tryz.isAgg20
 z20:=Tryz.sizeOf20
 v20:=Tryz.zeroValue20
 t21:=Tryz.underlying21
 a21:=Tryz.isAgg21
 z21:=Tryz.sizeOf21
 v21:=Tryz.zeroValue21
 t37:=Tryz.underlying312
 a37:=Tryz.isAgg312
 z37:=Tryz.sizeOf312
 v37:=Tryz.zeroValue312
 t46:=Tryz.underlying198
 a46:=Tryz.isAgg198
 z46:=Tryz.sizeOf198
 v46:=Tryz.zeroValue198
 t51:=Tryz.underlying340
 a51:=Tryz.isAgg340
 z51:=Tryz.sizeOf340
 v51:=Tryz.zeroValue340
 t53:=Tryz.underlying197
 a53:=Tryz.isAgg197
 z53:=Tryz.sizeOf197
 v53:=Tryz.zeroValue197
 t75:=Tryz.underlying187
 a75:=Tryz.isAgg187
 z75:=Tryz.sizeOf187
 v75:=Tryz.zeroValue187
 t76:=Tryz.underlying188
 a76:=Tryz.isAgg188
 z76:=Tryz.sizeOf188
 v76:=Tryz.zeroValue188
 t85:=Tryz.underlying313
 a85:=Tryz.isAgg313
 z85:=Tryz.sizeOf313
 v85:=Tryz.zeroValue313
 t127:=Tryz.underlying378
 a127:=Tryz.isAgg378
 z127:=Tryz.sizeOf378
 v127:=Tryz.zeroValue378
 t143:=Tryz.underlying383
 a143:=Tryz.isAgg383
 z143:=Tryz.sizeOf383
 v143:=Tryz.zeroValue383
 t145:=Tryz.underlying385
 a145:=Tryz.isAgg385
 z145:=Tryz.sizeOf385
 v145:=Tryz.zeroValue385
 t167:=Tryz.underlying311
 a167:=Tryz.isAgg311
 z167:=Tryz.sizeOf311
 v167:=Tryz.zeroValue311
 t168:=Tryz.underlying315
 a168:=Tryz.isAgg315
 z168:=Tryz.sizeOf315
 v168:=Tryz.zeroValue315
 t171:=Tryz.underlying362
 a171:=Tryz.isAgg362
 z171:=Tryz.sizeOf362
 v171:=Tryz.zeroValue362
 t173:=Tryz.underlying364
 a173:=Tryz.isAgg364
 z173:=Tryz.sizeOf364
 v173:=Tryz.zeroValue364
 t175:=Tryz.underlying356
 a175:=Tryz.isAgg356
 z175:=Tryz.sizeOf356
 v175:=Tryz.zeroValue356
 t210:=Tryz.underlying360
 a210:=Tryz.isAgg360
 z210:=Tryz.sizeOf360
 v210:=Tryz.zeroValue360
 t212:=Tryz.underlying387
 a212:=Tryz.isAgg387
 z212:=Tryz.sizeOf387
 v212:=Tryz.zeroValue387
 t213:=Tryz.underlying388
 a213:=Tryz.isAgg388
 z213:=Tryz.sizeOf388
 t232:=Tryz.underlying425
 a232:=Tryz.isAgg425
 z232:=Tryz.sizeOf425
 v232:=Tryz.zeroValue425
 t233:=Tryz.underlying426
 a233:=Tryz.isAgg426
 z233:=Tryz.sizeOf426
 v233:=Tryz.zeroValue426
 g15:=by kernel_rfl
 g16:=by kernel_rfl
 g17:=by kernel_rfl
 g18:=by kernel_rfl
 g19:=by kernel_rfl
 t80:=Tryz.underlying349
 a80:=Tryz.isAgg349
 z80:=Tryz.sizeOf349
 v80:=Tryz.zeroValue349
 i0:=by kernel_rfl
 i2:=by kernel_rfl
 i3:=by kernel_rfl
 i4:=by kernel_rfl
 i5:=by kernel_rfl
 i9:=by kernel_rfl
 i20:=by kernel_rfl
 i21:=by kernel_rfl
 i37:=by kernel_rfl
 i46:=by kernel_rfl
 i51:=by kernel_rfl
 i53:=by kernel_rfl
 i75:=by kernel_rfl
 i76:=by kernel_rfl
 i80:=by kernel_rfl
 i85:=by kernel_rfl
 i127:=by kernel_rfl
 i143:=by kernel_rfl
 i145:=by kernel_rfl
 i167:=by kernel_rfl
 i168:=by kernel_rfl
 i171:=by kernel_rfl
 i173:=by kernel_rfl
 i175:=by kernel_rfl
 i210:=by kernel_rfl
 i212:=by kernel_rfl
 i232:=by kernel_rfl
 i233:=by kernel_rfl
 m15:=by kernel_rfl
 m16:=by kernel_rfl
 m17:=by kernel_rfl
 m18:=by kernel_rfl
 m19:=by kernel_rfl
 c0:=by kernel_rfl
 c2:=by kernel_rfl
 c3:=by kernel_rfl
 c4:=by kernel_rfl
 c5:=by kernel_rfl
 c9:=by kernel_rfl
 c20:=by kernel_rfl
 c21:=by kernel_rfl
 c37:=by kernel_rfl
 c46:=by kernel_rfl
 c51:=by kernel_rfl
 c53:=by kernel_rfl
 c75:=by kernel_rfl
 c76:=by kernel_rfl
 c80:=by kernel_rfl
 c85:=by kernel_rfl
 c127:=by kernel_rfl
 c143:=by kernel_rfl
 c145:=by kernel_rfl
 c167:=by kernel_rfl
 c168:=by kernel_rfl
 c171:=by kernel_rfl
 c173:=by kernel_rfl
 c175:=by kernel_rfl
 c210:=by kernel_rfl
 c212:=by kernel_rfl
 c213:=by kernel_rfl
 c232:=by kernel_rfl
 c233:=by kernel_rfl }
def Tryz.lays157_ren:Go.Shelf.Ren:=⟨fun | 157=>227 | 229=>254 | 199=>255 | 261=>275 | 311=>289 | 312=>290 | n=>n,fun | 9=>9 | 31=>27 | 3=>3 | 5=>5 | 4=>4 | 119=>171 | 0=>0 | 40=>321 | 152=>400 | 21=>21 | 154=>402 | 51=>340 | 141=>404 | 196=>415 | 193=>412 | 198=>418 | 49=>416 | 194=>413 | 201=>421 | 226=>428 | 46=>198 | 227=>429 | n=>n,fun | 0=>5 | 6=>7 | n=>n⟩
theorem Tryz.lays157:Go.Proofs.Lays.n157 Tryz.prog Tryz.lays157_ren:={
 mixed:=by kernel_rfl
 f157:=Tryz.func227.trans (congrArg some (by kernel_rfl))
 f199:=Tryz.func255.trans (congrArg some (by kernel_rfl))
 f229:=Tryz.func254.trans (congrArg some (by kernel_rfl))
 f261:=Tryz.func275.trans (congrArg some (by kernel_rfl))
 f311:=Tryz.func289.trans (congrArg some (by kernel_rfl))
 f312:=Tryz.func290.trans (congrArg some (by kernel_rfl))
 t0:=Tryz.underlying0
 a0:=Tryz.isAgg0
 z0:=Tryz.sizeOf0
 v0:=Tryz.zeroValue0
 t3:=Tryz.underlying3
 a3:=Tryz.isAgg3
 z3:=Tryz.sizeOf3
 v3:=Tryz.zeroValue3
 t4:=Tryz.underlying4
 a4:=Tryz.isAgg4
 z4:=Tryz.sizeOf4
 v4:=Tryz.zeroValue4
 t5:=Tryz.underlying5
 a5:=Tryz.isAgg5
 z5:=Tryz.sizeOf5
 v5:=Tryz.zeroValue5
 t9:=Tryz.underlying9
 a9:=Tryz.isAgg9
 z9:=Tryz.sizeOf9
 v9:=Tryz.zeroValue9
 t21:=Tryz.underlying21
 a21:=Tryz.isAgg21
 z21:=Tryz.sizeOf21
 v21:=Tryz.zeroValue21
 t31:=Tryz.underlying27
 a31:=Tryz.isAgg27
 z31:=Tryz.sizeOf27
 v31:=Tryz.zeroValue27
 t40:=Tryz.underlying321
 a40:=Tryz.isAgg321
 z40:=Tryz.sizeOf321
 v40:=Tryz.zeroValue321
 t46:=Tryz.underlying198
 a46:=Tryz.isAgg198
 z46:=Tryz.sizeOf198
 v46:=Tryz.zeroValue198
 t49:=Tryz.underlying416
 a49:=Tryz.isAgg416
 z49:=Tryz.sizeOf416
 v49:=Tryz.zeroValue416
 t51:=Tryz.underlying340
 a51:=Tryz.isAgg340
 z51:=Tryz.sizeOf340
 v51:=Tryz.zeroValue340
 t119:=Tryz.underlying171
 a119:=Tryz.isAgg171
 z119:=Tryz.sizeOf171
 t141:=Tryz.underlying404
 a141:=Tryz.isAgg404
 z141:=Tryz.sizeOf404
 v141:=Tryz.zeroValue404
 t152:=Tryz.underlying400
 a152:=Tryz.isAgg400
 z152:=Tryz.sizeOf400
 v152:=Tryz.zeroValue400
 t154:=Tryz.underlying402
 a154:=Tryz.isAgg402
 z154:=Tryz.sizeOf402
 v154:=Tryz.zeroValue402
 t193:=Tryz.underlying412
 a193:=Tryz.isAgg412
 z193:=Tryz.sizeOf412
 v193:=Tryz.zeroValue412
 t194:=Tryz.underlying413
 a194:=Tryz.isAgg413
 z194:=Tryz.sizeOf413
 v194:=Tryz.zeroValue413
 t196:=Tryz.underlying415
 a196:=Tryz.isAgg415
 z196:=Tryz.sizeOf415
 v196:=Tryz.zeroValue415
 t198:=Tryz.underlying418
 a198:=Tryz.isAgg418
 z198:=Tryz.sizeOf418
 v198:=Tryz.zeroValue418
 t201:=Tryz.underlying421
 a201:=Tryz.isAgg421
 z201:=Tryz.sizeOf421
 v201:=Tryz.zeroValue421
 t226:=Tryz.underlying428
 a226:=Tryz.isAgg428
 z226:=Tryz.sizeOf428
 v226:=Tryz.zeroValue428
 t227:=Tryz.underlying429
 a227:=Tryz.isAgg429
 z227:=Tryz.sizeOf429
 v227:=Tryz.zeroValue429
 g0:=by kernel_rfl
 g6:=by kernel_rfl }
open Go.RowKit Go.Lib in
theorem Tryz.strings_Fields (s:ByteArray) (w:World) (hs:s.size<4294967281) (hascii:∀ (j:Nat) b,s.data.toList[j]?=some b→b.toNat<128) (htab:Lib.TabIs Tryz.prog w "strings.asciiSpace" .u8 Lib.asciiSpaceTab) :
  Calls Tryz.prog 227 #[.string s] w fun e w' =>
   e = .returned (.slice (some ⟨w.heap.size,0,none⟩) (Lib.fields s.data.toList).length (Lib.fields s.data.toList).length)∧w'=w.alloc (.cells ((Lib.fields s.data.toList).map fun l=>Value.string ⟨l.toArray⟩).toArray 9):=Any.strings_Fields Tryz.lays157 (by kernel_rfl) (by kernel_rfl) s w hs hascii htab
def Tryz.lays109_ren:Go.Shelf.Ren:=⟨fun | 109=>96 | n=>n,fun | 31=>27 | 9=>9 | 3=>3 | 0=>0 | 4=>4 | n=>n,fun | n=>n⟩
theorem Tryz.lays109:Go.Proofs.Lays.n109 Tryz.prog Tryz.lays109_ren:={
 mixed:=by kernel_rfl
 f109:=Tryz.func96.trans (congrArg some (by kernel_rfl))
 t0:=Tryz.underlying0
 a0:=Tryz.isAgg0
 z0:=Tryz.sizeOf0
 v0:=Tryz.zeroValue0
 t3:=Tryz.underlying3
 a3:=Tryz.isAgg3
 z3:=Tryz.sizeOf3
 v3:=Tryz.zeroValue3
 t4:=Tryz.underlying4
 a4:=Tryz.isAgg4
 z4:=Tryz.sizeOf4
 v4:=Tryz.zeroValue4
 t9:=Tryz.underlying9
 a9:=Tryz.isAgg9
 z9:=Tryz.sizeOf9
 v9:=Tryz.zeroValue9
 t31:=Tryz.underlying27
 a31:=Tryz.isAgg27
 z31:=Tryz.sizeOf27
 v31:=Tryz.zeroValue27 }
open Go.Lib in
theorem Tryz.slices_Index_string (b off n c:Nat) (zs:List ByteArray) (x:ByteArray) (w:World) (hz:n≤zs.length) (hbig:n≤9223372036854775807) (hc:∀ j,j<zs.length→w.cell? ⟨b,off+j,none⟩=some (.string (zs.getD j ByteArray.empty))) :
  Calls Tryz.prog 96 #[.slice (some ⟨b,off,none⟩) n c,.string x] w fun e w'=>e = .returned (.int .i64 (Lib.idxOfS (zs.take n) x))∧w'=w:=Any.slices_Index_string Tryz.lays109 b off n c zs x w hz hbig hc
def Tryz.lays110_ren:Go.Shelf.Ren:=⟨fun | 110=>51 | 109=>96 | n=>n,fun | 31=>27 | 9=>9 | 4=>4 | 3=>3 | 0=>0 | n=>n,fun | n=>n⟩
theorem Tryz.lays110:Go.Proofs.Lays.n110 Tryz.prog Tryz.lays110_ren:={
 mixed:=by kernel_rfl
 f109:=Tryz.func96.trans (congrArg some (by kernel_rfl))
 f110:=Tryz.func51.trans (congrArg some (by kernel_rfl))
 t0:=Tryz.underlying0
 a0:=Tryz.isAgg0
 z0:=Tryz.sizeOf0
 v0:=Tryz.zeroValue0
 t3:=Tryz.underlying3
 a3:=Tryz.isAgg3
 z3:=Tryz.sizeOf3
 v3:=Tryz.zeroValue3
 t4:=Tryz.underlying4
 a4:=Tryz.isAgg4
 z4:=Tryz.sizeOf4
 v4:=Tryz.zeroValue4
 t9:=Tryz.underlying9
 a9:=Tryz.isAgg9
 z9:=Tryz.sizeOf9
 v9:=Tryz.zeroValue9
 t31:=Tryz.underlying27
 a31:=Tryz.isAgg27
 z31:=Tryz.sizeOf27
 v31:=Tryz.zeroValue27 }
open Go.Lib in
theorem Tryz.slices_Contains_string (b off n c:Nat) (zs:List ByteArray) (x:ByteArray) (w:World) (hz:n≤zs.length) (hbig:n≤9223372036854775807) (hc:∀ j,j<zs.length→w.cell? ⟨b,off+j,none⟩=some (.string (zs.getD j ByteArray.empty))) :
  Calls Tryz.prog 51 #[.slice (some ⟨b,off,none⟩) n c,.string x] w fun e w'=>e = .returned (.bool (Lib.containsS (zs.take n) x))∧w'=w:=Any.slices_Contains_string Tryz.lays110 b off n c zs x w hz hbig hc
open Go.Lib in
theorem Tryz.slices_Contains_string_empty (a:Option Addr) (c:Nat) (x:ByteArray) (w:World) :
  Calls Tryz.prog 51 #[.slice a 0 c,.string x] w fun e w'=>e = .returned (.bool false)∧w'=w:=Any.slices_Contains_string_empty Tryz.lays110 a c x w
end Go.Proofs
namespace Go.Proofs.YtnhljdeohelgjaaGreatDoor
open Go.RowKit Go.Pl
def cl8 (b:UInt8):Nat:=if b==35 then 2 else if b==95 then 5 else if b==34 then 7 else if aBW b then 3 else if aA5 b then 4 else if aCc b then 1 else if aEh b then 6 else 0
def aCm (i:Nat):Nat:=if aBW (UInt8.ofNat i) then 3 else if aA5 (UInt8.ofNat i) then 4 else if aCc (UInt8.ofNat i) then 1 else if aEh (UInt8.ofNat i) then 6 else 0
def ixb (s:Bys) (i:Nat):Int:=Lib.indexByte s (UInt8.ofNat i)
theorem aAs (i:Nat) (hi:i<256):aCm i=bif (decide ((97:Int)≤(i:Int))&&decide ((i:Int)≤122)||decide ((65:Int)≤(i:Int))&&decide ((i:Int)≤90)) then 3 else bif (decide ((48:Int)≤(i:Int))&&decide ((i:Int)≤57)) then 4 else bif decide ((0:Int)≤ixb [32,9,10] i) then 1 else bif decide ((0:Int)≤ixb [59,44,46,58,40,41,123,125,91,93,61,60,62,47,45] i) then 6 else 0:=by
  have:∀ i:Fin 256,aCm i.val=bif (decide ((97:Int)≤(i.val:Int))&&decide ((i.val:Int)≤122)||decide ((65:Int)≤(i.val:Int))&&decide ((i.val:Int)≤90)) then 3 else bif (decide ((48:Int)≤(i.val:Int))&&decide ((i.val:Int)≤57)) then 4 else bif decide ((0:Int)≤ixb [32,9,10] i.val) then 1 else bif decide ((0:Int)≤ixb [59,44,46,58,40,41,123,125,91,93,61,60,62,47,45] i.val) then 6 else 0:=by decide +kernel
  exact this ⟨i,hi⟩
theorem aSt (i:Nat) (hi:i<256):(if i=34 then 7 else if i=95 then 5 else if i=35 then 2 else aCm i)=cl8 (UInt8.ofNat i):=by
  have:∀ i:Fin 256,(if i.val=34 then 7 else if i.val=95 then 5 else if i.val=35 then 2 else aCm i.val)=cl8 (UInt8.ofNat i.val):=by decide +kernel
  exact this ⟨i,hi⟩
theorem aA0 (s:Bys) (i:Nat) (hi:i<256) (w:World):Calls Tryz.prog 130 #[vS s,.int .u8 (i:Int)] w fun e w'=>e = .returned (vI (ixb s i))∧Fr (fun _=>False) w w':=by
  refine (Tryz.strings_IndexByte (ofL s) (i:Int) w).mono fun e w' h=>⟨?_,by rw [h.2];exact Fr.refl _ _⟩;rw [h.1];unfold ixb;rw [show (ofL s).data.toList=s from by simp [ofL],show ((i:Int).toNat.toUInt8)=UInt8.ofNat i from by simp]
abbrev vU (n:Nat):Value := .int .u8 (n:Int)
abbrev T8 (cs:Array Value) (t:Nat→Nat):Prop:=TbA 256 cs (fun i=>vU (t i))
def aHi (i:Nat):Nat:=cl8 (UInt8.ofNat i)
theorem aC5 (b:UInt8):aHi b.toNat=cl8 b:=by
  unfold aHi;rw [show UInt8.ofNat b.toNat=b by simp]
theorem aN0:T8 (zT Tryz.prog 171) (fun _=>0):=by
  have h:(zT Tryz.prog 171).size=256∧(List.range 256).all (fun i=>match (zT Tryz.prog 171)[i]? with | some (.int .u8 n)=>n==0 | _=>false)=true:=⟨by kernel_rfl,by kernel_rfl⟩;refine ⟨h.1,fun i hi=>?_⟩;have:=List.all_eq_true.1 h.2 i (List.mem_range.2 hi)
  split at this
  · rename_i n hn;rw [hn];rw [beq_iff_eq] at this;rw [this];rfl
  · cases this
theorem T8.one {cs:Array Value}{t:Nat→Nat}(h:T8 cs t):cs.all (·.oneCell')=true:=TbA.one h fun _=>rfl
theorem T8.ext {cs:Array Value}{t t':Nat→Nat}(h:T8 cs t) (e:∀ i,i<256→t i=t' i):T8 cs t':=TbA.ext h fun i hi=>by rw [e i hi]
theorem T8.set {cs:Array Value}{t:Nat→Nat}(h:T8 cs t) {k:Nat}(hk:k<256) (v:Nat):T8 (cs.setIfInBounds k (vU v)) (fun i=>if i=k then v else t i):=(TbA.set h hk (vU v)).ext fun i _=>by by_cases e:i=k<;>simp [e]
theorem aAx {n v:Nat}(h:aCm n=v) (i:Nat):(if i=n then v else if i<n then aCm i else 0)=if i<n+1 then aCm i else 0:=by
  rcases Nat.lt_trichotomy i n with e | e | e
  · rw [if_neg (by omega),if_pos e,if_pos (by omega)]
  · subst e;rw [if_pos rfl,if_pos (by omega),h]
  · rw [if_neg (by omega),if_neg (by omega),if_neg (by omega)]
theorem aBB {n:Nat}(h:aCm n=0) (i:Nat):(if i<n then aCm i else 0)=if i<n+1 then aCm i else 0:=by
  rcases Nat.lt_trichotomy i n with e | e | e
  · rw [if_pos e,if_pos (by omega)]
  · subst e;rw [if_neg (by omega),if_pos (by omega),h]
  · rw [if_neg (by omega),if_neg (by omega)]
theorem aTU (i:Nat) (hi:i<256) {w:World}:Ft.ok Tryz.prog w (.g1 (.convert 3 5) (vI (i:Int)) (.int .u8 (i:Int))):=fun o ρ x ho hx=>by
  have:IntKind.u8.wrap (i:Int)=i:=by simp [IntKind.wrap,IntKind.bits,IntKind.signed];omega
  simp [execOp,ho,hx,go_sem,this]
abbrev A87 (Φ:Ending→World→Prop):=AtO Tryz.prog (aAr Tryz.f79) (aA2 (bodyPost Tryz.prog Tryz.f79 Φ)) [] 50
theorem aEk (w:World):Calls Tryz.prog 79 #[] w fun e w'=>(∃ cs,e = .returned (.agg cs)∧T8 cs aHi∧Fr (fun _=>False) w w'):=by
  refine beg Tryz.func79 rfl rfl [] rfl rfl fun Φ hΦ=>?_;have hM:=Mm.nil (fun _=>False) w;refine aAn 0 0 0 [] (cs:=zT Tryz.prog 171) (T:=171) (v:=fun b=>vP b 0) f0 hM fun b1 w1 hM=>aAn 1 0 1 [] (cs:=zT Tryz.prog 171) (T:=171) (v:=fun b=>vP b 0) f0 hM fun b2 w1 hM=>seg 3 0 [(4,vI 0)] f0 ?_
  have lp3:∀ (m5:Nat) (n:Nat) (cs:Array Value) (w2:World),n≤256→(T8 cs (fun i=>if i<n then aCm i else 0))→Mm (fun _=>False) w w2 [bk b1 (zT Tryz.prog 171) 171,bk b2 cs 171]→m5=256-n→A87 Φ (some (3,0)) [(4,vI (n:Int)),(1,vP b2 0),(0,vP b1 0)] w2:=by
   refine aBh fun m5 ih4 n cs w2 hn hT hM hm5=>seg 3 1 [(5,vB (decide ((n:Int)<256)))] f0 ?_;cases h6:(decide ((n:Int)<256))
   ·have rh6:=df h6;have hT:T8 cs (fun i=>aCm i):=T8.ext hT fun i hi=>by rw [if_pos (by omega)]
    refine aE8 16 1 [(46,vP b2 (0+35*1))] 5 1 35 (vU 2) (fc (aEg 171 256 .i64 b2 0 35 (by omega)) f0) hM rfl (by have:=hT.1;omega) fun w1 hM=>?_;have hT:=T8.set hT (k:=35) (by omega) 2;refine aE8 16 3 [(47,vP b2 (0+95*1))] 5 1 95 (vU 5) (fc (aEg 171 256 .i64 b2 0 95 (by omega)) f0) hM rfl (by have:=hT.1;omega) fun w1 hM=>?_;have hT:=T8.set hT (k:=95) (by omega) 5;refine aE8 16 5 [(48,vP b2 (0+34*1))] 5 1 34 (vU 7) (fc (aEg 171 256 .i64 b2 0 34 (by omega)) f0) hM rfl (by have:=hT.1;omega) fun w1 hM=>?_;have hT:=T8.set hT (k:=34) (by omega) 7;refine aSP 17 1 [(49,.agg (Array.setIfInBounds (Array.setIfInBounds (Array.setIfInBounds cs 35 (vU 2)) 95 (vU 5)) 34 (vU 7)))] 171 0 (fc (lac 171 1 hM rfl hT.1) f0) hM rfl aN0.1 hT.1 (T8.one hT) fun w1 hM=>?_;have hT:T8 _ aHi:=T8.ext hT fun i hi=>by unfold aHi;rw [←aSt i hi]
    exact rtc 0 171 rfl (aAY 171 0 hM rfl hT.1) f0 (hΦ _ _ ⟨_,rfl,hT,hM.fr⟩)
   have rh6:=dt h6;have hlt:n<256:=by omega
   refine seg 6 3 [(2,vI (n:Int)),(3,.int .u8 (n:Int)),(12,vB (decide (97≤(n:Int))))] (fc (aTU n hlt) f0) ?_;cases h7:(decide (97≤(n:Int)))
   ·have rh7:=df h7;refine seg 7 3 [(18,vB (decide (65≤(n:Int))))] f0 ?_;cases h8:(decide (65≤(n:Int)))
    ·have rh8:=df h8;refine seg 9 3 [(27,vB (decide (48≤(n:Int))))] f0 ?_;cases h9:(decide (48≤(n:Int)))
     ·have rh9:=df h9;refine aAq 11 1 35 [(34,.int .u8 (n:Int))] f0 hM (aA0 [32,9,10] n hlt _) fun w1 hM=>seg 11 4 [(33,vB (decide (0≤(ixb [32,9,10] n))))] f0 ?_;cases h10:(decide (0≤(ixb [32,9,10] n)))
      rotate_left
      ·have aa:=dt h10;refine aE8 12 2 [(38,vP b2 (0+n*1))] 5 1 n (vU 1) (fc (aEg 171 256 .i64 b2 0 n (by omega)) f0) hM rfl (by have:=hT.1;omega) fun w1 hM=>?_;have hT:=T8.set hT (k:=n) (by omega) 1;refine seg 3 0 [(4,vI ((n:Int)+1))] (fc (aAh (n:Int) 1 u3_) f0) ?_;have hcv:aCm n=1:=by rw [aAs n hlt];simp [h7,h8,h9,h10]
       exact aAb _ (ih4 _ (by omega) (n+1) _ _ (by omega) (T8.ext hT fun i _=>aAx hcv i) hM rfl)
      have aa:=df h10;refine aAq 13 1 41 [(40,.int .u8 (n:Int))] f0 hM (aA0 [59,44,46,58,40,41,123,125,91,93,61,60,62,47,45] n hlt _) fun w1 hM=>seg 13 4 [(39,vB (decide (0≤(ixb [59,44,46,58,40,41,123,125,91,93,61,60,62,47,45] n))))] f0 ?_;cases h11:(decide (0≤(ixb [59,44,46,58,40,41,123,125,91,93,61,60,62,47,45] n)))
      ·have ab:=df h11;refine seg 3 0 [(4,vI ((n:Int)+1))] (fc (aAh (n:Int) 1 u3_) f0) ?_;have hcv:aCm n=0:=by rw [aAs n hlt];simp [h7,h8,h9,h10,h11]
       exact aAb _ (ih4 _ (by omega) (n+1) _ _ (by omega) (T8.ext hT fun i _=>aBB hcv i) hM rfl)
      have ab:=dt h11;refine aE8 14 2 [(44,vP b2 (0+n*1))] 5 1 n (vU 6) (fc (aEg 171 256 .i64 b2 0 n (by omega)) f0) hM rfl (by have:=hT.1;omega) fun w1 hM=>?_;have hT:=T8.set hT (k:=n) (by omega) 6;refine seg 3 0 [(4,vI ((n:Int)+1))] (fc (aAh (n:Int) 1 u3_) f0) ?_;have hcv:aCm n=6:=by rw [aAs n hlt];simp [h7,h8,h9,h10,h11]
      exact aAb _ (ih4 _ (by omega) (n+1) _ _ (by omega) (T8.ext hT fun i _=>aAx hcv i) hM rfl)
     have rh9:=dt h9;refine seg 9 7 [(24,vB (decide ((n:Int)≤57)))] f0 ?_;cases h12:(decide ((n:Int)≤57))
     rotate_left
     ·have ac:=dt h12;refine aE8 10 2 [(32,vP b2 (0+n*1))] 5 1 n (vU 4) (fc (aEg 171 256 .i64 b2 0 n (by omega)) f0) hM rfl (by have:=hT.1;omega) fun w1 hM=>?_;have hT:=T8.set hT (k:=n) (by omega) 4;refine seg 3 0 [(4,vI ((n:Int)+1))] (fc (aAh (n:Int) 1 u3_) f0) ?_;have hcv:aCm n=4:=by rw [aAs n hlt];simp [h7,h8,h9,h12]
      exact aAb _ (ih4 _ (by omega) (n+1) _ _ (by omega) (T8.ext hT fun i _=>aAx hcv i) hM rfl)
     have ac:=df h12;refine aAq 11 1 35 [(34,.int .u8 (n:Int))] f0 hM (aA0 [32,9,10] n hlt _) fun w1 hM=>seg 11 4 [(33,vB (decide (0≤(ixb [32,9,10] n))))] f0 ?_;cases h13:(decide (0≤(ixb [32,9,10] n)))
     rotate_left
     ·have ad:=dt h13;refine aE8 12 2 [(38,vP b2 (0+n*1))] 5 1 n (vU 1) (fc (aEg 171 256 .i64 b2 0 n (by omega)) f0) hM rfl (by have:=hT.1;omega) fun w1 hM=>?_;have hT:=T8.set hT (k:=n) (by omega) 1;refine seg 3 0 [(4,vI ((n:Int)+1))] (fc (aAh (n:Int) 1 u3_) f0) ?_;have hcv:aCm n=1:=by rw [aAs n hlt];simp [h7,h8,h9,h12,h13]
      exact aAb _ (ih4 _ (by omega) (n+1) _ _ (by omega) (T8.ext hT fun i _=>aAx hcv i) hM rfl)
     have ad:=df h13;refine aAq 13 1 41 [(40,.int .u8 (n:Int))] f0 hM (aA0 [59,44,46,58,40,41,123,125,91,93,61,60,62,47,45] n hlt _) fun w1 hM=>seg 13 4 [(39,vB (decide (0≤(ixb [59,44,46,58,40,41,123,125,91,93,61,60,62,47,45] n))))] f0 ?_;cases h14:(decide (0≤(ixb [59,44,46,58,40,41,123,125,91,93,61,60,62,47,45] n)))
     ·have ae:=df h14;refine seg 3 0 [(4,vI ((n:Int)+1))] (fc (aAh (n:Int) 1 u3_) f0) ?_;have hcv:aCm n=0:=by rw [aAs n hlt];simp [h7,h8,h9,h12,h13,h14]
      exact aAb _ (ih4 _ (by omega) (n+1) _ _ (by omega) (T8.ext hT fun i _=>aBB hcv i) hM rfl)
     have ae:=dt h14;refine aE8 14 2 [(44,vP b2 (0+n*1))] 5 1 n (vU 6) (fc (aEg 171 256 .i64 b2 0 n (by omega)) f0) hM rfl (by have:=hT.1;omega) fun w1 hM=>?_;have hT:=T8.set hT (k:=n) (by omega) 6;refine seg 3 0 [(4,vI ((n:Int)+1))] (fc (aAh (n:Int) 1 u3_) f0) ?_;have hcv:aCm n=6:=by rw [aAs n hlt];simp [h7,h8,h9,h12,h13,h14]
     exact aAb _ (ih4 _ (by omega) (n+1) _ _ (by omega) (T8.ext hT fun i _=>aAx hcv i) hM rfl)
    have rh8:=dt h8;refine seg 7 7 [(9,vB (decide ((n:Int)≤90)))] f0 ?_;cases h15:(decide ((n:Int)≤90))
    rotate_left
    ·have af:=dt h15;refine aE8 8 2 [(23,vP b2 (0+n*1))] 5 1 n (vU 3) (fc (aEg 171 256 .i64 b2 0 n (by omega)) f0) hM rfl (by have:=hT.1;omega) fun w1 hM=>?_;have hT:=T8.set hT (k:=n) (by omega) 3;refine seg 3 0 [(4,vI ((n:Int)+1))] (fc (aAh (n:Int) 1 u3_) f0) ?_;have hcv:aCm n=3:=by rw [aAs n hlt];simp [h7,h8,h15]
     exact aAb _ (ih4 _ (by omega) (n+1) _ _ (by omega) (T8.ext hT fun i _=>aAx hcv i) hM rfl)
    have af:=df h15;refine seg 9 3 [(27,vB (decide (48≤(n:Int))))] f0 ?_;cases h16:(decide (48≤(n:Int)))
    ·have ag:=df h16;refine aAq 11 1 35 [(34,.int .u8 (n:Int))] f0 hM (aA0 [32,9,10] n hlt _) fun w1 hM=>seg 11 4 [(33,vB (decide (0≤(ixb [32,9,10] n))))] f0 ?_;cases h17:(decide (0≤(ixb [32,9,10] n)))
     rotate_left
     ·have ah:=dt h17;refine aE8 12 2 [(38,vP b2 (0+n*1))] 5 1 n (vU 1) (fc (aEg 171 256 .i64 b2 0 n (by omega)) f0) hM rfl (by have:=hT.1;omega) fun w1 hM=>?_;have hT:=T8.set hT (k:=n) (by omega) 1;refine seg 3 0 [(4,vI ((n:Int)+1))] (fc (aAh (n:Int) 1 u3_) f0) ?_;have hcv:aCm n=1:=by rw [aAs n hlt];simp [h7,h8,h15,h16,h17]
      exact aAb _ (ih4 _ (by omega) (n+1) _ _ (by omega) (T8.ext hT fun i _=>aAx hcv i) hM rfl)
     have ah:=df h17;refine aAq 13 1 41 [(40,.int .u8 (n:Int))] f0 hM (aA0 [59,44,46,58,40,41,123,125,91,93,61,60,62,47,45] n hlt _) fun w1 hM=>seg 13 4 [(39,vB (decide (0≤(ixb [59,44,46,58,40,41,123,125,91,93,61,60,62,47,45] n))))] f0 ?_;cases h18:(decide (0≤(ixb [59,44,46,58,40,41,123,125,91,93,61,60,62,47,45] n)))
     ·have ai:=df h18;refine seg 3 0 [(4,vI ((n:Int)+1))] (fc (aAh (n:Int) 1 u3_) f0) ?_;have hcv:aCm n=0:=by rw [aAs n hlt];simp [h7,h8,h15,h16,h17,h18]
      exact aAb _ (ih4 _ (by omega) (n+1) _ _ (by omega) (T8.ext hT fun i _=>aBB hcv i) hM rfl)
     have ai:=dt h18;refine aE8 14 2 [(44,vP b2 (0+n*1))] 5 1 n (vU 6) (fc (aEg 171 256 .i64 b2 0 n (by omega)) f0) hM rfl (by have:=hT.1;omega) fun w1 hM=>?_;have hT:=T8.set hT (k:=n) (by omega) 6;refine seg 3 0 [(4,vI ((n:Int)+1))] (fc (aAh (n:Int) 1 u3_) f0) ?_;have hcv:aCm n=6:=by rw [aAs n hlt];simp [h7,h8,h15,h16,h17,h18]
     exact aAb _ (ih4 _ (by omega) (n+1) _ _ (by omega) (T8.ext hT fun i _=>aAx hcv i) hM rfl)
    have ag:=dt h16;refine seg 9 7 [(24,vB (decide ((n:Int)≤57)))] f0 ?_;cases h19:(decide ((n:Int)≤57))
    rotate_left
    ·have aj:=dt h19;refine aE8 10 2 [(32,vP b2 (0+n*1))] 5 1 n (vU 4) (fc (aEg 171 256 .i64 b2 0 n (by omega)) f0) hM rfl (by have:=hT.1;omega) fun w1 hM=>?_;have hT:=T8.set hT (k:=n) (by omega) 4;refine seg 3 0 [(4,vI ((n:Int)+1))] (fc (aAh (n:Int) 1 u3_) f0) ?_;have hcv:aCm n=4:=by rw [aAs n hlt];simp [h7,h8,h15,h16,h19]
     exact aAb _ (ih4 _ (by omega) (n+1) _ _ (by omega) (T8.ext hT fun i _=>aAx hcv i) hM rfl)
    have aj:=df h19;refine aAq 11 1 35 [(34,.int .u8 (n:Int))] f0 hM (aA0 [32,9,10] n hlt _) fun w1 hM=>seg 11 4 [(33,vB (decide (0≤(ixb [32,9,10] n))))] f0 ?_;cases h20:(decide (0≤(ixb [32,9,10] n)))
    rotate_left
    ·have ak:=dt h20;refine aE8 12 2 [(38,vP b2 (0+n*1))] 5 1 n (vU 1) (fc (aEg 171 256 .i64 b2 0 n (by omega)) f0) hM rfl (by have:=hT.1;omega) fun w1 hM=>?_;have hT:=T8.set hT (k:=n) (by omega) 1;refine seg 3 0 [(4,vI ((n:Int)+1))] (fc (aAh (n:Int) 1 u3_) f0) ?_;have hcv:aCm n=1:=by rw [aAs n hlt];simp [h7,h8,h15,h16,h19,h20]
     exact aAb _ (ih4 _ (by omega) (n+1) _ _ (by omega) (T8.ext hT fun i _=>aAx hcv i) hM rfl)
    have ak:=df h20;refine aAq 13 1 41 [(40,.int .u8 (n:Int))] f0 hM (aA0 [59,44,46,58,40,41,123,125,91,93,61,60,62,47,45] n hlt _) fun w1 hM=>seg 13 4 [(39,vB (decide (0≤(ixb [59,44,46,58,40,41,123,125,91,93,61,60,62,47,45] n))))] f0 ?_;cases h21:(decide (0≤(ixb [59,44,46,58,40,41,123,125,91,93,61,60,62,47,45] n)))
    ·have al:=df h21;refine seg 3 0 [(4,vI ((n:Int)+1))] (fc (aAh (n:Int) 1 u3_) f0) ?_;have hcv:aCm n=0:=by rw [aAs n hlt];simp [h7,h8,h15,h16,h19,h20,h21]
     exact aAb _ (ih4 _ (by omega) (n+1) _ _ (by omega) (T8.ext hT fun i _=>aBB hcv i) hM rfl)
    have al:=dt h21;refine aE8 14 2 [(44,vP b2 (0+n*1))] 5 1 n (vU 6) (fc (aEg 171 256 .i64 b2 0 n (by omega)) f0) hM rfl (by have:=hT.1;omega) fun w1 hM=>?_;have hT:=T8.set hT (k:=n) (by omega) 6;refine seg 3 0 [(4,vI ((n:Int)+1))] (fc (aAh (n:Int) 1 u3_) f0) ?_;have hcv:aCm n=6:=by rw [aAs n hlt];simp [h7,h8,h15,h16,h19,h20,h21]
    exact aAb _ (ih4 _ (by omega) (n+1) _ _ (by omega) (T8.ext hT fun i _=>aAx hcv i) hM rfl)
   have rh7:=dt h7;refine seg 6 7 [(9,vB (decide ((n:Int)≤122)))] f0 ?_;cases h22:(decide ((n:Int)≤122))
   rotate_left
   ·have am:=dt h22;refine aE8 8 2 [(23,vP b2 (0+n*1))] 5 1 n (vU 3) (fc (aEg 171 256 .i64 b2 0 n (by omega)) f0) hM rfl (by have:=hT.1;omega) fun w1 hM=>?_;have hT:=T8.set hT (k:=n) (by omega) 3;refine seg 3 0 [(4,vI ((n:Int)+1))] (fc (aAh (n:Int) 1 u3_) f0) ?_;have hcv:aCm n=3:=by rw [aAs n hlt];simp [h7,h22]
    exact aAb _ (ih4 _ (by omega) (n+1) _ _ (by omega) (T8.ext hT fun i _=>aAx hcv i) hM rfl)
   have am:=df h22;refine seg 7 3 [(18,vB (decide (65≤(n:Int))))] f0 ?_;cases h23:(decide (65≤(n:Int)))
   ·have an:=df h23;refine seg 9 3 [(9,vB false),(27,vB (decide (48≤(n:Int))))] f0 ?_;cases h24:(decide (48≤(n:Int)))
    ·have ao:=df h24;refine aAq 11 1 35 [(34,.int .u8 (n:Int))] f0 hM (aA0 [32,9,10] n hlt _) fun w1 hM=>seg 11 4 [(33,vB (decide (0≤(ixb [32,9,10] n))))] f0 ?_;cases h25:(decide (0≤(ixb [32,9,10] n)))
     rotate_left
     ·have ap:=dt h25;refine aE8 12 2 [(38,vP b2 (0+n*1))] 5 1 n (vU 1) (fc (aEg 171 256 .i64 b2 0 n (by omega)) f0) hM rfl (by have:=hT.1;omega) fun w1 hM=>?_;have hT:=T8.set hT (k:=n) (by omega) 1;refine seg 3 0 [(4,vI ((n:Int)+1))] (fc (aAh (n:Int) 1 u3_) f0) ?_;have hcv:aCm n=1:=by rw [aAs n hlt];simp [h7,h22,h23,h24,h25]
      exact aAb _ (ih4 _ (by omega) (n+1) _ _ (by omega) (T8.ext hT fun i _=>aAx hcv i) hM rfl)
     have ap:=df h25;refine aAq 13 1 41 [(40,.int .u8 (n:Int))] f0 hM (aA0 [59,44,46,58,40,41,123,125,91,93,61,60,62,47,45] n hlt _) fun w1 hM=>seg 13 4 [(39,vB (decide (0≤(ixb [59,44,46,58,40,41,123,125,91,93,61,60,62,47,45] n))))] f0 ?_;cases h26:(decide (0≤(ixb [59,44,46,58,40,41,123,125,91,93,61,60,62,47,45] n)))
     ·have aq:=df h26;refine seg 3 0 [(4,vI ((n:Int)+1))] (fc (aAh (n:Int) 1 u3_) f0) ?_;have hcv:aCm n=0:=by rw [aAs n hlt];simp [h7,h22,h23,h24,h25,h26]
      exact aAb _ (ih4 _ (by omega) (n+1) _ _ (by omega) (T8.ext hT fun i _=>aBB hcv i) hM rfl)
     have aq:=dt h26;refine aE8 14 2 [(44,vP b2 (0+n*1))] 5 1 n (vU 6) (fc (aEg 171 256 .i64 b2 0 n (by omega)) f0) hM rfl (by have:=hT.1;omega) fun w1 hM=>?_;have hT:=T8.set hT (k:=n) (by omega) 6;refine seg 3 0 [(4,vI ((n:Int)+1))] (fc (aAh (n:Int) 1 u3_) f0) ?_;have hcv:aCm n=6:=by rw [aAs n hlt];simp [h7,h22,h23,h24,h25,h26]
     exact aAb _ (ih4 _ (by omega) (n+1) _ _ (by omega) (T8.ext hT fun i _=>aAx hcv i) hM rfl)
    have ao:=dt h24;refine seg 9 7 [(24,vB (decide ((n:Int)≤57)))] f0 ?_;cases h27:(decide ((n:Int)≤57))
    rotate_left
    ·have ar:=dt h27;refine aE8 10 2 [(32,vP b2 (0+n*1))] 5 1 n (vU 4) (fc (aEg 171 256 .i64 b2 0 n (by omega)) f0) hM rfl (by have:=hT.1;omega) fun w1 hM=>?_;have hT:=T8.set hT (k:=n) (by omega) 4;refine seg 3 0 [(4,vI ((n:Int)+1))] (fc (aAh (n:Int) 1 u3_) f0) ?_;have hcv:aCm n=4:=by rw [aAs n hlt];simp [h7,h22,h23,h24,h27]
     exact aAb _ (ih4 _ (by omega) (n+1) _ _ (by omega) (T8.ext hT fun i _=>aAx hcv i) hM rfl)
    have ar:=df h27;refine aAq 11 1 35 [(34,.int .u8 (n:Int))] f0 hM (aA0 [32,9,10] n hlt _) fun w1 hM=>seg 11 4 [(33,vB (decide (0≤(ixb [32,9,10] n))))] f0 ?_;cases h28:(decide (0≤(ixb [32,9,10] n)))
    rotate_left
    ·have au:=dt h28;refine aE8 12 2 [(38,vP b2 (0+n*1))] 5 1 n (vU 1) (fc (aEg 171 256 .i64 b2 0 n (by omega)) f0) hM rfl (by have:=hT.1;omega) fun w1 hM=>?_;have hT:=T8.set hT (k:=n) (by omega) 1;refine seg 3 0 [(4,vI ((n:Int)+1))] (fc (aAh (n:Int) 1 u3_) f0) ?_;have hcv:aCm n=1:=by rw [aAs n hlt];simp [h7,h22,h23,h24,h27,h28]
     exact aAb _ (ih4 _ (by omega) (n+1) _ _ (by omega) (T8.ext hT fun i _=>aAx hcv i) hM rfl)
    have au:=df h28;refine aAq 13 1 41 [(40,.int .u8 (n:Int))] f0 hM (aA0 [59,44,46,58,40,41,123,125,91,93,61,60,62,47,45] n hlt _) fun w1 hM=>seg 13 4 [(39,vB (decide (0≤(ixb [59,44,46,58,40,41,123,125,91,93,61,60,62,47,45] n))))] f0 ?_;cases h29:(decide (0≤(ixb [59,44,46,58,40,41,123,125,91,93,61,60,62,47,45] n)))
    ·have av:=df h29;refine seg 3 0 [(4,vI ((n:Int)+1))] (fc (aAh (n:Int) 1 u3_) f0) ?_;have hcv:aCm n=0:=by rw [aAs n hlt];simp [h7,h22,h23,h24,h27,h28,h29]
     exact aAb _ (ih4 _ (by omega) (n+1) _ _ (by omega) (T8.ext hT fun i _=>aBB hcv i) hM rfl)
    have av:=dt h29;refine aE8 14 2 [(44,vP b2 (0+n*1))] 5 1 n (vU 6) (fc (aEg 171 256 .i64 b2 0 n (by omega)) f0) hM rfl (by have:=hT.1;omega) fun w1 hM=>?_;have hT:=T8.set hT (k:=n) (by omega) 6;refine seg 3 0 [(4,vI ((n:Int)+1))] (fc (aAh (n:Int) 1 u3_) f0) ?_;have hcv:aCm n=6:=by rw [aAs n hlt];simp [h7,h22,h23,h24,h27,h28,h29]
    exact aAb _ (ih4 _ (by omega) (n+1) _ _ (by omega) (T8.ext hT fun i _=>aAx hcv i) hM rfl)
   have an:=dt h23;refine seg 7 7 [(9,vB (decide ((n:Int)≤90)))] f0 ?_;cases h30:(decide ((n:Int)≤90))
   rotate_left
   ·have aw:=dt h30;refine aE8 8 2 [(23,vP b2 (0+n*1))] 5 1 n (vU 3) (fc (aEg 171 256 .i64 b2 0 n (by omega)) f0) hM rfl (by have:=hT.1;omega) fun w1 hM=>?_;have hT:=T8.set hT (k:=n) (by omega) 3;refine seg 3 0 [(4,vI ((n:Int)+1))] (fc (aAh (n:Int) 1 u3_) f0) ?_;have hcv:aCm n=3:=by rw [aAs n hlt];simp [h7,h22,h23,h30]
    exact aAb _ (ih4 _ (by omega) (n+1) _ _ (by omega) (T8.ext hT fun i _=>aAx hcv i) hM rfl)
   have aw:=df h30;refine seg 9 3 [(27,vB (decide (48≤(n:Int))))] f0 ?_;cases h31:(decide (48≤(n:Int)))
   ·have ax:=df h31;refine aAq 11 1 35 [(34,.int .u8 (n:Int))] f0 hM (aA0 [32,9,10] n hlt _) fun w1 hM=>seg 11 4 [(33,vB (decide (0≤(ixb [32,9,10] n))))] f0 ?_;cases h32:(decide (0≤(ixb [32,9,10] n)))
    rotate_left
    ·have ay:=dt h32;refine aE8 12 2 [(38,vP b2 (0+n*1))] 5 1 n (vU 1) (fc (aEg 171 256 .i64 b2 0 n (by omega)) f0) hM rfl (by have:=hT.1;omega) fun w1 hM=>?_;have hT:=T8.set hT (k:=n) (by omega) 1;refine seg 3 0 [(4,vI ((n:Int)+1))] (fc (aAh (n:Int) 1 u3_) f0) ?_;have hcv:aCm n=1:=by rw [aAs n hlt];simp [h7,h22,h23,h30,h31,h32]
     exact aAb _ (ih4 _ (by omega) (n+1) _ _ (by omega) (T8.ext hT fun i _=>aAx hcv i) hM rfl)
    have ay:=df h32;refine aAq 13 1 41 [(40,.int .u8 (n:Int))] f0 hM (aA0 [59,44,46,58,40,41,123,125,91,93,61,60,62,47,45] n hlt _) fun w1 hM=>seg 13 4 [(39,vB (decide (0≤(ixb [59,44,46,58,40,41,123,125,91,93,61,60,62,47,45] n))))] f0 ?_;cases h33:(decide (0≤(ixb [59,44,46,58,40,41,123,125,91,93,61,60,62,47,45] n)))
    ·have az:=df h33;refine seg 3 0 [(4,vI ((n:Int)+1))] (fc (aAh (n:Int) 1 u3_) f0) ?_;have hcv:aCm n=0:=by rw [aAs n hlt];simp [h7,h22,h23,h30,h31,h32,h33]
     exact aAb _ (ih4 _ (by omega) (n+1) _ _ (by omega) (T8.ext hT fun i _=>aBB hcv i) hM rfl)
    have az:=dt h33;refine aE8 14 2 [(44,vP b2 (0+n*1))] 5 1 n (vU 6) (fc (aEg 171 256 .i64 b2 0 n (by omega)) f0) hM rfl (by have:=hT.1;omega) fun w1 hM=>?_;have hT:=T8.set hT (k:=n) (by omega) 6;refine seg 3 0 [(4,vI ((n:Int)+1))] (fc (aAh (n:Int) 1 u3_) f0) ?_;have hcv:aCm n=6:=by rw [aAs n hlt];simp [h7,h22,h23,h30,h31,h32,h33]
    exact aAb _ (ih4 _ (by omega) (n+1) _ _ (by omega) (T8.ext hT fun i _=>aAx hcv i) hM rfl)
   have ax:=dt h31;refine seg 9 7 [(24,vB (decide ((n:Int)≤57)))] f0 ?_;cases h34:(decide ((n:Int)≤57))
   rotate_left
   ·have a0:=dt h34;refine aE8 10 2 [(32,vP b2 (0+n*1))] 5 1 n (vU 4) (fc (aEg 171 256 .i64 b2 0 n (by omega)) f0) hM rfl (by have:=hT.1;omega) fun w1 hM=>?_;have hT:=T8.set hT (k:=n) (by omega) 4;refine seg 3 0 [(4,vI ((n:Int)+1))] (fc (aAh (n:Int) 1 u3_) f0) ?_;have hcv:aCm n=4:=by rw [aAs n hlt];simp [h7,h22,h23,h30,h31,h34]
    exact aAb _ (ih4 _ (by omega) (n+1) _ _ (by omega) (T8.ext hT fun i _=>aAx hcv i) hM rfl)
   have a0:=df h34;refine aAq 11 1 35 [(34,.int .u8 (n:Int))] f0 hM (aA0 [32,9,10] n hlt _) fun w1 hM=>seg 11 4 [(33,vB (decide (0≤(ixb [32,9,10] n))))] f0 ?_;cases h35:(decide (0≤(ixb [32,9,10] n)))
   rotate_left
   ·have a1:=dt h35;refine aE8 12 2 [(38,vP b2 (0+n*1))] 5 1 n (vU 1) (fc (aEg 171 256 .i64 b2 0 n (by omega)) f0) hM rfl (by have:=hT.1;omega) fun w1 hM=>?_;have hT:=T8.set hT (k:=n) (by omega) 1;refine seg 3 0 [(4,vI ((n:Int)+1))] (fc (aAh (n:Int) 1 u3_) f0) ?_;have hcv:aCm n=1:=by rw [aAs n hlt];simp [h7,h22,h23,h30,h31,h34,h35]
    exact aAb _ (ih4 _ (by omega) (n+1) _ _ (by omega) (T8.ext hT fun i _=>aAx hcv i) hM rfl)
   have a1:=df h35;refine aAq 13 1 41 [(40,.int .u8 (n:Int))] f0 hM (aA0 [59,44,46,58,40,41,123,125,91,93,61,60,62,47,45] n hlt _) fun w1 hM=>seg 13 4 [(39,vB (decide (0≤(ixb [59,44,46,58,40,41,123,125,91,93,61,60,62,47,45] n))))] f0 ?_;cases h36:(decide (0≤(ixb [59,44,46,58,40,41,123,125,91,93,61,60,62,47,45] n)))
   ·have a2:=df h36;refine seg 3 0 [(4,vI ((n:Int)+1))] (fc (aAh (n:Int) 1 u3_) f0) ?_;have hcv:aCm n=0:=by rw [aAs n hlt];simp [h7,h22,h23,h30,h31,h34,h35,h36]
    exact aAb _ (ih4 _ (by omega) (n+1) _ _ (by omega) (T8.ext hT fun i _=>aBB hcv i) hM rfl)
   have a2:=dt h36;refine aE8 14 2 [(44,vP b2 (0+n*1))] 5 1 n (vU 6) (fc (aEg 171 256 .i64 b2 0 n (by omega)) f0) hM rfl (by have:=hT.1;omega) fun w1 hM=>?_;have hT:=T8.set hT (k:=n) (by omega) 6;refine seg 3 0 [(4,vI ((n:Int)+1))] (fc (aAh (n:Int) 1 u3_) f0) ?_;have hcv:aCm n=6:=by rw [aAs n hlt];simp [h7,h22,h23,h30,h31,h34,h35,h36]
   exact aAb _ (ih4 _ (by omega) (n+1) _ _ (by omega) (T8.ext hT fun i _=>aAx hcv i) hM rfl)
  exact aAb _ (lp3 _ 0 _ _ (Nat.zero_le _) (T8.ext aN0 fun i _=>rfl) hM rfl)
def aFm (i:Nat) (c:UInt8):Bool:=cl8 c==3||(!(i==0)&&(cl8 c==4||cl8 c==5))
def aFM:Nat→Bys→Bool
  | _,[]=>true
  | i,c::l=>aFm i c&&aFM (i+1) l
def aBu (s:Bys):Bool:=aFM 0 s&&(!(s==[]))&&decide (s.length≤24)
abbrev A52 (Φ:Ending→World→Prop):=AtO Tryz.prog (aAr Tryz.f33) (aA2 (bodyPost Tryz.prog Tryz.f33 Φ)) [] 39
theorem aAy {s:Bys}(hs:s.length≤9223372036854775807) (w:World):Calls Tryz.prog 33 #[vS s] w fun e w'=>e = .returned (vB (aBu s))∧Fr (fun _=>False) w w':=by
  refine beg Tryz.func33 rfl rfl [(0,vS s)] rfl rfl fun Φ hΦ=>?_;have hM:=Mm.nil (fun _=>False) w;have hsl:s.length≤9223372036854775807:=hs;refine aOX 1 0 6 [] (K:=fun v w8=>∃ cs,v = .agg cs∧T8 cs aHi) f0 hM ((aEk _).mono fun e w8 ⟨cs,h1,h2,h3⟩=>⟨⟨_,h1,cs,rfl,h2⟩,h3⟩) fun _ w1 ⟨cs,hv9,hT⟩ hM f1=>?_;subst hv9;refine aAn 1 1 3 [] (cs:=zT Tryz.prog 171) (T:=171) (v:=fun b=>vP b 0) f0 hM fun b1 w1 hM=>aSP 1 2 [] 171 0 f0 hM rfl aN0.1 hT.1 (T8.one hT) fun w1 hM=>seg 3 0 [(8,vI (s.length:Int)),(9,vI 0)] (fc (aGz 9 s) f0) ?_
  have lp2:∀ (m4:Nat) (i:Nat) (w2:World),i≤s.length→aFM 0 s=aFM i (s.drop i)→Mm (fun _=>False) w w2 [bk b1 cs 171]→m4=s.length-i→A52 Φ (some (3,0)) [(9,vI (i:Int)),(8,vI (s.length:Int)),(3,vP b1 0),(0,vS s)] w2:=by
   refine aBh fun m4 ih3 i w2 hi hv hM hm4=>seg 3 1 [(10,vB (decide ((i:Int)<(s.length:Int))))] f0 ?_;cases h5:(decide ((i:Int)<(s.length:Int)))
   ·have rh5:=df h5;refine seg 9 3 [(34,vB (!(s==[])))] (fc (sne 9 s []) f0) ?_;cases h6:(s==[])
    ·have rh6:=ef h6;exact rt1 2 (vB (decide ((s.length:Int)≤24))) rfl (fc (aGz 9 s) f0) (hΦ _ _ ⟨by unfold aBu;rw [hv,List.drop_of_length_le (by omega),h6,aFM,show decide (((s.length:Nat):Int)≤24)=decide (s.length≤24) from by rw [decide_eq_decide];omega];rfl,hM.fr⟩)
    have rh6:=et h6;exact rt1 2 (vB false) rfl f0 (hΦ _ _ ⟨by unfold aBu;rw [h6];simp,hM.fr⟩)
   have rh5:=dt h5;obtain ⟨e7,he7⟩:=geb (l:=s) (i:=i) (by omega);refine seg 6 3 [(4,vI (i:Int)),(5,.int .u8 ((aHi e7.toNat:Nat):Int)),(19,vB (!(((aHi e7.toNat:Nat):Int)==3)))] (fc (byt 9 he7) (fc (aEg 171 256 .u8 b1 0 e7.toNat e7.toNat_lt) (fc (ldt 5 0 hM rfl (hT.2 _ e7.toNat_lt)) f0))) ?_;cases h8:(((aHi e7.toNat:Nat):Int)==3)
   rotate_left
   ·have rh8:=et h8;refine seg 3 0 [(9,vI ((i:Int)+1))] (fc (aAh (i:Int) 1 u3_) f0) (aAb _ (ih3 _ (by omega) (i+1) _ (gl he7) (by rw [hv,gd he7,aFM,show aFm i e7=true by unfold aFm;rw [←aC5];simp;omega];rfl) hM rfl))
   have rh8:=ef h8;refine seg 6 6 [(22,vB ((i:Int)==0))] f0 ?_;cases h9:((i:Int)==0)
   rotate_left
   ·have rh9:=et h9;exact rt1 2 (vB false) rfl f0 (hΦ _ _ ⟨by unfold aBu;rw [hv,gd he7,aFM,show aFm i e7=false by unfold aFm;rw [←aC5];simp;omega];rfl,hM.fr⟩)
   have rh9:=ef h9;refine seg 6 9 [(25,vB (!(((aHi e7.toNat:Nat):Int)==4)))] f0 ?_;cases h10:(((aHi e7.toNat:Nat):Int)==4)
   rotate_left
   ·have aa:=et h10;refine seg 3 0 [(9,vI ((i:Int)+1))] (fc (aAh (i:Int) 1 u3_) f0) (aAb _ (ih3 _ (by omega) (i+1) _ (gl he7) (by rw [hv,gd he7,aFM,show aFm i e7=true by unfold aFm;rw [←aC5];simp;omega];rfl) hM rfl))
   have aa:=ef h10;refine seg 6 14 [(30,vB (!(((aHi e7.toNat:Nat):Int)==5)))] f0 ?_;cases h11:(((aHi e7.toNat:Nat):Int)==5)
   ·have ab:=ef h11;exact rt1 2 (vB false) rfl f0 (hΦ _ _ ⟨by unfold aBu;rw [hv,gd he7,aFM,show aFm i e7=false by unfold aFm;rw [←aC5];simp;omega];rfl,hM.fr⟩)
   have ab:=et h11;refine seg 3 0 [(9,vI ((i:Int)+1))] (fc (aAh (i:Int) 1 u3_) f0) (aAb _ (ih3 _ (by omega) (i+1) _ (gl he7) (by rw [hv,gd he7,aFM,show aFm i e7=true by unfold aFm;rw [←aC5];simp;omega];rfl) hM rfl))
  exact aAb _ (lp2 _ 0 _ (Nat.zero_le _) rfl hM rfl)
inductive Fst {α:Type}(L:List α) (q:Nat→Bool) (I:Nat→World→Prop) (w:World):Int→Prop where
  | none:(∀ j,j<L.length→q j=false)→I L.length w→Fst L q I w (-1)
  | some (i:Nat):i<L.length→q i=true→(∀ j,j<i→q j=false)→I (i+1) w→Fst L q I w (i:Int)
theorem Fst.end_ {α:Type}{L:List α}{q:Nat→Bool}{I:Nat→World→Prop}{w:World}{i:Nat}(e:i=L.length) (h:∀ j,j<i→q j=false) (hI:I i w):Fst L q I w (-1):=by subst e;exact .none h hI
abbrev A90 (Φ:Ending→World→Prop):=AtO Tryz.prog (aAr Tryz.f82) (aA2 (bodyPost Tryz.prog Tryz.f82 Φ)) [] 19
theorem aK7 {w:World}{B:Nat}{p:Option Addr}{cap:Nat}{L:List Bys}{f:FuncId}{caps:Array Value}{G:Nat→Prop}(hs:SrcB stL 1 w B p cap L) (hG:∀ k,G k→B≤k) (eg:aEM Tryz.prog f) (I:Nat→World→Prop) (q:Nat→Bool) (h0:I 0 w) (step:∀ i x w1,L[i]?=some x→(∀ j,j<i→q j=false)→I i w1→Fr G w w1→Calls Tryz.prog f (#[vS x]++caps) w1 fun e w2=>e = .returned (vB (q i))∧I (i+1) w2∧Fr G w1 w2):Calls Tryz.prog 82 #[vL p L.length cap,.func (.func f) #[] caps] w fun e w'=>(∃ z,e = .returned (vI z)∧Fst L q I w' z)∧Fr G w w':=by
  have bb:=hs.bnd;refine beg Tryz.func82 rfl rfl [(0,vL p L.length cap),(1,.func (.func f) #[] caps)] rfl rfl fun Φ hΦ=>?_;have hM:=Mm.nil G w;refine seg 2 0 [(7,vI (L.length:Int)),(8,vI 0)] f0 ?_
  have lp1:∀ (m3:Nat) (i:Nat) (w2:World),i≤L.length→(∀ j,j<i→q j=false)→I i w2→Mm G w w2 []→m3=L.length-i→A90 Φ (some (2,0)) [(8,vI (i:Int)),(7,vI (L.length:Int)),(0,vL p L.length cap),(1,.func (.func f) #[] caps)] w2:=by
   refine aBh fun m3 ih2 i w2 hi hq hI hM hm3=>seg 2 1 [(9,vB (decide ((i:Int)<(L.length:Int))))] f0 ?_;cases h4:(decide ((i:Int)<(L.length:Int)))
   ·have rh4:=df h4;exact rt1 4 (vI (-1)) rfl f0 (hΦ _ _ ⟨⟨_,rfl,.end_ (by omega) hq hI⟩,hM.fr⟩)
   have rh4:=dt h4;obtain ⟨y5,hy5,g5,o5,q5,r5,n5⟩:=(hs).eb hG (i:=i) (by omega);refine aSu 4 5 16 [(5,vI (i:Int)),(11,.func (.func f) #[] caps),(15,vS y5)] #[9] (K:=fun u w9=>u=vB (q i)∧I (i+1) w9∧Fr G w2 w9) (by decide) (fc (ix 27 cap q5 (gl hy5)) (fc (ld0 9 hM (r5 0 _ rfl) n5) f0)) eg ((step i y5 _ hy5 hq hI hM.fr).mono fun e w9 h=>⟨_,h.1,rfl,h.2⟩) fun u w1 ⟨hu,hI,f1⟩=>?_;subst hu;have hM:=hM.g f1;cases h6:(q i)
   ·refine seg 2 0 [(8,vI ((i:Int)+1))] (fc (aAh (i:Int) 1 u3_) f0) (aAb _ (ih2 _ (by omega) (i+1) _ (gl hy5) (fun j hj=>by rcases Nat.lt_succ_iff_lt_or_eq.1 hj with h | h;exact hq j h;rw [h];exact h6) hI hM rfl))
   exact rt1 4 (vI (i:Int)) rfl f0 (hΦ _ _ ⟨⟨_,rfl,.some i (gl hy5) h6 hq hI⟩,hM.fr⟩)
  exact aAb _ (lp1 _ 0 _ (Nat.zero_le _) (fun _ h=>absurd h (Nat.not_lt_zero _)) h0 hM rfl)
abbrev A88 (Φ:Ending→World→Prop):=AtO Tryz.prog (aAr Tryz.f80) (aA2 (bodyPost Tryz.prog Tryz.f80 Φ)) [] 19
theorem aGl {w:World}{B:Nat}{p:Option Addr}{cap:Nat}{L:List ObR}{f:FuncId}{caps:Array Value}{G:Nat→Prop}(hs:SrcB obL 6 w B p cap L) (hG:∀ k,G k→B≤k) (eg:aEM Tryz.prog f) (I:Nat→World→Prop) (q:Nat→Bool) (h0:I 0 w) (step:∀ i x w1,L[i]?=some x→(∀ j,j<i→q j=false)→I i w1→Fr G w w1→Calls Tryz.prog f (#[vA (obL x)]++caps) w1 fun e w2=>e = .returned (vB (q i))∧I (i+1) w2∧Fr G w1 w2):Calls Tryz.prog 80 #[vL p L.length cap,.func (.func f) #[] caps] w fun e w'=>(∃ z,e = .returned (vI z)∧Fst L q I w' z)∧Fr G w w':=by
  have bb:=hs.bnd;refine beg Tryz.func80 rfl rfl [(0,vL p L.length cap),(1,.func (.func f) #[] caps)] rfl rfl fun Φ hΦ=>?_;have hM:=Mm.nil G w;refine seg 2 0 [(7,vI (L.length:Int)),(8,vI 0)] f0 ?_
  have lp7:∀ (m9:Nat) (i:Nat) (w2:World),i≤L.length→(∀ j,j<i→q j=false)→I i w2→Mm G w w2 []→m9=L.length-i→A88 Φ (some (2,0)) [(8,vI (i:Int)),(7,vI (L.length:Int)),(0,vL p L.length cap),(1,.func (.func f) #[] caps)] w2:=by
   refine aBh fun m9 ih8 i w2 hi hq hI hM hm9=>seg 2 1 [(9,vB (decide ((i:Int)<(L.length:Int))))] f0 ?_;cases h10:(decide ((i:Int)<(L.length:Int)))
   ·have ab:=df h10;exact rt1 4 (vI (-1)) rfl f0 (hΦ _ _ ⟨⟨_,rfl,.end_ (by omega) hq hI⟩,hM.fr⟩)
   have ab:=dt h10;obtain ⟨y11,aa,ad,ae,q11,ac,n11⟩:=(hs).eb hG (i:=i) (by omega);refine aSu 4 5 16 [(5,vI (i:Int)),(11,.func (.func f) #[] caps),(15,.agg #[vS y11.o.id,vI y11.o.kind,vI y11.o.x,vI y11.o.y,vL y11.pr y11.o.refs.length y11.cr,vL y11.pt y11.o.tags.length y11.ct])] #[52] (K:=fun u w9=>u=vB (q i)∧I (i+1) w9∧Fr G w2 w9) (by decide) (fc (ix 22 cap q11 (gl aa)) (fc (la0 52 hM ac n11) f0)) eg ((step i y11 _ aa hq hI hM.fr).mono fun e w9 h=>⟨_,h.1,rfl,h.2⟩) fun u w1 ⟨hu,hI,f1⟩=>?_;subst hu;have hM:=hM.g f1;cases h12:(q i)
   ·refine seg 2 0 [(8,vI ((i:Int)+1))] (fc (aAh (i:Int) 1 u3_) f0) (aAb _ (ih8 _ (by omega) (i+1) _ (gl aa) (fun j hj=>by rcases Nat.lt_succ_iff_lt_or_eq.1 hj with h | h;exact hq j h;rw [h];exact h12) hI hM rfl))
   exact rt1 4 (vI (i:Int)) rfl f0 (hΦ _ _ ⟨⟨_,rfl,.some i (gl aa) h12 hq hI⟩,hM.fr⟩)
  exact aAb _ (lp7 _ 0 _ (Nat.zero_le _) (fun _ h=>absurd h (Nat.not_lt_zero _)) h0 hM rfl)
theorem aHX {w:World}{B:Nat}{p:Option Addr}{cap:Nat}{L:List Bys}{f:FuncId}{caps:Array Value}{G:Nat→Prop}(hs:SrcB stL 1 w B p cap L) (hG:∀ k,G k→B≤k) (eg:aEM Tryz.prog f) (I:Nat→World→Prop) (q:Nat→Bool) (h0:I 0 w) (step:∀ i x w1,L[i]?=some x→(∀ j,j<i→q j=false)→I i w1→Fr G w w1→Calls Tryz.prog f (#[vS x]++caps) w1 fun e w2=>e = .returned (vB (q i))∧I (i+1) w2∧Fr G w1 w2):Calls Tryz.prog 35 #[vL p L.length cap,.func (.func f) #[] caps] w fun e w'=>(∃ z,e = .returned (vB (decide (0≤z)))∧Fst L q I w' z)∧Fr G w w':=by
  refine beg Tryz.func35 rfl rfl [(0,vL p L.length cap),(1,.func (.func f) #[] caps)] rfl rfl fun Φ hΦ=>?_;have hM:=Mm.nil G w;refine cal 1 2 7 [(5,vL p L.length cap),(6,.func (.func f) #[] caps)] (K:=fun u w8=>∃ z,u=vI z∧Fst L q I w8 z∧Fr G w w8) f0 ((aK7 hs hG eg I q h0 step).mono fun e w9 h=>⟨_,h.1.choose_spec.1,_,rfl,h.1.choose_spec.2,h.2⟩) fun u w1 ⟨z,hu,hz,f1⟩=>?_;subst hu;have hM:=hM.g f1;exact rt1 4 (vB (decide (0≤z))) rfl f0 (hΦ _ _ ⟨⟨_,rfl,hz⟩,hM.fr⟩)
def aDL (k:Int):Bys:=if k<0∨6≤k then [] else [[],[110,111,100,101],[119,97,121],[97,114,101,97],[114,111,117,116,101],[116,117,114,110]].getD k.toNat []
def aGk (k:Int):Int:=[0,0,2,3,1,3].getD k.toNat 0
def onB (x y:Int):Bool:=decide (0≤x)&&decide (x<1048576)&&decide (0≤y)&&decide (y<1048576)
theorem six {k:Int}(h0:¬ k<0) (h1:¬ 6≤k):∃ i:Nat,k=(i:Int)∧i<6:=⟨k.toNat,by omega,by omega⟩
theorem aSG {i:Nat}(h:i<6):(#[vS [],vS [110,111,100,101],vS [119,97,121],vS [97,114,101,97],vS [114,111,117,116,101],vS [116,117,114,110]]:Array Value)[i]?=some (vS (aDL (i:Int))):=by
  match i,h with
  | 0,_=>rfl
  | 1,_=>rfl
  | 2,_=>rfl
  | 3,_=>rfl
  | 4,_=>rfl
  | 5,_=>rfl
theorem aRY {i:Nat}(h:i<6):(#[vI 0,vI 0,vI 2,vI 3,vI 1,vI 3]:Array Value)[i]?=some (vI (aGk (i:Int))):=by
  match i,h with
  | 0,_=>rfl
  | 1,_=>rfl
  | 2,_=>rfl
  | 3,_=>rfl
  | 4,_=>rfl
  | 5,_=>rfl
theorem aCo (k:Int) (w:World):Calls Tryz.prog 125 #[vI k] w fun e w'=>e = .returned (vS (aDL k))∧Fr (fun _=>False) w w':=by
  refine beg Tryz.func125 rfl rfl [(0,vI k)] rfl rfl fun Φ hΦ=>?_;have hM:=Mm.nil (fun _=>False) w;refine aBD 1 1 3 [(4,.agg #[vS [],vS [110,111,100,101],vS [119,97,121],vS [97,114,101,97],vS [114,111,117,116,101],vS [116,117,114,110]])] [] 297 (.agg #[vS [],vS [110,111,100,101],vS [119,97,121],vS [97,114,101,97],vS [114,111,117,116,101],vS [116,117,114,110]]) f0 hM fun aa w1 hM=>seg 2 3 [(7,vB (decide (k<0)))] f0 ?_;cases h14:(decide (k<0))
  rotate_left
  ·have ab:=dt h14;exact rt1 2 (vS []) rfl f0 (hΦ _ _ ⟨by unfold aDL;rw [if_pos (by omega)],hM.fr⟩)
  have ab:=df h14;refine seg 2 6 [(10,vB (decide (6≤k)))] f0 ?_;cases h15:(decide (6≤k))
  ·have ac:=df h15;obtain ⟨i,hk,hi⟩:=six (k:=k) (by omega) (by omega);subst hk;exact rt1 2 (vS (aDL (i:Int))) rfl (fc (aEg 297 6 .i64 aa 0 i hi) (fc (ldt 9 0 hM rfl (aSG hi)) f0)) (hΦ _ _ ⟨rfl,hM.fr⟩)
  have ac:=dt h15;exact rt1 2 (vS []) rfl f0 (hΦ _ _ ⟨by unfold aDL;rw [if_pos (by omega)],hM.fr⟩)
theorem aFq (k:Int) (h0:¬ k<0) (h1:¬ 6≤k) (w:World):Calls Tryz.prog 127 #[vI k] w fun e w'=>e = .returned (vI (aGk k))∧Fr (fun _=>False) w w':=by
  obtain ⟨i,hk,hi⟩:=six (k:=k) (by omega) (by omega);subst hk;refine beg Tryz.func127 rfl rfl [(0,vI (i:Int))] rfl rfl fun Φ hΦ=>?_;have hM:=Mm.nil (fun _=>False) w;exact rt1 2 (vI (aGk (i:Int))) rfl (fc (ixv 298 6 (kd := .i64) (aRY hi) rfl) f0) (hΦ _ _ ⟨rfl,hM.fr⟩)
theorem aO9 (a b:Int) (w:World):Calls Tryz.prog 129 #[.agg #[vI a,vI b]] w fun e w'=>e = .returned (vB (onB a b))∧Fr (fun _=>False) w w':=by
  refine beg Tryz.func129 rfl rfl [(0,.agg #[vI a,vI b])] rfl rfl fun Φ hΦ=>?_;have hM:=Mm.nil (fun _=>False) w;refine aAn 0 0 1 [] (cs:=#[vI a,vI b]) (T:=41) (v:=fun b=>vP b 0) f0 hM fun ad w1 hM=>seg 1 4 [(6,vB (decide (0≤a)))] (fc (ldm 3 0 0 hM rfl rfl) f0) ?_;cases h17:(decide (0≤a))
  ·have aa:=df h17;exact rt1 2 (vB false) rfl f0 (hΦ _ _ ⟨by unfold onB;simp [h17],hM.fr⟩)
  have aa:=dt h17;refine seg 1 9 [(11,vB (decide (a<1048576)))] (fc (ldm 3 0 0 hM rfl rfl) f0) ?_;cases h18:(decide (a<1048576))
  ·have ab:=df h18;exact rt1 2 (vB false) rfl f0 (hΦ _ _ ⟨by unfold onB;simp [h17,h18],hM.fr⟩)
  have ab:=dt h18;refine seg 1 14 [(16,vB (decide (0≤b)))] (fc (ldm 3 0 1 hM rfl rfl) f0) ?_;cases h19:(decide (0≤b))
  ·have ac:=df h19;exact rt1 2 (vB false) rfl f0 (hΦ _ _ ⟨by unfold onB;simp [h17,h18,h19],hM.fr⟩)
  have ac:=dt h19;exact rt1 2 (vB (decide (b<1048576))) rfl (fc (ldm 3 0 1 hM rfl rfl) f0) (hΦ _ _ ⟨by unfold onB;simp [h17,h18,h19],hM.fr⟩)
def aL1:Bys→List Tag→Bool
  | _,[]=>true
  | k,t::l=>aBu t.1&&blt k t.1&&(!(t.2==[]))&&decide ((t.2.length:Int)≤200)&&aL1 t.1 l
def aG3 (l:List Tag):Bool:=aL1 [] l&&decide ((l.length:Int)≤60)
abbrev A81 (Φ:Ending→World→Prop):=AtO Tryz.prog (aAr Tryz.f126) (aA2 (bodyPost Tryz.prog Tryz.f126 Φ)) [] 39
theorem aCl {w:World}{v:Value}{l:List Tag}(hl:TgV w v l) (hb:∀ t∈l,B63 t.1∧B63 t.2):Calls Tryz.prog 126 #[v] w fun e w'=>e = .returned (vB (aG3 l))∧Fr (fun _=>False) w w':=by
  obtain ⟨p0,cp0,hp0,sp0⟩:=hl.op;subst hp0;have bp0:=sp0.bnd;refine beg Tryz.func126 rfl rfl [(0,vL p0 l.length cp0)] rfl rfl fun Φ hΦ=>?_;have hM:=Mm.nil (fun _=>False) w;refine seg 3 0 [(3,vS []),(6,vL p0 l.length cp0),(7,vI (l.length:Int)),(8,vI 0)] f0 ?_
  have ab:∀ (aa:Nat) (i:Nat) (k:Bys) (w2:World),i≤l.length→aL1 [] l=aL1 k (l.drop i)→Mm (fun _=>False) w w2 []→aa=l.length-i→A81 Φ (some (3,0)) [(8,vI (i:Int)),(7,vI (l.length:Int)),(6,vL p0 l.length cp0),(3,vS k),(0,vL p0 l.length cp0)] w2:=by
   refine aBh fun aa ac i k w2 hi hv hM ah=>seg 3 1 [(9,vB (decide ((i:Int)<(l.length:Int))))] f0 ?_;cases h23:(decide ((i:Int)<(l.length:Int)))
   ·have ad:=df h23;exact rt1 2 (vB (decide ((l.length:Int)≤60))) rfl f0 (hΦ _ _ ⟨by unfold aG3;rw [hv,List.drop_of_length_le (by omega)];rfl,hM.fr⟩)
   have ad:=dt h23;obtain ⟨y,hy,ai,aj,q24,ae⟩:=sp0.el (i:=i) (by omega);refine aBD 4 2 5 [(11,.agg #[vS y.1,vS y.2])] [] 54 (.agg #[vS y.1,vS y.2]) (fc (ix 50 cp0 q24 (gl hy)) (fc (la0 54 hM ae) f0)) hM fun ak w1 hM=>aAq 5 2 14 [(13,vS y.1)] (fc (ldm 9 0 0 hM rfl rfl) f0) hM (aAy (hb _ (gm hy)).1 _) fun w1 hM=>seg 5 5 [(16,vB (!(aBu y.1)))] f0 ?_;cases h26:(aBu y.1)
   ·exact rt1 2 (vB false) rfl f0 (hΦ _ _ ⟨by unfold aG3;rw [hv,gd hy,aL1];simp [h26];try omega,hM.fr⟩)
   refine seg 5 11 [(22,vB (!(blt k y.1)))] (fc (ldm 9 0 0 hM rfl rfl) (fc (sle 9 y.1 k) f0)) ?_;cases h27:(blt k y.1)
   ·exact rt1 2 (vB false) rfl f0 (hΦ _ _ ⟨by unfold aG3;rw [hv,gd hy,aL1];simp [h26,h27];try omega,hM.fr⟩)
   refine seg 5 16 [(27,vB (y.2==[]))] (fc (ldm 9 0 1 hM rfl rfl) (fc (seq 9 y.2 []) f0)) ?_;cases h28:(y.2==[])
   rotate_left
   ·have af:=et h28;exact rt1 2 (vB false) rfl f0 (hΦ _ _ ⟨by unfold aG3;rw [hv,gd hy,aL1];simp [h26,h27,h28];try omega,hM.fr⟩)
   have af:=ef h28;refine seg 5 21 [(32,vB (decide (200<(y.2.length:Int))))] (fc (ldm 9 0 1 hM rfl rfl) (fc (aGz 9 y.2) f0)) ?_;cases h29:(decide (200<(y.2.length:Int)))
   ·have ag:=df h29;refine seg 3 0 [(3,vS y.1),(8,vI ((i:Int)+1))] (fc (ldm 9 0 0 hM rfl rfl) (fc (aAh (i:Int) 1 u3_) f0)) (aAb _ (ac _ (by omega) (i+1) y.1 _ (gl hy) (by rw [hv,gd hy,aL1];simp [h26,h27,h28,h29];omega) (hM.pick []) rfl))
   have ag:=dt h29;exact rt1 2 (vB false) rfl f0 (hΦ _ _ ⟨by unfold aG3;rw [hv,gd hy,aL1];simp [h26,h27,h28,h29];try omega,hM.fr⟩)
  exact aAb _ (ab _ 0 [] _ (Nat.zero_le _) rfl hM rfl)
def aKj (S:List Bys):Value→Option Value
  | .string s=>if s.toList∈S then some (vB true) else none
  | _=>none
theorem aH2 (S:List Bys) (x:Bys):((aKj S) (vS x)).getD (vB false)=vB (S.contains x):=by
  show (if (ofL x).toList∈S then some (vB true) else none).getD (vB false)=_;rw [aAA]
  by_cases h:x∈S<;>simp [h]
theorem aDU (S:List Bys) (x:Bys):upd (aKj S) (vS x) (vB true)=aKj (S++[x]):=by
  funext v
  by_cases h:v=vS x
  · subst h;rw [aBI];show _=if (ofL x).toList∈S++[x] then some (vB true) else none
    rw [aAA,if_pos (by simp)]
  · rw [aBs _ h]
    cases v with
    | string s =>
      show (if s.toList∈S then some (vB true) else none)=if s.toList∈S++[x] then some (vB true) else none
      have:s.toList≠x:=fun e=>h (by rw [←e,vS,aJ7])
      by_cases h2:s.toList∈S<;>simp [h2,this]
    | _=>rfl
theorem aNZ:aKj []=fun _=>none:=by
  funext v;cases v<;>simp [aKj]
theorem aN1 (w:World):(zeroValue 4).run Tryz.prog w = .ok (vB false) w:=by kernel_rfl
def aDJ (kind:Int) (last:Bys) (S:List Bys) (s:Bys):Bool:=((kind==2)&&(s==last))||((kind==3)&&S.contains s) || !(aBu s)
def aGq (o:Ob) (i:Nat):Bool:=match o.refs[i]? with
  | some s=>aDJ o.kind ((o.refs.take i).getLast?.getD []) (o.refs.take i) s
  | none=>false
theorem aIr {w:World}{G:Nat→Prop}{bo bl bs bm n:Nat}{b:ObR}{last:Bys}{S:List Bys}{s:Bys}(hs:B63 s) (hM0:Mm G w w [bk bo #[vS b.o.id,vI b.o.kind,vI b.o.x,vI b.o.y,vL b.pr b.o.refs.length b.cr,vL b.pt b.o.tags.length b.ct] 52,bk bl #[vS last] 9,bk bs #[.map (some bm)] 247,mp Tryz.prog 9 bm n (aKj S)]):Calls Tryz.prog 128 #[vS s,vP bo 0,vP bl 0,vP bs 0] w fun e w'=>e = .returned (vB (aDJ b.o.kind last S s))∧Mm G w w' [bk bo #[vS b.o.id,vI b.o.kind,vI b.o.x,vI b.o.y,vL b.pr b.o.refs.length b.cr,vL b.pt b.o.tags.length b.ct] 52,bk bl #[vS s] 9,bk bs #[.map (some bm)] 247,mp Tryz.prog 9 bm (n+1) (aKj (S++[s]))]:=by
  refine beg Tryz.func128 rfl rfl [(0,vS s),(1,vP bo 0),(2,vP bl 0),(3,vP bs 0)] rfl rfl fun Φ hΦ=>?_;have hM:=hM0;refine seg 1 4 [(10,vB (b.o.kind==2))] (fc (ldm 3 0 1 hM rfl rfl) f0) ?_;cases h30:(b.o.kind==2)
  ·have aa:=ef h30;refine seg 1 13 [(15,vB false),(19,vB (b.o.kind==3))] (fc (ldm 3 0 1 hM rfl rfl) f0) ?_;cases h31:(b.o.kind==3)
   ·have ab:=ef h31;refine mup 2 3 [(6,vB false),(25,.map (some bm)),(26,vS s),(27,vS s)] 247 3 (vS s) (vB true) (fc (ldm 247 2 0 hM rfl rfl) f0) hM rfl aDw u247_ (aDx hs) fun w1 hM=>?_;rw [aDU] at hM;refine stm 2 4 [] 9 1 0 (vS s) f0 hM rfl fun w1 hM=>aAq 3 3 31 [(29,vB false),(30,vS s)] f0 hM (aAy hs _) fun w1 hM=>rt1 5 (vB (!(aBu s))) rfl f0 (hΦ _ _ ⟨by unfold aDJ;simp only [h30,h31]<;>rfl,hM⟩)
   have ab:=et h31;refine mup 2 3 [(6,vB (S.contains s)),(25,.map (some bm)),(26,vS s),(27,vS s)] 247 3 (vS s) (vB true) (fc (ldm 247 2 0 hM rfl rfl) (fc (rz2 (lk 247 3 (vS s) (vB false) hM rfl aDw u247_ (aDx hs) (aN1 _)) (aH2 S s)) (fc (ldm 247 2 0 hM rfl rfl) f0))) hM rfl aDw u247_ (aDx hs) fun w1 hM=>?_;rw [aDU] at hM;refine stm 2 4 [] 9 1 0 (vS s) f0 hM rfl fun w1 hM=>seg 3 2 [(29,vB (S.contains s))] f0 ?_;cases h32:(S.contains s)
   ·refine aAq 3 3 31 [(30,vS s)] f0 hM (aAy hs _) fun w1 hM=>rt1 5 (vB (!(aBu s))) rfl f0 (hΦ _ _ ⟨by unfold aDJ;simp only [h30,h31,h32]<;>rfl,hM⟩)
   exact rt1 5 (vB true) rfl f0 (hΦ _ _ ⟨by unfold aDJ;simp only [h30,h31,h32]<;>rfl,hM⟩)
  have aa:=et h30;refine seg 1 9 [(15,vB (s==last))] (fc (ldm 9 1 0 hM rfl rfl) (fc (seq 9 s last) f0)) ?_;cases h33:(s==last)
  rotate_left
  ·have ac:=et h33;refine mup 2 3 [(6,vB true),(25,.map (some bm)),(26,vS s),(27,vS s)] 247 3 (vS s) (vB true) (fc (ldm 247 2 0 hM rfl rfl) f0) hM rfl aDw u247_ (aDx hs) fun w1 hM=>?_;rw [aDU] at hM;refine stm 2 4 [] 9 1 0 (vS s) f0 hM rfl fun w1 hM=>rt1 5 (vB true) rfl f0 (hΦ _ _ ⟨by unfold aDJ;simp only [h30,h33]<;>rfl,hM⟩)
  have ac:=ef h33;refine seg 1 13 [(19,vB (b.o.kind==3))] (fc (ldm 3 0 1 hM rfl rfl) f0) ?_;cases h34:(b.o.kind==3)
  ·have ad:=ef h34;refine mup 2 3 [(6,vB false),(25,.map (some bm)),(26,vS s),(27,vS s)] 247 3 (vS s) (vB true) (fc (ldm 247 2 0 hM rfl rfl) f0) hM rfl aDw u247_ (aDx hs) fun w1 hM=>?_;rw [aDU] at hM;refine stm 2 4 [] 9 1 0 (vS s) f0 hM rfl fun w1 hM=>aAq 3 3 31 [(29,vB false),(30,vS s)] f0 hM (aAy hs _) fun w1 hM=>rt1 5 (vB (!(aBu s))) rfl f0 (hΦ _ _ ⟨by unfold aDJ;simp only [h30,h33,h34]<;>rfl,hM⟩)
  have ad:=et h34;refine mup 2 3 [(6,vB (S.contains s)),(25,.map (some bm)),(26,vS s),(27,vS s)] 247 3 (vS s) (vB true) (fc (ldm 247 2 0 hM rfl rfl) (fc (rz2 (lk 247 3 (vS s) (vB false) hM rfl aDw u247_ (aDx hs) (aN1 _)) (aH2 S s)) (fc (ldm 247 2 0 hM rfl rfl) f0))) hM rfl aDw u247_ (aDx hs) fun w1 hM=>?_;rw [aDU] at hM;refine stm 2 4 [] 9 1 0 (vS s) f0 hM rfl fun w1 hM=>seg 3 2 [(29,vB (S.contains s))] f0 ?_;cases h35:(S.contains s)
  ·refine aAq 3 3 31 [(30,vS s)] f0 hM (aAy hs _) fun w1 hM=>rt1 5 (vB (!(aBu s))) rfl f0 (hΦ _ _ ⟨by unfold aDJ;simp only [h30,h33,h34,h35]<;>rfl,hM⟩)
  exact rt1 5 (vB true) rfl f0 (hΦ _ _ ⟨by unfold aDJ;simp only [h30,h33,h34,h35]<;>rfl,hM⟩)
def aFg (o:Ob):Bool:=(List.range o.refs.length).all fun i => !aGq o i
def aAG (o:Ob):Bool:=(!(aDL o.kind==[]))&&aBu o.id&&aG3 o.tags&&(!decide ((o.refs.length:Int)<aGk o.kind))&&(!decide (2000<(o.refs.length:Int)))&&aFg o &&
  (bif o.kind==1 then ((o.refs.length:Int)==0)&&onB o.x o.y else bif o.kind==5 then ((o.refs.length:Int)==3)&&((o.x==0)&&(o.y==0)) else ((o.x==0)&&(o.y==0)))
theorem aN5 {k:Int}(h:(aDL k==[])=false):¬ k<0∧¬ 6≤k:=by
  unfold aDL at h
  by_cases e:k<0∨6≤k
  · rw [if_pos e] at h;simp at h
  · exact ⟨fun z=>e (.inl z),fun z=>e (.inr z)⟩
theorem aM1 {L:List Bys}{i:Nat}{x:Bys}(h:L[i]?=some x):((L.take (i+1)).getLast?.getD [])=x:=by rw [gt_ h];simp
theorem peq (T:TypeId) (a b c d:Int) {w:World}(hT:T=41:=by rfl):Ft.ok Tryz.prog w (.g2 (fun x y => .binOp .eql T x y T) (.agg #[vI a,vI b]) (.agg #[vI c,vI d]) (vB ((a==c)&&(b==d)))):=fun o ρ x y ho hx hy=>by
  subst hT;simp [execOp,ho,hx,hy,go_sem]
  by_cases h1:a=c<;>by_cases h2:b=d<;>simp [h1,h2]
theorem aQl {w:World}{B:Nat}{G:Nat→Prop}{bo bl bs bm:Nat}{b:ObR}(hs:SrcB stL 1 w B b.pr b.cr b.o.refs) (hB:ObB b.o) (hG:∀ k,G k→B≤k) (hGm:∀ k,k=bo∨k=bl∨k=bs∨k=bm→G k)
    (hM:Mm G w w [bk bo (obL b).toArray 52,bk bl #[vS []] 9,bk bs #[.map (some bm)] 247,mp Tryz.prog 9 bm 0 (aKj [])]) :
    Calls Tryz.prog 35 #[vL b.pr b.o.refs.length b.cr,.func (.func 128) #[] #[vP bo 0,vP bl 0,vP bs 0]] w fun e w'=>e = .returned (vB (!(aFg b.o)))∧∃ n last S,Mm G w w' [bk bo (obL b).toArray 52,bk bl #[vS last] 9,bk bs #[.map (some bm)] 247,mp Tryz.prog 9 bm n (aKj S)]:=by
  refine (aHX hs hG (enters_of Tryz.func128 (by kernel_rfl) rfl) (fun i w'=>Mm G w w' [bk bo (obL b).toArray 52,bk bl #[vS ((b.o.refs.take i).getLast?.getD [])] 9,bk bs #[.map (some bm)] 247,mp Tryz.prog 9 bm i (aKj (b.o.refs.take i))]) (aGq b.o) hM fun i x w1 hx hq hI f1=>?_).mono fun e w' h=>?_
  · refine (aIr (hB.refs x (gm hx)) (hI.re fun e he k hk=>hGm k ?_)).mono fun e w2 h=>⟨?_,?_,h.2.fr⟩
    · simp only [List.mem_cons,List.not_mem_nil,or_false] at he
      rcases he with rfl | rfl | rfl | rfl
      · exact .inl hk
      · exact .inr (.inl hk)
      · exact .inr (.inr (.inl hk))
      · exact .inr (.inr (.inr hk))
    · rw [h.1];unfold aGq;rw [hx]
    · have:=hI.tr h.2
      rw [aM1 hx,gt_ hx];exact this
  · obtain ⟨⟨z,h1,h2⟩,h3⟩:=h
    subst h1
    have key:∀ i,i<b.o.refs.length→aGq b.o i=true→aFg b.o=false:=fun i hi hw=>by
      unfold aFg;rw [←Bool.not_eq_true,List.all_eq_true];intro h;have:=h i (List.mem_range.2 hi);rw [hw] at this;cases this
    cases h2 with
    | none hq hI=>exact ⟨by
        rw [show aFg b.o=true from List.all_eq_true.2 fun i hi=>by rw [hq i (List.mem_range.1 hi)];rfl];rfl,_,_,_,hI⟩
    | some i hi hw hq hI=>exact ⟨by rw [key i hi hw,decide_eq_true (by omega)];rfl,_,_,_,hI⟩
theorem aIw {w:World}{b:ObR}(hb:ObIn w b):Calls Tryz.prog 78 #[vA (obL b)] w fun e w'=>e = .returned (vB (aAG b.o))∧Fr (fun _=>False) w w':=by
  refine beg Tryz.func78 rfl rfl [(0,.agg #[vS b.o.id,vI b.o.kind,vI b.o.x,vI b.o.y,vL b.pr b.o.refs.length b.cr,vL b.pt b.o.tags.length b.ct])] rfl rfl fun Φ hΦ=>?_;have hM:=Mm.nil (fun _=>False) w;refine aAn 0 0 1 [] (cs:=#[vS b.o.id,vI b.o.kind,vI b.o.x,vI b.o.y,vL b.pr b.o.refs.length b.cr,vL b.pt b.o.tags.length b.ct]) (T:=52) (v:=fun b=>vP b 0) f0 hM fun ab w1 hM=>seg 1 0 [] f0 ?_;cases h37:((aDL b.o.kind)==[])
  rotate_left
  ·have ae:=et h37;refine drc [(36,vB true)] hM (fun w5 hM=>(fc (ldm 3 0 1 hM rfl rfl) (fc (tcl (aCo b.o.kind _)) (fc (rz (seq 9 (aDL b.o.kind) []) h37) f0)))) fun w5 hM=>rt1 2 (vB false) rfl f0 (hΦ _ _ ⟨by unfold aAG;simp only [h37]<;>rfl,hM.fr⟩)
  have ae:=ef h37;cases h38:(aBu b.o.id)
  ·refine drc [(36,vB true)] hM (fun w5 hM=>(fc (ldm 3 0 1 hM rfl rfl) (fc (tcl (aCo b.o.kind _)) (fc (rz (seq 9 (aDL b.o.kind) []) h37) (fc (ldm 9 0 0 hM rfl rfl) (fc (rzc (tcl (aAy hb.bnd.id _)) h38) f0)))))) fun w5 hM=>rt1 2 (vB false) rfl f0 (hΦ _ _ ⟨by unfold aAG;simp only [h37,h38]<;>rfl,hM.fr⟩)
  cases h39:(aG3 b.o.tags)
  ·refine drc [(36,vB true)] hM (fun w5 hM=>(fc (ldm 3 0 1 hM rfl rfl) (fc (tcl (aCo b.o.kind _)) (fc (rz (seq 9 (aDL b.o.kind) []) h37) (fc (ldm 9 0 0 hM rfl rfl) (fc (rzc (tcl (aAy hb.bnd.id _)) h38) (fc (ldm 50 0 5 hM rfl rfl) (fc (rzc (tcl (aCl (hb.tags.src.fr hM.fr) hb.bnd.tags)) h39) f0)))))))) fun w5 hM=>rt1 2 (vB false) rfl f0 (hΦ _ _ ⟨by unfold aAG;simp only [h37,h38,h39]<;>rfl,hM.fr⟩)
  cases h40:(decide ((b.o.refs.length:Int)<(aGk b.o.kind)))
  rotate_left
  ·have af:=dt h40;refine drc [(36,vB true)] hM (fun w5 hM=>(fc (ldm 3 0 1 hM rfl rfl) (fc (tcl (aCo b.o.kind _)) (fc (rz (seq 9 (aDL b.o.kind) []) h37) (fc (ldm 9 0 0 hM rfl rfl) (fc (rzc (tcl (aAy hb.bnd.id _)) h38) (fc (ldm 50 0 5 hM rfl rfl) (fc (rzc (tcl (aCl (hb.tags.src.fr hM.fr) hb.bnd.tags)) h39) (fc (ldm 27 0 4 hM rfl rfl) (fc (ldm 3 0 1 hM rfl rfl) (fc (tcl (aFq b.o.kind (aN5 h37).1 (aN5 h37).2 _)) (fc (tv 29 h40) f0)))))))))))) fun w5 hM=>rt1 2 (vB false) rfl f0 (hΦ _ _ ⟨by unfold aAG;simp only [h37,h38,h39,h40]<;>rfl,hM.fr⟩)
  have af:=df h40;refine drc [(36,vB (decide (2000<(b.o.refs.length:Int))))] hM (fun w5 hM=>(fc (ldm 3 0 1 hM rfl rfl) (fc (tcl (aCo b.o.kind _)) (fc (rz (seq 9 (aDL b.o.kind) []) h37) (fc (ldm 9 0 0 hM rfl rfl) (fc (rzc (tcl (aAy hb.bnd.id _)) h38) (fc (ldm 50 0 5 hM rfl rfl) (fc (rzc (tcl (aCl (hb.tags.src.fr hM.fr) hb.bnd.tags)) h39) (fc (ldm 27 0 4 hM rfl rfl) (fc (ldm 3 0 1 hM rfl rfl) (fc (tcl (aFq b.o.kind (aN5 h37).1 (aN5 h37).2 _)) (fc (tv 29 h40) (fc (ldm 27 0 4 hM rfl rfl) f0))))))))))))) fun w5 hM=>?_;cases h41:(decide (2000<(b.o.refs.length:Int)))
  rotate_left
  ·have ag:=dt h41;exact rt1 2 (vB false) rfl f0 (hΦ _ _ ⟨by unfold aAG;simp only [h37,h38,h39,h40,h41]<;>rfl,hM.fr⟩)
  have ag:=df h41;refine aFk 3 0 37 [] 9 f0 hM fun aa w1 hM=>aBD 3 1 3 [] [] 247 (.map (some aa)) f0 hM fun ac w1 hM=>aBD 4 0 4 [] [] 9 (vS []) f0 hM fun ad w1 hM=>?_;have hM4:Mm (fun _=>False) w _ [bk ab (obL b).toArray 52,bk ad #[vS []] 9,bk ac #[.map (some aa)] 247,mp Tryz.prog 9 aa 0 (aKj [])]:=(hM.pick [0,3,2,1]).cast (by rw [aNZ];rfl);refine cal 6 3 42 [(40,vL b.pr b.o.refs.length b.cr),(41,.func (.func 128) #[] #[vP ab 0,vP ad 0,vP ac 0])] (K:=fun u w8=>u=vB (!(aFg b.o))∧∃ n last S,Mm (BlM [bk ab (obL b).toArray 52,bk ad #[vS []] 9,bk ac #[.map (some aa)] 247,mp Tryz.prog 9 aa 0 (aKj [])]) _ w8 [bk ab (obL b).toArray 52,bk ad #[vS last] 9,bk ac #[.map (some aa)] 247,mp Tryz.prog 9 aa n (aKj S)]) (fc (ldm 27 0 4 hM rfl rfl) f0) ((aQl (hb.refs.b hM.fr) hb.bnd (fun k ⟨e,he,hk⟩=>hM4.ge he hk) (fun k h=>by rcases h with rfl | rfl | rfl | rfl;exact ⟨_,.head _,rfl⟩;exact ⟨_,.tail _ (.head _),rfl⟩;exact ⟨_,.tail _ (.tail _ (.head _)),rfl⟩;exact ⟨_,.tail _ (.tail _ (.tail _ (.head _))),rfl⟩) (hM4.re fun e he k hk=>⟨e,he,hk⟩)).mono fun e w9 h=>⟨_,h.1,rfl,h.2⟩) fun u w1 ⟨hu,n1,l1,S1,hM5⟩=>?_;subst hu;have hM:=hM4.call (A:=[]) hM5 (fun _ _ h=>h);cases h45:(aFg b.o)
  ·exact rt1 2 (vB false) rfl f0 (hΦ _ _ ⟨by unfold aAG;simp only [h37,h38,h39,h40,h41,h45]<;>rfl,hM.fr⟩)
  refine seg 9 2 [(44,vI b.o.kind),(45,vB (b.o.kind==1))] (fc (ldm 3 0 1 hM rfl rfl) f0) ?_;cases h46:(b.o.kind==1)
  rotate_left
  ·have ah:=et h46;refine seg 10 5 [(51,vB ((b.o.refs.length:Int)==0))] (fc (ldm 27 0 4 hM rfl rfl) f0) ?_;cases h49:((b.o.refs.length:Int)==0)
   ·have ai:=ef h49;exact rt1 2 (vB false) rfl f0 (hΦ _ _ ⟨by unfold aAG;simp only [h37,h38,h39,h40,h41,h45,h46,h49]<;>rfl,hM.fr⟩)
   have ai:=et h49;refine aAq 10 7 54 [(53,.agg #[vI b.o.x,vI b.o.y])] (fc (lam 41 0 2 2 hM rfl) f0) hM (aO9 b.o.x b.o.y _) fun w1 hM=>rt1 2 (vB (onB b.o.x b.o.y)) rfl f0 (hΦ _ _ ⟨by unfold aAG;simp only [h37,h38,h39,h40,h41,h45,h46,h49]<;>rfl,hM.fr⟩)
  have ah:=ef h46;refine seg 11 2 [(56,vB (b.o.kind==5))] f0 ?_;cases h47:(b.o.kind==5)
  ·have aj:=ef h47;exact rt1 2 (vB ((b.o.x==0)&&(b.o.y==0))) rfl (fc (lam 41 0 2 2 hM rfl) (fc (peq 41 b.o.x b.o.y 0 0) f0)) (hΦ _ _ ⟨by unfold aAG;simp only [h37,h38,h39,h40,h41,h45,h46,h47]<;>rfl,hM.fr⟩)
  have aj:=et h47;refine seg 12 5 [(62,vB ((b.o.refs.length:Int)==3))] (fc (ldm 27 0 4 hM rfl rfl) f0) ?_;cases h48:((b.o.refs.length:Int)==3)
  ·have ak:=ef h48;exact rt1 2 (vB false) rfl f0 (hΦ _ _ ⟨by unfold aAG;simp only [h37,h38,h39,h40,h41,h45,h46,h47,h48]<;>rfl,hM.fr⟩)
  have ak:=et h48;exact rt1 2 (vB ((b.o.x==0)&&(b.o.y==0))) rfl (fc (lam 41 0 2 2 hM rfl) (fc (peq 41 b.o.x b.o.y 0 0) f0)) (hΦ _ _ ⟨by unfold aAG;simp only [h37,h38,h39,h40,h41,h45,h46,h47,h48]<;>rfl,hM.fr⟩)
def aMw:Bys→List Ob→Bool
  | _,[]=>true
  | k,o::l=>aAG o&&blt k o.id&&aMw o.id l
def aAe (l:List Ob):Bool:=aMw [] l&&decide ((l.length:Int)≤1000000)
abbrev A20 (Φ:Ending→World→Prop):=AtO Tryz.prog (aAr Tryz.f32) (aA2 (bodyPost Tryz.prog Tryz.f32 Φ)) [] 29
theorem aB5 {w:World}{v:Value}{l:List ObR}(hm:aDy w v l):Calls Tryz.prog 32 #[.agg #[v]] w fun e w'=>e = .returned (vB (aAe (aAa l)))∧Fr (fun _=>False) w w':=by
  have hm0:=hm;obtain ⟨hs0,hob⟩:=hm0;obtain ⟨p0,cp0,hp0,sp0⟩:=hs0.op;subst hp0;have bp0:=sp0.bnd;refine beg Tryz.func32 rfl rfl [(0,.agg #[vL p0 l.length cp0])] rfl rfl fun Φ hΦ=>?_;have hM:=Mm.nil (fun _=>False) w;refine aAn 0 0 1 [] (cs:=#[vL p0 l.length cp0]) (T:=24) (v:=fun b=>vP b 0) f0 hM fun b1 w1 hM=>seg 3 0 [(3,vS []),(7,vL p0 l.length cp0),(8,vI (l.length:Int)),(9,vI 0)] (fc (ldm 22 0 0 hM rfl rfl) f0) ?_
  have lp2:∀ (m4:Nat) (i:Nat) (k:Bys) (w2:World),i≤l.length→aMw [] (aAa l)=aMw k ((aAa l).drop i)→Mm (fun _=>False) w w2 [bk b1 #[vL p0 l.length cp0] 24]→m4=l.length-i→A20 Φ (some (3,0)) [(9,vI (i:Int)),(8,vI (l.length:Int)),(7,vL p0 l.length cp0),(3,vS k),(1,vP b1 0)] w2:=by
   refine aBh fun m4 ih3 i k w2 hi hv hM hm4=>seg 3 1 [(10,vB (decide ((i:Int)<(l.length:Int))))] f0 ?_;cases h5:(decide ((i:Int)<(l.length:Int)))
   ·have rh5:=df h5;exact rt1 2 (vB (decide ((l.length:Int)≤1000000))) rfl (fc (ldm 22 0 0 hM rfl rfl) f0) (hΦ _ _ ⟨by unfold aAe;rw [hv,List.drop_of_length_le (by rw [aA3];omega),aA3];rfl,hM.fr⟩)
   have rh5:=dt h5;obtain ⟨y,hy,g6,o6,q6,r6⟩:=sp0.el (i:=i) (by omega);refine aBD 4 2 5 [(12,.agg #[vS y.o.id,vI y.o.kind,vI y.o.x,vI y.o.y,vL y.pr y.o.refs.length y.cr,vL y.pt y.o.tags.length y.ct])] [] 52 (.agg #[vS y.o.id,vI y.o.kind,vI y.o.x,vI y.o.y,vL y.pr y.o.refs.length y.cr,vL y.pt y.o.tags.length y.ct]) (fc (ix 22 cp0 q6 (gl hy)) (fc (la0 52 hM r6) f0)) hM fun b7 w1 hM=>aAq 5 1 14 [(13,.agg #[vS y.o.id,vI y.o.kind,vI y.o.x,vI y.o.y,vL y.pr y.o.refs.length y.cr,vL y.pt y.o.tags.length y.ct])] (fc (lam 52 1 0 6 hM rfl) f0) hM (aIw ((hob _ (gm hy)).fr hM.fr)) fun w1 hM=>seg 5 4 [(16,vB (!(aAG y.o)))] f0 ?_;cases h8:(aAG y.o)
   ·exact rt1 2 (vB false) rfl f0 (hΦ _ _ ⟨by unfold aAe;rw [hv,gd (aA4 hy),aMw];simp only [h8]<;>rfl,hM.fr⟩)
   refine seg 5 9 [(21,vB (!(blt k y.o.id)))] (fc (ldm 9 1 0 hM rfl rfl) (fc (sle 9 y.o.id k) f0)) ?_;cases h9:(blt k y.o.id)
   ·exact rt1 2 (vB false) rfl f0 (hΦ _ _ ⟨by unfold aAe;rw [hv,gd (aA4 hy),aMw];simp only [h8,h9]<;>rfl,hM.fr⟩)
   refine seg 3 0 [(3,vS y.o.id),(9,vI ((i:Int)+1))] (fc (ldm 9 1 0 hM rfl rfl) (fc (aAh (i:Int) 1 u3_) f0)) (aAb _ (ih3 _ (by omega) (i+1) y.o.id _ (gl hy) (by rw [hv,gd (aA4 hy),aMw];simp only [h8,h9];rfl) (hM.pick [0]) rfl))
  exact aAb _ (lp2 _ 0 [] _ (Nat.zero_le _) rfl hM rfl)
theorem aRg (v c:Value):(#[v]++#[c]:Array Value)=#[v,c]:=rfl
def aAi (l:List Ob) (id:Bys):Int:=match l.findIdx? (fun o=>o.id==id) with
  | some i=>(i:Int)
  | none => -1
def aSe (l:List ObR) (id:Bys) (i:Nat):Bool:=match l[i]? with
  | some y=>y.o.id==id
  | none=>false
theorem aQI {l:List ObR}{id:Bys}{I:Nat→World→Prop}{w:World}{z:Int}(h:Fst l (aSe l id) I w z):z=aAi (aAa l) id:=by
  unfold aAi
  have hat:∀ i (hi:i<l.length),aSe l id i=(((aAa l)[i]'(by rw [aA3];exact hi)).id==id):=fun i hi=>by
    unfold aSe aAa;rw [List.getElem?_eq_getElem hi];simp
  cases h with
  | none hq _ =>
    rw [List.findIdx?_eq_none_iff.2 fun o ho=>?_];obtain ⟨i,hi,rfl⟩:=List.mem_iff_getElem.1 ho;have:=hq i (by rw [←aA3];exact hi);rw [hat i (by rw [←aA3];exact hi)] at this;exact this
  | some i hi hw hq _ =>
    rw [List.findIdx?_eq_some_iff_getElem.2 ⟨by rw [aA3];exact hi,by rw [←hat i hi];exact hw,fun j hj=>by rw [←hat j (by omega),hq j hj];simp⟩]
theorem aIN {w:World}{bi:Nat}{id:Bys}(b:ObR) (hc:w.heap[bi]?=some (.cells #[vS id] 9 (0,0))):Calls Tryz.prog 81 #[vA (obL b),vP bi 0] w fun e w'=>e = .returned (vB (b.o.id==id))∧Fr (fun _=>False) w w':=by
  refine beg Tryz.func81 rfl rfl [(0,.agg #[vS b.o.id,vI b.o.kind,vI b.o.x,vI b.o.y,vL b.pr b.o.refs.length b.cr,vL b.pt b.o.tags.length b.ct]),(1,vP bi 0)] rfl rfl fun Φ hΦ=>?_;have hM:=Mm.nil (fun _=>False) w;refine aAn 0 0 2 [] (cs:=#[vS b.o.id,vI b.o.kind,vI b.o.x,vI b.o.y,vL b.pr b.o.refs.length b.cr,vL b.pt b.o.tags.length b.ct]) (T:=52) (v:=fun b=>vP b 0) f0 hM fun aa w1 hM=>rt1 3 (vB (b.o.id==id)) rfl (fc (ldm 9 0 0 hM rfl rfl) (fc (ld0 9 hM (bx hc 0 rfl)) (fc (seq 9 b.o.id id) f0))) (hΦ _ _ ⟨rfl,hM.fr⟩)
theorem aC2 {w:World}{v:Value}{l:List ObR}(hm:aDy w v l) (id:Bys):Calls Tryz.prog 34 #[.agg #[v],vS id] w fun e w'=>e = .returned (vI (aAi (aAa l) id))∧Fr (fun _=>False) w w':=by
  have hm0:=hm;obtain ⟨hs0,hob⟩:=hm0;obtain ⟨p0,cp0,hp0,sp0⟩:=hs0.op;subst hp0;have bp0:=sp0.bnd;refine beg Tryz.func34 rfl rfl [(0,.agg #[vL p0 l.length cp0]),(1,vS id)] rfl rfl fun Φ hΦ=>?_;have hM:=Mm.nil (fun _=>False) w;refine aAn 0 0 2 [] (cs:=#[vL p0 l.length cp0]) (T:=24) (v:=fun b=>vP b 0) f0 hM fun ab w1 hM=>aAn 0 1 3 [] (cs:=#[vS id]) (T:=9) (v:=fun b=>vP b 0) f0 hM fun aa w1 hM=>?_;have hc1:w1.heap[aa]?=some (.cells #[vS id] 9 (0,0)):=hM.get 1 rfl;refine cal 1 3 8 [(6,vL p0 l.length cp0),(7,.func (.func 81) #[] #[vP aa 0])] (K:=fun u w8=>u=vI (aAi (aAa l) id)∧Fr (fun _=>False) _ w8) (fc (ldm 22 0 0 hM rfl rfl) f0) ((aGl (sp0.b hM.fr) (fun _ h=>h.elim) (enters_of Tryz.func81 (by kernel_rfl) rfl) (fun _ _=>True) (aSe l id) trivial (fun i x w9 hx _ _ f9=>by rw [aRg];exact (aIN x (f9.obj hc1 (fun z=>z))).mono fun e w8 h=>⟨by rw [h.1];unfold aSe;rw [hx],trivial,h.2⟩)).mono fun e w9 h=>⟨_,h.1.choose_spec.1,congrArg vI (aQI h.1.choose_spec.2),h.2⟩) fun u w1 ⟨hu,f1⟩=>?_;subst hu;have hM:=hM.q f1;exact rt1 4 (vI (aAi (aAa l) id)) rfl f0 (hΦ _ _ ⟨rfl,hM.fr⟩)
abbrev Pt:=Int×Int
def ptL (p:Pt):List Value:=[vI p.1,vI p.2]
def aCw (p:Pt):Bool := !(decide (2097152<max p.1 p.2)) && !(decide (min p.1 p.2 < -2097152))
def aCJ (a b:Pt):Int:=bif aCw a&&aCw b then (b.1-a.1)*(b.1-a.1)+(b.2-a.2)*(b.2-a.2) else 0
theorem aDp {p:Pt}(h:aCw p=true) : -2097152≤p.1∧p.1≤2097152 ∧ -2097152≤p.2∧p.2≤2097152:=by
  unfold aCw at h;simp only [Bool.and_eq_true,Bool.not_eq_true',decide_eq_false_iff_not] at h;omega
theorem aJs {x:Int}(h1 : -4194304≤x) (h2:x≤4194304):0≤x*x∧x*x≤17592186044416:=by
  rcases Int.le_total 0 x with h | h
  · have a:=Int.mul_le_mul h2 h2 h (by omega)
    have b:=Int.mul_nonneg h h;exact ⟨b,by omega⟩
  · have a:=Int.mul_le_mul (a := -x) (b := -x) (c:=4194304) (d:=4194304) (by omega) (by omega) (by omega) (by omega)
    have b:=Int.mul_nonneg (a := -x) (b := -x) (by omega) (by omega);rw [Int.neg_mul_neg] at a b;exact ⟨b,by omega⟩
abbrev aUS (Φ:Ending→World→Prop):=AtO Tryz.prog (aAr Tryz.f93) (aA2 (bodyPost Tryz.prog Tryz.f93 Φ)) [] 26
theorem aK3 {w:World}{p:Option Addr}{cap:Nat}{L:List Pt}(hs:SrcP ptL 2 w p cap L):Calls Tryz.prog 93 #[vL p L.length cap] w fun e w'=>e = .returned (vB (L.all aCw))∧Fr (fun _=>False) w w':=by
  have bb:=hs.bnd;refine beg Tryz.func93 rfl rfl [(0,vL p L.length cap)] rfl rfl fun Φ hΦ=>?_;have hM:=Mm.nil (fun _=>False) w;refine seg 2 0 [(5,vL p L.length cap),(6,vI (L.length:Int)),(7,vI 0)] f0 ?_
  have ab:∀ (aa:Nat) (i:Nat) (w2:World),i≤L.length→L.all aCw=(L.drop i).all aCw→Mm (fun _=>False) w w2 []→aa=L.length-i→aUS Φ (some (2,0)) [(7,vI (i:Int)),(6,vI (L.length:Int)),(5,vL p L.length cap)] w2:=by
   refine aBh fun aa ac i w2 hi hv hM ah=>seg 2 1 [(8,vB (decide ((i:Int)<(L.length:Int))))] f0 ?_;cases h16:(decide ((i:Int)<(L.length:Int)))
   ·have ad:=df h16;exact rt1 2 (vB true) rfl f0 (hΦ _ _ ⟨by rw [hv,aHd (by omega)],hM.fr⟩)
   have ad:=dt h16;obtain ⟨y,hy,ai,aj,q17,ae⟩:=hs.el (i:=i) (by omega);refine aBD 3 2 4 [(10,.agg #[vI y.1,vI y.2])] [] 41 (.agg #[vI y.1,vI y.2]) (fc (ix 143 cap q17 (gl hy)) (fc (la0 41 hM ae) f0)) hM fun ak w1 hM=>seg 4 7 [(17,vB (decide (2097152<(max y.1 y.2))))] (fc (ldm 3 0 0 hM rfl rfl) (fc (ldm 3 0 1 hM rfl rfl) (fc (aRl 3 y.1 y.2) f0))) ?_;cases h19:(decide (2097152<(max y.1 y.2)))
   rotate_left
   ·have af:=dt h19;exact rt1 2 (vB false) rfl f0 (hΦ _ _ ⟨by rw [hv,aBe hy];unfold aCw;simp only [h19]<;>rfl,hM.fr⟩)
   have af:=df h19;refine seg 4 14 [(24,vB (decide ((min y.1 y.2)<(-2097152))))] (fc (ldm 3 0 0 hM rfl rfl) (fc (ldm 3 0 1 hM rfl rfl) (fc (aS6 3 y.1 y.2) f0))) ?_;cases h20:(decide ((min y.1 y.2)<(-2097152)))
   ·have ag:=df h20;refine seg 2 0 [(7,vI ((i:Int)+1))] (fc (aAh (i:Int) 1 u3_) f0) (aAb _ (ac _ (by omega) (i+1) _ (gl hy) (by rw [hv,aBe hy];unfold aCw;simp only [h19,h20];rfl) (hM.pick []) rfl))
   have ag:=dt h20;exact rt1 2 (vB false) rfl f0 (hΦ _ _ ⟨by rw [hv,aBe hy];unfold aCw;simp only [h19,h20]<;>rfl,hM.fr⟩)
  exact aAb _ (ab _ 0 _ (Nat.zero_le _) rfl hM rfl)
theorem aSa (j:Nat) {w w0:World}{F0:Nat→Prop}{M:List Ent}{b:Nat}{u v:Value}(hM:Mm F0 w0 w M) (hj:M[j]?=some (bk b #[u,v] 201)):(Instr.loadAt 201 (vP b 0)).run Tryz.prog w = .ok (.agg #[u,v]) w:=aAY 201 j hM hj rfl
theorem aNI {a b:Pt}(ha:aCw a=true) (hb:aCw b=true) (w:World):Calls Tryz.prog 94 #[.agg #[vI a.1,vI a.2],.agg #[vI b.1,vI b.2]] w fun e w'=>e = .returned (.agg #[vI (b.1-a.1),vI (b.2-a.2)])∧Fr (fun _=>False) w w':=by
  refine beg Tryz.func94 rfl rfl [(0,.agg #[vI a.1,vI a.2]),(1,.agg #[vI b.1,vI b.2])] rfl rfl fun Φ hΦ=>?_;have hM:=Mm.nil (fun _=>False) w;have ⟨ha1,ha2,ha3,ha4⟩:=aDp ha;have ⟨hb1,hb2,hb3,hb4⟩:=aDp hb;refine aAn 0 0 2 [] (cs:=#[vI a.1,vI a.2]) (T:=41) (v:=fun b=>vP b 0) f0 hM fun aa w1 hM=>aAn 0 1 3 [] (cs:=#[vI b.1,vI b.2]) (T:=41) (v:=fun b=>vP b 0) f0 hM fun ab w1 hM=>aAn 0 2 4 [] (cs:=#[vI 0,vI 0]) (T:=201) (v:=fun b=>vP b 0) f0 hM fun ac w1 hM=>stm 1 11 [(15,.agg #[vI (b.1-a.1),vI (b.2-a.2)])] 201 2 0 (.agg #[vI (b.1-a.1),vI (b.2-a.2)]) (fc (ldm 3 1 0 hM rfl rfl) (fc (ldm 3 0 0 hM rfl rfl) (fc (aC8 b.1 a.1 u3_) (fc (ldm 3 1 1 hM rfl rfl) (fc (ldm 3 0 1 hM rfl rfl) (fc (aC8 b.2 a.2 u3_) f0)))))) hM rfl fun w1 hM=>rtc 4 201 rfl (aSa 2 hM rfl) f0 (hΦ _ _ ⟨rfl,hM.fr⟩)
theorem aMO {x y:Int}(hx1 : -4194304≤x) (hx2:x≤4194304) (hy1 : -4194304≤y) (hy2:y≤4194304) (w:World):Calls Tryz.prog 95 #[.agg #[vI x,vI y],.agg #[vI x,vI y]] w fun e w'=>e = .returned (vI (x*x+y*y))∧Fr (fun _=>False) w w':=by
  refine beg Tryz.func95 rfl rfl [(0,.agg #[vI x,vI y]),(1,.agg #[vI x,vI y])] rfl rfl fun Φ hΦ=>?_;have hM:=Mm.nil (fun _=>False) w;have h1:=aJs hx1 hx2;have h2:=aJs hy1 hy2;refine aAn 0 0 2 [] (cs:=#[vI x,vI y]) (T:=201) (v:=fun b=>vP b 0) f0 hM fun aa w1 hM=>aAn 0 1 3 [] (cs:=#[vI x,vI y]) (T:=201) (v:=fun b=>vP b 0) f0 hM fun ab w1 hM=>rt1 4 (vI ((x*x)+(y*y))) rfl (fc (ldm 3 0 0 hM rfl rfl) (fc (ldm 3 1 0 hM rfl rfl) (fc (aNs x x u3_) (fc (ldm 3 0 1 hM rfl rfl) (fc (ldm 3 1 1 hM rfl rfl) (fc (aNs y y u3_) (fc (aAh (x*x) (y*y) u3_) f0))))))) (hΦ _ _ ⟨rfl,hM.fr⟩)
theorem aLD {α:Type}{f:α→List Value}{c:Nat}{w:World}{b:Nat}{x y:α}{T:TypeId}(hf:∀ x,(f x).length=c) (hc:0<c) (hb:w.heap[b]?=some (.cells ((f x)++(f y)).toArray T (0,0))):SrcP f c w (some ⟨b,0,none⟩) 2 [x,y] :=
  ⟨Nat.le_refl _,by omega,.inr ⟨b,0,rfl,aAg hb,fun i z hz j u hu=>by
    rw [aAt hb];have hj:=(List.getElem?_eq_some_iff.1 hu).1;rw [hf] at hj
    match i,hz with
    | 0,hz =>
      simp at hz;subst hz;rw [Nat.zero_mul,Nat.zero_add,←Array.getElem?_toList];rw [List.getElem?_append_left (by rw [hf];exact hj)];exact hu
    | 1,hz =>
      simp at hz;subst hz;rw [Nat.one_mul,Nat.zero_add,←Array.getElem?_toList];rw [List.getElem?_append_right (by rw [hf];omega),hf,Nat.add_sub_cancel_left];exact hu
    | i+2,hz=>simp at hz⟩,fun h=>by cases h⟩
theorem aKG (a b:Pt) (w:World):Calls Tryz.prog 50 #[.agg #[vI a.1,vI a.2],.agg #[vI b.1,vI b.2]] w fun e w'=>e = .returned (vI (aCJ a b))∧Fr (fun _=>False) w w':=by
  refine beg Tryz.func50 rfl rfl [(0,.agg #[vI a.1,vI a.2]),(1,.agg #[vI b.1,vI b.2])] rfl rfl fun Φ hΦ=>?_;have hM:=Mm.nil (fun _=>False) w;refine aAn 0 0 2 [] (cs:=#[vI a.1,vI a.2]) (T:=41) (v:=fun b=>vP b 0) f0 hM fun aa w1 hM=>aAn 0 1 3 [] (cs:=#[vI b.1,vI b.2]) (T:=41) (v:=fun b=>vP b 0) f0 hM fun ab w1 hM=>aAn 1 2 8 [(6,.agg #[vI a.1,vI a.2]),(7,.agg #[vI b.1,vI b.2])] (cs:=#[vI a.1,vI a.2,vI b.1,vI b.2]) (T:=41) (v:=fun b=>vL (some ⟨b,0,none⟩) 2 2) (fc (lam 41 0 0 2 hM rfl) (fc (lam 41 1 0 2 hM rfl) f0)) hM fun ac w1 hM=>aAq 1 3 9 [] f0 hM ((aK3 (aLD (f:=ptL) (x:=a) (y:=b) (fun _=>rfl) (by omega) (hM.get 2 rfl)))) fun w1 hM=>seg 1 5 [(10,vB (!([a,b].all aCw)))] f0 ?_;cases h29:([a,b].all aCw)
  ·exact rt1 4 (vI 0) rfl f0 (hΦ _ _ ⟨by unfold aCJ;rw [show (aCw a&&aCw b)=false by have:=h29;simpa using this];rfl,hM.fr⟩)
  have ha:aCw a=true:=by have:=List.all_eq_true.1 h29 a (.head _);exact this
  have hb:aCw b=true:=by have:=List.all_eq_true.1 h29 b (.tail _ (.head _));exact this
  have ⟨ha1,ha2,ha3,ha4⟩:=aDp ha;have ⟨hb1,hb2,hb3,hb4⟩:=aDp hb;refine aAq 3 2 13 [(11,.agg #[vI a.1,vI a.2]),(12,.agg #[vI b.1,vI b.2])] (fc (lam 41 0 0 2 hM rfl) (fc (lam 41 1 0 2 hM rfl) f0)) hM (aNI ha hb _) fun w1 hM=>aBD 3 3 5 [] [] 201 (.agg #[vI (b.1-a.1),vI (b.2-a.2)]) f0 hM fun ad w1 hM=>aAq 4 2 16 [(14,.agg #[vI (b.1-a.1),vI (b.2-a.2)]),(15,.agg #[vI (b.1-a.1),vI (b.2-a.2)])] (fc (lam 201 3 0 2 hM rfl) (fc (lam 201 3 0 2 hM rfl) f0)) hM (aMO (x:=b.1-a.1) (y:=b.2-a.2) (by omega) (by omega) (by omega) (by omega) _) fun w1 hM=>rt1 4 (vI ((b.1-a.1)*(b.1-a.1)+(b.2-a.2)*(b.2-a.2))) rfl f0 (hΦ _ _ ⟨by unfold aCJ;rw [ha,hb];rfl,hM.fr⟩)
end Go.Proofs.YtnhljdeohelgjaaGreatDoor
namespace Go.Pl
open Go.RowKit
section
variable {P:Program}{B:Code}{R:Pst}{ds:List Deferred}{n:Nat}{p:Option (Nat×Nat)}{L N:Frm}{w:World}{r r' i':Nat}{F:List Ft}
end
section
variable {P:Program}{w w0:World}{rd:Option Nat}{B:Code}{r n:Nat}{L:Frm}{ef:List Nat}{V:Lts→List (Option Value)}{F:Lts→List Ft}{ds:List Deferred}{F0:Nat→Prop}{Mf:Lts→List Bool→List Ent}
theorem aBZ (p i d:Nat) {f:FuncId}(args:Lts→Array Value) (v:Value)
  (hc:∀ γ fr wm,Mm F0 w0 wm (Mf γ (flg B r ef i fr))→Calls P f (args γ) wm fun x w'=>x = .returned v∧Fr (fun _=>False) wm w')
  (hm:∀ γ fr,Mf γ (flg B r ef i fr)=Mf (aB6 γ p v) ((flg B r ef i fr).set p true):=by intro γ fr;kernel_rfl)
  (hV:∀ γ,((V (aB6 γ p v))[p]?).getD none=some v:=by intro γ;rfl)
  (hs:∀ γ wm,enL P wm (aAz B r) i (frX P w n B r L ef V F i γ)=some (f,args γ,some d,wm):=by intro γ wm;kernel_rfl):Arm rd P w n B r L ef V F ds F0 w0 Mf p i:=by
 intro γ fr a wm Q o ho En hw hM;obtain ⟨h1,h2⟩:=aIT ho En (hs γ wm);refine aCA (R:=fun u w'=>u=v∧Fr (fun _=>False) wm w') h1 ((hc γ fr wm hM).mono fun x w' ⟨g1,g2⟩=>⟨v,g1,rfl,g2⟩) fun u w' ⟨hu,g1⟩=>?_;subst hu;have hM':=hM.q g1;rw [hm] at hM';exact ⟨u,γ.e p,by rw [aAo,hV,h2];rfl,by rw [aAo];exact hM'⟩
end
section
variable {P:Program}{w w0:World}{rd:Option Nat}{B:Code}{r n:Nat}{L:Frm}{ef:List Nat}{V:Lts→List (Option Value)}{F:Lts→List Ft}{ds:List Deferred}{F0:Nat→Prop}{Mf:Lts→List Bool→List Ent}
end
section
variable {P:Program}{w w0:World}{rd:Option Nat}{B:Code}{r n:Nat}{L:Frm}{ef:List Nat}{V:Lts→List (Option Value)}{F:Lts→List Ft}{ds:List Deferred}{F0:Nat→Prop}{Mf:Lts→List Bool→List Ent}
theorem aRd (p i d:Nat) {f:FuncId}(args:Lts→Array Value) (n0 c0:Nat)
  (hc:∀ γ fr wm,Mm F0 w0 wm (Mf γ (flg B r ef i fr))→Calls P f (args γ) wm fun x w'=>∃ q,x = .returned (vL q n0 c0)∧Fr (fun _=>False) wm w')
  (hm:∀ γ fr q,Mf γ (flg B r ef i fr)=Mf (aB6 γ p (vL q n0 c0)) ((flg B r ef i fr).set p true):=by intro γ fr q;kernel_rfl)
  (hV:∀ γ q,((V (aB6 γ p (vL q n0 c0)))[p]?).getD none=some (vL q n0 c0):=by intro γ q;rfl)
  (hs:∀ γ wm,enL P wm (aAz B r) i (frX P w n B r L ef V F i γ)=some (f,args γ,some d,wm):=by intro γ wm;kernel_rfl):Arm rd P w n B r L ef V F ds F0 w0 Mf p i:=by
 intro γ fr a wm Q o ho En hw hM;obtain ⟨h1,h2⟩:=aIT ho En (hs γ wm);refine aCA (R:=fun u w'=>∃ q,u=vL q n0 c0∧Fr (fun _=>False) wm w') h1 ((hc γ fr wm hM).mono fun x w' ⟨q,g1,g2⟩=>⟨_,g1,q,rfl,g2⟩) fun u w' ⟨q,hu,g1⟩=>?_;subst hu;have hM':=hM.q g1;rw [hm γ fr q] at hM';exact ⟨vL q n0 c0,γ.e p,by rw [aAo,hV,h2];rfl,by rw [aAo];exact hM'⟩
end
end Go.Pl
namespace Go.Proofs.YtnhljdeohelgjaaGreatDoor
open Go.RowKit Go.Pl
def aBO (f:Bys) (n:Int) (pr:Bys) (m0:Int):Bool:=aBu f&&(decide (0≤n)&&decide (n≤10080))&&aBu pr&&(decide (0≤m0)&&decide (m0≤9999999))
theorem aOM (a b c d:Int) (w:World):(Go.binOp .eql 41 (.agg #[vI a,vI b]) (.agg #[vI c,vI d])).run Tryz.prog w = .ok (.bool ((a==c)&&(b==d))) w:=by
  have u3:=u3_;have hS:Tryz.prog.underlying 41=some (.struct (Tryz.prog.fieldsOf 41)):=by kernel_rfl
  have hp:Tryz.prog.stoodInHeld 41=false:=by kernel_rfl
  rw [run_eql_struct,show (10000:Nat)=9999+1 from rfl,run_equalIn_agg w 9999 41 _ _ hS hp];simp only [Program.fieldsOf,Tryz.underlying41]
  go_simp
  by_cases h1:a=c<;>by_cases h2:b=d<;>simp [h1,h2]
theorem aUE (a b c d:Int) {w:World}:Ft.ok Tryz.prog w (.g2 (fun x y => .binOp .eql 41 x y 41) (.agg #[vI a,vI b]) (.agg #[vI c,vI d]) (vB ((a==c)&&(b==d)))):=fun o ρ x y ho hx hy=>by
  have hm:Tryz.prog.eqGuardType Tryz.prog.depth 41=false:=by kernel_rfl
  simp only [execOp,ho,hx,hy,Sem.run_bind,run_eqGuard_agg w _ 41 _ _ _ _ hm,Result.andThen_ok,aOM,Sem.run_pure]
theorem aHo {w:World}{f pr:Bys}(hf:f.length≤9223372036854775807) (hp:pr.length≤9223372036854775807) (n m0:Int):Calls Tryz.prog 56 #[.agg #[vI 5,vI 0,vI 1,vS [],vS [],vI 0,vL none 0 0,vS f,vI n,vI 0,vI 0,vS [],vS pr,vI m0]] w fun e w'=>e = .returned (vB (aBO f n pr m0))∧Fr (fun _=>False) w w':=by
  refine beg Tryz.func56 rfl rfl [(0,.agg #[vI 5,vI 0,vI 1,vS [],vS [],vI 0,vL none 0 0,vS f,vI n,vI 0,vI 0,vS [],vS pr,vI m0])] rfl rfl fun Φ hΦ=>?_;have hM:=Mm.nil (fun _=>False) w;refine aAn 0 0 1 [] (cs:=#[vI 5,vI 0,vI 1,vS [],vS [],vI 0,vL none 0 0,vS f,vI n,vI 0,vI 0,vS [],vS pr,vI m0]) (T:=43) (v:=fun b=>vP b 0) f0 hM fun ab w1 hM=>seg 1 0 [] f0 (drx [6,13] (fun γ=>[some (vL (slp (γ 0)) 6 6),some (vB true)]) _ (fun γ l=>[bk ab #[vI 5,vI 0,vI 1,vS [],vS [],vI 0,vL none 0 0,vS f,vI n,vI 0,vI 0,vS [],vS pr,vI m0] 43]) (fun γ=>[(21,vB false)]) hM (fun γ=>rfl) (fun γ l w5 hM=>(fc (ldm 3 0 1 hM rfl rfl) (fc (ldm 3 0 1 hM rfl rfl) (fc (lam 39 0 2 5 hM rfl) f0)))) ⟨aRd 0 6 12 (f:=97) (fun γ=>#[]) 6 6 (fun γ fr wm hM=>(aPx.mono fun e w9 ⟨q,h,f⟩=>⟨q,h,f⟩)),aBZ 1 13 19 (f:=98) (fun γ=>#[.agg #[vI 1,vS [],vS [],vI 0,vL none 0 0]]) (vB true) (fun γ fr wm hM=>aFR),trivial⟩ fun ac w1 hM=>?_);replace hM:Mm (fun _=>False) w w1 [bk ab #[vI 5,vI 0,vI 1,vS [],vS [],vI 0,vL none 0 0,vS f,vI n,vI 0,vI 0,vS [],vS pr,vI m0] 43]:=hM;refine aBD 4 5 4 [(3,.func (.func 99) #[] #[]),(26,.agg #[vI 5,vI 0,vI 0,vS [],vS [],vI 0,vL none 0 0,vS [],vI 0,vI 0,vI 0,vS [],vS [],vI 0])] [] 43 (.agg #[vI 5,vI 0,vI 0,vS [],vS [],vI 0,vL none 0 0,vS [],vI 0,vI 0,vI 0,vS [],vS [],vI 0]) (fc (ldm 3 0 0 hM rfl rfl) (fc (ldm 3 0 1 hM rfl rfl) f0)) hM fun aa w1 hM=>seg 16 0 [] (fc (ldm 3 0 0 hM rfl rfl) f0) ?_;cases h15:(aBu f)
  ·refine drx [10,29,31,33,35] (fun γ=>[some (vB false),none,none,none,none]) _ (fun γ l=>[bk ab #[vI 5,vI 0,vI 1,vS [],vS [],vI 0,vL none 0 0,vS f,vI n,vI 0,vI 0,vS [],vS pr,vI m0] 43,bk aa #[vI 5,vI 0,vI 0,vS [],vS [],vI 0,vL none 0 0,(bif l.getD 1 false then vS f else vS []),(bif l.getD 2 false then vI n else vI 0),vI 0,vI 0,vS [],(bif l.getD 3 false then vS pr else vS []),(bif l.getD 4 false then vI m0 else vI 0)] 43]) (fun γ=>[(5,vB false)]) hM (fun γ=>rfl) (fun γ l w5 hM=>(fc (ldm 9 0 7 hM rfl rfl) (fc (ldm 3 0 8 hM rfl rfl) (fc (ldm 9 0 12 hM rfl rfl) (fc (ldm 3 0 13 hM rfl rfl) (fc (ldm 9 0 7 hM rfl rfl) f0)))))) ⟨aBZ 0 10 94 (f:=33) (fun γ=>#[vS f]) (vB false) (fun γ fr wm hM=>(((aAy hf _)).mono fun e w9 ⟨a9,b9⟩=>⟨by rw [a9,h15],b9⟩)),aA6 1 29 9 1 7 (fun γ=>aa) (fun γ l=>#[vI 5,vI 0,vI 0,vS [],vS [],vI 0,vL none 0 0,(bif l.getD 1 false then vS f else vS []),(bif l.getD 2 false then vI n else vI 0),vI 0,vI 0,vS [],(bif l.getD 3 false then vS pr else vS []),(bif l.getD 4 false then vI m0 else vI 0)]) 43 (fun γ=>vS f),aA6 2 31 3 1 8 (fun γ=>aa) (fun γ l=>#[vI 5,vI 0,vI 0,vS [],vS [],vI 0,vL none 0 0,(bif l.getD 1 false then vS f else vS []),(bif l.getD 2 false then vI n else vI 0),vI 0,vI 0,vS [],(bif l.getD 3 false then vS pr else vS []),(bif l.getD 4 false then vI m0 else vI 0)]) 43 (fun γ=>vI n),aA6 3 33 9 1 12 (fun γ=>aa) (fun γ l=>#[vI 5,vI 0,vI 0,vS [],vS [],vI 0,vL none 0 0,(bif l.getD 1 false then vS f else vS []),(bif l.getD 2 false then vI n else vI 0),vI 0,vI 0,vS [],(bif l.getD 3 false then vS pr else vS []),(bif l.getD 4 false then vI m0 else vI 0)]) 43 (fun γ=>vS pr),aA6 4 35 3 1 13 (fun γ=>aa) (fun γ l=>#[vI 5,vI 0,vI 0,vS [],vS [],vI 0,vL none 0 0,(bif l.getD 1 false then vS f else vS []),(bif l.getD 2 false then vI n else vI 0),vI 0,vI 0,vS [],(bif l.getD 3 false then vS pr else vS []),(bif l.getD 4 false then vI m0 else vI 0)]) 43 (fun γ=>vI m0),trivial⟩ fun ad w1 hM=>?_;replace hM:Mm (fun _=>False) w w1 [bk ab #[vI 5,vI 0,vI 1,vS [],vS [],vI 0,vL none 0 0,vS f,vI n,vI 0,vI 0,vS [],vS pr,vI m0] 43,bk aa #[vI 5,vI 0,vI 0,vS [],vS [],vI 0,vL none 0 0,vS f,vI n,vI 0,vI 0,vS [],vS pr,vI m0] 43]:=hM;exact rt1 2 (vB false) rfl f0 (hΦ _ _ ⟨by unfold aBO;simp only [h15]<;>rfl,hM.fr⟩)
  cases h17:(decide (0≤n)&&decide (n≤10080))
  ·refine drx [10,15,29,31,33,35] (fun γ=>[some (vB true),some (vB false),none,none,none,none]) _ (fun γ l=>[bk ab #[vI 5,vI 0,vI 1,vS [],vS [],vI 0,vL none 0 0,vS f,vI n,vI 0,vI 0,vS [],vS pr,vI m0] 43,bk aa #[vI 5,vI 0,vI 0,vS [],vS [],vI 0,vL none 0 0,(bif l.getD 2 false then vS f else vS []),(bif l.getD 3 false then vI n else vI 0),vI 0,vI 0,vS [],(bif l.getD 4 false then vS pr else vS []),(bif l.getD 5 false then vI m0 else vI 0)] 43]) (fun γ=>[(5,vB false)]) hM (fun γ=>rfl) (fun γ l w5 hM=>(fc (ldm 9 0 7 hM rfl rfl) (fc (ldm 3 0 8 hM rfl rfl) (fc (ldm 9 0 12 hM rfl rfl) (fc (ldm 3 0 13 hM rfl rfl) (fc (ldm 9 0 7 hM rfl rfl) (fc (ldm 3 0 8 hM rfl rfl) f0))))))) ⟨aBZ 0 10 94 (f:=33) (fun γ=>#[vS f]) (vB true) (fun γ fr wm hM=>(((aAy hf _)).mono fun e w9 ⟨a9,b9⟩=>⟨by rw [a9,h15],b9⟩)),aBZ 1 15 99 (f:=99) (fun γ=>#[vI n,vI 0,vI 10080]) (vB false) (fun γ fr wm hM=>(((aBJ n 0 10080)).mono fun e w9 ⟨a9,b9⟩=>⟨by rw [a9,h17],b9⟩)),aA6 2 29 9 1 7 (fun γ=>aa) (fun γ l=>#[vI 5,vI 0,vI 0,vS [],vS [],vI 0,vL none 0 0,(bif l.getD 2 false then vS f else vS []),(bif l.getD 3 false then vI n else vI 0),vI 0,vI 0,vS [],(bif l.getD 4 false then vS pr else vS []),(bif l.getD 5 false then vI m0 else vI 0)]) 43 (fun γ=>vS f),aA6 3 31 3 1 8 (fun γ=>aa) (fun γ l=>#[vI 5,vI 0,vI 0,vS [],vS [],vI 0,vL none 0 0,(bif l.getD 2 false then vS f else vS []),(bif l.getD 3 false then vI n else vI 0),vI 0,vI 0,vS [],(bif l.getD 4 false then vS pr else vS []),(bif l.getD 5 false then vI m0 else vI 0)]) 43 (fun γ=>vI n),aA6 4 33 9 1 12 (fun γ=>aa) (fun γ l=>#[vI 5,vI 0,vI 0,vS [],vS [],vI 0,vL none 0 0,(bif l.getD 2 false then vS f else vS []),(bif l.getD 3 false then vI n else vI 0),vI 0,vI 0,vS [],(bif l.getD 4 false then vS pr else vS []),(bif l.getD 5 false then vI m0 else vI 0)]) 43 (fun γ=>vS pr),aA6 5 35 3 1 13 (fun γ=>aa) (fun γ l=>#[vI 5,vI 0,vI 0,vS [],vS [],vI 0,vL none 0 0,(bif l.getD 2 false then vS f else vS []),(bif l.getD 3 false then vI n else vI 0),vI 0,vI 0,vS [],(bif l.getD 4 false then vS pr else vS []),(bif l.getD 5 false then vI m0 else vI 0)]) 43 (fun γ=>vI m0),trivial⟩ fun ae w1 hM=>?_;replace hM:Mm (fun _=>False) w w1 [bk ab #[vI 5,vI 0,vI 1,vS [],vS [],vI 0,vL none 0 0,vS f,vI n,vI 0,vI 0,vS [],vS pr,vI m0] 43,bk aa #[vI 5,vI 0,vI 0,vS [],vS [],vI 0,vL none 0 0,vS f,vI n,vI 0,vI 0,vS [],vS pr,vI m0] 43]:=hM;exact rt1 2 (vB false) rfl f0 (hΦ _ _ ⟨by unfold aBO;simp only [h15,h17]<;>rfl,hM.fr⟩)
  cases h19:(aBu pr)
  ·refine drx [10,15,20,29,31,33,35] (fun γ=>[some (vB true),some (vB true),some (vB false),none,none,none,none]) _ (fun γ l=>[bk ab #[vI 5,vI 0,vI 1,vS [],vS [],vI 0,vL none 0 0,vS f,vI n,vI 0,vI 0,vS [],vS pr,vI m0] 43,bk aa #[vI 5,vI 0,vI 0,vS [],vS [],vI 0,vL none 0 0,(bif l.getD 3 false then vS f else vS []),(bif l.getD 4 false then vI n else vI 0),vI 0,vI 0,vS [],(bif l.getD 5 false then vS pr else vS []),(bif l.getD 6 false then vI m0 else vI 0)] 43]) (fun γ=>[(5,vB false)]) hM (fun γ=>rfl) (fun γ l w5 hM=>(fc (ldm 9 0 7 hM rfl rfl) (fc (ldm 3 0 8 hM rfl rfl) (fc (ldm 9 0 12 hM rfl rfl) (fc (ldm 3 0 13 hM rfl rfl) (fc (ldm 9 0 7 hM rfl rfl) (fc (ldm 3 0 8 hM rfl rfl) (fc (ldm 9 0 12 hM rfl rfl) f0)))))))) ⟨aBZ 0 10 94 (f:=33) (fun γ=>#[vS f]) (vB true) (fun γ fr wm hM=>(((aAy hf _)).mono fun e w9 ⟨a9,b9⟩=>⟨by rw [a9,h15],b9⟩)),aBZ 1 15 99 (f:=99) (fun γ=>#[vI n,vI 0,vI 10080]) (vB true) (fun γ fr wm hM=>(((aBJ n 0 10080)).mono fun e w9 ⟨a9,b9⟩=>⟨by rw [a9,h17],b9⟩)),aBZ 2 20 104 (f:=33) (fun γ=>#[vS pr]) (vB false) (fun γ fr wm hM=>(((aAy hp _)).mono fun e w9 ⟨a9,b9⟩=>⟨by rw [a9,h19],b9⟩)),aA6 3 29 9 1 7 (fun γ=>aa) (fun γ l=>#[vI 5,vI 0,vI 0,vS [],vS [],vI 0,vL none 0 0,(bif l.getD 3 false then vS f else vS []),(bif l.getD 4 false then vI n else vI 0),vI 0,vI 0,vS [],(bif l.getD 5 false then vS pr else vS []),(bif l.getD 6 false then vI m0 else vI 0)]) 43 (fun γ=>vS f),aA6 4 31 3 1 8 (fun γ=>aa) (fun γ l=>#[vI 5,vI 0,vI 0,vS [],vS [],vI 0,vL none 0 0,(bif l.getD 3 false then vS f else vS []),(bif l.getD 4 false then vI n else vI 0),vI 0,vI 0,vS [],(bif l.getD 5 false then vS pr else vS []),(bif l.getD 6 false then vI m0 else vI 0)]) 43 (fun γ=>vI n),aA6 5 33 9 1 12 (fun γ=>aa) (fun γ l=>#[vI 5,vI 0,vI 0,vS [],vS [],vI 0,vL none 0 0,(bif l.getD 3 false then vS f else vS []),(bif l.getD 4 false then vI n else vI 0),vI 0,vI 0,vS [],(bif l.getD 5 false then vS pr else vS []),(bif l.getD 6 false then vI m0 else vI 0)]) 43 (fun γ=>vS pr),aA6 6 35 3 1 13 (fun γ=>aa) (fun γ l=>#[vI 5,vI 0,vI 0,vS [],vS [],vI 0,vL none 0 0,(bif l.getD 3 false then vS f else vS []),(bif l.getD 4 false then vI n else vI 0),vI 0,vI 0,vS [],(bif l.getD 5 false then vS pr else vS []),(bif l.getD 6 false then vI m0 else vI 0)]) 43 (fun γ=>vI m0),trivial⟩ fun af w1 hM=>?_;replace hM:Mm (fun _=>False) w w1 [bk ab #[vI 5,vI 0,vI 1,vS [],vS [],vI 0,vL none 0 0,vS f,vI n,vI 0,vI 0,vS [],vS pr,vI m0] 43,bk aa #[vI 5,vI 0,vI 0,vS [],vS [],vI 0,vL none 0 0,vS f,vI n,vI 0,vI 0,vS [],vS pr,vI m0] 43]:=hM;exact rt1 2 (vB false) rfl f0 (hΦ _ _ ⟨by unfold aBO;simp only [h15,h17,h19]<;>rfl,hM.fr⟩)
  refine drx [10,15,20,26,29,31,33,35] (fun γ=>[some (vB true),some (vB true),some (vB true),some (vB (decide (0≤m0)&&decide (m0≤9999999))),none,none,none,none]) _ (fun γ l=>[bk ab #[vI 5,vI 0,vI 1,vS [],vS [],vI 0,vL none 0 0,vS f,vI n,vI 0,vI 0,vS [],vS pr,vI m0] 43,bk aa #[vI 5,vI 0,vI 0,vS [],vS [],vI 0,vL none 0 0,(bif l.getD 4 false then vS f else vS []),(bif l.getD 5 false then vI n else vI 0),vI 0,vI 0,vS [],(bif l.getD 6 false then vS pr else vS []),(bif l.getD 7 false then vI m0 else vI 0)] 43]) (fun γ=>[(5,vB (decide (0≤m0)&&decide (m0≤9999999)))]) hM (fun γ=>rfl) (fun γ l w5 hM=>(fc (ldm 9 0 7 hM rfl rfl) (fc (ldm 3 0 8 hM rfl rfl) (fc (ldm 9 0 12 hM rfl rfl) (fc (ldm 3 0 13 hM rfl rfl) (fc (ldm 9 0 7 hM rfl rfl) (fc (ldm 3 0 8 hM rfl rfl) (fc (ldm 9 0 12 hM rfl rfl) (fc (ldm 3 0 13 hM rfl rfl) f0))))))))) ⟨aBZ 0 10 94 (f:=33) (fun γ=>#[vS f]) (vB true) (fun γ fr wm hM=>(((aAy hf _)).mono fun e w9 ⟨a9,b9⟩=>⟨by rw [a9,h15],b9⟩)),aBZ 1 15 99 (f:=99) (fun γ=>#[vI n,vI 0,vI 10080]) (vB true) (fun γ fr wm hM=>(((aBJ n 0 10080)).mono fun e w9 ⟨a9,b9⟩=>⟨by rw [a9,h17],b9⟩)),aBZ 2 20 104 (f:=33) (fun γ=>#[vS pr]) (vB true) (fun γ fr wm hM=>(((aAy hp _)).mono fun e w9 ⟨a9,b9⟩=>⟨by rw [a9,h19],b9⟩)),aBZ 3 26 110 (f:=99) (fun γ=>#[vI m0,vI 0,vI 9999999]) (vB (decide (0≤m0)&&decide (m0≤9999999))) (fun γ fr wm hM=>(aBJ m0 0 9999999)),aA6 4 29 9 1 7 (fun γ=>aa) (fun γ l=>#[vI 5,vI 0,vI 0,vS [],vS [],vI 0,vL none 0 0,(bif l.getD 4 false then vS f else vS []),(bif l.getD 5 false then vI n else vI 0),vI 0,vI 0,vS [],(bif l.getD 6 false then vS pr else vS []),(bif l.getD 7 false then vI m0 else vI 0)]) 43 (fun γ=>vS f),aA6 5 31 3 1 8 (fun γ=>aa) (fun γ l=>#[vI 5,vI 0,vI 0,vS [],vS [],vI 0,vL none 0 0,(bif l.getD 4 false then vS f else vS []),(bif l.getD 5 false then vI n else vI 0),vI 0,vI 0,vS [],(bif l.getD 6 false then vS pr else vS []),(bif l.getD 7 false then vI m0 else vI 0)]) 43 (fun γ=>vI n),aA6 6 33 9 1 12 (fun γ=>aa) (fun γ l=>#[vI 5,vI 0,vI 0,vS [],vS [],vI 0,vL none 0 0,(bif l.getD 4 false then vS f else vS []),(bif l.getD 5 false then vI n else vI 0),vI 0,vI 0,vS [],(bif l.getD 6 false then vS pr else vS []),(bif l.getD 7 false then vI m0 else vI 0)]) 43 (fun γ=>vS pr),aA6 7 35 3 1 13 (fun γ=>aa) (fun γ l=>#[vI 5,vI 0,vI 0,vS [],vS [],vI 0,vL none 0 0,(bif l.getD 4 false then vS f else vS []),(bif l.getD 5 false then vI n else vI 0),vI 0,vI 0,vS [],(bif l.getD 6 false then vS pr else vS []),(bif l.getD 7 false then vI m0 else vI 0)]) 43 (fun γ=>vI m0),trivial⟩ fun ag w1 hM=>?_;replace hM:Mm (fun _=>False) w w1 [bk ab #[vI 5,vI 0,vI 1,vS [],vS [],vI 0,vL none 0 0,vS f,vI n,vI 0,vI 0,vS [],vS pr,vI m0] 43,bk aa #[vI 5,vI 0,vI 0,vS [],vS [],vI 0,vL none 0 0,vS f,vI n,vI 0,vI 0,vS [],vS pr,vI m0] 43]:=hM;refine seg 19 2 [(125,vB (decide (0≤m0)&&decide (m0≤9999999)))] f0 ?_;cases h22:(decide (0≤m0)&&decide (m0≤9999999))
  ·exact rt1 2 (vB false) rfl f0 (hΦ _ _ ⟨by unfold aBO;simp only [h15,h17,h19,h22]<;>rfl,hM.fr⟩)
  exact rt1 2 (vB true) rfl (fc (ldm 9 1 7 hM rfl rfl) (fc (ldm 9 0 7 hM rfl rfl) (fc (rz (c:=true) (seq 9 f f) (by simp)) (fc (ldm 3 1 8 hM rfl rfl) (fc (ldm 3 0 8 hM rfl rfl) (fc (tv 137 (b:=(n==n)) (c:=true) (by simp)) (fc (lam 41 1 9 2 hM rfl) (fc (lam 41 0 9 2 hM rfl) (fc (rz (aUE 0 0 0 0) rfl) (fc (ldm 9 1 11 hM rfl rfl) (fc (ldm 9 0 11 hM rfl rfl) (fc (rz (seq 9 ([]:Bys) []) rfl) (fc (ldm 9 1 12 hM rfl rfl) (fc (ldm 9 0 12 hM rfl rfl) (fc (rz (c:=true) (seq 9 pr pr) (by simp)) (fc (ldm 3 1 13 hM rfl rfl) (fc (ldm 3 0 13 hM rfl rfl) (fc (tv 165 (b:=(m0==m0)) (c:=true) (by simp)) f0)))))))))))))))))) (hΦ _ _ ⟨by unfold aBO;simp only [h15,h17,h19,h22]<;>rfl,hM.fr⟩)
abbrev v64 (a:Nat):Value := .int .u64 (a:Int)
theorem aGr {a:Nat}(h:a<18446744073709551616):IntKind.u64.wrap (a:Int)=a:=by
  show (a:Int)%_=a;exact Int.emod_eq_of_lt (by omega) (by show (a:Int)<18446744073709551616;omega)
theorem aNd {a b:Nat}(ha:a<18446744073709551616) (hb:b<18446744073709551616):bits BinOp.or IntKind.u64 (a:Int) (b:Int)=((a ||| b:Nat):Int):=by
  have h:a ||| b<2 ^ 64:=Nat.or_lt_two_pow ha hb;have h2:(BitVec.ofNat 64 a ||| BitVec.ofNat 64 b:BitVec 64).toNat=a ||| b:=by rw [BitVec.toNat_or,BitVec.toNat_ofNat,BitVec.toNat_ofNat,Nat.mod_eq_of_lt ha,Nat.mod_eq_of_lt hb]
  have h3:((BitVec.ofNat 64 a ||| BitVec.ofNat 64 b:BitVec 64).toNat:Int)%18446744073709551616=((a ||| b:Nat):Int):=by rw [h2];omega
  simp [bits,IntKind.wrap,IntKind.bits,IntKind.signed];exact h3
theorem aPa {a b:Nat}(ha:a<18446744073709551616) (hb:b<18446744073709551616):bits BinOp.and IntKind.u64 (a:Int) (b:Int)=((a &&& b:Nat):Int):=by
  have h:a &&& b<2 ^ 64:=Nat.and_lt_two_pow a hb;have h2:(BitVec.ofNat 64 a &&& BitVec.ofNat 64 b:BitVec 64).toNat=a &&& b:=by rw [BitVec.toNat_and,BitVec.toNat_ofNat,BitVec.toNat_ofNat,Nat.mod_eq_of_lt ha,Nat.mod_eq_of_lt hb]
  have h3:((BitVec.ofNat 64 a &&& BitVec.ofNat 64 b:BitVec 64).toNat:Int)%18446744073709551616=((a &&& b:Nat):Int):=by rw [h2];omega
  simp [bits,IntKind.wrap,IntKind.bits,IntKind.signed];exact h3
theorem or4 (a x:Nat) (h:x<4):4*a ||| x=4*a+x:=by
  have:=Nat.two_pow_add_eq_or_of_lt (i:=2) h a;rw [show 2 ^ 2*a=4*a by omega] at this;exact this.symm
theorem or2 (a:Nat):2*a ||| 1=2*a+1:=by
  have:=Nat.two_pow_add_eq_or_of_lt (i:=1) (show 1<2 ^ 1 by omega) a;rw [show 2 ^ 1*a=2*a by omega] at this;exact this.symm
section
variable {w:World}
theorem aSI (a:Nat) (h:a<4611686018427387904):Ft.ok Tryz.prog w (.g2 (fun x y => .binOp .shl 197 x y 198) (v64 a) (.int .u64 2) (v64 (4*a))):=fun o ρ x y ho hx hy=>by
  simp [execOp,ho,hx,hy,go_sem];have:=aGr (a:=a*4) (by omega);rw [show ((a:Int)*4)=((a*4:Nat):Int) by omega,this];omega
theorem aRx (a:Nat) (h:a<9223372036854775808):Ft.ok Tryz.prog w (.g2 (fun x y => .binOp .shl 197 x y 198) (v64 a) (.int .u64 1) (v64 (2*a))):=fun o ρ x y ho hx hy=>by
  simp [execOp,ho,hx,hy,go_sem];have:=aGr (a:=a*2) (by omega);rw [show ((a:Int)*2)=((a*2:Nat):Int) by omega,this];omega
theorem aTS (a x:Nat) (h:a<4611686018427387904) (hx4:x<4):Ft.ok Tryz.prog w (.g2 (fun x y => .binOp .or 197 x y 197) (v64 (4*a)) (v64 x) (v64 (4*a+x))):=fun o ρ y z ho hx hy=>by
  have:=aNd (a:=4*a) (b:=x) (by omega) (by omega);rw [or4 a x hx4] at this;simp only [execOp,ho,hx,hy];simp [go_sem];simpa using this
theorem aT2 (a:Nat) (h:a<4611686018427387904):Ft.ok Tryz.prog w (.g2 (fun x y => .binOp .or 197 x y 197) (v64 (2*a)) (.int .u64 1) (v64 (2*a+1))):=fun o ρ y z ho hx hy=>by
  have:=aNd (a:=2*a) (b:=1) (by omega) (by omega);rw [or2] at this;simp only [execOp,ho,hx,hy];simp [go_sem];simpa using this
theorem aSJ (a:Nat) (h:a<9223372036854775808):Ft.ok Tryz.prog w (.g2 (fun x y => .binOp .and 197 x y 197) (v64 a) (.int .u64 3) (v64 (a%4))):=fun o ρ y z ho hx hy=>by
  have:=aPa (a:=a) (b:=3) (by omega) (by omega);rw [show a &&& 3=a%4 from Nat.and_two_pow_sub_one_eq_mod a 2] at this;simp only [execOp,ho,hx,hy];simp [go_sem];simpa using this
theorem aTR (a k:Nat) (h:k<64) {z:Int}(hz:z=(k:Int)):Ft.ok Tryz.prog w (.g2 (fun x y => .binOp .shr 197 x y 3) (v64 a) (vI z) (v64 (a / 2 ^ k))):=fun o ρ x y ho hx hy=>by
  subst hz;simp [execOp,ho,hx,hy,go_sem]
theorem aTQ (a b:Nat) (h:b≤a) (ha:a<18446744073709551616):Ft.ok Tryz.prog w (.g2 (fun x y => .binOp .sub 197 x y 197) (v64 a) (v64 b) (v64 (a-b))):=fun o ρ x y ho hx hy=>by
  have:=aGr (a:=a-b) (by omega);rw [show ((a-b:Nat):Int)=(a:Int)-b by omega] at this;simp [execOp,ho,hx,hy,go_sem,Tryz.underlying197,this];omega
theorem aTP (a:Nat) (h:a<9223372036854775808):Ft.ok Tryz.prog w (.g1 (.convert 3 197) (vI (a:Int)) (v64 a)):=fun o ρ x ho hx=>by
  simp [execOp,ho,hx,go_sem,aGr (a:=a) (by omega)]
theorem aTT (a:Nat) (h:a<9223372036854775808):Ft.ok Tryz.prog w (.g1 (.convert 197 3) (v64 a) (vI (a:Int))):=fun o ρ x ho hx=>by
  simp [execOp,ho,hx,go_sem,IntWalk.i64_in (a:Int) ⟨by omega,by omega⟩]
end
def aBE:Nat→Nat
  | 0=>0
  | n+1=>if (aBE n+1)*(aBE n+1)≤n+1 then aBE n+1 else aBE n
theorem aG9:∀ n,aBE n*aBE n≤n∧n<(aBE n+1)*(aBE n+1)
  | 0=>by simp [aBE]
  | n+1=>by
    obtain ⟨h1,h2⟩:=aG9 n;unfold aBE
    split
    · rename_i h
      refine ⟨h,?_⟩;have e:(aBE n+1+1)*(aBE n+1+1)=(aBE n+1)*(aBE n+1)+2*aBE n+3:=by grind
      omega
    · rename_i h;omega
theorem aRB {a b:Nat}(h:a<b):(a+1)*(a+1)≤b*b:=Nat.mul_le_mul h h
theorem aFf {n r:Nat}(h1:r*r≤n) (h2:n<(r+1)*(r+1)):aBE n=r:=by
  obtain ⟨g1,g2⟩:=aG9 n;rcases Nat.lt_trichotomy (aBE n) r with h | h | h
  · exact absurd (Nat.lt_of_lt_of_le g2 (Nat.le_trans (aRB h) h1)) (Nat.lt_irrefl _)
  · exact h
  · exact absurd (Nat.lt_of_lt_of_le h2 (Nat.le_trans (aRB h) g1)) (Nat.lt_irrefl _)
def aCU (n:Int):Int:=bif decide (n<0) then 0 else (aBE n.toNat:Int)
structure RtAt (n i root rest:Nat):Prop where
  sq:root*root+rest=n / 4 ^ (32-i)
  le:rest≤2*root
  lt:root<2 ^ i
theorem aTb {i:Nat}(hi:i<32):(2:Nat) ^ (62-2*i)=4 ^ (31-i):=by
  rw [show (4:Nat)=2 ^ 2 by rfl,←Nat.pow_mul];congr 1;omega
theorem dig {n i:Nat}(hi:i<32):n / 4 ^ (32-(i+1))=4*(n / 4 ^ (32-i))+n / 2 ^ (62-2*i)%4:=by
  rw [aTb hi,show 32-(i+1)=31-i by omega,show 32-i=(31-i)+1 by omega,Nat.pow_succ,←Nat.div_div_eq_div_mul];omega
theorem aSS {i:Nat}(hi:i≤32) {root:Nat}(h:root<2 ^ i):root<4294967296:=Nat.lt_of_lt_of_le h (Nat.le_trans (Nat.pow_le_pow_right (by omega) hi) (by decide))
theorem RtAt.up {n i root rest:Nat}(h:RtAt n i root rest) (hi:i<32) (hc:2*(2*root)+1≤4*rest+n / 2 ^ (62-2*i)%4):RtAt n (i+1) (2*root+1) (4*rest+n / 2 ^ (62-2*i)%4-(2*(2*root)+1)):=by
  obtain ⟨h1,h2,h3⟩:=h;refine ⟨?_,by omega,by rw [Nat.pow_succ];omega⟩;rw [dig hi,←h1];have e:(2*root+1)*(2*root+1)=4*(root*root)+4*root+1:=by grind
  omega
theorem RtAt.st {n i root rest:Nat}(h:RtAt n i root rest) (hi:i<32) (hc:¬ 2*(2*root)+1≤4*rest+n / 2 ^ (62-2*i)%4):RtAt n (i+1) (2*root) (4*rest+n / 2 ^ (62-2*i)%4):=by
  obtain ⟨h1,h2,h3⟩:=h;refine ⟨?_,by omega,by rw [Nat.pow_succ];omega⟩;rw [dig hi,←h1];have e:(2*root)*(2*root)=4*(root*root):=by grind
  omega
theorem RtAt.ok {n root rest:Nat}(h:RtAt n 32 root rest):aBE n=root:=by
  obtain ⟨h1,h2,h3⟩:=h;rw [Nat.sub_self,Nat.pow_zero,Nat.div_one] at h1;have e:(root+1)*(root+1)=root*root+2*root+1:=by grind
  exact aFf (by omega) (by omega)
theorem RtAt.zero {n:Nat}(h:n<9223372036854775808):RtAt n 0 0 0:=⟨by rw [Nat.div_eq_of_lt (Nat.lt_of_lt_of_le h (by decide))],by omega,by simp⟩
theorem aOm {n:Nat}(h:n<18446744073709551616):aBE n<4294967296:=by
  obtain ⟨h1,_⟩:=aG9 n;rcases Nat.lt_or_ge (aBE n) 4294967296 with hl | hl
  · exact hl
  · have:=Nat.mul_le_mul hl hl;omega
abbrev aUV (Φ:Ending→World→Prop):=AtO Tryz.prog (aAr Tryz.f49) (aA2 (bodyPost Tryz.prog Tryz.f49 Φ)) [] 38
theorem aKo (m:Int) (hm:m≤9223372036854775807) (w:World):Calls Tryz.prog 49 #[vI m] w fun e w'=>e = .returned (vI (aCU m))∧Fr (fun _=>False) w w':=by
  refine beg Tryz.func49 rfl rfl [(0,vI m)] rfl rfl fun Φ hΦ=>?_;have hM:=Mm.nil (fun _=>False) w;refine seg 2 2 [(3,.int .u64 0),(4,.int .u64 0),(8,vB (decide (m<0)))] f0 ?_;cases h1:(decide (m<0))
  rotate_left
  ·have rh1:=dt h1;exact rt1 2 (vI 0) rfl f0 (hΦ _ _ ⟨by unfold aCU;rw [h1];rfl,hM.fr⟩)
  have rh1:=df h1;obtain ⟨n,rfl⟩:∃ n:Nat,m=(n:Int):=⟨m.toNat,by omega⟩;have hn:n<9223372036854775808:=by omega
  refine seg 5 0 [(9,vI 0)] f0 ?_
  have lp2:∀ (m4:Nat) (i:Nat) (root:Nat) (rest:Nat) (w2:World),i≤32→RtAt n i root rest→Mm (fun _=>False) w w2 []→m4=32-i→aUV Φ (some (5,0)) [(9,vI (i:Int)),(4,.int .u64 ((rest:Nat):Int)),(3,.int .u64 ((root:Nat):Int)),(0,vI (n:Int))] w2:=by
   refine aBh fun m4 ih3 i root rest w2 hi hr hM hm4=>?_;have hrl:=aSS hi hr.lt;have hrs:=hr.le;have hd4:n / 2 ^ (62-2*i)%4<4:=Nat.mod_lt _ (by omega);refine seg 5 1 [(10,vB (decide ((i:Int)<32)))] f0 ?_;cases h5:(decide ((i:Int)<32))
   ·have rh5:=df h5;exact rt1 2 (vI ((root:Nat):Int)) rfl (fc (aTT root (by omega)) f0) (hΦ _ _ ⟨by unfold aCU;rw [h1];rw [show i=32 by omega] at hr;rw [←hr.ok];rfl,hM.fr⟩)
   have rh5:=dt h5;refine seg 10 3 [(4,.int .u64 ((4*rest+n / 2 ^ (62-2*i)%4:Nat):Int)),(3,.int .u64 ((2*root:Nat):Int)),(6,.int .u64 ((2*(2*root)+1:Nat):Int)),(29,vB (decide (((2*(2*root)+1:Nat):Int)≤((4*rest+n / 2 ^ (62-2*i)%4:Nat):Int))))] (fc (aSI rest (by omega)) (fc (aTP n hn) (fc (aNs 2 (i:Int) u3_) (fc (aC8 62 (2*(i:Int)) u3_) (fc (aTR n (62-2*i) (z:=(62-(2*(i:Int)))) (by omega) (by omega)) (fc (aSJ (n / 2 ^ (62-2*i)) (Nat.lt_of_le_of_lt (Nat.div_le_self _ _) hn)) (fc (aTS rest (n / 2 ^ (62-2*i)%4) (by omega) (Nat.mod_lt _ (by omega))) (fc (aRx root (by omega)) (fc (aRx (2*root) (by omega)) (fc (aT2 (2*root) (by omega)) f0)))))))))) ?_;cases h6:(decide (((2*(2*root)+1:Nat):Int)≤((4*rest+n / 2 ^ (62-2*i)%4:Nat):Int)))
   ·have rh6:=df h6;refine seg 5 0 [(9,vI ((i:Int)+1))] (fc (aAh (i:Int) 1 u3_) f0) (aAb _ (ih3 _ (by omega) (i+1) _ _ _ (by omega) (hr.st (by omega) (by omega)) hM rfl))
   have rh6:=dt h6;refine seg 5 0 [(4,.int .u64 ((4*rest+n / 2 ^ (62-2*i)%4-(2*(2*root)+1):Nat):Int)),(3,.int .u64 ((2*root+1:Nat):Int)),(9,vI ((i:Int)+1))] (fc (aTQ (4*rest+n / 2 ^ (62-2*i)%4) (2*(2*root)+1) (by omega) (by omega)) (fc (aT2 root (by omega)) (fc (aAh (i:Int) 1 u3_) f0))) (aAb _ (ih3 _ (by omega) (i+1) _ _ _ (by omega) (hr.up (by omega) (by omega)) hM rfl))
  exact aAb _ (lp2 _ 0 0 0 _ (Nat.zero_le _) (RtAt.zero hn) hM rfl)
abbrev ptV (p:Pt):Value := .agg #[vI p.1,vI p.2]
def aA1 (l:List Ob) (id:Bys):Option Pt:=l.foldl (fun r o=>bif (o.kind==1)&&(o.id==id) then some (o.x,o.y) else r) none
def aAw (l:List Ob) (id:Bys):Bool:=(aA1 l id).isSome
theorem aEx (l:List Ob) (o:Ob) (id:Bys):aA1 (l++[o]) id=bif (o.kind==1)&&(o.id==id) then some (o.x,o.y) else aA1 l id:=by unfold aA1;rw [List.foldl_append];rfl
def aD1 (l:List Ob):Value→Option Value
  | .string s=>(aA1 l s.toList).map ptV
  | _=>none
theorem aIF (l:List Ob) (id:Bys):aD1 l (vS id)=(aA1 l id).map ptV:=by
  show (aA1 l (ofL id).toList).map ptV=_;rw [aAA]
theorem aOC:aD1 []=fun _=>none:=by funext v;cases v<;>rfl
theorem aQ1 {l:List Ob}{o:Ob}(h:(o.kind==1)=false):aD1 l=aD1 (l++[o]):=by
  funext v
  cases v with
  | string s=>show (aA1 l _).map _=(aA1 (l++[o]) _).map _;rw [aEx,h];rfl
  | _=>rfl
theorem aLk {s:ByteArray}{x:Bys}(h:¬ Value.string s=vS x):¬ s.toList=x:=fun e=>h (by rw [←e,vS,aJ7])
theorem aOB {l:List Ob}{o:Ob}(h:(o.kind==1)=true):upd (aD1 l) (vS o.id) (ptV (o.x,o.y))=aD1 (l++[o]):=by
  funext v
  by_cases e:v=vS o.id
  · subst e;rw [aBI,aIF,aEx,h];simp
  · rw [aBs _ e]
    cases v with
    | string s =>
      show (aA1 l _).map _=(aA1 (l++[o]) _).map _;have h2:(o.id==s.toList)=false:=beq_eq_false_iff_ne.2 fun z=>aLk e z.symm;rw [aEx,h2,Bool.and_false];rfl
    | _=>rfl
def aFC (N:Bys→Bool) (l:List ObR) (id:Bys):Option ObR:=l.foldl (fun r b=>bif ((b.o.kind==2)&&b.o.refs.all N)&&(b.o.id==id) then some b else r) none
theorem aEZ (N:Bys→Bool) (l:List ObR) (b:ObR) (id:Bys):aFC N (l++[b]) id=bif ((b.o.kind==2)&&b.o.refs.all N)&&(b.o.id==id) then some b else aFC N l id:=by unfold aFC;rw [List.foldl_append];rfl
abbrev rfV (b:ObR):Value:=vL b.pr b.o.refs.length b.cr
def aEr (N:Bys→Bool) (l:List ObR):Value→Option Value
  | .string s=>(aFC N l s.toList).map rfV
  | _=>none
theorem aIu (N:Bys→Bool) (l:List ObR) (id:Bys):aEr N l (vS id)=(aFC N l id).map rfV:=by
  show (aFC N l (ofL id).toList).map rfV=_;rw [aAA]
theorem aN9 (N:Bys→Bool):aEr N []=fun _=>none:=by funext v;cases v<;>rfl
theorem aLh {N:Bys→Bool}{l:List ObR}{b:ObR}(h:((b.o.kind==2)&&b.o.refs.all N)=false):aEr N l=aEr N (l++[b]):=by
  funext v
  cases v with
  | string s=>show (aFC N l _).map _=(aFC N (l++[b]) _).map _;rw [aEZ,h];rfl
  | _=>rfl
theorem aN8 {N:Bys→Bool}{l:List ObR}{b:ObR}(h:((b.o.kind==2)&&b.o.refs.all N)=true):upd (aEr N l) (vS b.o.id) (rfV b)=aEr N (l++[b]):=by
  funext v
  by_cases e:v=vS b.o.id
  · subst e;rw [aBI,aIu,aEZ,h];simp
  · rw [aBs _ e]
    cases v with
    | string s =>
      show (aFC N l _).map _=(aFC N (l++[b]) _).map _;have h2:(b.o.id==s.toList)=false:=beq_eq_false_iff_ne.2 fun z=>aLk e z.symm;rw [aEZ,h2,Bool.and_false];rfl
    | _=>rfl
theorem aRW {P:Program}{w:World}(T:Nat) {K e:TypeId}{b c:Nat}{m:Value→Option Value}(key z:Value) (hm:aCj P K w b c m) (LK:Maps.Keyed P K) (ht:P.underlying T=some (.map K e)) (hk:∃ l,keyOf P K key=some l) (hz:(zeroValue e).run P w = .ok z w):Ft.ok P w (.g2 (fun x y => .lookup T x y true) (.map (some b)) key (.tuple #[(m key).getD z,.bool (m key).isSome])):=fun o ρ x y ho hx hy=>by
  obtain ⟨l,hk⟩:=hk;have:=hm.at.look_ok LK ht hk hz;simp only [execOp,ho,hx,hy,Sem.run_bind,this,Result.andThen_ok,Sem.run_pure]
theorem aKX (w:World):(zeroValue 41).run Tryz.prog w = .ok (ptV (0,0)) w:=by kernel_rfl
theorem aRQ (l:List Ob) (s:Bys):(.tuple #[((aD1 l) (vS s)).getD (ptV (0,0)),.bool ((aD1 l) (vS s)).isSome]:Value) = .tuple #[ptV ((aA1 l s).getD (0,0)),vB (aAw l s)]:=by
  rw [aIF];unfold aAw;cases aA1 l s<;>rfl
theorem aMU {w:World}{B:Nat}{p:Option Addr}{cap:Nat}{L:List Bys}{f:FuncId}{caps:Array Value}{G:Nat→Prop}(hs:SrcB stL 1 w B p cap L) (hG:∀ k,G k→B≤k) (eg:aEM Tryz.prog f) (q:Bys→Bool) (hc:∀ x∈L,∀ w1,Fr G w w1→Calls Tryz.prog f (#[vS x]++caps) w1 fun e w2=>e = .returned (vB (q x))∧Fr G w1 w2):Calls Tryz.prog 35 #[vL p L.length cap,.func (.func f) #[] caps] w fun e w'=>e = .returned (vB (L.any q))∧Fr G w w':=by
  refine (aHX hs hG eg (fun _ _=>True) (fun i=>match L[i]? with | some x=>q x | none=>false) trivial fun i x w1 hx _ _ f1=>(hc x (gm hx) w1 f1).mono fun e w2 h=>⟨by rw [h.1];simp only [hx],trivial,h.2⟩).mono fun e w' h=>?_;obtain ⟨⟨z,h1,h2⟩,h3⟩:=h;refine ⟨?_,h3⟩;rw [h1]
  cases h2 with
  | none hq _ =>
    have:L.any q=false:=by
      rw [List.any_eq_false];intro x hx;obtain ⟨i,hi,rfl⟩:=List.mem_iff_getElem.1 hx;have:=hq i hi;simp only [List.getElem?_eq_getElem hi] at this;rw [this];simp
    rw [this];rfl
  | some i hi hw _ _ =>
    simp only [List.getElem?_eq_getElem hi] at hw;have:L.any q=true:=List.any_eq_true.2 ⟨_,List.getElem_mem hi,hw⟩;rw [this,decide_eq_true (by omega)]
theorem aMh {w:World}{b4 bn b1 b2 n1:Nat}{v:Value}{L:List Ob}{s:Bys}(hs:B63 s) (h4:w.heap[b4]?=some (.cells #[vP bn 0] 74 (0,0))) (hn:w.heap[bn]?=some (.cells #[v,.map (some b1),.map (some b2)] 122 (0,0))) (hm:aCj Tryz.prog 9 w b1 n1 (aD1 L)):Calls Tryz.prog 47 #[vS s,vP b4 0] w fun e w'=>e = .returned (vB (!(aAw L s)))∧Fr (fun _=>False) w w':=by
  refine beg Tryz.func47 rfl rfl [(0,vS s),(1,vP b4 0)] rfl rfl fun Φ hΦ=>?_;have hM:=Mm.nil (fun _=>False) w;refine aBD 1 9 4 [(13,.agg #[vI ((aA1 L s).getD (0,0)).1,vI ((aA1 L s).getD (0,0)).2]),(14,vB (aAw L s))] [] 41 (.agg #[vI ((aA1 L s).getD (0,0)).1,vI ((aA1 L s).getD (0,0)).2]) (fc (ld0 74 hM (bx h4 0 rfl)) (fc (ld0 119 hM (bx hn 1 rfl)) (fc (rz2 (aRW 119 (vS s) (ptV (0,0)) hm aDw u119_ (aDx hs) (aKX _)) (aRQ L s)) f0))) hM fun aa w1 hM=>rt1 3 (vB (!(aAw L s))) rfl f0 (hΦ _ _ ⟨rfl,hM.fr⟩)
abbrev aTh (bn b1 b2 n1 n2:Nat) (v:Value) (l:List ObR):List Ent:=[bk bn #[v,.map (some b1),.map (some b2)] 122,mp Tryz.prog 9 b1 n1 (aD1 (aAa l)),mp Tryz.prog 9 b2 n2 (aEr (aAw (aAa l)) l)]
theorem aRh (L:List Bys) (N:Bys→Bool):(!(L.any fun s => !(N s)))=L.all N:=by rw [List.not_any_eq_all_not];simp
abbrev A91 (Φ:Ending→World→Prop):=AtO Tryz.prog (aAr Tryz.f19) (aA2 (bodyPost Tryz.prog Tryz.f19 Φ)) [] 64
theorem aJ6 {w:World}{v:Value}{os:List ObR}(hm:aDy w v os):Calls Tryz.prog 19 #[.agg #[v]] w fun e w'=>(aAe (aAa os)=false→e = .returned (.tuple #[.pointer none,vB false])∧Fr (fun _=>False) w w')∧(aAe (aAa os)=true→∃ bn b1 b2 n1 n2,e = .returned (.tuple #[vP bn 0,vB true])∧Mm (fun _=>False) w w' (aTh bn b1 b2 n1 n2 v os)):=by
  have hm0:=hm;obtain ⟨hs0,hob⟩:=hm0;obtain ⟨p0,cp0,hp0,sp0⟩:=hs0.op;subst hp0;have bp0:=sp0.bnd;refine beg Tryz.func19 rfl rfl [(0,.agg #[vL p0 os.length cp0])] rfl rfl fun Φ hΦ=>?_;have hM:=Mm.nil (fun _=>False) w;refine aAn 0 0 1 [] (cs:=#[vL p0 os.length cp0]) (T:=24) (v:=fun b=>vP b 0) f0 hM fun ae w1 hM=>aAq 1 1 10 [(9,.agg #[vL p0 os.length cp0])] (fc (lam 24 0 0 1 hM rfl) f0) hM (aB5 (hm.fr hM.fr)) fun w1 hM=>seg 1 3 [(11,vB (!(aAe (aAa os))))] f0 ?_;cases h33:(aAe (aAa os))
  ·exact rt2 2 3 (.pointer none) (vB false) rfl rfl f0 (hΦ _ _ ⟨fun _=>⟨rfl,hM.fr⟩,fun h=>absurd (h33.symm.trans h) (by simp)⟩)
  refine aFk 3 2 14 [(13,vL p0 os.length cp0)] 9 (fc (ldm 22 0 0 hM rfl rfl) f0) hM fun aa w1 hM=>aFk 3 3 15 [] 9 f0 hM fun ab w1 hM=>aAn 3 5 17 [(16,.agg #[vL p0 os.length cp0,.map (some aa),.map (some ab)])] (cs:=#[vL p0 os.length cp0,.map (some aa),.map (some ab)]) (T:=122) (v:=fun b=>vP b 0) f0 hM fun ac w1 hM=>aBD 3 6 4 [] [] 74 (vP ac 0) f0 hM fun ad w1 hM=>?_;have hM:=hM.cast (M':=[bk ae #[vL p0 os.length cp0] 24,mp Tryz.prog 9 aa 0 (aD1 ((aAa os).take 0)),mp Tryz.prog 9 ab 0 (fun _=>none),bk ac #[vL p0 os.length cp0,.map (some aa),.map (some ab)] 122,bk ad #[vP ac 0] 74]) (by rw [List.take_zero,aOC];(try rfl));refine seg 5 0 [(19,vL p0 os.length cp0),(20,vI (os.length:Int)),(21,vI 0)] (fc (ldm 22 0 0 hM rfl rfl) f0) ?_
  have al:∀ (ai:Nat) (i:Nat) (n:Nat) (w2:World),i≤os.length→Mm (fun _=>False) w w2 [bk ae #[vL p0 os.length cp0] 24,mp Tryz.prog 9 aa n (aD1 ((aAa os).take i)),mp Tryz.prog 9 ab 0 (fun _=>none),bk ac #[vL p0 os.length cp0,.map (some aa),.map (some ab)] 122,bk ad #[vP ac 0] 74]→ai=os.length-i→A91 Φ (some (5,0)) [(21,vI (i:Int)),(20,vI (os.length:Int)),(19,vL p0 os.length cp0),(4,vP ad 0),(1,vP ae 0)] w2:=by
   refine aBh fun ai aj i n w2 hi hM av=>seg 5 1 [(22,vB (decide ((i:Int)<(os.length:Int))))] f0 ?_;cases h41:(decide ((i:Int)<(os.length:Int)))
   rotate_left
   ·have am:=dt h41;obtain ⟨y,hy,aw,ax,q51,an⟩:=sp0.el (i:=i) (by omega);refine aBD 6 2 6 [(24,.agg #[vS y.o.id,vI y.o.kind,vI y.o.x,vI y.o.y,vL y.pr y.o.refs.length y.cr,vL y.pt y.o.tags.length y.ct])] [] 52 (.agg #[vS y.o.id,vI y.o.kind,vI y.o.x,vI y.o.y,vL y.pr y.o.refs.length y.cr,vL y.pt y.o.tags.length y.ct]) (fc (ix 22 cp0 q51 (gl hy)) (fc (la0 52 hM an) f0)) hM fun ag w1 hM=>seg 7 3 [(27,vB (y.o.kind==1))] (fc (ldm 3 5 1 hM rfl rfl) f0) ?_;cases h53:(y.o.kind==1)
    ·have ao:=ef h53;refine seg 5 0 [(21,vI ((i:Int)+1))] (fc (aAh (i:Int) 1 u3_) f0) ?_;have e9:(aD1 ((aAa os).take i))=aD1 ((aAa os).take (i+1)):=by rw [gt_ (aA4 hy)];exact aQ1 h53
     replace hM:Mm (fun _=>False) w _ [bk ae #[vL p0 os.length cp0] 24,mp Tryz.prog 9 aa n (aD1 ((aAa os).take (i+1))),mp Tryz.prog 9 ab 0 (fun _=>none),bk ac #[vL p0 os.length cp0,.map (some aa),.map (some ab)] 122,bk ad #[vP ac 0] 74,bk ag #[vS y.o.id,vI y.o.kind,vI y.o.x,vI y.o.y,vL y.pr y.o.refs.length y.cr,vL y.pt y.o.tags.length y.ct] 52]:=e9▸hM;exact aAb _ (aj _ (by omega) (i+1) n _ (gl hy) (hM.pick [0,1,2,3,4]) rfl)
    have ao:=et h53;refine seg 8 0 [] f0 (drx [8] (fun γ=>[none]) _ (fun γ l=>[bk ae #[vL p0 os.length cp0] 24,(bif l.getD 0 false then mp Tryz.prog 9 aa (n+1) (upd (aD1 ((aAa os).take i)) (vS y.o.id) (.agg #[vI y.o.x,vI y.o.y])) else mp Tryz.prog 9 aa n (aD1 ((aAa os).take i))),mp Tryz.prog 9 ab 0 (fun _=>none),bk ac #[vL p0 os.length cp0,.map (some aa),.map (some ab)] 122,bk ad #[vP ac 0] 74,bk ag #[vS y.o.id,vI y.o.kind,vI y.o.x,vI y.o.y,vL y.pr y.o.refs.length y.cr,vL y.pt y.o.tags.length y.ct] 52]) (fun γ=>[]) hM (fun γ=>rfl) (fun γ l w5 hM=>(fc (ldm 74 4 0 hM rfl rfl) (fc (ldm 119 3 1 hM rfl rfl) (fc (ldm 9 5 0 hM rfl rfl) (fc (lam 41 5 2 2 hM rfl) f0))))) ⟨aEm 0 8 119 1 (fun γ=>aa) n (aD1 ((aAa os).take i)) (fun γ=>vS y.o.id) (fun γ => .agg #[vI y.o.x,vI y.o.y]) aDw u119_ (fun γ=>(aDx (hob _ (gm hy)).bnd.id)),trivial⟩ fun ay w1 hM=>?_);replace hM:Mm (fun _=>False) w w1 [bk ae #[vL p0 os.length cp0] 24,_,_,bk ac #[vL p0 os.length cp0,.map (some aa),.map (some ab)] 122,bk ad #[vP ac 0] 74,bk ag #[vS y.o.id,vI y.o.kind,vI y.o.x,vI y.o.y,vL y.pr y.o.refs.length y.cr,vL y.pt y.o.tags.length y.ct] 52]:=hM;refine seg 5 0 [(21,vI ((i:Int)+1))] (fc (aAh (i:Int) 1 u3_) f0) ?_;have e9:(upd (aD1 ((aAa os).take i)) (vS y.o.id) (.agg #[vI y.o.x,vI y.o.y]))=aD1 ((aAa os).take (i+1)):=by rw [gt_ (aA4 hy)];exact aOB h53
    replace hM:Mm (fun _=>False) w _ [bk ae #[vL p0 os.length cp0] 24,mp Tryz.prog 9 aa (n+1) (aD1 ((aAa os).take (i+1))),mp Tryz.prog 9 ab 0 (fun _=>none),bk ac #[vL p0 os.length cp0,.map (some aa),.map (some ab)] 122,bk ad #[vP ac 0] 74,bk ag #[vS y.o.id,vI y.o.kind,vI y.o.x,vI y.o.y,vL y.pr y.o.refs.length y.cr,vL y.pt y.o.tags.length y.ct] 52]:=e9▸hM;exact aAb _ (aj _ (by omega) (i+1) (n+1) _ (gl hy) (hM.pick [0,1,2,3,4]) rfl)
   have am:=df h41;have ei:(aAa os).take i=aAa os:=List.take_of_length_le (by rw [aA3];omega);rw [ei] at hM;have hM:=hM.cast (M':=[bk ae #[vL p0 os.length cp0] 24,mp Tryz.prog 9 aa n (aD1 (aAa os)),mp Tryz.prog 9 ab 0 (aEr (aAw (aAa os)) (os.take 0)),bk ac #[vL p0 os.length cp0,.map (some aa),.map (some ab)] 122,bk ad #[vP ac 0] 74]) (by rw [List.take_zero,aN9];(try rfl));refine seg 11 0 [(38,vL p0 os.length cp0),(39,vI (os.length:Int)),(40,vI 0)] (fc (ldm 22 0 0 hM rfl rfl) f0) ?_
   have ap:∀ (ak:Nat) (i2:Nat) (n2:Nat) (w2:World),i2≤os.length→Mm (fun _=>False) w w2 [bk ae #[vL p0 os.length cp0] 24,mp Tryz.prog 9 aa n (aD1 (aAa os)),mp Tryz.prog 9 ab n2 (aEr (aAw (aAa os)) (os.take i2)),bk ac #[vL p0 os.length cp0,.map (some aa),.map (some ab)] 122,bk ad #[vP ac 0] 74]→ak=os.length-i2→A91 Φ (some (11,0)) [(40,vI (i2:Int)),(39,vI (os.length:Int)),(38,vL p0 os.length cp0),(4,vP ad 0)] w2:=by
    refine aBh fun ak ah i2 n2 w2 hi2 hM az=>seg 11 1 [(41,vB (decide ((i2:Int)<(os.length:Int))))] f0 ?_;cases h45:(decide ((i2:Int)<(os.length:Int)))
    ·have aq:=df h45;have e8:os.take i2=os:=List.take_of_length_le (by omega);rw [e8] at hM;exact rt2 2 3 (vP ac 0) (vB true) rfl rfl (fc (ldm 74 4 0 hM rfl rfl) f0) (hΦ _ _ ⟨fun h=>absurd (h.symm.trans h33) (by simp),fun _=>⟨_,_,_,_,_,rfl,hM.pick [3,1,2]⟩⟩)
    have aq:=dt h45;obtain ⟨y2,hy2,a0,a1,q46,ar⟩:=sp0.el (i:=i2) (by omega);refine aBD 12 2 8 [(43,.agg #[vS y2.o.id,vI y2.o.kind,vI y2.o.x,vI y2.o.y,vL y2.pr y2.o.refs.length y2.cr,vL y2.pt y2.o.tags.length y2.ct])] [] 52 (.agg #[vS y2.o.id,vI y2.o.kind,vI y2.o.x,vI y2.o.y,vL y2.pr y2.o.refs.length y2.cr,vL y2.pt y2.o.tags.length y2.ct]) (fc (ix 22 cp0 q46 (gl hy2)) (fc (la0 52 hM ar) f0)) hM fun af w1 hM=>seg 13 4 [(47,vB (y2.o.kind==2))] (fc (ldm 3 5 1 hM rfl rfl) f0) ?_;cases h48:(y2.o.kind==2)
    ·have au:=ef h48;refine seg 11 0 [(40,vI ((i2:Int)+1))] (fc (aAh (i2:Int) 1 u3_) f0) ?_;have e9:(aEr (aAw (aAa os)) (os.take i2))=(aEr (aAw (aAa os)) (os.take (i2+1))):=by rw [gt_ hy2];exact aLh (by rw [h48];rfl)
     replace hM:Mm (fun _=>False) w _ [bk ae #[vL p0 os.length cp0] 24,mp Tryz.prog 9 aa n (aD1 (aAa os)),mp Tryz.prog 9 ab n2 (aEr (aAw (aAa os)) (os.take (i2+1))),bk ac #[vL p0 os.length cp0,.map (some aa),.map (some ab)] 122,bk ad #[vP ac 0] 74,bk af #[vS y2.o.id,vI y2.o.kind,vI y2.o.x,vI y2.o.y,vL y2.pr y2.o.refs.length y2.cr,vL y2.pt y2.o.tags.length y2.ct] 52]:=e9▸hM;exact aAb _ (ah _ (by omega) (i2+1) n2 _ (gl hy2) (hM.pick [0,1,2,3,4]) rfl)
    have au:=et h48;refine aAq 13 7 51 [(49,vL y2.pr y2.o.refs.length y2.cr),(50,.func (.func 47) #[] #[vP ad 0])] (fc (ldm 27 5 4 hM rfl rfl) f0) hM ((aMU (((hob _ (gm hy2)).refs.fr hM.fr).b (Fr.refl _ _)) (fun _ h=>h.elim) (enters_of Tryz.func47 (by kernel_rfl) rfl) (fun s => !(aAw (aAa os) s)) fun z hz w9 f9=>by rw [aRg];exact aMh ((hob _ (gm hy2)).bnd.refs z hz) (f9.obj (hM.get 4 rfl) fun h=>h) (f9.obj (hM.get 3 rfl) fun h=>h) ((hM.get 1 rfl:aCj _ _ _ _ _ _).fr f9 fun h=>h)).mono fun e w9 h=>⟨h.1.trans (by rw [show (y2.o.refs.any fun s => !(aAw (aAa os) s)) = !(y2.o.refs.all (aAw (aAa os))) by rw [←aRh,Bool.not_not]]),h.2⟩) fun w1 hM=>seg 13 10 [(53,vB (!(!(y2.o.refs.all (aAw (aAa os))))))] f0 ?_;cases h49:(y2.o.refs.all (aAw (aAa os)))
    ·refine seg 11 0 [(40,vI ((i2:Int)+1))] (fc (aAh (i2:Int) 1 u3_) f0) ?_;have e9:(aEr (aAw (aAa os)) (os.take i2))=(aEr (aAw (aAa os)) (os.take (i2+1))):=by rw [gt_ hy2];exact aLh (by rw [h49,Bool.and_false])
     replace hM:Mm (fun _=>False) w _ [bk ae #[vL p0 os.length cp0] 24,mp Tryz.prog 9 aa n (aD1 (aAa os)),mp Tryz.prog 9 ab n2 (aEr (aAw (aAa os)) (os.take (i2+1))),bk ac #[vL p0 os.length cp0,.map (some aa),.map (some ab)] 122,bk ad #[vP ac 0] 74,bk af #[vS y2.o.id,vI y2.o.kind,vI y2.o.x,vI y2.o.y,vL y2.pr y2.o.refs.length y2.cr,vL y2.pt y2.o.tags.length y2.ct] 52]:=e9▸hM;exact aAb _ (ah _ (by omega) (i2+1) n2 _ (gl hy2) (hM.pick [0,1,2,3,4]) rfl)
    refine seg 14 0 [] f0 (drx [8] (fun γ=>[none]) _ (fun γ l=>[bk ae #[vL p0 os.length cp0] 24,mp Tryz.prog 9 aa n (aD1 (aAa os)),(bif l.getD 0 false then mp Tryz.prog 9 ab (n2+1) (upd (aEr (aAw (aAa os)) (os.take i2)) (vS y2.o.id) (vL y2.pr y2.o.refs.length y2.cr)) else mp Tryz.prog 9 ab n2 (aEr (aAw (aAa os)) (os.take i2))),bk ac #[vL p0 os.length cp0,.map (some aa),.map (some ab)] 122,bk ad #[vP ac 0] 74,bk af #[vS y2.o.id,vI y2.o.kind,vI y2.o.x,vI y2.o.y,vL y2.pr y2.o.refs.length y2.cr,vL y2.pt y2.o.tags.length y2.ct] 52]) (fun γ=>[]) hM (fun γ=>rfl) (fun γ l w5 hM=>(fc (ldm 74 4 0 hM rfl rfl) (fc (ldm 120 3 2 hM rfl rfl) (fc (ldm 9 5 0 hM rfl rfl) (fc (ldm 27 5 4 hM rfl rfl) f0))))) ⟨aEm 0 8 120 2 (fun γ=>ab) n2 (aEr (aAw (aAa os)) (os.take i2)) (fun γ=>vS y2.o.id) (fun γ=>vL y2.pr y2.o.refs.length y2.cr) aDw u120_ (fun γ=>(aDx (hob _ (gm hy2)).bnd.id)),trivial⟩ fun a2 w1 hM=>?_);replace hM:Mm (fun _=>False) w w1 [bk ae #[vL p0 os.length cp0] 24,_,_,bk ac #[vL p0 os.length cp0,.map (some aa),.map (some ab)] 122,bk ad #[vP ac 0] 74,bk af #[vS y2.o.id,vI y2.o.kind,vI y2.o.x,vI y2.o.y,vL y2.pr y2.o.refs.length y2.cr,vL y2.pt y2.o.tags.length y2.ct] 52]:=hM;refine seg 11 0 [(40,vI ((i2:Int)+1))] (fc (aAh (i2:Int) 1 u3_) f0) ?_;have e9:(upd (aEr (aAw (aAa os)) (os.take i2)) (vS y2.o.id) (vL y2.pr y2.o.refs.length y2.cr))=(aEr (aAw (aAa os)) (os.take (i2+1))):=by rw [gt_ hy2];exact aN8 (by rw [h48,h49];rfl)
    replace hM:Mm (fun _=>False) w _ [bk ae #[vL p0 os.length cp0] 24,mp Tryz.prog 9 aa n (aD1 (aAa os)),mp Tryz.prog 9 ab (n2+1) (aEr (aAw (aAa os)) (os.take (i2+1))),bk ac #[vL p0 os.length cp0,.map (some aa),.map (some ab)] 122,bk ad #[vP ac 0] 74,bk af #[vS y2.o.id,vI y2.o.kind,vI y2.o.x,vI y2.o.y,vL y2.pr y2.o.refs.length y2.cr,vL y2.pt y2.o.tags.length y2.ct] 52]:=e9▸hM;exact aAb _ (ah _ (by omega) (i2+1) (n2+1) _ (gl hy2) (hM.pick [0,1,2,3,4]) rfl)
   exact aAb _ (ap _ 0 0 _ (Nat.zero_le _) hM rfl)
  exact aAb _ (al _ 0 0 _ (Nat.zero_le _) hM rfl)
end Go.Proofs.YtnhljdeohelgjaaGreatDoor
namespace Go.Pl
open Go.RowKit
section
variable {P:Program}{B:Code}{n:Nat}{p:Option (Nat×Nat)}{L:Frm}{w w0:World}{F:List Ft}{F0:Nat→Prop}{M:List Ent}{fn:Func}{Φ:Ending→World→Prop}
abbrev aLe (P:Program) (fn:Func) (Φ:Ending→World→Prop):Pst:=⟨bodyPostD P fn Φ,none⟩
theorem aTL {f:FuncId}{args:Array Value}(hf:P.funcs[f]?=some fn) (hb:fn.body=some B) (hn:fn.ntmps=n) (L:Frm) (hL:L=(List.range args.size).zip args.toList) (hs:Nat.ble args.size n=true) (k:∀ Φ':Ending→World→Prop,(∀ e w',Φ e w'→Φ' e w')→AtO P B (aLe P fn Φ') [] n none L w):Calls P f args w Φ:=by
 have hs:args.size≤n:=Nat.le_of_ble_eq_true hs;exact calls_of_wp_defers hf hb (wpIn_wide.1 (k Φ (fun _ _ h=>h) _ (aGZ hn hL hs)))
end
section
variable {P:Program}{B:Code}{R:Pst}{ds:List Deferred}{n:Nat}{p:Option (Nat×Nat)}{L:Frm}{w w0:World}{F:List Ft}{F0:Nat→Prop}{M A Ms:List Ent}
def aSo (n:Nat) (LL:Frm):Md→Option (Option Bool×Bool×Option Value)
 | .ops _ O (o::_) _ _=>match o.op with
  | .defer ⟨.value x,args,ts⟩=>some (aCp O LL n o,o.dst.isNone&&args.isEmpty&&ts.isEmpty,opv LL x)
  | _=>none
 | _=>none
theorem dfr (r' i':Nat) (N:Frm) (f:FuncId) (cs:Array Value) (hF:aAM P w F) (k:AtO P B R ({ target := .fn (.func f) cs,args:=#[] }::ds) n (some (r',i'+1)) (N++L) w) (hR:R.rd=none)
  (h:(lhs (go P w n B p L r' i' F) N L,(go P w n B p L r' i' F).bind fun x=>aSo n (x.2.1++L) x.1)=(rhs (go P w n B p L r' i' F) N B r' i',some (some true,true,some (.func (.func f) #[] cs))):=by kernel_rfl):AtO P B R ds n p L w:=by
 obtain ⟨h1,h2⟩:=Prod.mk.inj h;obtain ⟨m,nw,fs,es,hx,hE,⟨z,hl,ht⟩,hs⟩:=aDD h1;rw [hx] at h2;obtain ⟨O,dr,kk,hf,hk⟩:=k;refine aGU hx hF hE fun a E=>?_;unfold aSo at h2;unfold aHu at ht;rw [hf] at ht
 cases m with
 | ops r O1 l i k1 =>
  cases l with
  | nil=>cases h2
  | cons o l =>
   simp only [Option.bind_some] at h2
   split at h2
   ·rename_i x args ts hop;simp only [Option.some.injEq,Prod.mk.injEq,Bool.and_eq_true] at h2;obtain ⟨g1,⟨⟨g2,g3⟩,g4⟩,g5⟩:=h2;have ha:args=#[]:=Array.isEmpty_iff.1 g3;have hts:ts=#[]:=Array.isEmpty_iff.1 g4;subst ha hts;have hd:o.dst=none:=by simpa using g2
    have hr:(execOp a.eval o).run P w = .ok (.defer { target := .fn (.func f) cs,args:=#[] }) w:=by
     have hg:∀ ρ:Operand→Value,ρ x = .func (.func f) #[] cs→(execOp ρ o).run P w = .ok (.defer { target := .fn (.func f) cs,args:=#[] }) w:=by
      intro ρ hx;simp [execOp,hop,hx,go_sem]
     exact hg _ (E.opv g5)
    have hE2:EnvS ({ target := .fn (.func f) cs,args:=#[] }::ds) n (N++L) { a with defers:={ target := .fn (.func f) cs,args:=#[] }::a.defers }:=⟨(E.sub hs).size,(E.sub hs).at_,by show _::a.defers=_::ds;rw [E.df]⟩;have hk:=hk _ hE2
    cases dr with
    | true =>
     cases i' with
     | zero=>cases ht;cases hl
     | succ i'=>cases ht
    | false =>
    cases ht;have hl:(some (O1,false,k1,o::l,0):Option (Array Oper×Bool×List Kon×List Oper×Nat))=some (O,false,kk,O.toList.drop i',0):=hl;simp only [Option.some.injEq,Prod.mk.injEq] at hl;obtain ⟨rfl,_,rfl,hl,_⟩:=hl;have hdr:O1.toList.drop (i'+1)=l:=by rw [←List.tail_drop,←hl];rfl
    have hk:wpListIn (fen R.rd) 0 P O1 (post P R k1) (O1.toList.drop (i'+1)) { a with defers:={ target := .fn (.func f) cs,args:=#[] }::a.defers } w:=hk;rw [hdr] at hk;show wpListIn (fen R.rd) 0 P O1 (post P R k1) (o::l) a w;refine aH1 (aBN g1 E) ⟨fun _ _=>trivial,?_⟩
    have hr9:(o.semAt (fen R.rd).round a.eval).run P w = .ok (.defer { target := .fn (.func f) cs,args:=#[] }) w:=by
     have:(fen R.rd).round=none:=hR;rw [this,Oper.semAt_none];exact hr
    rw [hr9,Oper.uponIn_defer,hd];exact hk
   ·cases h2
 | _=>cases h2
theorem opp (r' i' d:Nat) (N:Frm) {v:Value}(hF:aAM P w F) (k:AtO P B R ds n (some (r',i'+1)) ((d,v)::(N++L)) w) (h:(lhs (go P w n B p L r' i' F) N L,aHC P w n L (go P w n B p L r' i' F))=(rhs (go P w n B p L r' i' F) N B r' i',some (d,.ok (.value v,w))):=by kernel_rfl):AtO P B R ds n p L w:=opx r' i' d N hF k h
theorem aTf (r' i' d:Nat) (N:Frm) {cs:Array Value}{T:TypeId}{v:Nat→Value}(hF:aAM P w F) (hM:Mm F0 w0 w M) (k:∀ b w',Fr (fun _=>False) w w'→w.heap.size≤b→Mm F0 w0 w' (M++[bk b cs T])→AtO P B R ds n (some (r',i'+1)) ((d,v b)::(N++L)) w') (h:(lhs (go P w n B p L r' i' F) N L,aHC P w n L (go P w n B p L r' i' F))=(rhs (go P w n B p L r' i' F) N B r' i',some (d,.ok (.value (v w.heap.size),w.alloc (.cells cs T)))):=by kernel_rfl):AtO P B R ds n p L w :=
 opx r' i' d N hF (k _ _ ((Fr.refl _ _).alloc _) (Nat.le_refl _) (hM.add ((Fr.refl _ _).alloc _) _ (aAQ _ _) fun k e=>by have:k=w.heap.size:=e;omega)) h
theorem aTq (r' i' d:Nat) (N:Frm) {g:FuncId}{args:Array Value}{ch:List PanicEntry}(is js:List Nat) (hF:aAM P w F) (hM:Mm F0 w0 w M) (hA:aBw M is=A) (hS:aBw M js=Ms) (hn:(is++js).Nodup) (hc:Mm (BlM Ms) w w Ms→Calls P g args w fun e w'=>e = .panicked ch∧Fr (BlM Ms) w w') (k:∀ a w',Mm F0 w0 w' A→EnvS ds n (N++L) a→R.q (.panic ch) a w') (h:(lhs (go P w n B p L r' i' F) N L,aHC P w n L (go P w n B p L r' i' F))=(rhs (go P w n B p L r' i' F) N B r' i',some (d,.ok (.enter g args,w))):=by kernel_rfl):AtO P B R ds n p L w :=
 aGI hF h fun O kk o l a hf hd1 E hd hdn hw hr=>by
  have hp:aBw M (is++js)=A++Ms:=by rw [←hA,←hS,aDZ]
  have hM1:=hM.pick (is++js) hp hn;have hMs:Mm F0 w0 w Ms:=hM.pick js hS (List.nodup_append.1 hn).2.1;refine aH1 hw (aIt (R:=fun _ _=>False) (Rp:=fun c w'=>c=ch∧Fr (BlM Ms) w w') hr ((hc (hMs.re fun e he k hk=>⟨e,he,hk⟩)).mono fun e w' h => .inr ⟨ch,h.1,rfl,h.2⟩) (fun _ _ h=>h.elim) fun c w' ⟨hc,hf9⟩=>?_);subst hc;have h9:Mm (BlM Ms) w w' []:=⟨hf9,fun _ h=>(by cases h),fun _ h=>(by cases h),.nil⟩;have h8:=hM1.call h9 fun _ _ h=>h;rw [List.append_nil] at h8;exact aB0 (k a w' h8 E)
end
section
variable {P:Program}{B:Code}{n:Nat}{p:Option (Nat×Nat)}{L:Frm}{w w0:World}{F:List Ft}{F0:Nat→Prop}{M:List Ent}{fn:Func}{Φ:Ending→World→Prop}{t2 t3 t4 T2 T3 T4 b2 b3 b4:Nat}{v2 v3 v4:Value}
theorem aRD {f:FuncId}{cs:Array Value}(hi:∀ w,(invoke (.fn (.func f) cs) #[]).run P w = .ok (.enter f cs) w) (j2 j3 j4:Nat) (hr:fn.results=#[.cell t2 T2,.cell t3 T3,.cell t4 T4]) (hd:CallsD P f cs .returning w fun e u w'=>e = .returned (.tuple #[])∧u = .returning∧w'=w) (hF:aAM P w F) (hM:Mm F0 w0 w M) (m2:M[j2]?=some (bk b2 #[v2] T2)) (m3:M[j3]?=some (bk b3 #[v3] T3)) (m4:M[j4]?=some (bk b4 #[v4] T4)) (k:Φ (.returned (.tuple #[v2,v3,v4])) w)
  (hs:(scT P T2,scT P T3,scT P T4,look [(t2,vP b2 0),(t3,vP b3 0),(t4,vP b4 0)] t3,look [(t2,vP b2 0),(t3,vP b3 0),(t4,vP b4 0)] t4)=(true,true,true,some (vP b3 0),some (vP b4 0)):=by kernel_rfl)
  (h:aMI (go P w n B p L 1000000 0 F) [(t2,vP b2 0),(t3,vP b3 0),(t4,vP b4 0)] L=aJH (go P w n B p L 1000000 0 F) [(t2,vP b2 0),(t3,vP b3 0),(t4,vP b4 0)]:=by kernel_rfl):AtO P B (aLe P fn Φ) [{ target := .fn (.func f) cs,args:=#[] }] n p L w:=by
 simp only [Prod.mk.injEq] at hs;obtain ⟨s1,s2,s3,s4,s5⟩:=hs;refine aMH _ hF h fun a E=>?_
 have hL:Leaves P fn a.tmps Φ a.defers .returning w:=by
  rw [E.df];refine leaves_cons (f:=f) (args:=cs) (by simp) (hi _) (hd.mono ?_);rintro e u w8 ⟨rfl,rfl,rfl⟩;exact ⟨_,aOo hr (E.at_ t2 _ (by simp [look])) (E.at_ t3 _ s4) (E.at_ t4 _ s5) j2 j3 j4 m2 m3 m4 (by rw [s1,s2,s3]) hM,k⟩
 exact ⟨hL,hL⟩
theorem aST (j2 j3 j4:Nat) (hr:fn.results=#[.cell t2 T2,.cell t3 T3,.cell t4 T4]) (hF:aAM P w F) (hM:Mm F0 w0 w M) (m2:M[j2]?=some (bk b2 #[v2] T2)) (m3:M[j3]?=some (bk b3 #[v3] T3)) (m4:M[j4]?=some (bk b4 #[v4] T4)) (k:Φ (.returned (.tuple #[v2,v3,v4])) w)
  (hs:(scT P T2,scT P T3,scT P T4,look [(t2,vP b2 0),(t3,vP b3 0),(t4,vP b4 0)] t3,look [(t2,vP b2 0),(t3,vP b3 0),(t4,vP b4 0)] t4)=(true,true,true,some (vP b3 0),some (vP b4 0)):=by kernel_rfl)
  (h:aMI (go P w n B p L 1000000 0 F) [(t2,vP b2 0),(t3,vP b3 0),(t4,vP b4 0)] L=aJH (go P w n B p L 1000000 0 F) [(t2,vP b2 0),(t3,vP b3 0),(t4,vP b4 0)]:=by kernel_rfl):AtO P B (aLe P fn Φ) [] n p L w:=by
 simp only [Prod.mk.injEq] at hs;obtain ⟨s1,s2,s3,s4,s5⟩:=hs;refine aMH _ hF h fun a E=>?_
 have hL:Leaves P fn a.tmps Φ a.defers .returning w:=by
  rw [E.df];exact ⟨_,aOo hr (E.at_ t2 _ (by simp [look])) (E.at_ t3 _ s4) (E.at_ t4 _ s5) j2 j3 j4 m2 m3 m4 (by rw [s1,s2,s3]) hM,k⟩
 exact ⟨hL,hL⟩
theorem aTc {f:FuncId}{cs:Array Value}{a:Act}{ch ch':List PanicEntry}(hi:∀ w,(invoke (.fn (.func f) cs) #[]).run P w = .ok (.enter f cs) w) (hr:fn.results=#[.cell t2 T2,.cell t3 T3,.cell t4 T4]) (E:EnvS [{ target := .fn (.func f) cs,args:=#[] }] n L a) (l2:look L t2=some (vP b2 0)) (l3:look L t3=some (vP b3 0)) (l4:look L t4=some (vP b4 0)) (hs:(scT P T2,scT P T3,scT P T4)=(true,true,true)) (hch:settle (.panicking ch') = .returning)
  (hd:CallsD P f cs (.panicking ch) w fun e u w'=>e = .returned (.tuple #[])∧u = .panicking ch'∧w'.heap[b2]?=some (.cells #[v2] T2 (0,0))∧w'.heap[b3]?=some (.cells #[v3] T3 (0,0))∧w'.heap[b4]?=some (.cells #[v4] T4 (0,0))∧Φ (.returned (.tuple #[v2,v3,v4])) w'):bodyPostD P fn Φ (.panic ch) a w:=by
 show Leaves P fn a.tmps Φ a.defers (.panicking ch) w;rw [E.df];refine leaves_cons (f:=f) (args:=cs) (by simp) (hi _) (hd.mono ?_);rintro e u w8 ⟨rfl,rfl,g2,g3,g4,h⟩;show Leaves P fn a.tmps Φ [] (settle (.panicking ch')) w8;rw [hch];simp only [Prod.mk.injEq] at hs;exact ⟨_,aRG hr (E.at_ t2 _ l2) (E.at_ t3 _ l3) (E.at_ t4 _ l4) (aBi hs.1 (bx g2 0 rfl)) (aBi hs.2.1 (bx g3 0 rfl)) (aBi hs.2.2 (bx g4 0 rfl)),h⟩
end
end Go.Pl
namespace Go.Proofs.YtnhljdeohelgjaaGreatDoor
open Go.RowKit Go.Pl
abbrev Arc:=Bys×Bys×Bys×Int
abbrev aNj (a:Arc):Value := .agg #[vS a.1,vS a.2.1,vS a.2.2.1,vI a.2.2.2]
def aAW (l:List Ob) (a b:Bys):Int:=max 1 (aCU (aCJ ((aA1 l a).getD (0,0)) ((aA1 l b).getD (0,0))))
def aFH (l:List Ob) (w:Bys):List Bys→List Arc
  | a::b::t=>(a,b,w,aAW l a b)::(b,a,w,aAW l a b)::aFH l w (b::t)
  | _=>[]
def aC7 (os:List ObR) (b:ObR):List Arc:=bif b.o.kind==2 then (match aFC (aAw (aAa os)) os b.o.id with | some c=>aFH (aAa os) b.o.id c.o.refs | none=>[]) else []
def aAm (os:List ObR):List Arc:=os.flatMap (aC7 os)
theorem aDN {N:Bys→Bool}{id:Bys}{c:ObR}{l:List ObR}(h:aFC N l id=some c):c∈l∧c.o.id=id∧(c.o.kind==2)=true∧c.o.refs.all N=true:=by
  have key:∀ (l:List ObR) (r:Option ObR),l.foldl (fun r b=>bif ((b.o.kind==2)&&b.o.refs.all N)&&(b.o.id==id) then some b else r) r=some c→r=some c∨(c∈l∧(((c.o.kind==2)&&c.o.refs.all N)&&(c.o.id==id))=true):=by
    intro l
    induction l with
    | nil=>intro r h;exact .inl h
    | cons b l ih =>
      intro r h;rw [List.foldl_cons] at h;rcases ih _ h with h1 | h1
      · cases hb:((b.o.kind==2)&&b.o.refs.all N)&&(b.o.id==id) with
        | true=>rw [hb] at h1;cases h1;exact .inr ⟨.head _,hb⟩
        | false=>rw [hb] at h1;exact .inl h1
      · exact .inr ⟨.tail _ h1.1,h1.2⟩
  rcases key l none h with h1 | ⟨h1,h2⟩
  · cases h1
  · simp only [Bool.and_eq_true] at h2
    exact ⟨h1,by simpa using h2.2,h2.1.1,h2.1.2⟩
theorem aPL {W:World}{B:Nat}{os:List ObR}(N:Bys→Bool) (id:Bys) (hs:∀ b∈os,SrcB stL 1 W B b.pr b.cr b.o.refs) (hb:∀ b∈os,ObB b.o):∃ p cap rs,(aEr N os (vS id)).getD (vL none 0 0)=vL p rs.length cap∧SrcB stL 1 W B p cap rs∧(∀ s∈rs,B63 s)∧∀ f:List Bys→List Arc,f []=[]→(match aFC N os id with | some c=>f c.o.refs | none=>[])=f rs:=by
  rw [aIu]
  cases h:aFC N os id with
  | none=>exact ⟨none,0,[],rfl,⟨Nat.le_refl _,by omega,.inl rfl,fun _=>rfl⟩,fun s h=>(by cases h),fun f hf=>hf.symm⟩
  | some c =>
    obtain ⟨h1,-⟩:=aDN h;exact ⟨_,_,c.o.refs,rfl,hs c h1,(hb c h1).refs,fun f _=>rfl⟩
theorem at1 {α:Type}{l d r:List α}{x:α}(h:l=d++x::r):l[d.length]?=some x:=by subst h;simp
theorem at2 {α:Type}{l d r:List α}{x y:α}(h:l=d++x::y::r):l[d.length+1]?=some y:=by subst h;simp
theorem lkN {P:Program}{w:World}(T:Nat) {K e:TypeId}{b c:Nat}{m:Value→Option Value}(key z:Value) (hm:aCj P K w b c m) (LK:Maps.Keyed P K) (ht:P.underlying T=some (.map K e)) (hk:∃ l,keyOf P K key=some l) (hz:(zeroValue e).run P w = .ok z w):Ft.ok P w (.g2 (fun x y => .lookup T x y false) (.map (some b)) key ((m key).getD z)):=fun o ρ x y ho hx hy=>by
  obtain ⟨l,hk⟩:=hk;have:=hm.at.look LK ht hk hz;simp only [execOp,ho,hx,hy,Sem.run_bind,this,Result.andThen_ok,Sem.run_pure]
theorem aJh (w:World):(zeroValue 27).run Tryz.prog w = .ok (vL none 0 0) w:=by kernel_rfl
theorem aP2 (l:List Ob) (s:Bys):((aD1 l) (vS s)).getD (ptV (0,0))=ptV ((aA1 l s).getD (0,0)):=by
  rw [aIF];cases aA1 l s<;>rfl
theorem aQb {l:List Ob}{w a b:Bys}{rs:List Bys}{m:Nat}(ha:rs[m]?=some a) (hb:rs[m+1]?=some b):aFH l w (rs.drop m)=(a,b,w,aAW l a b)::(b,a,w,aAW l a b)::aFH l w (rs.drop (m+1)):=by
  rw [gd ha,gd hb];rfl
theorem aOc {l:List Ob}{w:Bys}{rs:List Bys}{m:Nat}(h:rs.length≤m+1):aFH l w (rs.drop m)=[]:=by
  have:(rs.drop m).length≤1:=by rw [List.length_drop];omega
  cases h1:rs.drop m with
  | nil=>rfl
  | cons a t =>
    cases t with
    | nil=>rfl
    | cons b t=>rw [h1] at this;simp at this
structure NetK (bt bn b1 b2 n1 n2:Nat) (p0:Option Addr) (c0:Nat) (os:List ObR) (G:Nat→Prop) (W:World):Prop where
  t:W.heap[bt]?=some (.cells #[vP bn 0] 74 (0,0))
  n:W.heap[bn]?=some (.cells #[vL p0 os.length c0,.map (some b1),.map (some b2)] 122 (0,0))
  m1:aCj Tryz.prog 9 W b1 n1 (aD1 (aAa os))
  m2:aCj Tryz.prog 9 W b2 n2 (aEr (aAw (aAa os)) os)
  nt:¬ G bt
  nn:¬ G bn
  g1:¬ G b1
  g2:¬ G b2
  src:∃ B,SrcB obL 6 W B p0 c0 os∧(∀ b∈os,SrcB stL 1 W B b.pr b.cr b.o.refs)∧∀ k,G k→B≤k
theorem aJK (a b:Pt):aCJ a b≤9223372036854775807:=by
  unfold aCJ
  cases h:aCw a&&aCw b with
  | false=>show (0:Int)≤_;omega
  | true =>
    rw [Bool.and_eq_true] at h;have h1:=aDp h.1;have h2:=aDp h.2;have h3:=aJs (x:=b.1-a.1) (by omega) (by omega);have h4:=aJs (x:=b.2-a.2) (by omega) (by omega);show (b.1-a.1)*(b.1-a.1)+(b.2-a.2)*(b.2-a.2)≤_;omega
abbrev aTO (Φ:Ending→World→Prop):=AtO Tryz.prog (aAr Tryz.f48) (aA2 (bodyPost Tryz.prog Tryz.f48 Φ)) [] 90
theorem aJe {bt bn b1 b2 n1 n2 c0:Nat}{p0:Option Addr}{os:List ObR}(hob:∀ b∈os,ObB b.o):aS4 Tryz.prog 48 #[vP bt 0] ((aAm os).map fun a=>#[aNj a]) (NetK bt bn b1 b2 n1 n2 p0 c0 os):=by
  intro ly J S w e0 hok hJ0 he hKp hSq hround;obtain rfl:S=fun _=>False:=funext fun W=>propext ⟨fun h=>hok W h,False.elim⟩;obtain ⟨ht,hn,hm1,hm2,nt,nn,g1,g2,B,hs,hrs,hG⟩:=hKp;have bb:=hs.bnd;refine beg Tryz.func48 rfl rfl [(0,.func (.yield ly) #[] #[]),(1,vP bt 0)] rfl rfl fun Φ hΦ=>?_;have hM:=(Mm.one he).pf (j:=0) rfl hJ0;refine seg 1 0 [(11,vL p0 os.length c0),(12,vI (os.length:Int)),(13,vI 0)] (fc (ld0 74 hM (bx ht 0 rfl) nt) (fc (ld0 22 hM (bx hn 0 rfl) nn) f0)) ?_
  have ag:∀ (ad:Nat) (i:Nat) (done:List Arc) (ek:Ent) (w2:World),i≤os.length→aAm os=done++(os.drop i).flatMap (aC7 os)→Mm e0.B w w2 [pfE (J done.length) ek]→ad=os.length-i→aTO Φ (some (1,0)) [(13,vI (i:Int)),(12,vI (os.length:Int)),(11,vL p0 os.length c0),(0,.func (.yield ly) #[] #[]),(1,vP bt 0)] w2:=by
   refine aBh fun ad ae i done ek w2 hi hA hM ao=>seg 1 1 [(14,vB (decide ((i:Int)<(os.length:Int))))] f0 ?_;cases h58:(decide ((i:Int)<(os.length:Int)))
   ·have ah:=df h58;exact rt0 rfl f0 (hΦ _ _ ⟨⟨_,rfl⟩,.inl ⟨ek,by rw [List.length_map,show aAm os=done by rw [hA,List.drop_of_length_le (by omega)];simp];exact (hM.get 0 rfl).1,(hM.get 0 rfl).2,hM.fr⟩⟩)
   have ah:=dt h58;obtain ⟨y,hy,ap,aq,q59,ai,n59⟩:=(hs).eb hG (i:=i) (by omega);refine aBD 2 2 4 [(16,.agg #[vS y.o.id,vI y.o.kind,vI y.o.x,vI y.o.y,vL y.pr y.o.refs.length y.cr,vL y.pt y.o.tags.length y.ct])] [] 52 (.agg #[vS y.o.id,vI y.o.kind,vI y.o.x,vI y.o.y,vL y.pr y.o.refs.length y.cr,vL y.pt y.o.tags.length y.ct]) (fc (ix 22 c0 q59 (gl hy)) (fc (la0 52 hM ai n59) f0)) hM fun aa w1 hM=>?_;obtain ⟨pw,cw,rs,hwv,hrw,hrb,hra⟩:=aPL (aAw (aAa os)) y.o.id hrs hob;have bw:=hrw.bnd;refine seg 3 0 [] f0 ?_;have hM:=hM.q ((Fr.refl _ _).drew);refine drq [(5,vL pw rs.length cw)] rfl (fc (ld0 74 hM (bx ht 0 rfl) nt) (fc (ld0 120 hM (bx hn 2 rfl) nn) (fc (ldm 9 1 0 hM rfl rfl) (fc (rz2 (lkN 120 (vS y.o.id) (vL none 0 0) (hm2.fr hM.fr g2) aDw u120_ (aDx (hob _ (gm hy)).id) (aJh _)) hwv) f0)))) (seg 4 3 [(26,vB (!(y.o.kind==2)))] (fc (ldm 3 1 1 hM rfl rfl) f0) ?_);cases h61:(y.o.kind==2)
   ·have aj:=ef h61;have hA:aAm os=done++(os.drop (i+1)).flatMap (aC7 os):=by rw [hA,gd hy,List.flatMap_cons,show aC7 os y=[] by unfold aC7;rw [h61];rfl,List.nil_append]
    refine seg 1 0 [(13,vI ((i:Int)+1))] (fc (aAh (i:Int) 1 u3_) f0) (aAb _ (ae _ (by omega) (i+1) done ek _ (gl hy) hA (hM.pick [0]) rfl))
   have aj:=et h61;have hA1:aAm os=done++(aFH (aAa os) y.o.id (rs.drop 0)++(os.drop (i+1)).flatMap (aC7 os)):=by rw [hA,gd hy,List.flatMap_cons,show aC7 os y=aFH (aAa os) y.o.id rs by unfold aC7;rw [h61];exact hra (aFH (aAa os) y.o.id) rfl];rfl
   refine seg 6 0 [(6,vI 1)] f0 ?_
   have ak:∀ (af:Nat) (m:Nat) (done2:List Arc) (ek2:Ent) (w2:World),m≤rs.length→aAm os=done2++(aFH (aAa os) y.o.id (rs.drop m)++(os.drop (i+1)).flatMap (aC7 os))→Mm e0.B w w2 [pfE (J done2.length) ek2,bk aa #[vS y.o.id,vI y.o.kind,vI y.o.x,vI y.o.y,vL y.pr y.o.refs.length y.cr,vL y.pt y.o.tags.length y.ct] 52]→af=rs.length-m→aTO Φ (some (6,0)) [(6,vI ((m:Int)+1)),(5,vL pw rs.length cw),(4,vP aa 0),(13,vI (i:Int)),(12,vI (os.length:Int)),(11,vL p0 os.length c0),(0,.func (.yield ly) #[] #[]),(1,vP bt 0)] w2:=by
    refine aBh fun af al m done2 ek2 w2 hm hA2 hM ar=>seg 6 4 [(30,vB (decide (((m:Int)+1)<(rs.length:Int))))] f0 ?_;cases h65:(decide (((m:Int)+1)<(rs.length:Int)))
    ·have am:=df h65;have hA3:aAm os=done2++(os.drop (i+1)).flatMap (aC7 os):=by rw [hA2,aOc (by omega),List.nil_append]
     refine seg 1 0 [(13,vI ((i:Int)+1))] (fc (aAh (i:Int) 1 u3_) f0) (aAb _ (ae _ (by omega) (i+1) done2 ek2 _ (gl hy) hA3 (hM.pick [0]) rfl))
    have am:=dt h65;obtain ⟨y1,hy1,au,av,q66,ab,n66⟩:=(hrw).eb hG (i:=m) (by omega);obtain ⟨y2,hy2,aw,ax,q67,ac,n67⟩:=(hrw).eb hG (i:=(m+1)) (by omega);have hA5:aAm os=done2++((y1,y2,y.o.id,aAW (aAa os) y1 y2)::(y2,y1,y.o.id,aAW (aAa os) y1 y2)::(aFH (aAa os) y.o.id (rs.drop (m+1))++(os.drop (i+1)).flatMap (aC7 os))):=by rw [hA2,aQb hy1 hy2];rfl
    refine seg 8 0 [] f0 (drc [(7,vI (max 1 (aCU (aCJ ((aA1 (aAa os) y1).getD (0,0)) ((aA1 (aAa os) y2).getD (0,0))))))] hM (fun w5 hM=>(fc (ld0 74 hM (bx ht 0 rfl) nt) (fc (ld0 119 hM (bx hn 1 rfl) nn) (fc (aC8 ((m:Int)+1) 1 u3_) (fc (ix 27 cw q66 (gl hy1) (z:=(((m:Int)+1)-1)) (hz:=(by omega))) (fc (ld0 9 hM (ab 0 _ rfl) n66) (fc (rz2 (lkN 119 (vS y1) (ptV (0,0)) (hm1.fr hM.fr g1) aDw u119_ (aDx (hrb _ (gm hy1))) (aKX _)) (aP2 (aAa os) y1)) (fc (ld0 74 hM (bx ht 0 rfl) nt) (fc (ld0 119 hM (bx hn 1 rfl) nn) (fc (ix 27 cw q67 (gl hy2)) (fc (ld0 9 hM (ac 0 _ rfl) n67) (fc (rz2 (lkN 119 (vS y2) (ptV (0,0)) (hm1.fr hM.fr g1) aDw u119_ (aDx (hrb _ (gm hy2))) (aKX _)) (aP2 (aAa os) y2)) (fc (tcl (aKG ((aA1 (aAa os) y1).getD (0,0)) ((aA1 (aAa os) y2).getD (0,0)) _)) (fc (tcl (aKo (aCJ ((aA1 (aAa os) y1).getD (0,0)) ((aA1 (aAa os) y2).getD (0,0))) (aJK _ _) _)) (fc (aRl 3 1 (aCU (aCJ ((aA1 (aAa os) y1).getD (0,0)) ((aA1 (aAa os) y2).getD (0,0))))) f0))))))))))))))) fun w5 hM=>seg 9 0 [] f0 (drx [14,31] (fun γ=>[some (vB true),some (vB true)]) _ (fun γ l=>[(bif l.getD 1 false then pfE (J ((done2.length+1)+1)) (γ.e 1) else (bif l.getD 0 false then pfE (J (done2.length+1)) (γ.e 0) else pfE (J done2.length) ek2)),bk aa #[vS y.o.id,vI y.o.kind,vI y.o.x,vI y.o.y,vL y.pr y.o.refs.length y.cr,vL y.pt y.o.tags.length y.ct] 52]) (fun γ=>[(88,vB false)]) hM (fun γ=>rfl) (fun γ l w5 hM=>(fc (aC8 ((m:Int)+1) 1 u3_) (fc (ix 27 cw q66 (gl hy1) (z:=(((m:Int)+1)-1)) (hz:=(by omega))) (fc (ld0 9 hM (ab 0 _ rfl) n66) (fc (ix 27 cw q67 (gl hy2)) (fc (ld0 9 hM (ac 0 _ rfl) n67) (fc (ldm 9 1 0 hM rfl rfl) (fc (ix 27 cw q67 (gl hy2)) (fc (ld0 9 hM (ac 0 _ rfl) n67) (fc (aC8 ((m:Int)+1) 1 u3_) (fc (ix 27 cw q66 (gl hy1) (z:=(((m:Int)+1)-1)) (hz:=(by omega))) (fc (ld0 9 hM (ab 0 _ rfl) n66) (fc (ldm 9 1 0 hM rfl rfl) f0))))))))))))) ⟨aPG 0 14 0 69 done2.length #[68] (v:=(.agg #[vS y1,vS y2,vS y.o.id,vI (max 1 (aCU (aCJ ((aA1 (aAa os) y1).getD (0,0)) ((aA1 (aAa os) y2).getD (0,0)))))])) (J:=J) (fun γ=>ek2) (fun γ wm hJ hH hf=>hround _ _ _ _ hJ hH hf (aEs (at1 hA5))),aPG 1 31 0 86 (done2.length+1) #[68] (v:=(.agg #[vS y2,vS y1,vS y.o.id,vI (max 1 (aCU (aCJ ((aA1 (aAa os) y1).getD (0,0)) ((aA1 (aAa os) y2).getD (0,0)))))])) (J:=J) (fun γ=>(γ.e 0)) (fun γ wm hJ hH hf=>hround _ _ _ _ hJ hH hf (aEs (at2 hA5))),trivial⟩ fun an w1 hM=>?_));replace hM:Mm e0.B w w1 [_,bk aa #[vS y.o.id,vI y.o.kind,vI y.o.x,vI y.o.y,vL y.pr y.o.refs.length y.cr,vL y.pt y.o.tags.length y.ct] 52]:=hM;have hA4:aAm os=(done2++[(y1,y2,y.o.id,aAW (aAa os) y1 y2),(y2,y1,y.o.id,aAW (aAa os) y1 y2)])++(aFH (aAa os) y.o.id (rs.drop (m+1))++(os.drop (i+1)).flatMap (aC7 os)):=by rw [hA5,List.append_assoc];rfl
    have hl9:done2.length+1+1=(done2++[(y1,y2,y.o.id,aAW (aAa os) y1 y2),(y2,y1,y.o.id,aAW (aAa os) y1 y2)]).length:=by simp
    rw [hl9] at hM;refine seg 6 0 [(6,vI (((m:Int)+1)+1))] (fc (aAh ((m:Int)+1) 1 u3_) f0) (aAb _ (al _ (by omega) (m+1) (done2++[(y1,y2,y.o.id,aAW (aAa os) y1 y2),(y2,y1,y.o.id,aAW (aAa os) y1 y2)]) (an.e 1) _ (by have:=gl hy2;omega) hA4 hM rfl))
   exact aAb _ (ak _ 0 done ek _ (Nat.zero_le _) hA1 hM rfl)
  exact aAb _ (ag _ 0 [] e0 _ (Nat.zero_le _) rfl hM rfl)
theorem aRZ:Maps.Keyed Tryz.prog 68:=Maps.Keyed.of_law (deep_law (m:=2) (by decide) (by kernel_rfl) (by kernel_rfl) (by kernel_rfl))
theorem tsz:∃ m,Tryz.prog.types.size=m+1:=⟨Tryz.prog.types.size-1,by kernel_rfl⟩
theorem kl9 {s:Bys}(h:B63 s) (m:Nat):Tryz.prog.keyLits (m+1) 9 [vS s]=some [.string (ofL s).data.toList]:=by
  unfold Program.keyLits;simp only [u9_];rw [if_pos (by rw [aBk];exact h)]
theorem kl3 {n:Int}(h:(Lit.int .i64 n).wf=true) (m:Nat):Tryz.prog.keyLits (m+1) 3 [vI n]=some [.int .i64 n]:=by
  unfold Program.keyLits;simp only [u3_];rw [if_pos (by simp [h])]
theorem co9:Tryz.prog.cellsOf 9=1:=by kernel_rfl
theorem co3:Tryz.prog.cellsOf 3=1:=by kernel_rfl
theorem aSb {a:Arc}(h1:B63 a.1) (h2:B63 a.2.1) (h3:B63 a.2.2.1) (h4:(Lit.int .i64 a.2.2.2).wf=true):∃ l,keyOf Tryz.prog 68 (aNj a)=some l:=by
  obtain ⟨m,hm⟩:=tsz;unfold keyOf;rw [Tryz.underlying68];simp only;rw [if_pos (by kernel_rfl),hm];refine ⟨.string (keyBytes [.string (ofL a.1).data.toList,.string (ofL a.2.1).data.toList,.string (ofL a.2.2.1).data.toList,.int .i64 a.2.2.2]),?_⟩
  have hk:Tryz.prog.keyLits (m+1+1) 68 [vS a.1,vS a.2.1,vS a.2.2.1,vI a.2.2.2]=some [.string (ofL a.1).data.toList,.string (ofL a.2.1).data.toList,.string (ofL a.2.2.1).data.toList,.int .i64 a.2.2.2]:=by
    unfold Program.keyLits;simp only [Tryz.underlying68];rw [if_pos ⟨by kernel_rfl,by kernel_rfl⟩];simp [co9,co3,kl9 h1,kl9 h2,kl9 h3,kl3 h4]
  show (Tryz.prog.keyLits (m+1+1) 68 [vS a.1,vS a.2.1,vS a.2.2.1,vI a.2.2.2]).map _=_;rw [hk];rfl
def aBF (l:List Arc):List Arc:=l.foldl (fun r a=>bif r.contains a then r else r++[a]) []
theorem aJ8 (l:List Arc) (a:Arc):aBF (l++[a])=bif (aBF l).contains a then aBF l else aBF l++[a]:=by unfold aBF;rw [List.foldl_append];rfl
theorem aFi (l:List Arc):(aBF l).length≤l.length:=by
  have key:∀ (l r:List Arc),(l.foldl (fun r a=>bif r.contains a then r else r++[a]) r).length≤r.length+l.length:=by
    intro l
    induction l with
    | nil=>intro r;simp
    | cons a l ih =>
      intro r;rw [List.foldl_cons];refine Nat.le_trans (ih _) ?_;cases r.contains a<;>simp<;>omega
  have h:=key l [];rw [List.length_nil,Nat.zero_add] at h;exact h
open Classical in
noncomputable def setA (S:List Arc):Value→Option Value:=fun v=>if ∃ a∈S,v=aNj a then some (vB true) else none
theorem aFS {a b:Bys}(h:vS a=vS b):a=b:=by
  have h2:ofL a=ofL b:=Value.string.inj h;rw [←aAA a,h2,aAA]
theorem aPg {a b:Arc}(h:aNj a=aNj b):a=b:=by
  obtain ⟨a1,a2,a3,a4⟩:=a;obtain ⟨b1,b2,b3,b4⟩:=b;have h:Value.agg #[vS a1,vS a2,vS a3,vI a4] = .agg #[vS b1,vS b2,vS b3,vI b4]:=h;simp only [Value.agg.injEq,Array.mk.injEq,List.cons.injEq,Value.int.injEq,true_and,and_true] at h;obtain ⟨h1,h2,h3,h4⟩:=h;rw [aFS h1,aFS h2,aFS h3,h4]
theorem aLG (S:List Arc) (x:Arc):((setA S) (aNj x)).getD (vB false)=vB (S.contains x):=by
  unfold setA
  by_cases h:x∈S
  · rw [if_pos ⟨x,h,rfl⟩,show S.contains x=true by simpa using h];rfl
  · rw [if_neg (fun ⟨a,ha,e⟩=>h (by rw [aPg e];exact ha)),show S.contains x=false by simpa using h];rfl
theorem aOa (S:List Arc) (x:Arc):upd (setA S) (aNj x) (vB true)=setA (S++[x]):=by
  funext v;unfold setA
  by_cases e:v=aNj x
  · subst e;rw [aBI,if_pos ⟨x,by simp,rfl⟩]
  · rw [aBs _ e]
    by_cases h:∃ a∈S,v=aNj a
    · obtain ⟨a,ha,rfl⟩:=h
      rw [if_pos ⟨a,ha,rfl⟩,if_pos ⟨a,List.mem_append_left _ ha,rfl⟩]
    · rw [if_neg h,if_neg]
      rintro ⟨a,ha,rfl⟩;rw [List.mem_append,List.mem_singleton] at ha;rcases ha with ha | rfl
      · exact h ⟨a,ha,rfl⟩
      · exact e rfl
theorem aOb:setA []=fun _=>none:=by funext v;unfold setA;rw [if_neg (by rintro ⟨a,ha,-⟩;cases ha)]
theorem aTK:BlM []=fun _=>False:=funext fun k=>propext ⟨fun ⟨e,he,_⟩=>(by cases he),False.elim⟩
def arL (a:Arc):List Value:=[vS a.1,vS a.2.1,vS a.2.2.1,vI a.2.2.2]
theorem arT:ElT Tryz.prog arL 4 34 68:=⟨fun _=>rfl,by decide,fun x u hu=>by
  unfold arL at hu;simp only [List.mem_cons,List.not_mem_nil,or_false] at hu;rcases hu with rfl | rfl | rfl | rfl<;>rfl,Tryz.underlying34,aBj (by kernel_rfl)⟩
theorem aOl {n:Int}(h:n≤9223372036854775807):0≤aCU n∧aCU n<4294967296:=by
  unfold aCU
  cases hd:decide (n<0) with
  | true=>exact ⟨Int.le_refl _,by show (0:Int)<_;omega⟩
  | false =>
    have h0:=of_decide_eq_false hd;have:=aOm (n:=n.toNat) (by omega);show 0≤(aBE n.toNat:Int)∧(aBE n.toNat:Int)<4294967296;omega
structure ArcB (a:Arc):Prop where
  f1:B63 a.1
  f2:B63 a.2.1
  f3:B63 a.2.2.1
  pos:1≤a.2.2.2
  lt:a.2.2.2<4294967296
theorem ArcB.wf {a:Arc}(h:ArcB a):(Lit.int .i64 a.2.2.2).wf=true:=by
  have h1:=h.pos;have h2:=h.lt;show (decide (IntKind.i64.min≤a.2.2.2)&&decide (a.2.2.2≤IntKind.i64.max))=true;have e1:IntKind.i64.min = -9223372036854775808:=by decide
  have e2:IntKind.i64.max=9223372036854775807:=by decide
  rw [e1,e2,decide_eq_true (by omega),decide_eq_true (by omega)];rfl
theorem aPu {l:List Ob}{w:Bys}(hw:B63 w):∀ {rs:List Bys},(∀ s∈rs,B63 s)→∀ a∈aFH l w rs,ArcB a
  | [],_,a,ha=>by cases ha
  | [_],_,a,ha=>by cases ha
  | x::y::t,h,a,ha=>by
    have hl:1≤aAW l x y∧aAW l x y<4294967296:=by
      have:=aOl (aJK ((aA1 l x).getD (0,0)) ((aA1 l y).getD (0,0)));unfold aAW;omega
    unfold aFH at ha;rcases List.mem_cons.1 ha with rfl | ha
    · exact ⟨h x (.head _),h y (.tail _ (.head _)),hw,hl.1,hl.2⟩
    · rcases List.mem_cons.1 ha with rfl | ha
      · exact ⟨h y (.tail _ (.head _)),h x (.head _),hw,hl.1,hl.2⟩
      · exact aPu hw (fun s hs=>h s (.tail _ hs)) a ha
theorem aF7 {os:List ObR}(hob:∀ b∈os,ObB b.o):∀ a∈aAm os,ArcB a:=by
  intro a ha;unfold aAm at ha;rw [List.mem_flatMap] at ha;obtain ⟨b,hb,ha⟩:=ha;unfold aC7 at ha
  cases hk:b.o.kind==2 with
  | false=>rw [hk] at ha;cases ha
  | true =>
    rw [hk] at ha
    cases hw:aFC (aAw (aAa os)) os b.o.id with
    | none=>rw [hw] at ha;cases ha
    | some c =>
      rw [hw] at ha;exact aPu (hob b hb).id (hob c (aDN hw).1).refs a ha
theorem aIk (bn:Nat) (w:World):Calls Tryz.prog 20 #[vP bn 0] w fun e w'=>∃ u Mn,e = .returned u∧(∃ bt,u = .func (.func 48) #[] #[vP bt 0]∧Mn=[bk bt #[vP bn 0] 74])∧Mm (fun _=>False) w w' Mn:=by
  refine beg Tryz.func20 rfl rfl [(0,vP bn 0)] rfl rfl fun Φ hΦ=>?_;have hM:=Mm.nil (fun _=>False) w;refine aAn 0 0 1 [] (cs:=#[vP bn 0]) (T:=74) (v:=fun b=>vP b 0) f0 hM fun aa w1 hM=>rt1 2 (.func (.func 48) #[] #[vP aa 0]) rfl f0 (hΦ _ _ ⟨_,_,rfl,⟨_,rfl,rfl⟩,hM⟩)
theorem aGo {w:World}{v:Value}{os:List ObR}(hm:aDy w v os) (hv:aAe (aAa os)=true) (hlen:(aAm os).length≤300000000):Calls Tryz.prog 7 #[.agg #[v]] w fun e w'=>∃ u,e = .returned u∧aHj arL 4 68 w w' u (aBF (aAm os))∧Fr (fun _=>False) w w':=by
  have hm0:=hm;obtain ⟨hs0,hob⟩:=hm0;obtain ⟨p0,cp0,hp0,sp0⟩:=hs0.op;subst hp0;have bp0:=sp0.bnd;refine aTs Tryz.func7 rfl rfl [(0,.agg #[vL p0 os.length cp0])] rfl rfl fun Φ hΦ=>?_;have hM:=Mm.nil (fun _=>False) w;refine aAn 0 0 1 [] (cs:=#[vL p0 os.length cp0]) (T:=24) (v:=fun b=>vP b 0) f0 hM fun ag w1 hM=>aB3 1 1 10 [(9,.agg #[vL p0 os.length cp0])] (K:=fun u Mn=>∃ bn b1 b2 n1 n2,u = .tuple #[vP bn 0,vB true]∧Mn=aTh bn b1 b2 n1 n2 (vL p0 os.length cp0) os) [0] [] (fc (lam 24 0 0 1 hM rfl) f0) hM rfl rfl (by decide) (fun _=>(aJ6 (hm.fr hM.fr)).mono fun e w8 h=>by obtain ⟨bn,b1,b2,n1,n2,h1,h2⟩:=h.2 hv;exact ⟨_,_,h1,⟨bn,b1,b2,n1,n2,rfl,rfl⟩,by rw [show aBw _ ([]:List Nat)=[] from rfl,aTK];exact h2⟩) fun u Mn w1 hK hM=>?_;obtain ⟨bn,b1,b2,n1,n2,rfl,rfl⟩:=hK;refine aAn 4 0 5 [(3,vP bn 0)] (cs:=#[vL none 0 0]) (T:=34) (v:=fun b=>vP b 0) f0 hM fun ab w1 hM=>aFk 5 0 15 [] 68 f0 hM fun aa w1 hM=>aBD 5 1 6 [] [] 77 (.map (some aa)) f0 hM fun ac w1 hM=>aB3 6 1 17 [(16,vP bn 0)] (K:=fun u Mn=>∃ bt,u = .func (.func 48) #[] #[vP bt 0]∧Mn=[bk bt #[vP bn 0] 74]) [0,1,2,3,4,5,6] [] f0 hM rfl rfl (by decide) (fun _=>by rw [show aBw _ ([]:List Nat)=[] from rfl,aTK];exact aIk bn _) fun u Mn w1 hK hM=>?_;obtain ⟨bt,rfl,rfl⟩:=hK;have hM:=hM.row (f:=arL) (c:=4) (E:=68);have hM9:Mm (fun _=>False) w w1 ([bk ab #[vL none 0 0] 34,bk ac #[.map (some aa)] 77,mp Tryz.prog 68 aa 0 (fun _=>none),rw_ arL 4 68 (vL none 0 0) []]++[bk bt #[vP bn 0] 74,bk bn #[vL p0 os.length cp0,.map (some b1),.map (some b2)] 122,mp Tryz.prog 9 b1 n1 (aD1 (aAa os)),mp Tryz.prog 9 b2 n2 (aEr (aAw (aAa os)) os)]):=hM.pick [4,6,5,8,7,1,2,3];have hap:∀ x∈[bk bt #[vP bn 0] 74,bk bn #[vL p0 os.length cp0,.map (some b1),.map (some b2)] 122,mp Tryz.prog 9 b1 n1 (aD1 (aAa os)),mp Tryz.prog 9 b2 n2 (aEr (aAw (aAa os)) os)],∀ k,x.B k→¬ BlM [bk ab #[vL none 0 0] 34,bk ac #[.map (some aa)] 77,mp Tryz.prog 68 aa 0 (fun _=>none),rw_ arL 4 68 (vL none 0 0) []] k∧k<w1.heap.size:=fun x hx k hk=>⟨hM9.apart hx hk,x.lt (hM9.at_ x (List.mem_append_right _ hx)) hk⟩;have hM:Mm (fun _=>False) w _ [bk ab #[vL none 0 0] 34,bk ac #[.map (some aa)] 77,mp Tryz.prog 68 aa 0 (fun _=>none),rw_ arL 4 68 (vL none 0 0) []]:=hM.pick [4,6,5,8];have nap:∀ x∈[bk bt #[vP bn 0] 74,bk bn #[vL p0 os.length cp0,.map (some b1),.map (some b2)] 122,mp Tryz.prog 9 b1 n1 (aD1 (aAa os)),mp Tryz.prog 9 b2 n2 (aEr (aAw (aAa os)) os)],∀ k,x.B k→∀ G:Nat→Prop,(∀ k,G k→BlM [bk ab #[vL none 0 0] 34,bk ac #[.map (some aa)] 77,mp Tryz.prog 68 aa 0 (fun _=>none),rw_ arL 4 68 (vL none 0 0) []] k∨w1.heap.size≤k)→¬ G k:=fun x hx k hk G hG h=>(hG k h).elim (hap x hx k hk).1 fun h2=>absurd (hap x hx k hk).2 (by omega);refine seg 1007 0 [] f0 (aSV 7 (g := .tmp 17) (ps:=#[18]) (vs:=(aAm os).map fun a=>#[aNj a]) (fun k Mk=>∃ q c n,Mk=[bk ab #[vL q (aBF ((aAm os).take k)).length c] 34,bk ac #[.map (some aa)] 77,mp Tryz.prog 68 aa n (setA (aBF ((aAm os).take k))),rw_ arL 4 68 (vL q (aBF ((aAm os).take k)).length c) (aBF ((aAm os).take k))]) hM ⟨none,0,0,by rw [List.take_zero,show aBF []=[] from rfl,aOb];rfl⟩ (enters_of Tryz.func48 (by kernel_rfl) rfl) (aJe fun b hb=>(hob b hb).bnd) (fun G W hG f=>⟨f.obj (hM9.get 4 rfl) id,f.obj (hM9.get 5 rfl) id,(hM9.get 6 rfl:aCj _ _ _ _ _ _).fr f id,(hM9.get 7 rfl:aCj _ _ _ _ _ _).fr f id,nap _ (.head _) _ rfl G hG,nap _ (.tail _ (.head _)) _ rfl G hG,nap _ (.tail _ (.tail _ (.head _))) _ rfl G hG,nap _ (.tail _ (.tail _ (.tail _ (.head _)))) _ rfl G hG,_,sp0.b (hM9.fr.trans' f fun _ _ h=>h),fun b hb=>(hob b hb).refs.b (hM9.fr.trans' f fun _ _ h=>h),hM.geK hG⟩) (vsz (ps:=#[18]) rfl) ?_ ?_)
  · skip
    intro k v Mk W l hv hI hfW hM;obtain ⟨q,c,n,rfl⟩:=hI;obtain ⟨y,hy,rfl⟩:=aPM hv;refine aBD 7 0 7 [] [] 68 (.agg #[vS y.1,vS y.2.1,vS y.2.2.1,vI y.2.2.2]) f0 hM fun af w1 hM=>aQ0 [(7,vP af 0),(6,vP ac 0),(5,vP ab 0)] f0 fun a E=>⟨_,_,E,hM,fun W2 l2 R2 hf2 hM hE=>?_⟩;have hab:=aF7 (fun b hb=>(hob b hb).bnd) y (gm hy);refine seg 8 4 [(22,vB (!((aBF ((aAm os).take k)).contains y)))] (fc (ldm 77 1 0 hM rfl rfl) (fc (lam 68 4 0 4 hM rfl) (fc (rz2 (lk 77 2 (.agg #[vS y.1,vS y.2.1,vS y.2.2.1,vI y.2.2.2]) (vB false) hM rfl aRZ Tryz.underlying77 (aSb hab.f1 hab.f2 hab.f3 hab.wf) (aN1 _)) (aLG (aBF ((aAm os).take k)) y)) f0))) ?_;cases h75:((aBF ((aAm os).take k)).contains y)
    rotate_left
    ·have e9:(aBF ((aAm os).take k))=(aBF ((aAm os).take (k+1))):=by rw [gt_ hy,aJ8,h75];rfl
     have hM:Mm (BlM [bk ab #[vL q (aBF ((aAm os).take k)).length c] 34,bk ac #[.map (some aa)] 77,mp Tryz.prog 68 aa n (setA (aBF ((aAm os).take k))),rw_ arL 4 68 (vL q (aBF ((aAm os).take k)).length c) (aBF ((aAm os).take k)),bk af #[vS y.1,vS y.2.1,vS y.2.2.1,vI y.2.2.2] 68]) W2 _ [bk ab #[vL q (aBF ((aAm os).take k)).length c] 34,bk ac #[.map (some aa)] 77,mp Tryz.prog 68 aa n (setA (aBF ((aAm os).take k))),rw_ arL 4 68 (vL q (aBF ((aAm os).take k)).length c) (aBF ((aAm os).take k))]:=hM.pick [0,1,2,3];have hM:=hM.cast (M':=[bk ab #[vL q (aBF ((aAm os).take (k+1))).length c] 34,bk ac #[.map (some aa)] 77,mp Tryz.prog 68 aa n (setA (aBF ((aAm os).take (k+1)))),rw_ arL 4 68 (vL q (aBF ((aAm os).take (k+1))).length c) (aBF ((aAm os).take (k+1)))]) (by rw [e9]);exact aQ0 [] f0 fun a E=>hE.nrm a _ _ ⟨_,_,_,rfl⟩ hM
    refine mup 9 2 [(23,.map (some aa)),(24,.agg #[vS y.1,vS y.2.1,vS y.2.2.1,vI y.2.2.2])] 77 2 (.agg #[vS y.1,vS y.2.1,vS y.2.2.1,vI y.2.2.2]) (vB true) (fc (ldm 77 1 0 hM rfl rfl) (fc (lam 68 4 0 4 hM rfl) f0)) hM rfl aRZ Tryz.underlying77 (aSb hab.f1 hab.f2 hab.f3 hab.wf) fun w1 hM=>?_;rw [show upd (setA (aBF ((aAm os).take k))) (.agg #[vS y.1,vS y.2.1,vS y.2.2.1,vI y.2.2.2]) (vB true)=setA ((aBF ((aAm os).take k))++[y]) from aOa _ y] at hM;refine aAn 10 2 27 [(25,vL q (aBF ((aAm os).take k)).length c),(26,.agg #[vS y.1,vS y.2.1,vS y.2.2.1,vI y.2.2.2])] (cs:=#[vS y.1,vS y.2.1,vS y.2.2.1,vI y.2.2.2]) (T:=68) (v:=fun b=>vL (some ⟨b,0,none⟩) 1 1) (fc (ldm 34 0 0 hM rfl rfl) (fc (lam 68 4 0 4 hM rfl) f0)) hM fun ah w1 hM=>aKP 10 3 28 [] (cap:=1) (by decide) arT f0 hM (j:=3) rfl (aAE (f:=arL) (x:=y) (hM.get 5 rfl) (Nat.lt_succ_self _)) (fun h=>by cases h) (by have:=aFi ((aAm os).take k);simp only [List.length_take,List.length_cons,List.length_nil] at this ⊢;omega) fun v77 w1 hM=>?_;obtain ⟨ad,ae,e77,-⟩:=(hM.src (j:=3) rfl arT.len).op;subst e77;refine stm 10 4 [] 34 0 0 (vL ad ((aBF ((aAm os).take k))++[y]).length ae) f0 hM rfl fun w1 hM=>?_;have e9:(aBF ((aAm os).take k))++[y]=(aBF ((aAm os).take (k+1))):=by rw [gt_ hy,aJ8,h75];rfl
    have hM:Mm (BlM [bk ab #[vL q (aBF ((aAm os).take k)).length c] 34,bk ac #[.map (some aa)] 77,mp Tryz.prog 68 aa n (setA (aBF ((aAm os).take k))),rw_ arL 4 68 (vL q (aBF ((aAm os).take k)).length c) (aBF ((aAm os).take k)),bk af #[vS y.1,vS y.2.1,vS y.2.2.1,vI y.2.2.2] 68]) W2 _ [bk ab #[vL ad ((aBF ((aAm os).take k))++[y]).length ae] 34,bk ac #[.map (some aa)] 77,mp Tryz.prog 68 aa (n+1) (setA ((aBF ((aAm os).take k))++[y])),rw_ arL 4 68 (vL ad ((aBF ((aAm os).take k))++[y]).length ae) ((aBF ((aAm os).take k))++[y])]:=hM.pick [0,1,2,3];have hM:=hM.cast (M':=[bk ab #[vL ad (aBF ((aAm os).take (k+1))).length ae] 34,bk ac #[.map (some aa)] 77,mp Tryz.prog 68 aa (n+1) (setA (aBF ((aAm os).take (k+1)))),rw_ arL 4 68 (vL ad (aBF ((aAm os).take (k+1))).length ae) (aBF ((aAm os).take (k+1)))]) (by rw [e9]);exact aQ0 [] f0 fun a E=>hE.nrm a _ _ ⟨_,_,_,rfl⟩ hM
  · skip
    intro Mk w1 hI hM;obtain ⟨k,hk⟩:∃ k,k=((aAm os).map fun a=>#[aNj a]).length:=⟨_,rfl⟩;rw [←hk] at hI;obtain ⟨q,c,n,rfl⟩:=hI;exact aT3 2 (vL q (aBF ((aAm os).take k)).length c) rfl (fc (ldm 34 0 0 hM rfl rfl) f0) hM (fun w9 hM=>hΦ _ _ ⟨_,rfl,by have:=hM.nrow (j:=3) rfl;have e9:(aAm os).take k=aAm os:=List.take_of_length_le (by rw [hk,List.length_map];exact Nat.le_refl _);rw [e9] at this ⊢;exact this,hM.fr⟩)
section
variable {α:Type}
abbrev Res (α β:Type):=Except (Int×α) β
def aCt (k:Int) (xs:List Bys):List (Tok α)→Bool
  | []=>false
  | t::_=>t.1==k&&(xs.isEmpty||xs.contains t.2.1)
def take (en:α) (k:Int) (xs:List Bys) (ts:List (Tok α)):Res α (Tok α×List (Tok α)) :=
  match ts with
  | [] => .error (6,en)
  | t::l=>if aCt k xs (t::l) then .ok (t,l) else .error (5,t.2.2)
def aBC (t:Bys):Int:=t.foldl (fun n b=>10*n+((b.toNat:Int)-48)) 0
def aIa:Bys:=[58]
def aF3:Bys:=[45]
def aBb:Bys:=[44]
def aHR:List Bys:=[[109,111],[116,117],[119,101],[116,104],[102,114],[115,97],[115,117]]
def aIm:Bys:=[97,108,119,97,121,115]
def aMn:Bys:=[110,101,118,101,114]
def clock (en:α) (most:Int) (ts:List (Tok α)):Res α ((Int×α)×List (Tok α)) :=
  match take en 2 [] ts with
  | .error e => .error e
  | .ok (h,ts) =>
    if aBC h.2.1>most then .error (10,h.2.2)
    else match take en 4 [aIa] ts with
      | .error e => .error e
      | .ok (_,ts)=>match take en 2 [] ts with
        | .error e => .error e
        | .ok (m,ts) =>
          if m.2.1.length != 2||aBC m.2.1>59||(aBC h.2.1==24&&aBC m.2.1>0) then .error (10,m.2.2)
          else .ok ((60*aBC h.2.1+aBC m.2.1,h.2.2),ts)
def aCN (f t:Int):List Sp:=if t>10080 then [(f,min t 10080),(0,t-10080)] else [(f,min t 10080)]
def aSq (f n a b:Int):List Sp:=(List.range n.toNat).flatMap fun (i:Nat)=>aCN ((f+(i:Int)).tmod 7*1440+a) ((f+(i:Int)).tmod 7*1440+b)
def aDF (en:α) (f t:Int) (ts:List (Tok α)):Res α (List Sp×List (Tok α)) :=
  match clock en 23 ts with
  | .error e => .error e
  | .ok ((a,_),ts)=>match take en 4 [aF3] ts with
    | .error e => .error e
    | .ok (_,ts)=>match clock en 24 ts with
      | .error e => .error e
      | .ok ((b,at_),ts) =>
        if a==b then .error (10,at_) else .ok (aSq f ((t-f+7).tmod 7+1) a (if b<a then b+1440 else b),ts)
def more:List (Tok α)→Bool
  | t::u::l=>aCt 4 [aBb] (t::u::l)&&u.1==2
  | _=>false
def aCr (en:α) (f t:Int):Nat→List (Tok α)→Res α (List Sp×List (Tok α))
  | 0,_ => .error (6,en)
  | n+1,ts=>match aDF en f t ts with
    | .error e => .error e
    | .ok (s,ts)=>if more ts then (match aCr en f t n (ts.drop 1) with | .error e => .error e | .ok (s',ts) => .ok (s++s',ts)) else .ok (s,ts)
def idx (d:Bys):Int:=aHR.findIdx (· == d)
def dys (en:α) (ts:List (Tok α)):Res α ((Int×Int)×List (Tok α)) :=
  match take en 1 aHR ts with
  | .error e => .error e
  | .ok (f,ts) =>
    if aCt 4 [aF3] ts then (match take en 1 aHR (ts.drop 1) with
      | .error e => .error e
      | .ok (t,ts) => .ok ((idx f.2.1,idx t.2.1),ts))
    else .ok ((idx f.2.1,idx f.2.1),ts)
def part (en:α) (ts:List (Tok α)):Res α (List Sp×List (Tok α)) :=
  match dys en ts with
  | .error e => .error e
  | .ok ((f,t),ts)=>aCr en f t (ts.length+1) ts
def aD8 (en:α):Nat→List (Tok α)→Res α (List Sp×List (Tok α))
  | 0,_ => .error (6,en)
  | n+1,ts=>match part en ts with
    | .error e => .error e
    | .ok (s,ts)=>if aCt 4 [aBb] ts then (match aD8 en n (ts.drop 1) with | .error e => .error e | .ok (s',ts) => .ok (s++s',ts)) else .ok (s,ts)
def fin:Res α (List Sp×List (Tok α))→Res α (List Sp)
  | .error e => .error e
  | .ok (s,[]) => .ok s
  | .ok (_,t::_) => .error (5,t.2.2)
def aCk (en:α) (ts:List (Tok α)):Res α (List Sp×List (Tok α)) :=
  if aCt 1 [aIm] ts then .ok (aCN 0 10080,ts.drop 1) else if aCt 1 [aMn] ts then .ok ([],ts.drop 1) else aD8 en (ts.length+1) ts
def aG1 (en:α) (ts:List (Tok α)):Res α (List Sp):=fin (aCk en ts)
end
def aCL (l:Bys):Except (Int×Int) (List Sp) :=
  match aNv l with
  | .error e => .error e
  | .ok ts=>match aG1 (l.length:Int) ts with
    | .error e => .error e
    | .ok s=>if (aE6 s).length>60 then .error (2,(l.length:Int)) else .ok (aE6 s)
section
variable {α:Type}{en:α}
theorem aAv {k:Int}{xs:List Bys}{ts:List (Tok α)}{t:Tok α}{l:List (Tok α)}(h:take en k xs ts = .ok (t,l)):ts=t::l∧t.1=k∧(xs=[]∨t.2.1∈xs):=by
  unfold take at h
  split at h
  · cases h
  · split at h
    · rename_i hs
      cases h;unfold aCt at hs;simp only [Bool.and_eq_true,beq_iff_eq,Bool.or_eq_true,List.isEmpty_iff,List.contains_eq_mem,decide_eq_true_eq] at hs;exact ⟨rfl,hs.1,hs.2⟩
    · cases h
theorem aDk {k:Int}{xs:List Bys}{ts:List (Tok α)}{t:Tok α}{l:List (Tok α)}(h:take en k xs ts = .ok (t,l)):l.length+1=ts.length:=by
  rw [(aAv h).1];simp
theorem aJO {most:Int}{ts l:List (Tok α)}{r:Int×α}(h:clock en most ts = .ok (r,l)):l.length+3=ts.length:=by
  unfold clock at h
  split at h
  · cases h
  · rename_i h1
    split at h
    · cases h
    · split at h
      · cases h
      · rename_i h2
        split at h
        · cases h
        · rename_i h3
          split at h
          · cases h
          · cases h
            have:=aDk h1;have:=aDk h2;have:=aDk h3;omega
theorem aCC {f t:Int}{ts l:List (Tok α)}{s:List Sp}(h:aDF en f t ts = .ok (s,l)):l.length+7=ts.length:=by
  unfold aDF at h
  split at h
  · cases h
  · rename_i h1
    split at h
    · cases h
    · rename_i h2
      split at h
      · cases h
      · rename_i h3
        split at h
        · cases h
        · cases h
          have:=aJO h1;have:=aDk h2;have:=aJO h3;omega
theorem aLv {f t:Int}:∀ (n:Nat) {ts l:List (Tok α)}{s:List Sp},aCr en f t n ts = .ok (s,l)→l.length<ts.length:=by
  intro n
  induction n with
  | zero=>intro ts l s h;cases h
  | succ n ih =>
    intro ts l s h;unfold aCr at h
    split at h
    · cases h
    · rename_i h1
      have:=aCC h1
      split at h
      · split at h
        · cases h
        · rename_i h2
          cases h;have h3:=ih h2;rw [List.length_drop] at h3;omega
      · cases h;omega
theorem aKe {f t:Int}:∀ (n m:Nat) (ts:List (Tok α)),ts.length<n→ts.length<m→aCr en f t n ts=aCr en f t m ts:=by
  intro n
  induction n with
  | zero=>intro m ts h;omega
  | succ n ih =>
    intro m ts h h2
    cases m with
    | zero=>omega
    | succ m =>
      unfold aCr
      split
      · rfl
      · rename_i h1
        have:=aCC h1;rw [ih m _ (by rw [List.length_drop];omega) (by rw [List.length_drop];omega)]
theorem aFz {ts l:List (Tok α)}{r:Int×Int}(h:dys en ts = .ok (r,l)):l.length<ts.length:=by
  unfold dys at h
  split at h
  · cases h
  · rename_i h1
    have:=aDk h1
    split at h
    · split at h
      · cases h
      · rename_i h2
        have h3:=aDk h2;rw [List.length_drop] at h3;cases h;omega
    · cases h;omega
theorem aGH {ts l:List (Tok α)}{s:List Sp}(h:part en ts = .ok (s,l)):l.length<ts.length:=by
  unfold part at h
  split at h
  · cases h
  · rename_i h1
    have:=aFz h1;have:=aLv _ h;omega
theorem aKx:∀ (n m:Nat) (ts:List (Tok α)),ts.length<n→ts.length<m→aD8 en n ts=aD8 en m ts:=by
  intro n
  induction n with
  | zero=>intro m ts h;omega
  | succ n ih =>
    intro m ts h h2
    cases m with
    | zero=>omega
    | succ m =>
      unfold aD8
      split
      · rfl
      · rename_i h1
        have:=aGH h1;rw [ih m _ (by rw [List.length_drop];omega) (by rw [List.length_drop];omega)]
end
section
variable {α β:Type}(φ:α→β)
end
section
variable {α:Type}{en:α}
end
example:aCL [109,111,45,116,117,32,57,58,48,48,45,49,55,58,51,48] = .ok [(540,1050),(1980,2490)]:=by kernel_rfl
theorem aDO {p:UInt8→Bool}(h:(List.range 256).all (fun n=>p (UInt8.ofNat n))=true) (b:UInt8):p b=true:=by
  have:=List.all_eq_true.1 h b.toNat (List.mem_range.2 b.toNat_lt);simpa using this
theorem cls (b:UInt8):(!aEh b||(!aCc b&&b != 35 && !aBW b && !aA5 b&&b != 34 && !aBA b))=true:=aDO (p:=fun b => !aEh b||(!aCc b&&b != 35 && !aBW b && !aA5 b&&b != 34 && !aBA b)) (by decide +kernel) b
theorem aUF (b:UInt8):(!aBW b||(!aCc b&&b != 35 && !aA5 b&&aBA b))=true:=aDO (p:=fun b => !aBW b||(!aCc b&&b != 35 && !aA5 b&&aBA b)) (by decide +kernel) b
theorem aUG (b:UInt8):(!aA5 b||(!aCc b&&b != 35 && !aBW b&&aBA b))=true:=aDO (p:=fun b => !aA5 b||(!aCc b&&b != 35 && !aBW b&&aBA b)) (by decide +kernel) b
theorem aM6 {b:UInt8}(h:aEh b=true):aCc b=false∧(b==35)=false∧aBW b=false∧aA5 b=false∧(b==34)=false∧aBA b=false:=by
  have:=cls b;rw [h] at this;simp only [Bool.not_true,Bool.false_or,Bool.and_eq_true,Bool.not_eq_true',bne_iff_ne] at this;obtain ⟨⟨⟨⟨⟨h1,h2⟩,h3⟩,h4⟩,h5⟩,h6⟩:=this;exact ⟨h1,beq_false_of_ne h2,h3,h4,beq_false_of_ne h5,h6⟩
theorem aHJ {b:UInt8}(h:aBW b=true):aCc b=false∧(b==35)=false∧aA5 b=false∧aBA b=true:=by
  have:=aUF b;rw [h] at this;simp only [Bool.not_true,Bool.false_or,Bool.and_eq_true,Bool.not_eq_true',bne_iff_ne] at this;obtain ⟨⟨⟨h1,h2⟩,h3⟩,h4⟩:=this;exact ⟨h1,beq_false_of_ne h2,h3,h4⟩
theorem aM7 {b:UInt8}(h:aA5 b=true):aCc b=false∧(b==35)=false∧aBW b=false∧aBA b=true:=by
  have:=aUG b;rw [h] at this;simp only [Bool.not_true,Bool.false_or,Bool.and_eq_true,Bool.not_eq_true',bne_iff_ne] at this;obtain ⟨⟨⟨h1,h2⟩,h3⟩,h4⟩:=this;exact ⟨h1,beq_false_of_ne h2,h3,h4⟩
theorem aQy {c:UInt8}{l:Bys}(h:aCc c=true):one c l=(0,[],0,0):=by unfold one;rw [if_pos h]
theorem aQw {c:UInt8}{l:Bys}(h:aEh c=true):one c l=(4,[c],0,0):=by
  obtain ⟨h1,h2,h3,h4,h5,_⟩:=aM6 h;unfold one;simp only [h1,h2,h3,h4,h5,h,Bool.false_eq_true,if_false,if_true]
theorem aJD:∀ (n:Nat) (l:Bys) (a:Int),l.length≤n→((aBx l a).Pairwise fun x y=>x.1.2.2<y.1.2.2)∧∀ x∈aBx l a,a≤x.1.2.2∧x.1.2.2<a+l.length:=by
  intro n
  induction n with
  | zero => intro l a h; have : l = [] := by cases l with | nil => rfl | cons => simp at h
            subst this;exact ⟨.nil,fun x hx=>by cases hx⟩
  | succ n ih =>
    intro l a h
    cases l with
    | nil=>exact ⟨.nil,fun x hx=>by cases hx⟩
    | cons c l =>
      simp only [List.length_cons] at h ⊢;rw [aCz]
      have ih2:∀ k,∀ x∈aBx (l.drop k) (a+1+k),a+1≤x.1.2.2∧x.1.2.2<a+((l.length+1:Nat):Int):=fun k x hx=>by
        by_cases hk:k≤l.length
        · have:=(ih (l.drop k) (a+1+k) (by simp;omega)).2 x hx
          rw [List.length_drop] at this;omega
        · rw [List.drop_of_length_le (by omega)] at hx;cases hx
      split
      · exact ⟨List.pairwise_singleton _ _,fun x hx=>by rw [List.mem_singleton] at hx;subst hx;simp only;omega⟩
      · split
        · exact ⟨(ih _ _ (by simp;omega)).1,fun x hx=>by have:=ih2 _ x hx;omega⟩
        · refine ⟨List.pairwise_cons.2 ⟨fun y hy=>by have:=ih2 _ y hy;simp only;omega,(ih _ _ (by simp;omega)).1⟩,fun x hx=>?_⟩
          rcases List.mem_cons.1 hx with rfl | hx
          · simp only;omega
          · have:=ih2 _ x hx;omega
theorem aNU:∀ (n:Nat) (l r:Bys),l.length≤n→∀ {s:Bys}{k:Nat},aDS l=some (s,k)→aDS (l++r)=some (s,k)∧k≤l.length:=by
  intro n
  induction n with
  | zero => intro l r h s k hs; have : l = [] := by cases l with | nil => rfl | cons => simp at h
            subst this;cases hs
  | succ n ih =>
    intro l r h s k hs
    cases l with
    | nil=>cases hs
    | cons c l =>
      simp only [List.length_cons,List.cons_append] at h ⊢;unfold aDS at hs ⊢
      split at hs
      · rename_i h1;rw [if_pos h1];cases hs;exact ⟨rfl,by omega⟩
      rename_i h1;rw [if_neg h1]
      split at hs
      · cases hs
      rename_i h2;rw [if_neg h2]
      split at hs
      · rename_i h3;rw [if_pos h3]
        cases l with
        | nil=>cases hs
        | cons d l =>
          simp only [List.cons_append] at hs ⊢
          split at hs
          · rename_i h4;rw [if_pos h4]
            cases hq:aDS l with
            | none=>rw [hq] at hs;cases hs
            | some q =>
              obtain ⟨s1,k1⟩:=q;rw [hq] at hs;obtain ⟨e,e2⟩:=ih l r (by simp only [List.length_cons] at h;omega) hq;rw [e];cases hs;exact ⟨rfl,by simp only [List.length_cons];omega⟩
          · cases hs
      · rename_i h3;rw [if_neg h3]
        cases hq:aDS l with
        | none=>rw [hq] at hs;cases hs
        | some q =>
          obtain ⟨s1,k1⟩:=q;rw [hq] at hs;obtain ⟨e,e2⟩:=ih l r (by omega) hq;rw [e];cases hs;exact ⟨rfl,by omega⟩
theorem aE4:∀ (l:List (Tok Int×Int)),aE5 l=none↔∀ x∈l,x.2=0:=by
  intro l
  induction l with
  | nil=>exact ⟨(fun _ x hx=>by cases hx),fun _=>rfl⟩
  | cons x l ih =>
    unfold aE5
    by_cases h:x.2=0
    · rw [if_neg (by simp [h]),ih]
      exact ⟨fun k y hy=>by rcases List.mem_cons.1 hy with rfl | hy;exact h;exact k y hy,fun k y hy=>k y (List.mem_cons_of_mem _ hy)⟩
    · rw [if_pos (by simpa using h)]
      exact ⟨(fun k=>by cases k),fun k=>absurd (k x List.mem_cons_self) h⟩
section
variable {α:Type}{en:α}{E:Int×α→Prop}
def Hs (E:Int×α→Prop) (en:α) (ts:List (Tok α)):Prop:=E (6,en)∧∀ t∈ts,E (5,t.2.2)∧E (10,t.2.2)
theorem Hs.tl {ts:List (Tok α)}(h:Hs E en ts):∀ t∈ts,E (5,t.2.2)∧E (10,t.2.2):=h.2
theorem Hs.drop {ts:List (Tok α)}(h:Hs E en ts) (k:Nat):Hs E en (ts.drop k):=⟨h.1,fun t ht=>h.2 t (List.mem_of_mem_drop ht)⟩
def Er {β:Type}(E:Int×α→Prop) (en:α):Res α (β×List (Tok α))→Prop
  | .error e=>E e
  | .ok (_,l)=>Hs E en l
theorem aDl {ts:List (Tok α)}(h:Hs E en ts) (k:Int) (xs:List Bys):Er E en (take en k xs ts):=by
  unfold take
  cases ts with
  | nil=>exact h.1
  | cons t l =>
    simp only
    split
    · exact h.drop 1
    · exact (h.2 t List.mem_cons_self).1
theorem aHV {ts:List (Tok α)}(h:Hs E en ts) (m:Int):Er E en (clock en m ts):=by
  have h1:=aDl h 2 [];unfold clock
  split
  · rename_i e he;rw [he] at h1;exact h1
  · rename_i t ts1 he
    rw [he] at h1;have ht:t∈ts:=by rw [(aAv he).1];exact List.mem_cons_self
    split
    · exact (h.2 t ht).2
    · have h2:=aDl (ts:=ts1) h1 4 [aIa]
      split
      · rename_i e he2;rw [he2] at h2;exact h2
      · rename_i t2 ts2 he2
        rw [he2] at h2;have h3:=aDl (ts:=ts2) h2 2 []
        split
        · rename_i e he3;rw [he3] at h3;exact h3
        · rename_i t3 ts3 he3
          rw [he3] at h3;have hm:t3∈ts2:=by rw [(aAv he3).1];exact List.mem_cons_self
          split
          · exact (Hs.tl (ts:=ts2) h2 t3 hm).2
          · exact h3
theorem aOU {ts l:List (Tok α)}{m x:Int}{a:α}(h:clock en m ts = .ok ((x,a),l)):∃ t∈ts,t.2.2=a:=by
  unfold clock at h
  split at h
  · cases h
  · rename_i t ts1 he
    have ht:t∈ts:=by rw [(aAv he).1];exact List.mem_cons_self
    split at h
    · cases h
    · split at h
      · cases h
      · split at h
        · cases h
        · split at h
          · cases h
          · cases h;exact ⟨t,ht,rfl⟩
theorem aNK {ts:List (Tok α)}(h:Hs E en ts) (f t:Int):Er E en (aDF en f t ts):=by
  have h1:=aHV h 23;unfold aDF
  split
  · rename_i e he;rw [he] at h1;exact h1
  · rename_i a x ts1 he
    rw [he] at h1;have h2:=aDl (ts:=ts1) h1 4 [aF3]
    split
    · rename_i e he2;rw [he2] at h2;exact h2
    · rename_i t2 ts2 he2
      rw [he2] at h2;have h3:=aHV (ts:=ts2) h2 24
      split
      · rename_i e he3;rw [he3] at h3;exact h3
      · rename_i b y ts3 he3
        rw [he3] at h3
        split
        · obtain ⟨t,ht,e⟩:=aOU he3
          have:=(Hs.tl (ts:=ts2) h2 t ht).2;rw [e] at this;exact this
        · exact h3
theorem aLw (f t:Int):∀ (n:Nat) {ts:List (Tok α)},Hs E en ts→Er E en (aCr en f t n ts):=by
  intro n
  induction n with
  | zero=>intro ts h;exact h.1
  | succ n ih =>
    intro ts h;have h1:=aNK h f t;unfold aCr
    split
    · rename_i e he;rw [he] at h1;exact h1
    · rename_i s ts1 he
      rw [he] at h1
      split
      · have h2:=ih (ts:=ts1.drop 1) (Hs.drop (ts:=ts1) h1 1)
        split
        · rename_i e he2;rw [he2] at h2;exact h2
        · rename_i s2 ts2 he2;rw [he2] at h2;exact h2
      · exact h1
theorem aQN {ts:List (Tok α)}(h:Hs E en ts):Er E en (dys en ts):=by
  have h1:=aDl h 1 aHR;unfold dys
  split
  · rename_i e he;rw [he] at h1;exact h1
  · rename_i t ts1 he
    rw [he] at h1
    split
    · have h2:=aDl (ts:=ts1.drop 1) (Hs.drop (ts:=ts1) h1 1) 1 aHR
      split
      · rename_i e he2;rw [he2] at h2;exact h2
      · rename_i t2 ts2 he2;rw [he2] at h2;exact h2
    · exact h1
theorem aOt {ts:List (Tok α)}(h:Hs E en ts):Er E en (part en ts):=by
  have h1:=aQN h;unfold part
  split
  · rename_i e he;rw [he] at h1;exact h1
  · rename_i a b ts1 he
    rw [he] at h1;exact aLw _ _ _ h1
theorem aMa:∀ (n:Nat) {ts:List (Tok α)},Hs E en ts→Er E en (aD8 en n ts):=by
  intro n
  induction n with
  | zero=>intro ts h;exact h.1
  | succ n ih =>
    intro ts h;have h1:=aOt h;unfold aD8
    split
    · rename_i e he;rw [he] at h1;exact h1
    · rename_i s ts1 he
      rw [he] at h1
      split
      · have h2:=ih (ts:=ts1.drop 1) (Hs.drop (ts:=ts1) h1 1)
        split
        · rename_i e he2;rw [he2] at h2;exact h2
        · rename_i s2 ts2 he2;rw [he2] at h2;exact h2
      · exact h1
theorem aLy {ts:List (Tok α)}(h:Hs E en ts) {e:Int×α}(he:aG1 en ts = .error e):E e:=by
  have:Er E en (aCk en ts):=by
    unfold aCk
    split
    · exact h.drop 1
    · split
      · exact h.drop 1
      · exact aMa _ h
  unfold aG1 at he
  cases hq:aCk en ts with
  | error q=>rw [hq] at he this;cases he;exact this
  | ok q =>
    obtain ⟨s,l⟩:=q;rw [hq] at he this
    cases l with
    | nil=>cases he
    | cons t l=>cases he;exact (Hs.tl (ts:=t::l) this t List.mem_cons_self).1
theorem aNN {ts:List (Tok α)}{c:Int}{x:α}(he:aG1 en ts = .error (c,x)):c≠0∧(x=en∨∃ t∈ts,t.2.2=x) :=
  aLy (E:=fun e=>e.1≠0∧(e.2=en∨∃ t∈ts,t.2.2=e.2)) ⟨⟨by simp,.inl rfl⟩,fun t ht=>⟨⟨by simp,.inr ⟨t,ht,rfl⟩⟩,⟨by simp,.inr ⟨t,ht,rfl⟩⟩⟩⟩ he
def Tk (ts:List (Tok α)):Prop:=∀ t∈ts,aIz t
theorem Tk.drop {ts:List (Tok α)}(h:Tk ts) (k:Nat):Tk (ts.drop k):=fun t ht=>h t (List.mem_of_mem_drop ht)
theorem aMj (l:Bys):∀ (n:Int),0≤n→(∀ b∈l,aA5 b=true)→0≤l.foldl (fun n b=>10*n+((b.toNat:Int)-48)) n:=by
  induction l with
  | nil=>intro n h _;exact h
  | cons c l ih =>
    intro n h hd;have hc:=hd c List.mem_cons_self
    have:48≤c.toNat:=by
      unfold aA5 at hc;rw [Bool.and_eq_true] at hc;have:=of_decide_eq_true hc.1;exact UInt8.le_iff_toNat_le.1 this
    have h9:0≤10*n+((c.toNat:Int)-48):=by omega
    exact ih _ h9 fun b hb=>hd b (List.mem_cons_of_mem _ hb)
theorem aGi {t:Tok α}(h:aIz t) (hk:t.1=2):0≤aBC t.2.1:=by
  rcases h with ⟨h,_⟩ | ⟨h,_,_,h2⟩ | h | ⟨h,_⟩
  · omega
  · exact aMj _ 0 (Int.le_refl _) h2
  · omega
  · omega
theorem aAD {k:Int}{xs:List Bys}{ts:List (Tok α)}{t:Tok α}{l:List (Tok α)}(hk:Tk ts) (h:take en k xs ts = .ok (t,l)):aIz t∧t.1=k∧Tk l:=by
  obtain ⟨h1,h2,_⟩:=aAv h;subst h1;exact ⟨hk t List.mem_cons_self,h2,fun u hu=>hk u (List.mem_cons_of_mem _ hu)⟩
theorem aC6 {most x:Int}{a:α}{ts l:List (Tok α)}(hk:Tk ts) (h:clock en most ts = .ok ((x,a),l)):0≤x∧x≤60*most+59∧(most=24→x≤1440)∧Tk l:=by
  unfold clock at h
  split at h
  · cases h
  · rename_i t ts1 he
    obtain ⟨t1,t2,t3⟩:=aAD hk he;have hn:=aGi t1 t2
    split at h
    · cases h
    · rename_i hmo
      split at h
      · cases h
      · rename_i c ts2 he2
        obtain ⟨_,_,t4⟩:=aAD t3 he2
        split at h
        · cases h
        · rename_i m ts3 he3
          obtain ⟨u1,u2,u3⟩:=aAD t4 he3;have hm:=aGi u1 u2
          split at h
          · cases h
          · rename_i hb
            simp only [Bool.or_eq_true,bne_iff_ne,decide_eq_true_eq,Bool.and_eq_true,beq_iff_eq,not_or,not_and] at hb;cases h;exact ⟨by omega,by omega,fun e=>by omega,u3⟩
theorem aNn {f t:Int}(h0:0≤f) (h1:f<t) (h2:f<10080) (h3:t≤20160):wk (aCN f t):=by
  unfold aCN
  split
  · intro s hs
    simp only [List.mem_cons,List.not_mem_nil,or_false] at hs;rcases hs with rfl | rfl<;>simp only<;>omega
  · intro s hs
    rw [List.mem_singleton] at hs;subst hs;simp only;omega
theorem aPm {a b:List Sp}(ha:wk a) (hb:wk b):wk (a++b):=fun s hs=>(List.mem_append.1 hs).elim (ha s) (hb s)
theorem aQP {f n a b:Int}(hf:0≤f) (ha:0≤a) (hab:a<b) (ha2:a<1440) (hb:b≤2880):wk (aSq f n a b):=by
  intro s hs;unfold aSq at hs;obtain ⟨i,hi,hs⟩:=List.mem_flatMap.1 hs;have h1:0≤(f+(i:Int)).tmod 7∧(f+(i:Int)).tmod 7<7:=by rw [Int.tmod_eq_emod_of_nonneg (by omega)];omega
  exact aNn (by omega) (by omega) (by omega) (by omega) s hs
theorem aPR {f t:Int}(hf:0≤f) {ts l:List (Tok α)}{s:List Sp}(hk:Tk ts) (h:aDF en f t ts = .ok (s,l)):wk s∧Tk l:=by
  unfold aDF at h
  split at h
  · cases h
  · rename_i a x ts1 h1
    obtain ⟨a1,a2,_,k1⟩:=aC6 hk h1
    split at h
    · cases h
    · rename_i c ts2 h2
      obtain ⟨_,_,k2⟩:=aAD k1 h2
      split at h
      · cases h
      · rename_i b y ts3 h3
        obtain ⟨b1,_,b2,k3⟩:=aC6 k2 h3;have b2:=b2 rfl
        split at h
        · cases h
        · rename_i hab
          simp only [beq_iff_eq] at hab;cases h;refine ⟨aQP hf a1 ?_ (by omega) ?_,k3⟩<;>split<;>omega
theorem aNJ {f t:Int}(hf:0≤f):∀ (n:Nat) {ts l:List (Tok α)}{s:List Sp},Tk ts→aCr en f t n ts = .ok (s,l)→wk s∧Tk l:=by
  intro n
  induction n with
  | zero=>intro ts l s _ h;cases h
  | succ n ih =>
    intro ts l s hk h;unfold aCr at h
    split at h
    · cases h
    · rename_i s1 ts1 h1
      obtain ⟨w1,k1⟩:=aPR hf hk h1
      split at h
      · split at h
        · cases h
        · rename_i s2 ts2 h2
          obtain ⟨w2,k2⟩:=ih (k1.drop 1) h2;cases h;exact ⟨aPm w1 w2,k2⟩
      · cases h;exact ⟨w1,k1⟩
theorem aMN {ts l:List (Tok α)}{f t:Int}(hk:Tk ts) (h:dys en ts = .ok ((f,t),l)):0≤f∧f<7∧0≤t∧t<7∧Tk l:=by
  have hidx:∀ d∈aHR,0≤idx d∧idx d<7:=by decide +kernel
  unfold dys at h
  split at h
  · cases h
  · rename_i x ts1 h1
    obtain ⟨_,_,k1⟩:=aAD hk h1;have hx:=(aAv h1).2.2.resolve_left (by decide)
    split at h
    · split at h
      · cases h
      · rename_i y ts2 h2
        obtain ⟨_,_,k2⟩:=aAD (k1.drop 1) h2;have hy:=(aAv h2).2.2.resolve_left (by decide);cases h;exact ⟨(hidx _ hx).1,(hidx _ hx).2,(hidx _ hy).1,(hidx _ hy).2,k2⟩
    · cases h
      exact ⟨(hidx _ hx).1,(hidx _ hx).2,(hidx _ hx).1,(hidx _ hx).2,k1⟩
theorem aGG {ts l:List (Tok α)}{s:List Sp}(hk:Tk ts) (h:part en ts = .ok (s,l)):wk s∧Tk l:=by
  unfold part at h
  split at h
  · cases h
  · rename_i a b ts1 h1
    obtain ⟨h2,_,_,_,h3⟩:=aMN hk h1;exact aNJ h2 _ h3 h
theorem aOs:∀ (n:Nat) {ts l:List (Tok α)}{s:List Sp},Tk ts→aD8 en n ts = .ok (s,l)→wk s∧Tk l:=by
  intro n
  induction n with
  | zero=>intro ts l s _ h;cases h
  | succ n ih =>
    intro ts l s hk h;unfold aD8 at h
    split at h
    · cases h
    · rename_i s1 ts1 h1
      obtain ⟨w1,k1⟩:=aGG hk h1
      split at h
      · split at h
        · cases h
        · rename_i s2 ts2 h2
          obtain ⟨w2,k2⟩:=ih (k1.drop 1) h2;cases h;exact ⟨aPm w1 w2,k2⟩
      · cases h;exact ⟨w1,k1⟩
theorem aJo {ts:List (Tok α)}{s:List Sp}(hk:Tk ts) (h:aG1 en ts = .ok s):wk s:=by
  unfold aG1 at h
  cases hq:aCk en ts with
  | error q=>rw [hq] at h;cases h
  | ok q =>
    obtain ⟨s',l⟩:=q;rw [hq] at h
    cases l with
    | cons t l=>cases h
    | nil =>
      cases h;unfold aCk at hq
      split at hq
      · injection hq with hq;rw [show s=aCN 0 10080 from (congrArg Prod.fst hq).symm];exact aNn (by omega) (by omega) (by omega) (by omega)
      · split at hq
        · injection hq with hq;rw [show s=[] from (congrArg Prod.fst hq).symm];intro s hs;cases hs
        · exact (aOs _ hk hq).1
end
theorem aEz (l:Bys):(∃ e a,aNv l = .error (e,a)∧e≠0∧0≤a∧a<l.length)∨(aNv l = .ok ((aBx l 0).map (·.1))∧∀ x∈aBx l 0,x.2=0):=by
  have hm:∀ (q:List (Tok Int×Int)) (e:Int×Int),aE5 q=some e→e.1≠0∧∃ x∈q,x.1.2.2=e.2:=by
    intro q
    induction q with
    | nil=>intro e h;cases h
    | cons x q ih =>
      intro e h;unfold aE5 at h
      split at h
      · rename_i h1
        cases h;exact ⟨by simpa using h1,x,List.mem_cons_self,rfl⟩
      · obtain ⟨h1,y,hy,h2⟩:=ih e h
        exact ⟨h1,y,List.mem_cons_of_mem _ hy,h2⟩
  unfold aNv
  cases he:aE5 (aBx l 0) with
  | some e =>
    obtain ⟨h1,x,hx,h2⟩:=hm _ _ he;have:=(aJD _ l 0 (Nat.le_refl _)).2 x hx;exact .inl ⟨e.1,e.2,rfl,h1,by omega,by omega⟩
  | none=>exact .inr ⟨rfl,(aE4 _).1 he⟩
theorem aMx {l:Bys}{ts:List (Tok Int)}(h:aNv l = .ok ts):ts=(aBx l 0).map (·.1)∧aE5 (aBx l 0)=none∧Tk ts∧(∀ t∈ts,0≤t.2.2∧t.2.2<l.length)∧ts.length≤l.length:=by
  rcases aEz l with ⟨e,a,h1,_⟩ | ⟨h1,h2⟩
  · rw [h1] at h;cases h
  · rw [h1] at h
    cases h;refine ⟨rfl,(aE4 _).2 h2,fun t ht=>?_,fun t ht=>?_,?_⟩
    · obtain ⟨x,hx,rfl⟩:=List.mem_map.1 ht
      exact (aQ6 _ l 0 (Nat.le_refl _) x hx (h2 x hx)).1
    · obtain ⟨x,hx,rfl⟩:=List.mem_map.1 ht
      have:=(aJD _ l 0 (Nat.le_refl _)).2 x hx;omega
    · rw [List.length_map];exact aJC _ l 0 (Nat.le_refl _)
theorem aFh (l:Bys):(∃ e a,aCL l = .error (e,a)∧e≠0∧0≤a∧a≤l.length)∨(∃ s,aCL l = .ok s∧vl (-1) s=true∧s.length≤60):=by
  unfold aCL
  cases hl:aNv l with
  | error e =>
    rcases aEz l with ⟨e',a,h1,h2,h3,h4⟩ | ⟨h1,_⟩
    · rw [hl] at h1;cases h1
      exact .inl ⟨e',a,rfl,h2,h3,by omega⟩
    · rw [hl] at h1;cases h1
  | ok ts =>
    obtain ⟨_,_,hk,hr,_⟩:=aMx hl;simp only
    cases ht:aG1 (l.length:Int) ts with
    | error e =>
      obtain ⟨c,x⟩:=e;obtain ⟨h1,h2⟩:=aNN ht;refine .inl ⟨c,x,rfl,h1,?_⟩;rcases h2 with rfl | ⟨t,h3,rfl⟩
      · omega
      · have:=hr t h3;omega
    | ok s =>
      have hw:=aJo hk ht;simp only
      split
      · exact .inl ⟨2,_,rfl,by omega,by omega,by omega⟩
      · exact .inr ⟨_,rfl,(aJP hw).ok,by omega⟩
def aUI:List (Tok Int)→Int→List (Tok (Int×Int))
  | [],_=>[]
  | t::ts,n=>(t.1,t.2.1,(t.2.2,n))::aUI ts (n+(t.2.1.length+1:Nat))
end Go.Proofs.YtnhljdeohelgjaaGreatDoor
