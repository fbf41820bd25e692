/- Part 4 of the proof. -/
import Derived.Test.YtbflfefahheidaaGreatDoorM3
import Derived.Test.YtbflfefahheidaaGreatDoorProg
set_option linter.unusedVariables false
set_option linter.unusedSimpArgs false
namespace Go.Pl
open Go.RowKit
section
variable {P:Program}{B:Code}{R:Pst}{ds:List Deferred}{n:Nat}{p:Option (Nat×Nat)}{L N:Frm}{w w0:World}{F:List Ft}{F0:Nat→Prop}{M:List Ent}{r' i':Nat}
def aRv (n:Nat) (LL:Frm) (f:Operand→Op):Md→Option (Option Nat×Option Bool×Op×Op×Option Value)
 | .ops _ O (o::_) _ _=>match o.op.operands[0]? with
  | some x=>some (o.dst,aCL O LL n o,o.op,f x,opv LL x)
  | _=>none
 | _=>none
def aUE (x:Res) (n:Nat) (L:Frm) (f:Operand→Op):Option (Option Nat×Option Bool×Op×Option Value) :=
 match x with
 | some (m,nw,_,_)=>match aRv n (nw++L) f m with
  | some (d,wt,a,b,u)=>some (d,wt,a,u)
  | none=>none
 | none=>none
def aUD (x:Res) (n:Nat) (L:Frm) (f:Operand→Op) (d:Option Nat) (v:Value):Option (Option Nat×Option Bool×Op×Option Value) :=
 match x with
 | some (m,nw,_,_)=>match aRv n (nw++L) f m with
  | some (_,_,_,b,_)=>some (d,some true,b,some v)
  | none=>some (none,none,f (.tmp 0),none)
 | none=>some (none,none,f (.tmp 0),none)
theorem aLR {f:Operand→Op}{d:Option Nat}{v:Value}(hF:aAP P w F)
  (h:(lhs (go P w n B p L r' i' F) N L,aUE (go P w n B p L r' i' F) n L f)=(rhs (go P w n B p L r' i' F) N B r' i',aUD (go P w n B p L r' i' F) n L f d v))
  (k:∀ (O:Array Oper) (kk:List Kon) (o:Oper) (l:List Oper) (a:Act) x,aAS r' B []=some (O,false,kk)→O.toList.drop i'=o::l→EnvS ds n (N++L) a→o.dst=d→Region.wanted o (yielded O a.tmps)=true→o.op=f x→a.eval x=v→wpListIn (fen R.rd) 0 P O (post P R kk) (o::l) a w):AtO P B R ds n p L w:=by
 obtain ⟨h1,h2⟩:=Prod.mk.inj h
 obtain ⟨m,nw,fs,es,hx,hE,⟨z,hl,ht⟩,hs⟩:=aE2 h1
 rw [hx] at h2
 refine aIB hx hF hE fun a E=>?_
 unfold aUE aUD at h2
 simp only at h2
 cases hta:aRv n (nw++L) f m with
 | none=>rw [hta] at h2;cases h2
 | some q =>
  obtain ⟨d1,wt,oa,ob,u1⟩:=q
  rw [hta] at h2
  simp only [Option.some.injEq,Prod.mk.injEq] at h2
  obtain ⟨rfl,rfl,rfl,rfl⟩:=h2
  cases m with
  | ops r O l i k1 =>
   cases l with
   | nil=>cases hta
   | cons o l =>
    unfold aRv at hta
    simp only at hta
    split at hta
    ·rename_i x hx0
     simp only [Option.some.injEq,Prod.mk.injEq] at hta
     obtain ⟨q1,q3,q4,q5,q6⟩:=hta
     unfold aJk at ht
     cases hf:aAS r' B [] with
     | none=>rw [hf] at ht;cases ht
     | some z1 =>
      obtain ⟨O1,dr,kk⟩:=z1
      rw [hf] at ht
      cases dr with
      | true =>
       cases i' with
       | zero=>cases ht;cases hl
       | succ i'=>cases ht
      | false =>
       cases ht
       have hl:(some (O,false,k1,o::l,0):Option (Array Oper×Bool×List Kon×List Oper×Nat))=some (O1,false,kk,O1.toList.drop i',0):=hl
       simp only [Option.some.injEq,Prod.mk.injEq] at hl
       obtain ⟨rfl,_,rfl,hl,_⟩:=hl
       exact k O k1 o l a x hf hl.symm (E.sub hs) q1 (aCq q3 E) (q4.trans q5.symm) (E.opv q6)
    ·cases hta
  | _=>cases hta
theorem aMN {T:TypeId}{o:Oper}{ρ:Operand→Value}{x:Operand}{b:Nat}{v:Value}{w':World}(h:(Instr.range T (.map (some b))).run P w = .ok v w') (ho:o.op = .range T x) (hx:ρ x = .map (some b)):(execOp ρ o).run P w = .ok (.value v) w':=by
 simp [execOp,ho,hx,h,Result.andThen]
theorem aJy {o:Oper}{ρ:Operand→Value}{x:Operand}{r:Nat}{v:Value}{w':World}(h:(Instr.next (.pointer (some ⟨r,0,none⟩)) false o.type).run P w = .ok v w') (ho:o.op = .next x false) (hx:ρ x = .pointer (some ⟨r,0,none⟩)):(execOp ρ o).run P w = .ok (.value v) w':=by
 simp [execOp,ho,hx,h,Result.andThen]
theorem aMO {o:Oper}{ρ:Operand→Value}{x:Operand}{r:Nat}{v:Value}(h:(Instr.entry (.pointer (some ⟨r,0,none⟩))).run P w = .ok v w) (ho:o.op = .entry x) (hx:ρ x = .pointer (some ⟨r,0,none⟩)):(execOp ρ o).run P w = .ok (.value v) w:=by
 simp [execOp,ho,hx,h,Result.andThen]
def aSv (P:Program) (K:TypeId) (b r n:Nat) (m:Value→Option Value) (left:Value→Prop) (cnt:Nat):Ent where
 B k:=k=b∨k=r
 H w:=Rng P K w b r m left cnt∧aDs P K w b n m
 lt h e:=by rcases e with rfl | rfl;exact h.2.lt;exact h.1.lt
 fr h f hn:=⟨h.1.fr f (hn _ (.inl rfl)) (hn _ (.inr rfl)),h.2.fr f (hn _ (.inl rfl))⟩
theorem rgm (r' i' d:Nat) (N:Frm) (T j:Nat) {K e:TypeId}{b c:Nat}{m:Value→Option Value}(hd:d<n) (hF:aAP P w F) (hM:Mm F0 w0 w M) (hj:M[j]?=some (mp P K b c m)) (ht:P.underlying T=some (.map K e))
  (kk:∀ r cnt w',Mm F0 w0 w' (M.set j (aSv P K b r c m (fun k=>(m k).isSome=true) cnt))→AtO P B R ds n (some (r',i'+1)) ((d,vP r 0)::(N++L)) w')
  (h:(lhs (go P w n B p L r' i' F) N L,aUE (go P w n B p L r' i' F) n L (fun x => .range T x))=(rhs (go P w n B p L r' i' F) N B r' i',aUD (go P w n B p L r' i' F) n L (fun x => .range T x) (some d) (.map (some b))):=by kernel_rfl):AtO P B R ds n p L w:=by
 refine aLR hF h fun O k1 o l a x hf hd1 En hdd hw ho hx=>?_
 have hm:aDs P K w b c m:=hM.get j hj
 obtain ⟨ob,cnt,hr,hR⟩:=hm.at.range ht
 refine aDp hw (aMN hr ho hx) ?_
 rw [hdd]
 have f1:Fr (fun _=>False) w (w.alloc ob):=(Fr.refl _ _).alloc _
 have hM':=hM.put (w':=w.alloc ob) j (e':=aSv P K b w.heap.size c m (fun k=>(m k).isSome=true) cnt) hj f1 (fun _ _ h=>h.elim) ⟨hR,hm.fr f1 id⟩ fun k e=>by
  rcases e with rfl | rfl
  ·exact .inl rfl
  ·exact .inr (Nat.le_refl _)
 obtain ⟨O1,dr,k2,hf1,hk⟩:=kk _ _ _ hM'
 rw [hf] at hf1
 cases hf1
 have hdr:O.toList.drop (i'+1)=l:=by rw [←List.tail_drop,hd1];rfl
 rw [←hdr]
 exact hk _ (En.put hd)
theorem nxm (r' i' d:Nat) (N:Frm) (j:Nat) {K:TypeId}{b r c cnt:Nat}{m:Value→Option Value}{left:Value→Prop}(hd:d<n) (hF:aAP P w F) (hM:Mm F0 w0 w M) (hj:M[j]?=some (aSv P K b r c m left cnt))
  (k1:(∀ k,¬ left k)→AtO P B R ds n (some (r',i'+1)) ((d,.tuple #[vB false])::(N++L)) w)
  (k2:∀ key v cnt' w',left key→m key=some v→(∃ l,keyOf P K key=some l)→cnt'<cnt→Mm F0 w0 w' (M.set j (aSv P K b r c m (fun x=>left x∧x≠key) cnt'))→(Instr.entry (.pointer (some ⟨r,0,none⟩))).run P w' = .ok (.tuple #[key,v]) w'→AtO P B R ds n (some (r',i'+1)) ((d,.tuple #[vB true,key,v])::(N++L)) w')
  (h:(lhs (go P w n B p L r' i' F) N L,aUE (go P w n B p L r' i' F) n L (fun x => .next x false))=(rhs (go P w n B p L r' i' F) N B r' i',aUD (go P w n B p L r' i' F) n L (fun x => .next x false) (some d) (vP r 0)):=by kernel_rfl):AtO P B R ds n p L w:=by
 refine aLR hF h fun O k1' o l a x hf hd1 En hdd hw ho hx=>?_
 have hdr:O.toList.drop (i'+1)=l:=by rw [←List.tail_drop,hd1];rfl
 obtain ⟨hR,hm⟩:Rng P K w b r m left cnt∧aDs P K w b c m:=hM.get j hj
 rcases hR.next o.type with ⟨h0,hr⟩ | ⟨key,v,w',cnt',g1,g2,g3,hr,g4,g5,g6,g7⟩
 ·refine aDp hw (aJy hr ho hx) ?_
  rw [hdd]
  obtain ⟨O1,dr,k2,hf1,hk⟩:=k1 h0
  rw [hf] at hf1
  cases hf1
  rw [←hdr]
  exact hk _ (En.put hd)
 ·refine aDp hw (aJy hr ho hx) ?_
  rw [hdd]
  have hM':=hM.put (w':=w') j (e':=aSv P K b r c m (fun x=>left x∧x≠key) cnt') hj g6 (fun k _ e => .inr e) ⟨g4,hm.fr g6 (fun e=>hR.ne e.symm)⟩ fun k e => .inl e
  obtain ⟨O1,dr,k2,hf1,hk⟩:=k2 _ _ _ _ g1 g2 g3 g5 hM' g7
  rw [hf] at hf1
  cases hf1
  rw [←hdr]
  exact hk _ (En.put hd)
theorem aRr {r:Nat}{key v:Value}(h:(Instr.entry (.pointer (some ⟨r,0,none⟩))).run P w = .ok (.tuple #[key,v]) w):Ft.ok P w (.g1 (fun x => .entry x) (vP r 0) (.tuple #[key,v])):=fun o ρ x ho hx=>aMO h ho hx
theorem Mm.unrng {K:TypeId}{b r c cnt j:Nat}{m:Value→Option Value}{left:Value→Prop}(hM:Mm F0 w0 w M) (hj:M[j]?=some (aSv P K b r c m left cnt)):Mm F0 w0 w (M.set j (mp P K b c m)) :=
 hM.put j hj (Fr.refl (fun _=>False) _) (fun _ _ h=>h.elim) (show aDs P K w b c m from (hM.get j hj).2) fun k e => .inl (.inl e)
end
def slp:Value→Option Addr
 | .slice p _ _=>p
 | _=>none
def slc:Value→Nat
 | .slice _ _ c=>c
 | _=>0
section
variable {P:Program}{w w0:World}{rd:Option Nat}{B:Code}{r n:Nat}{L:Frm}{ef:List Nat}{V:Lts→List (Option Value)}{F:Lts→List Ft}{ds:List Deferred}{F0:Nat→Prop}{Mf:Lts→List Bool→List Ent}
theorem aHa {α:Type}{f:α→List Value}{c:Nat}(p i j d T E G:Nat) (v:Lts→Value) (A S:List α) (q:Lts→Nat) (cap:Nat) (X:ElT P f c T E) (hl:A.length+S.length≤1500000000000)
  (hsrc:∀ γ fr wm,Mm F0 w0 wm (Mf γ (flg B r ef i fr))→aDd f c wm (q γ+1) (some ⟨q γ,0,none⟩) S)
  (hj:∀ γ fr,(Mf γ (flg B r ef i fr))[j]?=some (rw_ f c E (v γ) A):=by intro γ fr;kernel_rfl)
  (hm:∀ γ fr p' c',(Mf γ (flg B r ef i fr)).set j (rw_ f c E (vL p' (A++S).length c') (A++S))=Mf (aDq γ p (vL p' (A++S).length c')) ((flg B r ef i fr).set p true):=by intro γ fr p' c';kernel_rfl)
  (hV:∀ γ p' c',((V (aDq γ p (vL p' (A++S).length c')))[p]?).getD none=some (vL p' (A++S).length c'):=by intro γ p' c';rfl)
  (hs:∀ γ,aSp (aAE B r) i (frX P w n B r L ef V F i γ)=aSo (aAE B r) i (fun x y => .call { callee := .builtin .append,args:=#[x,y],argTypes:=#[T,T] }) (v γ) (.slice (some ⟨q γ,0,none⟩) S.length cap) (some d):=by intro γ;kernel_rfl):Arm rd P w n B r L ef V F ds F0 w0 Mf p i:=by
 intro γ fr a wm Q o ho En hw hM
 obtain ⟨x,y,h1,h2,h3,h4⟩:=aHz ho En (hs γ)
 have hrow:ow f c E wm 0 (v γ) A:=hM.get j (hj γ fr)
 obtain ⟨w',v',g1,g2,g3,g4⟩:=aQe X h1 h2 hrow h3 (hsrc γ fr wm hM) (by simp) hl (Nat.zero_le _)
 have hM':=hM.put (w':=w') j (e':=rw_ f c E v' (A++S)) (hj γ fr) g3 (fun k _ e=>e) g2 (fun k e=>by
  have e:v'.ownBlock=some k:=e
  rcases g4 with h3 | h3
  ·exact .inl (by rw [h3] at e;exact e)
  ·rw [h3] at e;cases e;exact .inr (Nat.le_refl _))
 obtain ⟨p',c',hv,-⟩:=g2.src X.len
 subst hv
 rw [hm] at hM'
 exact aFN g1 ⟨vL p' (A++S).length c',γ.e p,by rw [aA7,hV,h4];rfl,by rw [aA7];exact hM'⟩
end
section
variable {P:Program}{B:Code}{R:Pst}{ds:List Deferred}{n:Nat}{p:Option (Nat×Nat)}{L N:Frm}{w w0:World}{F:List Ft}{F0:Nat→Prop}{M A Ms:List Ent}
abbrev Mth (P:Program) (w:World) (t:TypeId) (v:Value) (name:String) (f:FuncId) (rv:Value):Prop:=(method (P.types.size+100) t v name).run P w = .ok (f,rv) w
section
variable {o:Oper}{ρ:Operand→Value}{x y z:Operand}{t:TypeId}{v rv u1 u2:Value}{f:FuncId}{name:String}{ts:Array TypeId}
theorem aO9 (hm:Mth P w t v name f rv) (eg:aJb P f) (ho:o.op = .call ⟨.invoke x name,#[],ts⟩) (hx:ρ x = .iface t v):(execOp ρ o).run P w = .ok (.enter f #[rv]) w:=by
 have hm:(method (P.types.size+100) t v name).run P w = .ok (f,rv) w:=hm
 simp [execOp,ho,hx,resolve,invoke,callMethod,go_sem,hm,eg]
theorem aO8 (hm:Mth P w t v name f rv) (eg:aJb P f) (ho:o.op = .call ⟨.invoke x name,#[y],ts⟩) (hx:ρ x = .iface t v) (hy:ρ y=u1):(execOp ρ o).run P w = .ok (.enter f #[rv,u1]) w:=by
 have hm:(method (P.types.size+100) t v name).run P w = .ok (f,rv) w:=hm
 simp [execOp,ho,hx,hy,resolve,invoke,callMethod,go_sem,hm,eg]
theorem aO7 (hm:Mth P w t v name f rv) (eg:aJb P f) (ho:o.op = .call ⟨.invoke x name,#[y,z],ts⟩) (hx:ρ x = .iface t v) (hy:ρ y=u1) (hz:ρ z=u2):(execOp ρ o).run P w = .ok (.enter f #[rv,u1,u2]) w:=by
 have hm:(method (P.types.size+100) t v name).run P w = .ok (f,rv) w:=hm
 simp [execOp,ho,hx,hy,hz,resolve,invoke,callMethod,go_sem,hm,eg]
end
theorem aWd (r' i' d:Nat) (N:Frm) (name:String) (ts:Array TypeId) {t:TypeId}{v rv:Value}{f:FuncId}{K:Value→World→Prop}(hd:d<n) (hF:aAP P w F) (hm:Mth P w t v name f rv) (eg:aJb P f) (hc:Calls P f #[rv] w fun e w'=>∃ u,e = .returned u∧K u w') (k:∀ u w',K u w'→AtO P B R ds n (some (r',i'+1)) ((d,u)::(N++L)) w')
  (h:(lhs (go P w n B p L r' i' F) N L,aUE (go P w n B p L r' i' F) n L (fun x => .call ⟨.invoke x name,#[],ts⟩))=(rhs (go P w n B p L r' i' F) N B r' i',aUD (go P w n B p L r' i' F) n L (fun x => .call ⟨.invoke x name,#[],ts⟩) (some d) (.iface t v)):=by kernel_rfl):AtO P B R ds n p L w :=
 aLR hF h fun O kk o l a x hf hd1 E hdd hw ho hx=>by
  refine aGo hw (aO9 hm eg ho hx) hc fun u w' hK=>?_
  obtain ⟨O1,dr,k1,hf1,hk⟩:=k u w' hK
  rw [hf] at hf1
  cases hf1
  have:=hk _ (E.put (v:=u) hd)
  rw [hdd]
  have hdr:O.toList.drop (i'+1)=l:=by rw [←List.tail_drop,hd1];rfl
  rw [←hdr];exact this
theorem aXI (r' i' d:Nat) (N:Frm) (name:String) (ts:Array TypeId) {t:TypeId}{v rv u1:Value}{f:FuncId}{K:Value→World→Prop}(hd:d<n) (hF:aAP P w F) (hm:Mth P w t v name f rv) (eg:aJb P f) (hc:Calls P f #[rv,u1] w fun e w'=>∃ u,e = .returned u∧K u w') (k:∀ u w',K u w'→AtO P B R ds n (some (r',i'+1)) ((d,u)::(N++L)) w')
  (h:(lhs (go P w n B p L r' i' F) N L,aME (go P w n B p L r' i' F) n L (fun x y => .call ⟨.invoke x name,#[y],ts⟩))=(rhs (go P w n B p L r' i' F) N B r' i',aMD (go P w n B p L r' i' F) n L (fun x y => .call ⟨.invoke x name,#[y],ts⟩) (some d) false (.iface t v) u1):=by kernel_rfl):AtO P B R ds n p L w :=
 aHt hF h fun O kk o l a x y hf hd1 E hdd _ hw ho hx hy=>by
  refine aGo hw (aO8 hm eg ho hx hy) hc fun u w' hK=>?_
  obtain ⟨O1,dr,k1,hf1,hk⟩:=k u w' hK
  rw [hf] at hf1
  cases hf1
  have:=hk _ (E.put (v:=u) hd)
  rw [hdd]
  have hdr:O.toList.drop (i'+1)=l:=by rw [←List.tail_drop,hd1];rfl
  rw [←hdr];exact this
theorem aQo (r' i' d:Nat) (N:Frm) (name:String) (ts:Array TypeId) {t:TypeId}{v rv u1 u2:Value}{f:FuncId}{K:Value→World→Prop}(hd:d<n) (hF:aAP P w F) (hm:Mth P w t v name f rv) (eg:aJb P f) (hc:Calls P f #[rv,u1,u2] w fun e w'=>∃ u,e = .returned u∧K u w') (k:∀ u w',K u w'→AtO P B R ds n (some (r',i'+1)) ((d,u)::(N++L)) w')
  (h:(lhs (go P w n B p L r' i' F) N L,aUS (go P w n B p L r' i' F) n L (fun x y z => .call ⟨.invoke x name,#[y,z],ts⟩))=(rhs (go P w n B p L r' i' F) N B r' i',aUR (go P w n B p L r' i' F) n L (fun x y z => .call ⟨.invoke x name,#[y,z],ts⟩) (some d) (.iface t v) u1 u2):=by kernel_rfl):AtO P B R ds n p L w :=
 aOj hF h fun O kk o l a x y z hf hd1 E hdd hw ho hx hy hz=>by
  refine aGo hw (aO7 hm eg ho hx hy hz) hc fun u w' hK=>?_
  obtain ⟨O1,dr,k1,hf1,hk⟩:=k u w' hK
  rw [hf] at hf1
  cases hf1
  have:=hk _ (E.put (v:=u) hd)
  rw [hdd]
  have hdr:O.toList.drop (i'+1)=l:=by rw [←List.tail_drop,hd1];rfl
  rw [←hdr];exact this
theorem aTV {g:FuncId}{args:Array Value}{K:Value→List Ent→Prop}(is js:List Nat) (hM:Mm F0 w0 w M) (hA:aBH M is=A) (hS:aBH M js=Ms) (hn:(is++js).Nodup) (hc:Mm (BlM Ms) w w Ms→Calls P g args w fun e w'=>∃ v Mn,e = .returned v∧K v Mn∧Mm (BlM Ms) w w' Mn):Calls P g args w fun e w'=>∃ v,e = .returned v∧∃ Mn,K v Mn∧Mm F0 w0 w' (A++Mn):=by
 have hp:aBH M (is++js)=A++Ms:=by rw [←hA,←hS,aEL]
 have hM1:=hM.pick (is++js) hp hn
 have hMs:Mm F0 w0 w Ms:=hM.pick js hS (List.nodup_append.1 hn).2.1
 exact (hc (hMs.re fun e he k hk=>⟨e,he,hk⟩)).mono fun e w' ⟨v,Mn,h1,h2,h3⟩=>⟨v,h1,Mn,h2,hM1.call h3 fun _ _ h=>h⟩
end
theorem aWj {P:Program}{w:World}{f:FuncId}{args:Array Value}{v:Value}(hc:Calls P f args w fun e w'=>e = .returned v∧Fr (fun _=>False) w w'):Calls P f args w fun e w'=>∃ u,e = .returned u∧(u=v∧Fr (fun _=>False) w w'):=hc.mono fun _ _ h=>⟨v,h.1,rfl,h.2⟩
section
variable {P:Program}{w w0:World}{α:Type}{f:α→List Value}{c E TS B:Nat}{p:Option Addr}{F0:Nat→Prop}{M:List Ent}{A:List α}
theorem aVl (hlen:∀ x,(f x).length=c) {n cap:Nat}{Y:List α}{x:α}(h:ow f c E w B (.slice p n cap) (Y++[x])):ow f c E w B (.slice p (n-1) cap) Y:=by
 rcases h.2 with ⟨h1,h2⟩ | ⟨g,c2,cur,h1,hB,h3,h4,h5,h6,h7⟩
 ·simp at h2
 ·simp only [Value.slice.injEq] at h1
  obtain ⟨rfl,hn,rfl⟩:=h1
  simp only [List.length_append,List.length_singleton] at h4 h7 hn
  refine ⟨by rw [aCm hlen],.inr ⟨g,cap,cur,by rw [hn];rfl,hB,h3,by omega,h5,h6,?_⟩⟩
  have h8:=congrArg (List.take (Y.length*c)) h7
  rw [List.take_take,Nat.min_eq_left (by rw [Nat.succ_mul];omega)] at h8
  rw [h8,aP8 hlen]
  rw [List.take_append_of_le_length (Nat.le_refl _),List.take_length]
theorem Mm.popE (hlen:∀ x,(f x).length=c) (hM:Mm F0 w0 w M) {j n cap:Nat}{Y:List α}{x:α}(hj:M[j]?=some (rw_ f c E (.slice p n cap) (Y++[x]))):Mm F0 w0 w (M.set j (rw_ f c E (.slice p (n-1) cap) Y)) :=
 hM.put j hj (Fr.refl (fun _=>False) _) (fun _ _ h=>h.elim) (show ow f c E w 0 _ Y from aVl hlen (hM.get j hj)) fun k e => .inl (by cases p<;>exact e)
theorem aXz (T:TypeId) {g n cap i:Nat}{z:Int}(hz:z=(i:Int)) (hle:n≤cap) (hi:i<n) (hT:P.underlying T=some (.slice E)) (hE:(P.info? E).isSome=true:=by kernel_rfl):Ft.ok P w (.g2 (fun x y => .slice T x none (some y) none) (vL (some ⟨g,0,none⟩) n cap) (vI z) (vL (some ⟨g,0,none⟩) i cap)):=fun o ρ x y ho hx hy=>by
 subst hz
 have h1:(i:Int)≤cap:=by omega
 have h0:(0:Int)≤i:=by omega
 have h3:cap≠0:=by omega
 obtain ⟨ti,hti⟩:=Option.isSome_iff_exists.1 hE
 simp [execOp,ho,hx,hy,go_sem,h1,h0,h3,hT,sizeOf,typeInfo,hti]
theorem aEF {X:List α}{i j:Nat}{x y:α}(hx:X[i]?=some x) (hy:X[j]?=some y):((X.set i y).set j x).Perm X:=by
 obtain ⟨hi,hx⟩:=List.getElem?_eq_some_iff.1 hx
 obtain ⟨hj,hy⟩:=List.getElem?_eq_some_iff.1 hy
 have h:=Array.swap_perm (xs:=X.toArray) (i:=i) (j:=j) (by simpa using hi) (by simpa using hj)
 have h2:=Array.perm_iff_toList_perm.1 h
 rw [Array.toList_swap] at h2
 simpa [hx,hy] using h2
end
section
variable {P:Program}{w w0:World}{rd:Option Nat}{B:Code}{r n:Nat}{L:Frm}{ef:List Nat}{V:Lts→List (Option Value)}{F:Lts→List Ft}{ds:List Deferred}{F0:Nat→Prop}{Mf:Lts→List Bool→List Ent}
variable {α:Type}{f:α→List Value}{c E TS:Nat}{q:Option Addr}{g cap m:Nat}
theorem aSN (p i T j k l e d:Nat) (A:List α) {y:α}(X:ElT P f c TS E) (hq:q=some ⟨g,0,none⟩) (hy:A[e]?=some y)
  (hj:∀ γ fr,(Mf γ (flg B r ef i fr))[j]?=some (rw_ f c E (.slice q m cap) A):=by intro γ fr;kernel_rfl)
  (hm:∀ γ fr,Mf γ (flg B r ef i fr)=Mf (aDq γ p undef) ((flg B r ef i fr).set p true):=by intro γ fr;kernel_rfl)
  (hV:∀ γ,((V (aDq γ p undef))[p]?).getD none=some (vA (((f y).drop k).take l)):=by intro γ;rfl) (hT:agT P T (((f y).drop k).take l).length=true:=by kernel_rfl)
  (hs:∀ γ,aVc (aAE B r) i (frX P w n B r L ef V F i γ)=aVb (aAE B r) i (.load T) (vP g (0+e*c+k)) (some d):=by intro γ;kernel_rfl):Arm rd P w n B r L ef V F ds F0 w0 Mf p i:=by
 intro γ fr a wm Q o ho En hw hM
 obtain ⟨x,h1,h2,h3⟩:=aOx ho En (hs γ)
 obtain ⟨g',e1,e2⟩:=hM.el X (hj γ fr) hy
 rw [hq] at e1
 injection e1 with e1
 injection e1 with e1 _ _
 subst e1
 have hl:=aEG (P:=P) hT (rs e2 k l)
 rw [hm] at hM
 refine aHr (v:=vA (((f y).drop k).take l)) (w':=wm) ?_ ⟨undef,γ.e p,by rw [aA7,hV,h3];rfl,by rw [aA7];exact hM⟩
 simp only [execOp,h1,h2,Sem.run_bind,hl,Result.andThen_ok,Sem.run_pure]
end
section
variable {P:Program}{B:Code}{R:Pst}{ds:List Deferred}{n:Nat}{p:Option (Nat×Nat)}{L:Frm}{w w0:World}{F:List Ft}{F0:Nat→Prop}{M:List Ent}
theorem aXE (r' i' d:Nat) (N:Frm) {f:Operand→Op}{v u:Value}(hd:d<n) (hF:aAP P w F) (hr:Ft.ok P w (.g1 f v u)) (k:AtO P B R ds n (some (r',i'+1)) ((d,u)::(N++L)) w)
  (h:(lhs (go P w n B p L r' i' F) N L,aUE (go P w n B p L r' i' F) n L f)=(rhs (go P w n B p L r' i' F) N B r' i',aUD (go P w n B p L r' i' F) n L f (some d) v):=by kernel_rfl):AtO P B R ds n p L w:=by
 refine aLR hF h fun O k1 o l a x hf hd1 En hdd hw ho hx=>aDp hw (hr o _ x ho hx) ?_
 rw [hdd]
 obtain ⟨O1,dr,k2,hf1,hk⟩:=k
 rw [hf] at hf1
 cases hf1
 have hdr:O.toList.drop (i'+1)=l:=by rw [←List.tail_drop,hd1];rfl
 rw [←hdr]
 exact hk _ (En.put hd)
theorem ins (r' i':Nat) (N:Frm) (T j:Nat) {K e:TypeId}{b c:Nat}{m:Value→Option Value}(key v:Value) (hF:aAP P w F) (hM:Mm F0 w0 w M) (hj:M[j]?=some (mp P K b c m)) (LK:Maps.Keyed P K) (ht:P.underlying T=some (.map K e)) (hk:∃ l,keyOf P K key=some l) (kk:∀ w',Mm F0 w0 w' (M.set j (mp P K b (c+1) (upd m key v)))→AtO P B R ds n (some (r',i'+1)) (N++L) w')
  (h:(lhs (go P w n B p L r' i' F) N L,aUS (go P w n B p L r' i' F) n L (fun x y z => .insert T x y z))=(rhs (go P w n B p L r' i' F) N B r' i',aUR (go P w n B p L r' i' F) n L (fun x y z => .insert T x y z) none (.map (some b)) key v):=by kernel_rfl):AtO P B R ds n p L w:=by
 obtain ⟨l,hk⟩:=hk
 have hm:aDs P K w b c m:=hM.get j hj
 obtain ⟨ob,hob⟩:=hm.store LK ht hk v
 obtain ⟨h1,h2⟩:=hob w rfl
 have hM':=hM.put (w':=setBlk w b ob) j (e':=mp P K b (c+1) (upd m key v)) hj ((Fr.refl (fun r=>r=b) w).setBlk (fun _=>rfl) ob) (fun k _ e=>e) (h2.mono (by split<;>omega)) (fun k e => .inl e)
 refine aOj hF h fun O k1 o l a x y z hf hd1 E hd hw ho hx hy hz=>aK5 hw (w':=setBlk w b ob) (by simp only [execOp,ho,hx,hy,hz,Sem.run_bind,h1,Result.andThen_ok,Sem.run_pure]) hd ?_
 obtain ⟨O1,dr,k2,hf1,hk⟩:=kk _ hM'
 rw [hf] at hf1
 cases hf1
 have:=hk _ E
 have hdr:O.toList.drop (i'+1)=l:=by rw [←List.tail_drop,hd1];rfl
 rw [←hdr];exact this
end
section
variable {P:Program}{w w0:World}{rd:Option Nat}{B:Code}{r n:Nat}{L:Frm}{ef:List Nat}{V:Lts→List (Option Value)}{F:Lts→List Ft}{ds:List Deferred}{F0:Nat→Prop}{Mf:Lts→List Bool→List Ent}
def enL (P:Program) (wm:World) (O:Array Oper) (i:Nat) (LL:Frm):Option (Nat×Array Value×Option Nat×World) :=
 match O[i]? with
 | some o=>bif aDI LL o.op&&(match o.op with | .select _ _=>false | _=>true) then (match (execOp (rho LL) o).run P wm with
  | .ok (.enter f args) w'=>some (f,args,o.dst,w')
  | _=>none) else none
 | none=>none
theorem aUm {wm:World}{O:Array Oper}{i:Nat}{LL:Frm}{f:Nat}{args:Array Value}{d:Option Nat}{o:Oper}{ds:List Deferred}{n:Nat}{a:Act}(ho:O[i]?=some o) (E:EnvS ds n LL a) (h:enL P wm O i LL=some (f,args,d,wm)):(execOp a.eval o).run P wm = .ok (.enter f args) wm∧o.dst=d:=by
 unfold enL at h
 rw [ho] at h
 simp only at h
 cases hc:(aDI LL o.op&&(match o.op with | .select _ _=>false | _=>true)) with
 | false=>rw [hc] at h;cases h
 | true =>
  rw [hc] at h
  simp only [cond_true] at h
  rw [Bool.and_eq_true] at hc
  rw [aF6 E hc.1 fun cs b e=>by rw [e] at hc;cases hc.2]
  split at h
  ·rename_i f1 args1 w1 hr
   simp only [Option.some.injEq,Prod.mk.injEq] at h
   obtain ⟨rfl,rfl,rfl,rfl⟩:=h
   exact ⟨hr,rfl⟩
  ·cases h
theorem aSO (p i j d:Nat) {f:FuncId}(args:Lts→Array Value) (v:Value) (e e':Ent)
  (hc:∀ (γ:Lts) wm,e.H wm→Fr F0 w0 wm→Calls P f (args γ) wm fun x w'=>x = .returned v∧Fr e.B wm w'∧e'.H w'∧∀ k,e'.B k→e.B k∨wm.heap.size≤k)
  (hj:∀ γ fr,(Mf γ (flg B r ef i fr))[j]?=some e:=by intro γ fr;kernel_rfl)
  (hm:∀ γ fr,(Mf γ (flg B r ef i fr)).set j e'=Mf (aDq γ p v) ((flg B r ef i fr).set p true):=by intro γ fr;kernel_rfl)
  (hV:∀ γ,((V (aDq γ p v))[p]?).getD none=some v:=by intro γ;rfl)
  (hs:∀ γ wm,enL P wm (aAE B r) i (frX P w n B r L ef V F i γ)=some (f,args γ,some d,wm):=by intro γ wm;kernel_rfl):Arm rd P w n B r L ef V F ds F0 w0 Mf p i:=by
 intro γ fr a wm Q o ho En hw hM
 obtain ⟨h1,h2⟩:=aUm ho En (hs γ wm)
 refine aGe (R:=fun u w'=>u=v∧Fr e.B wm w'∧e'.H w'∧∀ k,e'.B k→e.B k∨wm.heap.size≤k) h1 ((hc γ wm (hM.get j (hj γ fr)) hM.fr).mono fun x w' ⟨g1,g2⟩=>⟨v,g1,rfl,g2⟩) fun u w' ⟨hu,g1,g2,g3⟩=>?_
 subst hu
 have hM':=hM.put (w':=w') j (hj γ fr) g1 (fun k _ h=>h) g2 g3
 rw [hm] at hM'
 exact ⟨u,γ.e p,by rw [aA7,hV,h2];rfl,by rw [aA7];exact hM'⟩
end
end Go.Pl
namespace Go.Proofs.YtbflfefahheidaaGreatDoor
open Go.RowKit Go.Pl
def reL (x:Nat×Int):List Value:=[vI (x.1:Int),vI x.2]
theorem reT:ElT Tryz.prog reL 2 117 124:=⟨fun _=>rfl,by decide,fun x u hu=>by
 unfold reL at hu
 rcases List.mem_cons.1 hu with rfl | hu
 ·rfl
 ·rw [List.mem_singleton] at hu
  subst hu;rfl,Tryz.underlying117,aBL (by kernel_rfl)⟩
abbrev QM (q:Nat) (v:Value) (X:List (Nat×Int)):List Ent:=[bk q #[v] 117,rw_ reL 2 124 v X]
section
variable {w:World}{q n c:Nat}{p:Option Addr}
theorem aKS (h:w.heap[q]?=some (.cells #[vL p n c] 117 (0,0))):(Instr.loadAt 117 (vP q 0)).run Tryz.prog w = .ok (vL p n c) w:=aB0 (by kernel_rfl) (bx h 0 rfl)
theorem aTT:Mth Tryz.prog w 115 (vP q 0) "Push" 238 (vP q 0):=by unfold Mth;kernel_rfl
theorem aVr:Mth Tryz.prog w 115 (vP q 0) "Pop" 237 (vP q 0):=by unfold Mth;kernel_rfl
theorem aPn (h:w.heap[q]?=some (.cells #[vL p n c] 117 (0,0))):Mth Tryz.prog w 115 (vP q 0) "Len" 235 (vL p n c):=by
 have e:(method (Tryz.prog.types.size+100) 115 (vP q 0) "Len").run Tryz.prog w=(do let x←Instr.loadAt 117 (vP q 0);pure (235,x):Sem (FuncId×Value)).run Tryz.prog w:=by kernel_rfl
 show (method (Tryz.prog.types.size+100) 115 (vP q 0) "Len").run Tryz.prog w=_
 rw [e];simp [Sem.run_bind,aKS h]
theorem aG7 (h:w.heap[q]?=some (.cells #[vL p n c] 117 (0,0))):Mth Tryz.prog w 115 (vP q 0) "Less" 236 (vL p n c):=by
 have e:(method (Tryz.prog.types.size+100) 115 (vP q 0) "Less").run Tryz.prog w=(do let x←Instr.loadAt 117 (vP q 0);pure (236,x):Sem (FuncId×Value)).run Tryz.prog w:=by kernel_rfl
 show (method (Tryz.prog.types.size+100) 115 (vP q 0) "Less").run Tryz.prog w=_
 rw [e];simp [Sem.run_bind,aKS h]
theorem aG6 (h:w.heap[q]?=some (.cells #[vL p n c] 117 (0,0))):Mth Tryz.prog w 115 (vP q 0) "Swap" 239 (vL p n c):=by
 have e:(method (Tryz.prog.types.size+100) 115 (vP q 0) "Swap").run Tryz.prog w=(do let x←Instr.loadAt 117 (vP q 0);pure (239,x):Sem (FuncId×Value)).run Tryz.prog w:=by kernel_rfl
 show (method (Tryz.prog.types.size+100) 115 (vP q 0) "Swap").run Tryz.prog w=_
 rw [e];simp [Sem.run_bind,aKS h]
theorem aX9 (j:Nat) (hj:j≤4000000000000000000):Ft.ok Tryz.prog w (.g2 (fun x y => .binOp .quo 3 x y 3) (vI ((j:Int)-1)) (vI 2) (vI (((j-1) / 2:Nat):Int))):=fun o ρ x y ho hx hy=>by
 have e:Int.tdiv ((j:Int)-1) 2=(((j-1) / 2:Nat):Int):=by
  cases j with
  | zero=>rfl
  | succ k =>
   rw [show ((k+1:Nat):Int)-1=(k:Int) by omega]
   rfl
 have hw:IntKind.i64.wrap (((j-1:Nat):Int) / 2)=((j-1:Nat):Int) / 2:=IntWalk.i64_in _ ⟨by omega,by omega⟩
 simp [execOp,ho,hx,hy,go_sem,u3_,e,hw]
end
theorem aFy {w:World}{p:Option Addr}{n c:Nat}:Calls Tryz.prog 235 #[vL p n c] w fun e w'=>e = .returned (vI (n:Int))∧Fr (fun _=>False) w w':=by
 refine beg Tryz.func235 rfl rfl [(0,vL p n c)] rfl rfl fun Φ hΦ=>?_
 have hM:=Mm.nil (fun _=>False) w
 exact rt1 2 (vI (n:Int)) rfl f0 (hΦ _ _ ⟨rfl,hM.fr⟩)
theorem aCx {w:World}{p:Option Addr}{c i j:Nat}{X:List (Nat×Int)}(hs:SrcP reL 2 w p c X) (hi:i<X.length) (hj:j<X.length):Calls Tryz.prog 236 #[vL p X.length c,vI (i:Int),vI (j:Int)] w fun e w'=>(∃ b,e = .returned (vB b))∧Fr (fun _=>False) w w':=by
 refine beg Tryz.func236 rfl rfl [(0,vL p X.length c),(1,vI (i:Int)),(2,vI (j:Int))] rfl rfl fun Φ hΦ=>?_
 have hM:=Mm.nil (fun _=>False) w
 refine seg 1 0 [] f0 ?_
 have hM:=hM.q ((Fr.refl _ _).drew)
 obtain ⟨y3,hy3,g3,o3,q3,r3⟩:=hs.el (i:=i) (by omega)
 obtain ⟨y4,hy4,g4,o4,q4,r4⟩:=hs.el (i:=j) (by omega)
 refine drq [(6,vB (decide (y3.2<y4.2)))] rfl (fc (ix 117 c q3 (gl hy3)) (fc (ld0 3 hM (r3 1 _ rfl)) (fc (ix 117 c q4 (gl hy4)) (fc (ld0 3 hM (r4 1 _ rfl)) f0)))) (rt1 6 (vB (decide (y3.2<y4.2))) rfl f0 (hΦ _ _ ⟨⟨_,rfl⟩,hM.fr⟩))
theorem aCs {w:World}{G:Nat→Prop}{p:Option Addr}{c i j:Nat}{X:List (Nat×Int)}{x y:Nat×Int}(hM0:Mm G w w [rw_ reL 2 124 (vL p X.length c) X]) (hx:X[i]?=some x) (hy:X[j]?=some y):Calls Tryz.prog 239 #[vL p X.length c,vI (i:Int),vI (j:Int)] w fun e w'=>∃ (u:Value) (Mn:List Ent),e = .returned u∧(u = .tuple #[]∧Mn=[rw_ reL 2 124 (vL p X.length c) ((X.set i y).set j x)])∧Mm G w w' Mn:=by
 have hj9:=gl hy
 refine beg Tryz.func239 rfl rfl [(0,vL p X.length c),(1,vI (i:Int)),(2,vI (j:Int))] rfl rfl fun Φ hΦ=>?_
 have hM:=hM0
 refine seg 0 0 [] f0 ?_
 obtain ⟨ad,aa,-⟩:=hM.el reT (j:=0) rfl hy
 obtain ⟨ae,ab,-⟩:=hM.el reT (j:=0) rfl hx
 obtain ⟨y13,ac⟩:=geb (l:=(X.set i y)) (i:=j) (by simp only [List.length_set];omega)
 refine drx [7,11,13,15] (fun γ=>[some (.agg #[vI (y.1:Int),vI y.2]),some (.agg #[vI (x.1:Int),vI x.2]),none,none]) _ (fun γ l=>[rw_ reL 2 124 (vL p X.length c) (bif l.getD 3 false then ((X.set i y).set j x) else (bif l.getD 2 false then (X.set i y) else X))]) (fun γ=>[]) hM (fun γ=>rfl) (fun γ l w5 hM=>(fc (ix 117 c aa (gl hy)) (fc (ix 117 c ab (gl hx)) (fc (ix 117 c ab (gl hx)) (fc (ix 117 c aa (gl hy)) f0))))) ⟨aSN (m:=X.length) (cap:=c) 0 7 124 0 0 2 j 13 X reT aa hy,aSN (m:=X.length) (cap:=c) 1 11 124 0 0 2 i 17 X reT ab hx,aGZ (m:=X.length) (cap:=c) 2 13 124 0 0 i X y (fun γ => .agg #[vI (y.1:Int),vI y.2]) reT ab hx (fun γ=>rfl),aGZ (m:=X.length) (cap:=c) 3 15 124 0 0 j (X.set i y) x (fun γ => .agg #[vI (x.1:Int),vI x.2]) reT aa ac (fun γ=>rfl),trivial⟩ fun af w1 hM=>?_
 replace hM:Mm G w w1 [_]:=hM
 exact rt0 rfl f0 (hΦ _ _ ⟨_,_,rfl,⟨rfl,rfl⟩,hM⟩)
theorem aKL {w:World}{G:Nat→Prop}{q:Nat}{p:Option Addr}{c:Nat}{X:List (Nat×Int)}(hM0:Mm G w w (QM q (vL p X.length c) X)) (hl:X.length<1500000000000) (x:Nat×Int):Calls Tryz.prog 238 #[vP q 0,.iface 124 (.agg #[vI (x.1:Int),vI x.2])] w fun e w'=>∃ (u:Value) (Mn:List Ent),e = .returned u∧(u = .tuple #[]∧∃ v,Mn=QM q v (X++[x]))∧Mm G w w' Mn:=by
 refine beg Tryz.func238 rfl rfl [(0,vP q 0),(1,.iface 124 (.agg #[vI (x.1:Int),vI x.2]))] rfl rfl fun Φ hΦ=>?_
 have hM:=hM0
 refine seg 0 0 [] f0 ?_
 have hM:=hM.nl
 refine drx [3,6,7,9] (fun γ=>[some (vL p X.length c),some (vL (some ⟨(bn (γ 1)),0,none⟩) 1 1),some (vL (slp (γ 2)) (X++[x]).length (slc (γ 2))),none]) _ (fun γ l=>[bk q #[(bif l.getD 3 false then vL (slp (γ 2)) (X++[x]).length (slc (γ 2)) else vL p X.length c)] 117,(bif l.getD 2 false then rw_ reL 2 124 (vL (slp (γ 2)) (X++[x]).length (slc (γ 2))) (X++[x]) else rw_ reL 2 124 (vL p X.length c) X),(bif l.getD 1 false then bk (bn (γ 1)) #[vI (x.1:Int),vI x.2] 124 else aIY)]) (fun γ=>[]) hM (fun γ=>rfl) (fun γ l w5 hM=>f0) ⟨aN7 0 3 117 0 0 7 (fun γ=>q) (fun γ l=>#[(bif l.getD 3 false then vL (slp (γ 2)) (X++[x]).length (slc (γ 2)) else vL p X.length c)]) 117 (fun γ=>vL p X.length c),aCB 1 6 2 10 (fun γ=>#[vI (x.1:Int),vI x.2]) 124 (fun b=>vL (some ⟨b,0,none⟩) 1 1),aHa 2 7 1 11 117 124 0 (fun γ=>vL p X.length c) X [x] (fun γ=>(bn (γ 1))) 1 reT (by simp;omega) (fun γ fr wm hM=>aAD (f:=reL) (x:=x) (hM.get 2 (e:=bk ((bn (γ 1))) (reL x).toArray 124) (by kernel_rfl)) (Nat.lt_succ_self _)),aB7 3 9 117 0 0 (fun γ=>q) (fun γ l=>#[(bif l.getD 3 false then vL (slp (γ 2)) (X++[x]).length (slc (γ 2)) else vL p X.length c)]) 117 (fun γ=>vL (slp (γ 2)) (X++[x]).length (slc (γ 2))),trivial⟩ fun aa w1 hM=>?_
 replace hM:Mm G w w1 [bk q #[vL (slp (aa 2)) (X++[x]).length (slc (aa 2))] 117,_,bk (bn (aa 1)) #[vI (x.1:Int),vI x.2] 124]:=hM
 exact rt0 rfl f0 (hΦ _ _ ⟨_,_,rfl,⟨rfl,_,rfl⟩,hM.pick [0,1]⟩)
theorem aNc {w:World}{G:Nat→Prop}{q n:Nat}{p:Option Addr}{c:Nat}{Y:List (Nat×Int)}{x:Nat×Int}(hn:n=Y.length+1) (hM0:Mm G w w (QM q (vL p n c) (Y++[x]))):Calls Tryz.prog 237 #[vP q 0] w fun e w'=>∃ (u:Value) (Mn:List Ent),e = .returned u∧(u = .iface 124 (.agg #[vI (x.1:Int),vI x.2])∧∃ v,Mn=QM q v Y)∧Mm G w w' Mn:=by
 have hn0:(Y++[x]).length=Y.length+1:=by simp
 have hx:(Y++[x])[n-1]?=some x:=by rw [hn];simp
 have hM:=hM0
 obtain ⟨g,eg,-⟩:=hM.el reT (j:=1) rfl hx
 subst eg
 obtain ⟨pc,cc,ec,sc⟩:=(hM.src (j:=1) rfl reT.len).op
 have bc:=sc.bnd
 have hcc:=sc.le
 injection ec with ec1 ec2 ec3
 subst ec3
 clear ec1 ec2 sc
 refine beg Tryz.func237 rfl rfl [(0,vP q 0)] rfl rfl fun Φ hΦ=>?_
 skip
 obtain ⟨ab,aa,-⟩:=hM.el reT (j:=1) rfl hx
 refine aCh 2 6 4 [(3,vL (some ⟨g,0,none⟩) n c),(13,.agg #[vI (x.1:Int),vI x.2])] [] 124 (.agg #[vI (x.1:Int),vI x.2]) (fc (ldm 117 0 0 hM rfl rfl) (fc (aBq (n:Int) 1 u3_) (fc (ix 117 c aa (show n-1<n by omega) (z:=((n:Int)-1)) (hz:=(by omega))) (fc (lar 124 1 0 2 reT hM rfl aa hx) f0)))) hM fun ac w1 hM=>stm 3 7 [(19,vL (some ⟨g,0,none⟩) (n-1) c),(20,vP q 0)] 117 0 0 (vL (some ⟨g,0,none⟩) (n-1) c) (fc (aBq (n:Int) 1 u3_) (fc (aXz 117 (z:=((n:Int)-1)) (g:=g) (n:=n) (cap:=c) (i:=n-1) (by omega) (by omega) (by omega) Tryz.underlying117) f0)) hM rfl fun w1 hM=>?_
 have hM:=hM.popE (j:=1) reT.len rfl
 exact rt1 2 (.iface 124 (.agg #[vI (x.1:Int),vI x.2])) rfl (fc (lam 124 2 0 2 hM rfl) f0) (hΦ _ _ ⟨_,_,rfl,⟨rfl,_,rfl⟩,hM.pick [0,1]⟩)
theorem aUQ {P:Program}{w:World}{t:TypeId}(m n k:Int) (ht:P.underlying t=some (.int .i64)) (e:m-n=k) (h : -9223372036854775808≤m-n∧m-n≤9223372036854775807:=by omega):Ft.ok P w (.g2 (fun x y => .binOp .sub t x y t) (vI m) (vI n) (vI k)):=e▸aBq m n ht h
abbrev aYm (Φ:Ending→World→Prop):=AtO Tryz.prog (aAf Tryz.f101) (aAo (bodyPost Tryz.prog Tryz.f101 Φ)) [] 23
theorem aQy {w:World}{G:Nat→Prop}{q j0:Nat}{v:Value}{X:List (Nat×Int)}(hM0:Mm G w w (QM q v X)) (hl:X.length≤1500000000000) (hj0:j0<X.length):Calls Tryz.prog 101 #[.iface 115 (vP q 0),vI (j0:Int)] w fun e w'=>∃ (u:Value) (Mn:List Ent),e = .returned u∧(u = .tuple #[]∧∃ v' X',X'.Perm X∧Mn=QM q v' X')∧Mm G w w' Mn:=by
  refine beg Tryz.func101 rfl rfl [(0,.iface 115 (vP q 0)),(1,vI (j0:Int))] rfl rfl fun Φ hΦ=>?_
  have hM:=hM0
  refine seg 0 0 [] f0 ?_
  have af:∀ (aa:Nat) (v1:Value) (X1:List (Nat×Int)) (j:Nat) (w2:World),X1.Perm X→j<X1.length→Mm G w w2 [bk q #[v1] 117,rw_ reL 2 124 v1 X1]→aa=j→aYm Φ (some (0,0)) [(0,.iface 115 (vP q 0)),(1,vI (j:Int))] w2:=by
   refine aAG fun aa ag v1 X1 j w2 hp hj hM ah=>?_
   have hle:=hp.length_eq
   obtain ⟨ab,ac,e21,s21⟩:=(hM.src (j:=1) rfl reT.len).op
   subst e21
   refine seg 1 4 [(4,vI (((j-1) / 2:Nat):Int)),(11,vB ((((j-1) / 2:Nat):Int)==(j:Int)))] (fc (aBq (j:Int) 1 u3_) (fc (aX9 j (by omega)) f0)) ?_
   cases h22:((((j-1) / 2:Nat):Int)==(j:Int))
   rotate_left
   ·exact rt0 rfl f0 (hΦ _ _ ⟨_,_,rfl,⟨rfl,_,_,hp,rfl⟩,hM⟩)
   have hj1 : 1 ≤ j := by have h9 : ¬ ((((j - 1) / 2 : Nat) : Int) = (j : Int)) := fun e => by rw [e] at h22; simp at h22
                          omega
   refine aQo 1 7 15 [(12,.iface 115 (vP q 0)),(13,vI (j:Int)),(14,vI (((j-1) / 2:Nat):Int))] "Less" #[3,3] (by decide) f0 (aG7 (hM.get 0 rfl)) (enters_of Tryz.func236 (by kernel_rfl) rfl) (K:=fun u w8=>(∃ b,u=vB b)∧Fr (fun _=>False) _ w8) ((aCx ((hM.src (j:=1) rfl reT.len).p.2) (i:=j) (j:=((j-1) / 2)) (by omega) (by omega)).mono fun e w8 ⟨⟨b,h1⟩,h2⟩=>⟨_,h1,⟨b,rfl⟩,h2⟩) fun u w1 ⟨⟨ad,hu⟩,f1⟩=>?_
   have hM:=hM.q f1
   subst hu
   refine seg 1 10 [(17,vB (!ad))] f0 ?_
   cases h24:ad with
   | false =>
    exact rt0 rfl f0 (hΦ _ _ ⟨_,_,rfl,⟨rfl,_,_,hp,rfl⟩,hM⟩)
   | true =>
    obtain ⟨x25,hx25⟩:=geb (l:=X1) (i:=((j-1) / 2)) (by omega)
    obtain ⟨y25,ae⟩:=geb (l:=X1) (i:=j) (by omega)
    refine aQo 2 3 21 [(18,.iface 115 (vP q 0)),(19,vI (((j-1) / 2:Nat):Int)),(20,vI (j:Int))] "Swap" #[3,3] (by decide) f0 (aG6 (hM.get 0 rfl)) (enters_of Tryz.func239 (by kernel_rfl) rfl) (aTV (K:=fun u Mn=>u = .tuple #[]∧Mn=[rw_ reL 2 124 (vL ab X1.length ac) ((X1.set ((j-1) / 2) y25).set j x25)]) [0] [1] hM rfl rfl (by decide) (fun hm=>(aCs hm hx25 ae))) fun u w1 ⟨Mn,hK,hM⟩=>?_
    obtain ⟨rfl,rfl⟩:=hK
    refine seg 0 0 [(1,vI (((j-1) / 2:Nat):Int))] f0 (aAb _ (ag _ (by omega) (vL ab X1.length ac) ((X1.set ((j-1) / 2) y25).set j x25) ((j-1) / 2) _ ((aEF hx25 ae).trans hp) (by rw [List.length_set,List.length_set];omega) hM rfl))
  exact aAb _ (af _ v X j0 _ (List.Perm.refl _) hj0 hM rfl)
abbrev aYl (Φ:Ending→World→Prop):=AtO Tryz.prog (aAf Tryz.f102) (aAo (bodyPost Tryz.prog Tryz.f102 Φ)) [] 48
theorem aNt {w:World}{G:Nat→Prop}{q n:Nat}{v:Value}{X:List (Nat×Int)}(hM0:Mm G w w (QM q v X)) (hl:X.length≤1500000000000) (hn:n≤X.length):Calls Tryz.prog 102 #[.iface 115 (vP q 0),vI 0,vI (n:Int)] w fun e w'=>∃ (u:Value) (Mn:List Ent),e = .returned u∧((∃ b,u=vB b)∧∃ v' X',X'.Perm X∧Mn=QM q v' X')∧Mm G w w' Mn:=by
  refine beg Tryz.func102 rfl rfl [(0,.iface 115 (vP q 0)),(1,vI 0),(2,vI (n:Int))] rfl rfl fun Φ hΦ=>?_
  have hM:=hM0
  refine seg 2 0 [(7,vI 0)] f0 ?_
  have al:∀ (ad:Nat) (v1:Value) (X1:List (Nat×Int)) (i:Nat) (w2:World),X1.Perm X→i≤n→Mm G w w2 [bk q #[v1] 117,rw_ reL 2 124 v1 X1]→ad=n-i→aYl Φ (some (2,0)) [(7,vI (i:Int)),(0,.iface 115 (vP q 0)),(1,vI 0),(2,vI (n:Int))] w2:=by
   refine aAG fun ad ac v1 X1 i w2 hp hi hM ap=>?_
   have hle:=hp.length_eq
   obtain ⟨aa,ab,e29,s29⟩:=(hM.src (j:=1) rfl reT.len).op
   subst e29
   refine seg 3 4 [(8,vI ((2*(i:Int))+1)),(18,vB (decide ((n:Int)≤((2*(i:Int))+1))))] (fc (aHX 2 (i:Int) u3_) (fc (aAe (2*(i:Int)) 1 u3_) f0)) ?_
   cases h30:(decide ((n:Int)≤((2*(i:Int))+1)))
   rotate_left
   ·have am:=dt h30
    exact rt1 6 (vB (decide (0<(i:Int)))) rfl f0 (hΦ _ _ ⟨_,_,rfl,⟨⟨_,rfl⟩,_,_,hp,rfl⟩,hM⟩)
   have am:=df h30
   refine seg 3 7 [(21,vB (decide (((2*(i:Int))+1)<0)))] f0 ?_
   cases h31:(decide (((2*(i:Int))+1)<0))
   rotate_left
   ·have an:=dt h31
    omega
   have an:=df h31
   refine seg 6 4 [(9,vI ((2*(i:Int))+1)),(10,vI (((2*(i:Int))+1)+1)),(28,vB (decide ((((2*(i:Int))+1)+1)<(n:Int))))] (fc (aAe ((2*(i:Int))+1) 1 u3_) f0) ?_
   cases h32:(decide ((((2*(i:Int))+1)+1)<(n:Int)))
   ·have ao:=df h32
    refine aQo 8 3 38 [(35,.iface 115 (vP q 0)),(36,vI ((2*(i:Int))+1)),(37,vI (i:Int))] "Less" #[3,3] (by decide) f0 (aG7 (hM.get 0 rfl)) (enters_of Tryz.func236 (by kernel_rfl) rfl) (K:=fun u w8=>(∃ b,u=vB b)∧Fr (fun _=>False) _ w8) ((aCx ((hM.src (j:=1) rfl reT.len).p.2) (i:=(2*i+1)) (j:=i) (by omega) (by omega)).mono fun e w8 ⟨⟨b,h1⟩,h2⟩=>⟨_,h1,⟨b,rfl⟩,h2⟩) fun u w1 ⟨⟨ae,hu⟩,f1⟩=>?_
    have hM:=hM.q f1
    subst hu
    refine seg 8 5 [(39,vB (!ae))] f0 ?_
    cases h34:ae with
    | false =>
     exact rt1 6 (vB (decide (0<(i:Int)))) rfl f0 (hΦ _ _ ⟨_,_,rfl,⟨⟨_,rfl⟩,_,_,hp,rfl⟩,hM⟩)
    | true =>
     obtain ⟨x35,hx35⟩:=geb (l:=X1) (i:=i) (by omega)
     obtain ⟨y35,af⟩:=geb (l:=X1) (i:=(2*i+1)) (by omega)
     refine aQo 9 3 43 [(40,.iface 115 (vP q 0)),(41,vI (i:Int)),(42,vI ((2*(i:Int))+1))] "Swap" #[3,3] (by decide) f0 (aG6 (hM.get 0 rfl)) (enters_of Tryz.func239 (by kernel_rfl) rfl) (aTV (K:=fun u Mn=>u = .tuple #[]∧Mn=[rw_ reL 2 124 (vL aa X1.length ab) ((X1.set i y35).set (2*i+1) x35)]) [0] [1] hM rfl rfl (by decide) (fun hm=>(aCs hm hx35 af))) fun u w1 ⟨Mn,hK,hM⟩=>?_
     obtain ⟨rfl,rfl⟩:=hK
     refine seg 2 0 [(7,vI ((2*(i:Int))+1))] f0 (aAb _ (ac _ (by omega) (vL aa X1.length ab) ((X1.set i y35).set (2*i+1) x35) (2*i+1) _ ((aEF hx35 af).trans hp) (by omega) hM rfl))
   have ao:=dt h32
   refine aQo 6 7 32 [(29,.iface 115 (vP q 0)),(30,vI (((2*(i:Int))+1)+1)),(31,vI ((2*(i:Int))+1))] "Less" #[3,3] (by decide) f0 (aG7 (hM.get 0 rfl)) (enters_of Tryz.func236 (by kernel_rfl) rfl) (K:=fun u w8=>(∃ b,u=vB b)∧Fr (fun _=>False) _ w8) ((aCx ((hM.src (j:=1) rfl reT.len).p.2) (i:=(2*i+1+1)) (j:=(2*i+1)) (by omega) (by omega)).mono fun e w8 ⟨⟨b,h1⟩,h2⟩=>⟨_,h1,⟨b,rfl⟩,h2⟩) fun u w1 ⟨⟨ag,hu⟩,f1⟩=>?_
   have hM:=hM.q f1
   subst hu
   refine seg 6 9 [(33,vB ag)] f0 ?_
   cases h37:ag with
   | false =>
    refine aQo 8 3 38 [(35,.iface 115 (vP q 0)),(36,vI ((2*(i:Int))+1)),(37,vI (i:Int))] "Less" #[3,3] (by decide) f0 (aG7 (hM.get 0 rfl)) (enters_of Tryz.func236 (by kernel_rfl) rfl) (K:=fun u w8=>(∃ b,u=vB b)∧Fr (fun _=>False) _ w8) ((aCx ((hM.src (j:=1) rfl reT.len).p.2) (i:=(2*i+1)) (j:=i) (by omega) (by omega)).mono fun e w8 ⟨⟨b,h1⟩,h2⟩=>⟨_,h1,⟨b,rfl⟩,h2⟩) fun u w1 ⟨⟨ah,hu⟩,f1⟩=>?_
    have hM:=hM.q f1
    subst hu
    refine seg 8 5 [(39,vB (!ah))] f0 ?_
    cases h39:ah with
    | false =>
     exact rt1 6 (vB (decide (0<(i:Int)))) rfl f0 (hΦ _ _ ⟨_,_,rfl,⟨⟨_,rfl⟩,_,_,hp,rfl⟩,hM⟩)
    | true =>
     obtain ⟨x40,hx40⟩:=geb (l:=X1) (i:=i) (by omega)
     obtain ⟨y40,ai⟩:=geb (l:=X1) (i:=(2*i+1)) (by omega)
     refine aQo 9 3 43 [(40,.iface 115 (vP q 0)),(41,vI (i:Int)),(42,vI ((2*(i:Int))+1))] "Swap" #[3,3] (by decide) f0 (aG6 (hM.get 0 rfl)) (enters_of Tryz.func239 (by kernel_rfl) rfl) (aTV (K:=fun u Mn=>u = .tuple #[]∧Mn=[rw_ reL 2 124 (vL aa X1.length ab) ((X1.set i y40).set (2*i+1) x40)]) [0] [1] hM rfl rfl (by decide) (fun hm=>(aCs hm hx40 ai))) fun u w1 ⟨Mn,hK,hM⟩=>?_
     obtain ⟨rfl,rfl⟩:=hK
     refine seg 2 0 [(7,vI ((2*(i:Int))+1))] f0 (aAb _ (ac _ (by omega) (vL aa X1.length ab) ((X1.set i y40).set (2*i+1) x40) (2*i+1) _ ((aEF hx40 ai).trans hp) (by omega) hM rfl))
   | true =>
    refine aQo 8 3 38 [(9,vI (((2*(i:Int))+1)+1)),(35,.iface 115 (vP q 0)),(36,vI (((2*(i:Int))+1)+1)),(37,vI (i:Int))] "Less" #[3,3] (by decide) f0 (aG7 (hM.get 0 rfl)) (enters_of Tryz.func236 (by kernel_rfl) rfl) (K:=fun u w8=>(∃ b,u=vB b)∧Fr (fun _=>False) _ w8) ((aCx ((hM.src (j:=1) rfl reT.len).p.2) (i:=(2*i+1+1)) (j:=i) (by omega) (by omega)).mono fun e w8 ⟨⟨b,h1⟩,h2⟩=>⟨_,h1,⟨b,rfl⟩,h2⟩) fun u w1 ⟨⟨aj,hu⟩,f1⟩=>?_
    have hM:=hM.q f1
    subst hu
    refine seg 8 5 [(39,vB (!aj))] f0 ?_
    cases h42:aj with
    | false =>
     exact rt1 6 (vB (decide (0<(i:Int)))) rfl f0 (hΦ _ _ ⟨_,_,rfl,⟨⟨_,rfl⟩,_,_,hp,rfl⟩,hM⟩)
    | true =>
     obtain ⟨x43,hx43⟩:=geb (l:=X1) (i:=i) (by omega)
     obtain ⟨y43,ak⟩:=geb (l:=X1) (i:=(2*i+1+1)) (by omega)
     refine aQo 9 3 43 [(40,.iface 115 (vP q 0)),(41,vI (i:Int)),(42,vI (((2*(i:Int))+1)+1))] "Swap" #[3,3] (by decide) f0 (aG6 (hM.get 0 rfl)) (enters_of Tryz.func239 (by kernel_rfl) rfl) (aTV (K:=fun u Mn=>u = .tuple #[]∧Mn=[rw_ reL 2 124 (vL aa X1.length ab) ((X1.set i y43).set (2*i+1+1) x43)]) [0] [1] hM rfl rfl (by decide) (fun hm=>(aCs hm hx43 ak))) fun u w1 ⟨Mn,hK,hM⟩=>?_
     obtain ⟨rfl,rfl⟩:=hK
     refine seg 2 0 [(7,vI (((2*(i:Int))+1)+1))] f0 (aAb _ (ac _ (by omega) (vL aa X1.length ab) ((X1.set i y43).set (2*i+1+1) x43) (2*i+1+1) _ ((aEF hx43 ak).trans hp) (by omega) hM rfl))
  exact aAb _ (al _ v X 0 _ (List.Perm.refl _) (Nat.zero_le _) hM rfl)
theorem aKX {w:World}{G:Nat→Prop}{q:Nat}{v:Value}{X:List (Nat×Int)}(hM0:Mm G w w (QM q v X)) (hl:X.length<1500000000000) (x:Nat×Int):Calls Tryz.prog 64 #[.iface 115 (vP q 0),.iface 124 (.agg #[vI (x.1:Int),vI x.2])] w fun e w'=>∃ (u:Value) (Mn:List Ent),e = .returned u∧(u = .tuple #[]∧∃ v' X',X'.Perm (X++[x])∧Mn=QM q v' X')∧Mm G w w' Mn:=by
  refine beg Tryz.func64 rfl rfl [(0,.iface 115 (vP q 0)),(1,.iface 124 (.agg #[vI (x.1:Int),vI x.2]))] rfl rfl fun Φ hΦ=>?_
  have hM:=hM0
  obtain ⟨aa,ab,e44,s44⟩:=(hM.src (j:=1) rfl reT.len).op
  subst e44
  have hlx:(X++[x]).length=X.length+1:=by simp
  refine aXI 0 2 6 [(4,.iface 115 (vP q 0)),(5,.iface 124 (.agg #[vI (x.1:Int),vI x.2]))] "Push" #[20] (by decide) f0 aTT (enters_of Tryz.func238 (by kernel_rfl) rfl) (aTV (K:=fun u Mn=>u = .tuple #[]∧∃ v,Mn=QM q v (X++[x])) [] [0,1] hM rfl rfl (by decide) (fun hm=>(aKL hm hl x))) fun u w1 ⟨Mn,hK,hM⟩=>?_
  obtain ⟨rfl,v45,rfl⟩:=hK
  obtain ⟨ac,ad,e46,s46⟩:=(hM.src (j:=1) rfl reT.len).op
  subst e46
  refine aWd 1 2 9 [(7,.iface 115 (vP q 0)),(8,.iface 115 (vP q 0))] "Len" #[] (by decide) f0 (aPn (hM.get 0 rfl)) (enters_of Tryz.func235 (by kernel_rfl) rfl) (aWj aFy) fun u w1 ⟨hu,f1⟩=>?_
  subst hu
  have hM:=hM.q f1
  refine aAO 1 4 11 [(10,vI (X.length:Int))] (K:=fun u Mn=>u = .tuple #[]∧∃ v' X',X'.Perm (X++[x])∧Mn=QM q v' X') [] [0,1] (fc (aUQ ((X++[x]).length:Int) 1 (X.length:Int) u3_ (by omega)) f0) hM rfl rfl (by decide) (fun hm=>(aQy (j0:=X.length) hm (by omega) (by omega))) fun u Mn w1 hK hM=>?_
  obtain ⟨rfl,v47,Y48,hY48,rfl⟩:=hK
  obtain ⟨ae,af,e49,s49⟩:=(hM.src (j:=1) rfl reT.len).op
  subst e49
  exact rt0 rfl f0 (hΦ _ _ ⟨_,_,rfl,⟨rfl,_,_,hY48,rfl⟩,hM⟩)
theorem aNo {w:World}{G:Nat→Prop}{q:Nat}{v:Value}{X:List (Nat×Int)}(hM0:Mm G w w (QM q v X)) (hl:X.length≤1500000000000) (h0:0<X.length):Calls Tryz.prog 65 #[.iface 115 (vP q 0)] w fun e w'=>∃ (u:Value) (Mn:List Ent),e = .returned u∧(∃ x v' X',X.Perm (x::X')∧u = .iface 124 (.agg #[vI (x.1:Int),vI x.2])∧Mn=QM q v' X')∧Mm G w w' Mn:=by
  refine beg Tryz.func65 rfl rfl [(0,.iface 115 (vP q 0))] rfl rfl fun Φ hΦ=>?_
  have hM:=hM0
  obtain ⟨ab,ac,e50,s50⟩:=(hM.src (j:=1) rfl reT.len).op
  subst e50
  refine aWd 1 1 5 [(4,.iface 115 (vP q 0))] "Len" #[] (by decide) f0 (aPn (hM.get 0 rfl)) (enters_of Tryz.func235 (by kernel_rfl) rfl) (aWj aFy) fun u w1 ⟨hu,f1⟩=>?_
  subst hu
  have hM:=hM.q f1
  obtain ⟨x51,hx51⟩:=geb (l:=X) (i:=0) (by omega)
  obtain ⟨y51,aa⟩:=geb (l:=X) (i:=(X.length-1)) (by omega)
  refine aQo 2 2 9 [(3,vI ((X.length-1:Nat):Int)),(7,.iface 115 (vP q 0)),(8,vI ((X.length-1:Nat):Int))] "Swap" #[3,3] (by decide) (fc (aUQ (X.length:Int) 1 ((X.length-1:Nat):Int) u3_ (by omega)) f0) (aG6 (hM.get 0 rfl)) (enters_of Tryz.func239 (by kernel_rfl) rfl) (aTV (K:=fun u Mn=>u = .tuple #[]∧Mn=[rw_ reL 2 124 (vL ab X.length ac) ((X.set 0 y51).set (X.length-1) x51)]) [0] [1] hM rfl rfl (by decide) (fun hm=>(aCs hm hx51 aa))) fun u w1 ⟨Mn,hK,hM⟩=>?_
  obtain ⟨rfl,rfl⟩:=hK
  refine aAO 3 2 12 [(10,.iface 115 (vP q 0)),(11,vI ((X.length-1:Nat):Int))] (K:=fun u Mn=>(∃ b,u=vB b)∧∃ v' X',X'.Perm ((X.set 0 y51).set (X.length-1) x51)∧Mn=QM q v' X') [] [0,1] f0 hM rfl rfl (by decide) (fun hm=>(aNt (n:=(X.length-1)) hm (by simp only [List.length_set];omega) (by simp only [List.length_set];omega))) fun u Mn w1 hK hM=>?_
  obtain ⟨⟨_,rfl⟩,v52,Y53,hY53,rfl⟩:=hK
  obtain ⟨ad,ae,e55,s55⟩:=(hM.src (j:=1) rfl reT.len).op
  subst e55
  have hpm:=hY53.trans (aEF hx51 aa)
  have hln:=hpm.length_eq
  obtain ⟨Z,x,hZ⟩:∃ Z x,Y53=Z++[x]:=⟨_,_,(List.dropLast_concat_getLast (l:=Y53) (by intro e;rw [e] at hln;simp only [List.length_set,List.length_nil] at hln;omega)).symm⟩
  subst hZ
  refine aWd 4 1 14 [(13,.iface 115 (vP q 0))] "Pop" #[] (by decide) f0 aVr (enters_of Tryz.func237 (by kernel_rfl) rfl) (aTV (K:=fun u Mn=>u = .iface 124 (.agg #[vI (x.1:Int),vI x.2])∧∃ v,Mn=QM q v Z) [] [0,1] hM rfl rfl (by decide) (fun hm=>(aNc (by simp) hm))) fun u w1 ⟨Mn,hK,hM⟩=>?_
  obtain ⟨rfl,v56,rfl⟩:=hK
  exact rt1 2 (.iface 124 (.agg #[vI (x.1:Int),vI x.2])) rfl f0 (hΦ _ _ ⟨_,_,rfl,⟨x,_,Z,hpm.symm.trans (List.perm_append_comm (l₁:=Z) (l₂:=[x])),rfl,rfl⟩,hM⟩)
end Go.Proofs.YtbflfefahheidaaGreatDoor
namespace Go.Pl
open Go.RowKit
structure NetW where
 n:Nat
 st:Nat→Bool
 ps:Nat→Int→Option Int
 al:Nat→Nat→Bool
structure NetW.Ok (N:NetW) (B:Int):Prop where
 gt:∀ {i:Nat}{m x:Int},i<N.n→0≤m→N.ps i m=some x→m<x
 mono:∀ {i:Nat}{m m' x:Int},0≤m→m≤m'→N.ps i m'=some x→∃ y,y≤x∧N.ps i m=some y
 le:∀ {i:Nat}{m x:Int},i<N.n→0≤m→N.ps i m=some x→x≤B
inductive Rch (N:NetW) (m0:Int):Nat→Int→Prop
 | base {i:Nat}{x:Int}:i<N.n→N.st i=true→N.ps i m0=some x→Rch N m0 i x
 | step {i k:Nat}{m x:Int}:Rch N m0 i m→k<N.n→N.al i k=true→N.ps k m=some x→Rch N m0 k x
theorem Rch.lt {N:NetW}{m0:Int}{i:Nat}{m:Int}(h:Rch N m0 i m):i<N.n:=by cases h<;>assumption
theorem Rch.ge {N:NetW}{B m0:Int}(hN:N.Ok B) (h0:0≤m0) {i:Nat}{m:Int}(h:Rch N m0 i m):m0<m:=by
 induction h with
 | base h1 h2 h3=>exact hN.gt h1 h0 h3
 | step h1 h2 h3 h4 ih=>have:=hN.gt h2 (by omega) h4;omega
theorem Rch.le {N:NetW}{B m0:Int}(hN:N.Ok B) (h0:0≤m0) {i:Nat}{m:Int}(h:Rch N m0 i m):m≤B:=by
 cases h with
 | base h1 h2 h3=>exact hN.le h1 h0 h3
 | step h1 h2 h3 h4=>exact hN.le h2 (by have:=h1.ge hN h0;omega) h4
def Cl (N:NetW) (t:Nat→Option Int) (i:Nat) (m:Int):Prop:=∀ k,k<N.n→N.al i k=true→∀ x,N.ps k m=some x→∃ y,y≤x∧t k=some y
structure Tab (N:NetW) (m0:Int) (t:Nat→Option Int):Prop where
 snd:∀ i m,t i=some m→Rch N m0 i m
 bas:∀ i,i<N.n→N.st i=true→∀ x,N.ps i m0=some x→∃ y,y≤x∧t i=some y
 stp:∀ i m,t i=some m→Cl N t i m
theorem Tab.le {N:NetW}{B m0:Int}(hN:N.Ok B) (h0:0≤m0) {t:Nat→Option Int}(hT:Tab N m0 t) {i:Nat}{m:Int}(h:Rch N m0 i m):∃ y,y≤m∧t i=some y:=by
 induction h with
 | base a b c=>exact hT.bas _ a b _ c
 | step a b c d ih =>
  obtain ⟨u,hu,ht⟩:=ih
  have hg:=(hT.snd _ _ ht).ge hN h0
  obtain ⟨z,hz,d⟩:=hN.mono (by omega) hu d
  obtain ⟨y,hy,e⟩:=hT.stp _ _ ht _ b c _ d
  exact ⟨y,by omega,e⟩
theorem Tab.least {N:NetW}{B m0:Int}(hN:N.Ok B) (h0:0≤m0) {t:Nat→Option Int}(hT:Tab N m0 t) {i:Nat}{m y:Int}(h:Rch N m0 i m) (e:t i=some y):y≤m:=by
 obtain ⟨z,hz,e2⟩:=hT.le hN h0 h
 rw [e] at e2;cases e2;exact hz
theorem Tab.uniq {N:NetW}{B m0:Int}(hN:N.Ok B) (h0:0≤m0) {t u:Nat→Option Int}(hT:Tab N m0 t) (hU:Tab N m0 u):t=u:=by
 funext i
 cases ht:t i with
 | none =>
  cases hu:u i with
  | none=>rfl
  | some m =>
   obtain ⟨y,_,e⟩:=hT.le hN h0 (hU.snd _ _ hu)
   rw [ht] at e;cases e
 | some m =>
  obtain ⟨y,hy,e⟩:=hU.le hN h0 (hT.snd _ _ ht)
  have:=hT.least hN h0 (hU.snd _ _ e) ht
  rw [e];congr 1;omega
def TLe (t' t:Nat→Option Int):Prop:=∀ i m,t i=some m→∃ y,y≤m∧t' i=some y
theorem TLe.refl (t:Nat→Option Int):TLe t t:=fun i m h=>⟨m,Int.le_refl _,h⟩
theorem TLe.trans {a b c:Nat→Option Int}(h:TLe a b) (k:TLe b c):TLe a c:=fun i m e=>by
 obtain ⟨y,hy,e⟩:=k i m e
 obtain ⟨z,hz,e⟩:=h i y e
 exact ⟨z,by omega,e⟩
theorem Cl.mono {N:NetW}{t t':Nat→Option Int}{i:Nat}{m:Int}(h:Cl N t i m) (k:TLe t' t):Cl N t' i m:=fun j hj ha x hx=>by
 obtain ⟨y,hy,e⟩:=h j hj ha x hx
 obtain ⟨z,hz,e⟩:=k j y e
 exact ⟨z,by omega,e⟩
def bet (t:Nat→Option Int) (i:Nat) (x:Int):Bool:=match t i with
 | some o=>decide (x<o)
 | none=>true
def aL0 (t:Nat→Option Int) (i:Nat) (x:Int):Nat→Option Int:=fun k=>bif Nat.beq k i then some x else t k
theorem aCr (t:Nat→Option Int) (i:Nat) (x:Int):aL0 t i x i=some x:=by unfold aL0;simp
theorem aCN (t:Nat→Option Int) {i k:Nat}(x:Int) (h:k≠i):aL0 t i x k=t k:=by
 unfold aL0
 rw [show Nat.beq k i=false from by cases e:Nat.beq k i with | false=>rfl | true=>exact absurd (Nat.eq_of_beq_eq_true e) h];rfl
theorem aOf {t:Nat→Option Int}{i:Nat}{x:Int}(h:bet t i x=true):TLe (aL0 t i x) t:=fun k m e=>by
 by_cases hk:k=i
 ·subst hk
  refine ⟨x,?_,aCr _ _ _⟩
  unfold bet at h;rw [e] at h
  have:=of_decide_eq_true h
  omega
 ·exact ⟨m,Int.le_refl _,by rw [aCN _ _ hk];exact e⟩
theorem aVN {t:Nat→Option Int}{i:Nat}{x:Int}(h:bet t i x=false):∃ y,y≤x∧t i=some y:=by
 unfold bet at h
 split at h
 ·rename_i o e
  have:=of_decide_eq_false h
  exact ⟨o,by omega,e⟩
 ·cases h
structure TInv (N:NetW) (m0:Int) (t:Nat→Option Int) (W:List (Nat×Int)) (X:Nat→Int→Prop):Prop where
 snd:∀ i m,t i=some m→Rch N m0 i m
 wait:∀ x∈W,Rch N m0 x.1 x.2∧∃ m,m≤x.2∧t x.1=some m
 don:∀ i m,t i=some m→(i,m)∈W∨Cl N t i m∨X i m
theorem TInv.nil (N:NetW) (m0:Int) (X:Nat→Int→Prop):TInv N m0 (fun _=>none) [] X:=⟨fun _ _ h=>(by cases h),fun _ h=>(by cases h),fun _ _ h=>(by cases h)⟩
theorem TInv.put {N:NetW}{m0:Int}{t:Nat→Option Int}{W W':List (Nat×Int)}{X:Nat→Int→Prop}(h:TInv N m0 t W X) {i:Nat}{x:Int}(hb:bet t i x=true) (hr:Rch N m0 i x) (hW:W'.Perm (W++[(i,x)])):TInv N m0 (aL0 t i x) W' X:=by
 have hle:=aOf hb
 refine ⟨fun k m e=>?_,fun y hy=>?_,fun k m e=>?_⟩
 ·by_cases hk:k=i
  ·subst hk;rw [aCr] at e;cases e;exact hr
  ·rw [aCN _ _ hk] at e;exact h.snd k m e
 ·rcases List.mem_append.1 (hW.mem_iff.1 hy) with hy | hy
  ·obtain ⟨h1,m,hm,e⟩:=h.wait y hy
   obtain ⟨z,hz,e⟩:=hle _ _ e
   exact ⟨h1,z,by omega,e⟩
  ·rw [List.mem_singleton] at hy;subst hy
   exact ⟨hr,x,Int.le_refl _,aCr _ _ _⟩
 ·by_cases hk:k=i
  ·subst hk;rw [aCr] at e;cases e
   exact .inl (hW.mem_iff.2 (by simp))
  ·rw [aCN _ _ hk] at e
   rcases h.don k m e with h1 | h1 | h1
   ·exact .inl (hW.mem_iff.2 (List.mem_append_left _ h1))
   ·exact .inr (.inl (h1.mono hle))
   ·exact .inr (.inr h1)
theorem TInv.stale {N:NetW}{m0:Int}{t:Nat→Option Int}{W W':List (Nat×Int)}{X:Nat→Int→Prop}(h:TInv N m0 t W X) {x:Nat×Int}(hW:W.Perm (x::W')) {m:Int}(e:t x.1=some m) (hm:m<x.2):TInv N m0 t W' X :=
 ⟨h.snd,fun y hy=>h.wait y (hW.mem_iff.2 (.tail _ hy)),fun i k ek=>by
  rcases h.don i k ek with h1 | h1 | h1
  ·rcases List.mem_cons.1 (hW.mem_iff.1 h1) with h2 | h2
   ·subst h2
    rw [e] at ek;cases ek
    exact absurd hm (Int.lt_irrefl _)
   ·exact .inl h2
  ·exact .inr (.inl h1)
  ·exact .inr (.inr h1)⟩
theorem TInv.pop {N:NetW}{m0:Int}{t:Nat→Option Int}{W W':List (Nat×Int)}(h:TInv N m0 t W fun _ _=>False) {x:Nat×Int}(hW:W.Perm (x::W')):TInv N m0 t W' fun i m=>(i,m)=x :=
 ⟨h.snd,fun y hy=>h.wait y (hW.mem_iff.2 (.tail _ hy)),fun i k ek=>by
  rcases h.don i k ek with h1 | h1 | h1
  ·rcases List.mem_cons.1 (hW.mem_iff.1 h1) with h2 | h2
   ·exact .inr (.inr h2)
   ·exact .inl h2
  ·exact .inr (.inl h1)
  ·exact h1.elim⟩
theorem TInv.close {N:NetW}{m0:Int}{t:Nat→Option Int}{W:List (Nat×Int)}{x:Nat×Int}(h:TInv N m0 t W fun i m=>(i,m)=x) (hc:Cl N t x.1 x.2):TInv N m0 t W fun _ _=>False :=
 ⟨h.snd,h.wait,fun i k ek=>by
  rcases h.don i k ek with h1 | h1 | h1
  ·exact .inl h1
  ·exact .inr (.inl h1)
  ·cases h1;exact .inr (.inl hc)⟩
theorem TInv.tab {N:NetW}{m0:Int}{t:Nat→Option Int}(h:TInv N m0 t [] fun _ _=>False) (hb:∀ i,i<N.n→N.st i=true→∀ x,N.ps i m0=some x→∃ y,y≤x∧t i=some y):Tab N m0 t :=
 ⟨h.snd,hb,fun i m e=>by
  rcases h.don i m e with h1 | h1 | h1
  ·cases h1
  ·exact h1
  ·exact h1.elim⟩
def ClL (N:NetW) (t:Nat→Option Int) (al:Nat→Bool) (m:Int) (l:List Nat):Prop:=∀ k∈l,al k=true→∀ x,N.ps k m=some x→∃ y,y≤x∧t k=some y
theorem ClL.nil (N:NetW) (t:Nat→Option Int) (al:Nat→Bool) (m:Int):ClL N t al m []:=fun _ h=>(by cases h)
theorem ClL.mono {N:NetW}{t t':Nat→Option Int}{al:Nat→Bool}{m:Int}{l:List Nat}(h:ClL N t al m l) (k:TLe t' t):ClL N t' al m l:=fun j hj ha x hx=>by
 obtain ⟨y,hy,e⟩:=h j hj ha x hx
 obtain ⟨z,hz,e⟩:=k j y e
 exact ⟨z,by omega,e⟩
theorem ClL.snoc {N:NetW}{t:Nat→Option Int}{al:Nat→Bool}{m:Int}{l:List Nat}(h:ClL N t al m l) {k:Nat}(hk:al k=true→∀ x,N.ps k m=some x→∃ y,y≤x∧t k=some y):ClL N t al m (l++[k]):=fun j hj ha x hx=>by
 rcases List.mem_append.1 hj with hj | hj
 ·exact h j hj ha x hx
 ·rw [List.mem_singleton] at hj;subst hj;exact hk ha x hx
def aOt (f:Nat→Nat):Nat→Nat
 | 0=>0
 | n+1=>aOt f n+f n
theorem aHx {f g:Nat→Nat}:∀ {n:Nat},(∀ k,k<n→f k=g k)→aOt f n=aOt g n
 | 0,_=>rfl
 | n+1,h=>by unfold aOt;rw [aHx fun k hk=>h k (by omega),h n (by omega)]
theorem aOr {f g:Nat→Nat}{i:Nat}(ho:∀ k,k≠i→f k=g k) (hi:f i<g i):∀ {n:Nat},i<n→aOt f n<aOt g n
 | n+1,h=>by
  unfold aOt
  by_cases e:i=n
  ·subst e;rw [aHx fun k hk=>ho k (by omega)];omega
  ·have:=aOr ho hi (n:=n) (by omega)
   rw [ho n fun h=>e h.symm];omega
theorem aOs {f:Nat→Nat}{b:Nat}(h:∀ k,f k≤b):∀ n,aOt f n≤n*b
 | 0=>by simp [aOt]
 | n+1=>by
  have:=aOs h n;have:=h n
  unfold aOt;rw [Nat.succ_mul];omega
def aUO (B:Nat) (t:Nat→Option Int) (i:Nat):Nat:=match t i with
 | some m=>min m.toNat B
 | none=>B+1
theorem aTb (B:Nat) (t:Nat→Option Int) (i:Nat):aUO B t i≤B+1:=by unfold aUO;split<;>omega
def wgt (N:NetW) (B:Nat) (t:Nat→Option Int):Nat:=aOt (aUO B t) N.n
theorem aUL (N:NetW) (B:Nat) (t:Nat→Option Int):wgt N B t≤N.n*(B+1):=aOs (aTb B t) _
theorem aSU {N:NetW}{B:Nat}{t:Nat→Option Int}{i:Nat}{x:Int}(hi:i<N.n) (hb:bet t i x=true) (h0:0≤x) (hB:x≤B) (ht:∀ m,t i=some m→m≤B):wgt N B (aL0 t i x)<wgt N B t:=by
 refine aOr (i:=i) (fun k hk=>?_) ?_ hi
 ·unfold aUO;rw [aCN _ _ hk]
 ·unfold aUO;rw [aCr]
  unfold bet at hb
  split at hb
  ·rename_i o e
   have:=of_decide_eq_true hb
   have:=ht o e
   show min x.toNat B<min o.toNat B
   omega
  ·show min x.toNat B<B+1
   omega
def aFG (t:Nat→Option Int):Value→Option Value
 | .int .i64 (.ofNat k)=>(t k).map fun m => .int .i64 m
 | _=>none
def aU7 (N:NetW) (i:Nat) (mi:Int) (t:Nat→Option Int) (W:List (Nat×Int)) (t':Nat→Option Int) (W':List (Nat×Int)):Prop :=
 (∃ x,N.ps i mi=some x∧bet t i x=true∧t'=aL0 t i x∧W'.Perm (W++[(i,x)]))∨((∀ x,N.ps i mi=some x→bet t i x=false)∧t'=t∧W'=W)
section
variable {N:NetW}{i:Nat}{mi m0:Int}{t t':Nat→Option Int}{W W':List (Nat×Int)}{X:Nat→Int→Prop}
theorem aU7.inv (h:aU7 N i mi t W t' W') (hI:TInv N m0 t W X) (hr:∀ x,N.ps i mi=some x→Rch N m0 i x):TInv N m0 t' W' X:=by
 rcases h with ⟨x,h1,h2,rfl,h3⟩ | ⟨_,rfl,rfl⟩
 ·exact hI.put h2 (hr x h1) h3
 ·exact hI
theorem aU7.le (h:aU7 N i mi t W t' W'):TLe t' t:=by
 rcases h with ⟨x,h1,h2,rfl,h3⟩ | ⟨_,rfl,rfl⟩
 ·exact aOf h2
 ·exact TLe.refl _
theorem aU7.done (h:aU7 N i mi t W t' W'):∀ x,N.ps i mi=some x→∃ y,y≤x∧t' i=some y:=by
 intro x hx
 rcases h with ⟨x',h1,h2,rfl,h3⟩ | ⟨h1,rfl,rfl⟩
 ·rw [h1] at hx;cases hx;exact ⟨_,Int.le_refl _,aCr _ _ _⟩
 ·exact aVN (h1 x hx)
theorem aU7.wgt {B:Nat}(h:aU7 N i mi t W t' W') (hN:N.Ok (B:Int)) (h0:0≤m0) (hI:TInv N m0 t W X) (hr:∀ x,N.ps i mi=some x→Rch N m0 i x):(wgt N B t'=wgt N B t∧W'.length=W.length)∨(wgt N B t'<wgt N B t∧W'.length=W.length+1):=by
 rcases h with ⟨x,h1,h2,rfl,h3⟩ | ⟨_,rfl,rfl⟩
 ·have hx:=hr x h1
  refine .inr ⟨aSU hx.lt h2 (by have:=hx.ge hN h0;omega) (hx.le hN h0) fun m e=>(hI.snd i m e).le hN h0,?_⟩
  rw [h3.length_eq];simp
 ·exact .inl ⟨rfl,rfl⟩
end
theorem aK0 (t:Nat→Option Int) (k:Nat):aFG t (.int .i64 (k:Int))=(t k).map fun m => .int .i64 m:=rfl
theorem aQA:aFG (fun _=>none)=fun _=>none:=by
 funext v
 unfold aFG
 split<;>rfl
theorem aL5 (t:Nat→Option Int) (k:Nat) (x:Int):upd (aFG t) (.int .i64 (k:Int)) (.int .i64 x)=aFG (aL0 t k x):=by
 funext v
 by_cases e:v = .int .i64 (k:Int)
 ·subst e;rw [aCk,aK0,aCr];rfl
 ·rw [aBE _ e]
  unfold aFG
  split
  ·rename_i j
   rw [aCN _ _ fun h=>e (by rw [h];rfl)]
  ·rfl
end Go.Pl
namespace Go.Proofs.YtbflfefahheidaaGreatDoor
open Go.RowKit Go.Pl
theorem aWb:Maps.Keyed Tryz.prog 3:=Maps.int_keyed u3_
theorem aWc {n:Int}(h : -9223372036854775808≤n∧n≤9223372036854775807):∃ l,keyOf Tryz.prog 3 (vI n)=some l:=⟨_,Maps.keyOf_int_mk u3_ (by
  show (decide (IntKind.i64.min≤n)&&decide (n≤IntKind.i64.max))=true
  have h1:IntKind.i64.min = -9223372036854775808:=by rfl
  have h2:IntKind.i64.max=9223372036854775807:=by rfl
  rw [h1,h2];simp only [Bool.and_eq_true,decide_eq_true_eq];exact h)⟩
theorem aQq (w:World):(zeroValue 3).run Tryz.prog w = .ok (vI 0) w:=by kernel_rfl
theorem aSm (t:Nat→Option Int) (i:Nat):(.tuple #[((aFG t) (vI (i:Int))).getD (vI 0),.bool ((aFG t) (vI (i:Int))).isSome]:Value) = .tuple #[vI ((t i).getD 0),vB (t i).isSome]:=by
  rw [aK0];cases t i<;>rfl
abbrev tbE (b n:Nat) (t:Nat→Option Int):Ent:=mp Tryz.prog 3 b n (aFG t)
def aAi (prof:Bys) (os:List ObR) (from_:Bys):NetW where
  n:=(AS os).length
  st i:=match (AS os)[i]? with | some a=>a.1==from_ | none=>false
  ps i m:=match (AS os)[i]? with | some a=>aBO prof os a m | none=>none
  al i k:=match (AS os)[i]?,(AS os)[k]? with | some a,some b=>aEp prof os a b | _,_=>false
theorem aJE {w:World}(m n:Int):Calls Tryz.prog 60 #[vI m,vI n] w fun e w'=>e = .returned (vB (decide (m<n)))∧Fr (fun _=>False) w w':=by
  refine beg Tryz.func60 rfl rfl [(0,vI m),(1,vI n)] rfl rfl fun Φ hΦ=>?_
  have hM:=Mm.nil (fun _=>False) w
  exact rt1 4 (vB (decide (m<n))) rfl f0 (hΦ _ _ ⟨rfl,hM.fr⟩)
theorem aBR {w:World}{b n:Nat}{t:Nat→Option Int}(hm:aDs Tryz.prog 3 w b n (aFG t)) {i:Nat}(hi:i≤4000000000000000000):Calls Tryz.prog 31 #[.agg #[.map (some b)],vI (i:Int)] w fun e w'=>e = .returned (.tuple #[vI ((t i).getD 0),vB (t i).isSome])∧Fr (fun _=>False) w w':=by
  refine beg Tryz.func31 rfl rfl [(0,.agg #[.map (some b)]),(1,vI (i:Int))] rfl rfl fun Φ hΦ=>?_
  have hM:=Mm.nil (fun _=>False) w
  refine aAq 0 0 2 [] (cs:=#[.map (some b)]) (T:=73) (v:=fun b=>vP b 0) f0 hM fun aa w1 hM=>rt2 4 5 (vI ((t i).getD 0)) (vB (t i).isSome) rfl rfl (fc (ldm 71 0 0 hM rfl rfl) (fc (rz2 (aVz 71 (vI (i:Int)) (vI 0) (hm.fr hM.fr id) aWb u71_ (aWc (by omega)) (aQq _)) (aSm t i)) f0)) (hΦ _ _ ⟨rfl,hM.fr⟩)
theorem aKd {w:World}{G:Nat→Prop}{b n:Nat}{t:Nat→Option Int}(hM0:Mm G w w [tbE b n t]) {i:Nat}(hi:i≤4000000000000000000) (x:Int):Calls Tryz.prog 63 #[.agg #[.map (some b)],vI (i:Int),vI x,.func (.func 60) #[] #[]] w fun e w'=>∃ (u:Value) (Mn:List Ent),e = .returned u∧(u=vB (bet t i x)∧∃ n',Mn=[tbE b n' (bif bet t i x then aL0 t i x else t)])∧Mm G w w' Mn:=by
  refine beg Tryz.func63 rfl rfl [(0,.agg #[.map (some b)]),(1,vI (i:Int)),(2,vI x),(3,.func (.func 60) #[] #[])] rfl rfl fun Φ hΦ=>?_
  have hM:=hM0
  refine aAq 0 0 4 [] (cs:=#[.map (some b)]) (T:=73) (v:=fun b=>vP b 0) f0 hM fun aa w1 hM=>seg 2 2 [(9,vI ((t i).getD 0)),(19,vB (t i).isSome)] (fc (ldm 71 1 0 hM rfl rfl) (fc (rz2 (aVz 71 (vI (i:Int)) (vI 0) (hM.get 0 rfl) aWb u71_ (aWc (by omega)) (aQq _)) (aSm t i)) f0)) ?_
  cases ab:(t i).isSome with
  | false =>
   refine mup 4 4 [(27,.map (some b)),(28,vI (i:Int)),(29,vI x)] 71 0 (vI (i:Int)) (vI x) (fc (ldm 71 1 0 hM rfl rfl) f0) hM rfl aWb u71_ (aWc (by omega)) fun w1 hM=>?_
   have hb:bet t i x=true:=by
     unfold bet
     cases e:t i with
     | none=>simp_all
     | some o=>simp_all
   rw [aL5] at hM
   exact rt1 8 (vB true) rfl f0 (hΦ _ _ ⟨_,[tbE b (n+1) (aL0 t i x)],rfl,⟨by rw [hb],_,by rw [hb];rfl⟩,hM.pick [0]⟩)
  | true =>
   refine aAr 2 5 23 [(20,.func (.func 60) #[] #[]),(21,vI x),(22,vI ((t i).getD 0))] f0 hM (aJE x ((t i).getD 0)) fun w1 hM=>seg 2 8 [(25,vB (!(decide (x<((t i).getD 0)))))] f0 ?_
   cases ac:(decide (x<((t i).getD 0)))
   ·have hb:bet t i x=false:=by
      unfold bet
      cases e:t i with
      | none=>simp_all
      | some o=>simp_all
    exact rt1 8 (vB false) rfl f0 (hΦ _ _ ⟨_,[tbE b n t],rfl,⟨by rw [hb],_,by rw [hb];rfl⟩,hM.pick [0]⟩)
   refine mup 4 4 [(27,.map (some b)),(28,vI (i:Int)),(29,vI x)] 71 0 (vI (i:Int)) (vI x) (fc (ldm 71 1 0 hM rfl rfl) f0) hM rfl aWb u71_ (aWc (by omega)) fun w1 hM=>?_
   have hb:bet t i x=true:=by
     unfold bet
     cases e:t i with
     | none=>simp_all
     | some o=>simp_all
   rw [aL5] at hM
   exact rt1 8 (vB true) rfl f0 (hΦ _ _ ⟨_,[tbE b (n+1) (aL0 t i x)],rfl,⟨by rw [hb],_,by rw [hb];rfl⟩,hM.pick [0]⟩)
theorem aUf {r:Int}:∀ {l:List Sp}{lo:Int},vl lo l=true→match l.find? (fun s=>decide (r<s.2)) with | some s=>s∈l∧r<s.2∧(∀ y,r≤y→y<s.1→¬ mn l y) | none=>∀ y,r≤y→¬ mn l y:=by
  intro l
  induction l with
  | nil=>intro lo _ y _ h;exact aEk y h
  | cons t l ih =>
    intro lo h
    obtain ⟨h1,h2,h3,h4⟩:=aB2.1 h
    by_cases hr:r<t.2
    · rw [List.find?_cons_of_pos (by simpa using hr)]
      refine ⟨by simp,hr,fun y hy1 hy2 hm=>?_⟩
      rcases aAI.1 hm with h5 | h5
      · omega
      · have:=aFk h4 h5;omega
    · rw [List.find?_cons_of_neg (by simpa using hr)]
      have:=ih h4
      split at this
      · rename_i s he
        obtain ⟨h5,h6,h7⟩:=this
        refine ⟨by simp [h5],h6,fun y hy1 hy2 hm=>?_⟩
        rcases aAI.1 hm with h8 | h8
        · omega
        · exact h7 y hy1 hy2 h8
      · intro y hy1 hm
        rcases aAI.1 hm with h8 | h8
        · omega
        · exact this y hy1 h8
theorem aLT {l:List Sp}{m:Int}(hv:vl (-1) l=true) (h0:0≤m) (hne:l≠[]):m≤aDg l m∧aDg l m<m+10080∧mn l (aDg l m%10080)∧∀ x,m≤x→x<aDg l m→¬ mn l (x%10080):=by
  have hf:=aUf (r:=m%10080) hv
  have hw:=aTa (Int.le_refl _) hv
  unfold aDg
  split
  · rename_i s he
    rw [he] at hf
    obtain ⟨h1,h2,h3⟩:=hf
    obtain ⟨w1,w2,w3⟩:=hw s h1
    refine ⟨by omega,by omega,⟨s,h1,by omega,by omega⟩,fun x hx1 hx2=>?_⟩
    have:=h3 (x%10080) (by omega) (by omega)
    exact this
  · rename_i he
    rw [he] at hf
    obtain ⟨s,l',rfl⟩:=List.exists_cons_of_ne_nil hne
    obtain ⟨w1,w2,w3⟩:=hw s (by simp)
    have hs:(s::l').headD (0,0)=s:=rfl
    rw [hs]
    have hlt:s.1<m%10080:=by
      rcases Int.lt_or_le s.1 (m%10080) with h | h
      · exact h
      · exact absurd ⟨s,by simp,Int.le_refl _,w2⟩ (hf s.1 h)
    refine ⟨by omega,by omega,⟨s,by simp,by omega,by omega⟩,fun x hx1 hx2 hm=>?_⟩
    rcases Int.lt_or_le x (m-m%10080+10080) with h | h
    · exact hf _ (by omega) hm
    · obtain ⟨g1,g2,g3,g4⟩:=aB2.1 hv
      rcases aAI.1 hm with h5 | h5
      · omega
      · have:=aFk g4 h5;omega
theorem aNh {l:List Sp}{m m':Int}(h0:0≤m) (hm:m≤m') (h:(aAy l m').2=true):(aAy l m).2=true∧(aAy l m).1≤(aAy l m').1:=by
  unfold aAy at h ⊢
  split at h
  · rename_i hc
    simp only [Bool.and_eq_true,Bool.not_eq_true'] at hc
    obtain ⟨⟨h1,h2⟩,h3⟩:=hc
    have hb:aBn m=true:=by
      unfold aBn at h2 ⊢
      simp only [Bool.and_eq_true,decide_eq_true_eq] at h2 ⊢
      omega
    have hne:l≠[]:=by rintro rfl;cases h3
    rw [h1,h2,hb,h3]
    refine ⟨rfl,?_⟩
    show aDg l m≤aDg l m'
    obtain ⟨a1,_,_,a4⟩:=aLT h1 h0 hne
    obtain ⟨b1,_,b3,_⟩:=aLT h1 (show 0≤m' by omega) hne
    rcases Int.lt_or_le (aDg l m') (aDg l m) with h | h
    · exact absurd b3 (a4 _ (by omega) h)
    · exact h
  · cases h
theorem aQZ {prof:Bys}{os:List ObR}{a:Arc}(ha:a∈AS os):1≤(aHj prof os a.2.2.1).speed∧(aHj prof os a.2.2.1).speed≤9999999:=by
  obtain ⟨b,hb⟩:=aNS ha
  unfold aHj
  rw [hb]
  exact aJq _
theorem aOm {len sp:Int}(h1:1≤len) (h2:len<4294967296) (h3:1≤sp) (h4:sp≤9999999):1≤(len+sp-1) / sp∧(len+sp-1) / sp≤4304967296:=by
  refine ⟨Int.le_ediv_of_mul_le (by omega) (by omega),?_⟩
  have:=Int.ediv_le_self (a:=len+sp-1) sp (by omega)
  omega
theorem aLP {prof:Bys}{os:List ObR}{a:Arc}(ha:a∈AS os) (hb:ArcB a) {m x:Int}(h0:0≤m) (h:aBO prof os a m=some x):m<x∧x≤6000000000:=by
  have hr:=aQZ (prof:=prof) ha
  unfold aBO at h
  simp only at h
  generalize aHj prof os a.2.2.1=r at h hr
  have ht:=aOm hb.pos hb.lt hr.1 hr.2
  cases h1:(r.closed||(r.oneway && !fwd a.1 a.2.1 r.refs)||decide (1000000000<m)) with
  | true=>rw [h1] at h;cases h
  | false =>
    rw [h1] at h
    simp only [Bool.or_eq_false_iff,decide_eq_false_iff_not] at h1
    cases h2:r.limited with
    | false =>
      rw [h2] at h
      simp only [cond_false,Option.some.injEq] at h
      omega
    | true =>
      rw [h2] at h
      cases h3:(!((aAy r.hours m).2)||decide (1000000000<(aAy r.hours m).1)) with
      | true=>rw [h3] at h;cases h
      | false =>
        rw [h3] at h
        simp only [cond_true,cond_false,Option.some.injEq] at h
        simp only [Bool.or_eq_false_iff,decide_eq_false_iff_not,Bool.not_eq_false'] at h3
        have:=aI0 h3.1
        omega
theorem aNg {prof:Bys}{os:List ObR}{a:Arc}{m m' x:Int}(h0:0≤m) (hm:m≤m') (h:aBO prof os a m'=some x):∃ y,y≤x∧aBO prof os a m=some y:=by
  unfold aBO at h ⊢
  simp only at h ⊢
  generalize aHj prof os a.2.2.1=r at h
  cases h1:(r.closed||(r.oneway && !fwd a.1 a.2.1 r.refs)||decide (1000000000<m')) with
  | true=>rw [h1] at h;cases h
  | false =>
    rw [h1] at h
    have h1':(r.closed||(r.oneway && !fwd a.1 a.2.1 r.refs)||decide (1000000000<m))=false:=by
      simp only [Bool.or_eq_false_iff,decide_eq_false_iff_not] at h1 ⊢
      exact ⟨h1.1,by omega⟩
    rw [h1']
    cases h2:r.limited with
    | false =>
      rw [h2] at h
      simp only [cond_false,Option.some.injEq] at h ⊢
      exact ⟨_,by omega,rfl⟩
    | true =>
      rw [h2] at h
      cases h3:(!((aAy r.hours m').2)||decide (1000000000<(aAy r.hours m').1)) with
      | true=>rw [h3] at h;cases h
      | false =>
        rw [h3] at h
        simp only [Bool.or_eq_false_iff,decide_eq_false_iff_not,Bool.not_eq_false'] at h3
        obtain ⟨n1,n2⟩:=aNh h0 hm h3.1
        have h4:(!((aAy r.hours m).2)||decide (1000000000<(aAy r.hours m).1))=false:=by
          rw [n1];simp only [Bool.not_true,Bool.false_or,decide_eq_false_iff_not];omega
        rw [h4]
        simp only [cond_true,cond_false,Option.some.injEq] at h ⊢
        exact ⟨_,by omega,rfl⟩
theorem aFT {prof:Bys}{os:List ObR}(hok:∀ a∈AS os,ArcB a) (f:Bys):(aAi prof os f).Ok 6000000000:=by
  refine ⟨fun {i m x} hi h0 h=>?_,fun {i m m' x} h0 hm h=>?_,fun {i m x} hi h0 h=>?_⟩
  · obtain ⟨a,ha⟩:=geb (l:=AS os) (i:=i) hi
    have h:(match (AS os)[i]? with | some a=>aBO prof os a m | none=>none)=some x:=h
    rw [ha] at h
    exact (aLP (gm ha) (hok a (gm ha)) h0 h).1
  · have h:(match (AS os)[i]? with | some a=>aBO prof os a m' | none=>none)=some x:=h
    show ∃ y,y≤x∧(match (AS os)[i]? with | some a=>aBO prof os a m | none=>none)=some y
    cases ha:(AS os)[i]? with
    | none=>rw [ha] at h;cases h
    | some a=>rw [ha] at h;exact aNg h0 hm h
  · obtain ⟨a,ha⟩:=geb (l:=AS os) (i:=i) hi
    have h:(match (AS os)[i]? with | some a=>aBO prof os a m | none=>none)=some x:=h
    rw [ha] at h
    exact (aLP (gm ha) (hok a (gm ha)) h0 h).2
theorem aP1 {l:List Arc}{s:Bys}{j:Nat}{z:Int}(h:(aC0 l s)[j]?=some z):∃ k a,z=((k:Nat):Int)∧l[k]?=some a∧a.1=s:=by
  have h:=List.mem_of_getElem? h
  unfold aC0 at h
  obtain ⟨⟨a,k⟩,hx,rfl⟩:=List.mem_map.1 h
  obtain ⟨h1,h2⟩:=List.mem_filter.1 hx
  exact ⟨k,a,rfl,List.mk_mem_zipIdx_iff_getElem?.1 h1,by simpa using h2⟩
theorem aMb {l:List Arc}{s:Bys}{k:Nat}{a:Arc}(h:l[k]?=some a) (hs:a.1=s):k∈(aC0 l s).map Int.toNat:=by
  unfold aC0
  rw [List.map_map,List.mem_map]
  exact ⟨(a,k),List.mem_filter.2 ⟨List.mk_mem_zipIdx_iff_getElem?.2 h,by simpa using hs⟩,rfl⟩
theorem StF.frB {wS w w':World}{G:Nat→Prop}{bs ca bo br bb no nr nb:Nat}{qa:Option Addr}{prof:Bys}{os:List ObR}{T:aE7}{T2:RdT}(h:StF wS bs ca bo br bb no nr nb qa prof os T T2) (hf:Fr (fun _=>False) wS w) (hG:∀ k,G k→wS.heap.size≤k) (f:Fr G w w'):StF w' bs ca bo br bb no nr nb qa prof os T T2 :=
  h.fr (hf.trans' f fun r hr hg=>by have:=hG r hg;omega)
theorem aCv {w:World}{bs ca bo br bb no nr nb:Nat}{qa:Option Addr}{prof:Bys}{os:List ObR}{T:aE7}{T2:RdT}(hS:StF w bs ca bo br bb no nr nb qa prof os T T2) (hT2:T2.map (·.1)=aBN os) (f:Bys) {i:Nat}(hi:i<(AS os).length) {mi:Int}(hm0:0≤mi) (hm1:mi≤4000000000000000000):Calls Tryz.prog 62 #[vP bs 0,vI (i:Int),vI mi] w fun e w'=>e = .returned (.tuple #[vI (((aAi prof os f).ps i mi).getD 0),vB ((aAi prof os f).ps i mi).isSome])∧Fr (fun _=>False) w w' :=
  (aNe hS hT2 hi hm0 hm1).mono fun e w' ⟨⟨a,ha,he⟩,h⟩=>⟨by
    have e2:(aAi prof os f).ps i mi=aBO prof os a mi:=by
      show (match (AS os)[i]? with | some a=>aBO prof os a mi | none=>none)=_
      rw [ha]
    rw [he,e2]
    exact (match aBO prof os a mi with | none=>rfl | some _=>rfl),h⟩
theorem aCD {w:World}{bs ca bo br bb no nr nb:Nat}{qa:Option Addr}{prof:Bys}{os:List ObR}{T:aE7}{T2:RdT}(hS:StF w bs ca bo br bb no nr nb qa prof os T T2) (f:Bys) {i k:Nat}(hi:i<(AS os).length) (hk:k<(AS os).length):Calls Tryz.prog 66 #[vP bs 0,vI (i:Int),vI (k:Int)] w fun e w'=>e = .returned (vB ((aAi prof os f).al i k))∧Fr (fun _=>False) w w' :=
  (aIT hS hi hk).mono fun e w' ⟨⟨a,b,ha,hb,he⟩,h⟩=>⟨by
    have e2:(aAi prof os f).al i k=aEp prof os a b:=by
      show (match (AS os)[i]?,(AS os)[k]? with | some a,some b=>aEp prof os a b | _,_=>false)=_
      rw [ha,hb]
    rw [he,e2],h⟩
abbrev TM (c3 bs c7 b c8 c9 q n:Nat) (t:Nat→Option Int) (v:Value) (X:List (Nat×Int)):List Ent :=
  [bk c3 #[vP bs 0] 69,bk c7 #[.map (some b)] 73,bk c8 #[.func (.func 60) #[] #[]] 92,bk c9 #[.iface 115 (vP q 0)] 119,tbE b n t,bk q #[v] 117,rw_ reL 2 124 v X]
theorem aJi {wS w:World}{G:Nat→Prop}{bs ca bo br bb no nr nb:Nat}{qa:Option Addr}{prof:Bys}{os:List ObR}{T:aE7}{T2:RdT}(hS:StF wS bs ca bo br bb no nr nb qa prof os T T2) (hT2:T2.map (·.1)=aBN os) (f:Bys) (hf:Fr (fun _=>False) wS w) (hG:∀ k,G k→wS.heap.size≤k) {c3 c7 b c8 c9 q n:Nat}{t:Nat→Option Int}{v:Value}{X:List (Nat×Int)}(hM0:Mm G w w (TM c3 bs c7 b c8 c9 q n t v X)) (hl:X.length<1500000000000) {i:Nat}(hi:i<(AS os).length) (hi2:(AS os).length≤400000000) {mi:Int}(hm0:0≤mi) (hm1:mi≤4000000000000000000):Calls Tryz.prog 61 #[vI (i:Int),vI mi,vP c3 0,vP c7 0,vP c8 0,vP c9 0] w fun e w'=>∃ (u:Value) (Mn:List Ent),e = .returned u∧(u = .tuple #[]∧∃ n' t' v' X',aU7 (aAi prof os f) i mi t X t' X'∧Mn=TM c3 bs c7 b c8 c9 q n' t' v' X')∧Mm G w w' Mn:=by
  obtain ⟨o,ho⟩:∃ o,o=(aAi prof os f).ps i mi:=⟨_,rfl⟩
  refine beg Tryz.func61 rfl rfl [(0,vI (i:Int)),(1,vI mi),(2,vP c3 0),(3,vP c7 0),(4,vP c8 0),(5,vP c9 0)] rfl rfl fun Φ hΦ=>?_
  have hM:=hM0
  refine aAr 0 3 14 [(11,vP bs 0),(12,vI (i:Int)),(13,vI mi)] (fc (ldm 69 0 0 hM rfl rfl) f0) hM (ho▸aCv (hS.frB hf hG hM.fr) hT2 f hi hm0 hm1) fun w1 hM=>seg 1 2 [(8,vI (o.getD 0)),(18,vB o.isSome)] f0 ?_
  cases ab:o.isSome with
  | false =>
   have hn:o=none:=by cases o with | none=>rfl | some x=>cases ab
   exact rt0 rfl f0 (hΦ _ _ ⟨_,TM c3 bs c7 b c8 c9 q n t v X,rfl,⟨rfl,_,_,_,_,.inr ⟨fun x hx=>(by rw [←ho,hn] at hx;cases hx),rfl,rfl⟩,rfl⟩,hM.pick [0,1,2,3,4,5,6]⟩)
  | true =>
   refine aAO 1 6 23 [(19,.agg #[.map (some b)]),(20,vI (i:Int)),(21,vI (o.getD 0)),(22,.func (.func 60) #[] #[])] (K:=fun u Mn=>u=vB (bet t i (o.getD 0))∧∃ n',Mn=[tbE b n' (bif bet t i (o.getD 0) then aL0 t i (o.getD 0) else t)]) [0,1,2,3,5,6] [4] (fc (lam 73 1 0 1 hM rfl) (fc (ldm 92 2 0 hM rfl rfl) f0)) hM rfl rfl (by decide) (fun hm=>(aKd hm (by omega) (o.getD 0))) fun u Mn w1 hK hM=>?_
   obtain ⟨rfl,n199,rfl⟩:=hK
   refine seg 1 8 [(24,vB (bet t i (o.getD 0)))] f0 ?_
   cases aa:(bet t i (o.getD 0))
   ·obtain ⟨x,hx⟩:=Option.isSome_iff_exists.1 ab
    have hx0:o.getD 0=x:=by rw [hx];rfl
    rw [aa] at hM
    exact rt0 rfl f0 (hΦ _ _ ⟨_,TM c3 bs c7 b c8 c9 q n199 t v X,rfl,⟨rfl,_,_,_,_,.inr ⟨fun y hy=>(by rw [←ho,hx] at hy;cases hy;rw [←hx0];exact aa),rfl,rfl⟩,rfl⟩,hM.pick [0,1,2,3,6,4,5]⟩)
   refine aAO 2 5 30 [(25,.iface 115 (vP q 0)),(29,.iface 124 (.agg #[vI (i:Int),vI (o.getD 0)]))] (K:=fun u Mn=>u = .tuple #[]∧∃ v' X',X'.Perm (X++[(i,o.getD 0)])∧Mn=QM q v' X') [0,1,2,3,6] [4,5] (fc (ldm 119 3 0 hM rfl rfl) f0) hM rfl rfl (by decide) (fun hm=>(aKX hm hl (i,o.getD 0))) fun u Mn w1 hK hM=>?_
   obtain ⟨rfl,v2,X2,hX2,rfl⟩:=hK
   obtain ⟨x,hx⟩:=Option.isSome_iff_exists.1 ab
   have hx0:o.getD 0=x:=by rw [hx];rfl
   rw [aa] at hM
   exact rt0 rfl f0 (hΦ _ _ ⟨_,TM c3 bs c7 b c8 c9 q n199 (aL0 t i (o.getD 0)) v2 X2,rfl,⟨rfl,_,_,_,_,.inl ⟨o.getD 0,by rw [←ho,hx0];exact hx,aa,rfl,hX2⟩,rfl⟩,hM.pick [0,1,2,3,4,5,6]⟩)
theorem aWC {α:Type}{f:α→List Value}{c E:Nat}{F0:Nat→Prop}{w0 w:World}{M:List Ent}(h:Mm F0 w0 w M) {j b:Nat}(hj:M[j]?=some (bk b #[] E)):Mm F0 w0 w (M.set j (rw_ f c E (vL (some ⟨b,0,none⟩) 0 0) [])) :=
  h.put j hj (Fr.refl (fun _=>False) _) (fun _ _ h=>h.elim) (show ow f c E w 0 _ [] from ⟨by simp,.inr ⟨b,0,#[],rfl,Nat.zero_le _,h.get j hj,Nat.le_refl _,by unfold maxLen;omega,by simp,by simp⟩⟩) fun k e => .inl (by
    have e:some b=some k:=e
    exact (Option.some.inj e).symm)
theorem aOT {w:World}{bs ca bo br bb no nr nb:Nat}{qa:Option Addr}{prof:Bys}{os:List ObR}{T:aE7}{T2:RdT}(hS:StF w bs ca bo br bb no nr nb qa prof os T T2) (hTr:∀ s,aEr T s=aC0 (AS os) s) (s:Bys):∃ p c,(aC9 T (vS s)).getD (vL none 0 0)=vL p (aC0 (AS os) s).length c∧SrcP inL 1 w p c (aC0 (AS os) s):=by
  have h:=hTr s
  unfold aEr at h
  rw [aKN]
  cases hf:T.find? (fun x=>x.1==s) with
  | none =>
    rw [hf] at h
    have h:([]:List Int)=aC0 (AS os) s:=h
    rw [←h]
    obtain ⟨p,c,h1,h2⟩:=(Src.nil (f:=inL) (c:=1) w).op
    exact ⟨p,c,h1,h2⟩
  | some x =>
    rw [hf] at h
    have h:x.2.2=aC0 (AS os) s:=h
    rw [←h]
    exact (hS.rows x (List.mem_of_find?_eq_some hf)).op
theorem aR2 {prof:Bys}{os:List ObR}{f:Bys}{k:Nat}{a:Arc}(h:(AS os)[k]?=some a) (hf:a.1=f):(aAi prof os f).st k=true:=by
  show (match (AS os)[k]? with | some a=>a.1==f | none=>false)=true
  rw [h];simpa using hf
theorem aPl {prof:Bys}{os:List ObR}{f:Bys}{t:Nat→Option Int}{m0:Int}(h:ClL (aAi prof os f) t (fun _=>true) m0 ((aC0 (AS os) f).map Int.toNat)):∀ i,i<(aAi prof os f).n→(aAi prof os f).st i=true→∀ x,(aAi prof os f).ps i m0=some x→∃ y,y≤x∧t i=some y:=by
  intro i hi hs x hx
  obtain ⟨a,ha⟩:=geb (l:=AS os) (i:=i) hi
  have hs:(match (AS os)[i]? with | some a=>a.1==f | none=>false)=true:=hs
  rw [ha] at hs
  exact h i (aMb ha (by simpa using hs)) rfl x hx
theorem aR3 {prof:Bys}{os:List ObR}{f:Bys}{t:Nat→Option Int}{i:Nat}{m:Int}{a:Arc}(ha:(AS os)[i]?=some a) (h:ClL (aAi prof os f) t ((aAi prof os f).al i) m ((aC0 (AS os) a.2.1).map Int.toNat)):Cl (aAi prof os f) t i m:=by
  intro k hk hal x hx
  obtain ⟨b,hb⟩:=geb (l:=AS os) (i:=k) hk
  have h2:(match (AS os)[i]?,(AS os)[k]? with | some a,some b=>aEp prof os a b | _,_=>false)=true:=hal
  rw [ha,hb] at h2
  unfold aEp at h2
  simp only [Bool.and_eq_true] at h2
  exact h k (aMb hb (et h2.1).symm) hal x hx
abbrev A30 (Φ:Ending→World→Prop):=AtO Tryz.prog (aAf Tryz.f30) (aAo (bodyPost Tryz.prog Tryz.f30 Φ)) [] 88
theorem aEm {w:World}{bs ca bo br bb no nr nb:Nat}{qa:Option Addr}{prof:Bys}{os:List ObR}{T:aE7}{T2:RdT}(hS:StF w bs ca bo br bb no nr nb qa prof os T T2) (hT2:T2.map (·.1)=aBN os) (hTr:∀ s,aEr T s=aC0 (AS os) s) (hn:(AS os).length≤240) {f:Bys}(hf63:B63 f) {m0:Int}(h0:0≤m0) (h1:m0≤1000000000000):Calls Tryz.prog 30 #[vP bs 0,vS f,vI m0] w fun e w'=>∃ b n t,e = .returned (.agg #[.map (some b)])∧Tab (aAi prof os f) m0 t∧Mm (fun _=>False) w w' [tbE b n t]:=by
  have hNo:=aFT (prof:=prof) hS.ok f
  obtain ⟨po,co,eo,so⟩:=aOT hS hTr f
  have bso:=so.bnd
  obtain ⟨W0,hW0⟩:∃ z,z=(AS os).length*6000000001:=⟨_,rfl⟩
  refine beg Tryz.func30 rfl rfl [(0,vP bs 0),(1,vS f),(2,vI m0)] rfl rfl fun Φ hΦ=>?_
  have hM:=Mm.nil (fun _=>False) w
  refine aAq 0 0 3 [] (cs:=#[vP bs 0]) (T:=69) (v:=fun b=>vP b 0) f0 hM fun aa w1 hM=>aAq 0 1 6 [] (cs:=#[.map none]) (T:=73) (v:=fun b=>vP b 0) f0 hM fun ag w1 hM=>aHl 1 0 18 [] 3 f0 hM fun ad w1 hM=>aCh 1 2 7 [(19,.agg #[.map (some ad)])] [] 73 (.agg #[.map (some ad)]) f0 hM fun ab w1 hM=>aCh 2 0 8 [] [] 92 (.func (.func 60) #[] #[]) f0 hM fun af w1 hM=>aAq 3 0 20 [] (cs:=#[]) (T:=124) (v:=fun b=>vL (some ⟨b,0,none⟩) 0 0) f0 hM fun ai w1 hM=>aAq 3 1 21 [] (cs:=#[vL (some ⟨ai,0,none⟩) 0 0]) (T:=117) (v:=fun b=>vP b 0) f0 hM fun ae w1 hM=>aCh 3 3 9 [(22,.iface 115 (vP ae 0))] [] 119 (.iface 115 (vP ae 0)) f0 hM fun ac w1 hM=>?_
  have hM:=aWC hM (f:=reL) (c:=2) (j:=5) rfl
  refine seg 6 0 [(10,.func (.func 61) #[] #[vP aa 0,vP ab 0,vP af 0,vP ac 0]),(29,vL po (aC0 (AS os) f).length co),(30,vI ((aC0 (AS os) f).length:Int)),(31,vI 0)] (fc (ldm 69 0 0 hM rfl rfl) (fc (ld0 76 hM (bx hS.blk 2 rfl)) (fc (rz2 (lkN 76 (vS f) (vL none 0 0) (hS.out.fr hM.fr id) aDw u76_ (aDx hf63) (aNJ _)) eo) f0))) ?_
  have aw:∀ (aj:Nat) (n1:Nat) (t1:Nat→Option Int) (v1:Value) (X1:List (Nat×Int)) (j:Nat) (w2:World),TInv (aAi prof os f) m0 t1 X1 (fun _ _=>False)→ClL (aAi prof os f) t1 (fun _=>true) m0 (((aC0 (AS os) f).take j).map Int.toNat)→j≤(aC0 (AS os) f).length→wgt (aAi prof os f) 6000000000 t1+X1.length≤W0→Mm (fun _=>False) w w2 [bk ag #[.map none] 73,bk aa #[vP bs 0] 69,bk ab #[.map (some ad)] 73,bk af #[.func (.func 60) #[] #[]] 92,bk ac #[.iface 115 (vP ae 0)] 119,mp Tryz.prog 3 ad n1 (aFG t1),bk ae #[v1] 117,rw_ reL 2 124 v1 X1]→aj=(aC0 (AS os) f).length-j→A30 Φ (some (6,0)) [(31,vI (j:Int)),(30,vI ((aC0 (AS os) f).length:Int)),(29,vL po (aC0 (AS os) f).length co),(10,.func (.func 61) #[] #[vP aa 0,vP ab 0,vP af 0,vP ac 0]),(9,vP ac 0),(7,vP ab 0),(6,vP ag 0),(3,vP aa 0),(2,vI m0)] w2:=by
   refine aAG fun aj ax n1 t1 v1 X1 j w2 hI hC hj hw hM bd=>seg 6 1 [(32,vB (decide ((j:Int)<((aC0 (AS os) f).length:Int))))] f0 ?_
   cases ak:(decide ((j:Int)<((aC0 (AS os) f).length:Int)))
   rotate_left
   ·have ay:=dt ak
    obtain ⟨z,hz,be,bf,az,a0⟩:=so.el (i:=j) (by omega)
    obtain ⟨k,b,ek,hk,hb⟩:=aP1 hz
    subst ek
    have hrc:∀ x,(aAi prof os f).ps k m0=some x→Rch (aAi prof os f) m0 k x:=fun x hx => .base (gl hk) (aR2 hk hb) hx
    have hkl:=gl hk
    refine aAO 8 3 38 [(35,.func (.func 61) #[] #[vP aa 0,vP ab 0,vP af 0,vP ac 0]),(36,vI (k:Int)),(37,vI m0)] (K:=fun u Mn=>u = .tuple #[]∧∃ n' t' v' X',aU7 (aAi prof os f) k m0 t1 X1 t' X'∧Mn=TM aa bs ab ad af ac ae n' t' v' X') [0] [1,2,3,4,5,6,7] (fc (ix 29 co az (gl hz)) (fc (ld0 3 hM (a0 0 _ rfl)) f0)) hM rfl rfl (by decide) (fun hm=>(aJi hS hT2 f hM.fr (fun k ⟨e,he,hk⟩=>(hM.pick [1,2,3,4,5,6,7]).ge he hk) hm (by omega) (gl hk) (by omega) (by omega) (by omega))) fun u Mn w1 hK hM=>?_
    obtain ⟨rfl,n229,t229,a1,X229,hP229,rfl⟩:=hK
    refine seg 6 0 [(31,vI ((j:Int)+1))] (fc (aAe (j:Int) 1 u3_) f0) (aAb _ (ax _ (by have:=gl hz;omega) n229 t229 a1 X229 (j+1) _ (hP229.inv hI hrc) (by rw [gt_ hz,List.map_append];exact (hC.mono hP229.le).snoc fun _=>hP229.done) (gl hz) (by rcases hP229.wgt (B:=6000000000) hNo h0 hI hrc with ⟨q1,q2⟩ | ⟨q1,q2⟩<;>omega) hM rfl))
   have ay:=df ak
   rw [show (aC0 (AS os) f).take j=aC0 (AS os) f from List.take_of_length_le (by omega)] at hC
   refine seg 10 0 [] f0 ?_
   have a2:∀ (ah:Nat) (n4:Nat) (t4:Nat→Option Int) (v4:Value) (X4:List (Nat×Int)) (w2:World),TInv (aAi prof os f) m0 t4 X4 (fun _ _=>False)→ClL (aAi prof os f) t4 (fun _=>true) m0 ((aC0 (AS os) f).map Int.toNat)→wgt (aAi prof os f) 6000000000 t4+X4.length≤W0→Mm (fun _=>False) w w2 [bk ag #[.map none] 73,bk aa #[vP bs 0] 69,bk ab #[.map (some ad)] 73,bk af #[.func (.func 60) #[] #[]] 92,bk ac #[.iface 115 (vP ae 0)] 119,mp Tryz.prog 3 ad n4 (aFG t4),bk ae #[v4] 117,rw_ reL 2 124 v4 X4]→ah=2*wgt (aAi prof os f) 6000000000 t4+X4.length→A30 Φ (some (10,0)) [(10,.func (.func 61) #[] #[vP aa 0,vP ab 0,vP af 0,vP ac 0]),(9,vP ac 0),(7,vP ab 0),(6,vP ag 0),(3,vP aa 0)] w2:=by
    refine aAG fun ah am n4 t4 v4 X4 w2 hI hC hw hM bg=>?_
    obtain ⟨qb216,cb216,a3,bh⟩:=(hM.src (j:=7) rfl reT.len).op
    subst a3
    refine aWd 10 1 41 [(40,.iface 115 (vP ae 0))] "Len" #[] (by decide) (fc (ldm 119 4 0 hM rfl rfl) f0) (aPn (hM.get 6 rfl)) (enters_of Tryz.func235 (by kernel_rfl) rfl) (aWj aFy) fun u w1 ⟨hu,f1⟩=>?_
    subst hu
    have hM:=hM.q f1
    refine seg 10 3 [(42,vB (decide (0<(X4.length:Int))))] f0 ?_
    cases an:(decide (0<(X4.length:Int)))
    ·have a4:=df an
     refine stm 20 1 [(87,.agg #[.map (some ad)])] 73 0 0 (.agg #[.map (some ad)]) (fc (lam 73 2 0 1 hM rfl) f0) hM rfl fun w1 hM=>?_
     have hX0:X4=[]:=List.eq_nil_of_length_eq_zero (by omega)
     rw [hX0] at hI
     exact rtc 6 73 rfl (aAk 73 0 hM rfl rfl) f0 (hΦ _ _ ⟨_,_,t4,rfl,hI.tab (aPl hC),hM.pick [5]⟩)
    have a4:=dt an
    refine aAO 11 1 44 [(43,.iface 115 (vP ae 0))] (K:=fun u Mn=>∃ x v' X',X4.Perm (x::X')∧u = .iface 124 (.agg #[vI (x.1:Int),vI x.2])∧Mn=QM ae v' X') [0,1,2,3,4,5] [6,7] (fc (ldm 119 4 0 hM rfl rfl) f0) hM rfl rfl (by decide) (fun hm=>(aNo hm (by omega) (by omega))) fun u Mn w1 hK hM=>?_
    obtain ⟨x,v5,X5,hXp,rfl,rfl⟩:=hK
    have hln:=hXp.length_eq
    rw [List.length_cons] at hln
    obtain ⟨hrx,m9,hm9,hx9⟩:=hI.wait x (hXp.mem_iff.2 (.head _))
    have hx1:x.1<(AS os).length:=hrx.lt
    have hgx:=hrx.ge hNo h0
    have hlx:=hrx.le hNo h0
    have hx2:t4 x.1=some m9:=hx9
    have hM:=hM.pick [0,1,2,3,4,5,6,7]
    refine aCh 11 3 13 [(45,.agg #[vI (x.1:Int),vI x.2])] [] 124 (.agg #[vI (x.1:Int),vI x.2]) f0 hM fun ao w1 hM=>aAr 12 3 50 [(47,.agg #[.map (some ad)]),(49,vI (x.1:Int))] (fc (lam 73 2 0 1 hM rfl) (fc (ldm 3 8 0 hM rfl rfl) f0)) hM (aBR (hM.get 5 rfl) (i:=x.1) (by omega)) fun w1 hM=>seg 13 4 [(56,vB (decide (((t4 x.1).getD 0)<x.2)))] (fc (ldm 3 8 1 hM rfl rfl) f0) ?_
    cases ap:(decide (((t4 x.1).getD 0)<x.2))
    rotate_left
    ·refine seg 10 0 [] f0 ?_
     have hM:=hM.pick [0,1,2,3,4,5,6,7]
     exact aAb _ (am _ (by omega) n4 t4 v5 X5 _ (hI.stale hXp hx2 (by simpa [hx2] using (dt ap))) hC (by omega) hM rfl)
    have hxe:m9=x.2:=by
      have:=df ap
      rw [hx2] at this
      have:¬ m9<x.2:=this
      omega
    obtain ⟨a,ha,bi,bj,a5,a6⟩:=hS.arcs.el (i:=x.1) (by omega)
    obtain ⟨po2,co2,eo2,so2⟩:=aOT hS hTr a.2.1
    have bso2:=so2.bnd
    refine seg 14 0 [] f0 ?_
    have hM:=hM.q ((Fr.refl _ _).drew)
    refine drq [(70,vL po2 (aC0 (AS os) a.2.1).length co2),(71,vI ((aC0 (AS os) a.2.1).length:Int)),(72,vI 0)] rfl (fc (ldm 69 1 0 hM rfl rfl) (fc (ld0 76 hM (bx hS.blk 2 rfl)) (fc (ldm 69 1 0 hM rfl rfl) (fc (ld0 75 hM (bx hS.blk 1 rfl)) (fc (ldm 3 8 0 hM rfl rfl) (fc (ix 75 ca a5 (gl ha)) (fc (ld0 9 hM (a6 1 _ rfl)) (fc (rz2 (lkN 76 (vS a.2.1) (vL none 0 0) (hS.out.fr hM.fr id) aDw u76_ (aDx (hS.ok a (gm ha)).f2) (aNJ _)) eo2) f0)))))))) (seg 15 0 [] f0 ?_)
    have a7:∀ (aq:Nat) (n3:Nat) (t3:Nat→Option Int) (v3:Value) (X3:List (Nat×Int)) (j3:Nat) (w2:World),TInv (aAi prof os f) m0 t3 X3 (fun i m=>(i,m)=x)→ClL (aAi prof os f) t3 (fun _=>true) m0 ((aC0 (AS os) f).map Int.toNat)→ClL (aAi prof os f) t3 ((aAi prof os f).al x.1) x.2 (((aC0 (AS os) a.2.1).take j3).map Int.toNat)→j3≤(aC0 (AS os) a.2.1).length→wgt (aAi prof os f) 6000000000 t3+X3.length≤W0→2*wgt (aAi prof os f) 6000000000 t3+X3.length<ah→Mm (fun _=>False) w w2 [bk ag #[.map none] 73,bk ao #[vI (x.1:Int),vI x.2] 124,bk aa #[vP bs 0] 69,bk ab #[.map (some ad)] 73,bk af #[.func (.func 60) #[] #[]] 92,bk ac #[.iface 115 (vP ae 0)] 119,mp Tryz.prog 3 ad n3 (aFG t3),bk ae #[v3] 117,rw_ reL 2 124 v3 X3]→aq=(aC0 (AS os) a.2.1).length-j3→A30 Φ (some (15,0)) [(72,vI (j3:Int)),(71,vI ((aC0 (AS os) a.2.1).length:Int)),(70,vL po2 (aC0 (AS os) a.2.1).length co2),(13,vP ao 0),(10,.func (.func 61) #[] #[vP aa 0,vP ab 0,vP af 0,vP ac 0]),(9,vP ac 0),(7,vP ab 0),(6,vP ag 0),(3,vP aa 0)] w2:=by
     refine aAG fun aq ar n3 t3 v3 X3 j3 w2 hI3 hC3 hD hj3 hw3 hmu hM bl=>seg 15 1 [(73,vB (decide ((j3:Int)<((aC0 (AS os) a.2.1).length:Int))))] f0 ?_
     cases au:(decide ((j3:Int)<((aC0 (AS os) a.2.1).length:Int)))
     ·have a8:=df au
      refine seg 10 0 [] f0 ?_
      have hM:=hM.pick [0,2,3,4,5,6,7,8]
      exact aAb _ (am _ (by omega) n3 t3 v3 X3 _ (hI3.close (aR3 ha (by rw [List.take_of_length_le (by omega)] at hD;exact hD))) hC3 hw3 hM rfl)
     have a8:=dt au
     obtain ⟨z,hz,bm,bp,a9,ba⟩:=so2.el (i:=j3) (by omega)
     obtain ⟨k,b,ek,hk,hb⟩:=aP1 hz
     subst ek
     have hkl:=gl hk
     refine aAr 17 4 80 [(17,vI (k:Int)),(76,vP bs 0),(78,vI (x.1:Int)),(79,vI (k:Int))] (fc (ix 29 co2 a9 (gl hz)) (fc (ld0 3 hM (ba 0 _ rfl)) (fc (ldm 69 2 0 hM rfl rfl) (fc (ldm 3 1 0 hM rfl rfl) f0)))) hM (aCD (hS.fr hM.fr) f hx1 hkl) fun w1 hM=>?_
     cases av:((aAi prof os f).al x.1 k)
     ·refine seg 15 0 [(72,vI ((j3:Int)+1))] (fc (aAe (j3:Int) 1 u3_) f0) (aAb _ (ar _ (by have:=gl hz;omega) n3 t3 v3 X3 (j3+1) _ hI3 hC3 (by rw [gt_ hz,List.map_append];exact hD.snoc fun q9=>by rw [show Int.toNat (k:Int)=k from rfl,av] at q9;cases q9) (gl hz) hw3 hmu hM rfl))
     have hrc:∀ y,(aAi prof os f).ps k x.2=some y→Rch (aAi prof os f) m0 k y:=fun y hy => .step hrx hkl av hy
     refine aAO 18 4 85 [(81,.func (.func 61) #[] #[vP aa 0,vP ab 0,vP af 0,vP ac 0]),(82,vI (k:Int)),(84,vI x.2)] (K:=fun u Mn=>u = .tuple #[]∧∃ n' t' v' X',aU7 (aAi prof os f) k x.2 t3 X3 t' X'∧Mn=TM aa bs ab ad af ac ae n' t' v' X') [0,1] [2,3,4,5,6,7,8] (fc (ldm 3 1 1 hM rfl rfl) f0) hM rfl rfl (by decide) (fun hm=>(aJi hS hT2 f hM.fr (fun k ⟨e,he,hk⟩=>(hM.pick [2,3,4,5,6,7,8]).ge he hk) hm (by omega) (gl hk) (by omega) (by omega) (by omega))) fun u Mn w1 hK hM=>?_
     obtain ⟨rfl,n227,t227,bc,X227,hP227,rfl⟩:=hK
     refine seg 15 0 [(72,vI ((j3:Int)+1))] (fc (aAe (j3:Int) 1 u3_) f0) (aAb _ (ar _ (by have:=gl hz;omega) n227 t227 bc X227 (j3+1) _ (hP227.inv hI3 hrc) (hC3.mono hP227.le) (by rw [gt_ hz,List.map_append];exact (hD.mono hP227.le).snoc fun _=>hP227.done) (gl hz) (by rcases hP227.wgt (B:=6000000000) hNo h0 hI3 hrc with ⟨q1,q2⟩ | ⟨q1,q2⟩<;>omega) (by rcases hP227.wgt (B:=6000000000) hNo h0 hI3 hrc with ⟨q1,q2⟩ | ⟨q1,q2⟩<;>omega) hM rfl))
    exact aAb _ (a7 _ n4 t4 v5 X5 0 _ (hI.pop hXp) hC (ClL.nil _ _ _ _) (Nat.zero_le _) (by omega) (by omega) (hM.pick [0,8,1,2,3,4,5,6,7]) rfl)
   exact aAb _ (a2 _ n1 t1 v1 X1 _ hI hC hw hM rfl)
  exact aAb _ (aw _ 0 (fun _=>none) (vL (some ⟨ai,0,none⟩) 0 0) [] 0 _ (TInv.nil _ _ _) (ClL.nil _ _ _ _) (Nat.zero_le _) (by rw [hW0];exact aUL _ _ _) (aQA▸hM.pick [1,0,3,4,7,2,6,5]) rfl)
def aN4 (N:NetW) (m0:Int) (t:Nat→Option Int) (i:Nat):Bool:=(N.ps i m0).isSome&&N.st i&&((N.ps i m0).getD 0==(t i).getD 0)
def aFM (N:NetW) (t:Nat→Option Int) (i k:Nat):Bool:=(t k).isSome&&N.al k i&&((N.ps i ((t k).getD 0)).isSome&&((N.ps i ((t k).getD 0)).getD 0==(t i).getD 0))
def aC6 (N:NetW) (m0:Int) (t:Nat→Option Int) (i:Nat):Option Nat:=bif aN4 N m0 t i then none else (List.range N.n).find? (aFM N t i)
theorem aID {n k:Nat}{p:Nat→Bool}(h:∀ j,j<k→p j=false) (hk:k<n) (hp:p k=true):(List.range n).find? p=some k:=by
  rw [List.find?_range_eq_some]
  exact ⟨hp,by simpa using hk,fun j hj=>by rw [h j hj];rfl⟩
theorem aGJ {n k:Nat}{p:Nat→Bool}(h:∀ j,j<k→p j=false) (hk:n≤k):(List.range n).find? p=none:=by
  rw [List.find?_eq_none]
  intro j hj
  rw [h j (Nat.lt_of_lt_of_le (List.mem_range.1 hj) hk)];simp
abbrev A32 (Φ:Ending→World→Prop):=AtO Tryz.prog (aAf Tryz.f32) (aAo (bodyPost Tryz.prog Tryz.f32 Φ)) [] 88
theorem aKe {w:World}{bs ca bo br bb no nr nb:Nat}{qa:Option Addr}{prof:Bys}{os:List ObR}{T:aE7}{T2:RdT}(hS:StF w bs ca bo br bb no nr nb qa prof os T T2) (hT2:T2.map (·.1)=aBN os) (hl9:(AS os).length≤400000000) {b n:Nat}{t:Nat→Option Int}(hm:aDs Tryz.prog 3 w b n (aFG t)) (ht:∀ k m,t k=some m→0≤m∧m≤6000000000) {f:Bys}{m0:Int}(h0:0≤m0) (h1:m0≤1000000000000) {i:Nat}(hi:i<(AS os).length):Calls Tryz.prog 32 #[vP bs 0,.agg #[.map (some b)],vS f,vI m0,vI (i:Int)] w fun e w'=>e = .returned (.tuple #[vI (((aC6 (aAi prof os f) m0 t i).getD 0:Nat):Int),vB (aC6 (aAi prof os f) m0 t i).isSome])∧Fr (fun _=>False) w w':=by
  obtain ⟨a,ha⟩:=geb (l:=AS os) (i:=i) hi
  have hst:(aAi prof os f).st i=(a.1==f):=by
    show (match (AS os)[i]? with | some a=>a.1==f | none=>false)=_
    rw [ha]
  have htg:∀ k,0≤(t k).getD 0∧(t k).getD 0≤6000000000:=fun k=>by
    cases e:t k with
    | none=>exact ⟨Int.le_refl _,by show (0:Int)≤_;omega⟩
    | some m=>exact ht k m e
  refine beg Tryz.func32 rfl rfl [(0,vP bs 0),(1,.agg #[.map (some b)]),(2,vS f),(3,vI m0),(4,vI (i:Int))] rfl rfl fun Φ hΦ=>?_
  have hM:=Mm.nil (fun _=>False) w
  refine aAq 0 0 6 [] (cs:=#[.map (some b)]) (T:=73) (v:=fun b=>vP b 0) f0 hM fun aa w1 hM=>aAr 1 2 24 [(22,.agg #[.map (some b)]),(23,vI (i:Int))] (fc (lam 73 0 0 1 hM rfl) f0) hM (aBR (hm.fr hM.fr id) (i:=i) (by omega)) fun w1 hM=>aAr 2 3 31 [(12,vI ((t i).getD 0)),(28,vP bs 0),(29,vI (i:Int)),(30,vI m0)] f0 hM (aCv (hS.fr hM.fr) hT2 f hi h0 (by omega)) fun w1 hM=>?_
  obtain ⟨a9,ha9,ga,oa,qq,ra⟩:=hS.arcs.el (i:=i) hi
  rw [ha] at ha9
  cases ha9
  refine seg 3 2 [(14,vI (((aAi prof os f).ps i m0).getD 0)),(35,vB ((aAi prof os f).ps i m0).isSome)] f0 ?_
  cases ah:((aAi prof os f).ps i m0).isSome with
  | false =>
   have hA:aN4 (aAi prof os f) m0 t i=false:=by unfold aN4;simp only [hst,ah]<;>rfl
   refine seg 6 0 [(56,vI ((AS os).length:Int)),(57,vI 0)] (fc (ld0 75 hM (bx hS.blk 1 rfl)) f0) ?_
   have a2:∀ (ay:Nat) (k:Nat) (w2:World),k≤(AS os).length→(∀ j,j<k→aFM (aAi prof os f) t i j=false)→Mm (fun _=>False) w w2 [bk aa #[.map (some b)] 73]→ay=(AS os).length-k→A32 Φ (some (6,0)) [(57,vI (k:Int)),(56,vI ((AS os).length:Int)),(12,vI ((t i).getD 0)),(6,vP aa 0),(0,vP bs 0),(4,vI (i:Int))] w2:=by
    refine aAG fun ay ai k w2 hk hno hM bd=>seg 6 1 [(58,vB (decide ((k:Int)<((AS os).length:Int))))] f0 ?_
    cases ab:(decide ((k:Int)<((AS os).length:Int)))
    ·have a3:=df ab
     have hb:aC6 (aAi prof os f) m0 t i=none:=by
       unfold aC6;rw [hA];exact aGJ hno (by show (AS os).length≤k;omega)
     exact rt2 10 11 (vI 0) (vB false) rfl rfl f0 (hΦ _ _ ⟨by rw [hb];rfl,hM.fr⟩)
    have a3:=dt ab
    refine aAr 8 2 63 [(16,vI (k:Int)),(61,.agg #[.map (some b)]),(62,vI (k:Int))] (fc (lam 73 0 0 1 hM rfl) f0) hM (aBR (hm.fr hM.fr id) (i:=k) (by omega)) fun w1 hM=>seg 9 2 [(17,vI ((t k).getD 0)),(67,vB (t k).isSome)] f0 ?_
    cases ae:(t k).isSome with
    | false =>
     refine seg 6 0 [(57,vI ((k:Int)+1))] (fc (aAe (k:Int) 1 u3_) f0) (aAb _ (ai _ (by omega) (k+1) _ (by omega) (fun j hj=>by rcases Nat.lt_succ_iff_lt_or_eq.1 hj with hj | rfl;exact hno j hj;unfold aFM;simp only [ab,ae]<;>rfl) hM rfl))
    | true =>
     refine aAr 9 5 71 [(68,vP bs 0),(69,vI (k:Int)),(70,vI (i:Int))] f0 hM (aCD (hS.fr hM.fr) f (i:=k) (k:=i) (by omega) hi) fun w1 hM=>seg 9 7 [(72,vB ((aAi prof os f).al k i))] f0 ?_
     cases aj:((aAi prof os f).al k i)
     ·refine seg 6 0 [(57,vI ((k:Int)+1))] (fc (aAe (k:Int) 1 u3_) f0) (aAb _ (ai _ (by omega) (k+1) _ (by omega) (fun j hj=>by rcases Nat.lt_succ_iff_lt_or_eq.1 hj with hj | rfl;exact hno j hj;unfold aFM;simp only [ab,ae,aj]<;>rfl) hM rfl))
     refine aAr 10 3 77 [(74,vP bs 0),(75,vI (i:Int)),(76,vI ((t k).getD 0))] f0 hM (aCv (hS.fr hM.fr) hT2 f hi (htg k).1 (by have:=(htg k).2;omega)) fun w1 hM=>seg 11 2 [(19,vI (((aAi prof os f).ps i ((t k).getD 0)).getD 0)),(81,vB ((aAi prof os f).ps i ((t k).getD 0)).isSome)] f0 ?_
     cases au:((aAi prof os f).ps i ((t k).getD 0)).isSome with
     | false =>
      refine seg 6 0 [(57,vI ((k:Int)+1))] (fc (aAe (k:Int) 1 u3_) f0) (aAb _ (ai _ (by omega) (k+1) _ (by omega) (fun j hj=>by rcases Nat.lt_succ_iff_lt_or_eq.1 hj with hj | rfl;exact hno j hj;unfold aFM;simp only [ab,ae,aj,au]<;>rfl) hM rfl))
     | true =>
      refine seg 11 6 [(85,vB ((((aAi prof os f).ps i ((t k).getD 0)).getD 0)==((t i).getD 0)))] f0 ?_
      cases ak:((((aAi prof os f).ps i ((t k).getD 0)).getD 0)==((t i).getD 0))
      ·have a4:=ef ak
       refine seg 6 0 [(57,vI ((k:Int)+1))] (fc (aAe (k:Int) 1 u3_) f0) (aAb _ (ai _ (by omega) (k+1) _ (by omega) (fun j hj=>by rcases Nat.lt_succ_iff_lt_or_eq.1 hj with hj | rfl;exact hno j hj;unfold aFM;simp only [ab,ae,aj,au,ak]<;>rfl) hM rfl))
      have a4:=et ak
      have hb:aC6 (aAi prof os f) m0 t i=some k:=by
        unfold aC6;rw [hA];exact aID hno (by show k<(AS os).length;omega) (by unfold aFM;simp only [ae,aj,au,ak]<;>rfl)
      exact rt2 10 11 (vI (k:Int)) (vB true) rfl rfl f0 (hΦ _ _ ⟨by rw [hb];rfl,hM.fr⟩)
   exact aAb _ (a2 _ 0 _ (Nat.zero_le _) (fun j hj=>absurd hj (Nat.not_lt_zero _)) hM rfl)
  | true =>
   refine seg 3 14 [(47,vB (a.1==f))] (fc (ld0 75 hM (bx hS.blk 1 rfl)) (fc (ix 75 ca qq (gl ha)) (fc (ld0 9 hM (ra 0 _ rfl)) (fc (seq 9 a.1 f) f0)))) ?_
   cases av:(a.1==f)
   ·have hA:aN4 (aAi prof os f) m0 t i=false:=by unfold aN4;simp only [hst,ah,av]<;>rfl
    refine seg 6 0 [(56,vI ((AS os).length:Int)),(57,vI 0)] (fc (ld0 75 hM (bx hS.blk 1 rfl)) f0) ?_
    have a5:∀ (az:Nat) (k:Nat) (w2:World),k≤(AS os).length→(∀ j,j<k→aFM (aAi prof os f) t i j=false)→Mm (fun _=>False) w w2 [bk aa #[.map (some b)] 73]→az=(AS os).length-k→A32 Φ (some (6,0)) [(57,vI (k:Int)),(56,vI ((AS os).length:Int)),(12,vI ((t i).getD 0)),(6,vP aa 0),(0,vP bs 0),(4,vI (i:Int))] w2:=by
     refine aAG fun az am k w2 hk hno hM be=>seg 6 1 [(58,vB (decide ((k:Int)<((AS os).length:Int))))] f0 ?_
     cases ac:(decide ((k:Int)<((AS os).length:Int)))
     ·have a6:=df ac
      have hb:aC6 (aAi prof os f) m0 t i=none:=by
        unfold aC6;rw [hA];exact aGJ hno (by show (AS os).length≤k;omega)
      exact rt2 10 11 (vI 0) (vB false) rfl rfl f0 (hΦ _ _ ⟨by rw [hb];rfl,hM.fr⟩)
     have a6:=dt ac
     refine aAr 8 2 63 [(16,vI (k:Int)),(61,.agg #[.map (some b)]),(62,vI (k:Int))] (fc (lam 73 0 0 1 hM rfl) f0) hM (aBR (hm.fr hM.fr id) (i:=k) (by omega)) fun w1 hM=>seg 9 2 [(17,vI ((t k).getD 0)),(67,vB (t k).isSome)] f0 ?_
     cases af:(t k).isSome with
     | false =>
      refine seg 6 0 [(57,vI ((k:Int)+1))] (fc (aAe (k:Int) 1 u3_) f0) (aAb _ (am _ (by omega) (k+1) _ (by omega) (fun j hj=>by rcases Nat.lt_succ_iff_lt_or_eq.1 hj with hj | rfl;exact hno j hj;unfold aFM;simp only [ac,af]<;>rfl) hM rfl))
     | true =>
      refine aAr 9 5 71 [(68,vP bs 0),(69,vI (k:Int)),(70,vI (i:Int))] f0 hM (aCD (hS.fr hM.fr) f (i:=k) (k:=i) (by omega) hi) fun w1 hM=>seg 9 7 [(72,vB ((aAi prof os f).al k i))] f0 ?_
      cases an:((aAi prof os f).al k i)
      ·refine seg 6 0 [(57,vI ((k:Int)+1))] (fc (aAe (k:Int) 1 u3_) f0) (aAb _ (am _ (by omega) (k+1) _ (by omega) (fun j hj=>by rcases Nat.lt_succ_iff_lt_or_eq.1 hj with hj | rfl;exact hno j hj;unfold aFM;simp only [ac,af,an]<;>rfl) hM rfl))
      refine aAr 10 3 77 [(74,vP bs 0),(75,vI (i:Int)),(76,vI ((t k).getD 0))] f0 hM (aCv (hS.fr hM.fr) hT2 f hi (htg k).1 (by have:=(htg k).2;omega)) fun w1 hM=>seg 11 2 [(19,vI (((aAi prof os f).ps i ((t k).getD 0)).getD 0)),(81,vB ((aAi prof os f).ps i ((t k).getD 0)).isSome)] f0 ?_
      cases aw:((aAi prof os f).ps i ((t k).getD 0)).isSome with
      | false =>
       refine seg 6 0 [(57,vI ((k:Int)+1))] (fc (aAe (k:Int) 1 u3_) f0) (aAb _ (am _ (by omega) (k+1) _ (by omega) (fun j hj=>by rcases Nat.lt_succ_iff_lt_or_eq.1 hj with hj | rfl;exact hno j hj;unfold aFM;simp only [ac,af,an,aw]<;>rfl) hM rfl))
      | true =>
       refine seg 11 6 [(85,vB ((((aAi prof os f).ps i ((t k).getD 0)).getD 0)==((t i).getD 0)))] f0 ?_
       cases ao:((((aAi prof os f).ps i ((t k).getD 0)).getD 0)==((t i).getD 0))
       ·have a7:=ef ao
        refine seg 6 0 [(57,vI ((k:Int)+1))] (fc (aAe (k:Int) 1 u3_) f0) (aAb _ (am _ (by omega) (k+1) _ (by omega) (fun j hj=>by rcases Nat.lt_succ_iff_lt_or_eq.1 hj with hj | rfl;exact hno j hj;unfold aFM;simp only [ac,af,an,aw,ao]<;>rfl) hM rfl))
       have a7:=et ao
       have hb:aC6 (aAi prof os f) m0 t i=some k:=by
         unfold aC6;rw [hA];exact aID hno (by show k<(AS os).length;omega) (by unfold aFM;simp only [af,an,aw,ao]<;>rfl)
       exact rt2 10 11 (vI (k:Int)) (vB true) rfl rfl f0 (hΦ _ _ ⟨by rw [hb];rfl,hM.fr⟩)
    exact aAb _ (a5 _ 0 _ (Nat.zero_le _) (fun j hj=>absurd hj (Nat.not_lt_zero _)) hM rfl)
   refine seg 3 18 [(51,vB ((((aAi prof os f).ps i m0).getD 0)==((t i).getD 0)))] f0 ?_
   cases a0:((((aAi prof os f).ps i m0).getD 0)==((t i).getD 0))
   rotate_left
   ·have hb:aC6 (aAi prof os f) m0 t i=none:=by
      unfold aC6 aN4;simp only [hst,ah,av,a0]<;>rfl
    exact rt2 10 11 (vI 0) (vB false) rfl rfl f0 (hΦ _ _ ⟨by rw [hb];rfl,hM.fr⟩)
   have hA:aN4 (aAi prof os f) m0 t i=false:=by unfold aN4;simp only [hst,ah,av,a0]<;>rfl
   refine seg 6 0 [(56,vI ((AS os).length:Int)),(57,vI 0)] (fc (ld0 75 hM (bx hS.blk 1 rfl)) f0) ?_
   have a8:∀ (a1:Nat) (k:Nat) (w2:World),k≤(AS os).length→(∀ j,j<k→aFM (aAi prof os f) t i j=false)→Mm (fun _=>False) w w2 [bk aa #[.map (some b)] 73]→a1=(AS os).length-k→A32 Φ (some (6,0)) [(57,vI (k:Int)),(56,vI ((AS os).length:Int)),(12,vI ((t i).getD 0)),(6,vP aa 0),(0,vP bs 0),(4,vI (i:Int))] w2:=by
    refine aAG fun a1 ap k w2 hk hno hM bf=>seg 6 1 [(58,vB (decide ((k:Int)<((AS os).length:Int))))] f0 ?_
    cases ad:(decide ((k:Int)<((AS os).length:Int)))
    ·have ba:=df ad
     have hb:aC6 (aAi prof os f) m0 t i=none:=by
       unfold aC6;rw [hA];exact aGJ hno (by show (AS os).length≤k;omega)
     exact rt2 10 11 (vI 0) (vB false) rfl rfl f0 (hΦ _ _ ⟨by rw [hb];rfl,hM.fr⟩)
    have ba:=dt ad
    refine aAr 8 2 63 [(16,vI (k:Int)),(61,.agg #[.map (some b)]),(62,vI (k:Int))] (fc (lam 73 0 0 1 hM rfl) f0) hM (aBR (hm.fr hM.fr id) (i:=k) (by omega)) fun w1 hM=>seg 9 2 [(17,vI ((t k).getD 0)),(67,vB (t k).isSome)] f0 ?_
    cases ag:(t k).isSome with
    | false =>
     refine seg 6 0 [(57,vI ((k:Int)+1))] (fc (aAe (k:Int) 1 u3_) f0) (aAb _ (ap _ (by omega) (k+1) _ (by omega) (fun j hj=>by rcases Nat.lt_succ_iff_lt_or_eq.1 hj with hj | rfl;exact hno j hj;unfold aFM;simp only [ad,ag]<;>rfl) hM rfl))
    | true =>
     refine aAr 9 5 71 [(68,vP bs 0),(69,vI (k:Int)),(70,vI (i:Int))] f0 hM (aCD (hS.fr hM.fr) f (i:=k) (k:=i) (by omega) hi) fun w1 hM=>seg 9 7 [(72,vB ((aAi prof os f).al k i))] f0 ?_
     cases aq:((aAi prof os f).al k i)
     ·refine seg 6 0 [(57,vI ((k:Int)+1))] (fc (aAe (k:Int) 1 u3_) f0) (aAb _ (ap _ (by omega) (k+1) _ (by omega) (fun j hj=>by rcases Nat.lt_succ_iff_lt_or_eq.1 hj with hj | rfl;exact hno j hj;unfold aFM;simp only [ad,ag,aq]<;>rfl) hM rfl))
     refine aAr 10 3 77 [(74,vP bs 0),(75,vI (i:Int)),(76,vI ((t k).getD 0))] f0 hM (aCv (hS.fr hM.fr) hT2 f hi (htg k).1 (by have:=(htg k).2;omega)) fun w1 hM=>seg 11 2 [(19,vI (((aAi prof os f).ps i ((t k).getD 0)).getD 0)),(81,vB ((aAi prof os f).ps i ((t k).getD 0)).isSome)] f0 ?_
     cases ax:((aAi prof os f).ps i ((t k).getD 0)).isSome with
     | false =>
      refine seg 6 0 [(57,vI ((k:Int)+1))] (fc (aAe (k:Int) 1 u3_) f0) (aAb _ (ap _ (by omega) (k+1) _ (by omega) (fun j hj=>by rcases Nat.lt_succ_iff_lt_or_eq.1 hj with hj | rfl;exact hno j hj;unfold aFM;simp only [ad,ag,aq,ax]<;>rfl) hM rfl))
     | true =>
      refine seg 11 6 [(85,vB ((((aAi prof os f).ps i ((t k).getD 0)).getD 0)==((t i).getD 0)))] f0 ?_
      cases ar:((((aAi prof os f).ps i ((t k).getD 0)).getD 0)==((t i).getD 0))
      ·have bc:=ef ar
       refine seg 6 0 [(57,vI ((k:Int)+1))] (fc (aAe (k:Int) 1 u3_) f0) (aAb _ (ap _ (by omega) (k+1) _ (by omega) (fun j hj=>by rcases Nat.lt_succ_iff_lt_or_eq.1 hj with hj | rfl;exact hno j hj;unfold aFM;simp only [ad,ag,aq,ax,ar]<;>rfl) hM rfl))
      have bc:=et ar
      have hb:aC6 (aAi prof os f) m0 t i=some k:=by
        unfold aC6;rw [hA];exact aID hno (by show k<(AS os).length;omega) (by unfold aFM;simp only [ag,aq,ax,ar]<;>rfl)
      exact rt2 10 11 (vI (k:Int)) (vB true) rfl rfl f0 (hΦ _ _ ⟨by rw [hb];rfl,hM.fr⟩)
   exact aAb _ (a8 _ 0 _ (Nat.zero_le _) (fun j hj=>absurd hj (Nat.not_lt_zero _)) hM rfl)
def aR8 (os:List ObR) (id:Bys):Int:=match os[(aAm (aAa os) id).toNat]? with
  | some b=>b.o.kind
  | none=>0
def aEO (os:List ObR) (id:Bys):Bool := !(aR8 os id==1)
theorem aT4 {w:World}{b:Nat}{cs:Array Value}{T:TypeId}(h:w.heap[b]?=some (.cells cs T (0,0))):w.rangeAt b 0 cs.toList:=fun j u hu=>by
  rw [aA0 h,Nat.zero_add];simpa using hu
def aFh (os:List ObR) (prof:Bys) (m0:Int) (ids:List Bys):Int :=
  bif !(aAd (aAa os))||(!(aA2 prof)||(decide (m0<0)||decide (9999999<m0))) then 1
  else bif ids.any (fun id=>decide (aAm (aAa os) id<0)) then 11
  else bif ids.any (aEO os) then 13 else 0
theorem aDj {l:List Ob}{id:Bys}(h:¬ aAm l id<0):∃ k o,aAm l id=((k:Nat):Int)∧l[k]?=some o∧o.id=id:=by
  unfold aAm at h ⊢
  cases e:l.findIdx? (fun o=>o.id==id) with
  | none=>rw [e] at h;exact absurd (by decide) h
  | some k =>
    obtain ⟨h1,h2,h3⟩:=List.findIdx?_eq_some_iff_getElem.1 e
    exact ⟨k,l[k],rfl,List.getElem?_eq_getElem h1,by simpa using h2⟩
theorem aNz {w:World}{c4:Nat}{v:Value}{os:List ObR}(hm:aCp w v os) {id:Bys}(hf:¬ aAm (aAa os) id<0) (hc4:w.heap[c4]?=some (.cells #[v] 24 (0,0))):Calls Tryz.prog 55 #[vS id,vP c4 0] w fun e w'=>e = .returned (vB (aEO os id))∧Fr (fun _=>False) w w':=by
  have hm0:=hm;obtain ⟨hs0,hob⟩:=hm0
  obtain ⟨p0,cp0,hp0,sp0⟩:=hs0.op
  subst hp0
  obtain ⟨k,o9,hk,hk2,hk3⟩:=aDj hf
  have hkl:k<os.length:=by rw [←aA1];exact gl hk2
  refine beg Tryz.func55 rfl rfl [(0,vS id),(1,vP c4 0)] rfl rfl fun Φ hΦ=>?_
  have hM:=Mm.nil (fun _=>False) w
  refine seg 1 0 [] f0 ?_
  obtain ⟨y,hy,ac,ad,aa,ab⟩:=sp0.el (i:=k) (by omega)
  refine drc [(3,vB (!(y.o.kind==1)))] hM (fun w5 hM=>(fc (ld0 22 hM (bx hc4 0 rfl)) (fc (la0 24 hM (aT4 hc4)) (fc (tcl (aHI (hm.fr hM.fr) id)) (fc (ix 22 cp0 aa (gl hy) (z:=(aAm (aAa os) id)) (hz:=hk)) (fc (ld0 3 hM (ab 1 _ rfl)) f0)))))) fun w5 hM=>rt1 3 (vB (!(y.o.kind==1))) rfl f0 (hΦ _ _ ⟨by unfold aEO aR8;rw [hk];simp only [Int.toNat_natCast,hy],hM.fr⟩)
abbrev A28 (Φ:Ending→World→Prop):=AtO Tryz.prog (aAf Tryz.f28) (aAo (bodyPost Tryz.prog Tryz.f28 Φ)) [] 41
theorem aFa {w:World}{v:Value}{os:List ObR}(hm:aCp w v os) {prof:Bys}(hp63:prof.length≤9223372036854775807) (m0:Int) {pi:Option Addr}{ci:Nat}{ids:List Bys}(hids:SrcP stL 1 w pi ci ids):Calls Tryz.prog 28 #[.agg #[v],vS prof,vI m0,vL pi ids.length ci] w fun e w'=>e = .returned (vI (aFh os prof m0 ids))∧Fr (fun _=>False) w w':=by
  have hm0:=hm;obtain ⟨hs0,hob⟩:=hm0
  obtain ⟨p0,cp0,hp0,sp0⟩:=hs0.op
  subst hp0
  have bi:=hids.bnd
  refine beg Tryz.func28 rfl rfl [(0,.agg #[vL p0 os.length cp0]),(1,vS prof),(2,vI m0),(3,vL pi ids.length ci)] rfl rfl fun Φ hΦ=>?_
  have hM:=Mm.nil (fun _=>False) w
  refine aAq 0 0 4 [] (cs:=#[vL p0 os.length cp0]) (T:=24) (v:=fun b=>vP b 0) f0 hM fun ae w1 hM=>aAr 1 1 12 [(11,.agg #[vL p0 os.length cp0])] (fc (lam 24 0 0 1 hM rfl) f0) hM (aEg (hm.fr hM.fr)) fun w1 hM=>seg 1 4 [(14,vB (!(aAd (aAa os))))] f0 ?_
  cases aa:(aAd (aAa os))
  ·exact rt1 8 (vI 1) rfl f0 (hΦ _ _ ⟨by unfold aFh;simp only [aa]<;>rfl,hM.fr⟩)
  refine aAr 1 5 16 [(15,vS prof)] f0 hM (aBj hp63 _) fun w1 hM=>seg 1 9 [(19,vB (!(aA2 prof)))] f0 ?_
  cases ab:(aA2 prof)
  ·exact rt1 8 (vI 1) rfl f0 (hΦ _ _ ⟨by unfold aFh;simp only [aa,ab]<;>rfl,hM.fr⟩)
  refine seg 1 13 [(23,vB (decide (m0<0)))] f0 ?_
  cases ac:(decide (m0<0))
  rotate_left
  ·exact rt1 8 (vI 1) rfl f0 (hΦ _ _ ⟨by unfold aFh;simp only [aa,ab,ac]<;>rfl,hM.fr⟩)
  refine seg 1 16 [(26,vB (decide (9999999<m0)))] f0 ?_
  cases ad:(decide (9999999<m0))
  rotate_left
  ·exact rt1 8 (vI 1) rfl f0 (hΦ _ _ ⟨by unfold aFh;simp only [aa,ab,ac,ad]<;>rfl,hM.fr⟩)
  refine seg 4 0 [(27,vL pi ids.length ci),(28,vI (ids.length:Int)),(29,vI 0)] f0 ?_
  have aj:∀ (af:Nat) (j:Nat) (w2:World),j≤ids.length→(ids.take j).any (fun id=>decide (aAm (aAa os) id<0))=false→Mm (fun _=>False) w w2 [bk ae #[vL p0 os.length cp0] 24]→af=ids.length-j→A28 Φ (some (4,0)) [(29,vI (j:Int)),(28,vI (ids.length:Int)),(27,vL pi ids.length ci),(4,vP ae 0),(3,vL pi ids.length ci)] w2:=by
   refine aAG fun af ak j w2 hj hno hM ao=>seg 4 1 [(30,vB (decide ((j:Int)<(ids.length:Int))))] f0 ?_
   cases ag:(decide ((j:Int)<(ids.length:Int)))
   ·have al:=df ag
    rw [List.take_of_length_le (by omega)] at hno
    refine aAr 9 2 40 [(38,vL pi ids.length ci),(39,.func (.func 55) #[] #[vP ae 0])] f0 hM (aPS (hids.b hM.fr) (fun _ h=>h.elim) (enters_of Tryz.func55 (by kernel_rfl) rfl) (aEO os) fun z hz w9 f9=>by rw [aU5];exact aNz ((hm.fr hM.fr).fr f9) (fun h9=>by have:=List.any_eq_false.1 hno z hz;simp [h9] at this) (f9.obj (hM.get 0 rfl) fun h=>h)) fun w1 hM=>?_
    cases ah:(ids.any (aEO os))
    ·exact rt1 8 (vI 0) rfl f0 (hΦ _ _ ⟨by unfold aFh;simp only [aa,ab,ac,ad,ah,hno]<;>rfl,hM.fr⟩)
    exact rt1 8 (vI 13) rfl f0 (hΦ _ _ ⟨by unfold aFh;simp only [aa,ab,ac,ad,ah,hno]<;>rfl,hM.fr⟩)
   have al:=dt ag
   obtain ⟨s,hs,ap,aq,am,an⟩:=hids.el (i:=j) (by omega)
   refine aAr 6 2 35 [(33,.agg #[vL p0 os.length cp0]),(34,vS s)] (fc (ix 28 ci am (gl hs)) (fc (ld0 9 hM (an 0 _ rfl)) (fc (lam 24 0 0 1 hM rfl) f0))) hM (aHI (hm.fr hM.fr) s) fun w1 hM=>seg 6 4 [(36,vB (decide ((aAm (aAa os) s)<0)))] f0 ?_
   cases ai:(decide ((aAm (aAa os) s)<0))
   ·refine seg 4 0 [(29,vI ((j:Int)+1))] (fc (aAe (j:Int) 1 u3_) f0) (aAb _ (ak _ (by have:=gl hs;omega) (j+1) _ (gl hs) (by rw [gt_ hs,List.any_append,hno];simp only [List.any_cons,List.any_nil,ai];rfl) hM rfl))
   have hAll:ids.any (fun id=>decide (aAm (aAa os) id<0))=true:=List.any_eq_true.2 ⟨s,gm hs,ai⟩
   exact rt1 8 (vI 11) rfl f0 (hΦ _ _ ⟨by unfold aFh;simp only [aa,ab,ac,ad,hAll]<;>rfl,hM.fr⟩)
  exact aAb _ (aj _ 0 _ (Nat.zero_le _) rfl hM rfl)
theorem stT:ElT Tryz.prog stL 1 28 9:=⟨fun _=>rfl,by decide,fun x u hu=>by
  unfold stL at hu
  rw [List.mem_singleton] at hu
  subst hu;rfl,Tryz.underlying28,aBL (by kernel_rfl)⟩
def aUG {α:Type}(X:List α) (i:Nat) (X':List α):Prop:=X'.length=X.length∧∀ p,p<X.length→X'[p]?=if p<i∨X.length-1-i<p then X[X.length-1-p]? else X[p]?
theorem aUG.zero {α:Type}(X:List α):aUG X 0 X:=⟨rfl,fun p hp=>by rw [if_neg (by omega)]⟩
theorem aUG.step {α:Type}{X X':List α}{i:Nat}{x y:α}(h:aUG X i X') (hi:i<X.length-1-i) (hx:X'[i]?=some x) (hy:X'[X.length-1-i]?=some y):aUG X (i+1) ((X'.set i y).set (X.length-1-i) x):=by
  obtain ⟨h1,h2⟩:=h
  have e1:=h2 i (by omega)
  rw [if_neg (by omega),hx] at e1
  have e2:=h2 (X.length-1-i) (by omega)
  rw [if_neg (by omega),hy] at e2
  refine ⟨by simp [h1],fun p hp=>?_⟩
  rw [List.getElem?_set,List.getElem?_set]
  by_cases hp1:X.length-1-i=p
  · subst hp1
    rw [if_pos rfl,if_pos (by simp [h1];omega),if_pos (by omega),show X.length-1-(X.length-1-i)=i by omega];exact e1
  · rw [if_neg hp1]
    by_cases hp2:i=p
    · subst hp2
      rw [if_pos rfl,if_pos (by omega),if_pos (by omega)];exact e2
    · rw [if_neg hp2,h2 p hp]
      by_cases hc:p<i∨X.length-1-i<p
      · rw [if_pos hc,if_pos (by omega)]
      · rw [if_neg hc,if_neg (by omega)]
theorem aUG.fin {α:Type}{X X':List α}{i:Nat}(h:aUG X i X') (hi:X.length≤2*i+1) (hi2:2*i≤X.length+1):X'=X.reverse:=by
  obtain ⟨h1,h2⟩:=h
  refine List.ext_getElem? fun p=>?_
  rcases Nat.lt_or_ge p X.length with hp | hp
  · rw [h2 p hp,List.getElem?_reverse hp]
    by_cases hc:p<i∨X.length-1-i<p
    · rw [if_pos hc]
    · rw [if_neg hc]
      congr 1
      omega
  · rw [List.getElem?_eq_none (by omega),List.getElem?_eq_none (by simpa using hp)]
abbrev A33 (Φ:Ending→World→Prop):=AtO Tryz.prog (aAf Tryz.f33) (aAo (bodyPost Tryz.prog Tryz.f33 Φ)) [] 28
theorem aMY {w:World}{G:Nat→Prop}{p:Option Addr}{c:Nat}{X:List Bys}(hM0:Mm G w w [rw_ stL 1 9 (vL p X.length c) X]):Calls Tryz.prog 33 #[vL p X.length c] w fun e w'=>∃ (u:Value) (Mn:List Ent),e = .returned u∧(u = .tuple #[]∧Mn=[rw_ stL 1 9 (vL p X.length c) X.reverse])∧Mm G w w' Mn:=by
  have bX:=((hM0.src (j:=0) rfl stT.len).p).2.bnd
  refine beg Tryz.func33 rfl rfl [(0,vL p X.length c)] rfl rfl fun Φ hΦ=>?_
  have hM:=hM0
  refine seg 1 0 [(2,vI 0),(3,vI ((X.length:Int)-1))] (fc (aBq (X.length:Int) 1 u3_) f0) ?_
  have ae:∀ (ac:Nat) (i:Nat) (z:Int) (X1:List Bys) (w2:World),aUG X i X1→z=(X.length:Int)-1-(i:Int)→2*i≤X.length+1→Mm G w w2 [rw_ stL 1 9 (vL p X.length c) X1]→ac=X.length-i→A33 Φ (some (1,0)) [(3,vI z),(2,vI (i:Int)),(0,vL p X.length c)] w2:=by
   refine aAG fun ac af i z X1 w2 hr hz hi hM ai=>seg 1 3 [(9,vB (decide ((i:Int)<z)))] f0 ?_
   cases ad:(decide ((i:Int)<z))
   ·have ag:=df ad
    have hR:=hr.fin (by omega) hi
    subst hR
    exact rt0 rfl f0 (hΦ _ _ ⟨_,_,rfl,⟨rfl,rfl⟩,hM⟩)
   have ag:=dt ad
   have hl1:=hr.1
   obtain ⟨x,hx⟩:=geb (l:=X1) (i:=i) (by omega)
   obtain ⟨y,hy⟩:=geb (l:=X1) (i:=X.length-1-i) (by omega)
   refine seg 3 0 [] f0 ?_
   obtain ⟨aj,aa,-⟩:=hM.el stT (j:=0) rfl hy
   obtain ⟨ak,ab,-⟩:=hM.el stT (j:=0) rfl hx
   obtain ⟨al,ah⟩:=geb (l:=(X1.set i y)) (i:=(X.length-1-i)) (by simp only [List.length_set];omega)
   refine drx [7,11,13,15] (fun γ=>[some (vS y),some (vS x),none,none]) _ (fun γ l=>[rw_ stL 1 9 (vL p X.length c) (bif l.getD 3 false then ((X1.set i y).set (X.length-1-i) x) else (bif l.getD 2 false then (X1.set i y) else X1))]) (fun γ=>[]) hM (fun γ=>rfl) (fun γ l w5 hM=>(fc (ix 28 c aa (show (X.length-1-i)<X.length by omega) (z:=z) (hz:=(by omega))) (fc (ix 28 c ab (show i<X.length by omega)) (fc (ix 28 c ab (show i<X.length by omega)) (fc (ix 28 c aa (show (X.length-1-i)<X.length by omega) (z:=z) (hz:=(by omega))) f0))))) ⟨aKh (m:=X.length) (cap:=c) 0 7 9 0 0 (X.length-1-i) 21 X1 (fun γ=>vS y) stT aa hy (fun γ=>rfl),aKh (m:=X.length) (cap:=c) 1 11 9 0 0 i 25 X1 (fun γ=>vS x) stT ab hx (fun γ=>rfl),aGZ (m:=X.length) (cap:=c) 2 13 9 0 0 i X1 y (fun γ=>vS y) stT ab hx (fun γ=>rfl),aGZ (m:=X.length) (cap:=c) 3 15 9 0 0 (X.length-1-i) (X1.set i y) x (fun γ=>vS x) stT aa ah (fun γ=>rfl),trivial⟩ fun am w1 hM=>?_
   replace hM:Mm G w w1 [_]:=hM
   refine seg 1 0 [(2,vI ((i:Int)+1)),(3,vI (z-1))] (fc (aAe (i:Int) 1 u3_) (fc (aBq z 1 u3_) f0)) (aAb _ (af _ (by omega) (i+1) (z-1) ((X1.set i y).set (X.length-1-i) x) _ (hr.step (by omega) hx hy) (by omega) (by omega) hM rfl))
  exact aAb _ (ae _ 0 ((X.length:Int)-1) X _ (aUG.zero X) (by omega) (Nat.zero_le _) hM rfl)
abbrev A34 (Φ:Ending→World→Prop):=AtO Tryz.prog (aAf Tryz.f34) (aAo (bodyPost Tryz.prog Tryz.f34 Φ)) [] 28
theorem aMZ {w:World}{G:Nat→Prop}{p:Option Addr}{c:Nat}{X:List Int}(hM0:Mm G w w [rw_ inL 1 3 (vL p X.length c) X]):Calls Tryz.prog 34 #[vL p X.length c] w fun e w'=>∃ (u:Value) (Mn:List Ent),e = .returned u∧(u = .tuple #[]∧Mn=[rw_ inL 1 3 (vL p X.length c) X.reverse])∧Mm G w w' Mn:=by
  have bX:=((hM0.src (j:=0) rfl inT.len).p).2.bnd
  refine beg Tryz.func34 rfl rfl [(0,vL p X.length c)] rfl rfl fun Φ hΦ=>?_
  have hM:=hM0
  refine seg 1 0 [(2,vI 0),(3,vI ((X.length:Int)-1))] (fc (aBq (X.length:Int) 1 u3_) f0) ?_
  have ae:∀ (ac:Nat) (i:Nat) (z:Int) (X1:List Int) (w2:World),aUG X i X1→z=(X.length:Int)-1-(i:Int)→2*i≤X.length+1→Mm G w w2 [rw_ inL 1 3 (vL p X.length c) X1]→ac=X.length-i→A34 Φ (some (1,0)) [(3,vI z),(2,vI (i:Int)),(0,vL p X.length c)] w2:=by
   refine aAG fun ac af i z X1 w2 hr hz hi hM ai=>seg 1 3 [(9,vB (decide ((i:Int)<z)))] f0 ?_
   cases ad:(decide ((i:Int)<z))
   ·have ag:=df ad
    have hR:=hr.fin (by omega) hi
    subst hR
    exact rt0 rfl f0 (hΦ _ _ ⟨_,_,rfl,⟨rfl,rfl⟩,hM⟩)
   have ag:=dt ad
   have hl1:=hr.1
   obtain ⟨x,hx⟩:=geb (l:=X1) (i:=i) (by omega)
   obtain ⟨y,hy⟩:=geb (l:=X1) (i:=X.length-1-i) (by omega)
   refine seg 3 0 [] f0 ?_
   obtain ⟨aj,aa,-⟩:=hM.el inT (j:=0) rfl hy
   obtain ⟨ak,ab,-⟩:=hM.el inT (j:=0) rfl hx
   obtain ⟨al,ah⟩:=geb (l:=(X1.set i y)) (i:=(X.length-1-i)) (by simp only [List.length_set];omega)
   refine drx [7,11,13,15] (fun γ=>[some (vI y),some (vI x),none,none]) _ (fun γ l=>[rw_ inL 1 3 (vL p X.length c) (bif l.getD 3 false then ((X1.set i y).set (X.length-1-i) x) else (bif l.getD 2 false then (X1.set i y) else X1))]) (fun γ=>[]) hM (fun γ=>rfl) (fun γ l w5 hM=>(fc (ix 29 c aa (show (X.length-1-i)<X.length by omega) (z:=z) (hz:=(by omega))) (fc (ix 29 c ab (show i<X.length by omega)) (fc (ix 29 c ab (show i<X.length by omega)) (fc (ix 29 c aa (show (X.length-1-i)<X.length by omega) (z:=z) (hz:=(by omega))) f0))))) ⟨aKh (m:=X.length) (cap:=c) 0 7 3 0 0 (X.length-1-i) 21 X1 (fun γ=>vI y) inT aa hy (fun γ=>rfl),aKh (m:=X.length) (cap:=c) 1 11 3 0 0 i 25 X1 (fun γ=>vI x) inT ab hx (fun γ=>rfl),aGZ (m:=X.length) (cap:=c) 2 13 3 0 0 i X1 y (fun γ=>vI y) inT ab hx (fun γ=>rfl),aGZ (m:=X.length) (cap:=c) 3 15 3 0 0 (X.length-1-i) (X1.set i y) x (fun γ=>vI x) inT aa ah (fun γ=>rfl),trivial⟩ fun am w1 hM=>?_
   replace hM:Mm G w w1 [_]:=hM
   refine seg 1 0 [(2,vI ((i:Int)+1)),(3,vI (z-1))] (fc (aAe (i:Int) 1 u3_) (fc (aBq z 1 u3_) f0)) (aAb _ (af _ (by omega) (i+1) (z-1) ((X1.set i y).set (X.length-1-i) x) _ (hr.step (by omega) hx hy) (by omega) (by omega) hM rfl))
  exact aAb _ (ae _ 0 ((X.length:Int)-1) X _ (aUG.zero X) (by omega) (Nat.zero_le _) hM rfl)
theorem aWa {P:Program}{B:Code}{fn:Func}{Φ:Ending→World→Prop}{n:Nat}{p:Option (Nat×Nat)}{L:Frm}{w:World}{F:List Ft}(t T t2:Nat) {g:Nat}{v:Value}(u:Value) (hr:fn.results=#[.cell t T,.tmp t2]) (hn:(t==t2)=false) (hv:(Instr.loadAt T (vP g 0)).run P w = .ok v w) (hF:aAP P w F) (k:Φ (.returned (.tuple #[v,u])) w) (h:aNG (go P w n B p L 1000000 0 F) [(t,vP g 0),(t2,u)] L=aLc (go P w n B p L 1000000 0 F) [(t,vP g 0),(t2,u)]:=by kernel_rfl):AtO P B (aAo (bodyPost P fn Φ)) [] n p L w :=
 aNF [(t,vP g 0),(t2,u)] hF h fun a E=>by
  have hv':a.eval (.tmp t)=vP g 0:=E.at_ t _ (by simp [Go.Pl.look])
  have hu':a.eval (.tmp t2)=u:=E.at_ t2 _ (by simp [Go.Pl.look,hn])
  have key:∃ u,(results fn a.tmps).run P w = .ok u w∧Φ (.returned u) w:=⟨.tuple #[v,u],by
   have hl:a.tmps.getD t undef=vP g 0:=hv'
   have hl2:a.tmps.getD t2 undef=u:=hu'
   simp only [Instr.loadAt,Instr.sureAddr,Sem.run_bind,Sem.run_pure,Result.andThen_ok] at hv
   have hl':a.tmps[t]?.getD undef=vP g 0:=by simpa using hl
   have hl2':a.tmps[t2]?.getD undef=u:=by simpa using hl2
   simp [results,hr,hl',hl2',asAddr,hv],k⟩
  exact ⟨⟨E.df,key⟩,⟨E.df,key⟩⟩
theorem aG8 {α:Type}{f:α→List Value}{c E b:Nat}{cs:Array Value}{F0:Nat→Prop}{w0 w:World}{M:List Ent}(h:Mm F0 w0 w M) {j:Nat}(hj:M[j]?=some (bk b cs E)) (L:List α) (n:Nat) (hL:L.flatMap f=cs.toList) (hn:L.length=n) (hc:cs.size=n*c) (hm:n≤9223372036854775807:=by decide):Mm F0 w0 w (M.set j (rw_ f c E (vL (some ⟨b,0,none⟩) n n) L)) :=
 h.put j hj (Fr.refl (fun _=>False) _) (fun _ _ h=>h.elim) (show ow f c E w 0 _ L from by
  refine ⟨by rw [hL,hn];simpa using hc,.inr ⟨b,n,cs,by rw [hn],Nat.zero_le _,h.get j hj,by omega,by unfold maxLen;omega,hc,?_⟩⟩
  rw [hL,hn,←hc]
  exact List.take_of_length_le (by simp)) fun k e => .inl (by
  have e:some b=some k:=e
  exact (Option.some.inj e).symm)
theorem aB3 {α:Type}{f:α→List Value}{c:Nat}{w:World}{b:Nat}{cs:Array Value}{T:TypeId}(hb:w.heap[b]?=some (.cells cs T (0,0))) (L:List α) (n:Nat) (hf:∀ x,(f x).length=c) (hL:L.flatMap f=cs.toList) (hn:L.length=n) (hm:n≤9223372036854775807:=by decide):SrcP f c w (some ⟨b,0,none⟩) n L :=
 ⟨by omega,hm,.inr ⟨b,0,rfl,aAj hb,fun i y hy j u hu=>by
  have hi:=(List.getElem?_eq_some_iff.1 hu).1
  rw [hf] at hi
  rw [aA0 hb,Nat.zero_add]
  have:=aDi hf L i y hy j hi
  rw [hL,hu,Array.getElem?_toList] at this
  exact this⟩,fun h=>by cases h⟩
def aRA (Ms:List Ent):Ent where
 B:=BlM Ms
 H:=fun w=>(∀ e∈Ms,e.H w)∧Ms.Pairwise fun x y=>∀ k,x.B k→¬ y.B k
 lt:=fun h ⟨e,he,hk⟩=>e.lt (h.1 e he) hk
 fr:=fun h f hn=>⟨fun e he=>e.fr (h.1 e he) f fun k hk=>hn k ⟨e,he,hk⟩,h.2⟩
theorem aSP {F0:Nat→Prop}{w0 w:World}{A Ms:List Ent}(h:Mm F0 w0 w (A++Ms)):Mm F0 w0 w (A++[aRA Ms]):=by
 have hnd:=List.pairwise_append.1 h.nd
 refine ⟨h.fr,fun x hx=>?_,fun x hx k hk hl=>?_,?_⟩
 ·rcases List.mem_append.1 hx with hx | hx
  ·exact h.at_ x (List.mem_append_left _ hx)
  ·rw [List.mem_singleton] at hx
   subst hx
   exact ⟨fun e he=>h.at_ e (List.mem_append_right _ he),hnd.2.1⟩
 ·rcases List.mem_append.1 hx with hx | hx
  ·exact h.own x (List.mem_append_left _ hx) k hk hl
  ·rw [List.mem_singleton] at hx
   subst hx
   obtain ⟨e,he,hk⟩:=hk
   exact h.own e (List.mem_append_right _ he) k hk hl
 ·refine List.pairwise_append.2 ⟨hnd.1,List.pairwise_singleton _ _,fun x hx y hy k hxk hyk=>?_⟩
  rw [List.mem_singleton] at hy
  subst hy
  obtain ⟨e,he,hk⟩:=hyk
  exact hnd.2.2 x hx e he k hxk hk
theorem aDo {F0 G:Nat→Prop}{w0 w:World}{M:List Ent}(h:Mm F0 w0 w M) (hG:∀ k,F0 k→G k):Mm G w0 w M:=⟨h.fr.mono fun r _ h=>hG r h,h.at_,fun e he k hk hl=>hG k (h.own e he k hk hl),h.nd⟩
noncomputable abbrev stR (bo br bb no nr nb:Nat) (prof:Bys) (os:List ObR) (T:aE7) (T2:RdT):List Ent :=
 [mp Tryz.prog 9 bo no (aC9 T),aAB inL 1 3 (T.map (·.2)),mp Tryz.prog 9 br nr (rdF prof T2),aAB spL 2 141 (hrB T2),mp Tryz.prog 114 bb nb (setT (aBY prof os))]
theorem aOw {F0:Nat→Prop}{w0 w wV:World}{M:List Ent}{bs ca bo br bb no nr nb:Nat}{qa:Option Addr}{prof:Bys}{v:Value}{os:List ObR}{T:aE7}{T2:RdT}(h:Mm F0 w0 w M) {i j k:Nat}(hi:M[i]?=some (bk bs #[vS prof,vL qa (AS os).length ca,.map (some bo),.map (some br),.map (some bb)] 80)) (hj:M[j]?=some (rw_ arL 4 47 (vL qa (AS os).length ca) (AS os))) (hk:M[k]?=some (aRA (stR bo br bb no nr nb prof os T T2))) (hm:aCp wV v os) (hf:Fr (fun _=>False) wV w) (hT2:T2.map (·.1)=aBN os):StF w bs ca bo br bb no nr nb qa prof os T T2:=by
 obtain ⟨hg,-⟩:=h.get k hk
 have g0:aDs Tryz.prog 9 w bo no (aC9 T):=hg (mp Tryz.prog 9 bo no (aC9 T)) (by simp)
 have g1:=(hg (aAB inL 1 3 (T.map (·.2))) (by simp)).1
 have g2:aDs Tryz.prog 9 w br nr (rdF prof T2):=hg (mp Tryz.prog 9 br nr (rdF prof T2)) (by simp)
 have g3:=(hg (aAB spL 2 141 (hrB T2)) (by simp)).1
 have g4:aDs Tryz.prog 114 w bb nb (setT (aBY prof os)):=hg (mp Tryz.prog 114 bb nb (setT (aBY prof os))) (by simp)
 refine ⟨h.get i hi,((h.src hj arT.len).p).2,g0,fun x hx=>?_,g2,fun x hx=>?_,fun x hx=>?_,g4,fun a ha=>aGX (fun b hb=>(hm.2 b hb).bnd) a (aDF ha)⟩
 ·have:=g1 x.2 (List.mem_map.2 ⟨x,hx,rfl⟩)
  exact ow.src inT.len this
 ·have:=g3 (x.2,aAc x.1.o) (List.mem_map.2 ⟨x,hx,rfl⟩)
  exact ow.src (f:=spL) (c:=2) (fun _=>rfl) this
 ·have h1:x.1∈aBN os:=hT2▸List.mem_map.2 ⟨x,hx,rfl⟩
  unfold aBN at h1
  rw [List.mem_reverse,List.mem_filter] at h1
  exact ((hm.fr hf).2 x.1 h1.1).refs
def aHn (t:Nat→Option Int) (l:Option Nat) (k:Nat):Bool:=match l with
 | none=>true
 | some j=>decide ((t k).getD 0<(t j).getD 0)
def aAM (A:List Arc) (t:Nat→Option Int) (g:Bys):Nat→Option Nat
 | 0=>none
 | k+1=>match A[k]? with
  | some a=>bif (t k).isSome&&(a.2.1==g)&&aHn t (aAM A t g k) k then some k else aAM A t g k
  | none=>aAM A t g k
theorem aBU {A:List Arc}{t:Nat→Option Int}{g:Bys}{k:Nat}{a:Arc}(h:A[k]?=some a):aAM A t g (k+1)=bif (t k).isSome&&(a.2.1==g)&&aHn t (aAM A t g k) k then some k else aAM A t g k:=by
 show (match A[k]? with | some a=>bif (t k).isSome&&(a.2.1==g)&&aHn t (aAM A t g k) k then some k else aAM A t g k | none=>aAM A t g k)=_
 rw [h]
theorem aI7 {A:List Arc}{t:Nat→Option Int}{g:Bys}:∀ {n j:Nat},aAM A t g n=some j→j<n∧j<A.length∧(t j).isSome=true
 | 0,j,h=>by cases h
 | n+1,j,h=>by
  cases ha:A[n]? with
  | none =>
   unfold aAM at h;rw [ha] at h
   have:=aI7 h
   exact ⟨by omega,this.2⟩
  | some a =>
   rw [aBU ha] at h
   cases hc:((t n).isSome&&(a.2.1==g)&&aHn t (aAM A t g n) n) with
   | true =>
    rw [hc] at h;cases h
    simp only [Bool.and_eq_true] at hc
    exact ⟨Nat.lt_succ_self _,gl ha,hc.1.1⟩
   | false =>
    rw [hc] at h
    have:=aI7 h
    exact ⟨by omega,this.2⟩
def bkF (N:NetW) (m0:Int) (t:Nat→Option Int):Nat→Nat→List Nat
 | 0,i=>[i]
 | F+1,i=>i::match aC6 N m0 t i with
  | some k=>bkF N m0 t F k
  | none=>[]
theorem aEd (N:NetW) (m0:Int) (t:Nat→Option Int) (F i:Nat):bkF N m0 t (F+1) i=i::match aC6 N m0 t i with | some k=>bkF N m0 t F k | none=>[]:=rfl
def bkP (N:NetW) (m0:Int) (t:Nat→Option Int) (i:Nat):List Nat:=bkF N m0 t ((t i).getD 0).toNat i
def aNA (N:NetW) (m0:Int) (t:Nat→Option Int):Prop:=∀ i k,i<N.n→aC6 N m0 t i=some k→k<N.n∧(t k).isSome=true∧0≤(t k).getD 0∧(t k).getD 0<(t i).getD 0
theorem aM0 {N:NetW}{B m0:Int}{t:Nat→Option Int}(hN:N.Ok B) (h0:0≤m0) (hT:Tab N m0 t):aNA N m0 t:=by
 intro i k hi h
 unfold aC6 at h
 cases hA:aN4 N m0 t i with
 | true=>rw [hA] at h;cases h
 | false =>
  rw [hA] at h
  have h:(List.range N.n).find? (aFM N t i)=some k:=h
  have h1:=List.find?_some h
  have h2:=List.mem_range.1 (List.mem_of_find?_eq_some h)
  unfold aFM at h1
  simp only [Bool.and_eq_true] at h1
  obtain ⟨⟨h3,h4⟩,h5,h6⟩:=h1
  obtain ⟨m,hm⟩:=Option.isSome_iff_exists.1 h3
  obtain ⟨x,hx⟩:=Option.isSome_iff_exists.1 h5
  have hg:=(hT.snd _ _ hm).ge hN h0
  rw [hm] at hx h6 ⊢
  have hx:N.ps i m=some x:=hx
  have h6:=et h6
  have h6:(N.ps i m).getD 0=(t i).getD 0:=h6
  rw [hx] at h6
  have:=hN.gt hi (by omega) hx
  have h7:x=(t i).getD 0:=h6
  exact ⟨h2,rfl,by show (0:Int)≤m;omega,by show m<_;omega⟩
theorem aPV {N:NetW}{m0:Int}{t:Nat→Option Int}(hB:aNA N m0 t):∀ (F:Nat) (i:Nat),i<N.n→((t i).getD 0).toNat≤F→bkF N m0 t F i=bkP N m0 t i:=by
 intro F
 induction F using Nat.strongRecOn with
 | _ F ih =>
  intro i hi hF
  unfold bkP
  cases F with
  | zero=>rw [show ((t i).getD 0).toNat=0 by omega]
  | succ F =>
   cases hb:aC6 N m0 t i with
   | none =>
    rw [aEd,hb]
    cases ((t i).getD 0).toNat with
    | zero=>rfl
    | succ n=>rw [aEd,hb]
   | some k =>
    obtain ⟨h1,_,h2,h3⟩:=hB i k hi hb
    obtain ⟨n,hn⟩:∃ n,((t i).getD 0).toNat=n+1:=⟨((t i).getD 0).toNat-1,by omega⟩
    rw [hn,aEd,aEd,hb]
    simp only
    rw [ih F (Nat.lt_succ_self _) k h1 (by omega)]
    rcases Nat.lt_or_ge n (F+1) with h | h
    ·rw [ih n h k h1 (by omega)]
    ·have:n=F:=by omega
     rw [this,ih F (Nat.lt_succ_self _) k h1 (by omega)]
theorem aMy {N:NetW}{m0:Int}{t:Nat→Option Int}(hB:aNA N m0 t) {i:Nat}(hi:i<N.n):bkP N m0 t i=i::match aC6 N m0 t i with | some k=>bkP N m0 t k | none=>[]:=by
 rw [←aPV hB (((t i).getD 0).toNat+1) i hi (Nat.le_succ _)]
 rw [aEd]
 cases hb:aC6 N m0 t i with
 | none=>rfl
 | some k =>
  obtain ⟨h1,_,h2,h3⟩:=hB i k hi hb
  show i::bkF N m0 t _ k=_
  rw [aPV hB _ k h1 (by omega)]
theorem aPU (N:NetW) (m0:Int) (t:Nat→Option Int):∀ (F i:Nat),(bkF N m0 t F i).length≤F+1
 | 0,i=>by simp [bkF]
 | F+1,i=>by
  rw [aEd]
  cases aC6 N m0 t i with
  | none=>simp
  | some k=>have:=aPU N m0 t F k;simp only [List.length_cons];omega
theorem aU1 {N:NetW}{m0:Int}{t:Nat→Option Int}{i:Nat}(h:(t i).getD 0≤6000000000):(bkP N m0 t i).length≤6000000001:=by
 have:=aPU N m0 t ((t i).getD 0).toNat i
 unfold bkP;omega
def toN (A:List Arc) (j:Nat):Bys:=match A[j]? with
 | some a=>a.2.1
 | none=>[]
theorem aL1 {A:List Arc}{j:Nat}{a:Arc}(h:A[j]?=some a):toN A j=a.2.1:=by unfold toN;rw [h]
def aQh (prof:Bys) (os:List ObR) (f g:Bys) (m0 c:Int) (nd:List Bys) (mi:List Int):Prop :=
 (¬ aFh os prof m0 [f,g]=0∧c=aFh os prof m0 [f,g]∧nd=[]∧mi=[])∨(aFh os prof m0 [f,g]=0∧f=g∧c=0∧nd=[f]∧mi=[m0]) ∨
 (aFh os prof m0 [f,g]=0∧f≠g∧∃ t,Tab (aAi prof os f) m0 t∧((aAM (AS os) t g (AS os).length=none∧c=12∧nd=[]∧mi=[]) ∨
  ∃ i,aAM (AS os) t g (AS os).length=some i∧c=0∧nd=((bkP (aAi prof os f) m0 t i).map (toN (AS os))++[f]).reverse∧mi=((bkP (aAi prof os f) m0 t i).map (fun j=>(t j).getD 0)++[m0]).reverse))
theorem aPR {os:List ObR}{prof:Bys}{m0:Int}{ids:List Bys}(h:aFh os prof m0 ids=0):aAd (aAa os)=true∧aA2 prof=true∧0≤m0∧m0≤9999999∧ids.any (fun id=>decide (aAm (aAa os) id<0))=false∧ids.any (aEO os)=false:=by
 unfold aFh at h
 cases h1:(!(aAd (aAa os))||(!(aA2 prof)||(decide (m0<0)||decide (9999999<m0)))) with
 | true=>rw [h1] at h;cases h
 | false =>
  rw [h1] at h
  simp only [Bool.or_eq_false_iff,Bool.not_eq_false',decide_eq_false_iff_not] at h1
  cases h2:ids.any (fun id=>decide (aAm (aAa os) id<0)) with
  | true=>rw [h2] at h;cases h
  | false =>
   rw [h2] at h
   cases h3:ids.any (aEO os) with
   | true=>rw [h3] at h;cases h
   | false=>exact ⟨h1.1,h1.2.1,by omega,by omega,rfl,rfl⟩
def aTY (l:Option Nat):Int:=match l with
  | none => -1
  | some j=>j
def aVO (t:Nat→Option Int) (l:Option Nat):Int:=match l with
  | none=>0
  | some j=>(t j).getD 0
theorem aPx {t:Nat→Option Int}{l:Option Nat}{k:Nat}(h:aTY l<0):aHn t l k=true:=by
  cases l with
  | none=>rfl
  | some j=>have:((j:Nat):Int)<0:=h;omega
theorem aJH {t:Nat→Option Int}{l:Option Nat}{k:Nat}(h:¬ aTY l<0):aHn t l k=decide ((t k).getD 0<aVO t l):=by
  cases l with
  | none=>exact absurd (by decide) h
  | some j=>rfl
theorem aRS {N:NetW}{m0:Int}{t:Nat→Option Int}(hB:aNA N m0 t) {i:Nat}(hi:i<N.n):[i]++(bif (aC6 N m0 t i).isSome then bkP N m0 t ((aC6 N m0 t i).getD 0) else [])=bkP N m0 t i:=by
  rw [aMy hB hi]
  cases aC6 N m0 t i<;>rfl
theorem aMz {N:NetW}{m0:Int}{t:Nat→Option Int}(hB:aNA N m0 t) {i:Nat}(hi:i<N.n):((aC6 N m0 t i).isSome=true→(aC6 N m0 t i).getD 0<N.n∧(t ((aC6 N m0 t i).getD 0)).isSome=true)∧(bif (aC6 N m0 t i).isSome then ((t ((aC6 N m0 t i).getD 0)).getD 0).toNat+1 else 0)<((t i).getD 0).toNat+1:=by
  cases h:aC6 N m0 t i with
  | none=>exact ⟨fun h=>(by cases h),by simp⟩
  | some k =>
    obtain ⟨h1,h2,h3,h4⟩:=hB i k hi h
    exact ⟨fun _=>⟨h1,h2⟩,by show ((t k).getD 0).toNat+1<_;omega⟩
theorem aQF {α:Type}{f:α→List Value}{c:Nat}{w:World}{b:Nat}{x:α}{T:TypeId}(hb:w.heap[b]?=some (.cells (f x).toArray T (0,0))):SrcP f c w (some ⟨b,0,none⟩) 1 [x] :=
  ⟨Nat.le_refl _,by omega,.inr ⟨b,0,rfl,aAj hb,fun i y hy=>by
    cases i with
    | zero =>
      simp only [List.getElem?_cons_zero,Option.some.injEq] at hy
      subst hy
      intro j u hu
      rw [aA0 hb]
      simpa using hu
    | succ i=>simp at hy⟩,fun h=>by cases h⟩
abbrev A12 (Φ:Ending→World→Prop):=AtO Tryz.prog (aAf Tryz.f12) (aAo (bodyPost Tryz.prog Tryz.f12 Φ)) [] 143
theorem aCM {w:World}{v:Value}{os:List ObR}(hmv:aCp w v os) {prof f g:Bys}(hp63:prof.length≤9223372036854775807) (hf63:B63 f) (hlen:aAd (aAa os)=true→(aAv os).length≤240) (hTe:Te w) (m0:Int):Calls Tryz.prog 12 #[.agg #[v],vS prof,vS f,vS g,vI m0] w fun e w'=>∃ v1 v2 c nd mi,e = .returned (.tuple #[.agg #[v1,v2],vI c])∧aQh prof os f g m0 c nd mi∧Mm (fun _=>False) w w' [rw_ stL 1 9 v1 nd,rw_ inL 1 3 v2 mi]:=by
  have hm0:=hmv;obtain ⟨hs0,hob⟩:=hm0
  obtain ⟨p0,cp0,hp0,sp0⟩:=hs0.op
  subst hp0
  refine beg Tryz.func12 rfl rfl [(0,.agg #[vL p0 os.length cp0]),(1,vS prof),(2,vS f),(3,vS g),(4,vI m0)] rfl rfl fun Φ hΦ=>?_
  have hM:=Mm.nil (fun _=>False) w
  refine aAq 0 0 5 [] (cs:=#[vL p0 os.length cp0]) (T:=24) (v:=fun b=>vP b 0) f0 hM fun af w1 hM=>aAq 0 1 10 [] (cs:=#[vL none 0 0,vL none 0 0]) (T:=31) (v:=fun b=>vP b 0) f0 hM fun ad w1 hM=>aAq 1 5 30 [(25,.agg #[vL p0 os.length cp0]),(26,vS prof),(27,vI m0),(28,vS f),(29,vS g)] (cs:=#[vS f,vS g]) (T:=9) (v:=fun b=>vL (some ⟨b,0,none⟩) 2 2) (fc (lam 24 0 0 1 hM rfl) f0) hM fun ag w1 hM=>aAr 1 6 31 [] f0 hM (aFa (hmv.fr hM.fr) hp63 m0 (ids:=[f,g]) (aOy (f:=stL) (c:=1) (fun _=>rfl) (by decide) (hM.get 2 rfl))) fun w1 hM=>seg 2 2 [(12,vI (aFh os prof m0 [f,g])),(33,vB (!((aFh os prof m0 [f,g])==0)))] f0 ?_
  cases ah:((aFh os prof m0 [f,g])==0)
  ·refine stm 3 2 [(34,.agg #[vL none 0 0,vL none 0 0]),(35,vI (aFh os prof m0 [f,g]))] 31 1 0 (.agg #[vL none 0 0,vL none 0 0]) f0 hM rfl fun w1 hM=>?_
   have hl9:=aAk 31 1 (P:=Tryz.prog) (n:=2) hM rfl rfl
   exact aWa 10 31 11 (vI (aFh os prof m0 [f,g])) rfl rfl hl9 f0 (hΦ _ _ ⟨(vL none 0 0),(vL none 0 0),_,[],[],rfl,.inl ⟨ef ah,rfl,rfl,rfl⟩,(hM.pick (M':=[]) []).row.row⟩)
  refine seg 4 3 [(38,vB (f==g))] (fc (seq 9 f g) f0) ?_
  cases am:(f==g)
  rotate_left
  ·refine aAq 5 1 40 [(39,vS f)] (cs:=#[vS f]) (T:=9) (v:=fun b=>vL (some ⟨b,0,none⟩) 1 1) f0 hM fun an w1 hM=>aAq 5 3 42 [(41,vI m0)] (cs:=#[vI m0]) (T:=3) (v:=fun b=>vL (some ⟨b,0,none⟩) 1 1) f0 hM fun ao w1 hM=>stm 5 5 [(43,.agg #[vL (some ⟨an,0,none⟩) 1 1,vL (some ⟨ao,0,none⟩) 1 1])] 31 1 0 (.agg #[vL (some ⟨an,0,none⟩) 1 1,vL (some ⟨ao,0,none⟩) 1 1]) f0 hM rfl fun w1 hM=>?_
   have hl9:=aAk 31 1 (P:=Tryz.prog) (n:=2) hM rfl rfl
   have hM:=aG8 hM (f:=stL) (c:=1) (j:=3) rfl [f] 1 rfl rfl rfl
   have hM:=aG8 hM (f:=inL) (c:=1) (j:=4) rfl [m0] 1 rfl rfl rfl
   exact aWa 10 31 11 (vI 0) rfl rfl hl9 f0 (hΦ _ _ ⟨(vL (some ⟨an,0,none⟩) 1 1),(vL (some ⟨ao,0,none⟩) 1 1),_,[f],[m0],rfl,.inr (.inl ⟨et ah,et am,rfl,rfl,rfl⟩),hM.pick [3,4]⟩)
  have hchk:=et ah
  obtain ⟨hvm,-,h0,h1,hany,hno⟩:=aPR hchk
  have hnn:(AS os).length≤240:=Nat.le_trans (aG2 _) (hlen hvm)
  have hNo:=aFT (prof:=prof) (fun a ha=>aGX (fun b hb=>(hmv.2 b hb).bnd) a (aDF ha):∀ a∈AS os,ArcB a) f
  skip
  refine aAO 6 2 46 [(44,.agg #[vL p0 os.length cp0]),(45,vS prof)] (K:=fun u Mn=>∃ bs ca bo br bb no nr nb qa T T2,u=vP bs 0∧(∀ s,aEr T s=aC0 (AS os) s)∧T2.map (·.1)=aBN os∧Mn=stM bs ca bo br bb no nr nb qa prof os T T2) [0,1,2] [] (fc (lam 24 0 0 1 hM rfl) f0) hM rfl rfl (by decide) (fun hm=>((aF9 (hmv.fr hM.fr) hvm (by have:=hlen hvm;omega) (hTe.fr hM.fr)).mono fun e w8 ⟨bs,ca,bo,br,bb,no,nr,nb,qa,T,T2,h1,_,h2,h3,h4⟩=>⟨_,_,h1,⟨bs,ca,bo,br,bb,no,nr,nb,qa,T,T2,rfl,h2,h3,rfl⟩,aDo h4 fun _ h=>h.elim⟩)) fun u Mn w1 hK hM=>?_
  obtain ⟨bs,ca,bo,br,bb,no,nr,nb,qa,T,T2,rfl,hTr,hT2,rfl⟩:=hK
  have hM:=aSP (A:=[bk af #[vL p0 os.length cp0] 24,bk ad #[vL none 0 0,vL none 0 0] 31,bk ag #[vS f,vS g] 9,bk bs #[vS prof,vL qa (AS os).length ca,.map (some bo),.map (some br),.map (some bb)] 80,rw_ arL 4 47 (vL qa (AS os).length ca) (AS os)]) (Ms:=stR bo br bb no nr nb prof os T T2) hM
  refine aAO 7 3 50 [(13,vP bs 0),(47,vP bs 0),(48,vS f),(49,vI m0)] (K:=fun u Mn=>∃ b n t,u = .agg #[.map (some b)]∧Tab (aAi prof os f) m0 t∧Mn=[tbE b n t]) [0,1,2,3,4,5] [] f0 hM rfl rfl (by decide) (fun hm=>((aEm (aOw hM (i:=3) (j:=4) (k:=5) rfl rfl rfl hmv hM.fr hT2) hT2 hTr hnn hf63 h0 (by omega)).mono fun e w8 ⟨b,n,t,h1,h2,h3⟩=>⟨_,_,h1,⟨b,n,t,rfl,h2,rfl⟩,aDo h3 fun _ h=>h.elim⟩)) fun u Mn w1 hK hM=>?_
  obtain ⟨b,n,t,rfl,hT,rfl⟩:=hK
  have hB:=aM0 hNo h0 hT
  have htb:∀ k m,t k=some m→0≤m∧m≤6000000000:=fun k m e=>⟨by have:=(hT.snd k m e).ge hNo h0;omega,(hT.snd k m e).le hNo h0⟩
  refine aCh 7 4 14 [] [] 73 (.agg #[.map (some b)]) f0 hM fun ae w1 hM=>seg 10 0 [(15,vI (-1)),(16,vI 0),(54,vL qa (AS os).length ca),(55,vI ((AS os).length:Int)),(56,vI 0)] (fc (ldm 75 3 1 hM rfl rfl) f0) ?_
  have az:∀ (aq:Nat) (k:Nat) (lz:Int) (bz:Int) (w2:World),k≤(AS os).length→lz=aTY (aAM (AS os) t g k)→bz=aVO t (aAM (AS os) t g k)→Mm (fun _=>False) w w2 [bk af #[vL p0 os.length cp0] 24,bk ad #[vL none 0 0,vL none 0 0] 31,bk ag #[vS f,vS g] 9,bk bs #[vS prof,vL qa (AS os).length ca,.map (some bo),.map (some br),.map (some bb)] 80,rw_ arL 4 47 (vL qa (AS os).length ca) (AS os),aRA (stR bo br bb no nr nb prof os T T2),mp Tryz.prog 3 b n (aFG t),bk ae #[.map (some b)] 73]→aq=(AS os).length-k→A12 Φ (some (10,0)) [(56,vI (k:Int)),(55,vI ((AS os).length:Int)),(54,vL qa (AS os).length ca),(16,vI bz),(15,vI lz),(14,vP ae 0),(13,vP bs 0),(10,vP ad 0),(2,vS f),(3,vS g),(4,vI m0)] w2:=by
   refine aAG fun aq ai k lz bz w2 hk hlz hbz hM a5=>seg 10 1 [(57,vB (decide ((k:Int)<((AS os).length:Int))))] f0 ?_
   cases ar:(decide ((k:Int)<((AS os).length:Int)))
   rotate_left
   ·have a0:=dt ar
    obtain ⟨a,ha⟩:=geb (l:=AS os) (i:=k) (by omega)
    obtain ⟨a6,au,-⟩:=hM.el arT (j:=4) rfl ha
    refine aAq 11 3 18 [(58,vI (k:Int)),(60,.agg #[vS a.1,vS a.2.1,vS a.2.2.1,vI a.2.2.2])] (cs:=#[vS [],vS [],vS [],vI 0]) (T:=47) (v:=fun b=>vP b 0) (fc (ix 75 ca au (gl ha)) (fc (lar 47 4 0 4 arT hM rfl au ha) f0)) hM fun a7 w1 hM=>stm 11 5 [(17,vI (k:Int))] 47 8 0 (.agg #[vS a.1,vS a.2.1,vS a.2.2.1,vI a.2.2.2]) f0 hM rfl fun w1 hM=>aAr 12 2 64 [(62,.agg #[.map (some b)]),(63,vI (k:Int))] (fc (lam 73 7 0 1 hM rfl) f0) hM (aBR (hM.get 6 rfl) (i:=k) (by omega)) fun w1 hM=>seg 13 2 [(19,vI ((t k).getD 0)),(68,vB (t k).isSome)] f0 ?_
    cases aj:(t k).isSome with
    | false =>
     refine seg 10 0 [(56,vI ((k:Int)+1))] (fc (aAe (k:Int) 1 u3_) f0) ?_
     have e9:aAM (AS os) t g (k+1)=aAM (AS os) t g k:=by rw [aBU ha];simp only [aj]<;>rfl
     exact aAb _ (ai _ (by have:=gl ha;omega) (k+1) lz bz _ (gl ha) (by rw [e9];exact hlz) (by rw [e9];exact hbz) (hM.pick [0,1,2,3,4,5,6,7]) rfl)
    | true =>
     refine seg 13 8 [(74,vB (a.2.1==g))] (fc (ldm 9 8 1 hM rfl rfl) (fc (seq 9 a.2.1 g) f0)) ?_
     cases ak:(a.2.1==g)
     ·refine seg 10 0 [(56,vI ((k:Int)+1))] (fc (aAe (k:Int) 1 u3_) f0) ?_
      have e9:aAM (AS os) t g (k+1)=aAM (AS os) t g k:=by rw [aBU ha];simp only [aj,ak]<;>rfl
      exact aAb _ (ai _ (by have:=gl ha;omega) (k+1) lz bz _ (gl ha) (by rw [e9];exact hlz) (by rw [e9];exact hbz) (hM.pick [0,1,2,3,4,5,6,7]) rfl)
     refine seg 13 11 [(77,vB (decide (lz<0)))] f0 ?_
     cases ap:(decide (lz<0))
     rotate_left
     ·refine seg 10 0 [(15,vI (k:Int)),(16,vI ((t k).getD 0)),(56,vI ((k:Int)+1))] (fc (aAe (k:Int) 1 u3_) f0) ?_
      have hBB:aHn t (aAM (AS os) t g k) k=true:=aPx (by rw [←hlz];exact dt ap)
      have e9:aAM (AS os) t g (k+1)=some k:=by rw [aBU ha];simp only [aj,ak,hBB]<;>rfl
      exact aAb _ (ai _ (by have:=gl ha;omega) (k+1) (k:Int) ((t k).getD 0) _ (gl ha) (by rw [e9];rfl) (by rw [e9];rfl) (hM.pick [0,1,2,3,4,5,6,7]) rfl)
     refine seg 13 16 [(82,vB (decide (((t k).getD 0)<bz)))] f0 ?_
     cases av:(decide (((t k).getD 0)<bz))
     ·refine seg 10 0 [(56,vI ((k:Int)+1))] (fc (aAe (k:Int) 1 u3_) f0) ?_
      have hBB:aHn t (aAM (AS os) t g k) k=false:=by rw [aJH (by rw [←hlz];exact df ap),←hbz];exact av
      have e9:aAM (AS os) t g (k+1)=aAM (AS os) t g k:=by rw [aBU ha];simp only [aj,ak,hBB]<;>rfl
      exact aAb _ (ai _ (by have:=gl ha;omega) (k+1) lz bz _ (gl ha) (by rw [e9];exact hlz) (by rw [e9];exact hbz) (hM.pick [0,1,2,3,4,5,6,7]) rfl)
     refine seg 10 0 [(15,vI (k:Int)),(16,vI ((t k).getD 0)),(56,vI ((k:Int)+1))] (fc (aAe (k:Int) 1 u3_) f0) ?_
     have hBB:aHn t (aAM (AS os) t g k) k=true:=by rw [aJH (by rw [←hlz];exact df ap),←hbz];exact av
     have e9:aAM (AS os) t g (k+1)=some k:=by rw [aBU ha];simp only [aj,ak,hBB]<;>rfl
     exact aAb _ (ai _ (by have:=gl ha;omega) (k+1) (k:Int) ((t k).getD 0) _ (gl ha) (by rw [e9];rfl) (by rw [e9];rfl) (hM.pick [0,1,2,3,4,5,6,7]) rfl)
   have a0:=df ar
   have hkn:k=(AS os).length:=by omega
   subst hkn
   refine seg 16 2 [(87,vB (decide (lz<0)))] f0 ?_
   cases al:(decide (lz<0))
   rotate_left
   ·have a1:=dt al
    refine stm 17 1 [(88,.agg #[vL none 0 0,vL none 0 0])] 31 1 0 (.agg #[vL none 0 0,vL none 0 0]) f0 hM rfl fun w1 hM=>?_
    have hl9:=aAk 31 1 (P:=Tryz.prog) (n:=2) hM rfl rfl
    have hnone:aAM (AS os) t g (AS os).length=none:=by
      cases hl:aAM (AS os) t g (AS os).length with
      | none=>rfl
      | some i=>rw [hl] at hlz;have h9:=dt al;have:lz=(i:Int):=hlz;omega
    exact aWa 10 31 11 (vI 12) rfl rfl hl9 f0 (hΦ _ _ ⟨(vL none 0 0),(vL none 0 0),_,[],[],rfl,.inr (.inr ⟨et ah,ef am,t,hT,.inl ⟨hnone,rfl,rfl,rfl⟩⟩),(hM.pick (M':=[]) []).row.row⟩)
   have a1:=df al
   have hlz9:=df al
   obtain ⟨i0,hi0⟩:∃ i,aAM (AS os) t g (AS os).length=some i:=by
     cases hl:aAM (AS os) t g (AS os).length with
     | none=>rw [hl] at hlz;exact absurd (hlz▸(by decide:(-1:Int)<0)) hlz9
     | some i=>exact ⟨i,rfl⟩
   rw [hi0] at hlz
   have hlz:lz=(i0:Int):=hlz
   subst hlz
   obtain ⟨hi1,-,hi2⟩:=aI7 hi0
   have hbl:=aU1 (N:=aAi prof os f) (m0:=m0) (t:=t) (i:=i0) (by cases e:t i0 with | none=>(show (0:Int)≤_;omega) | some m=>exact (htb i0 m e).2)
   refine aAq 18 0 21 [] (cs:=#[vL none 0 0,vL none 0 0]) (T:=31) (v:=fun b=>vP b 0) f0 hM fun ab w1 hM=>?_
   have hM:=hM.row (f:=stL) (c:=1) (E:=9)
   have hM:=hM.row (f:=inL) (c:=1) (E:=3)
   refine seg 20 0 [(22,vB true)] f0 ?_
   have a2:∀ (aw:Nat) (i:Nat) (more:Bool) (L:List Nat) (v1:Value) (v2:Value) (w2:World),L++(bif more then bkP (aAi prof os f) m0 t i else [])=bkP (aAi prof os f) m0 t i0→(more=true→i<(AS os).length∧(t i).isSome=true)→Mm (fun _=>False) w w2 [bk af #[vL p0 os.length cp0] 24,bk ad #[vL none 0 0,vL none 0 0] 31,bk ag #[vS f,vS g] 9,bk bs #[vS prof,vL qa (AS os).length ca,.map (some bo),.map (some br),.map (some bb)] 80,rw_ arL 4 47 (vL qa (AS os).length ca) (AS os),aRA (stR bo br bb no nr nb prof os T T2),mp Tryz.prog 3 b n (aFG t),bk ae #[.map (some b)] 73,bk ab #[v1,v2] 31,rw_ stL 1 9 v1 (L.map (toN (AS os))),rw_ inL 1 3 v2 (L.map fun j=>(t j).getD 0)]→aw=(bif more then ((t i).getD 0).toNat+1 else 0)→A12 Φ (some (20,0)) [(22,vB more),(21,vP ab 0),(15,vI (i:Int)),(14,vP ae 0),(13,vP bs 0),(10,vP ad 0),(2,vS f),(4,vI m0)] w2:=by
    refine aAG fun aw a3 i more L v1 v2 w2 hL hmr hM a4=>seg 20 1 [(89,vB more)] f0 ?_
    cases ax:more with
    | false =>
     subst ax
     have hL:L=_:=(List.append_nil L).symm.trans hL
     have hLl:L.length≤6000000001:=by rw [hL];exact hbl
     refine seg 24 0 [] f0 ?_
     have hM:=hM.nl
     have hM:=hM.nl
     refine drx [1,3,4,6,8,9,11,13] (fun γ=>[some (v1),some (vL (some ⟨(bn (γ 1)),0,none⟩) 1 1),some (vL (slp (γ 2)) ((L.map (toN (AS os)))++[f]).length (slc (γ 2))),some (v2),some (vL (some ⟨(bn (γ 4)),0,none⟩) 1 1),some (vL (slp (γ 5)) ((L.map fun j=>(t j).getD 0)++[m0]).length (slc (γ 5))),none,none]) _ (fun γ l=>[bk af #[vL p0 os.length cp0] 24,bk ad #[vL none 0 0,vL none 0 0] 31,bk ag #[vS f,vS g] 9,bk bs #[vS prof,vL qa (AS os).length ca,.map (some bo),.map (some br),.map (some bb)] 80,rw_ arL 4 47 (vL qa (AS os).length ca) (AS os),aRA (stR bo br bb no nr nb prof os T T2),mp Tryz.prog 3 b n (aFG t),bk ae #[.map (some b)] 73,bk ab #[(bif l.getD 6 false then vL (slp (γ 2)) ((L.map (toN (AS os)))++[f]).length (slc (γ 2)) else v1),(bif l.getD 7 false then vL (slp (γ 5)) ((L.map fun j=>(t j).getD 0)++[m0]).length (slc (γ 5)) else v2)] 31,(bif l.getD 2 false then rw_ stL 1 9 (vL (slp (γ 2)) ((L.map (toN (AS os)))++[f]).length (slc (γ 2))) ((L.map (toN (AS os)))++[f]) else rw_ stL 1 9 v1 (L.map (toN (AS os)))),(bif l.getD 5 false then rw_ inL 1 3 (vL (slp (γ 5)) ((L.map fun j=>(t j).getD 0)++[m0]).length (slc (γ 5))) ((L.map fun j=>(t j).getD 0)++[m0]) else rw_ inL 1 3 v2 (L.map fun j=>(t j).getD 0)),(bif l.getD 1 false then bk (bn (γ 1)) #[vS f] 9 else aIY),(bif l.getD 4 false then bk (bn (γ 4)) #[vI m0] 3 else aIY)]) (fun γ=>[]) hM (fun γ=>rfl) (fun γ l w5 hM=>f0) ⟨aN7 0 1 28 8 0 125 (fun γ=>ab) (fun γ l=>#[(bif l.getD 6 false then vL (slp (γ 2)) ((L.map (toN (AS os)))++[f]).length (slc (γ 2)) else v1),(bif l.getD 7 false then vL (slp (γ 5)) ((L.map fun j=>(t j).getD 0)++[m0]).length (slc (γ 5)) else v2)]) 31 (fun γ=>v1),aCB 1 3 11 127 (fun γ=>#[vS f]) 9 (fun b=>vL (some ⟨b,0,none⟩) 1 1),aHa 2 4 9 128 28 9 0 (fun γ=>v1) (L.map (toN (AS os))) [f] (fun γ=>(bn (γ 1))) 1 stT (by simp only [List.length_map,List.length_cons,List.length_nil];omega) (fun γ fr wm hM=>aAD (f:=stL) (x:=f) (hM.get 11 (e:=bk ((bn (γ 1))) (stL f).toArray 9) (by kernel_rfl)) (Nat.lt_succ_self _)),aN7 3 6 29 8 1 130 (fun γ=>ab) (fun γ l=>#[(bif l.getD 6 false then vL (slp (γ 2)) ((L.map (toN (AS os)))++[f]).length (slc (γ 2)) else v1),(bif l.getD 7 false then vL (slp (γ 5)) ((L.map fun j=>(t j).getD 0)++[m0]).length (slc (γ 5)) else v2)]) 31 (fun γ=>v2),aCB 4 8 12 132 (fun γ=>#[vI m0]) 3 (fun b=>vL (some ⟨b,0,none⟩) 1 1),aHa 5 9 10 133 29 3 0 (fun γ=>v2) (L.map fun j=>(t j).getD 0) [m0] (fun γ=>(bn (γ 4))) 1 inT (by simp only [List.length_map,List.length_cons,List.length_nil];omega) (fun γ fr wm hM=>aAD (f:=inL) (x:=m0) (hM.get 12 (e:=bk ((bn (γ 4))) (inL m0).toArray 3) (by kernel_rfl)) (Nat.lt_succ_self _)),aB7 6 11 28 8 0 (fun γ=>ab) (fun γ l=>#[(bif l.getD 6 false then vL (slp (γ 2)) ((L.map (toN (AS os)))++[f]).length (slc (γ 2)) else v1),(bif l.getD 7 false then vL (slp (γ 5)) ((L.map fun j=>(t j).getD 0)++[m0]).length (slc (γ 5)) else v2)]) 31 (fun γ=>vL (slp (γ 2)) ((L.map (toN (AS os)))++[f]).length (slc (γ 2))),aB7 7 13 29 8 1 (fun γ=>ab) (fun γ l=>#[(bif l.getD 6 false then vL (slp (γ 2)) ((L.map (toN (AS os)))++[f]).length (slc (γ 2)) else v1),(bif l.getD 7 false then vL (slp (γ 5)) ((L.map fun j=>(t j).getD 0)++[m0]).length (slc (γ 5)) else v2)]) 31 (fun γ=>vL (slp (γ 5)) ((L.map fun j=>(t j).getD 0)++[m0]).length (slc (γ 5))),trivial⟩ fun aa w1 hM=>?_
     replace hM:Mm (fun _=>False) w w1 [bk af #[vL p0 os.length cp0] 24,bk ad #[vL none 0 0,vL none 0 0] 31,bk ag #[vS f,vS g] 9,bk bs #[vS prof,vL qa (AS os).length ca,.map (some bo),.map (some br),.map (some bb)] 80,_,_,_,bk ae #[.map (some b)] 73,bk ab #[vL (slp (aa 2)) ((L.map (toN (AS os)))++[f]).length (slc (aa 2)),vL (slp (aa 5)) ((L.map fun j=>(t j).getD 0)++[m0]).length (slc (aa 5))] 31,_,_,bk (bn (aa 1)) #[vS f] 9,bk (bn (aa 4)) #[vI m0] 3]:=hM
     refine aAO 25 2 138 [(137,vL (slp (aa 2)) ((L.map (toN (AS os)))++[f]).length (slc (aa 2)))] (K:=fun u Mn=>u = .tuple #[]∧Mn=[rw_ stL 1 9 (vL (slp (aa 2)) ((L.map (toN (AS os)))++[f]).length (slc (aa 2))) ((L.map (toN (AS os)))++[f]).reverse]) [0,1,2,3,4,5,6,7,8,10,11,12] [9] (fc (ldm 28 8 0 hM rfl rfl) f0) hM rfl rfl (by decide) (fun hm=>(aMY hm)) fun u Mn w1 hK hM=>?_
     obtain ⟨rfl,rfl⟩:=hK
     refine aAO 26 2 141 [(140,vL (slp (aa 5)) ((L.map fun j=>(t j).getD 0)++[m0]).length (slc (aa 5)))] (K:=fun u Mn=>u = .tuple #[]∧Mn=[rw_ inL 1 3 (vL (slp (aa 5)) ((L.map fun j=>(t j).getD 0)++[m0]).length (slc (aa 5))) ((L.map fun j=>(t j).getD 0)++[m0]).reverse]) [0,1,2,3,4,5,6,7,8,10,11,12] [9] (fc (ldm 29 8 1 hM rfl rfl) f0) hM rfl rfl (by decide) (fun hm=>(aMZ hm)) fun u Mn w1 hK hM=>?_
     obtain ⟨rfl,rfl⟩:=hK
     refine stm 27 1 [(142,.agg #[vL (slp (aa 2)) ((L.map (toN (AS os)))++[f]).length (slc (aa 2)),vL (slp (aa 5)) ((L.map fun j=>(t j).getD 0)++[m0]).length (slc (aa 5))])] 31 1 0 (.agg #[vL (slp (aa 2)) ((L.map (toN (AS os)))++[f]).length (slc (aa 2)),vL (slp (aa 5)) ((L.map fun j=>(t j).getD 0)++[m0]).length (slc (aa 5))]) (fc (lam 31 8 0 2 hM rfl) f0) hM rfl fun w1 hM=>?_
     have hl9:=aAk 31 1 (P:=Tryz.prog) (n:=2) hM rfl rfl
     exact aWa 10 31 11 (vI 0) rfl rfl hl9 f0 (hΦ _ _ ⟨(vL (slp (aa 2)) ((L.map (toN (AS os)))++[f]).length (slc (aa 2))),(vL (slp (aa 5)) ((L.map fun j=>(t j).getD 0)++[m0]).length (slc (aa 5))),_,_,_,rfl,.inr (.inr ⟨et ah,ef am,t,hT,.inr ⟨i0,hi0,rfl,by rw [←hL],by rw [←hL]⟩⟩),hM.pick [11,12]⟩)
    | true =>
     subst ax
     have hil:i<(AS os).length:=(hmr rfl).1
     obtain ⟨a,ha⟩:=geb (l:=AS os) (i:=i) hil
     have hLl:L.length+(bkP (aAi prof os f) m0 t i).length≤6000000001:=by rw [←List.length_append];exact (congrArg List.length hL:_=_)▸hbl
     refine aAr 22 2 102 [(100,.agg #[.map (some b)]),(101,vI (i:Int))] (fc (lam 73 7 0 1 hM rfl) f0) hM (aBR (hM.get 6 rfl) (i:=i) (by omega)) fun w1 hM=>seg 23 0 [(23,vI ((t i).getD 0))] f0 ?_
     obtain ⟨a8,ay,-⟩:=hM.el arT (j:=4) rfl ha
     have hM:=hM.nl
     have hM:=hM.nl
     refine drx [1,10,11,13,15,16,18,20] (fun γ=>[some (v1),some (vL (some ⟨(bn (γ 1)),0,none⟩) 1 1),some (vL (slp (γ 2)) ((L.map (toN (AS os)))++[a.2.1]).length (slc (γ 2))),some (v2),some (vL (some ⟨(bn (γ 4)),0,none⟩) 1 1),some (vL (slp (γ 5)) ((L.map fun j=>(t j).getD 0)++[((t i).getD 0)]).length (slc (γ 5))),none,none]) _ (fun γ l=>[bk af #[vL p0 os.length cp0] 24,bk ad #[vL none 0 0,vL none 0 0] 31,bk ag #[vS f,vS g] 9,bk bs #[vS prof,vL qa (AS os).length ca,.map (some bo),.map (some br),.map (some bb)] 80,rw_ arL 4 47 (vL qa (AS os).length ca) (AS os),aRA (stR bo br bb no nr nb prof os T T2),mp Tryz.prog 3 b n (aFG t),bk ae #[.map (some b)] 73,bk ab #[(bif l.getD 6 false then vL (slp (γ 2)) ((L.map (toN (AS os)))++[a.2.1]).length (slc (γ 2)) else v1),(bif l.getD 7 false then vL (slp (γ 5)) ((L.map fun j=>(t j).getD 0)++[((t i).getD 0)]).length (slc (γ 5)) else v2)] 31,(bif l.getD 2 false then rw_ stL 1 9 (vL (slp (γ 2)) ((L.map (toN (AS os)))++[a.2.1]).length (slc (γ 2))) ((L.map (toN (AS os)))++[a.2.1]) else rw_ stL 1 9 v1 (L.map (toN (AS os)))),(bif l.getD 5 false then rw_ inL 1 3 (vL (slp (γ 5)) ((L.map fun j=>(t j).getD 0)++[((t i).getD 0)]).length (slc (γ 5))) ((L.map fun j=>(t j).getD 0)++[((t i).getD 0)]) else rw_ inL 1 3 v2 (L.map fun j=>(t j).getD 0)),(bif l.getD 1 false then bk (bn (γ 1)) #[vS a.2.1] 9 else aIY),(bif l.getD 4 false then bk (bn (γ 4)) #[vI ((t i).getD 0)] 3 else aIY)]) (fun γ=>[]) hM (fun γ=>rfl) (fun γ l w5 hM=>(fc (ldm 75 3 1 hM rfl rfl) (fc (ix 75 ca ay (gl ha)) (fc (ldr 9 4 1 arT hM rfl ay ha rfl) f0)))) ⟨aN7 0 1 28 8 0 106 (fun γ=>ab) (fun γ l=>#[(bif l.getD 6 false then vL (slp (γ 2)) ((L.map (toN (AS os)))++[a.2.1]).length (slc (γ 2)) else v1),(bif l.getD 7 false then vL (slp (γ 5)) ((L.map fun j=>(t j).getD 0)++[((t i).getD 0)]).length (slc (γ 5)) else v2)]) 31 (fun γ=>v1),aCB 1 10 11 115 (fun γ=>#[vS a.2.1]) 9 (fun b=>vL (some ⟨b,0,none⟩) 1 1),aHa 2 11 9 116 28 9 0 (fun γ=>v1) (L.map (toN (AS os))) [a.2.1] (fun γ=>(bn (γ 1))) 1 stT (by simp only [List.length_map,List.length_cons,List.length_nil];omega) (fun γ fr wm hM=>aAD (f:=stL) (x:=a.2.1) (hM.get 11 (e:=bk ((bn (γ 1))) (stL a.2.1).toArray 9) (by kernel_rfl)) (Nat.lt_succ_self _)),aN7 3 13 29 8 1 118 (fun γ=>ab) (fun γ l=>#[(bif l.getD 6 false then vL (slp (γ 2)) ((L.map (toN (AS os)))++[a.2.1]).length (slc (γ 2)) else v1),(bif l.getD 7 false then vL (slp (γ 5)) ((L.map fun j=>(t j).getD 0)++[((t i).getD 0)]).length (slc (γ 5)) else v2)]) 31 (fun γ=>v2),aCB 4 15 12 120 (fun γ=>#[vI ((t i).getD 0)]) 3 (fun b=>vL (some ⟨b,0,none⟩) 1 1),aHa 5 16 10 121 29 3 0 (fun γ=>v2) (L.map fun j=>(t j).getD 0) [((t i).getD 0)] (fun γ=>(bn (γ 4))) 1 inT (by simp only [List.length_map,List.length_cons,List.length_nil];omega) (fun γ fr wm hM=>aAD (f:=inL) (x:=((t i).getD 0)) (hM.get 12 (e:=bk ((bn (γ 4))) (inL ((t i).getD 0)).toArray 3) (by kernel_rfl)) (Nat.lt_succ_self _)),aB7 6 18 28 8 0 (fun γ=>ab) (fun γ l=>#[(bif l.getD 6 false then vL (slp (γ 2)) ((L.map (toN (AS os)))++[a.2.1]).length (slc (γ 2)) else v1),(bif l.getD 7 false then vL (slp (γ 5)) ((L.map fun j=>(t j).getD 0)++[((t i).getD 0)]).length (slc (γ 5)) else v2)]) 31 (fun γ=>vL (slp (γ 2)) ((L.map (toN (AS os)))++[a.2.1]).length (slc (γ 2))),aB7 7 20 29 8 1 (fun γ=>ab) (fun γ l=>#[(bif l.getD 6 false then vL (slp (γ 2)) ((L.map (toN (AS os)))++[a.2.1]).length (slc (γ 2)) else v1),(bif l.getD 7 false then vL (slp (γ 5)) ((L.map fun j=>(t j).getD 0)++[((t i).getD 0)]).length (slc (γ 5)) else v2)]) 31 (fun γ=>vL (slp (γ 5)) ((L.map fun j=>(t j).getD 0)++[((t i).getD 0)]).length (slc (γ 5))),trivial⟩ fun ac w1 hM=>?_
     replace hM:Mm (fun _=>False) w w1 [bk af #[vL p0 os.length cp0] 24,bk ad #[vL none 0 0,vL none 0 0] 31,bk ag #[vS f,vS g] 9,bk bs #[vS prof,vL qa (AS os).length ca,.map (some bo),.map (some br),.map (some bb)] 80,_,_,_,bk ae #[.map (some b)] 73,bk ab #[vL (slp (ac 2)) ((L.map (toN (AS os)))++[a.2.1]).length (slc (ac 2)),vL (slp (ac 5)) ((L.map fun j=>(t j).getD 0)++[((t i).getD 0)]).length (slc (ac 5))] 31,_,_,bk (bn (ac 1)) #[vS a.2.1] 9,bk (bn (ac 4)) #[vI ((t i).getD 0)] 3]:=hM
     refine aAr 21 5 96 [(91,vP bs 0),(92,.agg #[.map (some b)]),(93,vS f),(94,vI m0),(95,vI (i:Int))] (fc (lam 73 7 0 1 hM rfl) f0) hM (aKe (aOw hM (i:=3) (j:=4) (k:=5) rfl rfl rfl hmv hM.fr hT2) hT2 (by omega) (hM.get 6 rfl) htb (f:=f) h0 (by omega) hil) fun w1 hM=>seg 20 0 [(15,vI (((aC6 (aAi prof os f) m0 t i).getD 0:Nat):Int)),(22,vB (aC6 (aAi prof os f) m0 t i).isSome)] f0 ?_
     have hM:=hM.pick [0,1,2,3,4,5,6,7,8,9,10]
     replace hM:Mm (fun _=>False) w _ [bk af #[vL p0 os.length cp0] 24,bk ad #[vL none 0 0,vL none 0 0] 31,bk ag #[vS f,vS g] 9,bk bs #[vS prof,vL qa (AS os).length ca,.map (some bo),.map (some br),.map (some bb)] 80,_,_,_,bk ae #[.map (some b)] 73,bk ab #[vL (slp (ac 2)) ((L.map (toN (AS os)))++[a.2.1]).length (slc (ac 2)),vL (slp (ac 5)) ((L.map fun j=>(t j).getD 0)++[((t i).getD 0)]).length (slc (ac 5))] 31,_,_]:=hM
     obtain ⟨u1,hu1⟩:∃ z,z=vL (slp (ac 2)) ((L.map (toN (AS os)))++[a.2.1]).length (slc (ac 2)):=⟨_,rfl⟩
     obtain ⟨u2,hu2⟩:∃ z,z=vL (slp (ac 5)) ((L.map fun j=>(t j).getD 0)++[((t i).getD 0)]).length (slc (ac 5)):=⟨_,rfl⟩
     rw [←hu1,←hu2] at hM
     have e1:((L.map (toN (AS os)))++[a.2.1])=((L++[i]).map (toN (AS os))):=by rw [List.map_append];simp [aL1 ha]
     have e2:((L.map fun j=>(t j).getD 0)++[((t i).getD 0)])=((L++[i]).map fun j=>(t j).getD 0):=by rw [List.map_append];rfl
     rw [e1,e2] at hM
     exact aAb _ (a3 _ (by rw [a4];exact (aMz hB hil).2) ((aC6 (aAi prof os f) m0 t i).getD 0) (aC6 (aAi prof os f) m0 t i).isSome (L++[i]) u1 u2 _ (by rw [List.append_assoc,aRS hB hil];exact hL) (aMz hB hil).1 hM rfl)
   exact aAb _ (a2 _ i0 true [] (vL none 0 0) (vL none 0 0) _ rfl (fun _=>⟨hi1,hi2⟩) hM rfl)
  exact aAb _ (az _ 0 (-1) 0 _ (Nat.zero_le _) rfl rfl hM rfl)
def rwL (x:Bys×Int):List Value:=[vS x.1,vI x.2]
theorem rwT:ElT Tryz.prog rwL 2 35 56:=⟨fun _=>rfl,by decide,fun x u hu=>by
  unfold rwL at hu
  rcases List.mem_cons.1 hu with rfl | hu
  · rfl
  · rw [List.mem_singleton] at hu
    subst hu;rfl,Tryz.underlying35,aBL (by kernel_rfl)⟩
def aL6 (t:Bys→Option Int):Value→Option Value
  | .string s=>(t s.toList).map fun m => .int .i64 m
  | _=>none
theorem aOq (t:Bys→Option Int) (s:Bys):aL6 t (vS s)=(t s).map fun m => .int .i64 m:=by
  show (t (ofL s).toList).map _=_
  rw [aA4]
def aH6 (t:Bys→Option Int) (s:Bys) (x:Int):Bys→Option Int:=fun k=>bif k==s then some x else t k
theorem aDC (t:Bys→Option Int) (s:Bys) (x:Int):aH6 t s x s=some x:=by unfold aH6;simp
theorem aCP (t:Bys→Option Int) {s k:Bys}(x:Int) (h:k≠s):aH6 t s x k=t k:=by
  unfold aH6
  rw [show (k==s)=false by simpa using h];rfl
theorem aIc (t:Bys→Option Int) (s:Bys) (x:Int):upd (aL6 t) (vS s) (vI x)=aL6 (aH6 t s x):=by
  funext v
  by_cases e:v=vS s
  · subst e;rw [aCk,aOq,aDC];rfl
  · rw [aBE _ e]
    cases v with
    | string b =>
      show (t b.toList).map _=(aH6 t s x b.toList).map _
      rw [aCP _ _ (aNW e)]
    | _=>rfl
theorem aQC (s:Bys) (x:Int):upd (fun _=>none) (vS s) (vI x)=aL6 (aH6 (fun _=>none) s x):=by
  rw [←aIc];congr 1;funext v;cases v<;>rfl
def aGc (o:Option Int) (x:Int):Bool:=match o with
  | some y=>decide (x<y)
  | none=>true
theorem aOp (t:Bys→Option Int) (s:Bys):(.tuple #[((aL6 t) (vS s)).getD (vI 0),.bool ((aL6 t) (vS s)).isSome]:Value) = .tuple #[vI ((t s).getD 0),vB (t s).isSome]:=by
  rw [aOq];cases t s<;>rfl
abbrev tbS (b n:Nat) (t:Bys→Option Int):Ent:=mp Tryz.prog 9 b n (aL6 t)
theorem aQB {t:Nat→Option Int}{key v:Value}(h:aFG t key=some v):∃ k m,key=vI ((k:Nat):Int)∧t k=some m∧v=vI m:=by
  unfold aFG at h
  split at h
  · rename_i k
    obtain ⟨m,hm,rfl⟩:=Option.map_eq_some_iff.1 h
    exact ⟨k,m,rfl,hm,rfl⟩
  · cases h
theorem aJF {w:World}(m n:Int):Calls Tryz.prog 40 #[vI m,vI n] w fun e w'=>e = .returned (vB (decide (m<n)))∧Fr (fun _=>False) w w':=by
  refine beg Tryz.func40 rfl rfl [(0,vI m),(1,vI n)] rfl rfl fun Φ hΦ=>?_
  have hM:=Mm.nil (fun _=>False) w
  exact rt1 4 (vB (decide (m<n))) rfl f0 (hΦ _ _ ⟨rfl,hM.fr⟩)
theorem aMK {w:World}{b n:Nat}{u:Bys→Option Int}(hm:aDs Tryz.prog 9 w b n (aL6 u)) {s:Bys}(hs:B63 s):Calls Tryz.prog 41 #[.agg #[.map (some b)],vS s] w fun e w'=>e = .returned (.tuple #[vI ((u s).getD 0),vB (u s).isSome])∧Fr (fun _=>False) w w':=by
  refine beg Tryz.func41 rfl rfl [(0,.agg #[.map (some b)]),(1,vS s)] rfl rfl fun Φ hΦ=>?_
  have hM:=Mm.nil (fun _=>False) w
  refine aAq 0 0 2 [] (cs:=#[.map (some b)]) (T:=90) (v:=fun b=>vP b 0) f0 hM fun aa w1 hM=>rt2 4 5 (vI ((u s).getD 0)) (vB (u s).isSome) rfl rfl (fc (ldm 88 0 0 hM rfl rfl) (fc (rz2 (aVz 88 (vS s) (vI 0) (hm.fr hM.fr id) aDw u88_ (aDx hs) (aQq _)) (aOp u s)) f0)) (hΦ _ _ ⟨rfl,hM.fr⟩)
theorem aHi {w:World}{G:Nat→Prop}{b n:Nat}{u:Bys→Option Int}(hM0:Mm G w w [tbS b n u]) {s:Bys}(hs:B63 s) (x:Int):Calls Tryz.prog 39 #[.agg #[.map (some b)],vS s,vI x,.func (.func 40) #[] #[]] w fun e w'=>e = .returned (vB (aGc (u s) x))∧Mm G w w' [tbS b (bif aGc (u s) x then n+1 else n) (bif aGc (u s) x then aH6 u s x else u)]:=by
  refine beg Tryz.func39 rfl rfl [(0,.agg #[.map (some b)]),(1,vS s),(2,vI x),(3,.func (.func 40) #[] #[])] rfl rfl fun Φ hΦ=>?_
  have hM:=hM0
  refine aAq 0 0 4 [] (cs:=#[.map (some b)]) (T:=90) (v:=fun b=>vP b 0) f0 hM fun aa w1 hM=>seg 2 2 [(9,vI ((u s).getD 0)),(19,vB (u s).isSome)] (fc (ldm 88 1 0 hM rfl rfl) (fc (rz2 (aVz 88 (vS s) (vI 0) (hM.get 0 rfl) aDw u88_ (aDx hs) (aQq _)) (aOp u s)) f0)) ?_
  cases ab:(u s).isSome with
  | false =>
   refine mup 4 4 [(27,.map (some b)),(28,vS s),(29,vI x)] 88 0 (vS s) (vI x) (fc (ldm 88 1 0 hM rfl rfl) f0) hM rfl aDw u88_ (aDx hs) fun w1 hM=>?_
   have hb:aGc (u s) x=true:=by
     unfold aGc
     cases e:u s with
     | none=>simp_all
     | some o=>simp_all
   rw [aIc] at hM
   exact rt1 8 (vB true) rfl f0 (hΦ _ _ ⟨by rw [hb],by rw [hb];exact hM.pick [0]⟩)
  | true =>
   refine aAr 2 5 23 [(20,.func (.func 40) #[] #[]),(21,vI x),(22,vI ((u s).getD 0))] f0 hM (aJF x ((u s).getD 0)) fun w1 hM=>seg 2 8 [(25,vB (!(decide (x<((u s).getD 0)))))] f0 ?_
   cases ac:(decide (x<((u s).getD 0)))
   ·have hb:aGc (u s) x=false:=by
      unfold aGc
      cases e:u s with
      | none=>simp_all
      | some o=>simp_all
    exact rt1 8 (vB false) rfl f0 (hΦ _ _ ⟨by rw [hb],by rw [hb];exact hM.pick [0]⟩)
   refine mup 4 4 [(27,.map (some b)),(28,vS s),(29,vI x)] 88 0 (vS s) (vI x) (fc (ldm 88 1 0 hM rfl rfl) f0) hM rfl aDw u88_ (aDx hs) fun w1 hM=>?_
   have hb:aGc (u s) x=true:=by
     unfold aGc
     cases e:u s with
     | none=>simp_all
     | some o=>simp_all
   rw [aIc] at hM
   exact rt1 8 (vB true) rfl f0 (hΦ _ _ ⟨by rw [hb],by rw [hb];exact hM.pick [0]⟩)
theorem aIe {w:World}{b n:Nat}{u:Bys→Option Int}(hm:(tbS b n u).H w) {s:Bys}(hs:B63 s) (x:Int):Calls Tryz.prog 39 #[.agg #[.map (some b)],vS s,vI x,.func (.func 40) #[] #[]] w fun e w'=>e = .returned (vB (aGc (u s) x))∧Fr (tbS b n u).B w w'∧(tbS b (n+1) (bif aGc (u s) x then aH6 u s x else u)).H w'∧∀ k,(tbS b (n+1) (bif aGc (u s) x then aH6 u s x else u)).B k→(tbS b n u).B k∨w.heap.size≤k :=
  (aHi (n:=n) (G:=(tbS b n u).B) ⟨Fr.refl _ _,fun e he=>by rw [List.mem_singleton] at he;subst he;exact hm,fun e he k hk _=>by rw [List.mem_singleton] at he;subst he;exact hk,List.pairwise_singleton _ _⟩ hs x).mono fun e w' ⟨h1,h2⟩=>⟨h1,h2.fr,aDs.mono (h2.get 0 rfl) (by cases aGc (u s) x<;>simp),fun k hk => .inl hk⟩
structure FirstOk (A:List Arc) (t:Nat→Option Int) (f:Bys) (m0 wi:Int) (P:Nat→Prop) (u:Bys→Option Int):Prop where
  own:u f=some 0
  snd:∀ s d,s≠f→u s=some d→∃ k m a,t k=some m∧A[k]?=some a∧a.2.1=s∧d=m-m0∧d≤wi
  cmp:∀ k m a,P k→t k=some m→A[k]?=some a→m-m0≤wi→∃ d,d≤m-m0∧u a.2.1=some d
theorem FirstOk.zero {A:List Arc}{t:Nat→Option Int}{f:Bys}{m0 wi:Int}{P:Nat→Prop}(hP:∀ k m,t k=some m→¬ P k):FirstOk A t f m0 wi P (aH6 (fun _=>none) f 0) :=
  ⟨aDC _ _ _,fun s d hs h=>(by rw [aCP _ _ hs] at h;cases h),fun k m a h1 h2=>absurd h1 (hP k m h2)⟩
theorem FirstOk.step {A:List Arc}{t:Nat→Option Int}{f:Bys}{m0 wi:Int}{P Q:Nat→Prop}{u:Bys→Option Int}(h:FirstOk A t f m0 wi P u) {k:Nat}{m:Int}{a:Arc}(ht:t k=some m) (ha:A[k]?=some a) (hm:m0≤m) (hd:m-m0≤wi) (hQ:∀ j,Q j→P j∨j=k):FirstOk A t f m0 wi Q (bif aGc (u a.2.1) (m-m0) then aH6 u a.2.1 (m-m0) else u):=by
  have hcm:∀ (s:Bys) d,u s=some d→∃ d',d'≤d∧(bif aGc (u a.2.1) (m-m0) then aH6 u a.2.1 (m-m0) else u) s=some d':=by
    intro s d hs
    cases hb:aGc (u a.2.1) (m-m0) with
    | false=>exact ⟨d,Int.le_refl _,hs⟩
    | true =>
      by_cases e:s=a.2.1
      · subst e
        rw [hs] at hb
        have:=of_decide_eq_true hb
        exact ⟨m-m0,by omega,aDC _ _ _⟩
      · exact ⟨d,Int.le_refl _,by show aH6 u a.2.1 (m-m0) s=_;rw [aCP _ _ e];exact hs⟩
  refine ⟨?_,fun s d hs hu=>?_,fun j m' b hj hj2 hj3 hj4=>?_⟩
  · cases hb:aGc (u a.2.1) (m-m0) with
    | false=>exact h.own
    | true =>
      show aH6 u a.2.1 (m-m0) f=some 0
      by_cases e:f=a.2.1
      · rw [←e,h.own] at hb
        have:=of_decide_eq_true hb
        omega
      · rw [aCP _ _ e];exact h.own
  · cases hb:aGc (u a.2.1) (m-m0) with
    | false=>rw [hb] at hu;exact h.snd s d hs hu
    | true =>
      rw [hb] at hu
      have hu:aH6 u a.2.1 (m-m0) s=some d:=hu
      by_cases e:s=a.2.1
      · subst e;rw [aDC] at hu;cases hu
        exact ⟨k,m,a,ht,ha,rfl,rfl,hd⟩
      · rw [aCP _ _ e] at hu;exact h.snd s d hs hu
  · rcases hQ j hj with hj | rfl
    · obtain ⟨d,h1,h2⟩:=h.cmp j m' b hj hj2 hj3 hj4
      obtain ⟨d',h3,h4⟩:=hcm _ _ h2
      exact ⟨d',by omega,h4⟩
    · rw [ht] at hj2;cases hj2
      rw [ha] at hj3;cases hj3
      cases hb:aGc (u a.2.1) (m-m0) with
      | true=>exact ⟨m-m0,Int.le_refl _,aDC _ _ _⟩
      | false =>
        cases hu:u a.2.1 with
        | none=>rw [hu] at hb;cases hb
        | some y =>
          rw [hu] at hb
          have:=of_decide_eq_false hb
          exact ⟨y,by omega,hu⟩
theorem FirstOk.skip {A:List Arc}{t:Nat→Option Int}{f:Bys}{m0 wi:Int}{P Q:Nat→Prop}{u:Bys→Option Int}(h:FirstOk A t f m0 wi P u) {k:Nat}{m:Int}(ht:t k=some m) (hd:¬ m-m0≤wi) (hQ:∀ j,Q j→P j∨j=k):FirstOk A t f m0 wi Q u :=
  ⟨h.own,h.snd,fun j m' b hj hj2 hj3 hj4=>by
    rcases hQ j hj with hj | rfl
    · exact h.cmp j m' b hj hj2 hj3 hj4
    · rw [ht] at hj2;cases hj2;exact absurd hj4 hd⟩
def aC3 (os:List ObR) (u:Bys→Option Int):List (Bys×Int):=os.flatMap fun b=>bif (u b.o.id).isSome&&(b.o.kind==1) then [(b.o.id,(u b.o.id).getD 0)] else []
theorem aFp {os:List ObR}{u:Bys→Option Int}{i:Nat}{y:ObR}(h:os[i]?=some y):aC3 (os.take (i+1)) u=aC3 (os.take i) u++bif (u y.o.id).isSome&&(y.o.kind==1) then [(y.o.id,(u y.o.id).getD 0)] else []:=by
  rw [gt_ h];unfold aC3;rw [List.flatMap_append];simp
theorem aOC (os:List ObR) (u:Bys→Option Int):(aC3 os u).length≤os.length:=by
  induction os with
  | nil=>simp [aC3]
  | cons b os ih =>
    unfold aC3 at ih ⊢
    rw [List.flatMap_cons,List.length_append,List.length_cons]
    cases (u b.o.id).isSome&&(b.o.kind==1)<;>simp only [cond_true,cond_false,List.length_nil,List.length_singleton]<;>omega
def aM6 (prof:Bys) (os:List ObR) (f:Bys) (wi m0 c:Int) (rows:List (Bys×Int)):Prop :=
  ((wi<0∨10080<wi)∧c=1∧rows=[])∨(¬ (wi<0∨10080<wi)∧¬ aFh os prof m0 [f]=0∧c=aFh os prof m0 [f]∧rows=[]) ∨
  (¬ (wi<0∨10080<wi)∧aFh os prof m0 [f]=0∧c=0∧∃ t u,Tab (aAi prof os f) m0 t∧FirstOk (AS os) t f m0 wi (fun _=>True) u∧rows=aC3 os u)
abbrev A14 (Φ:Ending→World→Prop):=AtO Tryz.prog (aAf Tryz.f14) (aAo (bodyPost Tryz.prog Tryz.f14 Φ)) [] 102
theorem aKG {w:World}{v:Value}{os:List ObR}(hmv:aCp w v os) {prof f:Bys}(hp63:prof.length≤9223372036854775807) (hf63:B63 f) (hlen:aAd (aAa os)=true→(aAv os).length≤240) (hol:os.length≤1000000) (hTe:Te w) (wi m0:Int):Calls Tryz.prog 14 #[.agg #[v],vS prof,vS f,vI wi,vI m0] w fun e w'=>∃ v1 c rows,e = .returned (.tuple #[v1,vI c])∧aM6 prof os f wi m0 c rows∧Mm (fun _=>False) w w' [rw_ rwL 2 56 v1 rows]:=by
  have hm0:=hmv;obtain ⟨hs0,hob⟩:=hm0
  obtain ⟨p0,cp0,hp0,sp0⟩:=hs0.op
  subst hp0
  refine beg Tryz.func14 rfl rfl [(0,.agg #[vL p0 os.length cp0]),(1,vS prof),(2,vS f),(3,vI wi),(4,vI m0)] rfl rfl fun Φ hΦ=>?_
  have hM:=Mm.nil (fun _=>False) w
  refine aAq 0 0 5 [] (cs:=#[vL p0 os.length cp0]) (T:=24) (v:=fun b=>vP b 0) f0 hM fun ab w1 hM=>seg 1 3 [(24,vB (decide (wi<0)))] f0 ?_
  cases ae:(decide (wi<0))
  rotate_left
  ·have aw:=dt ae
   exact rt2 10 11 (vL none 0 0) (vI 1) rfl rfl f0 (hΦ _ _ ⟨_,_,[],rfl,.inl ⟨.inl (dt ae),rfl,rfl⟩,(hM.pick (M':=[]) []).row⟩)
  have aw:=df ae
  refine seg 1 6 [(27,vB (decide (10080<wi)))] f0 ?_
  cases af:(decide (10080<wi))
  rotate_left
  ·have ax:=dt af
   exact rt2 10 11 (vL none 0 0) (vI 1) rfl rfl f0 (hΦ _ _ ⟨_,_,[],rfl,.inl ⟨.inr (dt af),rfl,rfl⟩,(hM.pick (M':=[]) []).row⟩)
  have ax:=df af
  refine aAq 3 4 32 [(28,.agg #[vL p0 os.length cp0]),(29,vS prof),(30,vI m0),(31,vS f)] (cs:=#[vS f]) (T:=9) (v:=fun b=>vL (some ⟨b,0,none⟩) 1 1) (fc (lam 24 0 0 1 hM rfl) f0) hM fun ad w1 hM=>aAr 3 5 33 [] f0 hM (aFa (hmv.fr hM.fr) hp63 m0 (ids:=[f]) (aQF (f:=stL) (x:=f) (hM.get 1 rfl))) fun w1 hM=>seg 4 2 [(12,vI (aFh os prof m0 [f])),(35,vB (!((aFh os prof m0 [f])==0)))] f0 ?_
  cases ai:((aFh os prof m0 [f])==0)
  ·exact rt2 10 11 (vL none 0 0) (vI (aFh os prof m0 [f])) rfl rfl f0 (hΦ _ _ ⟨_,_,[],rfl,.inr (.inl ⟨(fun h=>h.elim (df ae) (df af)),ef ai,rfl,rfl⟩),(hM.pick (M':=[]) []).row⟩)
  have hchk:=et ai
  obtain ⟨hvm,-,h0,h1,hany,hno⟩:=aPR hchk
  have hnn:(AS os).length≤240:=Nat.le_trans (aG2 _) (hlen hvm)
  have hNo:=aFT (prof:=prof) (fun a ha=>aGX (fun b hb=>(hmv.2 b hb).bnd) a (aDF ha):∀ a∈AS os,ArcB a) f
  skip
  refine aAO 6 2 39 [(37,.agg #[vL p0 os.length cp0]),(38,vS prof)] (K:=fun u Mn=>∃ bs ca bo br bb no nr nb qa T T2,u=vP bs 0∧(∀ s,aEr T s=aC0 (AS os) s)∧T2.map (·.1)=aBN os∧Mn=stM bs ca bo br bb no nr nb qa prof os T T2) [0,1] [] (fc (lam 24 0 0 1 hM rfl) f0) hM rfl rfl (by decide) (fun hm=>((aF9 (hmv.fr hM.fr) hvm (by have:=hlen hvm;omega) (hTe.fr hM.fr)).mono fun e w8 ⟨bs,ca,bo,br,bb,no,nr,nb,qa,T,T2,h1,_,h2,h3,h4⟩=>⟨_,_,h1,⟨bs,ca,bo,br,bb,no,nr,nb,qa,T,T2,rfl,h2,h3,rfl⟩,aDo h4 fun _ h=>h.elim⟩)) fun u Mn w1 hK hM=>?_
  obtain ⟨bs,ca,bo,br,bb,no,nr,nb,qa,T,T2,rfl,hTr,hT2,rfl⟩:=hK
  have hM:=aSP (A:=[bk ab #[vL p0 os.length cp0] 24,bk ad #[vS f] 9,bk bs #[vS prof,vL qa (AS os).length ca,.map (some bo),.map (some br),.map (some bb)] 80,rw_ arL 4 47 (vL qa (AS os).length ca) (AS os)]) (Ms:=stR bo br bb no nr nb prof os T T2) hM
  refine aHl 7 0 40 [(13,vP bs 0)] 9 f0 hM fun aa w1 hM=>ins 7 2 [(41,vS f)] 88 5 (vS f) (vI 0) f0 hM rfl aDw u88_ (aDx hf63) fun w1 hM=>aCh 7 5 14 [(43,.agg #[.map (some aa)])] [] 90 (.agg #[.map (some aa)]) f0 hM fun ac w1 hM=>?_
  rw [aQC] at hM
  refine aAO 8 3 47 [(44,vP bs 0),(45,vS f),(46,vI m0)] (K:=fun u Mn=>∃ b n t,u = .agg #[.map (some b)]∧Tab (aAi prof os f) m0 t∧Mn=[tbE b n t]) [0,1,2,3,4,5,6] [] f0 hM rfl rfl (by decide) (fun hm=>((aEm (aOw hM (i:=2) (j:=3) (k:=4) rfl rfl rfl hmv hM.fr hT2) hT2 hTr hnn hf63 h0 (by omega)).mono fun e w8 ⟨b,n,t,h1,h2,h3⟩=>⟨_,_,h1,⟨b,n,t,rfl,h2,rfl⟩,aDo h3 fun _ h=>h.elim⟩)) fun u Mn w1 hK hM=>?_
  obtain ⟨b,n,t,rfl,hT,rfl⟩:=hK
  have htb:∀ k m,t k=some m→0≤m∧m≤6000000000:=fun k m e=>⟨by have:=(hT.snd k m e).ge hNo h0;omega,(hT.snd k m e).le hNo h0⟩
  refine rgm 8 5 49 [(48,.map (some b))] 71 7 (by decide) f0 hM rfl u71_ fun aj c341 w1 hM=>seg 9 0 [] f0 ?_
  have ay:∀ (ao:Nat) (left:Value→Prop) (cnt:Nat) (u:Bys→Option Int) (nu:Nat) (w2:World),FirstOk (AS os) t f m0 wi (fun k=>¬ left (vI (k:Int))) u→Mm (fun _=>False) w w2 [bk ab #[vL p0 os.length cp0] 24,bk ad #[vS f] 9,bk bs #[vS prof,vL qa (AS os).length ca,.map (some bo),.map (some br),.map (some bb)] 80,rw_ arL 4 47 (vL qa (AS os).length ca) (AS os),aRA (stR bo br bb no nr nb prof os T T2),mp Tryz.prog 9 aa nu (aL6 u),bk ac #[.map (some aa)] 90,aSv Tryz.prog 3 b aj n (aFG t) left cnt]→ao=cnt→A14 Φ (some (9,0)) [(49,vP aj 0),(14,vP ac 0),(13,vP bs 0),(5,vP ab 0),(3,vI wi),(4,vI m0)] w2:=by
   refine aAG fun ao ap left cnt u nu w2 hF hM aq=>nxm 9 0 50 [] 7 (by decide) f0 hM rfl (fun hno=>?_) (fun key345 val345 cnt345 w1 hleft345 hval345 hkey345 hcnt345 hM hent=>?_)
   · skip
     have hF:=(⟨hF.own,hF.snd,fun k m a _ h2 h3 h4=>hF.cmp k m a (hno _) h2 h3 h4⟩:FirstOk (AS os) t f m0 wi (fun _=>True) u)
     have hM:=hM.unrng (j:=7) rfl
     have hM:=hM.row (f:=rwL) (c:=2) (E:=56)
     refine seg 15 0 [(17,vL none 0 0),(74,vL p0 os.length cp0),(75,vI (os.length:Int)),(76,vI 0)] (fc (ldm 22 0 0 hM rfl rfl) f0) ?_
     have az:∀ (ar:Nat) (i:Nat) (vo:Value) (w2:World),i≤os.length→Mm (fun _=>False) w w2 [bk ab #[vL p0 os.length cp0] 24,bk ad #[vS f] 9,bk bs #[vS prof,vL qa (AS os).length ca,.map (some bo),.map (some br),.map (some bb)] 80,rw_ arL 4 47 (vL qa (AS os).length ca) (AS os),aRA (stR bo br bb no nr nb prof os T T2),mp Tryz.prog 9 aa nu (aL6 u),bk ac #[.map (some aa)] 90,mp Tryz.prog 3 b n (aFG t),rw_ rwL 2 56 vo (aC3 (os.take i) u)]→ar=os.length-i→A14 Φ (some (15,0)) [(76,vI (i:Int)),(75,vI (os.length:Int)),(74,vL p0 os.length cp0),(17,vo),(14,vP ac 0)] w2:=by
      refine aAG fun ar ak i vo w2 hi hM a6=>seg 15 1 [(77,vB (decide ((i:Int)<(os.length:Int))))] f0 ?_
      cases au:(decide ((i:Int)<(os.length:Int)))
      ·have a0:=df au
       exact rt2 10 11 vo (vI 0) rfl rfl f0 (hΦ _ _ ⟨_,_,_,rfl,.inr (.inr ⟨(fun h=>h.elim (df ae) (df af)),et ai,rfl,t,u,hT,hF,rfl⟩),(show aC3 (os.take i) u=aC3 os u by rw [List.take_of_length_le (by omega)])▸hM.pick (M':=[rw_ rwL 2 56 vo (aC3 (os.take i) u)]) [8]⟩)
      have a0:=dt au
      obtain ⟨y,hy,a7,a8,a1,a2⟩:=sp0.el (i:=i) (by omega)
      refine aCh 16 2 19 [(79,.agg #[vS y.o.id,vI y.o.kind,vI y.o.x,vI y.o.y,vL y.pr y.o.refs.length y.cr,vL y.pt y.o.tags.length y.ct])] [] 64 (.agg #[vS y.o.id,vI y.o.kind,vI y.o.x,vI y.o.y,vL y.pr y.o.refs.length y.cr,vL y.pt y.o.tags.length y.ct]) (fc (ix 22 cp0 a1 (gl hy)) (fc (la0 64 hM a2) f0)) hM fun a9 w1 hM=>aAr 17 3 84 [(81,.agg #[.map (some aa)]),(83,vS y.o.id)] (fc (lam 90 6 0 1 hM rfl) (fc (ldm 9 9 0 hM rfl rfl) f0)) hM (aMK (hM.get 5 rfl) (hob _ (gm hy)).bnd.id) fun w1 hM=>seg 18 2 [(20,vI ((u y.o.id).getD 0)),(88,vB (u y.o.id).isSome)] f0 ?_
      cases al:(u y.o.id).isSome with
      | false =>
       refine seg 15 0 [(76,vI ((i:Int)+1))] (fc (aAe (i:Int) 1 u3_) f0) ?_
       have hM:=hM.pick [0,1,2,3,4,5,6,7,8]
       replace hM:Mm (fun _=>False) w _ [bk ab #[vL p0 os.length cp0] 24,bk ad #[vS f] 9,bk bs #[vS prof,vL qa (AS os).length ca,.map (some bo),.map (some br),.map (some bb)] 80,_,_,_,bk ac #[.map (some aa)] 90,_,_]:=hM
       obtain ⟨u1,hu1⟩:∃ z,z=vo:=⟨_,rfl⟩
       rw [←hu1] at hM
       have e1:(aC3 (os.take i) u)=aC3 (os.take (i+1)) u:=by rw [aFp hy];simp only [al,Bool.and_true,Bool.true_and,Bool.false_and,Bool.and_false,cond_true,cond_false,List.append_nil]<;>rfl
       rw [e1,hu1] at hM
       exact aAb _ (ak _ (by have:=gl hy;omega) (i+1) vo _ (gl hy) hM rfl)
      | true =>
       refine seg 18 6 [(92,vB (y.o.kind==1))] (fc (ldm 3 9 1 hM rfl rfl) f0) ?_
       cases ag:(y.o.kind==1)
       ·have a3:=ef ag
        refine seg 15 0 [(76,vI ((i:Int)+1))] (fc (aAe (i:Int) 1 u3_) f0) ?_
        have hM:=hM.pick [0,1,2,3,4,5,6,7,8]
        replace hM:Mm (fun _=>False) w _ [bk ab #[vL p0 os.length cp0] 24,bk ad #[vS f] 9,bk bs #[vS prof,vL qa (AS os).length ca,.map (some bo),.map (some br),.map (some bb)] 80,_,_,_,bk ac #[.map (some aa)] 90,_,_]:=hM
        obtain ⟨u1,hu1⟩:∃ z,z=vo:=⟨_,rfl⟩
        rw [←hu1] at hM
        have e1:(aC3 (os.take i) u)=aC3 (os.take (i+1)) u:=by rw [aFp hy];simp only [al,ag,Bool.and_true,Bool.true_and,Bool.false_and,Bool.and_false,cond_true,cond_false,List.append_nil]<;>rfl
        rw [e1,hu1] at hM
        exact aAb _ (ak _ (by have:=gl hy;omega) (i+1) vo _ (gl hy) hM rfl)
       have a3:=et ag
       refine aAq 19 5 98 [(93,vo),(97,.agg #[vS y.o.id,vI ((u y.o.id).getD 0)])] (cs:=#[vS y.o.id,vI ((u y.o.id).getD 0)]) (T:=56) (v:=fun b=>vL (some ⟨b,0,none⟩) 1 1) (fc (ldm 9 9 0 hM rfl rfl) f0) hM fun ba w1 hM=>aJa 19 6 99 [] (cap:=1) (by decide) rwT f0 hM (j:=8) rfl (aAD (f:=rwL) (x:=(y.o.id,((u y.o.id).getD 0))) (hM.get 10 rfl) (Nat.lt_succ_self _)) (fun h=>by cases h) (by have:=aOC (os.take i) u;simp only [List.length_take,List.length_cons,List.length_nil] at this ⊢;omega) fun bc w1 hM=>?_
       obtain ⟨am,an,a4,-⟩:=(hM.src (j:=8) rfl rwT.len).op
       subst a4
       refine seg 15 0 [(17,vL am ((aC3 (os.take i) u)++[(y.o.id,((u y.o.id).getD 0))]).length an),(76,vI ((i:Int)+1))] (fc (aAe (i:Int) 1 u3_) f0) ?_
       have hM:=hM.pick [0,1,2,3,4,5,6,7,8]
       replace hM:Mm (fun _=>False) w _ [bk ab #[vL p0 os.length cp0] 24,bk ad #[vS f] 9,bk bs #[vS prof,vL qa (AS os).length ca,.map (some bo),.map (some br),.map (some bb)] 80,_,_,_,bk ac #[.map (some aa)] 90,_,_]:=hM
       obtain ⟨u1,hu1⟩:∃ z,z=vL am ((aC3 (os.take i) u)++[(y.o.id,((u y.o.id).getD 0))]).length an:=⟨_,rfl⟩
       rw [←hu1] at hM
       have e1:((aC3 (os.take i) u)++[(y.o.id,((u y.o.id).getD 0))])=aC3 (os.take (i+1)) u:=by rw [aFp hy];simp only [al,ag,Bool.and_true,Bool.true_and,Bool.false_and,Bool.and_false,cond_true,cond_false,List.append_nil]<;>rfl
       rw [e1,hu1] at hM
       exact aAb _ (ak _ (by have:=gl hy;omega) (i+1) (vL am ((aC3 (os.take i) u)++[(y.o.id,((u y.o.id).getD 0))]).length an) _ (gl hy) hM rfl)
     exact aAb _ (az _ 0 (vL none 0 0) _ (Nat.zero_le _) hM rfl)
   · skip
     obtain ⟨k,m,ek,hkm,ev⟩:=aQB hval345
     subst ek
     subst ev
     obtain ⟨hkl,hm1⟩:k<(AS os).length∧0≤m∧m≤6000000000:=⟨(hT.snd k m hkm).lt,htb k m hkm⟩
     have hmg:=(hT.snd k m hkm).ge hNo h0
     obtain ⟨a,ha⟩:=geb (l:=AS os) (i:=k) hkl
     refine aXE 10 0 52 [] (by decide) f0 (aRr hent) (seg 11 5 [(15,vI (k:Int)),(16,vI m),(59,vB (decide ((m-m0)≤wi)))] (fc (aBq m m0 u3_) f0) ?_)
     cases ah:(decide ((m-m0)≤wi))
     ·have a5:=df ah
      refine seg 9 0 [] f0 (aAb _ (ap _ (by rw [aq];exact hcnt345) (fun x=>left x∧x≠(vI (k:Int))) cnt345 u nu _ (hF.skip hkm (df ah) (fun j hj=>by by_cases e:j=k;exact .inr e;exact .inl fun hl=>hj ⟨hl,fun e2=>e (by injection e2 with _ e3;exact Int.ofNat.inj e3)⟩)) hM rfl))
     have a5:=dt ah
     refine seg 12 0 [] f0 ?_
     obtain ⟨bd,av,-⟩:=hM.el arT (j:=3) rfl ha
     refine drx [12] (fun γ=>[some (vB (aGc (u a.2.1) (m-m0)))]) _ (fun γ l=>[bk ab #[vL p0 os.length cp0] 24,bk ad #[vS f] 9,bk bs #[vS prof,vL qa (AS os).length ca,.map (some bo),.map (some br),.map (some bb)] 80,rw_ arL 4 47 (vL qa (AS os).length ca) (AS os),aRA (stR bo br bb no nr nb prof os T T2),(bif l.getD 0 false then mp Tryz.prog 9 aa (nu+1) (aL6 (bif aGc (u a.2.1) (m-m0) then aH6 u a.2.1 (m-m0) else u)) else mp Tryz.prog 9 aa nu (aL6 u)),bk ac #[.map (some aa)] 90,aSv Tryz.prog 3 b aj n (aFG t) (fun x=>left x∧x≠(vI (k:Int))) cnt345]) (fun γ=>[]) hM (fun γ=>rfl) (fun γ l w5 hM=>(fc (lam 90 6 0 1 hM rfl) (fc (ldm 75 2 1 hM rfl rfl) (fc (ix 75 ca av (gl ha)) (fc (ldr 9 3 1 arT hM rfl av ha rfl) (fc (aBq m m0 u3_) f0)))))) ⟨aSO 0 12 5 72 (f:=39) (fun γ=>#[.agg #[.map (some aa)],vS a.2.1,vI (m-m0),.func (.func 40) #[] #[]]) (vB (aGc (u a.2.1) (m-m0))) (mp Tryz.prog 9 aa nu (aL6 u)) (mp Tryz.prog 9 aa (nu+1) (aL6 (bif aGc (u a.2.1) (m-m0) then aH6 u a.2.1 (m-m0) else u))) (fun γ wm hH hf=>aIe hH (aGX (fun b hb=>(hmv.2 b hb).bnd) a (aDF (gm ha))).f2 (m-m0)),trivial⟩ fun be w1 hM=>?_
     replace hM:Mm (fun _=>False) w w1 [bk ab #[vL p0 os.length cp0] 24,bk ad #[vS f] 9,bk bs #[vS prof,vL qa (AS os).length ca,.map (some bo),.map (some br),.map (some bb)] 80,_,_,_,bk ac #[.map (some aa)] 90,_]:=hM
     refine seg 9 0 [] f0 (aAb _ (ap _ (by rw [aq];exact hcnt345) (fun x=>left x∧x≠(vI (k:Int))) cnt345 (bif aGc (u a.2.1) (m-m0) then aH6 u a.2.1 (m-m0) else u) (nu+1) _ (hF.step hkm ha (by omega) (dt ah) (fun j hj=>by by_cases e:j=k;exact .inr e;exact .inl fun hl=>hj ⟨hl,fun e2=>e (by injection e2 with _ e3;exact Int.ofNat.inj e3)⟩)) hM rfl))
  exact aAb _ (ay _ (fun k=>((aFG t) k).isSome=true) c341 (aH6 (fun _=>none) f 0) (0+1) _ (FirstOk.zero fun k m hk h9=>h9 (by show ((aFG t) (vI (k:Int))).isSome=true;rw [aK0,hk];rfl)) hM rfl)
def aPN (l:List ObR):Int:=(l.map fun b=>bif b.o.kind==2 then (b.o.refs.length:Int) else 0).sum
theorem aJX {l:List ObR}{i:Nat}{y:ObR}(h:l[i]?=some y):aPN (l.take (i+1))=aPN (l.take i)+bif y.o.kind==2 then (y.o.refs.length:Int) else 0:=by
  rw [gt_ h];unfold aPN;simp
def aIE (l:List ObR) (m:Nat):Bool:=decide ((l.length:Int)≤(m:Int))&&decide (aPN (l.take (m+1))≤40)
def aNr (l:List ObR):Bool:=aF0 (aAa l) 24&&aIE l 24
theorem aHJ {l:List ObR}{n:Int}(h:aF0 (aAa l) n=true):∀ b∈l,b.o.refs.length≤12:=by
  intro b hb
  unfold aF0 at h
  rw [Bool.and_eq_true] at h
  have:=List.all_eq_true.1 h.2 b.o (List.mem_map.2 ⟨b,hb,rfl⟩)
  unfold aKm at this
  simp only [Bool.and_eq_true,decide_eq_true_eq] at this
  exact this.1.1.1.1
abbrev A27 (Φ:Ending→World→Prop):=AtO Tryz.prog (aAf Tryz.f27) (aAo (bodyPost Tryz.prog Tryz.f27 Φ)) [] 44
theorem aLd {w:World}{v:Value}{os:List ObR}(hm:aCp w v os) {m:Nat}(hm9:m≤1000000) (hr:∀ b∈os,b.o.refs.length≤12):Calls Tryz.prog 27 #[.agg #[v],vI (m:Int)] w fun e w'=>e = .returned (vB (aIE os m))∧Fr (fun _=>False) w w':=by
  have hm0:=hm;obtain ⟨hs0,hob⟩:=hm0
  obtain ⟨p0,cp0,hp0,sp0⟩:=hs0.op
  subst hp0
  refine beg Tryz.func27 rfl rfl [(0,.agg #[vL p0 os.length cp0]),(1,vI (m:Int))] rfl rfl fun Φ hΦ=>?_
  have hM:=Mm.nil (fun _=>False) w
  have hmm:(m:Int)≤1000000:=by omega
  refine aAq 0 0 2 [] (cs:=#[vL p0 os.length cp0]) (T:=24) (v:=fun b=>vP b 0) f0 hM fun ad w1 hM=>seg 3 0 [(5,vI 0),(6,vI 0)] f0 ?_
  have ak:∀ (ae:Nat) (i:Nat) (n:Int) (w2:World),i≤os.length→i≤m+1→n=aPN (os.take i)→0≤n∧n≤12*(i:Int)→Mm (fun _=>False) w w2 [bk ad #[vL p0 os.length cp0] 24]→ae=os.length-i→A27 Φ (some (3,0)) [(6,vI (i:Int)),(5,vI n),(2,vP ad 0),(1,vI (m:Int))] w2:=by
   refine aAG fun ae af i n w2 hi hi2 hn hn2 hM aq=>?_
   have hm0:(m:Int)≤1000000:=hmm
   refine seg 3 6 [(12,vB (decide ((i:Int)<(os.length:Int))))] (fc (ldm 22 0 0 hM rfl rfl) f0) ?_
   cases ag:(decide ((i:Int)<(os.length:Int)))
   ·have al:=df ag
    refine seg 7 6 [(40,vB (decide ((os.length:Int)≤(m:Int))))] (fc (ldm 22 0 0 hM rfl rfl) f0) ?_
    cases aa:(decide ((os.length:Int)≤(m:Int)))
    ·have am:=df aa
     have e9:n=aPN (os.take (m+1)):=by
       rw [hn]
       congr 1
       rcases Nat.lt_or_ge m i with h | h
       · rw [show i=m+1 by omega]
       · rw [List.take_of_length_le (by omega),List.take_of_length_le (by omega)]
     exact rt1 4 (vB false) rfl f0 (hΦ _ _ ⟨by unfold aIE;rw [←e9];simp only [aa]<;>rfl,hM.fr⟩)
    have am:=dt aa
    have e9:n=aPN (os.take (m+1)):=by
      rw [hn]
      congr 1
      rcases Nat.lt_or_ge m i with h | h
      · rw [show i=m+1 by omega]
      · rw [List.take_of_length_le (by omega),List.take_of_length_le (by omega)]
    exact rt1 4 (vB (decide (n≤40))) rfl f0 (hΦ _ _ ⟨by unfold aIE;rw [←e9];simp only [aa]<;>rfl,hM.fr⟩)
   have al:=dt ag
   refine seg 3 10 [(16,vB (decide ((i:Int)≤(m:Int))))] f0 ?_
   cases ah:(decide ((i:Int)≤(m:Int)))
   rotate_left
   ·have an:=dt ah
    obtain ⟨y,hy,ar,au,ai,aj⟩:=sp0.el (i:=i) (by omega)
    refine seg 5 7 [(25,vB (y.o.kind==2))] (fc (ldm 22 0 0 hM rfl rfl) (fc (ix 22 cp0 ai (gl hy)) (fc (ld0 3 hM (aj 1 _ rfl)) f0))) ?_
    cases ab:(y.o.kind==2)
    ·have ao:=ef ab
     refine seg 3 0 [(6,vI ((i:Int)+1))] (fc (aAe (i:Int) 1 u3_) f0) (aAb _ (af _ (by have:=gl hy;omega) (i+1) n _ (gl hy) (by omega) (by rw [aJX hy,ab,hn];simp only [cond_true,cond_false,Int.add_zero]) (by have:=hr y (gm hy);omega) hM rfl))
    have ao:=et ab
    have hry:=hr y (gm hy)
    refine seg 3 0 [(5,vI (n+(y.o.refs.length:Int))),(6,vI ((i:Int)+1))] (fc (ldm 22 0 0 hM rfl rfl) (fc (ix 22 cp0 ai (gl hy)) (fc (ld0 28 hM (aj 4 _ rfl)) (fc (aAe n (y.o.refs.length:Int) u3_) (fc (aAe (i:Int) 1 u3_) f0))))) (aAb _ (af _ (by have:=gl hy;omega) (i+1) (n+(y.o.refs.length:Int)) _ (gl hy) (by omega) (by rw [aJX hy,ab,hn];simp only [cond_true,cond_false,Int.add_zero]) (by have:=hr y (gm hy);omega) hM rfl))
   have an:=df ah
   refine seg 7 6 [(40,vB (decide ((os.length:Int)≤(m:Int))))] (fc (ldm 22 0 0 hM rfl rfl) f0) ?_
   cases ac:(decide ((os.length:Int)≤(m:Int)))
   ·have ap:=df ac
    have e9:n=aPN (os.take (m+1)):=by
      rw [hn]
      congr 1
      rcases Nat.lt_or_ge m i with h | h
      · rw [show i=m+1 by omega]
      · rw [List.take_of_length_le (by omega),List.take_of_length_le (by omega)]
    exact rt1 4 (vB false) rfl f0 (hΦ _ _ ⟨by unfold aIE;rw [←e9];simp only [ac]<;>rfl,hM.fr⟩)
   have ap:=dt ac
   have e9:n=aPN (os.take (m+1)):=by
     rw [hn]
     congr 1
     rcases Nat.lt_or_ge m i with h | h
     · rw [show i=m+1 by omega]
     · rw [List.take_of_length_le (by omega),List.take_of_length_le (by omega)]
   exact rt1 4 (vB (decide (n≤40))) rfl f0 (hΦ _ _ ⟨by unfold aIE;rw [←e9];simp only [ac]<;>rfl,hM.fr⟩)
  exact aAb _ (ak _ 0 0 _ (Nat.zero_le _) (Nat.zero_le _) rfl (by omega) hM rfl)
theorem aPB {w:World}{v:Value}{os:List ObR}(hm:aCp w v os):Calls Tryz.prog 10 #[.agg #[v]] w fun e w'=>e = .returned (vB (aNr os))∧Fr (fun _=>False) w w':=by
  have hm0:=hm;obtain ⟨hs0,hob⟩:=hm0
  obtain ⟨p0,cp0,hp0,sp0⟩:=hs0.op
  subst hp0
  refine beg Tryz.func10 rfl rfl [(0,.agg #[vL p0 os.length cp0])] rfl rfl fun Φ hΦ=>?_
  have hM:=Mm.nil (fun _=>False) w
  refine aAq 0 0 1 [] (cs:=#[vL p0 os.length cp0]) (T:=24) (v:=fun b=>vP b 0) f0 hM fun ab w1 hM=>aAr 1 1 4 [(3,.agg #[vL p0 os.length cp0])] (fc (lam 24 0 0 1 hM rfl) f0) hM (aLe (hm.fr hM.fr) 24) fun w1 hM=>seg 1 3 [(5,vB (aF0 (aAa os) 24))] f0 ?_
  cases aa:(aF0 (aAa os) 24)
  ·exact rt1 2 (vB false) rfl f0 (hΦ _ _ ⟨by unfold aNr;simp only [aa]<;>rfl,hM.fr⟩)
  refine aAr 1 4 7 [(6,.agg #[vL p0 os.length cp0])] (fc (lam 24 0 0 1 hM rfl) f0) hM (aLd (m:=24) (hm.fr hM.fr) (by decide) (aHJ aa)) fun w1 hM=>rt1 2 (vB (aIE os 24)) rfl f0 (hΦ _ _ ⟨by unfold aNr;simp only [aa]<;>rfl,hM.fr⟩)
theorem aHZ {α:Type}[BEq α] [LawfulBEq α] {A B:List α}{i:Nat}(h:A.take i=B.take i) (hA:A.length≤i) (hB:B.length≤i):(A==B)=true:=by
  rw [List.take_of_length_le hA,List.take_of_length_le hB] at h;simpa using h
theorem aD2 {α:Type}{A B:List α}{i:Nat}{x y:α}(h:A.take i=B.take i) (hx:A[i]?=some x) (hy:B[i]?=some y) (e:x=y):A.take (i+1)=B.take (i+1):=by
  rw [gt_ hx,gt_ hy,h,e]
theorem aPY {α:Type}[BEq α] [LawfulBEq α] {A B:List α}{i:Nat}{x y:α}(hx:A[i]?=some x) (hy:B[i]?=some y) (e:x≠y):(A==B)=false:=by
  cases h:A==B with
  | false=>rfl
  | true=>rw [et h] at hx;rw [hx] at hy;exact absurd (Option.some.inj hy) e
theorem aLo {α:Type}[BEq α] [LawfulBEq α] {A B:List α}(h:¬ (A.length:Int)=(B.length:Int)):(A==B)=false:=by
  cases e:A==B with
  | false=>rfl
  | true=>rw [et e] at h;exact absurd rfl h
def aJx (a1:List Bys) (a2:List Int) (b1:List Bys) (b2:List Int):Bool:=(a1==b1)&&(a2==b2)
abbrev A16 (Φ:Ending→World→Prop):=AtO Tryz.prog (aAf Tryz.f16) (aAo (bodyPost Tryz.prog Tryz.f16 Φ)) [] 59
theorem aML {w:World}{p1 p2 p3 p4:Option Addr}{c1 c2 c3 c4:Nat}{A1 B1:List Bys}{A2 B2:List Int}(h1:SrcP stL 1 w p1 c1 A1) (h2:SrcP inL 1 w p2 c2 A2) (h3:SrcP stL 1 w p3 c3 B1) (h4:SrcP inL 1 w p4 c4 B2):Calls Tryz.prog 16 #[.agg #[vL p1 A1.length c1,vL p2 A2.length c2],.agg #[vL p3 B1.length c3,vL p4 B2.length c4]] w fun e w'=>e = .returned (vB (aJx A1 A2 B1 B2))∧Fr (fun _=>False) w w':=by
  have q1:=h1.bnd;have q2:=h2.bnd;have q3:=h3.bnd;have q4:=h4.bnd
  refine beg Tryz.func16 rfl rfl [(0,.agg #[vL p1 A1.length c1,vL p2 A2.length c2]),(1,.agg #[vL p3 B1.length c3,vL p4 B2.length c4])] rfl rfl fun Φ hΦ=>?_
  have hM:=Mm.nil (fun _=>False) w
  refine aAq 0 0 2 [] (cs:=#[vL p1 A1.length c1,vL p2 A2.length c2]) (T:=31) (v:=fun b=>vP b 0) f0 hM fun aa w1 hM=>aAq 0 1 3 [] (cs:=#[vL p3 B1.length c3,vL p4 B2.length c4]) (T:=31) (v:=fun b=>vP b 0) f0 hM fun ab w1 hM=>seg 1 8 [(14,vB (!((A1.length:Int)==(B1.length:Int))))] (fc (ldm 28 0 0 hM rfl rfl) (fc (ldm 28 1 0 hM rfl rfl) f0)) ?_
  cases ac:((A1.length:Int)==(B1.length:Int))
  ·have ak:=ef ac
   exact rt1 4 (vB false) rfl f0 (hΦ _ _ ⟨by unfold aJx;rw [aLo (ef ac)];rfl,hM.fr⟩)
  have ak:=et ac
  refine seg 1 16 [(22,vB (!((A2.length:Int)==(B2.length:Int))))] (fc (ldm 29 0 1 hM rfl rfl) (fc (ldm 29 1 1 hM rfl rfl) f0)) ?_
  cases ad:((A2.length:Int)==(B2.length:Int))
  ·have al:=ef ad
   exact rt1 4 (vB false) rfl f0 (hΦ _ _ ⟨by unfold aJx;rw [aLo (ef ad),Bool.and_false],hM.fr⟩)
  have al:=et ad
  refine seg 4 0 [(5,vI 0)] f0 ?_
  have am:∀ (ae:Nat) (i:Nat) (w2:World),i≤A1.length→A1.take i=B1.take i→Mm (fun _=>False) w w2 [bk aa #[vL p1 A1.length c1,vL p2 A2.length c2] 31,bk ab #[vL p3 B1.length c3,vL p4 B2.length c4] 31]→ae=A1.length-i→A16 Φ (some (4,0)) [(5,vI (i:Int)),(3,vP ab 0),(2,vP aa 0)] w2:=by
   refine aAG fun ae an i w2 hi he hM a2=>seg 4 5 [(27,vB (decide ((i:Int)<(A1.length:Int))))] (fc (ldm 28 0 0 hM rfl rfl) f0) ?_
   cases af:(decide ((i:Int)<(A1.length:Int)))
   rotate_left
   ·have ao:=dt af
    refine seg 6 0 [] f0 ?_
    have hM:=hM.q ((Fr.refl _ _).drew)
    obtain ⟨x1,hx1,a3,a4,ap,aq⟩:=h1.el (i:=i) (by omega)
    obtain ⟨y1,hy1,a5,a6,ar,au⟩:=h3.el (i:=i) (by omega)
    refine drq [(40,vB (!(x1==y1)))] rfl (fc (ldm 28 0 0 hM rfl rfl) (fc (ix 28 c1 ap (gl hx1)) (fc (ld0 9 hM (aq 0 _ rfl)) (fc (ldm 28 1 0 hM rfl rfl) (fc (ix 28 c3 ar (gl hy1)) (fc (ld0 9 hM (au 0 _ rfl)) (fc (sne 9 x1 y1) f0))))))) ?_
    cases ag:(x1==y1)
    ·exact rt1 4 (vB false) rfl f0 (hΦ _ _ ⟨by unfold aJx;rw [aPY hx1 hy1 (ef ag)];rfl,hM.fr⟩)
    refine seg 4 0 [(5,vI ((i:Int)+1))] (fc (aAe (i:Int) 1 u3_) f0) (aAb _ (an _ (by have:=gl hx1;omega) (i+1) _ (gl hx1) (aD2 he hx1 hy1 (et ag)) hM rfl))
   have ao:=df af
   refine seg 9 0 [(6,vI 0)] f0 ?_
   have av:∀ (ah:Nat) (j:Nat) (w2:World),j≤A2.length→A2.take j=B2.take j→Mm (fun _=>False) w w2 [bk aa #[vL p1 A1.length c1,vL p2 A2.length c2] 31,bk ab #[vL p3 B1.length c3,vL p4 B2.length c4] 31]→ah=A2.length-j→A16 Φ (some (9,0)) [(6,vI (j:Int)),(3,vP ab 0),(2,vP aa 0)] w2:=by
    refine aAG fun ah aw j w2 hj he2 hM a7=>seg 9 5 [(45,vB (decide ((j:Int)<(A2.length:Int))))] (fc (ldm 29 0 1 hM rfl rfl) f0) ?_
    cases ai:(decide ((j:Int)<(A2.length:Int)))
    ·have ax:=df ai
     exact rt1 4 (vB true) rfl f0 (hΦ _ _ ⟨by unfold aJx;rw [aHZ he (by omega) (by omega),aHZ he2 (by omega) (by omega)];rfl,hM.fr⟩)
    have ax:=dt ai
    refine seg 11 0 [] f0 ?_
    have hM:=hM.q ((Fr.refl _ _).drew)
    obtain ⟨x2,hx2,a8,a9,ay,az⟩:=h2.el (i:=j) (by omega)
    obtain ⟨y2,hy2,ba,bb,a0,a1⟩:=h4.el (i:=j) (by omega)
    refine drq [(58,vB (!(x2==y2)))] rfl (fc (ldm 29 0 1 hM rfl rfl) (fc (ix 29 c2 ay (gl hx2)) (fc (ld0 3 hM (az 0 _ rfl)) (fc (ldm 29 1 1 hM rfl rfl) (fc (ix 29 c4 a0 (gl hy2)) (fc (ld0 3 hM (a1 0 _ rfl)) f0)))))) ?_
    cases aj:(x2==y2)
    ·exact rt1 4 (vB false) rfl f0 (hΦ _ _ ⟨by unfold aJx;rw [aPY hx2 hy2 (ef aj),Bool.and_false],hM.fr⟩)
    refine seg 9 0 [(6,vI ((j:Int)+1))] (fc (aAe (j:Int) 1 u3_) f0) (aAb _ (aw _ (by have:=gl hx2;omega) (j+1) _ (gl hx2) (aD2 he2 hx2 hy2 (et aj)) hM rfl))
   exact aAb _ (av _ 0 _ (Nat.zero_le _) rfl hM rfl)
  exact aAb _ (am _ 0 _ (Nat.zero_le _) rfl hM rfl)
theorem aWy {w:World}(a b:Bys×Int):Ft.ok Tryz.prog w (.g2 (fun x y => .binOp .neq 56 x y 56) (.agg #[vS a.1,vI a.2]) (.agg #[vS b.1,vI b.2]) (vB (!(a==b)))):=fun o ρ x y ho hx hy=>by
  have e:(a==b)=((a.1==b.1)&&(a.2==b.2)):=rfl
  by_cases q1:a.1=b.1<;>by_cases q2:a.2=b.2<;>simp [execOp,ho,hx,hy,go_sem,Tryz.underlying56,u9_,u3_,e,aA4,q1,q2]
abbrev A17 (Φ:Ending→World→Prop):=AtO Tryz.prog (aAf Tryz.f17) (aAo (bodyPost Tryz.prog Tryz.f17 Φ)) [] 26
theorem aMU {w:World}{p1 p2:Option Addr}{c1 c2:Nat}{A B:List (Bys×Int)}(h1:SrcP rwL 2 w p1 c1 A) (h2:SrcP rwL 2 w p2 c2 B):Calls Tryz.prog 17 #[vL p1 A.length c1,vL p2 B.length c2] w fun e w'=>e = .returned (vB (A==B))∧Fr (fun _=>False) w w':=by
  have q1:=h1.bnd;have q2:=h2.bnd
  refine beg Tryz.func17 rfl rfl [(0,vL p1 A.length c1),(1,vL p2 B.length c2)] rfl rfl fun Φ hΦ=>?_
  have hM:=Mm.nil (fun _=>False) w
  refine seg 1 5 [(10,vB (!((A.length:Int)==(B.length:Int))))] f0 ?_
  cases aa:((A.length:Int)==(B.length:Int))
  ·have ae:=ef aa
   exact rt1 4 (vB false) rfl f0 (hΦ _ _ ⟨by rw [aLo (ef aa)],hM.fr⟩)
  have ae:=et aa
  refine seg 4 0 [(5,vI 0)] f0 ?_
  have af:∀ (ab:Nat) (i:Nat) (w2:World),i≤A.length→A.take i=B.take i→Mm (fun _=>False) w w2 []→ab=A.length-i→A17 Φ (some (4,0)) [(5,vI (i:Int)),(0,vL p1 A.length c1),(1,vL p2 B.length c2)] w2:=by
   refine aAG fun ab ag i w2 hi he hM am=>seg 4 4 [(14,vB (decide ((i:Int)<(A.length:Int))))] f0 ?_
   cases ac:(decide ((i:Int)<(A.length:Int)))
   ·have ah:=df ac
    exact rt1 4 (vB true) rfl f0 (hΦ _ _ ⟨by rw [aHZ he (by omega) (by omega)],hM.fr⟩)
   have ah:=dt ac
   refine seg 6 0 [] f0 ?_
   have hM:=hM.q ((Fr.refl _ _).drew)
   obtain ⟨x1,hx1,an,ao,ai,aj⟩:=h1.el (i:=i) (by omega)
   obtain ⟨y1,hy1,ap,aq,ak,al⟩:=h2.el (i:=i) (by omega)
   refine drq [(25,vB (!(x1==y1)))] rfl (fc (ix 35 c1 ai (gl hx1)) (fc (la0 56 hM aj) (fc (ix 35 c2 ak (gl hy1)) (fc (la0 56 hM al) (fc (aWy x1 y1) f0))))) ?_
   cases ad:(x1==y1)
   ·exact rt1 4 (vB false) rfl f0 (hΦ _ _ ⟨by rw [aPY hx1 hy1 (ef ad)],hM.fr⟩)
   refine seg 4 0 [(5,vI ((i:Int)+1))] (fc (aAe (i:Int) 1 u3_) f0) (aAb _ (ag _ (by have:=gl hx1;omega) (i+1) _ (gl hx1) (aD2 he hx1 hy1 (et ad)) hM rfl))
  exact aAb _ (af _ 0 _ (Nat.zero_le _) rfl hM rfl)
theorem obT:ElT Tryz.prog obL 6 22 64:=⟨fun _=>rfl,by decide,fun x u hu=>by
 unfold obL at hu
 simp only [List.mem_cons,List.not_mem_nil,or_false] at hu
 rcases hu with rfl | rfl | rfl | rfl | rfl | rfl<;>rfl,Tryz.underlying22,aBL (by kernel_rfl)⟩
def exO (l:List Ob):List Ob:=([⟨[97],1,0,0,[],[]⟩,⟨[98],1,300,0,[],[]⟩,⟨[99],1,300,400,[],[]⟩]++l)++[⟨[118],2,0,0,[[97],[98]],[([115,112,101,101,100],[49,48,48])]⟩,⟨[119],2,0,0,[[98],[99]],[([104,111,117,114,115],[109,111,32,49,58,48,48,45,50,58,48,48])]⟩]
theorem aWH:ObB ⟨[118],2,0,0,[[97],[98]],[([115,112,101,101,100],[49,48,48])]⟩:=⟨by unfold B63;decide,by unfold B63;decide,by unfold B63;decide⟩
theorem aWG:ObB ⟨[119],2,0,0,[[98],[99]],[([104,111,117,114,115],[109,111,32,49,58,48,48,45,50,58,48,48])]⟩:=⟨by unfold B63;decide,by unfold B63;decide,by unfold B63;decide⟩
theorem aIw (w:World) (id:Bys) (k x y:Int) (hid:B63 id):ObIn w (⟨⟨id,k,x,y,[],[]⟩,none,0,none,0⟩:ObR) :=
 ⟨⟨Nat.le_refl _,Nat.zero_le _,.inl rfl,fun _=>rfl⟩,⟨Nat.le_refl _,Nat.zero_le _,.inl rfl,fun _=>rfl⟩,hid,fun _ h=>(by cases h),fun _ h=>(by cases h)⟩
theorem aGM {w:World}(id:Bys) (x y:Int):Calls Tryz.prog 51 #[vS id,vI x,vI y] w fun e w'=>e = .returned (.agg #[vS id,vI 1,vI x,vI y,vL none 0 0,vL none 0 0])∧Fr (fun _=>False) w w':=by
 refine beg Tryz.func51 rfl rfl [(0,vS id),(1,vI x),(2,vI y)] rfl rfl fun Φ hΦ=>?_
 have hM:=Mm.nil (fun _=>False) w
 refine aAq 0 0 6 [] (cs:=#[vS [],vI 0,vI 0,vI 0,vL none 0 0,vL none 0 0]) (T:=64) (v:=fun b=>vP b 0) f0 hM fun aa w1 hM=>stm 1 5 [(11,.agg #[vS id,vI 1,vI x,vI y,vL none 0 0,vL none 0 0])] 64 0 0 (.agg #[vS id,vI 1,vI x,vI y,vL none 0 0,vL none 0 0]) f0 hM rfl fun w1 hM=>rtc 6 64 rfl (aAk 64 0 hM rfl rfl) f0 (hΦ _ _ ⟨rfl,hM.fr⟩)
theorem aFB {w:World}(p1 p2:Option Addr) (n1 c1 n2 c2:Nat):Calls Tryz.prog 25 #[vL p1 n1 c1,vL p2 n2 c2] w fun e w'=>e = .returned (.agg #[vL p1 n1 c1,vL p2 n2 c2])∧Fr (fun _=>False) w w':=by
 refine beg Tryz.func25 rfl rfl [(0,vL p1 n1 c1),(1,vL p2 n2 c2)] rfl rfl fun Φ hΦ=>?_
 have hM:=Mm.nil (fun _=>False) w
 refine aAq 0 0 4 [] (cs:=#[vL none 0 0,vL none 0 0]) (T:=31) (v:=fun b=>vP b 0) f0 hM fun aa w1 hM=>stm 1 3 [(7,.agg #[vL p1 n1 c1,vL p2 n2 c2])] 31 0 0 (.agg #[vL p1 n1 c1,vL p2 n2 c2]) f0 hM rfl fun w1 hM=>rtc 4 31 rfl (aAk 31 0 hM rfl rfl) f0 (hΦ _ _ ⟨rfl,hM.fr⟩)
theorem aBK {w:World}{v:Value}{L:List ObR}(hL:aCp w v L) (hl9:L.length≤1000000):Calls Tryz.prog 24 #[v] w fun e w'=>∃ v os,e = .returned (.agg #[v])∧aCp w' v os∧aAa os=exO (aAa L)∧Fr (fun _=>False) w w':=by
 obtain ⟨hs0,hob0⟩:=hL
 obtain ⟨p0,cp0,hp0,sp0⟩:=hs0.op
 subst hp0
 refine beg Tryz.func24 rfl rfl [(0,vL p0 L.length cp0)] rfl rfl fun Φ hΦ=>?_
 have hM:=Mm.nil (fun _=>False) w
 refine aAq 0 0 2 [] (cs:=#[vL none 0 0]) (T:=24) (v:=fun b=>vP b 0) f0 hM fun am w1 hM=>aAr 2 1 8 [(3,.func (.func 51) #[] #[]),(7,.func (.func 51) #[] #[])] f0 hM (aGM [97] 0 0) fun w1 hM=>aAr 2 3 10 [(9,.func (.func 51) #[] #[])] f0 hM (aGM [98] 300 0) fun w1 hM=>aAr 2 5 12 [(11,.func (.func 51) #[] #[])] f0 hM (aGM [99] 300 400) fun w1 hM=>aAq 2 6 13 [] (cs:=#[vS [97],vI 1,vI 0,vI 0,vL none 0 0,vL none 0 0,vS [98],vI 1,vI 300,vI 0,vL none 0 0,vL none 0 0,vS [99],vI 1,vI 300,vI 400,vL none 0 0,vL none 0 0]) (T:=64) (v:=fun b=>vL (some ⟨b,0,none⟩) 3 3) f0 hM fun aj w1 hM=>?_
 have hM:=aG8 hM (f:=obL) (c:=6) (j:=1) rfl [(⟨⟨[97],1,0,0,[],[]⟩,none,0,none,0⟩:ObR),(⟨⟨[98],1,300,0,[],[]⟩,none,0,none,0⟩:ObR),(⟨⟨[99],1,300,400,[],[]⟩,none,0,none,0⟩:ObR)] 3 rfl rfl rfl
 refine aJa 3 2 16 [(14,vL (some ⟨aj,0,none⟩) 3 3),(15,vL p0 L.length cp0)] (cap:=cp0) (by decide) obT f0 hM (j:=1) rfl (sp0.fr hM.fr).at_ sp0.nil (by simp only [List.length_append,List.length_cons,List.length_nil];omega) fun an w1 hM=>?_
 obtain ⟨ae,af,ak,-⟩:=(hM.src (j:=1) rfl obT.len).op
 subst ak
 refine aAq 4 0 17 [(4,vL ae ([(⟨⟨[97],1,0,0,[],[]⟩,none,0,none,0⟩:ObR),(⟨⟨[98],1,300,0,[],[]⟩,none,0,none,0⟩:ObR),(⟨⟨[99],1,300,400,[],[]⟩,none,0,none,0⟩:ObR)]++L).length af)] (cs:=#[vS [97],vS [98]]) (T:=9) (v:=fun b=>vL (some ⟨b,0,none⟩) 2 2) f0 hM fun aa w1 hM=>aAq 4 2 19 [(18,.agg #[vS [115,112,101,101,100],vS [49,48,48]])] (cs:=#[vS [115,112,101,101,100],vS [49,48,48]]) (T:=106) (v:=fun b=>vL (some ⟨b,0,none⟩) 1 1) f0 hM fun ab w1 hM=>aCh 4 4 5 [(20,.agg #[vS [118],vI 2,vI 0,vI 0,vL (some ⟨aa,0,none⟩) 2 2,vL (some ⟨ab,0,none⟩) 1 1])] [] 64 (.agg #[vS [118],vI 2,vI 0,vI 0,vL (some ⟨aa,0,none⟩) 2 2,vL (some ⟨ab,0,none⟩) 1 1]) f0 hM fun ao w1 hM=>aAq 5 0 21 [] (cs:=#[vS [98],vS [99]]) (T:=9) (v:=fun b=>vL (some ⟨b,0,none⟩) 2 2) f0 hM fun ac w1 hM=>aAq 5 2 23 [(22,.agg #[vS [104,111,117,114,115],vS [109,111,32,49,58,48,48,45,50,58,48,48]])] (cs:=#[vS [104,111,117,114,115],vS [109,111,32,49,58,48,48,45,50,58,48,48]]) (T:=106) (v:=fun b=>vL (some ⟨b,0,none⟩) 1 1) f0 hM fun ad w1 hM=>aCh 5 4 6 [(24,.agg #[vS [119],vI 2,vI 0,vI 0,vL (some ⟨ac,0,none⟩) 2 2,vL (some ⟨ad,0,none⟩) 1 1])] [] 64 (.agg #[vS [119],vI 2,vI 0,vI 0,vL (some ⟨ac,0,none⟩) 2 2,vL (some ⟨ad,0,none⟩) 1 1]) f0 hM fun ap w1 hM=>aAq 6 3 28 [(25,vL ae ([(⟨⟨[97],1,0,0,[],[]⟩,none,0,none,0⟩:ObR),(⟨⟨[98],1,300,0,[],[]⟩,none,0,none,0⟩:ObR),(⟨⟨[99],1,300,400,[],[]⟩,none,0,none,0⟩:ObR)]++L).length af),(26,.agg #[vS [118],vI 2,vI 0,vI 0,vL (some ⟨aa,0,none⟩) 2 2,vL (some ⟨ab,0,none⟩) 1 1]),(27,.agg #[vS [119],vI 2,vI 0,vI 0,vL (some ⟨ac,0,none⟩) 2 2,vL (some ⟨ad,0,none⟩) 1 1])] (cs:=#[vS [118],vI 2,vI 0,vI 0,vL (some ⟨aa,0,none⟩) 2 2,vL (some ⟨ab,0,none⟩) 1 1,vS [119],vI 2,vI 0,vI 0,vL (some ⟨ac,0,none⟩) 2 2,vL (some ⟨ad,0,none⟩) 1 1]) (T:=64) (v:=fun b=>vL (some ⟨b,0,none⟩) 2 2) (fc (lam 64 4 0 6 hM rfl) (fc (lam 64 7 0 6 hM rfl) f0)) hM fun ag w1 hM=>aJa 6 4 29 [] (cap:=2) (by decide) obT f0 hM (j:=1) rfl (aB3 (f:=obL) (c:=6) (b:=ag) (hM.get 8 (e:=bk ag #[vS [118],vI 2,vI 0,vI 0,vL (some ⟨aa,0,none⟩) 2 2,vL (some ⟨ab,0,none⟩) 1 1,vS [119],vI 2,vI 0,vI 0,vL (some ⟨ac,0,none⟩) 2 2,vL (some ⟨ad,0,none⟩) 1 1] 64) rfl) [(⟨⟨[118],2,0,0,[[97],[98]],[([115,112,101,101,100],[49,48,48])]⟩,(some ⟨aa,0,none⟩),2,(some ⟨ab,0,none⟩),1⟩:ObR),(⟨⟨[119],2,0,0,[[98],[99]],[([104,111,117,114,115],[109,111,32,49,58,48,48,45,50,58,48,48])]⟩,(some ⟨ac,0,none⟩),2,(some ⟨ad,0,none⟩),1⟩:ObR)] 2 (fun _=>rfl) rfl rfl).at_ (fun h=>by cases h) (by simp only [List.length_append,List.length_cons,List.length_nil];omega) fun aq w1 hM=>?_
 obtain ⟨ah,ai,al,-⟩:=(hM.src (j:=1) rfl obT.len).op
 subst al
 refine stm 6 6 [(30,.agg #[vL ah (([(⟨⟨[97],1,0,0,[],[]⟩,none,0,none,0⟩:ObR),(⟨⟨[98],1,300,0,[],[]⟩,none,0,none,0⟩:ObR),(⟨⟨[99],1,300,400,[],[]⟩,none,0,none,0⟩:ObR)]++L)++[(⟨⟨[118],2,0,0,[[97],[98]],[([115,112,101,101,100],[49,48,48])]⟩,(some ⟨aa,0,none⟩),2,(some ⟨ab,0,none⟩),1⟩:ObR),(⟨⟨[119],2,0,0,[[98],[99]],[([104,111,117,114,115],[109,111,32,49,58,48,48,45,50,58,48,48])]⟩,(some ⟨ac,0,none⟩),2,(some ⟨ad,0,none⟩),1⟩:ObR)]).length ai])] 24 0 0 (.agg #[vL ah (([(⟨⟨[97],1,0,0,[],[]⟩,none,0,none,0⟩:ObR),(⟨⟨[98],1,300,0,[],[]⟩,none,0,none,0⟩:ObR),(⟨⟨[99],1,300,400,[],[]⟩,none,0,none,0⟩:ObR)]++L)++[(⟨⟨[118],2,0,0,[[97],[98]],[([115,112,101,101,100],[49,48,48])]⟩,(some ⟨aa,0,none⟩),2,(some ⟨ab,0,none⟩),1⟩:ObR),(⟨⟨[119],2,0,0,[[98],[99]],[([104,111,117,114,115],[109,111,32,49,58,48,48,45,50,58,48,48])]⟩,(some ⟨ac,0,none⟩),2,(some ⟨ad,0,none⟩),1⟩:ObR)]).length ai]) f0 hM rfl fun w1 hM=>?_
 have hOb:∀ b∈(([(⟨⟨[97],1,0,0,[],[]⟩,none,0,none,0⟩:ObR),(⟨⟨[98],1,300,0,[],[]⟩,none,0,none,0⟩:ObR),(⟨⟨[99],1,300,400,[],[]⟩,none,0,none,0⟩:ObR)]++L)++[(⟨⟨[118],2,0,0,[[97],[98]],[([115,112,101,101,100],[49,48,48])]⟩,(some ⟨aa,0,none⟩),2,(some ⟨ab,0,none⟩),1⟩:ObR),(⟨⟨[119],2,0,0,[[98],[99]],[([104,111,117,114,115],[109,111,32,49,58,48,48,45,50,58,48,48])]⟩,(some ⟨ac,0,none⟩),2,(some ⟨ad,0,none⟩),1⟩:ObR)]),ObIn w1 b:=by
  intro b hb
  simp only [List.mem_append,List.mem_cons,List.not_mem_nil,or_false] at hb
  rcases hb with ((rfl | rfl | rfl) | hb) | (rfl | rfl)
  ·exact aIw _ _ _ _ _ (by unfold B63;decide)
  ·exact aIw _ _ _ _ _ (by unfold B63;decide)
  ·exact aIw _ _ _ _ _ (by unfold B63;decide)
  ·exact (hob0 b hb).fr hM.fr
  ·exact ⟨aB3 (hM.get 2 rfl) _ 2 (fun _=>rfl) rfl rfl,aB3 (hM.get 3 rfl) _ 1 (fun _=>rfl) rfl rfl,aWH⟩
  ·exact ⟨aB3 (hM.get 5 rfl) _ 2 (fun _=>rfl) rfl rfl,aB3 (hM.get 6 rfl) _ 1 (fun _=>rfl) rfl rfl,aWG⟩
 exact rtc 2 24 rfl (aAk 24 0 hM rfl rfl) f0 (hΦ _ _ ⟨_,(([(⟨⟨[97],1,0,0,[],[]⟩,none,0,none,0⟩:ObR),(⟨⟨[98],1,300,0,[],[]⟩,none,0,none,0⟩:ObR),(⟨⟨[99],1,300,400,[],[]⟩,none,0,none,0⟩:ObR)]++L)++[(⟨⟨[118],2,0,0,[[97],[98]],[([115,112,101,101,100],[49,48,48])]⟩,(some ⟨aa,0,none⟩),2,(some ⟨ab,0,none⟩),1⟩:ObR),(⟨⟨[119],2,0,0,[[98],[99]],[([104,111,117,114,115],[109,111,32,49,58,48,48,45,50,58,48,48])]⟩,(some ⟨ac,0,none⟩),2,(some ⟨ad,0,none⟩),1⟩:ObR)]),rfl,⟨hM.src (j:=1) rfl obT.len,hOb⟩,by unfold exO aAa;simp only [List.map_append,List.map_cons,List.map_nil],hM.fr⟩)
end Go.Proofs.YtbflfefahheidaaGreatDoor
namespace Go.Pl
open Go.RowKit
section
variable {P:Program}{B:Code}{R:Pst}{ds:List Deferred}{n:Nat}{p:Option (Nat×Nat)}{L N:Frm}{w:World}{r r' i':Nat}{F:List Ft}
end
section
variable {P:Program}{w w0:World}{rd:Option Nat}{B:Code}{r n:Nat}{L:Frm}{ef:List Nat}{V:Lts→List (Option Value)}{F:Lts→List Ft}{ds:List Deferred}{F0:Nat→Prop}{Mf:Lts→List Bool→List Ent}
theorem aIS (p i d:Nat) {f:FuncId}(args:Lts→Array Value) (v:Value)
  (hc:∀ γ fr wm,Mm F0 w0 wm (Mf γ (flg B r ef i fr))→Calls P f (args γ) wm fun x w'=>x = .returned v∧Fr (fun _=>False) wm w')
  (hm:∀ γ fr,Mf γ (flg B r ef i fr)=Mf (aDq γ p v) ((flg B r ef i fr).set p true):=by intro γ fr;kernel_rfl)
  (hV:∀ γ,((V (aDq γ p v))[p]?).getD none=some v:=by intro γ;rfl)
  (hs:∀ γ wm,enL P wm (aAE B r) i (frX P w n B r L ef V F i γ)=some (f,args γ,some d,wm):=by intro γ wm;kernel_rfl):Arm rd P w n B r L ef V F ds F0 w0 Mf p i:=by
 intro γ fr a wm Q o ho En hw hM
 obtain ⟨h1,h2⟩:=aUm ho En (hs γ wm)
 refine aGe (R:=fun u w'=>u=v∧Fr (fun _=>False) wm w') h1 ((hc γ fr wm hM).mono fun x w' ⟨g1,g2⟩=>⟨v,g1,rfl,g2⟩) fun u w' ⟨hu,g1⟩=>?_
 subst hu
 have hM':=hM.q g1
 rw [hm] at hM'
 exact ⟨u,γ.e p,by rw [aA7,hV,h2];rfl,by rw [aA7];exact hM'⟩
end
end Go.Pl
namespace Go.Proofs.YtbflfefahheidaaGreatDoor
open Go.RowKit Go.Pl
def aVX (N:Bys→Bool) (l:List Ob) (id:Bys):Option Ob:=l.foldl (fun r o=>bif ((o.kind==2)&&o.refs.all N)&&(o.id==id) then some o else r) none
theorem aUM (N:Bys→Bool) (os:List ObR) (id:Bys):(aHR N os id).map (·.o)=aVX N (aAa os) id:=by
 have key:∀ (os:List ObR) (r:Option ObR),(os.foldl (fun r b=>bif ((b.o.kind==2)&&b.o.refs.all N)&&(b.o.id==id) then some b else r) r).map (·.o)=(aAa os).foldl (fun r o=>bif ((o.kind==2)&&o.refs.all N)&&(o.id==id) then some o else r) (r.map (·.o)):=by
  intro os
  induction os with
  | nil=>intro r;rfl
  | cons b os ih =>
   intro r
   rw [List.foldl_cons,ih,show aAa (b::os)=b.o::aAa os from rfl,List.foldl_cons]
   cases ((b.o.kind==2)&&b.o.refs.all N)&&(b.o.id==id)<;>rfl
 exact key os none
def aN6 (l:List Ob) (o:Ob):List Arc:=bif o.kind==2 then (match aVX (aAg l) l o.id with | some c=>aFg l o.id c.refs | none=>[]) else []
def asP (l:List Ob):List Arc:=l.flatMap (aN6 l)
def asQ (l:List Ob):List Arc:=aCe (asP l)
theorem aQa (os:List ObR):aAv os=asP (aAa os):=by
 unfold aAv asP
 have e:∀ b,aDn os b=aN6 (aAa os) b.o:=fun b=>by
  unfold aDn aN6
  rw [←aUM]
  cases aHR (aAg (aAa os)) os b.o.id<;>rfl
 rw [show aDn os=fun b=>aN6 (aAa os) b.o from funext e]
 show os.flatMap _=(os.map _).flatMap _
 rw [List.flatMap_map]
theorem aUH (os:List ObR):AS os=asQ (aAa os):=by unfold asQ;rw [←aQa]
def aIj (prof:Bys) (l:List Ob) (id:Bys):Road:=match ((l.filter fun o=>o.kind==2).reverse).find? fun o=>o.id==id with
 | some o=>aAt prof o
 | none=>aVh
theorem aT3 (prof:Bys) (os:List ObR) (id:Bys):aHj prof os id=aIj prof (aAa os) id:=by
 unfold aHj aIj
 have e:(((aAa os).filter fun o=>o.kind==2).reverse).find? (fun o=>o.id==id)=((aBN os).find? fun b=>b.o.id==id).map (·.o):=by
  unfold aBN aAa
  rw [List.filter_map,←List.map_reverse,List.find?_map]
  rfl
 rw [e]
 cases (aBN os).find? (fun b=>b.o.id==id)<;>rfl
def aRX (prof:Bys) (l:List Ob):List Tri:=bif prof==aEW then [] else (l.filter fun o=>o.kind==5).map aTe
theorem aVQ (prof:Bys) (os:List ObR):aBY prof os=aRX prof (aAa os):=by
 unfold aBY aRX aAa
 rw [List.filter_map,List.map_map]
 rfl
def aNf (r:Road) (a:Arc) (minute:Int):Option Int :=
 bif r.closed||(r.oneway && !fwd a.1 a.2.1 r.refs)||decide (1000000000<minute) then none
 else bif r.limited then
  (bif !((aAy r.hours minute).2)||decide (1000000000<(aAy r.hours minute).1) then none else some ((aAy r.hours minute).1+(a.2.2.2+r.speed-1) / r.speed))
 else some (minute+(a.2.2.2+r.speed-1) / r.speed)
def aFd (prof:Bys) (l:List Ob) (a b:Arc):Bool:=(a.2.1==b.1) && !((aRX prof l).contains (a.2.2.1,a.2.1,b.2.2.1))
def aHm (prof:Bys) (l:List Ob) (f:Bys):NetW where
 n:=(asQ l).length
 st i:=match (asQ l)[i]? with | some a=>a.1==f | none=>false
 ps i m:=match (asQ l)[i]? with | some a=>aNf (aIj prof l a.2.2.1) a m | none=>none
 al i k:=match (asQ l)[i]?,(asQ l)[k]? with | some a,some b=>aFd prof l a b | _,_=>false
theorem aKP (prof:Bys) (os:List ObR) (f:Bys):aAi prof os f=aHm prof (aAa os) f:=by
 unfold aAi aHm
 have e1:∀ a m,aBO prof os a m=aNf (aIj prof (aAa os) a.2.2.1) a m:=fun a m=>by
  unfold aBO;rw [aT3];rfl
 have e2:∀ a b,aEp prof os a b=aFd prof (aAa os) a b:=fun a b=>by
  unfold aEp aFd;rw [aVQ]
 simp only [e1,e2,aUH]<;>rfl
def aJI (l:List Ob) (id:Bys):Int:=match l[(aAm l id).toNat]? with
 | some o=>o.kind
 | none=>0
theorem aUa (os:List ObR) (id:Bys):aR8 os id=aJI (aAa os) id:=by
 unfold aR8 aJI
 rw [show (aAa os)[(aAm (aAa os) id).toNat]?=(os[(aAm (aAa os) id).toNat]?).map (·.o) from by unfold aAa;rw [List.getElem?_map]]
 cases os[(aAm (aAa os) id).toNat]?<;>rfl
def aNy (l:List Ob) (prof:Bys) (m0:Int) (ids:List Bys):Int :=
 bif !(aAd l)||(!(aA2 prof)||(decide (m0<0)||decide (9999999<m0))) then 1
 else bif ids.any (fun id=>decide (aAm l id<0)) then 11
 else bif ids.any (fun id => !(aJI l id==1)) then 13 else 0
theorem aSK (os:List ObR) (prof:Bys) (m0:Int) (ids:List Bys):aFh os prof m0 ids=aNy (aAa os) prof m0 ids:=by
 unfold aFh aNy
 rw [show aEO os=fun id => !(aJI (aAa os) id==1) from funext fun id=>by unfold aEO;rw [aUa]]
def aKi (prof:Bys) (l:List Ob) (f g:Bys) (m0 c:Int) (nd:List Bys) (mi:List Int):Prop :=
 (¬ aNy l prof m0 [f,g]=0∧c=aNy l prof m0 [f,g]∧nd=[]∧mi=[])∨(aNy l prof m0 [f,g]=0∧f=g∧c=0∧nd=[f]∧mi=[m0]) ∨
 (aNy l prof m0 [f,g]=0∧f≠g∧∃ t,Tab (aHm prof l f) m0 t∧((aAM (asQ l) t g (asQ l).length=none∧c=12∧nd=[]∧mi=[]) ∨
  ∃ i,aAM (asQ l) t g (asQ l).length=some i∧c=0∧nd=((bkP (aHm prof l f) m0 t i).map (toN (asQ l))++[f]).reverse∧mi=((bkP (aHm prof l f) m0 t i).map (fun j=>(t j).getD 0)++[m0]).reverse))
theorem aOe {prof:Bys}{os:List ObR}{f g:Bys}{m0 c:Int}{nd:List Bys}{mi:List Int}(h:aQh prof os f g m0 c nd mi):aKi prof (aAa os) f g m0 c nd mi:=by
 unfold aQh at h
 rw [aSK,aKP,aUH] at h
 exact h
def aQW (l:List Ob) (u:Bys→Option Int):List (Bys×Int):=l.flatMap fun o=>bif (u o.id).isSome&&(o.kind==1) then [(o.id,(u o.id).getD 0)] else []
def aQi (prof:Bys) (l:List Ob) (f:Bys) (wi m0 c:Int) (rows:List (Bys×Int)):Prop :=
 ((wi<0∨10080<wi)∧c=1∧rows=[])∨(¬ (wi<0∨10080<wi)∧¬ aNy l prof m0 [f]=0∧c=aNy l prof m0 [f]∧rows=[]) ∨
 (¬ (wi<0∨10080<wi)∧aNy l prof m0 [f]=0∧c=0∧∃ t u,Tab (aHm prof l f) m0 t∧FirstOk (asQ l) t f m0 wi (fun _=>True) u∧rows=aQW l u)
theorem aRd {prof:Bys}{os:List ObR}{f:Bys}{wi m0 c:Int}{rows:List (Bys×Int)}(h:aM6 prof os f wi m0 c rows):aQi prof (aAa os) f wi m0 c rows:=by
 unfold aM6 at h
 rw [aSK,aKP,aUH] at h
 have e:∀ u,aC3 os u=aQW (aAa os) u:=fun u=>by
  unfold aC3 aQW aAa;rw [List.flatMap_map]
 simp only [e] at h
 exact h
theorem aPQ {l:List Ob}{prof:Bys}{m0:Int}{ids:List Bys}(h:aNy l prof m0 ids=0):aAd l=true∧aA2 prof=true∧0≤m0∧m0≤9999999∧(∀ id∈ids,¬ aAm l id<0)∧∀ id∈ids,aJI l id=1:=by
 unfold aNy at h
 cases h1:(!(aAd l)||(!(aA2 prof)||(decide (m0<0)||decide (9999999<m0)))) with
 | true=>rw [h1] at h;cases h
 | false =>
  rw [h1] at h
  simp only [Bool.or_eq_false_iff,Bool.not_eq_false',decide_eq_false_iff_not] at h1
  cases h2:ids.any (fun id=>decide (aAm l id<0)) with
  | true=>rw [h2] at h;cases h
  | false =>
   rw [h2] at h
   cases h3:ids.any (fun id => !(aJI l id==1)) with
   | true=>rw [h3] at h;cases h
   | false =>
    rw [List.any_eq_false] at h2 h3
    exact ⟨h1.1,h1.2.1,by omega,by omega,fun id hi=>by simpa using h2 id hi,fun id hi=>by simpa using h3 id hi⟩
theorem aDX {l:List Ob}(h:aAd l=true):∀ o∈l,aA5 o=true:=by
 unfold aAd at h
 rw [Bool.and_eq_true] at h
 exact aHU h.1
def aWB (prof:Bys) (l:List Ob) (A:List Arc) (f:Bys):NetW where
 n:=A.length
 st i:=match A[i]? with | some a=>a.1==f | none=>false
 ps i m:=match A[i]? with | some a=>aNf (aIj prof l a.2.2.1) a m | none=>none
 al i k:=match A[i]?,A[k]? with | some a,some b=>aFd prof l a b | _,_=>false
theorem aLU (prof:Bys) (l:List Ob) (f:Bys):aHm prof l f=aWB prof l (asQ l) f:=rfl
def leB (t:Nat→Option Int) (k:Nat) (o:Option Int):Bool:=match o with
 | none=>true
 | some x=>match t k with
  | some y=>decide (y≤x)
  | none=>false
theorem aS5 {t:Nat→Option Int}{k:Nat}{o:Option Int}(h:leB t k o=true):∀ x,o=some x→∃ y,y≤x∧t k=some y:=by
 rintro x rfl
 unfold leB at h
 cases ht:t k with
 | none=>rw [ht] at h;cases h
 | some y=>rw [ht] at h;exact ⟨y,of_decide_eq_true h,rfl⟩
def aXQ (N:NetW) (m0:Int) (t:Nat→Option Int) (pr:Nat→Option Nat):Bool :=
 (List.range N.n).all fun i=>(!(N.st i)||leB t i (N.ps i m0))&&(match t i with
  | none=>true
  | some m=>((List.range N.n).all fun k => !(N.al i k)||leB t k (N.ps k m))&&decide (0≤m)&&(match pr i with
   | none=>N.st i&&(N.ps i m0==some m)
   | some j=>match t j with
    | some m'=>N.al j i&&(N.ps i m'==some m)&&decide (m'<m)
    | none=>false))
theorem aKz {N:NetW}{m0:Int}{t:Nat→Option Int}{pr:Nat→Option Nat}(h:aXQ N m0 t pr=true) (ho:∀ i,N.n≤i→t i=none):Tab N m0 t:=by
 have h9:∀ i,i<N.n→_:=fun i hi=>List.all_eq_true.1 h i (List.mem_range.2 hi)
 have hlt:∀ i m,t i=some m→i<N.n:=fun i m e=>by
  rcases Nat.lt_or_ge i N.n with q | q
  ·exact q
  ·rw [ho i q] at e;cases e
 have hsnd:∀ (k:Nat) i m,t i=some m→m.toNat≤k→Rch N m0 i m:=by
  intro k
  induction k using Nat.strongRecOn with
  | _ k ih =>
   intro i m e hk
   have hi:=hlt i m e
   have q:=h9 i hi
   rw [Bool.and_eq_true,e] at q
   have q:=q.2
   simp only [Bool.and_eq_true,decide_eq_true_eq] at q
   obtain ⟨⟨_,q2⟩,q3⟩:=q
   cases hp:pr i with
   | none =>
    rw [hp] at q3
    simp only [Bool.and_eq_true,beq_iff_eq] at q3
    exact .base hi q3.1 q3.2
   | some j =>
    rw [hp] at q3
    simp only at q3
    cases hj:t j with
    | none=>rw [hj] at q3;cases q3
    | some m' =>
     rw [hj] at q3
     simp only [Bool.and_eq_true,beq_iff_eq,decide_eq_true_eq] at q3
     obtain ⟨⟨q4,q5⟩,q6⟩:=q3
     have qj:=h9 j (hlt j m' hj)
     rw [Bool.and_eq_true,hj] at qj
     have qj:=qj.2
     simp only [Bool.and_eq_true,decide_eq_true_eq] at qj
     have:=qj.1.2
     exact .step (ih m'.toNat (by omega) j m' hj (Nat.le_refl _)) hi q4 q5
 refine ⟨fun i m e=>hsnd m.toNat i m e (Nat.le_refl _),fun i hi hs x hx=>?_,fun i m e k hk ha x hx=>?_⟩
 ·have q:=h9 i hi
  rw [Bool.and_eq_true] at q
  have q:=q.1
  rw [hs] at q
  exact aS5 q x hx
 ·have q:=h9 i (hlt i m e)
  rw [Bool.and_eq_true,e] at q
  have q:=q.2
  simp only [Bool.and_eq_true] at q
  have q:=List.all_eq_true.1 q.1.1 k (List.mem_range.2 hk)
  rw [ha] at q
  exact aS5 q x hx
def tbL (l:List (Option Int)):Nat→Option Int:=fun i=>(l[i]?).getD none
theorem aKy {l:List (Option Int)}{i:Nat}(h:l.length≤i):tbL l i=none:=by unfold tbL;rw [List.getElem?_eq_none h];rfl
def exA:List Arc:=[([97],[98],[118],300),([98],[97],[118],300),([98],[99],[119],400),([99],[98],[119],400)]
def aB1:Ob:=⟨[116],5,0,0,[[118],[98],[119]],[]⟩
theorem aT1:aB5 90000=300:=by
 unfold aB5
 rw [show decide ((90000:Int)<0)=false from rfl]
 show ((aCa 90000:Nat):Int)=300
 rw [aEH (r:=300) (by decide) (by decide)];rfl
theorem aT0:aB5 160000=400:=by
 unfold aB5
 rw [show decide ((160000:Int)<0)=false from rfl]
 show ((aCa 160000:Nat):Int)=400
 rw [aEH (r:=400) (by decide) (by decide)];rfl
section
variable {l:List Ob}
theorem aV8 (hl:l=[]∨l=[aB1]):aAA (exO l) [97] [98]=300∧aAA (exO l) [98] [97]=300∧aAA (exO l) [98] [99]=400∧aAA (exO l) [99] [98]=400:=by
 have h3:max 1 (aB5 90000)=300:=by rw [aT1];decide
 have h4:max 1 (aB5 160000)=400:=by rw [aT0];decide
 unfold aAA
 rcases hl with rfl | rfl
 ·rw [show aAN ((aA8 (exO []) [97]).getD (0,0)) ((aA8 (exO []) [98]).getD (0,0))=90000 by decide +kernel,show aAN ((aA8 (exO []) [98]).getD (0,0)) ((aA8 (exO []) [97]).getD (0,0))=90000 by decide +kernel,show aAN ((aA8 (exO []) [98]).getD (0,0)) ((aA8 (exO []) [99]).getD (0,0))=160000 by decide +kernel,show aAN ((aA8 (exO []) [99]).getD (0,0)) ((aA8 (exO []) [98]).getD (0,0))=160000 by decide +kernel]
  exact ⟨h3,h3,h4,h4⟩
 ·rw [show aAN ((aA8 (exO [aB1]) [97]).getD (0,0)) ((aA8 (exO [aB1]) [98]).getD (0,0))=90000 by decide +kernel,show aAN ((aA8 (exO [aB1]) [98]).getD (0,0)) ((aA8 (exO [aB1]) [97]).getD (0,0))=90000 by decide +kernel,show aAN ((aA8 (exO [aB1]) [98]).getD (0,0)) ((aA8 (exO [aB1]) [99]).getD (0,0))=160000 by decide +kernel,show aAN ((aA8 (exO [aB1]) [99]).getD (0,0)) ((aA8 (exO [aB1]) [98]).getD (0,0))=160000 by decide +kernel]
  exact ⟨h3,h3,h4,h4⟩
theorem aV9 (hl:l=[]∨l=[aB1]):asP (exO l)=exA:=by
 obtain ⟨h1,h2,h3,h4⟩:=aV8 hl
 have e:asP (exO l)=[([97],[98],[118],aAA (exO l) [97] [98]),([98],[97],[118],aAA (exO l) [97] [98]),([98],[99],[119],aAA (exO l) [98] [99]),([99],[98],[119],aAA (exO l) [98] [99])]:=by
  rcases hl with rfl | rfl<;>kernel_rfl
 rw [e,h1,h3];rfl
theorem aGL (hl:l=[]∨l=[aB1]):asQ (exO l)=exA:=by
 unfold asQ;rw [aV9 hl];decide +kernel
end
def car:Bys:=[99,97,114]
theorem aLf:Tab (aHm car (exO []) [97]) 10 (tbL [some 13,some 16,some 64,some 68]):=by
 rw [aLU,aGL (.inl rfl)]
 exact aKz (pr:=fun i=>[none,some 0,some 0,some 2].getD i none) (by decide +kernel) fun i hi=>aKy hi
theorem aUk:Tab (aHm car (exO [aB1]) [97]) 10 (tbL [some 13,some 16,none,none]):=by
 rw [aLU,aGL (.inr rfl)]
 exact aKz (pr:=fun i=>[none,some 0,none,none].getD i none) (by decide +kernel) fun i hi=>aKy hi
theorem aUj:Tab (aHm aEW (exO [aB1]) [97]) 10 (tbL [some 13,some 16,some 64,some 68]):=by
 rw [aLU,aGL (.inr rfl)]
 exact aKz (pr:=fun i=>[none,some 0,some 0,some 2].getD i none) (by decide +kernel) fun i hi=>aKy hi
theorem aSB:∀ a∈exA,ArcB a:=by
 intro a ha
 unfold exA at ha
 simp only [List.mem_cons,List.not_mem_nil,or_false] at ha
 rcases ha with rfl | rfl | rfl | rfl<;>exact ⟨by unfold B63;decide,by unfold B63;decide,by unfold B63;decide,by decide,by decide⟩
def cn (l:List Ob):List ObR:=l.map fun o=>⟨o,none,0,none,0⟩
theorem aOK (l:List Ob):aAa (cn l)=l:=by unfold aAa cn;rw [List.map_map];exact List.map_id l
theorem aI2 {prof:Bys}{l:List Ob}(h:∀ a∈asQ l,ArcB a) (f:Bys):(aHm prof l f).Ok 6000000000:=by
 have:=aFT (prof:=prof) (os:=cn l) (by rw [aUH,aOK];exact h) f
 rw [aKP,aOK] at this
 exact this
theorem aIF {prof f g:Bys}{l:List Ob}{T:List (Option Int)}(hl:l=[]∨l=[aB1]) (hc:aNy (exO l) prof 10 [f,g]=0) (hfg:f≠g) (hT0:Tab (aHm prof (exO l) f) 10 (tbL T)) {c:Int}{nd:List Bys}{mi:List Int}(h:aKi prof (exO l) f g 10 c nd mi) :
  (aAM exA (tbL T) g 4=none∧c=12∧nd=[]∧mi=[])∨∃ i,aAM exA (tbL T) g 4=some i∧c=0∧nd=((bkP (aWB prof (exO l) exA f) 10 (tbL T) i).map (toN exA)++[f]).reverse∧mi=((bkP (aWB prof (exO l) exA f) 10 (tbL T) i).map (fun j=>(tbL T j).getD 0)++[10]).reverse:=by
 rcases h with ⟨h1,_⟩ | ⟨_,h2,_⟩ | ⟨_,_,t,hT,h3⟩
 ·exact absurd hc h1
 ·exact absurd h2 hfg
 ·have hok:=aI2 (prof:=prof) (l:=exO l) (by rw [aGL hl];exact aSB) f
  have e:=hT.uniq hok (by decide) hT0
  subst e
  rw [aLU,aGL hl] at h3
  exact h3
theorem aXN {c:Int}{nd:List Bys}{mi:List Int}(h:aKi car (exO []) [97] [98] 10 c nd mi):c=0∧nd=[[97],[98]]∧mi=[10,13]:=by
 rcases aIF (.inl rfl) (by decide +kernel) (by decide) aLf h with ⟨h1,_⟩ | ⟨i,hi,rfl,rfl,rfl⟩
 ·exact absurd h1 (by decide +kernel)
 ·rw [show aAM exA (tbL [some 13,some 16,some 64,some 68]) [98] 4=some 0 by decide +kernel] at hi
  cases hi
  exact ⟨rfl,by decide +kernel,by decide +kernel⟩
theorem aXM {c:Int}{nd:List Bys}{mi:List Int}(h:aKi car (exO []) [97] [99] 10 c nd mi):c=0∧nd=[[97],[98],[99]]∧mi=[10,13,64]:=by
 rcases aIF (.inl rfl) (by decide +kernel) (by decide) aLf h with ⟨h1,_⟩ | ⟨i,hi,rfl,rfl,rfl⟩
 ·exact absurd h1 (by decide +kernel)
 ·rw [show aAM exA (tbL [some 13,some 16,some 64,some 68]) [99] 4=some 2 by decide +kernel] at hi
  cases hi
  exact ⟨rfl,by decide +kernel,by decide +kernel⟩
theorem aXL {c:Int}{nd:List Bys}{mi:List Int}(h:aKi car (exO [aB1]) [97] [99] 10 c nd mi):c=12∧nd=[]∧mi=[]:=by
 rcases aIF (.inr rfl) (by decide +kernel) (by decide) aUk h with ⟨_,h2⟩ | ⟨i,hi,_⟩
 ·exact h2
 ·exact absurd hi (by rw [show aAM exA (tbL [some 13,some 16,none,none]) [99] 4=none by decide +kernel];simp)
theorem aXK {c:Int}{nd:List Bys}{mi:List Int}(h:aKi aEW (exO [aB1]) [97] [99] 10 c nd mi):c=0∧nd=[[97],[98],[99]]∧mi=[10,13,64]:=by
 rcases aIF (.inr rfl) (by decide +kernel) (by decide) aUj h with ⟨h1,_⟩ | ⟨i,hi,rfl,rfl,rfl⟩
 ·exact absurd h1 (by decide +kernel)
 ·rw [show aAM exA (tbL [some 13,some 16,some 64,some 68]) [99] 4=some 2 by decide +kernel] at hi
  cases hi
  exact ⟨rfl,by decide +kernel,by decide +kernel⟩
theorem exR {c:Int}{rows:List (Bys×Int)}(h:aQi car (exO []) [97] 54 10 c rows):c=0∧rows=[([97],0),([98],3),([99],54)]:=by
 rcases h with ⟨h1,_⟩ | ⟨_,h1,_⟩ | ⟨_,_,rfl,t,u,hT,hu,rfl⟩
 ·omega
 ·exact absurd (by decide +kernel:aNy (exO []) car 10 [[97]]=0) h1
 ·have hok:=aI2 (prof:=car) (l:=exO []) (by rw [aGL (.inl rfl)];exact aSB) [97]
  have e:=hT.uniq hok (by decide) aLf
  subst e
  rw [aGL (.inl rfl)] at hu
  have key:∀ s d,s≠[97]→u s=some d→∃ k,k<4∧∃ m a,tbL [some 13,some 16,some 64,some 68] k=some m∧exA[k]?=some a∧a.2.1=s∧d=m-10∧d≤54:=fun s d hs hd=>by
   obtain ⟨k,m,a,h1,h2,h3⟩:=hu.snd s d hs hd
   exact ⟨k,gl h2,m,a,h1,h2,h3⟩
  have hb:u [98]=some 3:=by
   obtain ⟨d,h1,h2⟩:=hu.cmp 0 13 ([97],[98],[118],300) trivial rfl rfl (by decide)
   have h2:u [98]=some d:=h2
   obtain ⟨k,hk,m,a,g1,g2,g3,g4,g5⟩:=key _ _ (by decide) h2
   rw [h2]
   match k,hk with
   | 0,_=>cases g1;rw [g4];rfl
   | 1,_=>cases g2;cases g3
   | 2,_=>cases g2;cases g3
   | 3,_=>cases g1;omega
  have hc:u [99]=some 54:=by
   obtain ⟨d,h1,h2⟩:=hu.cmp 2 64 ([98],[99],[119],400) trivial rfl rfl (by decide)
   have h2:u [99]=some d:=h2
   obtain ⟨k,hk,m,a,g1,g2,g3,g4,g5⟩:=key _ _ (by decide) h2
   rw [h2]
   match k,hk with
   | 0,_=>cases g2;cases g3
   | 1,_=>cases g2;cases g3
   | 2,_=>cases g1;rw [g4];rfl
   | 3,_=>cases g2;cases g3
  refine ⟨rfl,?_⟩
  unfold aQW exO
  simp only [List.append_nil,List.cons_append,List.nil_append,List.flatMap_cons,List.flatMap_nil,hu.own,hb,hc]
  cases u [118]<;>cases u [119]<;>rfl
theorem aHV {prof:Bys}{os:List ObR}{l:List Ob}{f g:Bys}{m0 c:Int}{nd:List Bys}{mi:List Int}(hp:aAa os=l) (h:aQh prof os f g m0 c nd mi):aKi prof l f g m0 c nd mi:=by subst hp;exact aOe h
theorem aRc {prof:Bys}{os:List ObR}{l:List Ob}{f:Bys}{wi m0 c:Int}{rows:List (Bys×Int)}(hp:aAa os=l) (h:aM6 prof os f wi m0 c rows):aQi prof l f wi m0 c rows:=by subst hp;exact aRd h
theorem aMM (a:List Bys) (b:List Int):aJx a b a b=true:=by unfold aJx;simp
theorem aK6 {w:World}{p1 p2 p3 p4:Option Addr}{n1 n2 n3 n4 c1 c2 c3 c4:Nat}{A1:List Bys}{A2:List Int}(e1:n1=A1.length) (e2:n2=A2.length) (e3:n3=A1.length) (e4:n4=A2.length) (h1:SrcP stL 1 w p1 c1 A1) (h2:SrcP inL 1 w p2 c2 A2) (h3:SrcP stL 1 w p3 c3 A1) (h4:SrcP inL 1 w p4 c4 A2):Calls Tryz.prog 16 #[.agg #[vL p1 n1 c1,vL p2 n2 c2],.agg #[vL p3 n3 c3,vL p4 n4 c4]] w fun e w'=>e = .returned (vB true)∧Fr (fun _=>False) w w':=by
 subst e1;subst e2;subst e3;subst e4
 exact aMM A1 A2▸aML h1 h2 h3 h4
theorem aTz {w:World}{p1 p2:Option Addr}{n1 n2 c1 c2:Nat}{A:List (Bys×Int)}(e1:n1=A.length) (e2:n2=A.length) (h1:SrcP rwL 2 w p1 c1 A) (h2:SrcP rwL 2 w p2 c2 A):Calls Tryz.prog 17 #[vL p1 n1 c1,vL p2 n2 c2] w fun e w'=>e = .returned (vB true)∧Fr (fun _=>False) w w':=by
 subst e1;subst e2
 exact (show (A==A)=true by simp)▸aMU h1 h2
theorem aGK {os:List ObR}{l:List Ob}(hl:l=[]∨l=[aB1]) (h:aAa os=exO l):(aAv os).length≤240:=by
 rw [aQa,h,aV9 hl];decide
theorem aRI:ObB aB1:=⟨by unfold B63;decide,by unfold B63;decide,by unfold B63;decide⟩
theorem aPC {w:World}{b1 b2:Nat}{T1 T2:TypeId}(h1:w.heap[b1]?=some (.cells #[vS [118],vS [98],vS [119]] T1 (0,0))) (h2:w.heap[b2]?=some (.cells #[vS [116],vI 5,vI 0,vI 0,vL (some ⟨b1,0,none⟩) 3 3,vL none 0 0] T2 (0,0))):∃ L:List ObR,aCp w (vL (some ⟨b2,0,none⟩) 1 1) L∧aAa L=[aB1]∧L.length≤1000000:=by
 refine ⟨[⟨aB1,some ⟨b1,0,none⟩,3,none,0⟩],⟨(aB3 (f:=obL) (c:=6) h2 [⟨aB1,some ⟨b1,0,none⟩,3,none,0⟩] 1 (fun _=>rfl) rfl rfl).src,fun b hb=>?_⟩,rfl,show 1≤1000000 by decide⟩
 rw [List.mem_singleton] at hb
 subst hb
 exact ⟨aB3 (f:=stL) (c:=1) h1 _ 3 (fun _=>rfl) rfl rfl,⟨Nat.le_refl _,Nat.zero_le _,.inl rfl,fun _=>rfl⟩,aRI⟩
theorem aNq {w:World}(hTe:Te w):Calls Tryz.prog 9 #[] w fun e w'=>e = .returned (vB true)∧Fr (fun _=>False) w w':=by
 refine beg Tryz.func9 rfl rfl [] rfl rfl fun Φ hΦ=>?_
 have hM:=Mm.nil (fun _=>False) w
 refine aAq 1 0 14 [] (cs:=#[vS [118],vS [98],vS [119]]) (T:=9) (v:=fun b=>vL (some ⟨b,0,none⟩) 3 3) f0 hM fun aa w1 hM=>aCh 1 2 1 [(15,.agg #[vS [116],vI 5,vI 0,vI 0,vL (some ⟨aa,0,none⟩) 3 3,vL none 0 0])] [] 64 (.agg #[vS [116],vI 5,vI 0,vI 0,vL (some ⟨aa,0,none⟩) 3 3,vL none 0 0]) f0 hM fun ac w1 hM=>aN1 2 0 17 [] (K:=fun u w8=>∃ v os,u = .agg #[v]∧aCp w8 v os∧aAa os=exO []) f0 hM ((aBK (L:=[]) ⟨Src.nil _,fun _ h=>by cases h⟩ (by decide)).mono fun e w8 ⟨v,os,h1,h2,h3,h4⟩=>⟨⟨_,h1,v,os,rfl,h2,h3⟩,h4⟩) fun u w1 ⟨an,os486,hu,hO486,hp486⟩ hM f1=>?_
 subst hu
 replace hM:Mm (fun _=>False) w w1 [bk aa #[vS [118],vS [98],vS [119]] 9,bk ac #[vS [116],vI 5,vI 0,vI 0,vL (some ⟨aa,0,none⟩) 3 3,vL none 0 0] 64]:=hM
 refine aAO 2 1 18 [] (K:=fun u Mn=>∃ v1 v2,u = .tuple #[.agg #[v1,v2],vI 0]∧Mn=[rw_ stL 1 9 v1 [[97],[98]],rw_ inL 1 3 v2 [10,13]]) [0,1] [] f0 hM rfl rfl (by decide) (fun hm=>((aCM (prof:=car) (f:=[97]) (g:=[98]) hO486 (by decide) (by unfold B63;decide) (fun _=>aGK (.inl rfl) hp486) (hTe.fr hM.fr) 10).mono fun e w8 ⟨v1,v2,c,nd,mi,h1,h2,h3⟩=>by obtain ⟨rfl,rfl,rfl⟩:=aXN (aHV hp486 h2);exact ⟨_,_,h1,⟨v1,v2,rfl,rfl⟩,aDo h3 fun _ h=>h.elim⟩)) fun u Mn w1 hK hM=>?_
 obtain ⟨ao,ap,rfl,rfl⟩:=hK
 obtain ⟨qm487,cm487,em487,sm487⟩:=(hM.src (j:=3) rfl inT.len).op
 subst em487
 obtain ⟨qn487,cn487,en487,sn487⟩:=(hM.src (j:=2) rfl stT.len).op
 subst en487
 replace hM:Mm (fun _=>False) w w1 [bk aa #[vS [118],vS [98],vS [119]] 9,bk ac #[vS [116],vI 5,vI 0,vI 0,vL (some ⟨aa,0,none⟩) 3 3,vL none 0 0] 64,_,_]:=hM
 refine aCh 2 5 2 [(19,.agg #[vL qn487 2 cn487,vL qm487 2 cm487]),(20,vI 0)] [] 31 (.agg #[vL qn487 2 cn487,vL qm487 2 cm487]) f0 hM fun ab w1 hM=>aN1 3 0 22 [(3,vI 0)] (K:=fun u w8=>∃ v os,u = .agg #[v]∧aCp w8 v os∧aAa os=exO []) f0 hM ((aBK (L:=[]) ⟨Src.nil _,fun _ h=>by cases h⟩ (by decide)).mono fun e w8 ⟨v,os,h1,h2,h3,h4⟩=>⟨⟨_,h1,v,os,rfl,h2,h3⟩,h4⟩) fun u w1 ⟨aq,os489,hu,hO489,hp489⟩ hM f1=>?_
 subst hu
 replace hM:Mm (fun _=>False) w w1 [bk aa #[vS [118],vS [98],vS [119]] 9,bk ac #[vS [116],vI 5,vI 0,vI 0,vL (some ⟨aa,0,none⟩) 3 3,vL none 0 0] 64,_,_,bk ab #[vL qn487 2 cn487,vL qm487 2 cm487] 31]:=hM
 refine aAO 3 1 23 [] (K:=fun u Mn=>∃ v1 v2,u = .tuple #[.agg #[v1,v2],vI 0]∧Mn=[rw_ stL 1 9 v1 [[97],[98],[99]],rw_ inL 1 3 v2 [10,13,64]]) [0,1,2,3,4] [] f0 hM rfl rfl (by decide) (fun hm=>((aCM (prof:=car) (f:=[97]) (g:=[99]) hO489 (by decide) (by unfold B63;decide) (fun _=>aGK (.inl rfl) hp489) (hTe.fr hM.fr) 10).mono fun e w8 ⟨v1,v2,c,nd,mi,h1,h2,h3⟩=>by obtain ⟨rfl,rfl,rfl⟩:=aXM (aHV hp489 h2);exact ⟨_,_,h1,⟨v1,v2,rfl,rfl⟩,aDo h3 fun _ h=>h.elim⟩)) fun u Mn w1 hK hM=>?_
 obtain ⟨ar,au,rfl,rfl⟩:=hK
 obtain ⟨qm490,cm490,em490,sm490⟩:=(hM.src (j:=6) rfl inT.len).op
 subst em490
 obtain ⟨qn490,cn490,en490,sn490⟩:=(hM.src (j:=5) rfl stT.len).op
 subst en490
 replace hM:Mm (fun _=>False) w w1 [bk aa #[vS [118],vS [98],vS [119]] 9,bk ac #[vS [116],vI 5,vI 0,vI 0,vL (some ⟨aa,0,none⟩) 3 3,vL none 0 0] 64,_,_,bk ab #[vL qn487 2 cn487,vL qm487 2 cm487] 31,_,_]:=hM
 refine aCh 3 5 4 [(24,.agg #[vL qn490 3 cn490,vL qm490 3 cm490]),(25,vI 0)] [] 31 (.agg #[vL qn490 3 cn490,vL qm490 3 cm490]) f0 hM fun af w1 hM=>aAq 4 1 28 [(5,vI 0),(27,.agg #[vS [116],vI 5,vI 0,vI 0,vL (some ⟨aa,0,none⟩) 3 3,vL none 0 0])] (cs:=#[vS [116],vI 5,vI 0,vI 0,vL (some ⟨aa,0,none⟩) 3 3,vL none 0 0]) (T:=64) (v:=fun b=>vL (some ⟨b,0,none⟩) 1 1) (fc (lam 64 1 0 6 hM rfl) f0) hM fun ag w1 hM=>?_
 replace hM:Mm (fun _=>False) w w1 [bk aa #[vS [118],vS [98],vS [119]] 9,bk ac #[vS [116],vI 5,vI 0,vI 0,vL (some ⟨aa,0,none⟩) 3 3,vL none 0 0] 64,_,_,bk ab #[vL qn487 2 cn487,vL qm487 2 cm487] 31,_,_,bk af #[vL qn490 3 cn490,vL qm490 3 cm490] 31,bk ag #[vS [116],vI 5,vI 0,vI 0,vL (some ⟨aa,0,none⟩) 3 3,vL none 0 0] 64]:=hM
 obtain ⟨L493,hL493,hq493,hn493⟩:=aPC (b1:=aa) (b2:=ag) (hM.get 0 (e:=bk aa #[vS [118],vS [98],vS [119]] 9) rfl) (hM.get 8 (e:=bk ag #[vS [116],vI 5,vI 0,vI 0,vL (some ⟨aa,0,none⟩) 3 3,vL none 0 0] 64) rfl)
 refine aN1 4 2 29 [] (K:=fun u w8=>∃ v os,u = .agg #[v]∧aCp w8 v os∧aAa os=exO (aAa L493)) f0 hM ((aBK hL493 hn493).mono fun e w8 ⟨v,os,h1,h2,h3,h4⟩=>⟨⟨_,h1,v,os,rfl,h2,h3⟩,h4⟩) fun u w1 ⟨av,os493,hu,hO493,hp493⟩ hM f1=>?_
 subst hu
 replace hM:Mm (fun _=>False) w w1 [bk aa #[vS [118],vS [98],vS [119]] 9,bk ac #[vS [116],vI 5,vI 0,vI 0,vL (some ⟨aa,0,none⟩) 3 3,vL none 0 0] 64,_,_,bk ab #[vL qn487 2 cn487,vL qm487 2 cm487] 31,_,_,bk af #[vL qn490 3 cn490,vL qm490 3 cm490] 31,bk ag #[vS [116],vI 5,vI 0,vI 0,vL (some ⟨aa,0,none⟩) 3 3,vL none 0 0] 64]:=hM
 rw [hq493] at hp493
 refine aAO 4 3 30 [] (K:=fun u Mn=>∃ v1 v2,u = .tuple #[.agg #[v1,v2],vI 12]∧Mn=[rw_ stL 1 9 v1 [],rw_ inL 1 3 v2 []]) [0,1,2,3,4,5,6,7,8] [] f0 hM rfl rfl (by decide) (fun hm=>((aCM (prof:=car) (f:=[97]) (g:=[99]) hO493 (by decide) (by unfold B63;decide) (fun _=>aGK (.inr rfl) hp493) (hTe.fr hM.fr) 10).mono fun e w8 ⟨v1,v2,c,nd,mi,h1,h2,h3⟩=>by obtain ⟨rfl,rfl,rfl⟩:=aXL (aHV hp493 h2);exact ⟨_,_,h1,⟨v1,v2,rfl,rfl⟩,aDo h3 fun _ h=>h.elim⟩)) fun u Mn w1 hK hM=>?_
 obtain ⟨aw,ax,rfl,rfl⟩:=hK
 obtain ⟨qm494,cm494,em494,sm494⟩:=(hM.src (j:=10) rfl inT.len).op
 subst em494
 obtain ⟨qn494,cn494,en494,sn494⟩:=(hM.src (j:=9) rfl stT.len).op
 subst en494
 replace hM:Mm (fun _=>False) w w1 [bk aa #[vS [118],vS [98],vS [119]] 9,bk ac #[vS [116],vI 5,vI 0,vI 0,vL (some ⟨aa,0,none⟩) 3 3,vL none 0 0] 64,_,_,bk ab #[vL qn487 2 cn487,vL qm487 2 cm487] 31,_,_,bk af #[vL qn490 3 cn490,vL qm490 3 cm490] 31,bk ag #[vS [116],vI 5,vI 0,vI 0,vL (some ⟨aa,0,none⟩) 3 3,vL none 0 0] 64,_,_]:=hM
 refine aCh 4 7 6 [(31,.agg #[vL qn494 0 cn494,vL qm494 0 cm494]),(32,vI 12)] [] 31 (.agg #[vL qn494 0 cn494,vL qm494 0 cm494]) f0 hM fun ai w1 hM=>aAq 5 1 35 [(7,vI 12),(34,.agg #[vS [116],vI 5,vI 0,vI 0,vL (some ⟨aa,0,none⟩) 3 3,vL none 0 0])] (cs:=#[vS [116],vI 5,vI 0,vI 0,vL (some ⟨aa,0,none⟩) 3 3,vL none 0 0]) (T:=64) (v:=fun b=>vL (some ⟨b,0,none⟩) 1 1) (fc (lam 64 1 0 6 hM rfl) f0) hM fun ah w1 hM=>?_
 replace hM:Mm (fun _=>False) w w1 [bk aa #[vS [118],vS [98],vS [119]] 9,bk ac #[vS [116],vI 5,vI 0,vI 0,vL (some ⟨aa,0,none⟩) 3 3,vL none 0 0] 64,_,_,bk ab #[vL qn487 2 cn487,vL qm487 2 cm487] 31,_,_,bk af #[vL qn490 3 cn490,vL qm490 3 cm490] 31,bk ag #[vS [116],vI 5,vI 0,vI 0,vL (some ⟨aa,0,none⟩) 3 3,vL none 0 0] 64,_,_,bk ai #[vL qn494 0 cn494,vL qm494 0 cm494] 31,bk ah #[vS [116],vI 5,vI 0,vI 0,vL (some ⟨aa,0,none⟩) 3 3,vL none 0 0] 64]:=hM
 obtain ⟨L497,hL497,hq497,hn497⟩:=aPC (b1:=aa) (b2:=ah) (hM.get 0 (e:=bk aa #[vS [118],vS [98],vS [119]] 9) rfl) (hM.get 12 (e:=bk ah #[vS [116],vI 5,vI 0,vI 0,vL (some ⟨aa,0,none⟩) 3 3,vL none 0 0] 64) rfl)
 refine aN1 5 2 36 [] (K:=fun u w8=>∃ v os,u = .agg #[v]∧aCp w8 v os∧aAa os=exO (aAa L497)) f0 hM ((aBK hL497 hn497).mono fun e w8 ⟨v,os,h1,h2,h3,h4⟩=>⟨⟨_,h1,v,os,rfl,h2,h3⟩,h4⟩) fun u w1 ⟨ay,os497,hu,hO497,hp497⟩ hM f1=>?_
 subst hu
 replace hM:Mm (fun _=>False) w w1 [bk aa #[vS [118],vS [98],vS [119]] 9,bk ac #[vS [116],vI 5,vI 0,vI 0,vL (some ⟨aa,0,none⟩) 3 3,vL none 0 0] 64,_,_,bk ab #[vL qn487 2 cn487,vL qm487 2 cm487] 31,_,_,bk af #[vL qn490 3 cn490,vL qm490 3 cm490] 31,bk ag #[vS [116],vI 5,vI 0,vI 0,vL (some ⟨aa,0,none⟩) 3 3,vL none 0 0] 64,_,_,bk ai #[vL qn494 0 cn494,vL qm494 0 cm494] 31,bk ah #[vS [116],vI 5,vI 0,vI 0,vL (some ⟨aa,0,none⟩) 3 3,vL none 0 0] 64]:=hM
 rw [hq497] at hp497
 refine aAO 5 3 37 [] (K:=fun u Mn=>∃ v1 v2,u = .tuple #[.agg #[v1,v2],vI 0]∧Mn=[rw_ stL 1 9 v1 [[97],[98],[99]],rw_ inL 1 3 v2 [10,13,64]]) [0,1,2,3,4,5,6,7,8,9,10,11,12] [] f0 hM rfl rfl (by decide) (fun hm=>((aCM (prof:=aEW) (f:=[97]) (g:=[99]) hO497 (by decide) (by unfold B63;decide) (fun _=>aGK (.inr rfl) hp497) (hTe.fr hM.fr) 10).mono fun e w8 ⟨v1,v2,c,nd,mi,h1,h2,h3⟩=>by obtain ⟨rfl,rfl,rfl⟩:=aXK (aHV hp497 h2);exact ⟨_,_,h1,⟨v1,v2,rfl,rfl⟩,aDo h3 fun _ h=>h.elim⟩)) fun u Mn w1 hK hM=>?_
 obtain ⟨az,a0,rfl,rfl⟩:=hK
 obtain ⟨qm498,cm498,em498,sm498⟩:=(hM.src (j:=14) rfl inT.len).op
 subst em498
 obtain ⟨qn498,cn498,en498,sn498⟩:=(hM.src (j:=13) rfl stT.len).op
 subst en498
 replace hM:Mm (fun _=>False) w w1 [bk aa #[vS [118],vS [98],vS [119]] 9,bk ac #[vS [116],vI 5,vI 0,vI 0,vL (some ⟨aa,0,none⟩) 3 3,vL none 0 0] 64,_,_,bk ab #[vL qn487 2 cn487,vL qm487 2 cm487] 31,_,_,bk af #[vL qn490 3 cn490,vL qm490 3 cm490] 31,bk ag #[vS [116],vI 5,vI 0,vI 0,vL (some ⟨aa,0,none⟩) 3 3,vL none 0 0] 64,_,_,bk ai #[vL qn494 0 cn494,vL qm494 0 cm494] 31,bk ah #[vS [116],vI 5,vI 0,vI 0,vL (some ⟨aa,0,none⟩) 3 3,vL none 0 0] 64,_,_]:=hM
 refine aCh 5 7 8 [(38,.agg #[vL qn498 3 cn498,vL qm498 3 cm498]),(39,vI 0)] [] 31 (.agg #[vL qn498 3 cn498,vL qm498 3 cm498]) f0 hM fun aj w1 hM=>aN1 6 0 41 [(9,vI 0)] (K:=fun u w8=>∃ v os,u = .agg #[v]∧aCp w8 v os∧aAa os=exO []) f0 hM ((aBK (L:=[]) ⟨Src.nil _,fun _ h=>by cases h⟩ (by decide)).mono fun e w8 ⟨v,os,h1,h2,h3,h4⟩=>⟨⟨_,h1,v,os,rfl,h2,h3⟩,h4⟩) fun u w1 ⟨a1,os500,hu,hO500,hp500⟩ hM f1=>?_
 subst hu
 replace hM:Mm (fun _=>False) w w1 [bk aa #[vS [118],vS [98],vS [119]] 9,bk ac #[vS [116],vI 5,vI 0,vI 0,vL (some ⟨aa,0,none⟩) 3 3,vL none 0 0] 64,_,_,bk ab #[vL qn487 2 cn487,vL qm487 2 cm487] 31,_,_,bk af #[vL qn490 3 cn490,vL qm490 3 cm490] 31,bk ag #[vS [116],vI 5,vI 0,vI 0,vL (some ⟨aa,0,none⟩) 3 3,vL none 0 0] 64,_,_,bk ai #[vL qn494 0 cn494,vL qm494 0 cm494] 31,bk ah #[vS [116],vI 5,vI 0,vI 0,vL (some ⟨aa,0,none⟩) 3 3,vL none 0 0] 64,_,_,bk aj #[vL qn498 3 cn498,vL qm498 3 cm498] 31]:=hM
 refine aAO 6 1 42 [] (K:=fun u Mn=>∃ v1,u = .tuple #[v1,vI 0]∧Mn=[rw_ rwL 2 56 v1 [([97],0),([98],3),([99],54)]]) [0,1,2,3,4,5,6,7,8,9,10,11,12,13,14,15] [] f0 hM rfl rfl (by decide) (fun hm=>((aKG (prof:=car) (f:=[97]) hO500 (by decide) (by unfold B63;decide) (fun _=>aGK (.inl rfl) hp500) (by have:=congrArg List.length hp500;rw [aA1] at this;rw [this];decide) (hTe.fr hM.fr) 54 10).mono fun e w8 ⟨v1,c,rows,h1,h2,h3⟩=>by obtain ⟨rfl,rfl⟩:=exR (aRc hp500 h2);exact ⟨_,_,h1,⟨v1,rfl,rfl⟩,aDo h3 fun _ h=>h.elim⟩)) fun u Mn w1 hK hM=>?_
 obtain ⟨a2,rfl,rfl⟩:=hK
 obtain ⟨qn501,cn501,en501,sn501⟩:=(hM.src (j:=16) rfl rwT.len).op
 subst en501
 replace hM:Mm (fun _=>False) w w1 [bk aa #[vS [118],vS [98],vS [119]] 9,bk ac #[vS [116],vI 5,vI 0,vI 0,vL (some ⟨aa,0,none⟩) 3 3,vL none 0 0] 64,_,_,bk ab #[vL qn487 2 cn487,vL qm487 2 cm487] 31,_,_,bk af #[vL qn490 3 cn490,vL qm490 3 cm490] 31,bk ag #[vS [116],vI 5,vI 0,vI 0,vL (some ⟨aa,0,none⟩) 3 3,vL none 0 0] 64,_,_,bk ai #[vL qn494 0 cn494,vL qm494 0 cm494] 31,bk ah #[vS [116],vI 5,vI 0,vI 0,vL (some ⟨aa,0,none⟩) 3 3,vL none 0 0] 64,_,_,bk aj #[vL qn498 3 cn498,vL qm498 3 cm498] 31,_]:=hM
 refine aAq 7 0 45 [(10,vL qn501 3 cn501),(11,vI 0)] (cs:=#[vS [97],vS [98],vS [99]]) (T:=9) (v:=fun b=>vL (some ⟨b,0,none⟩) 3 3) f0 hM fun ad w1 hM=>aAq 7 1 46 [] (cs:=#[vI 10,vI 13,vI 64]) (T:=3) (v:=fun b=>vL (some ⟨b,0,none⟩) 3 3) f0 hM fun ae w1 hM=>aAr 7 2 47 [] f0 hM (aFB (some ⟨ad,0,none⟩) (some ⟨ae,0,none⟩) 3 3 3 3) fun w1 hM=>aCh 7 3 12 [] [] 31 (.agg #[vL (some ⟨ad,0,none⟩) 3 3,vL (some ⟨ae,0,none⟩) 3 3]) f0 hM fun ak w1 hM=>?_
 have hM:=hM.pick [2,3,4,5,6,7,13,14,15,16,17,18,19]
 replace hM:Mm (fun _=>False) w w1 [_,_,bk ab #[vL qn487 2 cn487,vL qm487 2 cm487] 31,_,_,bk af #[vL qn490 3 cn490,vL qm490 3 cm490] 31,_,_,bk aj #[vL qn498 3 cn498,vL qm498 3 cm498] 31,_,bk ad #[vS [97],vS [98],vS [99]] 9,bk ae #[vI 10,vI 13,vI 64] 3,bk ak #[vL (some ⟨ad,0,none⟩) 3 3,vL (some ⟨ae,0,none⟩) 3 3] 31]:=hM
 refine seg 8 0 [] f0 ?_
 have hM:=hM.nl
 have hM:=hM.nl
 refine drx [4,5,7] (fun γ=>[some (vL (some ⟨(bn (γ 0)),0,none⟩) 2 2),some (vL (some ⟨(bn (γ 1)),0,none⟩) 2 2),some (vB true)]) _ (fun γ l=>[rw_ stL 1 9 (vL qn487 2 cn487) [[97],[98]],rw_ inL 1 3 (vL qm487 2 cm487) [10,13],bk ab #[vL qn487 2 cn487,vL qm487 2 cm487] 31,rw_ stL 1 9 (vL qn490 3 cn490) [[97],[98],[99]],rw_ inL 1 3 (vL qm490 3 cm490) [10,13,64],bk af #[vL qn490 3 cn490,vL qm490 3 cm490] 31,rw_ stL 1 9 (vL qn498 3 cn498) [[97],[98],[99]],rw_ inL 1 3 (vL qm498 3 cm498) [10,13,64],bk aj #[vL qn498 3 cn498,vL qm498 3 cm498] 31,rw_ rwL 2 56 (vL qn501 3 cn501) [([97],0),([98],3),([99],54)],bk ad #[vS [97],vS [98],vS [99]] 9,bk ae #[vI 10,vI 13,vI 64] 3,bk ak #[vL (some ⟨ad,0,none⟩) 3 3,vL (some ⟨ae,0,none⟩) 3 3] 31,(bif l.getD 0 false then bk (bn (γ 0)) #[vS [97],vS [98]] 9 else aIY),(bif l.getD 1 false then bk (bn (γ 1)) #[vI 10,vI 13] 3 else aIY)]) (fun γ=>[(13,vB true)]) hM (fun γ=>rfl) (fun γ l w5 hM=>(fc (lam 31 2 0 2 hM rfl) (fc (tcl (aFB (some ⟨(bn (γ 0)),0,none⟩) (some ⟨(bn (γ 1)),0,none⟩) 2 2 2 2)) (fc (lam 31 5 0 2 hM rfl) (fc (lam 31 12 0 2 hM rfl) (fc (tcl (aK6 rfl rfl rfl rfl ((hM.src (j:=3) rfl stT.len).p).2 ((hM.src (j:=4) rfl inT.len).p).2 (aB3 (f:=stL) (c:=1) (b:=ad) (hM.get 10 (e:=bk ad #[vS [97],vS [98],vS [99]] 9) (by kernel_rfl)) [[97],[98],[99]] 3 (fun _=>rfl) rfl rfl) (aB3 (f:=inL) (c:=1) (b:=ae) (hM.get 11 (e:=bk ae #[vI 10,vI 13,vI 64] 3) (by kernel_rfl)) [10,13,64] 3 (fun _=>rfl) rfl rfl))) (fc (lam 31 8 0 2 hM rfl) (fc (lam 31 12 0 2 hM rfl) (fc (tcl (aK6 rfl rfl rfl rfl ((hM.src (j:=6) rfl stT.len).p).2 ((hM.src (j:=7) rfl inT.len).p).2 (aB3 (f:=stL) (c:=1) (b:=ad) (hM.get 10 (e:=bk ad #[vS [97],vS [98],vS [99]] 9) (by kernel_rfl)) [[97],[98],[99]] 3 (fun _=>rfl) rfl rfl) (aB3 (f:=inL) (c:=1) (b:=ae) (hM.get 11 (e:=bk ae #[vI 10,vI 13,vI 64] 3) (by kernel_rfl)) [10,13,64] 3 (fun _=>rfl) rfl rfl))) f0))))))))) ⟨aCB 0 4 13 52 (fun γ=>#[vS [97],vS [98]]) 9 (fun b=>vL (some ⟨b,0,none⟩) 2 2),aCB 1 5 14 53 (fun γ=>#[vI 10,vI 13]) 3 (fun b=>vL (some ⟨b,0,none⟩) 2 2),aIS 2 7 55 (f:=16) (fun γ=>#[.agg #[vL qn487 2 cn487,vL qm487 2 cm487],.agg #[vL (some ⟨(bn (γ 0)),0,none⟩) 2 2,vL (some ⟨(bn (γ 1)),0,none⟩) 2 2]]) (vB true) (fun γ fr wm hM=>(aK6 rfl rfl rfl rfl ((hM.src (j:=0) rfl stT.len).p).2 ((hM.src (j:=1) rfl inT.len).p).2 (aB3 (f:=stL) (c:=1) (b:=(bn (γ 0))) (hM.get 13 (e:=bk (bn (γ 0)) #[vS [97],vS [98]] 9) (by kernel_rfl)) [[97],[98]] 2 (fun _=>rfl) rfl rfl) (aB3 (f:=inL) (c:=1) (b:=(bn (γ 1))) (hM.get 14 (e:=bk (bn (γ 1)) #[vI 10,vI 13] 3) (by kernel_rfl)) [10,13] 2 (fun _=>rfl) rfl rfl))),trivial⟩ fun al w1 hM=>?_
 replace hM:Mm (fun _=>False) w w1 [_,_,bk ab #[vL qn487 2 cn487,vL qm487 2 cm487] 31,_,_,bk af #[vL qn490 3 cn490,vL qm490 3 cm490] 31,_,_,bk aj #[vL qn498 3 cn498,vL qm498 3 cm498] 31,_,bk ad #[vS [97],vS [98],vS [99]] 9,bk ae #[vI 10,vI 13,vI 64] 3,bk ak #[vL (some ⟨ad,0,none⟩) 3 3,vL (some ⟨ae,0,none⟩) 3 3] 31,bk (bn (al 0)) #[vS [97],vS [98]] 9,bk (bn (al 1)) #[vI 10,vI 13] 3]:=hM
 refine aAq 9 10 89 [(84,vB true),(85,vL qn501 3 cn501),(86,.agg #[vS [97],vI 0]),(87,.agg #[vS [98],vI 3]),(88,.agg #[vS [99],vI 54])] (cs:=#[vS [97],vI 0,vS [98],vI 3,vS [99],vI 54]) (T:=56) (v:=fun b=>vL (some ⟨b,0,none⟩) 3 3) f0 hM fun am w1 hM=>aAr 9 11 90 [] f0 hM (aTz rfl rfl ((hM.src (j:=9) rfl rwT.len).p).2 (aB3 (f:=rwL) (c:=2) (b:=am) (hM.get 15 (e:=bk am #[vS [97],vI 0,vS [98],vI 3,vS [99],vI 54] 56) (by kernel_rfl)) [([97],0),([98],3),([99],54)] 3 (fun _=>rfl) rfl rfl)) fun w1 hM=>rt1 0 (vB true) rfl f0 (hΦ _ _ ⟨rfl,hM.fr⟩)
theorem aBW (a:Bys):blt a a=false:=by
 have:=aPT a a
 cases h:Op.bytesLess a a with
 | false=>exact h
 | true=>rw [h] at this;simp at this
theorem aMx:∀ {a b c:List UInt8},Op.bytesLess a b=true→Op.bytesLess b c=true→Op.bytesLess a c=true
 | [],_,[],h,k=>by
  rename_i b;cases b<;>simp [Op.bytesLess] at k
 | [],_,_::_,_,_=>by simp [Op.bytesLess]
 | _::_,[],_,h,_=>by simp [Op.bytesLess] at h
 | _::_,_::_,[],_,k=>by simp [Op.bytesLess] at k
 | x::a,y::b,z::c,h,k=>by
  unfold Op.bytesLess at h k ⊢
  by_cases h1:x<y
  ·by_cases k1:y<z
   ·simp [UInt8.lt_trans h1 k1]
   ·by_cases e:y=z
    ·subst e;simp [h1]
    ·simp [k1,e] at k
  ·by_cases e:x=y
   ·subst e
    simp at h
    by_cases k1:x<z
    ·simp [k1]
    ·by_cases e2:x=z
     ·subst e2
      simp at k
      simpa using aMx h k
     ·simp [k1,e2] at k
   ·simp [h1,e] at h
theorem aGT {a b c:Bys}(h:blt a b=true) (k:blt b c=true):blt a c=true:=aMx h k
theorem aPt {k:Bys}:∀ {l:List Ob},aI4 k l=true→(∀ o∈l,blt k o.id=true)∧l.Pairwise fun x y=>blt x.id y.id=true
 | [],_=>⟨fun _ h=>(by cases h),.nil⟩
 | o::l,h=>by
  unfold aI4 at h
  simp only [Bool.and_eq_true] at h
  obtain ⟨h1,h2⟩:=aPt (l:=l) h.2
  refine ⟨fun x hx=>?_,List.pairwise_cons.2 ⟨h1,h2⟩⟩
  rcases List.mem_cons.1 hx with rfl | hx
  ·exact h.1.2
  ·exact aGT h.1.2 (h1 x hx)
theorem aAX {l:List Ob}(h:aAd l=true):l.Pairwise fun x y=>blt x.id y.id=true:=by
 unfold aAd at h
 rw [Bool.and_eq_true] at h
 exact (aPt h.1).2
theorem aDB {l:List Ob}(h:l.Pairwise fun x y=>blt x.id y.id=true) {a b:Ob}(ha:a∈l) (hb:b∈l) (e:a.id=b.id):a=b:=by
 obtain ⟨i,hi,rfl⟩:=List.mem_iff_getElem.1 ha
 obtain ⟨j,hj,rfl⟩:=List.mem_iff_getElem.1 hb
 rcases Nat.lt_trichotomy i j with q | q | q
 ·have:=List.pairwise_iff_getElem.1 h i j hi hj q
  rw [e,aBW] at this;cases this
 ·subst q;rfl
 ·have:=List.pairwise_iff_getElem.1 h j i hj hi q
  rw [e,aBW] at this;cases this
theorem aLA (l:List Ob) (w:Bys):∀ rs:List Bys,(aFg l w rs).length≤2*rs.length
 | []=>by simp [aFg]
 | [_]=>by simp [aFg]
 | a::b::t=>by
  have:=aLA l w (b::t)
  unfold aFg
  simp only [List.length_cons] at this ⊢
  omega
theorem aMG {l:List ObR}{f:ObR→Nat}(h:∀ b∈l,(f b:Int)≤2*bif b.o.kind==2 then (b.o.refs.length:Int) else 0):((l.map f).sum:Int)≤2*aPN l:=by
 unfold aPN
 induction l with
 | nil=>simp
 | cons b l ih =>
  have h1:=h b (.head _)
  have h2:=ih fun c hc=>h c (.tail _ hc)
  rw [List.map_cons,List.map_cons,List.sum_cons,List.sum_cons]
  rw [Int.natCast_add,Int.mul_add]
  omega
theorem aJQ {os:List ObR}(h:aNr os=true) (hv:aAd (aAa os)=true):(aAv os).length≤240:=by
 unfold aNr aIE at h
 simp only [Bool.and_eq_true,decide_eq_true_eq] at h
 obtain ⟨_,h1,h2⟩:=h
 rw [List.take_of_length_le (by omega)] at h2
 have hp:=aAX hv
 unfold aAv
 rw [List.length_flatMap]
 have:=aMG (l:=os) (f:=fun b=>(aDn os b).length) fun b hb=>by
  unfold aDn
  cases hk:b.o.kind==2 with
  | false=>simp
  | true =>
   simp only [cond_true]
   cases hw:aHR (aAg (aAa os)) os b.o.id with
   | none=>simp;omega
   | some c =>
    obtain ⟨hc,hid,_,_⟩:=aGh hw
    have e:c.o=b.o:=aDB hp (List.mem_map.2 ⟨c,hc,rfl⟩) (List.mem_map.2 ⟨b,hb,rfl⟩) hid
    have:=aLA (aAa os) b.o.id c.o.refs
    simp only
    rw [e] at this ⊢
    omega
 omega
theorem aMl {os:List ObR}(h:aNr os=true):os.length≤24:=by
 unfold aNr aIE at h
 simp only [Bool.and_eq_true,decide_eq_true_eq] at h
 omega
theorem aHD {A:List Arc}{t:Nat→Option Int}{g:Bys}:∀ {n:Nat},n≤A.length→match aAM A t g n with
  | none=>∀ k a,k<n→A[k]?=some a→a.2.1=g→t k=none
  | some i=>∃ a m,A[i]?=some a∧a.2.1=g∧t i=some m∧∀ k b m',k<n→A[k]?=some b→b.2.1=g→t k=some m'→m≤m'
 | 0,_=>fun k a hk=>absurd hk (Nat.not_lt_zero _)
 | n+1,hn=>by
  have ih:=aHD (A:=A) (t:=t) (g:=g) (n:=n) (by omega)
  obtain ⟨a,ha⟩:=geb (l:=A) (i:=n) (by omega)
  rw [aBU ha]
  cases hc:((t n).isSome&&(a.2.1==g)&&aHn t (aAM A t g n) n) with
  | true =>
   simp only [cond_true]
   simp only [Bool.and_eq_true] at hc
   obtain ⟨⟨h1,h2⟩,h3⟩:=hc
   obtain ⟨m,hm⟩:=Option.isSome_iff_exists.1 h1
   refine ⟨a,m,ha,et h2,hm,fun k b m' hk hb hg hm'=>?_⟩
   rcases Nat.lt_succ_iff_lt_or_eq.1 hk with hk | rfl
   ·cases hl:aAM A t g n with
    | none=>rw [hl] at ih;rw [ih k b hk hb hg] at hm';cases hm'
    | some j =>
     rw [hl] at ih h3
     obtain ⟨a2,m2,_,_,h6,h7⟩:=ih
     have h8:=h7 k b m' hk hb hg hm'
     have h9:(t n).getD 0<(t j).getD 0:=of_decide_eq_true h3
     rw [hm,h6] at h9
     have h9:m<m2:=h9
     omega
   ·rw [hm] at hm';cases hm';exact Int.le_refl _
  | false =>
   simp only [cond_false]
   cases hl:aAM A t g n with
   | none =>
    rw [hl] at ih hc
    intro k b hk hb hg
    rcases Nat.lt_succ_iff_lt_or_eq.1 hk with hk | rfl
    ·exact ih k b hk hb hg
    ·rw [ha] at hb;cases hb
     rw [show (a.2.1==g)=true by simpa using hg] at hc
     cases ht:t k with
     | none=>rfl
     | some m=>rw [ht] at hc;cases hc
   | some j =>
    rw [hl] at ih hc
    obtain ⟨a2,m2,h4,h5,h6,h7⟩:=ih
    refine ⟨a2,m2,h4,h5,h6,fun k b m' hk hb hg hm'=>?_⟩
    rcases Nat.lt_succ_iff_lt_or_eq.1 hk with hk | rfl
    ·exact h7 k b m' hk hb hg hm'
    ·rw [ha] at hb;cases hb
     rw [show (a.2.1==g)=true by simpa using hg,hm'] at hc
     have hc:decide ((t k).getD 0<(t j).getD 0)=false:=hc
     have:=of_decide_eq_false hc
     rw [hm',h6] at this
     have:¬ m'<m2:=this
     omega
section
variable {prof f g:Bys}{l:List Ob}{m0 c:Int}{nd:List Bys}{mi:List Int}
end
theorem aCV {l:List Ob}(hp:l.Pairwise fun x y=>blt x.id y.id=true) {o:Ob}(ho:o∈l):¬ aAm l o.id<0∧aJI l o.id=o.kind:=by
 have hn:¬ aAm l o.id<0:=by
  unfold aAm
  cases h:l.findIdx? (fun x=>x.id==o.id) with
  | none=>have:=List.findIdx?_eq_none_iff.1 h o ho;simp at this
  | some k=>show ¬ ((k:Nat):Int)<0;omega
 obtain ⟨k,o2,h1,h2,h3⟩:=aDj hn
 refine ⟨hn,?_⟩
 unfold aJI
 rw [h1,Int.toNat_natCast,h2,aDB hp (gm h2) ho h3]
section
variable {prof f g:Bys}{l:List Ob}{n m0 c c2:Int}{rows:List (Bys×Int)}{nd2:List Bys}{mi2:List Int}
end
abbrev A45 (Φ:Ending→World→Prop):=AtO Tryz.prog (aAf Tryz.f45) (aAo (bodyPost Tryz.prog Tryz.f45 Φ)) [] 25
theorem aDU {w:World}{v:Value}{l:List Tag}(hl:TgV w v l) (k:Bys):Calls Tryz.prog 45 #[v,vS k] w fun e w'=>e = .returned (.tuple #[vS (aAw l k).1,vB (aAw l k).2])∧Fr (fun _=>False) w w':=by
  obtain ⟨p0,cp0,hp0,sp0⟩:=hl.op
  subst hp0;have bp0:=sp0.bnd
  refine beg Tryz.func45 rfl rfl [(0,vL p0 l.length cp0),(1,vS k)] rfl rfl fun Φ hΦ=>?_
  have hM:=Mm.nil (fun _=>False) w
  refine seg 2 0 [(6,vI 0)] f0 ?_
  have ac:∀ (aa:Nat) (i:Nat) (w2:World),i≤l.length→aAw l k=aAw (l.drop i) k→Mm (fun _=>False) w w2 []→aa=l.length-i→A45 Φ (some (2,0)) [(6,vI (i:Int)),(0,vL p0 l.length cp0),(1,vS k)] w2:=by
   refine aAG fun aa ad i w2 hi hv hM af=>seg 2 4 [(10,vB (decide ((i:Int)<(l.length:Int))))] f0 ?_
   cases h34:(decide ((i:Int)<(l.length:Int)))
   ·have ae:=df h34
    exact rt2 4 5 (vS []) (vB false) rfl rfl f0 (hΦ _ _ ⟨by rw [hv,List.drop_of_length_le (by omega)];rfl,hM.fr⟩)
   have ae:=dt h34
   obtain ⟨y,hy,ag,ah,q35,ab⟩:=sp0.el (i:=i) (by omega)
   refine seg 4 7 [(19,vB (y.1==k))] (fc (ix 62 cp0 q35 (gl hy)) (fc (ld0 9 hM (ab 0 _ rfl)) (fc (seq 9 y.1 k) f0))) ?_
   cases h36:(y.1==k)
   ·refine seg 2 0 [(6,vI ((i:Int)+1))] (fc (aAe (i:Int) 1 u3_) f0) (aAb _ (ad _ (by have:=gl hy;omega) (i+1) _ (gl hy) (by rw [hv,gd hy,aAw,h36];rfl) hM rfl))
   exact rt2 4 5 (vS y.2) (vB true) rfl rfl (fc (ix 62 cp0 q35 (gl hy)) (fc (ld0 9 hM (ab 1 _ rfl)) f0)) (hΦ _ _ ⟨by rw [hv,gd hy,aAw,h36];rfl,hM.fr⟩)
  exact aAb _ (ac _ 0 _ (Nat.zero_le _) rfl hM rfl)
def aJP (id:Bys):Int→List Ob→Int
  | _,[] => -1
  | k,o::l=>bif o.id==id then k else aJP id (k+1) l
theorem aMj (id:Bys):∀ (l:List Ob) (k:Nat),aJP id (k:Int) l=match l.findIdx? (fun o=>o.id==id) with
    | some i=>((k+i:Nat):Int)
    | none => -1
  | [],k=>rfl
  | o::l,k=>by
    unfold aJP
    rw [List.findIdx?_cons]
    cases h:o.id==id with
    | true=>rfl
    | false =>
      have:=aMj id l (k+1)
      rw [show (((k+1:Nat)):Int)=(k:Int)+1 by omega] at this
      simp only [cond_false,this]
      cases l.findIdx? fun o=>o.id==id with
      | none=>rfl
      | some i=>show ((k+1+i:Nat):Int)=((k+(i+1):Nat):Int);omega
theorem aP9 (l:List Ob) (id:Bys):aAm l id=aJP id 0 l:=by
  have:=aMj id l 0
  rw [show ((0:Nat):Int)=0 from rfl] at this
  rw [this];unfold aAm
  cases l.findIdx? fun o=>o.id==id with
  | none=>rfl
  | some i=>show (i:Int)=((0+i:Nat):Int);omega
abbrev A69 (Φ:Ending→World→Prop):=AtO Tryz.prog (aAf Tryz.f69) (aAo (bodyPost Tryz.prog Tryz.f69 Φ)) [] 22
theorem aEs {w:World}{v:Value}{l:List ObR}(hm:aCp w v l) (id:Bys):Calls Tryz.prog 69 #[.agg #[v],vS id] w fun e w'=>e = .returned (vI (aAm (aAa l) id))∧Fr (fun _=>False) w w':=by
  have hm0:=hm;obtain ⟨hs0,hob⟩:=hm0
  obtain ⟨p0,cp0,hp0,sp0⟩:=hs0.op
  subst hp0;have bp0:=sp0.bnd
  refine beg Tryz.func69 rfl rfl [(0,.agg #[vL p0 l.length cp0]),(1,vS id)] rfl rfl fun Φ hΦ=>?_
  have hM:=Mm.nil (fun _=>False) w
  refine aAq 0 0 2 [] (cs:=#[vL p0 l.length cp0]) (T:=24) (v:=fun b=>vP b 0) f0 hM fun aa w1 hM=>seg 2 0 [(5,vI 0)] f0 ?_
  have ac:∀ (ab:Nat) (i:Nat) (w2:World),i≤l.length→aJP id 0 (aAa l)=aJP id (i:Int) ((aAa l).drop i)→Mm (fun _=>False) w w2 [bk aa #[vL p0 l.length cp0] 24]→ab=l.length-i→A69 Φ (some (2,0)) [(5,vI (i:Int)),(2,vP aa 0),(1,vS id)] w2:=by
   refine aAG fun ab ad i w2 hi hv hM ag=>seg 2 5 [(10,vB (decide ((i:Int)<(l.length:Int))))] (fc (ldm 22 0 0 hM rfl rfl) f0) ?_
   cases h41:(decide ((i:Int)<(l.length:Int)))
   ·have ae:=df h41
    exact rt1 4 (vI (-1)) rfl f0 (hΦ _ _ ⟨by rw [aP9,hv,List.drop_of_length_le (by rw [aA1];omega)];rfl,hM.fr⟩)
   have ae:=dt h41
   obtain ⟨y,hy,ah,ai,q42,af⟩:=sp0.el (i:=i) (by omega)
   refine seg 4 8 [(20,vB (y.o.id==id))] (fc (ldm 22 0 0 hM rfl rfl) (fc (ix 22 cp0 q42 (gl hy)) (fc (ld0 9 hM (af 0 _ rfl)) (fc (seq 9 y.o.id id) f0)))) ?_
   cases h43:(y.o.id==id)
   ·refine seg 2 0 [(5,vI ((i:Int)+1))] (fc (aAe (i:Int) 1 u3_) f0) (aAb _ (ad _ (by have:=gl hy;omega) (i+1) _ (gl hy) (by rw [hv,gd (aAl hy),aJP,h43];rfl) hM rfl))
   exact rt1 4 (vI (i:Int)) rfl f0 (hΦ _ _ ⟨by rw [aP9,hv,gd (aAl hy),aJP,h43];rfl,hM.fr⟩)
  exact aAb _ (ac _ 0 _ (Nat.zero_le _) rfl hM rfl)
def aNj (p:Pt):Bool:=decide (-2097152≤p.1)&&(decide (p.1≤2097152)&&(decide (-2097152≤p.2)&&decide (p.2≤2097152)))
theorem aFU (p:Pt):aNj p=aBt p:=by
  unfold aNj aBt
  rw [Bool.eq_iff_iff]
  simp only [Bool.and_eq_true,Bool.not_eq_true',decide_eq_true_eq,decide_eq_false_iff_not]
  omega
theorem aGx {w:World}(p:Pt):Calls Tryz.prog 141 #[.agg #[vI p.1,vI p.2]] w fun e w'=>e = .returned (vB (aBt p))∧Fr (fun _=>False) w w':=by
  refine beg Tryz.func141 rfl rfl [(0,.agg #[vI p.1,vI p.2])] rfl rfl fun Φ hΦ=>?_
  have hM:=Mm.nil (fun _=>False) w
  refine aAq 0 0 1 [] (cs:=#[vI p.1,vI p.2]) (T:=61) (v:=fun b=>vP b 0) f0 hM fun aa w1 hM=>seg 1 4 [(6,vB (decide ((-2097152)≤p.1)))] (fc (ldm 3 0 0 hM rfl rfl) f0) ?_
  cases h45:(decide ((-2097152)≤p.1))
  ·exact rt1 2 (vB false) rfl f0 (hΦ _ _ ⟨by rw [←aFU];unfold aNj;simp only [h45]<;>rfl,hM.fr⟩)
  refine seg 1 9 [(11,vB (decide (p.1≤2097152)))] (fc (ldm 3 0 0 hM rfl rfl) f0) ?_
  cases h46:(decide (p.1≤2097152))
  ·exact rt1 2 (vB false) rfl f0 (hΦ _ _ ⟨by rw [←aFU];unfold aNj;simp only [h45,h46]<;>rfl,hM.fr⟩)
  refine seg 1 14 [(16,vB (decide ((-2097152)≤p.2)))] (fc (ldm 3 0 1 hM rfl rfl) f0) ?_
  cases h47:(decide ((-2097152)≤p.2))
  ·exact rt1 2 (vB false) rfl f0 (hΦ _ _ ⟨by rw [←aFU];unfold aNj;simp only [h45,h46,h47]<;>rfl,hM.fr⟩)
  exact rt1 2 (vB (decide (p.2≤2097152))) rfl (fc (ldm 3 0 1 hM rfl rfl) f0) (hΦ _ _ ⟨by rw [←aFU];unfold aNj;simp only [h45,h46,h47]<;>rfl,hM.fr⟩)
theorem aJT (a b:Pt) (h:aBt a=true) (h2:aBt b=true):aAN a b=(a.1-b.1)*(a.1-b.1)+(a.2-b.2)*(a.2-b.2):=by
  unfold aAN
  rw [h,h2]
  show (b.1-a.1)*(b.1-a.1)+(b.2-a.2)*(b.2-a.2)=_
  rw [show b.1-a.1 = -(a.1-b.1) by omega,show b.2-a.2 = -(a.2-b.2) by omega,Int.neg_mul_neg,Int.neg_mul_neg]
theorem aKH {w:World}(a b:Pt):Calls Tryz.prog 108 #[.agg #[vI a.1,vI a.2],.agg #[vI b.1,vI b.2]] w fun e w'=>e = .returned (vI (aAN a b))∧Fr (fun _=>False) w w':=by
  refine beg Tryz.func108 rfl rfl [(0,.agg #[vI a.1,vI a.2]),(1,.agg #[vI b.1,vI b.2])] rfl rfl fun Φ hΦ=>?_
  have hM:=Mm.nil (fun _=>False) w
  refine aAq 0 0 2 [] (cs:=#[vI a.1,vI a.2]) (T:=61) (v:=fun b=>vP b 0) f0 hM fun aa w1 hM=>aAq 0 1 3 [] (cs:=#[vI b.1,vI b.2]) (T:=61) (v:=fun b=>vP b 0) f0 hM fun ab w1 hM=>aAr 1 1 6 [(5,.agg #[vI a.1,vI a.2])] (fc (lam 61 0 0 2 hM rfl) f0) hM (aGx a) fun w1 hM=>seg 1 4 [(8,vB (!(aBt a)))] f0 ?_
  cases h50:(aBt a)
  ·exact rt1 4 (vI 0) rfl f0 (hΦ _ _ ⟨by unfold aAN;simp only [h50]<;>first | rfl | simp,hM.fr⟩)
  refine aAr 1 5 10 [(9,.agg #[vI b.1,vI b.2])] (fc (lam 61 1 0 2 hM rfl) f0) hM (aGx b) fun w1 hM=>seg 1 8 [(12,vB (!(aBt b)))] f0 ?_
  cases h51:(aBt b)
  ·exact rt1 4 (vI 0) rfl f0 (hΦ _ _ ⟨by unfold aAN;simp only [h50,h51]<;>first | rfl | simp,hM.fr⟩)
  have na:=aBX h50
  have nb:=aBX h51
  obtain ⟨s0,s1⟩:=aF4 (x:=a.1-b.1) (by omega) (by omega)
  obtain ⟨s2,s3⟩:=aF4 (x:=a.2-b.2) (by omega) (by omega)
  exact rt1 4 (vI (((a.1-b.1)*(a.1-b.1))+((a.2-b.2)*(a.2-b.2)))) rfl (fc (ldm 3 0 0 hM rfl rfl) (fc (ldm 3 1 0 hM rfl rfl) (fc (aBq a.1 b.1 u3_) (fc (ldm 3 0 0 hM rfl rfl) (fc (ldm 3 1 0 hM rfl rfl) (fc (aBq a.1 b.1 u3_) (fc (aHX (a.1-b.1) (a.1-b.1) u3_) (fc (ldm 3 0 1 hM rfl rfl) (fc (ldm 3 1 1 hM rfl rfl) (fc (aBq a.2 b.2 u3_) (fc (ldm 3 0 1 hM rfl rfl) (fc (ldm 3 1 1 hM rfl rfl) (fc (aBq a.2 b.2 u3_) (fc (aHX (a.2-b.2) (a.2-b.2) u3_) (fc (aAe ((a.1-b.1)*(a.1-b.1)) ((a.2-b.2)*(a.2-b.2)) u3_) f0))))))))))))))) (hΦ _ _ ⟨by rw [aJT a b h50 h51],hM.fr⟩)
def RtR (m:Int) (i o:Nat):Prop:=(m<0→o=0)∧(0≤m→o*o≤m.toNat∧m.toNat<(o+2 ^ i)*(o+2 ^ i))∧o+2 ^ i≤4294967296
theorem RtR.zero {m:Int}(h:m≤9223372036854775807):RtR m 32 0:=by
  have e:(0+2 ^ 32)*(0+2 ^ 32)=18446744073709551616:=by decide
  exact ⟨fun _=>rfl,fun h0=>⟨by omega,by rw [e];omega⟩,by decide⟩
theorem RtR.yes {m:Int}{i o:Nat}(h:RtR m (i+1) o) (h0:((o+2 ^ i:Nat):Int)*((o+2 ^ i:Nat):Int)≤m):RtR m i (o+2 ^ i):=by
  obtain ⟨h1,h2,h3⟩:=h
  rw [Nat.pow_succ] at h2 h3
  have hn:0≤((o+2 ^ i:Nat):Int)*((o+2 ^ i:Nat):Int):=Int.mul_nonneg (by omega) (by omega)
  have hm:0≤m:=by omega
  refine ⟨fun h=>absurd h (by omega),fun _=>⟨?_,?_⟩,by omega⟩
  · rw [←Int.natCast_mul] at h0;omega
  · have:=(h2 hm).2
    rw [show o+2 ^ i*2=o+2 ^ i+2 ^ i by omega] at this;exact this
theorem RtR.no {m:Int}{i o:Nat}(h:RtR m (i+1) o) (h0:¬ ((o+2 ^ i:Nat):Int)*((o+2 ^ i:Nat):Int)≤m):RtR m i o:=by
  obtain ⟨h1,h2,h3⟩:=h
  rw [Nat.pow_succ] at h2 h3
  refine ⟨h1,fun hm=>⟨(h2 hm).1,?_⟩,by omega⟩
  rw [←Int.natCast_mul] at h0;omega
theorem RtR.ok {m:Int}{o:Nat}(h:RtR m 0 o):aB5 m=(o:Int):=by
  obtain ⟨h1,h2,h3⟩:=h
  unfold aB5
  cases hm:decide (m<0) with
  | true=>rw [h1 (of_decide_eq_true hm)];rfl
  | false =>
    have h4:=of_decide_eq_false hm
    obtain ⟨h5,h6⟩:=h2 (by omega)
    rw [show aCa m.toNat=o from aEH h5 h6];rfl
def isP (P:Nat) (j:Int):Prop:=P=2 ^ j.toNat
section
variable {m j:Int}{o P:Nat}
theorem RtR.yesI (h:RtR m (j+1).toNat o) (hj:0≤j) (hP:P=2 ^ j.toNat) (h0:((o:Int)+(P:Int))*((o:Int)+(P:Int))≤m):RtR m (j-1+1).toNat (o+P):=by
  rw [show (j+1).toNat=j.toNat+1 by omega] at h
  rw [show (j-1+1).toNat=j.toNat by omega,hP]
  refine h.yes ?_
  rw [←hP,Int.natCast_add];exact h0
theorem RtR.noI (h:RtR m (j+1).toNat o) (hj:0≤j) (hP:P=2 ^ j.toNat) (h0:¬ ((o:Int)+(P:Int))*((o:Int)+(P:Int))≤m):RtR m (j-1+1).toNat o:=by
  rw [show (j+1).toNat=j.toNat+1 by omega] at h
  rw [show (j-1+1).toNat=j.toNat by omega]
  refine h.no ?_
  rw [←hP,Int.natCast_add];exact h0
theorem RtR.bnd (h:RtR m (j+1).toNat o) (hj:0≤j) (hP:P=2 ^ j.toNat):o+P+P≤4294967296:=by
  rw [show (j+1).toNat=j.toNat+1 by omega] at h
  have:=h.2.2
  rw [Nat.pow_succ,←hP] at this
  omega
theorem aSq:((o:Int)+(P:Int))*((o:Int)+(P:Int))=(((o+P)*(o+P):Nat):Int):=by rw [Int.natCast_mul,Int.natCast_add]
theorem aVM (hm:m≤9223372036854775807) (h:¬ (o:Int)+(P:Int)≤3037000499):¬ ((o:Int)+(P:Int))*((o:Int)+(P:Int))≤m:=by
  have:=Nat.mul_le_mul (show 3037000500≤o+P by omega) (show 3037000500≤o+P by omega)
  rw [aSq]
  generalize (o+P)*(o+P)=Q at this ⊢
  omega
theorem aQG (h:(o:Int)+(P:Int)≤3037000499):0≤((o:Int)+(P:Int))*((o:Int)+(P:Int))∧((o:Int)+(P:Int))*((o:Int)+(P:Int))≤9223372030926249001:=by
  have:=Nat.mul_le_mul (show o+P≤3037000499 by omega) (show o+P≤3037000499 by omega)
  rw [aSq]
  generalize (o+P)*(o+P)=Q at this ⊢
  omega
theorem cvu {w:World}(h:0≤j∧j≤31):Ft.ok Tryz.prog w (.g1 (.convert 3 215) (vI j) (.int .u64 j)):=fun q ρ x ho hx=>by
  have hw:IntKind.u64.wrap j=j:=by
    show j%_=j
    exact Int.emod_eq_of_lt h.1 (by show j<18446744073709551616;omega)
  simp [execOp,ho,hx,go_sem,convert,Tryz.underlying215,u3_,hw]
theorem aX4 {w:World}(hP:P=2 ^ j.toNat) (h:0≤j∧j≤31):Ft.ok Tryz.prog w (.g2 (fun x y => .binOp .shl 3 x y 215) (vI 1) (.int .u64 j) (vI (P:Int))):=fun q ρ x y ho hx hy=>by
  have hp:P≤2147483648:=by rw [hP];exact Nat.le_trans (Nat.pow_le_pow_right (by omega) (show j.toNat≤31 by omega)) (by decide)
  have hw:IntKind.i64.wrap ((P:Nat):Int)=(P:Int):=IntWalk.i64_in _ ⟨by omega,by omega⟩
  simp [execOp,ho,hx,hy,go_sem]
  rw [hP] at hw ⊢
  simpa using hw
end
abbrev aYj (Φ:Ending→World→Prop):=AtO Tryz.prog (aAf Tryz.f107) (aAo (bodyPost Tryz.prog Tryz.f107 Φ)) [] 26
theorem aKA {w:World}(m:Int) (hm:m≤9223372036854775807):Calls Tryz.prog 107 #[vI m] w fun e w'=>e = .returned (vI (aB5 m))∧Fr (fun _=>False) w w':=by
  refine beg Tryz.func107 rfl rfl [(0,vI m)] rfl rfl fun Φ hΦ=>?_
  have hM:=Mm.nil (fun _=>False) w
  refine seg 3 0 [(3,vI 0),(4,vI 31)] f0 ?_
  have ac:∀ (ab:Nat) (j:Int) (o:Nat) (w2:World),-1≤j→j≤31→RtR m (j+1).toNat o→Mm (fun _=>False) w w2 []→ab=(j+1).toNat→aYj Φ (some (3,0)) [(4,vI j),(3,vI (o:Int)),(0,vI m)] w2:=by
   refine aAG fun ab aa j o w2 hj0 hj1 hR hM ae=>seg 3 2 [(7,vB (decide (0≤j)))] f0 ?_
   cases h55:(decide (0≤j))
   ·have ad:=df h55
    exact rt1 2 (vI (o:Int)) rfl f0 (hΦ _ _ ⟨by rw [show (j+1).toNat=0 by omega] at hR;rw [hR.ok],hM.fr⟩)
   have ad:=dt h55
   obtain ⟨P,hP⟩:∃ P:Nat,isP P j:=⟨_,rfl⟩
   have hPb:=hR.bnd (by omega) hP
   refine seg 6 3 [(5,vI ((o:Int)+(P:Int))),(17,vB (decide (((o:Int)+(P:Int))≤3037000499)))] (fc (cvu (j:=j) (by omega)) (fc (aX4 (j:=j) hP (by omega)) (fc (aAe (o:Int) (P:Int) u3_) f0))) ?_
   cases h56:(decide (((o:Int)+(P:Int))≤3037000499))
   ·refine seg 3 0 [(4,vI (j-1))] (fc (aBq j 1 u3_) f0) (aAb _ (aa _ (by omega) (j-1) o _ (by omega) (by omega) (hR.noI (by omega) hP (aVM hm (of_decide_eq_false h56))) hM rfl))
   have hsm:=aQG (of_decide_eq_true h56)
   refine seg 6 9 [(23,vB (decide ((((o:Int)+(P:Int))*((o:Int)+(P:Int)))≤m)))] (fc (aHX ((o:Int)+(P:Int)) ((o:Int)+(P:Int)) u3_) f0) ?_
   cases h57:(decide ((((o:Int)+(P:Int))*((o:Int)+(P:Int)))≤m))
   ·refine seg 3 0 [(4,vI (j-1))] (fc (aBq j 1 u3_) f0) (aAb _ (aa _ (by omega) (j-1) o _ (by omega) (by omega) (hR.noI (by omega) hP (of_decide_eq_false h57)) hM rfl))
   refine seg 3 0 [(3,vI ((o:Int)+(P:Int))),(4,vI (j-1))] (fc (aBq j 1 u3_) f0) (aAb _ (aa _ (by omega) (j-1) (o+P) _ (by omega) (by omega) (hR.yesI (by omega) hP (of_decide_eq_true h57)) hM rfl))
  exact aAb _ (ac _ 31 0 _ (by omega) (by omega) (RtR.zero hm) hM rfl)
theorem aD1 (c d:UInt8):(c==d)=((c.toNat:Int)==(d.toNat:Int)):=by
  rw [Bool.eq_iff_iff,beq_iff_eq,beq_iff_eq]
  constructor
  · intro h;rw [h]
  · intro h;exact UInt8.toNat_inj.1 (by omega)
theorem aMC (c d:UInt8):decide (c≤d)=decide ((c.toNat:Int)≤(d.toNat:Int)):=by
  rw [Bool.eq_iff_iff,decide_eq_true_eq,decide_eq_true_eq,UInt8.le_iff_toNat_le];omega
theorem aGE (c:UInt8):aBg c=((decide (97≤(c.toNat:Int))&&decide ((c.toNat:Int)≤122))||(decide (65≤(c.toNat:Int))&&decide ((c.toNat:Int)≤90))):=by
  unfold aBg
  rw [aMC 97 c,aMC c 122,aMC 65 c,aMC c 90];rfl
theorem aI8 (c:UInt8):aAu c=(decide (48≤(c.toNat:Int))&&decide ((c.toNat:Int)≤57)):=by
  unfold aAu
  rw [aMC 48 c,aMC c 57];rfl
theorem aKV (c:UInt8):aAF c=(aBg c||aAu c||((c.toNat:Int)==95)):=by
  unfold aAF
  rw [aD1 c 95];rfl
theorem aPz (c:UInt8):aB6 c=([32,9,10]:Bys).contains c:=by
  unfold aB6;simp [List.contains,List.elem]
  cases (c==32)<;>cases (c==9)<;>cases (c==10)<;>rfl
theorem aDf (c:UInt8) (w:World):Calls Tryz.prog 105 #[.int .u8 (c.toNat:Int)] w fun e w'=>e = .returned (vB (aBg c))∧Fr (fun _=>False) w w':=by
  refine beg Tryz.func105 rfl rfl [(0,.int .u8 (c.toNat:Int))] rfl rfl fun Φ hΦ=>?_
  have hM:=Mm.nil (fun _=>False) w
  refine seg 1 3 [(5,vB (decide (97≤(c.toNat:Int))))] f0 ?_
  cases h1:(decide (97≤(c.toNat:Int)))
  ·refine seg 1 10 [(9,vB false),(12,vB (decide (65≤(c.toNat:Int))))] f0 ?_
   cases h2:(decide (65≤(c.toNat:Int)))
   ·exact rt1 2 (vB false) rfl f0 (hΦ _ _ ⟨by rw [aGE];simp only [h1,h2]<;>rfl,hM.fr⟩)
   exact rt1 2 (vB (decide ((c.toNat:Int)≤90))) rfl f0 (hΦ _ _ ⟨by rw [aGE];simp only [h1,h2]<;>rfl,hM.fr⟩)
  refine seg 1 7 [(9,vB (decide ((c.toNat:Int)≤122)))] f0 ?_
  cases h3:(decide ((c.toNat:Int)≤122))
  rotate_left
  ·exact rt1 2 (vB true) rfl f0 (hΦ _ _ ⟨by rw [aGE];simp only [h1,h3]<;>rfl,hM.fr⟩)
  refine seg 1 10 [(12,vB (decide (65≤(c.toNat:Int))))] f0 ?_
  cases h4:(decide (65≤(c.toNat:Int)))
  ·exact rt1 2 (vB false) rfl f0 (hΦ _ _ ⟨by rw [aGE];simp only [h1,h3,h4]<;>rfl,hM.fr⟩)
  exact rt1 2 (vB (decide ((c.toNat:Int)≤90))) rfl f0 (hΦ _ _ ⟨by rw [aGE];simp only [h1,h3,h4]<;>rfl,hM.fr⟩)
theorem aD8 (c:UInt8) (w:World):Calls Tryz.prog 138 #[.int .u8 (c.toNat:Int)] w fun e w'=>e = .returned (vB (aAu c))∧Fr (fun _=>False) w w':=by
  refine beg Tryz.func138 rfl rfl [(0,.int .u8 (c.toNat:Int))] rfl rfl fun Φ hΦ=>?_
  have hM:=Mm.nil (fun _=>False) w
  refine seg 1 3 [(5,vB (decide (48≤(c.toNat:Int))))] f0 ?_
  cases h5:(decide (48≤(c.toNat:Int)))
  ·exact rt1 2 (vB false) rfl f0 (hΦ _ _ ⟨by rw [aI8];simp only [h5]<;>rfl,hM.fr⟩)
  exact rt1 2 (vB (decide ((c.toNat:Int)≤57))) rfl f0 (hΦ _ _ ⟨by rw [aI8];simp only [h5]<;>rfl,hM.fr⟩)
theorem aEq (c:UInt8) (w:World):Calls Tryz.prog 104 #[.int .u8 (c.toNat:Int)] w fun e w'=>e = .returned (vB (aAF c))∧Fr (fun _=>False) w w':=by
  refine beg Tryz.func104 rfl rfl [(0,.int .u8 (c.toNat:Int))] rfl rfl fun Φ hΦ=>?_
  have hM:=Mm.nil (fun _=>False) w
  refine aAr 1 1 4 [(3,.int .u8 (c.toNat:Int))] f0 hM (aDf c _) fun w1 hM=>seg 1 3 [(5,vB (aBg c))] f0 ?_
  cases h6:(aBg c)
  rotate_left
  ·exact rt1 2 (vB true) rfl f0 (hΦ _ _ ⟨by rw [aKV];simp only [h6]<;>rfl,hM.fr⟩)
  refine aAr 1 4 7 [(6,.int .u8 (c.toNat:Int))] f0 hM (aD8 c _) fun w1 hM=>seg 1 7 [(9,vB (aAu c))] f0 ?_
  cases h7:(aAu c)
  ·exact rt1 2 (vB ((c.toNat:Int)==95)) rfl f0 (hΦ _ _ ⟨by rw [aKV];simp only [h6,h7]<;>rfl,hM.fr⟩)
  exact rt1 2 (vB true) rfl f0 (hΦ _ _ ⟨by rw [aKV];simp only [h6,h7]<;>rfl,hM.fr⟩)
abbrev aYb (Φ:Ending→World→Prop):=AtO Tryz.prog (aAf Tryz.f142) (aAo (bodyPost Tryz.prog Tryz.f142 Φ)) [] 17
theorem aFq {s:Bys}(hs:s.length≤9223372036854775807) (c:UInt8) (w:World):Calls Tryz.prog 142 #[vS s,.int .u8 (c.toNat:Int)] w fun e w'=>e = .returned (vB (s.contains c))∧Fr (fun _=>False) w w':=by
  refine beg Tryz.func142 rfl rfl [(0,vS s),(1,.int .u8 (c.toNat:Int))] rfl rfl fun Φ hΦ=>?_
  have hM:=Mm.nil (fun _=>False) w
  refine seg 2 0 [(5,vI 0)] f0 ?_
  have lp8:∀ (ab:Nat) (i:Nat) (w2:World),i≤s.length→s.contains c=(s.drop i).contains c→Mm (fun _=>False) w w2 []→ab=s.length-i→aYb Φ (some (2,0)) [(5,vI (i:Int)),(0,vS s),(1,.int .u8 (c.toNat:Int))] w2:=by
   refine aAG fun ab ih9 i w2 hi hv hM ae=>seg 2 4 [(9,vB (decide ((i:Int)<(s.length:Int))))] (fc (aC1 9 s) f0) ?_
   cases h11:(decide ((i:Int)<(s.length:Int)))
   ·have ac:=df h11
    exact rt1 4 (vB false) rfl f0 (hΦ _ _ ⟨by rw [hv,List.drop_of_length_le (by omega)];rfl,hM.fr⟩)
   have ac:=dt h11
   obtain ⟨e12,aa⟩:=geb (l:=s) (i:=i) (by omega)
   refine seg 4 5 [(16,vB ((e12.toNat:Int)==(c.toNat:Int)))] (fc (byt 9 aa) f0) ?_
   cases h13:((e12.toNat:Int)==(c.toNat:Int))
   ·have ad:=ef h13
    refine seg 2 0 [(5,vI ((i:Int)+1))] (fc (aAe (i:Int) 1 u3_) f0) (aAb _ (ih9 _ (by have:=gl aa;omega) (i+1) _ (gl aa) (by rw [hv,gd aa,List.contains_cons,aD1 c e12,show (((c.toNat:Int))==((e12.toNat:Int)))=false by rw [beq_eq_false_iff_ne];exact fun q=>ef h13 q.symm];rfl) hM rfl))
   have ad:=et h13
   exact rt1 4 (vB true) rfl f0 (hΦ _ _ ⟨by rw [hv,gd aa,List.contains_cons,aD1 c e12,show (((c.toNat:Int))==((e12.toNat:Int)))=true by rw [beq_iff_eq];exact (et h13).symm];rfl,hM.fr⟩)
  exact aAb _ (lp8 _ 0 _ (Nat.zero_le _) rfl hM rfl)
theorem aUx (c:UInt8):aBg c=(cl8 c==3):=by
  have h:∀ i:Fin 256,aBg (UInt8.ofNat i.val)=(cl8 (UInt8.ofNat i.val)==3):=by decide +kernel
  have:=h ⟨c.toNat,c.toNat_lt⟩
  simpa using this
theorem aPP (c:UInt8):aAF c=(cl8 c==3||(cl8 c==4||cl8 c==5)):=by
  have h:∀ i:Fin 256,aAF (UInt8.ofNat i.val)=(cl8 (UInt8.ofNat i.val)==3||(cl8 (UInt8.ofNat i.val)==4||cl8 (UInt8.ofNat i.val)==5)):=by decide +kernel
  have:=h ⟨c.toNat,c.toNat_lt⟩
  simpa using this
theorem aJB:∀ (l:Bys) (i:Nat),aFw (i+1) l=l.all aAF
  | [],i=>rfl
  | c::l,i=>by
    unfold aFw aFx
    rw [aJB l (i+1),List.all_cons,aPP c]
    rfl
def aTS:Bys→Bool
  | []=>false
  | c::l=>(c::l).all aAF&&(decide (((c::l).length:Int)≤24)&&aBg c)
theorem aDY {s:Bys}{c:UInt8}(h:s[0]?=some c):aTS s=(s.all aAF&&(decide ((s.length:Int)≤24)&&aBg c)):=by
  cases s with
  | nil=>cases h
  | cons d l=>cases h;rfl
theorem aR4 {s:Bys}(h:s.all aAF=false):aTS s=false:=by
  cases s with
  | nil=>rfl
  | cons d l=>rw [aDY (c:=d) rfl,h];rfl
theorem aFW (s:Bys):aTS s=aA2 s:=by
  cases s with
  | nil=>rfl
  | cons c l =>
    rw [aDY (c:=c) rfl]
    unfold aA2 aFw aFx
    rw [aJB l 0,List.all_cons,aPP c,aUx c]
    rw [show decide (((c::l).length:Int)≤24)=decide ((c::l).length≤24) by rw [decide_eq_decide];omega]
    cases cl8 c==3<;>cases decide ((c::l).length≤24)<;>cases l.all aAF<;>simp
abbrev A68 (Φ:Ending→World→Prop):=AtO Tryz.prog (aAf Tryz.f68) (aAo (bodyPost Tryz.prog Tryz.f68 Φ)) [] 28
theorem aAx {s:Bys}(hs:s.length≤9223372036854775807) (w:World):Calls Tryz.prog 68 #[vS s] w fun e w'=>e = .returned (vB (aA2 s))∧Fr (fun _=>False) w w':=by
  refine beg Tryz.func68 rfl rfl [(0,vS s)] rfl rfl fun Φ hΦ=>?_
  have hM:=Mm.nil (fun _=>False) w
  refine seg 2 0 [(3,vI 0)] f0 ?_
  have ad:∀ (ab:Nat) (i:Nat) (w2:World),i≤s.length→s.all aAF=(s.drop i).all aAF→Mm (fun _=>False) w w2 []→ab=s.length-i→A68 Φ (some (2,0)) [(3,vI (i:Int)),(0,vS s)] w2:=by
   refine aAG fun ab ae i w2 hi hv hM ai=>seg 2 4 [(7,vB (decide ((i:Int)<(s.length:Int))))] (fc (aC1 9 s) f0) ?_
   cases h17:(decide ((i:Int)<(s.length:Int)))
   rotate_left
   ·have af:=dt h17
    obtain ⟨e21,aa⟩:=geb (l:=s) (i:=i) (by omega)
    refine aAr 4 3 13 [(12,.int .u8 (e21.toNat:Int))] (fc (byt 9 aa) f0) hM (aEq e21 _) fun w1 hM=>seg 4 5 [(14,vB (!(aAF e21)))] f0 ?_
    cases h22:(aAF e21)
    ·exact rt1 2 (vB false) rfl f0 (hΦ _ _ ⟨by rw [←aFW,aR4 (show s.all aAF=false by rw [hv,aBe aa,h22];rfl)],hM.fr⟩)
    refine seg 2 0 [(3,vI ((i:Int)+1))] (fc (aAe (i:Int) 1 u3_) f0) (aAb _ (ae _ (by have:=gl aa;omega) (i+1) _ (gl aa) (by rw [hv,aBe aa,h22];rfl) hM rfl))
   have af:=df h17
   refine seg 6 4 [(18,vB (decide (0<(s.length:Int))))] (fc (aC1 9 s) f0) ?_
   cases h18:(decide (0<(s.length:Int)))
   ·have ag:=df h18
    exact rt1 2 (vB false) rfl f0 (hΦ _ _ ⟨by rw [←aFW,show s=[] from List.eq_nil_of_length_eq_zero (by have:=df h18;omega)];rfl,hM.fr⟩)
   have ag:=dt h18
   refine seg 6 9 [(23,vB (decide ((s.length:Int)≤24)))] (fc (aC1 9 s) f0) ?_
   cases h19:(decide ((s.length:Int)≤24))
   ·have ah:=df h19
    obtain ⟨c0,hc0⟩:=geb (l:=s) (i:=0) (by have:=dt h18;omega)
    exact rt1 2 (vB false) rfl f0 (hΦ _ _ ⟨by rw [←aFW,aDY hc0,hv,List.drop_of_length_le (by omega)];simp only [h19,List.all_nil]<;>rfl,hM.fr⟩)
   have ah:=dt h19
   obtain ⟨e20,ac⟩:=geb (l:=s) (i:=0) (by omega)
   refine aAr 6 11 26 [(25,.int .u8 (e20.toNat:Int))] (fc (byt 9 ac) f0) hM (aDf e20 _) fun w1 hM=>rt1 2 (vB (aBg e20)) rfl f0 (hΦ _ _ ⟨by rw [←aFW,aDY ac,hv,List.drop_of_length_le (by omega)];simp only [h19,List.all_nil]<;>rfl,hM.fr⟩)
  exact aAb _ (ad _ 0 _ (Nat.zero_le _) rfl hM rfl)
theorem aOD (a b:Int) (w:World):Calls Tryz.prog 134 #[.agg #[vI a,vI b]] w fun e w'=>e = .returned (vB (onB a b))∧Fr (fun _=>False) w w':=by
  refine beg Tryz.func134 rfl rfl [(0,.agg #[vI a,vI b])] rfl rfl fun Φ hΦ=>?_
  have hM:=Mm.nil (fun _=>False) w
  refine aAq 0 0 1 [] (cs:=#[vI a,vI b]) (T:=61) (v:=fun b=>vP b 0) f0 hM fun aa w1 hM=>seg 1 4 [(6,vB (decide (0≤a)))] (fc (ldm 3 0 0 hM rfl rfl) f0) ?_
  cases h24:(decide (0≤a))
  ·exact rt1 2 (vB false) rfl f0 (hΦ _ _ ⟨by unfold onB;simp only [h24]<;>rfl,hM.fr⟩)
  refine seg 1 9 [(11,vB (decide (a<1048576)))] (fc (ldm 3 0 0 hM rfl rfl) f0) ?_
  cases h25:(decide (a<1048576))
  ·exact rt1 2 (vB false) rfl f0 (hΦ _ _ ⟨by unfold onB;simp only [h24,h25]<;>rfl,hM.fr⟩)
  refine seg 1 14 [(16,vB (decide (0≤b)))] (fc (ldm 3 0 1 hM rfl rfl) f0) ?_
  cases h26:(decide (0≤b))
  ·exact rt1 2 (vB false) rfl f0 (hΦ _ _ ⟨by unfold onB;simp only [h24,h25,h26]<;>rfl,hM.fr⟩)
  exact rt1 2 (vB (decide (b<1048576))) rfl (fc (ldm 3 0 1 hM rfl rfl) f0) (hΦ _ _ ⟨by unfold onB;simp only [h24,h25,h26]<;>rfl,hM.fr⟩)
abbrev aXX (Φ:Ending→World→Prop):=AtO Tryz.prog (aAf Tryz.f147) (aAo (bodyPost Tryz.prog Tryz.f147 Φ)) [] 18
theorem aOF {w:World}{v:Value}{l:List Bys}(hl:StV w v l) (k:Bys):Calls Tryz.prog 147 #[v,vS k] w fun e w'=>e = .returned (vB (l.contains k))∧Fr (fun _=>False) w w':=by
  obtain ⟨p0,cp0,hp0,sp0⟩:=hl.op
  subst hp0;have bp0:=sp0.bnd
  refine beg Tryz.func147 rfl rfl [(0,vL p0 l.length cp0),(1,vS k)] rfl rfl fun Φ hΦ=>?_
  have hM:=Mm.nil (fun _=>False) w
  refine seg 2 0 [(5,vI 0)] f0 ?_
  have ab:∀ (aa:Nat) (i:Nat) (w2:World),i≤l.length→l.contains k=(l.drop i).contains k→Mm (fun _=>False) w w2 []→aa=l.length-i→aXX Φ (some (2,0)) [(5,vI (i:Int)),(0,vL p0 l.length cp0),(1,vS k)] w2:=by
   refine aAG fun aa ac i w2 hi hv hM af=>seg 2 4 [(9,vB (decide ((i:Int)<(l.length:Int))))] f0 ?_
   cases h30:(decide ((i:Int)<(l.length:Int)))
   ·have ad:=df h30
    exact rt1 4 (vB false) rfl f0 (hΦ _ _ ⟨by rw [hv,List.drop_of_length_le (by omega)];rfl,hM.fr⟩)
   have ad:=dt h30
   obtain ⟨y,hy,ag,ah,q31,ae⟩:=sp0.el (i:=i) (by omega)
   refine seg 4 6 [(17,vB (y==k))] (fc (ix 28 cp0 q31 (gl hy)) (fc (ld0 9 hM (ae 0 _ rfl)) (fc (seq 9 y k) f0))) ?_
   cases h32:(y==k)
   ·refine seg 2 0 [(5,vI ((i:Int)+1))] (fc (aAe (i:Int) 1 u3_) f0) (aAb _ (ac _ (by have:=gl hy;omega) (i+1) _ (gl hy) (by rw [hv,gd hy,List.contains_cons,show (k==y)=false from beq_eq_false_iff_ne.2 fun q=>ef h32 q.symm];rfl) hM rfl))
   exact rt1 4 (vB true) rfl f0 (hΦ _ _ ⟨by rw [hv,gd hy,List.contains_cons,show (k==y)=true from beq_iff_eq.2 (et h32).symm];rfl,hM.fr⟩)
  exact aAb _ (ab _ 0 _ (Nat.zero_le _) rfl hM rfl)
theorem aWh {k:Int}(h1:¬ k<1) (h2:¬ 5<k):(#[vS [],vS [110,111,100,101],vS [119,97,121],vS [97,114,101,97],vS [114,111,117,116,101],vS [116,117,114,110]]:Array Value)[k.toNat]?=some (vS (aBP k)):=by
  have:=aUK (i:=k.toNat) (by omega)
  rw [show ((k.toNat:Nat):Int)=k by omega] at this
  exact this
theorem aLv {k:Int}(h:k<1∨5<k):aBP k=[]:=by
  unfold aBP
  by_cases e:k<0∨6≤k
  · rw [if_pos e]
  · rw [if_neg e,show k=0 by omega];rfl
theorem aF5 (k:Int) (w:World):Calls Tryz.prog 135 #[vI k] w fun e w'=>e = .returned (vS (aBP k))∧Fr (fun _=>False) w w':=by
  refine beg Tryz.func135 rfl rfl [(0,vI k)] rfl rfl fun Φ hΦ=>?_
  have hM:=Mm.nil (fun _=>False) w
  refine aAq 1 0 4 [] (cs:=#[vS [],vS [110,111,100,101],vS [119,97,121],vS [97,114,101,97],vS [114,111,117,116,101],vS [116,117,114,110]]) (T:=9) (v:=fun b=>vL (some ⟨b,0,none⟩) 6 6) f0 hM fun aa w1 hM=>seg 2 3 [(3,vL (some ⟨aa,0,none⟩) 6 6),(7,vB (decide (k<1)))] f0 ?_
  cases h34:(decide (k<1))
  rotate_left
  ·have ab:=dt h34
   exact rt1 2 (vS []) rfl f0 (hΦ _ _ ⟨by rw [aLv (by omega)],hM.fr⟩)
  have ab:=df h34
  refine seg 2 6 [(10,vB (decide (5<k)))] f0 ?_
  cases h35:(decide (5<k))
  ·have ac:=df h35
   exact rt1 2 (vS (aBP k)) rfl (fc (ix 28 6 (p:=some ⟨aa,0,none⟩) (g:=aa) (off:=0) (n:=6) (i:=k.toNat) rfl (by omega) (z:=k) (hz:=by omega)) (fc (ldt 9 0 hM rfl (aWh (k:=k) (by omega) (by omega))) f0)) (hΦ _ _ ⟨rfl,hM.fr⟩)
  have ac:=dt h35
  exact rt1 2 (vS []) rfl f0 (hΦ _ _ ⟨by rw [aLv (by omega)],hM.fr⟩)
theorem aPm {s:Bys}(h:aA2 s=true):blt [] s=true:=by
  cases s with
  | nil=>simp [aA2] at h
  | cons c l=>rfl
theorem aL3 {k:Bys}{t:Tag}{l:List Tag}(h1:aA2 t.1=true) (h2:blt k t.1=true) (h3:¬ (t.2.length:Int)<1) (h4:¬ 200<(t.2.length:Int)):aIb k (t::l)=aIb t.1 l:=by
  have:(t.2==[])=false:=by
    cases h:t.2 with
    | nil=>rw [h] at h3;exact absurd (by decide) h3
    | cons c l=>rfl
  rw [aIb,h1,h2,this,show decide ((t.2.length:Int)≤200)=true by rw [decide_eq_true_eq];omega];rfl
theorem aIa {k:Bys}{t:Tag}{l:List Tag}(h:aA2 t.1=false∨blt k t.1=false∨(t.2.length:Int)<1∨200<(t.2.length:Int)):aIb k (t::l)=false:=by
  rw [aIb]
  rcases h with h | h | h | h
  · rw [h];rfl
  · rw [h];simp
  · rw [show t.2=[] from List.eq_nil_of_length_eq_zero (by omega)];simp
  · rw [show decide ((t.2.length:Int)≤200)=false by rw [decide_eq_false_iff_not];omega];simp
theorem aFO {l:List Tag}(h:aIb [] l=false):aBr l=false:=by unfold aBr;rw [h];rfl
def aRf (l:List Tag):Nat→Bys
  | 0=>[]
  | i+1=>((l[i]?).map (·.1)).getD []
theorem aLM {l:List Tag}{i:Nat}{x:Tag}(h0:0<i) (h:l[i-1]?=some x):aRf l i=x.1:=by
  obtain ⟨j,rfl⟩:∃ j,i=j+1:=⟨i-1,by omega⟩
  rw [show j+1-1=j by omega] at h
  show ((l[j]?).map (·.1)).getD []=x.1
  rw [h];rfl
theorem aLL {l:List Tag}{i:Nat}{x:Tag}(h:l[i]?=some x):aRf l (i+1)=x.1:=by
  show ((l[i]?).map (·.1)).getD []=x.1
  rw [h];rfl
theorem aTF {l:List Tag}{i:Nat}(h:¬ 0<i):aRf l i=[]:=by rw [show i=0 by omega];rfl
abbrev aYe (Φ:Ending→World→Prop):=AtO Tryz.prog (aAf Tryz.f136) (aAo (bodyPost Tryz.prog Tryz.f136 Φ)) [] 56
theorem aGu {w:World}{v:Value}{l:List Tag}(hl:TgV w v l) (hb:∀ t∈l,B63 t.1∧B63 t.2):Calls Tryz.prog 136 #[v] w fun e w'=>e = .returned (vB (aBr l))∧Fr (fun _=>False) w w':=by
  obtain ⟨p0,cp0,hp0,sp0⟩:=hl.op
  subst hp0;have bp0:=sp0.bnd
  refine beg Tryz.func136 rfl rfl [(0,vL p0 l.length cp0)] rfl rfl fun Φ hΦ=>?_
  have hM:=Mm.nil (fun _=>False) w
  refine seg 1 3 [(6,vB (decide (60<(l.length:Int))))] f0 ?_
  cases h36:(decide (60<(l.length:Int)))
  rotate_left
  ·have ad:=dt h36
   exact rt1 2 (vB false) rfl f0 (hΦ _ _ ⟨by unfold aBr;rw [show decide ((l.length:Int)≤60)=false by rw [decide_eq_false_iff_not];omega,Bool.and_false],hM.fr⟩)
  have ad:=df h36
  refine seg 4 0 [(3,vI 0)] f0 ?_
  have ae:∀ (ab:Nat) (i:Nat) (w2:World),i≤l.length→aIb [] l=aIb (aRf l i) (l.drop i)→Mm (fun _=>False) w w2 []→ab=l.length-i→aYe Φ (some (4,0)) [(3,vI (i:Int)),(0,vL p0 l.length cp0)] w2:=by
   refine aAG fun ab ac i w2 hi hv hM ai=>seg 4 4 [(10,vB (decide ((i:Int)<(l.length:Int))))] f0 ?_
   cases h40:(decide ((i:Int)<(l.length:Int)))
   ·have af:=df h40
    exact rt1 2 (vB true) rfl f0 (hΦ _ _ ⟨by unfold aBr;rw [hv,List.drop_of_length_le (by omega),show decide ((l.length:Int)≤60)=true by rw [decide_eq_true_eq];omega];rfl,hM.fr⟩)
   have af:=dt h40
   obtain ⟨y,hy,aj,ak,q41,aa⟩:=sp0.el (i:=i) (by omega)
   refine seg 6 0 [] f0 ?_
   cases h42:(aA2 y.1)
   ·refine drc [(55,vB true)] hM (fun w5 hM=>(fc (ix 62 cp0 q41 (gl hy)) (fc (ld0 9 hM (aa 0 _ rfl)) (fc (rzc (tcl (aAx (hb _ (gm hy)).1 _)) h42) f0)))) fun w5 hM=>rt1 2 (vB false) rfl f0 (hΦ _ _ ⟨by rw [aFO (by rw [hv,gd hy];exact aIa (.inl h42))],hM.fr⟩)
   cases h43:(decide ((y.2.length:Int)<1))
   rotate_left
   ·refine drc [(55,vB true)] hM (fun w5 hM=>(fc (ix 62 cp0 q41 (gl hy)) (fc (ld0 9 hM (aa 0 _ rfl)) (fc (rzc (tcl (aAx (hb _ (gm hy)).1 _)) h42) (fc (ix 62 cp0 q41 (gl hy)) (fc (ld0 9 hM (aa 1 _ rfl)) (fc (aC1 9 y.2) (fc (tv 27 h43) f0)))))))) fun w5 hM=>rt1 2 (vB false) rfl f0 (hΦ _ _ ⟨by rw [aFO (by rw [hv,gd hy];exact aIa (.inr (.inr (.inl (dt h43)))))],hM.fr⟩)
   cases h44:(decide (200<(y.2.length:Int)))
   rotate_left
   ·refine drc [(55,vB true)] hM (fun w5 hM=>(fc (ix 62 cp0 q41 (gl hy)) (fc (ld0 9 hM (aa 0 _ rfl)) (fc (rzc (tcl (aAx (hb _ (gm hy)).1 _)) h42) (fc (ix 62 cp0 q41 (gl hy)) (fc (ld0 9 hM (aa 1 _ rfl)) (fc (aC1 9 y.2) (fc (tv 27 h43) (fc (ix 62 cp0 q41 (gl hy)) (fc (ld0 9 hM (aa 1 _ rfl)) (fc (aC1 9 y.2) (fc (tv 36 h44) f0)))))))))))) fun w5 hM=>rt1 2 (vB false) rfl f0 (hΦ _ _ ⟨by rw [aFO (by rw [hv,gd hy];exact aIa (.inr (.inr (.inr (dt h44)))))],hM.fr⟩)
   cases h45:(decide (0<(i:Int)))
   ·have ag:=df h45
    refine drc [(55,vB false)] hM (fun w5 hM=>(fc (ix 62 cp0 q41 (gl hy)) (fc (ld0 9 hM (aa 0 _ rfl)) (fc (rzc (tcl (aAx (hb _ (gm hy)).1 _)) h42) (fc (ix 62 cp0 q41 (gl hy)) (fc (ld0 9 hM (aa 1 _ rfl)) (fc (aC1 9 y.2) (fc (tv 27 h43) (fc (ix 62 cp0 q41 (gl hy)) (fc (ld0 9 hM (aa 1 _ rfl)) (fc (aC1 9 y.2) (fc (tv 36 h44) (fc (tv 40 h45) f0))))))))))))) fun w5 hM=>seg 4 0 [(3,vI ((i:Int)+1))] (fc (aAe (i:Int) 1 u3_) f0) (aAb _ (ac _ (by have:=gl hy;omega) (i+1) _ (gl hy) (by rw [hv,gd hy,aLL hy];exact aL3 h42 (by rw [aTF (by have:=df h45;omega)];exact aPm h42) (df h43) (df h44)) hM rfl))
   have ag:=dt h45
   obtain ⟨z,hz,al,am,q46,ah⟩:=sp0.el (i:=(i-1)) (by omega)
   refine drc [(55,vB (!(blt z.1 y.1)))] hM (fun w5 hM=>(fc (ix 62 cp0 q41 (gl hy)) (fc (ld0 9 hM (aa 0 _ rfl)) (fc (rzc (tcl (aAx (hb _ (gm hy)).1 _)) h42) (fc (ix 62 cp0 q41 (gl hy)) (fc (ld0 9 hM (aa 1 _ rfl)) (fc (aC1 9 y.2) (fc (tv 27 h43) (fc (ix 62 cp0 q41 (gl hy)) (fc (ld0 9 hM (aa 1 _ rfl)) (fc (aC1 9 y.2) (fc (tv 36 h44) (fc (tv 40 h45) (fc (aBq (i:Int) 1 u3_) (fc (ix 62 cp0 q46 (gl hz) (z:=((i:Int)-1)) (hz:=(by omega))) (fc (ld0 9 hM (ah 0 _ rfl)) (fc (ix 62 cp0 q41 (gl hy)) (fc (ld0 9 hM (aa 0 _ rfl)) (fc (sge 9 z.1 y.1) f0))))))))))))))))))) fun w5 hM=>?_
   cases h47:(blt z.1 y.1)
   ·exact rt1 2 (vB false) rfl f0 (hΦ _ _ ⟨by rw [aFO (by rw [hv,gd hy];exact aIa (.inr (.inl (by rw [aLM (by have:=dt h45;omega) hz];exact h47))))],hM.fr⟩)
   refine seg 4 0 [(3,vI ((i:Int)+1))] (fc (aAe (i:Int) 1 u3_) f0) (aAb _ (ac _ (by have:=gl hy;omega) (i+1) _ (gl hy) (by rw [hv,gd hy,aLL hy];exact aL3 h42 (by rw [aLM (by have:=dt h45;omega) hz];exact h47) (df h43) (df h44)) hM rfl))
  exact aAb _ (ae _ 0 _ (Nat.zero_le _) rfl hM rfl)
end Go.Proofs.YtbflfefahheidaaGreatDoor
