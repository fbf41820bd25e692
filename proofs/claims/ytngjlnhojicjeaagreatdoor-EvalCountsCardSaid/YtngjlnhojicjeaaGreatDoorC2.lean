/- Part 2 of the proof. -/
import Derived.Test.YtngjlnhojicjeaaGreatDoorC1
import Derived.WalkKit
import Derived.Shelf.Strings.Builder1
import Derived.Shelf.Small.Bits
import Derived.Shelf.Small.Strs
import Derived.Shelf.Small.Wraps
import Derived.Shelf.Strings.BuilderF
import Derived.Shelf.Strings.BuilderK
import Derived.Shelf.Strconv.Atoi
import Derived.Shelf.Strconv.Itoa0
import Derived.Shelf.Strconv.Itoa1
import Derived.Shelf.LaysM
import Derived.Shelf.Strconv.Itoa2
import Derived.Shelf.Strconv.Itoa3
import Derived.Shelf.Strconv.AtoiErrFast
import Derived.Shelf.Strconv.ParseIntEmpty
import Derived.Shelf.Strconv.AtoiFail
import Derived.Shelf.Strconv.Clone
import Derived.Shelf.Strconv.SyntaxError
import Derived.Shelf.LaysC
import Derived.Shelf.Strconv.ToError
import Derived.Shelf.Strconv.Lower
import Derived.Shelf.Strconv.ParseUint10
import Derived.Shelf.Strconv.ParseUint10Empty
import Derived.Shelf.Strconv.ParseUint10Any
import Derived.Shelf.Strconv.ParseInt10
import Derived.Shelf.Strconv.AtoiLong
import Derived.Shelf.Strconv.AtoiInnerAll
import Derived.Shelf.Strconv.RangeError
import Derived.Shelf.Strconv.ToErrorRange
import Derived.Shelf.Strconv.AtoiAll
import Derived.Shelf.Strings.Search1
import Derived.Shelf.GgClosure.StringsIndexFunc
import Derived.Ground.GgwProg
import Derived.Shelf.GgClosure.StringsIndexFuncTop
import Derived.Shelf.Strings.Fields
import Derived.Shelf.Unicode.Latin
import Derived.Shelf.Bits.Mul64
import Derived.Shelf.Unicode.Is16White
import Derived.Shelf.Unicode.IsSpaceAny
import Derived.Shelf.Unicode.Is16Any
import Derived.Shelf.Unicode.Is32Any
import Derived.Shelf.Unicode.ExclAny
import Derived.Shelf.Strings.FuncGrows
import Derived.Shelf.Strings.BuilderCap
import Derived.Shelf.Slices.Turned
import Derived.Test.YtngjlnhojicjeaaGreatDoorProg
import Derived.Recover
import Derived.Defers
import Derived.DeepKeys5
import Derived.DeepKeys4
import Derived.Shelf.SlSortCmp.NoneTotal
import Derived.Ground.SlsfProg
import Derived.Shelf.SlGeneric
set_option linter.unusedVariables false
set_option linter.unusedSimpArgs false
namespace Go.Pl
open Go.RowKit
section
variable {P:Program}{B:Code}{R:Pst}{ds:List Deferred}{n:Nat}{p:Option (Nat×Nat)}{L N:Frm}{w w0:World}{r' i':Nat}{F:List Ft}{F0:Nat->Prop}{M:List Ent}
def aVX (J:Nat->Ent->Prop) (k:Nat) (e:Ent) (w w':World):Prop:=∃ e',J (k+1) e' /\ e'.H w' /\ (∀ b,e'.B b->e.B b∨w.heap.size<=b) /\ Fr e.B w w'
theorem aKd {rd:Option Nat}{o:Oper}{a:Act}{l:Nat}{args:Array Value}{K:Act->World->Prop}{Q:Exit->Act->World->Prop}{Rt Rs:World->Prop}(hrun:∀ fn tmps sg bd,(Instr.yield l args).run P w = .ok (.round l fn tmps sg bd) w->(execOp a.eval o).run P w = .ok (.round l fn tmps sg bd) w) (hR:aEC P l args w Rt Rs)
  (kt:∀ w',Rt w'->K (a.put o.dst (.bool true)) w') (kf:∀ w',Rs w'->K (a.put o.dst (.bool false)) w'):o.wpIn (fen rd) 0 P a w K Q:=by
 obtain ⟨m',fn,tmps,sg,bd,hrun1,hFn,hround⟩:=hR;refine ⟨fun _ _=>trivial,?_⟩;show Oper.uponIn _ _ _ _ _ _ _ ((o.semAt rd a.eval).run P w);rw [aGR (hrun _ _ _ _ hrun1) (by intro d h;cases h)];refine ⟨fun h=>(by cases h),trivial,fun c cs _=>?_⟩;obtain ⟨e2,w2,h,h3⟩:=hround c cs (room_wide _);rcases h with ⟨rfl,h2⟩ | ⟨rfl,h2⟩
 ·exact ⟨.returned (.bool true),w2,kt w2 h2,h3⟩
 ·exact ⟨.returned (.bool false),w2,kf w2 h2,h3⟩
theorem aYg (r' i' d:Nat) (N:Frm) (ts:Array TypeId) {l:Nat}{v v2:Value}{J:Nat->Ent->Prop}{S:World->Prop}{j k:Nat}{e:Ent}(hd:d<n) (hF:aBp P w F) (hM:Mm F0 w0 w M) (hj:M[j]?=some e) (hR:aEC P l #[v,v2] w (aVX J k e w) S)
  (kt:∀ e' w',J (k+1) e'->Mm F0 w0 w' (M.set j e')->AtO P B R ds n (some (r',i'+1)) ((d,.bool true)::(N++L)) w')
  (kf:∀ w',S w'->AtO P B R ds n (some (r',i'+1)) ((d,.bool false)::(N++L)) w')
  (h:(lhs (go P w n B p L r' i' F) N L,aUd (go P w n B p L r' i' F) n L (fun x y z => .call ⟨.value x,#[y,z],ts⟩))=(rhs (go P w n B p L r' i' F) N B r' i',aUc (go P w n B p L r' i' F) n L (fun x y z => .call ⟨.value x,#[y,z],ts⟩) (some d) (.func (.yield l) #[] #[]) v v2):=by kernel_rfl):AtO P B R ds n p L w :=
 aMA hF h fun O kk o ll a x y z hf hd1 E hdd hw ho hx hy hz=>by
  have hdr:O.toList.drop (i'+1)=ll:=by rw [←List.tail_drop,hd1];rfl
  refine aPD hw (aKd (fun _ _ _ _ h=>aFw ho hx hy hz h) hR (fun w' hw'=>?_) fun w' hw'=>?_)
  ·obtain ⟨e',h1,h2,h3,h4⟩:=hw';obtain ⟨O1,dr,k1,hf1,hk⟩:=kt e' w' h1 (hM.put j hj h4 (fun _ _ h=>h) h2 h3);rw [hf] at hf1;cases hf1;have:=hk _ (E.put (v := .bool true) hd);rw [hdd,←hdr];exact this
  ·obtain ⟨O1,dr,k1,hf1,hk⟩:=kf w' hw';rw [hf] at hf1;cases hf1;have:=hk _ (E.put (v := .bool false) hd);rw [hdd,←hdr];exact this
end
theorem Mm.one {W:World}{e:Ent}(h:e.H W):Mm e.B W W [e]:=⟨Fr.refl _ _,fun x hx=>by rw [Gd_] at hx;subst hx;exact h,fun x hx k hk _=>by rw [Gd_] at hx;subst hx;exact hk,List.pairwise_singleton _ _⟩
def dfE (D:Nat):Ent where
 B:=fun k=>k=D
 H:=fun w=>w.heap[D]?=some (.deferred (some []))
 lt:=fun h e=>by subst e;exact aAe h
 fr:=fun h f hd=>f.obj h (hd _ rfl)
def aOa (M:List Ent) (D l:Nat) (r:Loop):Ent where
 B:=fun k=>BlM M k∨k=D∨k=l
 H:=fun w=>(∀ e∈M,e.H w) /\ w.heap[D]?=some (.deferred (some [])) /\ w.heap[l]?=some (.loop r)
 lt:=fun h e=>by
  rcases e with ⟨x,hx,hk⟩ | rfl | rfl
  ·exact x.lt (h.1 x hx) hk
  ·exact aAe h.2.1
  ·exact aAe h.2.2
 fr:=fun h f hd=>⟨fun e he=>e.fr (h.1 e he) f fun k hk=>hd k (.inl ⟨e,he,hk⟩),f.obj h.2.1 (hd _ (.inr (.inl rfl))),f.obj h.2.2 (hd _ (.inr (.inr rfl)))⟩
def aLG (q:Nat):Code->Option (Operand×Array Tmp×Code×Code)
 | .seq x y=>match aLG q x with | some z=>some z | none=>aLG q y
 | .cond _ x y=>match aLG q x with | some z=>some z | none=>aLG q y
 | .block _ c=>aLG q c
 | .loop c=>aLG q c
 | .scope c=>aLG q c
 | .rangeFunc g ps sg bd=>bif Nat.beq q (1000+aEh sg) then some (g,ps,sg,bd) else none
 | _=>none
def aUm (q:Nat) (B:Code):Code:=match aLG q B with | some (_,_,sg,_)=>sg | none => .skip
def aSf (q:Nat) (B:Code):Code:=match aLG q B with | some (_,_,_,bd)=>bd | none => .skip
section
variable {P:Program}{B:Code}{ds:List Deferred}{n:Nat}{L:Frm}{w w0:World}{F0:Nat->Prop}{M:List Ent}{Qf:Exit->Act->World->Prop}
theorem aIM {ds:List Deferred}{n:Nat}{L:Frm}:∀ {ps:List Nat}{vs:List Value}{t:Array Value},EnvS [] n L { tmps:=t,defers:=[] }->ps.length=vs.length->(∀ p∈ps,p<n)->EnvS [] n ((ps.zip vs).reverse++L) { tmps:=(ps.zip vs).foldl (fun t (p,v)=>t.setIfInBounds p v) t,defers:=[] }
 | [],vs,t,E,h,_=>by simpa using E
 | p::ps,[],t,E,h,_=>by simp at h
 | p::ps,v::vs,t,E,h,hp=>by
  have E1:=E.put (v:=v) (hp p (by simp));have E2:EnvS [] n ((p,v)::L) { tmps:=t.setIfInBounds p v,defers:=[] }:=E1;have:=aIM (ds:=ds) E2 (by simpa using h) fun x hx=>hp x (List.mem_cons_of_mem _ hx);simpa [List.zip_cons_cons,List.reverse_cons,Gl_] using this
end
section
variable {P:Program}{B:Code}{R:Pst}{ds:List Deferred}{n:Nat}{p:Option (Nat×Nat)}{L:Frm}{w w0:World}{F:List Ft}{F0:Nat->Prop}{M:List Ent}{fn:Func}{Φ:Ending->World->Prop}
def aWZ (b:Bool) (x:Res) (N L:Frm):Option (Bool×List (Option Value)×List Eqn) :=
 match x with
 | some (m,nw,_,es)=>some (match m with | .ret=>b | .nrm => !b | _=>false,N.map (fun y=>look (nw++L) y.1),es.map Eqn.l)
 | none=>none
theorem aXN (b:Bool) (N:Frm) (hF:aBp P w F) (h:aWZ b (go P w n B p L 1000000 0 F) N L=aMw (go P w n B p L 1000000 0 F) N) (k:∀ a,EnvS ds n N a->R.q (match b with | true => .ret | false => .normal) a w):AtO P B R ds n p L w:=by
 cases hx:go P w n B p L 1000000 0 F with
 | none=>rw [hx] at h;cases h
 | some z =>
  obtain ⟨m,nw,fs,es⟩:=z;rw [hx] at h;have h:=Gh_ h;obtain ⟨h1,h⟩:=Prod.mk.inj h;obtain ⟨h2,h3⟩:=Prod.mk.inj h;refine aJ6 hx hF (aGe.of h3) fun a E=>?_;have hk:=k a (E.sub fun s v hs=>(List.map_inj_left.1 h2) (s,v) (aBk hs))
  cases m with
  | ret=>cases b with
   | true=>exact hk
   | false=>cases h1
  | nrm=>cases b with
   | true=>cases h1
   | false=>exact hk
  | _=>cases h1
theorem aIJ (N:Frm) (hF:aBp P w F) (k:∀ a,EnvS ds n N a->R.q .normal a w) (h:aWZ false (go P w n B p L 1000000 0 F) N L=aMw (go P w n B p L 1000000 0 F) N:=by kernel_rfl):AtO P B R ds n p L w:=aXN false N hF h k
theorem aS7 (N:Frm) (hF:aBp P w F) (k:∀ a,EnvS ds n N a->R.q .ret a w) (h:aWZ true (go P w n B p L 1000000 0 F) N L=aMw (go P w n B p L 1000000 0 F) N:=by kernel_rfl):AtO P B R ds n p L w:=aXN true N hF h k
theorem Mm.unmark {D:Nat}{w':World}(h:Mm F0 w0 w (M++[dfE D])) (f:Fr (aBx [mkD D]) w w'):Mm F0 w0 w' M:=by
 have hi:∀ r,aBx [mkD D] r->r=D:=fun r hr=>by
  rcases aBK.1 hr with h | h
  ·exact h
  ·cases h
 have hm:dfE D∈M++[dfE D]:=by simp
 obtain ⟨n1,_,n3⟩:=List.pairwise_append.1 h.nd;exact ⟨h.fr.trans' f fun r hr hg=>h.own _ hm r (hi r hg) hr,fun e he=>e.fr (h.at_ e (Gr_ _ he)) f fun k hk hg=>n3 e he (dfE D) (by simp) k hk (hi k hg),fun e he=>h.own e (Gr_ _ he),n1⟩
abbrev aHH (P:Program) (fn:Func) (Φ:Ending->World->Prop):Pst:=⟨bodyPostM Fence.wide 0 P fn Φ,none⟩
theorem aKI {a:Act}{D:Nat}{u:Bool}(E:a.defers=[mkD D]) (hM:Mm F0 w0 w (M++[dfE D])) (hres:∀ w',Mm F0 w0 w' M->∃ v,(results fn a.tmps).run P w' = .ok v w' /\ Φ (.returned v) w'):bodyPostM Fence.wide 0 P fn Φ .ret a w /\ bodyPostM Fence.wide 0 P fn Φ .normal a w:=by
 have:LeavesInM Fence.wide 0 P fn a.tmps Φ a.defers .returning w:=by
  rw [E]
  exact aJ0 _ w ⟨by simp,fun d hd=>by
   rw [Gd_] at hd;exact ⟨D,hd,hM.at_ (dfE D) (by simp)⟩⟩ fun w' hf=>hres w' (hM.unmark hf)
 exact ⟨this,this⟩
theorem aVe {a:Act}(E:a.defers=[]) (hres:∃ v,(results fn a.tmps).run P w = .ok v w /\ Φ (.returned v) w):bodyPostM Fence.wide 0 P fn Φ .ret a w /\ bodyPostM Fence.wide 0 P fn Φ .normal a w:=by
 have:LeavesInM Fence.wide 0 P fn a.tmps Φ a.defers .returning w:=by
  rw [E];exact hres
 exact ⟨this,this⟩
theorem aWi {f:FuncId}{args:Array Value}(hf:P.funcs[f]?=some fn) (hb:fn.body=some B) (hn:fn.ntmps=n) (L:Frm) (hL:L=(List.range args.size).zip args.toList) (hs:Nat.ble args.size n=true) (k:∀ Φ':Ending->World->Prop,(∀ e w',Φ e w'->Φ' e w')->AtO P B (aHH P fn Φ') [] n none L w):Calls P f args w Φ:=by
 have hs:args.size<=n:=Nat.le_of_ble_eq_true hs;refine (callsIn_wide (n:=0)).1 (callsIn_of_wp_marks hf hb trivial (k Φ (fun _ _ h=>h) _ (aKW hn hL hs)))
end
theorem aUv {α:Type}{L:List α}{g:α->Array Value}{k:Nat}{v:Array Value}(h:(L.map g)[k]?=some v):∃ y,L[k]?=some y /\ g y=v:=by
 rw [Gq_] at h
 cases hq:L[k]? with
 | none=>rw [hq] at h;cases h
 | some y=>rw [hq] at h;exact ⟨y,rfl,Gh_ h⟩
theorem vsz {α:Type}{L:List α}{g:α->Array Value}{ps:Array Tmp}(h:(fun y=>(g y).size)=fun _=>ps.size):∀ v∈L.map g,v.size=ps.size:=fun v hv=>by
 obtain ⟨y,_,rfl⟩:=List.mem_map.1 hv;exact congrFun h y
def aXQ (P:Program) (E:TypeId) (c:Nat):Bool:=match P.info? E with
 | some i=>match i.zero with
  | some z=>Nat.beq i.size c&&Nat.beq z.cells.size c&&Nat.ble i.bytes 93
  | none=>false
 | none=>false
theorem aDs {P:Program}{E:TypeId}{c:Nat}(h:aXQ P E c=true):∃ i z,P.info? E=some i /\ i.zero=some z /\ i.size=c /\ z.cells.size=c /\ i.bytes<=93:=by
 unfold aXQ at h
 split at h
 ·rename_i i hi
  split at h
  ·rename_i z hz;simp only [Ga_] at h;exact ⟨i,z,hi,hz,Nat.eq_of_beq_eq_true h.1.1,Nat.eq_of_beq_eq_true h.1.2,Nat.le_of_ble_eq_true h.2⟩
  ·cases h
 ·cases h
theorem aFA {M:List Ent}:∀ {a b:List Nat},aCE M (a++b)=aCE M a++aCE M b
 | [],b=>rfl
 | j::a,b=>by
  show (match M[j]? with | some e=>e::aCE M (a++b) | none=>aCE M (a++b))=(match M[j]? with | some e=>e::aCE M a | none=>aCE M a)++aCE M b;rw [aFA (a:=a) (b:=b)];cases M[j]?<;>rfl
theorem aOI {P:Program}{B:Code}{R:Pst}{ds:List Deferred}{n:Nat}{p:Option (Nat×Nat)}{L:Frm}{w w0:World}{F:List Ft}{F0:Nat->Prop}{M A Ms:List Ent}{K:Value->List Ent->Prop}(r' i' d:Nat) (N:Frm) {g:FuncId}{args:Array Value}(is js:List Nat) (hF:aBp P w F) (hM:Mm F0 w0 w M) (hA:aCE M is=A) (hS:aCE M js=Ms) (hn:(is++js).Nodup) (hc:Mm (BlM Ms) w w Ms->Calls P g args w fun e w'=>∃ v Mn,e = .returned v /\ K v Mn /\ Mm (BlM Ms) w w' Mn) (k:∀ v Mn w',K v Mn->Mm F0 w0 w' (A++Mn)->AtO P B R ds n (some (r',i'+1)) ((d,v)::(N++L)) w') (h:(lhs (go P w n B p L r' i' F) N L,aMu P w n L (go P w n B p L r' i' F))=(rhs (go P w n B p L r' i' F) N B r' i',some (d,.ok (.enter g args,w))):=by kernel_rfl):AtO P B R ds n p L w:=by
 have hp:aCE M (is++js)=A++Ms:=by
  rw [←hA,←hS,aFA]
 have hM1:=hM.pick (is++js) hp hn;have hMs:Mm F0 w0 w Ms:=hM.pick js hS (List.nodup_append.1 hn).2.1;refine cal r' i' d N (K:=fun u w'=>∃ Mn,K u Mn /\ Mm (BlM Ms) w w' Mn) hF ((hc (hMs.re fun e he k hk=>⟨e,he,hk⟩)).mono fun e w' ⟨v,Mn,h1,h2⟩=>⟨v,h1,Mn,h2⟩) (fun u w' ⟨Mn,h1,h2⟩=>k u Mn w' h1 (hM1.call h2 fun _ _ h=>h)) h
section
variable {P:Program}{B:Code}{n:Nat}{p:Option (Nat×Nat)}{L:Frm}{w w0:World}{F:List Ft}{F0:Nat->Prop}{M:List Ent}{fn:Func}{Φ:Ending->World->Prop}{t2 t3 t4 T2 T3 T4 b2 b3 b4:Nat}{v2 v3 v4:Value}
end
theorem Mm.apart {F0:Nat->Prop}{w0 w:World}{M N:List Ent}(h:Mm F0 w0 w (M++N)) {x:Ent}(hx:x∈N) {k:Nat}(hk:x.B k):¬ BlM M k:=fun ⟨e,he,hb⟩=>(List.pairwise_append.1 h.nd).2.2 e he x hx k hb hk
section
variable {P:Program}{B:Code}{R:Pst}{ds:List Deferred}{n:Nat}{p:Option (Nat×Nat)}{L:Frm}{w w0:World}{F:List Ft}{F0:Nat->Prop}{M Ms:List Ent}
end
theorem aHe:∀ (l:List Value) (cs:Array Value) (k p:Nat),k+l.length<=cs.size->(aJr cs k l)[p]?=if k<=p /\ p<k+l.length then l[p-k]? else cs[p]?
 | [],cs,k,p,h=>by
  rw [if_neg (by simp only [Gm_];omega)];rfl
 | v::l,cs,k,p,h=>by
  rw [Gf_] at h;unfold aJr;rw [aHe l _ _ p (by rw [Array.size_setIfInBounds];omega),Array.getElem?_setIfInBounds,Gf_]
  by_cases h1:p=k
  ·subst h1;rw [if_neg (by omega),if_pos rfl,if_pos (by omega),if_pos (by omega),Nat.sub_self];rfl
  ·by_cases h2:k+1<=p /\ p<k+1+l.length
   ·rw [if_pos h2,if_pos (by omega),show p-k=p-(k+1)+1 by omega,List.getElem?_cons_succ]
   ·rw [if_neg h2,if_neg (fun e=>h1 e.symm),if_neg (by omega)]
section
variable {P:Program}{w:World}{α:Type}{f:α->List Value}{c:Nat}{E:TypeId}{B n cap g:Nat}{q:Option Addr}{A:List α}
theorem aWN (hlen:∀ x,(f x).length=c) (h:ow f c E w B (.slice q n cap) A) {i:Nat}{y:α}(hy:A[i]?=some y):∃ g,q=some ⟨g,0,none⟩ /\ w.rangeAt g (0+i*c) (f y):=by
 have hi:=(List.getElem?_eq_some_iff.1 hy).1;rcases h.2 with ⟨_,h2⟩ | ⟨g,cap',cur,h1,hB,h3,h4,h5,h6,h7⟩
 ·omega
 ·injection h1 with e1 e2 e3
  refine ⟨g,e1,fun j u hu=>?_⟩;have hj:j<c:=by rw [←hlen y];exact (List.getElem?_eq_some_iff.1 hu).1
  have h8:=aBM hlen A i y hy j hj
  rw [hu,←h7,List.getElem?_take_of_lt (by
   have:i*c+c<=A.length*c:=by rw [←Nat.succ_mul];exact Nat.mul_le_mul_right c hi
   omega),Array.getElem?_toList] at h8
  rw [aAk h3,Nat.zero_add];exact h8
theorem aQh (hlen:∀ x,(f x).length=c) (h:ow f c E w B (.slice q n cap) A) (hq:q=some ⟨g,0,none⟩) {i k:Nat}{y y':α}{us:List Value}(hy:A[i]?=some y) (hk:k+us.length<=c) (hy':f y'=(f y).take k++us++(f y).drop (k+us.length)) (ho:us.all (·.oneCell')=true) :
  ∃ w',(storeCells ⟨g,0+i*c+k,none⟩ us 0).run P w = .ok () w' /\ ow f c E w' B (.slice q n cap) (A.set i y') /\ Fr (fun r=>r=g) w w':=by
 have hi:=(List.getElem?_eq_some_iff.1 hy).1;rcases h.2 with ⟨_,h2⟩ | ⟨g',cap',cur,h1,hB,h3,h4,h5,h6,h7⟩
 ·omega
 ·injection h1 with e1 e2 e3
  rw [hq] at e1
  injection e1 with e1
  injection e1 with e1 _ _
  subst e1 e3;have hic:i*c+c<=A.length*c:=by rw [←Nat.succ_mul];exact Nat.mul_le_mul_right c hi
  have hcs:A.length*c<=cur.size:=by rw [h6];exact Nat.mul_le_mul_right c h4
  obtain ⟨w',r1,r2,r3⟩:=aAO (P:=P) us (k:=0+i*c+k) (i:=0) h3 (by omega) ho;refine ⟨w',r1,⟨by rw [aAK hlen,List.length_set],.inr ⟨g,cap,_,by rw [hq,List.length_set,e2],hB,r2,by rw [List.length_set];exact h4,h5,by rw [aIc];exact h6,?_⟩⟩,r3⟩;have hpg:=aHe us cur (0+i*c+k+0);have hfy:(f y).length=c:=hlen y;apply List.ext_getElem?;intro p;rw [List.length_set]
  by_cases hp:p<A.length*c
  ·have hc:0<c:=Nat.pos_of_ne_zero fun e=>by rw [e] at hp;omega
   have hm:p%c<c:=Nat.mod_lt _ hc;have hd:p / c<A.length:=(Nat.div_lt_iff_lt_mul hc).2 hp;have e:p / c*c+p%c=p:=by rw [Nat.mul_comm];exact Nat.div_add_mod p c
   obtain ⟨x,hx⟩:∃ x,(A.set i y')[p / c]?=some x:=⟨_,Gb_ (by rw [List.length_set];exact hd)⟩;have h8:=aBM hlen (A.set i y') (p / c) x hx (p%c) hm;rw [e] at h8;rw [h8,List.getElem?_take_of_lt hp,Array.getElem?_toList,hpg p (by omega)]
   have hold:∀ z,A[p / c]?=some z->cur[p]?=(f z)[p%c]?:=fun z hz=>by
    have h9:=aBM hlen A (p / c) z hz (p%c) hm;rw [e,←h7,List.getElem?_take_of_lt hp,Array.getElem?_toList] at h9;exact h9
   by_cases ht:i=p / c
   ·rw [←ht,List.getElem?_set_self hi] at hx;have hx:=Gh_ hx;subst hx;have hz:=hold y (by rw [←ht];exact hy);have e':i*c+p%c=p:=by rw [ht];exact e
    rw [hy']
    by_cases h1:p%c<k
    ·rw [if_neg (by omega),hz,Gl_,List.getElem?_append_left (by rw [Gp_];omega),List.getElem?_take_of_lt h1]
    ·by_cases h2:p%c<k+us.length
     ·rw [if_pos (by omega),Gl_,List.getElem?_append_right (by rw [Gp_];omega),Gp_,Nat.min_eq_left (by omega),List.getElem?_append_left (by omega),show p-(0+i*c+k+0)=p%c-k by omega]
     ·rw [if_neg (by omega),hz,List.getElem?_append_right (by rw [Gi_,Gp_];omega),Gi_,Gp_,Nat.min_eq_left (by omega),List.getElem?_drop,show k+us.length+(p%c-(k+us.length))=p%c by omega]
   ·rw [List.getElem?_set_ne ht] at hx;rw [if_neg ?_,hold x hx];intro hh;rcases Nat.lt_or_ge (p / c) i with h | h
    ·have:p / c*c+c<=i*c:=by rw [←Nat.succ_mul];exact Nat.mul_le_mul_right c h
     omega
    ·have h:i<p / c:=by omega
     have:i*c+c<=p / c*c:=by rw [←Nat.succ_mul];exact Nat.mul_le_mul_right c h
     omega
  ·rw [List.getElem?_eq_none (by rw [Gp_];omega),List.getElem?_eq_none (by rw [aAK hlen,List.length_set];omega)]
end
section
variable {P:Program}{B:Code}{R:Pst}{ds:List Deferred}{n:Nat}{p:Option (Nat×Nat)}{L:Frm}{w w0:World}{r' i':Nat}{F:List Ft}{F0:Nat->Prop}{M:List Ent}
variable {α:Type}{f:α->List Value}{c:Nat}{E TS:TypeId}{q:Option Addr}{A:List α}{g cap m:Nat}
theorem Mm.el (X:ElT P f c TS E) (hM:Mm F0 w0 w M) {j:Nat}(hj:M[j]?=some (rw_ f c E (.slice q m cap) A)) {i:Nat}{y:α}(hy:A[i]?=some y):∃ g,q=some ⟨g,0,none⟩ /\ w.rangeAt g (0+i*c) (f y) :=
 aWN X.len (hM.get j hj) hy
theorem ldr (T:TypeId) (j k:Nat) {i:Nat}{y:α}{v:Value}(X:ElT P f c TS E) (hM:Mm F0 w0 w M) (hj:M[j]?=some (rw_ f c E (.slice q m cap) A)) (hq:q=some ⟨g,0,none⟩) (hy:A[i]?=some y) (hv:(f y)[k]?=some v) (hT:scT P T=true:=by kernel_rfl):Ft.ok P w (.g1 (.load T) (vP g (0+i*c+k)) v):=by
 obtain ⟨g',h1,h2⟩:=hM.el X hj hy;rw [hq] at h1
 injection h1 with h1
 injection h1 with h1 _ _
 subst h1;exact ld T (h2 k v hv) hT
theorem lar (T:TypeId) (j k l:Nat) {i:Nat}{y:α}(X:ElT P f c TS E) (hM:Mm F0 w0 w M) (hj:M[j]?=some (rw_ f c E (.slice q m cap) A)) (hq:q=some ⟨g,0,none⟩) (hy:A[i]?=some y) (hT:agT P T (((f y).drop k).take l).length=true:=by kernel_rfl):Ft.ok P w (.g1 (.load T) (vP g (0+i*c+k)) (vA (((f y).drop k).take l))):=by
 obtain ⟨g',h1,h2⟩:=hM.el X hj hy;rw [hq] at h1
 injection h1 with h1
 injection h1 with h1 _ _
 subst h1;exact la T (rs h2 k l) hT
theorem Mm.rowput (X:ElT P f c TS E) (hM:Mm F0 w0 w M) {j:Nat}(hj:M[j]?=some (rw_ f c E (.slice q m cap) A)) (hq:q=some ⟨g,0,none⟩) {i k:Nat}{y y':α}{us:List Value}(hy:A[i]?=some y) (hk:k+us.length<=c) (hy':f y'=(f y).take k++us++(f y).drop (k+us.length)) (ho:us.all (·.oneCell')=true) :
  ∃ w',(storeCells ⟨g,0+i*c+k,none⟩ us 0).run P w = .ok () w' /\ Mm F0 w0 w' (M.set j (rw_ f c E (.slice q m cap) (A.set i y'))):=by
 obtain ⟨w',r1,r2,r3⟩:=aQh (P:=P) X.len (hM.get j hj) hq hy hk hy' ho;refine ⟨w',r1,hM.put j hj r3 (fun k _ e=>?_) r2 fun k e => .inl e⟩;subst e;show (Value.slice q m cap).ownBlock=some k;rw [hq];rfl
theorem aME {T:TypeId}{w w':World}{g off:Nat}{v:Value}{o:Oper}{ρ:Operand->Value}{x y:Operand}(hT:(P.info? T).map (·.size)=some v.cells.size) (ho:o.op = .store T x y) (hx:ρ x=vP g off) (hy:ρ y=v) (g1:(storeCells ⟨g,off,none⟩ v.cells.toList 0).run P w = .ok () w'):(execOp ρ o).run P w = .ok .skip w':=by
 obtain ⟨i,hi,hs⟩:=Option.map_eq_some_iff.1 hT;have hs:i.size=v.cells.size:=hs;simp only [execOp,ho,hx,hy,Instr.storeAt,Instr.sureAddr,storeVar,sizeOf,typeInfo];generalize v.cells=cc at *;simp [go_sem,hi,hs,g1]
theorem aYt (r' i':Nat) (N:Frm) (T:TypeId) (j k:Nat) {i:Nat}{y:α}(y':α) (v:Value) (X:ElT P f c TS E) (hF:aBp P w F) (hM:Mm F0 w0 w M) (hj:M[j]?=some (rw_ f c E (.slice q m cap) A)) (hq:q=some ⟨g,0,none⟩) (hy:A[i]?=some y) (hy':f y'=(f y).take k++v.cells.toList++(f y).drop (k+v.cells.toList.length)) (kk:∀ w',Mm F0 w0 w' (M.set j (rw_ f c E (.slice q m cap) (A.set i y')))->AtO P B R ds n (some (r',i'+1)) (N++L) w')
  (hT:(Nat.ble (k+v.cells.toList.length) c,v.cells.toList.all (·.oneCell'),(P.info? T).map (·.size))=(true,true,some v.cells.size):=by kernel_rfl)
  (h:(lhs (go P w n B p L r' i' F) N L,aPo (go P w n B p L r' i' F) n L (fun x y => .store T x y))=(rhs (go P w n B p L r' i' F) N B r' i',aPn (go P w n B p L r' i' F) n L (fun x y => .store T x y) none false (vP g (0+i*c+k)) v):=by kernel_rfl):AtO P B R ds n p L w:=by
 obtain ⟨h1,h2⟩:=Prod.mk.inj hT;obtain ⟨h3,h2⟩:=Prod.mk.inj h2;obtain ⟨w',g1,g2⟩:=hM.rowput X hj hq hy (Nat.le_of_ble_eq_true h1) hy' h3;exact sto (w':=w') r' i' N hF (fun o ρ x y ho hx hy=>aME h2 ho hx hy g1) (kk w' g2) h
end
section
variable {rd:Option Nat}{P:Program}{B:Code}{ds:List Deferred}{n:Nat}{L:Frm}{w w0:World}{r:Nat}{F0:Nat->Prop}{ef:List Nat}{V:Lts->List (Option Value)}{F:Lts->List Ft}{Mf:Lts->List Bool->List Ent}
variable {α:Type}{f:α->List Value}{c:Nat}{E TS:TypeId}{q:Option Addr}{g cap m:Nat}
end
def pfE (Q:Ent->Prop) (e:Ent):Ent where
 B:=e.B
 H:=fun w=>Q e /\ e.H w
 lt:=fun h k=>e.lt h.2 k
 fr:=fun h f hd=>⟨h.1,e.fr h.2 f hd⟩
theorem Mm.pf {F0:Nat->Prop}{w0 w:World}{M:List Ent}{Q:Ent->Prop}{e:Ent}{j:Nat}(h:Mm F0 w0 w M) (hj:M[j]?=some e) (hQ:Q e):Mm F0 w0 w (M.set j (pfE Q e)) :=
 h.put j hj (Fr.refl nF_ w) (fun k _ e=>e.elim) (e':=pfE Q e) ⟨hQ,h.get j hj⟩ fun k e => .inl e
theorem Mm.unpf {F0:Nat->Prop}{w0 w:World}{M:List Ent}{Q:Ent->Prop}{e:Ent}{j:Nat}(h:Mm F0 w0 w M) (hj:M[j]?=some (pfE Q e)):Q e /\ Mm F0 w0 w (M.set j e) :=
 ⟨(h.get j hj).1,h.put j hj (Fr.refl nF_ w) (fun k _ e=>e.elim) (e':=e) (h.get j hj).2 fun k e => .inl e⟩
section
variable {rd:Option Nat}{P:Program}{B:Code}{ds:List Deferred}{n:Nat}{L:Frm}{w w0:World}{r:Nat}{F0:Nat->Prop}{ef:List Nat}{V:Lts->List (Option Value)}{F:Lts->List Ft}{Mf:Lts->List Bool->List Ent}
end
section
variable {P:Program}{B:Code}{R:Pst}{ds:List Deferred}{n:Nat}{p:Option (Nat×Nat)}{L N:Frm}{w w0:World}{F:List Ft}{F0:Nat->Prop}{M:List Ent}{r' i':Nat}
def aQr (n:Nat) (LL:Frm) (f:Operand->Op):Md->Option (Option Nat×Option Bool×Op×Op×Option Value)
 | .ops _ O (o::_) _ _=>match o.op.operands[0]? with
  | some x=>some (o.dst,aCX O LL n o,o.op,f x,opv LL x)
  | _=>none
 | _=>none
def aWP (x:Res) (n:Nat) (L:Frm) (f:Operand->Op):Option (Option Nat×Option Bool×Op×Option Value) :=
 match x with
 | some (m,nw,_,_)=>match aQr n (nw++L) f m with
  | some (d,wt,a,b,u)=>some (d,wt,a,u)
  | none=>none
 | none=>none
def aWO (x:Res) (n:Nat) (L:Frm) (f:Operand->Op) (d:Option Nat) (v:Value):Option (Option Nat×Option Bool×Op×Option Value) :=
 match x with
 | some (m,nw,_,_)=>match aQr n (nw++L) f m with
  | some (_,_,_,b,_)=>some (d,some true,b,some v)
  | none=>some (none,none,f (.tmp 0),none)
 | none=>some (none,none,f (.tmp 0),none)
theorem aUO {f:Operand->Op}{d:Option Nat}{v:Value}(hF:aBp P w F)
  (h:(lhs (go P w n B p L r' i' F) N L,aWP (go P w n B p L r' i' F) n L f)=(rhs (go P w n B p L r' i' F) N B r' i',aWO (go P w n B p L r' i' F) n L f d v))
  (k:∀ (O:Array Oper) (kk:List Kon) (o:Oper) (l:List Oper) (a:Act) x,aBc r' B []=some (O,false,kk)->O.toList.drop i'=o::l->EnvS ds n (N++L) a->o.dst=d->Region.wanted o (yielded O a.tmps)=true->o.op=f x->a.eval x=v->wpListIn (fen R.rd) 0 P O (post P R kk) (o::l) a w):AtO P B R ds n p L w:=by
 obtain ⟨h1,h2⟩:=Prod.mk.inj h;obtain ⟨m,nw,fs,es,hx,hE,⟨z,hl,ht⟩,hs⟩:=aFV h1;rw [hx] at h2;refine aJ6 hx hF hE fun a E=>?_;unfold aWP aWO at h2;simp only at h2
 cases hta:aQr n (nw++L) f m with
 | none=>rw [hta] at h2;cases h2
 | some q =>
  obtain ⟨d1,wt,oa,ob,u1⟩:=q;rw [hta] at h2;simp only [Gk_,Prod.mk.injEq] at h2;obtain ⟨rfl,rfl,rfl,rfl⟩:=h2
  cases m with
  | ops r O l i k1 =>
   cases l with
   | nil=>cases hta
   | cons o l =>
    unfold aQr at hta;simp only at hta
    split at hta
    ·rename_i x hx0;simp only [Gk_,Prod.mk.injEq] at hta;obtain ⟨q1,q3,q4,q5,q6⟩:=hta;unfold aIU at ht
     cases hf:aBc r' B [] with
     | none=>rw [hf] at ht;cases ht
     | some z1 =>
      obtain ⟨O1,dr,kk⟩:=z1;rw [hf] at ht
      cases dr with
      | true =>
       cases i' with
       | zero=>cases ht;cases hl
       | succ i'=>cases ht
      | false =>
       cases ht;have hl:(some (O,false,k1,o::l,0):Option (Array Oper×Bool×List Kon×List Oper×Nat))=some (O1,false,kk,O1.toList.drop i',0):=hl;simp only [Gk_,Prod.mk.injEq] at hl;obtain ⟨rfl,_,rfl,hl,_⟩:=hl;exact k O k1 o l a x hf hl.symm (E.sub hs) q1 (aDg q3 E) (q4.trans q5.symm) (E.opv q6)
    ·cases hta
  | _=>cases hta
end
def slp:Value->Option Addr
 | .slice p _ _=>p
 | _=>none
def slc:Value->Nat
 | .slice _ _ c=>c
 | _=>0
section
variable {P:Program}{w w0:World}{rd:Option Nat}{B:Code}{r n:Nat}{L:Frm}{ef:List Nat}{V:Lts->List (Option Value)}{F:Lts->List Ft}{ds:List Deferred}{F0:Nat->Prop}{Mf:Lts->List Bool->List Ent}
theorem aH9 {α:Type}{f:α->List Value}{c:Nat}(p i j d:Nat) (T E:TypeId) (G:Nat) (v:Lts->Value) (A S:List α) (q:Lts->Nat) (cap:Nat) (X:ElT P f c T E) (hl:A.length+S.length<=1500000000000)
  (hsrc:∀ γ fr wm,Mm F0 w0 wm (Mf γ (flg B r ef i fr))->aBd f c wm (q γ+1) (some ⟨q γ,0,none⟩) S)
  (hj:∀ γ fr,(Mf γ (flg B r ef i fr))[j]?=some (rw_ f c E (v γ) A):=by intro γ fr;kernel_rfl)
  (hm:∀ γ fr p' c',(Mf γ (flg B r ef i fr)).set j (rw_ f c E (vL p' (A++S).length c') (A++S))=Mf (aBN γ p (vL p' (A++S).length c')) ((flg B r ef i fr).set p true):=by intro γ fr p' c';kernel_rfl)
  (hV:∀ γ p' c',((V (aBN γ p (vL p' (A++S).length c')))[p]?).getD none=some (vL p' (A++S).length c'):=by intro γ p' c';rfl)
  (hs:∀ γ,aU9 (aA5 B r) i (frX P w n B r L ef V F i γ)=aU8 (aA5 B r) i (fun x y => .call { callee := .builtin .append,args:=#[x,y],argTypes:=#[T,T] }) (v γ) (.slice (some ⟨q γ,0,none⟩) S.length cap) (some d):=by intro γ;kernel_rfl):Arm rd P w n B r L ef V F ds F0 w0 Mf p i:=by
 intro γ fr a wm Q o ho En hw hM;obtain ⟨x,y,h1,h2,h3,h4⟩:=aMH ho En (hs γ);have hrow:ow f c E wm 0 (v γ) A:=hM.get j (hj γ fr);obtain ⟨w',v',g1,g2,g3,g4⟩:=aSi X h1 h2 hrow h3 (hsrc γ fr wm hM) (by simp) hl (Gg_ _)
 have hM':=hM.put (w':=w') j (e':=rw_ f c E v' (A++S)) (hj γ fr) g3 (fun k _ e=>e) g2 (fun k e=>by
  have e:v'.ownBlock=some k:=e;rcases g4 with h3 | h3
  ·exact .inl (by rw [h3] at e;exact e)
  ·rw [h3] at e;cases e;exact .inr (Gj_ _))
 obtain ⟨p',c',hv,-⟩:=g2.src X.len;subst hv;rw [hm] at hM';exact aDy g1 ⟨vL p' (A++S).length c',γ.e p,by rw [aAy,hV,h4];rfl,by rw [aAy];exact hM'⟩
end
section
variable {P:Program}{B:Code}{R:Pst}{ds:List Deferred}{n:Nat}{p:Option (Nat×Nat)}{L N:Frm}{w w0:World}{F:List Ft}{F0:Nat->Prop}{M A Ms:List Ent}
section
variable {o:Oper}{ρ:Operand->Value}{x y z:Operand}{t:TypeId}{v rv u1 u2:Value}{f:FuncId}{name:String}{ts:Array TypeId}
end
theorem aY7 {g:FuncId}{args:Array Value}{K:Value->List Ent->Prop}(is js:List Nat) (hM:Mm F0 w0 w M) (hA:aCE M is=A) (hS:aCE M js=Ms) (hn:(is++js).Nodup) (hc:Mm (BlM Ms) w w Ms->Calls P g args w fun e w'=>∃ v Mn,e = .returned v /\ K v Mn /\ Mm (BlM Ms) w w' Mn):Calls P g args w fun e w'=>∃ v,e = .returned v /\ ∃ Mn,K v Mn /\ Mm F0 w0 w' (A++Mn):=by
 have hp:aCE M (is++js)=A++Ms:=by rw [←hA,←hS,aFA]
 have hM1:=hM.pick (is++js) hp hn;have hMs:Mm F0 w0 w Ms:=hM.pick js hS (List.nodup_append.1 hn).2.1;exact (hc (hMs.re fun e he k hk=>⟨e,he,hk⟩)).mono fun e w' ⟨v,Mn,h1,h2,h3⟩=>⟨v,h1,Mn,h2,hM1.call h3 fun _ _ h=>h⟩
end
section
variable {P:Program}{w w0:World}{α:Type}{f:α->List Value}{c:Nat}{E TS:TypeId}{B:Nat}{p:Option Addr}{F0:Nat->Prop}{M:List Ent}{A:List α}
end
section
variable {P:Program}{w w0:World}{rd:Option Nat}{B:Code}{r n:Nat}{L:Frm}{ef:List Nat}{V:Lts->List (Option Value)}{F:Lts->List Ft}{ds:List Deferred}{F0:Nat->Prop}{Mf:Lts->List Bool->List Ent}
variable {α:Type}{f:α->List Value}{c:Nat}{E TS:TypeId}{q:Option Addr}{g cap m:Nat}
end
section
variable {P:Program}{B:Code}{R:Pst}{ds:List Deferred}{n:Nat}{p:Option (Nat×Nat)}{L:Frm}{w w0:World}{F:List Ft}{F0:Nat->Prop}{M:List Ent}
theorem ins (r' i':Nat) (N:Frm) (T:TypeId) (j:Nat) {K e:TypeId}{b c:Nat}{m:Value->Option Value}(key v:Value) (hF:aBp P w F) (hM:Mm F0 w0 w M) (hj:M[j]?=some (mp P K b c m)) (LK:Maps.Keyed P K) (ht:P.underlying T=some (.map K e)) (hk:∃ l,keyOf P K key=some l) (kk:∀ w',Mm F0 w0 w' (M.set j (mp P K b (c+1) (upd m key v)))->AtO P B R ds n (some (r',i'+1)) (N++L) w')
  (h:(lhs (go P w n B p L r' i' F) N L,aUd (go P w n B p L r' i' F) n L (fun x y z => .insert T x y z))=(rhs (go P w n B p L r' i' F) N B r' i',aUc (go P w n B p L r' i' F) n L (fun x y z => .insert T x y z) none (.map (some b)) key v):=by kernel_rfl):AtO P B R ds n p L w:=by
 obtain ⟨l,hk⟩:=hk;have hm:aDP P K w b c m:=hM.get j hj;obtain ⟨ob,hob⟩:=hm.store LK ht hk v;obtain ⟨h1,h2⟩:=hob w rfl;have hM':=hM.put (w':=setBlk w b ob) j (e':=mp P K b (c+1) (upd m key v)) hj ((Fr.refl (fun r=>r=b) w).setBlk (fun _=>rfl) ob) (fun k _ e=>e) (h2.mono (by split<;>omega)) (fun k e => .inl e);refine aMA hF h fun O k1 o l a x y z hf hd1 E hd hw ho hx hy hz=>aJb hw (w':=setBlk w b ob) (by simp only [execOp,ho,hx,hy,hz,Sem.run_bind,h1,Result.andThen_ok,Sem.run_pure]) hd ?_;obtain ⟨O1,dr,k2,hf1,hk⟩:=kk _ hM';rw [hf] at hf1;cases hf1;have:=hk _ E;have hdr:O.toList.drop (i'+1)=l:=by rw [←List.tail_drop,hd1];rfl
 rw [←hdr];exact this
end
section
variable {P:Program}{w w0:World}{rd:Option Nat}{B:Code}{r n:Nat}{L:Frm}{ef:List Nat}{V:Lts->List (Option Value)}{F:Lts->List Ft}{ds:List Deferred}{F0:Nat->Prop}{Mf:Lts->List Bool->List Ent}
def enL (P:Program) (wm:World) (O:Array Oper) (i:Nat) (LL:Frm):Option (Nat×Array Value×Option Nat×World) :=
 match O[i]? with
 | some o=>bif aDn LL o.op&&(match o.op with | .select _ _=>false | _=>true) then (match (execOp (rho LL) o).run P wm with
  | .ok (.enter f args) w'=>some (f,args,o.dst,w')
  | _=>none) else none
 | none=>none
theorem aIz {wm:World}{O:Array Oper}{i:Nat}{LL:Frm}{f:Nat}{args:Array Value}{d:Option Nat}{o:Oper}{ds:List Deferred}{n:Nat}{a:Act}(ho:O[i]?=some o) (E:EnvS ds n LL a) (h:enL P wm O i LL=some (f,args,d,wm)):(execOp a.eval o).run P wm = .ok (.enter f args) wm /\ o.dst=d:=by
 unfold enL at h;rw [ho] at h;simp only at h
 cases hc:(aDn LL o.op&&(match o.op with | .select _ _=>false | _=>true)) with
 | false=>rw [hc] at h;cases h
 | true =>
  rw [hc] at h;simp only [cond_true] at h;rw [Ga_] at hc;rw [aEI E hc.1 fun cs b e=>by rw [e] at hc;cases hc.2]
  split at h
  ·rename_i f1 args1 w1 hr;simp only [Gk_,Prod.mk.injEq] at h;obtain ⟨rfl,rfl,rfl,rfl⟩:=h;exact ⟨hr,rfl⟩
  ·cases h
end
end Go.Pl
namespace Go.Proofs.YtngjlnhojicjeaaGreatDoor
open Go.RowKit Go.Pl
theorem aR0 {w:World}:Calls Tryz.prog 102 #[] w fun e w'=>∃ p,e = .returned (vL p 6 6) /\ Fr nF_ w w':=by
  refine beg Tryz.func102 rfl rfl [] rfl rfl fun Z hZ=>?_;have hM:=Mm.nil nF_ w;refine aAu 1 0 1 [] (cs:=#[vS [97,110,121],vS [110,111,100,101],vS [119,97,121],vS [97,114,101,97],vS [114,111,117,116,101],vS [116,117,114,110]]) (T:=9) (v:=fun b=>vL (some ⟨b,0,none⟩) 6 6) f0 hM fun b1 w1 hM=>rt1 0 (vL (some ⟨b1,0,none⟩) 6 6) rfl f0 (hZ _ _ ⟨_,rfl,hM.fr⟩)
theorem aAZ {w:World}(n lo hi:Int):Calls Tryz.prog 103 #[vI n,vI lo,vI hi] w fun e w'=>e = .returned (vB (decide (lo<=n)&&decide (n<=hi))) /\ Fr nF_ w w':=by
  refine beg Tryz.func103 rfl rfl [(0,vI n),(1,vI lo),(2,vI hi)] rfl rfl fun Z hZ=>?_;have hM:=Mm.nil nF_ w;refine seg 1 4 [(10,vB (decide (lo<=n)))] f0 ?_;cases h2:(decide (lo<=n))
  ·exact rt1 6 (vB false) rfl f0 (hZ _ _ ⟨by simp only [h2]<;>rfl,hM.fr⟩)
  exact rt1 6 (vB (decide (n<=hi))) rfl f0 (hZ _ _ ⟨by simp only [h2]<;>rfl,hM.fr⟩)
def aJA (o:Ob):Bool:=decide (o.refs.length<=12)&&decide (o.tags.length<=20)&&decide (o.id.length<=60)&&o.refs.all (fun s=>decide (s.length<=60))&&o.tags.all (fun t=>decide (IntKind.i64.wrap ((t.1.length:Int)+(t.2.length:Int))<=300))
def aEi (l:List Ob) (n:Int):Bool:=decide ((l.length:Int)<=n)&&l.all aJA
theorem aBo {α:Type}{p:α->Bool}{l:List α}{i:Nat}{y:α}(hy:l[i]?=some y):(l.drop i).all p=(p y&&(l.drop (i+1)).all p):=by rw [gd hy,List.all_cons]
theorem aHA {α:Type}{p:α->Bool}{l:List α}{i:Nat}(h:l.length<=i):(l.drop i).all p=true:=by rw [List.drop_of_length_le h];rfl
abbrev A26 (Z:Ending->World->Prop):=AtO Tryz.prog (aAw Tryz.f23) (aAL (bodyPost Tryz.prog Tryz.f23 Z)) [] 79
abbrev oY_ (y:ObR):Array Value:=#[vS y.o.id,vI y.o.kind,vI y.o.x,vI y.o.y,vL y.pr y.o.refs.length y.cr,vL y.pt y.o.tags.length y.ct]
theorem aJD {w:World}{v:Value}{l:List ObR}(hm:aC0 w v l) (n:Int):Calls Tryz.prog 23 #[.agg #[v],vI n] w fun e w'=>e = .returned (vB (aEi (aAa l) n)) /\ Fr nF_ w w':=by
  obtain ⟨hs0,hob⟩:=hm;obtain ⟨p0,cp0,hp0,sp0⟩:=hs0.op;subst hp0;have bp0:=sp0.bnd;refine beg Tryz.func23 rfl rfl [(0,.agg #[vL p0 l.length cp0]),(1,vI n)] rfl rfl fun Z hZ=>?_;have hM:=Mm.nil nF_ w;refine aAu 0 0 2 [] (cs:=#[vL p0 l.length cp0]) (T:=24) (v:=fun b=>vP b 0) f0 hM fun b7 w1 hM=>seg 1 5 [(13,vB (decide (n<(l.length:Int))))] (fc (ldm 22 0 0 hM rfl rfl) f0) ?_;cases h8:(decide (n<(l.length:Int)))
  rotate_left
  ·have rh8:=dt h8;exact rt1 4 (vB false) rfl f0 (hZ _ _ ⟨by unfold aEi;rw [aAQ,decide_eq_false (by omega)];rfl,hM.fr⟩)
  have rh8:=df h8;refine seg 4 0 [(5,vI 0)] f0 ?_
  have lp9:∀ (ab:Nat) (i:Nat) (w2:World),i<=l.length->(aAa l).all aJA=((aAa l).drop i).all aJA->Mm nF_ w w2 [bk b7 #[vL p0 l.length cp0] 24]->ab=l.length-i->A26 Z (some (4,0)) [(5,vI (i:Int)),(2,vP b7 0)] w2:=by
   refine aCx fun ab af i w2 hi hv hM aw=>seg 4 5 [(18,vB (decide ((i:Int)<(l.length:Int))))] (fc (ldm 22 0 0 hM rfl rfl) f0) ?_;cases h12:(decide ((i:Int)<(l.length:Int)))
   ·have ag:=df h12;exact rt1 4 (vB true) rfl f0 (hZ _ _ ⟨by unfold aEi;rw [hv,aHA (by rw [aAQ];omega),aAQ,decide_eq_true (by omega)];rfl,hM.fr⟩)
   have ag:=dt h12;obtain ⟨y,hy,ax,ay,q13,ah⟩:=sp0.el (i:=i) (by omega);refine aBY 6 5 6 [(25,.agg (oY_ y))] [] 48 (.agg (oY_ y)) (fc (ldm 22 0 0 hM rfl rfl) (fc (ix 22 cp0 q13 (gl hy)) (fc (la0 48 hM ah) f0))) hM fun aa w1 hM=>seg 7 5 [(30,vB (decide (12<(y.o.refs.length:Int))))] (fc (ldm 45 1 4 hM rfl rfl) f0) ?_;cases h15:(decide (12<(y.o.refs.length:Int)))
   rotate_left
   ·have ai:=dt h15;exact rt1 4 (vB false) rfl f0 (hZ _ _ ⟨by unfold aEi;rw [hv,aBo (aAF hy),show aJA y.o=false from (by unfold aJA;simp;omega)];simp,hM.fr⟩)
   have ai:=df h15;refine seg 7 11 [(36,vB (decide (20<(y.o.tags.length:Int))))] (fc (ldm 46 1 5 hM rfl rfl) f0) ?_;cases h16:(decide (20<(y.o.tags.length:Int)))
   rotate_left
   ·have aj:=dt h16;exact rt1 4 (vB false) rfl f0 (hZ _ _ ⟨by unfold aEi;rw [hv,aBo (aAF hy),show aJA y.o=false from (by unfold aJA;simp;omega)];simp,hM.fr⟩)
   have aj:=df h16;refine seg 7 16 [(41,vB (decide (60<(y.o.id.length:Int))))] (fc (ldm 9 1 0 hM rfl rfl) (fc (aII 9 y.o.id) f0)) ?_;cases h17:(decide (60<(y.o.id.length:Int)))
   rotate_left
   ·have ak:=dt h17;exact rt1 4 (vB false) rfl f0 (hZ _ _ ⟨by unfold aEi;rw [hv,aBo (aAF hy),show aJA y.o=false from (by unfold aJA;simp;omega)];simp,hM.fr⟩)
   have ak:=df h17;refine seg 10 0 [(7,vI 0)] f0 ?_
   have al:∀ (ac:Nat) (k:Nat) (w2:World),k<=y.o.refs.length->y.o.refs.all (fun s=>decide (s.length<=60))=(y.o.refs.drop k).all (fun s=>decide (s.length<=60))->Mm nF_ w w2 [bk b7 #[vL p0 l.length cp0] 24,bk aa (oY_ y) 48]->ac=y.o.refs.length-k->A26 Z (some (10,0)) [(7,vI (k:Int)),(6,vP aa 0),(5,vI (i:Int)),(2,vP b7 0)] w2:=by
    refine aCx fun ac am k w2 hk hv2 hM az=>seg 10 5 [(46,vB (decide ((k:Int)<(y.o.refs.length:Int))))] (fc (ldm 45 1 4 hM rfl rfl) f0) ?_;cases h21:(decide ((k:Int)<(y.o.refs.length:Int)))
    rotate_left
    ·have an:=dt h21;have s29:=(hob _ (gm hy)).refs;obtain ⟨z,hz,a0,a1,q30,ao⟩:=s29.el (i:=k) (by omega);refine seg 12 7 [(55,vB (decide (60<(z.length:Int))))] (fc (ldm 45 1 4 hM rfl rfl) (fc (ix 45 y.cr q30 (gl hz)) (fc (ld0 9 hM (ao 0 _ rfl)) (fc (aII 9 z) f0)))) ?_;cases h31:(decide (60<(z.length:Int)))
     ·have ap:=df h31;refine seg 10 0 [(7,vI ((k:Int)+1))] (fc (aAI (k:Int) 1 u3_) f0) (aAh _ (am _ (by omega) (k+1) _ (gl hz) (by rw [hv2,aBo hz,decide_eq_true (show z.length<=60 by omega)];rfl) hM rfl))
     have ap:=dt h31;exact rt1 4 (vB false) rfl f0 (hZ _ _ ⟨by unfold aEi;rw [hv,aBo (aAF hy),show aJA y.o=false from (by unfold aJA;rw [hv2,aBo hz,decide_eq_false (show ¬ z.length<=60 by omega)];simp)];simp,hM.fr⟩)
    have an:=df h21;have hr1:y.o.refs.all (fun s=>decide (s.length<=60))=true:=by rw [hv2];exact aHA (by omega)
    refine seg 15 0 [(8,vI 0)] f0 ?_
    have aq:∀ (ad:Nat) (k:Nat) (w2:World),k<=y.o.tags.length->y.o.tags.all (fun t=>decide (IntKind.i64.wrap ((t.1.length:Int)+(t.2.length:Int))<=300))=(y.o.tags.drop k).all (fun t=>decide (IntKind.i64.wrap ((t.1.length:Int)+(t.2.length:Int))<=300))->Mm nF_ w w2 [bk b7 #[vL p0 l.length cp0] 24,bk aa (oY_ y) 48]->ad=y.o.tags.length-k->A26 Z (some (15,0)) [(8,vI (k:Int)),(6,vP aa 0),(5,vI (i:Int)),(2,vP b7 0)] w2:=by
     refine aCx fun ad ar k w2 hk hv3 hM a2=>seg 15 5 [(60,vB (decide ((k:Int)<(y.o.tags.length:Int))))] (fc (ldm 46 1 5 hM rfl rfl) f0) ?_;cases h25:(decide ((k:Int)<(y.o.tags.length:Int)))
     ·have au:=df h25;have hr2:y.o.tags.all (fun t=>decide (IntKind.i64.wrap ((t.1.length:Int)+(t.2.length:Int))<=300))=true:=by rw [hv3];exact aHA (by omega)
      refine seg 4 0 [(5,vI ((i:Int)+1))] (fc (aAI (i:Int) 1 u3_) f0) (aAh _ (af _ (by omega) (i+1) _ (gl hy) (by rw [hv,aBo (aAF hy)];rw [show aJA y.o=true by unfold aJA;rw [hr1,hr2];simp;omega];rfl) (hM.pick [0]) rfl))
     have au:=dt h25;have s26:=(hob _ (gm hy)).tags;obtain ⟨u,hu,a3,a4,q27,ae⟩:=s26.el (i:=k) (by omega);refine seg 17 0 [] f0 ?_;have hM:=hM.q ((Fr.refl _ _).drew);refine drq [(78,vB (decide (300<(IntKind.i64.wrap ((u.1.length:Int)+(u.2.length:Int))))))] rfl (fc (ldm 46 1 5 hM rfl rfl) (fc (ix 46 y.ct q27 (gl hu)) (fc (ld0 9 hM (ae 0 _ rfl)) (fc (aII 9 u.1) (fc (ldm 46 1 5 hM rfl rfl) (fc (ix 46 y.ct q27 (gl hu)) (fc (ld0 9 hM (ae 1 _ rfl)) (fc (aII 9 u.2) (fc (aSu (u.1.length:Int) (u.2.length:Int) u3_) f0))))))))) ?_;cases h28:(decide (300<(IntKind.i64.wrap ((u.1.length:Int)+(u.2.length:Int)))))
     ·have av:=df h28;refine seg 15 0 [(8,vI ((k:Int)+1))] (fc (aAI (k:Int) 1 u3_) f0) (aAh _ (ar _ (by omega) (k+1) _ (gl hu) (by rw [hv3,aBo hu,decide_eq_true (show IntKind.i64.wrap ((u.1.length:Int)+(u.2.length:Int))<=300 by omega)];rfl) hM rfl))
     have av:=dt h28;exact rt1 4 (vB false) rfl f0 (hZ _ _ ⟨by unfold aEi;rw [hv,aBo (aAF hy),show aJA y.o=false from (by unfold aJA;rw [hv3,aBo hu,decide_eq_false (show ¬ IntKind.i64.wrap ((u.1.length:Int)+(u.2.length:Int))<=300 by omega)];simp)];simp,hM.fr⟩)
    exact aAh _ (aq _ 0 _ (Gg_ _) rfl hM rfl)
   exact aAh _ (al _ 0 _ (Gg_ _) rfl hM rfl)
  exact aAh _ (lp9 _ 0 _ (Gg_ _) rfl hM rfl)
abbrev Sp:=Int×Int
def vl:Int->List Sp->Bool
  | _,[]=>true
  | lo,s::l=>decide (lo<s.1)&&decide (s.1<s.2)&&decide (s.2<=10080)&&vl s.2 l
def aWn (out:List Sp) (s:Sp):List Sp :=
  match out.getLast? with
  | some q=>if s.1<=q.2 then out.dropLast++[(q.1,max q.2 s.2)] else out++[s]
  | none=>out++[s]
def aWs (l:List Sp):List Sp:=l.foldl aWn []
def wk (l:List Sp):Prop:=∀ s∈l,0<=s.1 /\ s.1<s.2 /\ s.2<=10080
def aXL (s:Sp):List Sp->List Sp
  | []=>[s]
  | x::l=>if s.1<=x.1 then s::x::l else x::aXL s l
def aXD:List Sp->List Sp
  | []=>[]
  | s::l=>aXL s (aXD l)
def aVF (l:List Sp):List Sp:=aWs (aXD l)
def aZb:Int->List Sp->List Sp
  | fr,[]=>if fr<10080 then [(fr,10080)] else []
  | fr,s::l=>(if fr<s.1 then [(fr,s.1)] else [])++aZb s.2 l
def aQD (b:UInt8):Bool:=(97<=b&&b<=122)||(65<=b&&b<=90)
def aIr (b:UInt8):Bool:=48<=b&&b<=57
def aQC (b:UInt8):Bool:=aQD b||aIr b||b==95
def aTj (b:UInt8):Bool:=b==32||b==9||b==10
def aZ2:Bys:=[59,44,46,58,40,41,123,125,91,93,61,60,62,47,45]
def aTi (b:UInt8):Bool:=aZ2.contains b
abbrev Tok (α:Type):=Int×Bys×α
def aW4:Bys->Option (Bys×Nat)
  | []=>none
  | c::l =>
    if c==34 then some ([],1)
    else if c==10 then none
    else if c==92 then
      match l with
      | []=>none
      | d::l=>if d==92||d==34||d==110 then (aW4 l).map fun r=>((if d==110 then 10 else d)::r.1,r.2+2) else none
    else (aW4 l).map fun r=>(c::r.1,r.2+1)
def one (c:UInt8) (l:Bys):Int×Bys×Nat×Int :=
  if aTj c then (0,[],0,0)
  else if c==35 then (0,[],(l.takeWhile (· != 10)).length,0)
  else if aQD c then (1,c::l.takeWhile aQC,(l.takeWhile aQC).length,if (l.takeWhile aQC).length+1>24 then 2 else 0)
  else if aIr c then (2,c::l.takeWhile aIr,(l.takeWhile aIr).length,if (l.takeWhile aIr).length+1>7||(match (l.dropWhile aIr) with | d::_=>aQC d | []=>false) then 4 else 0)
  else if c==34 then (match aW4 l with | some (s,k)=>(3,s,k,0) | none=>(0,[],0,3))
  else if aTi c then (4,[c],0,0)
  else (0,[],0,3)
def aWT:Nat->Bys->Int->List (Tok Int×Int)
  | 0,_,_=>[]
  | _+1,[],_=>[]
  | n+1,c::l,at_ =>
    match one c l with
    | (k,s,m,e) =>
      if e != 0 then [((k,s,at_),e)]
      else if k==0 then aWT n (l.drop m) (at_+1+m)
      else ((k,s,at_),0)::aWT n (l.drop m) (at_+1+m)
def aXI (l:Bys) (at_:Int):List (Tok Int×Int):=aWT l.length l at_
def aV4:List (Tok Int×Int)->Option (Int×Int)
  | []=>none
  | x::l=>if x.2 != 0 then some (x.2,x.1.2.2) else aV4 l
def aY8 (l:Bys):Except (Int×Int) (List (Tok Int)):=match aV4 (aXI l 0) with | some e => .error e | none => .ok ((aXI l 0).map (·.1))
end Go.Proofs.YtngjlnhojicjeaaGreatDoor
namespace Go.Proofs
open Go.Shelf
def Tryz.lays134_ren:Go.Shelf.Ren:=⟨fun | 134=>214 | 129=>211 | n=>n,fun | 53=>164 | 3=>3 | 4=>4 | 46=>139 | 5=>5 | 9=>9 | n=>n,fun | n=>n⟩
theorem Tryz.lays134:Go.Proofs.Lays.n134 Tryz.prog Tryz.lays134_ren:={
 mixed:=by kernel_rfl
 f129:=Tryz.func211.trans (congrArg some (by kernel_rfl))
 f134:=Tryz.func214.trans (congrArg some (by kernel_rfl))
 t3:=Tryz.underlying3
 a3:=Tryz.isAgg3
 z3:=Tryz.sizeOf3
 v3:=Tryz.zeroValue3
 t4:=Tryz.underlying4
 a4:=Tryz.isAgg4
 z4:=Tryz.sizeOf4
 v4:=Tryz.zeroValue4
 t5:=Tryz.underlying5
 a5:=Tryz.isAgg5
 z5:=Tryz.sizeOf5
 v5:=Tryz.zeroValue5
 t9:=Tryz.underlying9
 a9:=Tryz.isAgg9
 z9:=Tryz.sizeOf9
 v9:=Tryz.zeroValue9
 t46:=Tryz.underlying139
 a46:=Tryz.isAgg139
 z46:=Tryz.sizeOf139
 v46:=Tryz.zeroValue139
 t53:=Tryz.underlying164
 a53:=Tryz.isAgg164
 z53:=Tryz.sizeOf164
 v53:=Tryz.zeroValue164 }
theorem Tryz.bits_LeadingZeros64 (x:Int) (w:World) (h0:0<=x) (h1:x<=18446744073709551615) :
  Calls Tryz.prog 214 #[.int .u64 x] w fun e w'=>e = .returned (.int .i64 (64-(Lib.bitLen x.toNat:Int))) /\ w'=w:=Any.bits_LeadingZeros64 Tryz.lays134 x w h0 h1
def Tryz.lays106_ren:Go.Shelf.Ren:=⟨fun | 106=>44 | 213=>88 | 265=>140 | n=>n,fun | 9=>9 | 3=>3 | n=>n,fun | n=>n⟩
theorem Tryz.lays106:Go.Proofs.Lays.n106 Tryz.prog Tryz.lays106_ren:={
 mixed:=by kernel_rfl
 f106:=Tryz.func44.trans (congrArg some (by kernel_rfl))
 f213:=Tryz.func88.trans (congrArg some (by kernel_rfl))
 f265:=Tryz.func140.trans (congrArg some (by kernel_rfl))
 t3:=Tryz.underlying3
 a3:=Tryz.isAgg3
 z3:=Tryz.sizeOf3
 v3:=Tryz.zeroValue3
 t9:=Tryz.underlying9
 a9:=Tryz.isAgg9
 z9:=Tryz.sizeOf9
 v9:=Tryz.zeroValue9 }
open Go.RowKit in
theorem Tryz.strings_Compare (a b:ByteArray) (w:World) :
  Calls Tryz.prog 44 #[.string a,.string b] w fun e w'=>e = .returned (.int .i64 (Lib.compareBytes a.data.toList b.data.toList)) /\ w'=w:=Any.strings_Compare Tryz.lays106 a b w
def Tryz.lays137_ren:Go.Shelf.Ren:=⟨fun | 137=>139 | 217=>187 | 266=>230 | n=>n,fun | 9=>9 | 5=>5 | 3=>3 | n=>n,fun | n=>n⟩
theorem Tryz.lays137:Go.Proofs.Lays.n137 Tryz.prog Tryz.lays137_ren:={
 mixed:=by kernel_rfl
 f137:=Tryz.func139.trans (congrArg some (by kernel_rfl))
 f217:=Tryz.func187.trans (congrArg some (by kernel_rfl))
 f266:=Tryz.func230.trans (congrArg some (by kernel_rfl))
 t3:=Tryz.underlying3
 a3:=Tryz.isAgg3
 z3:=Tryz.sizeOf3
 v3:=Tryz.zeroValue3
 t5:=Tryz.underlying5
 a5:=Tryz.isAgg5
 z5:=Tryz.sizeOf5
 v5:=Tryz.zeroValue5
 t9:=Tryz.underlying9
 a9:=Tryz.isAgg9
 z9:=Tryz.sizeOf9
 v9:=Tryz.zeroValue9 }
open Go.RowKit in
theorem Tryz.strings_IndexByte (s:ByteArray) (c:Int) (w:World) :
  Calls Tryz.prog 139 #[.string s,.int .u8 c] w fun e w'=>e = .returned (.int .i64 (Lib.indexByte s.data.toList c.toNat.toUInt8)) /\ w'=w:=Any.strings_IndexByte Tryz.lays137 s c w
def Tryz.laysC172_ren:Go.Shelf.Ren:=⟨fun | 172=>85 | 244=>136 | 245=>137 | 247=>182 | 279=>183 | 280=>184 | 281=>185 | 282=>186 | 287=>227 | 316=>228 | 171=>222 | 205=>229 | 321=>257 | 322=>258 | 243=>252 | 246=>276 | 283=>287 | 284=>288 | 285=>289 | 286=>290 | 129=>211 | 317=>297 | 318=>298 | 319=>299 | 320=>300 | 337=>311 | 338=>312 | n=>n,fun | 9=>9 | 3=>3 | 75=>133 | 76=>134 | 4=>4 | 5=>5 | 167=>273 | 37=>274 | 0=>0 | 85=>275 | 2=>2 | 168=>277 | 53=>164 | 175=>326 | 46=>139 | 210=>330 | 127=>366 | 145=>369 | 143=>367 | 21=>21 | 171=>403 | 173=>405 | 212=>412 | 51=>301 | 20=>20 | 213=>413 | 232=>438 | 233=>439 | 80=>396 | n=>n,fun | 15=>3 | 16=>4 | 17=>6 | 18=>8 | 19=>9 | n=>n⟩
theorem Tryz.laysC172:Go.Proofs.LaysC.n172 Tryz.prog Tryz.laysC172_ren:={
 mixed:=by kernel_rfl
 f129:=Tryz.func211.trans (congrArg some (by kernel_rfl))
 f171:=Tryz.func222.trans (congrArg some (by kernel_rfl))
 f172:=Tryz.func85.trans (congrArg some (by kernel_rfl))
 f205:=Tryz.func229.trans (congrArg some (by kernel_rfl))
 f243:=Tryz.func252.trans (congrArg some (by kernel_rfl))
 f244:=Tryz.func136.trans (congrArg some (by kernel_rfl))
 f245:=Tryz.func137.trans (congrArg some (by kernel_rfl))
 f246:=Tryz.func276.trans (congrArg some (by kernel_rfl))
 f247:=Tryz.func182.trans (congrArg some (by kernel_rfl))
 f279:=Tryz.func183.trans (congrArg some (by kernel_rfl))
 f280:=Tryz.func184.trans (congrArg some (by kernel_rfl))
 f281:=Tryz.func185.trans (congrArg some (by kernel_rfl))
 f282:=Tryz.func186.trans (congrArg some (by kernel_rfl))
 f283:=Tryz.func287.trans (congrArg some (by kernel_rfl))
 f284:=Tryz.func288.trans (congrArg some (by kernel_rfl))
 f285:=Tryz.func289.trans (congrArg some (by kernel_rfl))
 f286:=Tryz.func290.trans (congrArg some (by kernel_rfl))
 f287:=Tryz.func227.trans (congrArg some (by kernel_rfl))
 f316:=Tryz.func228.trans (congrArg some (by kernel_rfl))
 f317:=Tryz.func297.trans (congrArg some (by kernel_rfl))
 f318:=Tryz.func298.trans (congrArg some (by kernel_rfl))
 f319:=Tryz.func299.trans (congrArg some (by kernel_rfl))
 f320:=Tryz.func300.trans (congrArg some (by kernel_rfl))
 f321:=Tryz.func257.trans (congrArg some (by kernel_rfl))
 f322:=Tryz.func258.trans (congrArg some (by kernel_rfl))
 f337:=Tryz.func311.trans (congrArg some (by kernel_rfl))
 f338:=Tryz.func312.trans (congrArg some (by kernel_rfl))
 t0:=Tryz.underlying0
 a0:=Tryz.isAgg0
 z0:=Tryz.sizeOf0
 v0:=Tryz.zeroValue0
 t2:=Tryz.underlying2
 a2:=Tryz.isAgg2
 z2:=Tryz.sizeOf2
 v2:=Tryz.zeroValue2
 t3:=Tryz.underlying3
 a3:=Tryz.isAgg3
 z3:=Tryz.sizeOf3
 v3:=Tryz.zeroValue3
 t4:=Tryz.underlying4
 a4:=Tryz.isAgg4
 z4:=Tryz.sizeOf4
 v4:=Tryz.zeroValue4
 t5:=Tryz.underlying5
 a5:=Tryz.isAgg5
 z5:=Tryz.sizeOf5
 v5:=Tryz.zeroValue5
 t9:=Tryz.underlying9
 a9:=Tryz.isAgg9
 z9:=Tryz.sizeOf9
 v9:=Tryz.zeroValue9
 t20:=Tryz.underlying20
 a20:=Tryz.isAgg20
 z20:=Tryz.sizeOf20
 v20:=Tryz.zeroValue20
 t21:=Tryz.underlying21
 a21:=Tryz.isAgg21
 z21:=Tryz.sizeOf21
 v21:=Tryz.zeroValue21
 t37:=Tryz.underlying274
 a37:=Tryz.isAgg274
 z37:=Tryz.sizeOf274
 v37:=Tryz.zeroValue274
 t46:=Tryz.underlying139
 a46:=Tryz.isAgg139
 z46:=Tryz.sizeOf139
 v46:=Tryz.zeroValue139
 t51:=Tryz.underlying301
 a51:=Tryz.isAgg301
 z51:=Tryz.sizeOf301
 v51:=Tryz.zeroValue301
 t53:=Tryz.underlying164
 a53:=Tryz.isAgg164
 z53:=Tryz.sizeOf164
 v53:=Tryz.zeroValue164
 t75:=Tryz.underlying133
 a75:=Tryz.isAgg133
 z75:=Tryz.sizeOf133
 v75:=Tryz.zeroValue133
 t76:=Tryz.underlying134
 a76:=Tryz.isAgg134
 z76:=Tryz.sizeOf134
 v76:=Tryz.zeroValue134
 t85:=Tryz.underlying275
 a85:=Tryz.isAgg275
 z85:=Tryz.sizeOf275
 v85:=Tryz.zeroValue275
 t127:=Tryz.underlying366
 a127:=Tryz.isAgg366
 z127:=Tryz.sizeOf366
 v127:=Tryz.zeroValue366
 t143:=Tryz.underlying367
 a143:=Tryz.isAgg367
 z143:=Tryz.sizeOf367
 v143:=Tryz.zeroValue367
 t145:=Tryz.underlying369
 a145:=Tryz.isAgg369
 z145:=Tryz.sizeOf369
 v145:=Tryz.zeroValue369
 t167:=Tryz.underlying273
 a167:=Tryz.isAgg273
 z167:=Tryz.sizeOf273
 v167:=Tryz.zeroValue273
 t168:=Tryz.underlying277
 a168:=Tryz.isAgg277
 z168:=Tryz.sizeOf277
 v168:=Tryz.zeroValue277
 t171:=Tryz.underlying403
 a171:=Tryz.isAgg403
 z171:=Tryz.sizeOf403
 v171:=Tryz.zeroValue403
 t173:=Tryz.underlying405
 a173:=Tryz.isAgg405
 z173:=Tryz.sizeOf405
 v173:=Tryz.zeroValue405
 t175:=Tryz.underlying326
 a175:=Tryz.isAgg326
 z175:=Tryz.sizeOf326
 v175:=Tryz.zeroValue326
 t210:=Tryz.underlying330
 a210:=Tryz.isAgg330
 z210:=Tryz.sizeOf330
 v210:=Tryz.zeroValue330
 t212:=Tryz.underlying412
 a212:=Tryz.isAgg412
 z212:=Tryz.sizeOf412
 v212:=Tryz.zeroValue412
 t213:=Tryz.underlying413
 a213:=Tryz.isAgg413
 z213:=Tryz.sizeOf413
 t232:=Tryz.underlying438
 a232:=Tryz.isAgg438
 z232:=Tryz.sizeOf438
 v232:=Tryz.zeroValue438
 t233:=Tryz.underlying439
 a233:=Tryz.isAgg439
 z233:=Tryz.sizeOf439
 v233:=Tryz.zeroValue439
 g15:=by kernel_rfl
 g16:=by kernel_rfl
 g17:=by kernel_rfl
 g18:=by kernel_rfl
 g19:=by kernel_rfl
 t80:=Tryz.underlying396
 a80:=Tryz.isAgg396
 z80:=Tryz.sizeOf396
 v80:=Tryz.zeroValue396
 i0:=by kernel_rfl
 i2:=by kernel_rfl
 i3:=by kernel_rfl
 i4:=by kernel_rfl
 i5:=by kernel_rfl
 i9:=by kernel_rfl
 i20:=by kernel_rfl
 i21:=by kernel_rfl
 i37:=by kernel_rfl
 i46:=by kernel_rfl
 i51:=by kernel_rfl
 i53:=by kernel_rfl
 i75:=by kernel_rfl
 i76:=by kernel_rfl
 i80:=by kernel_rfl
 i85:=by kernel_rfl
 i127:=by kernel_rfl
 i143:=by kernel_rfl
 i145:=by kernel_rfl
 i167:=by kernel_rfl
 i168:=by kernel_rfl
 i171:=by kernel_rfl
 i173:=by kernel_rfl
 i175:=by kernel_rfl
 i210:=by kernel_rfl
 i212:=by kernel_rfl
 i232:=by kernel_rfl
 i233:=by kernel_rfl
 m15:=by kernel_rfl
 m16:=by kernel_rfl
 m17:=by kernel_rfl
 m18:=by kernel_rfl
 m19:=by kernel_rfl
 c0:=by kernel_rfl
 c2:=by kernel_rfl
 c3:=by kernel_rfl
 c4:=by kernel_rfl
 c5:=by kernel_rfl
 c9:=by kernel_rfl
 c20:=by kernel_rfl
 c21:=by kernel_rfl
 c37:=by kernel_rfl
 c46:=by kernel_rfl
 c51:=by kernel_rfl
 c53:=by kernel_rfl
 c75:=by kernel_rfl
 c76:=by kernel_rfl
 c80:=by kernel_rfl
 c85:=by kernel_rfl
 c127:=by kernel_rfl
 c143:=by kernel_rfl
 c145:=by kernel_rfl
 c167:=by kernel_rfl
 c168:=by kernel_rfl
 c171:=by kernel_rfl
 c173:=by kernel_rfl
 c175:=by kernel_rfl
 c210:=by kernel_rfl
 c212:=by kernel_rfl
 c213:=by kernel_rfl
 c232:=by kernel_rfl
 c233:=by kernel_rfl }
def Tryz.laysGw17_ren:Go.Shelf.Ren:=⟨fun | 17=>83 | 15=>135 | 20=>181 | n=>n,fun | 9=>9 | 23=>131 | 4=>4 | 3=>3 | 0=>0 | 21=>21 | n=>n,fun | n=>n⟩
theorem Tryz.laysGw17:Go.Proofs.LaysGw.n17 Tryz.prog Tryz.laysGw17_ren:={
 mixed:=by kernel_rfl
 f15:=Tryz.func135.trans (congrArg some (by kernel_rfl))
 f17:=Tryz.func83.trans (congrArg some (by kernel_rfl))
 f20:=Tryz.func181.trans (congrArg some (by kernel_rfl))
 t0:=Tryz.underlying0
 a0:=Tryz.isAgg0
 z0:=Tryz.sizeOf0
 v0:=Tryz.zeroValue0
 i0:=by kernel_rfl
 t3:=Tryz.underlying3
 a3:=Tryz.isAgg3
 z3:=Tryz.sizeOf3
 v3:=Tryz.zeroValue3
 i3:=by kernel_rfl
 t4:=Tryz.underlying4
 a4:=Tryz.isAgg4
 z4:=Tryz.sizeOf4
 v4:=Tryz.zeroValue4
 i4:=by kernel_rfl
 t9:=Tryz.underlying9
 a9:=Tryz.isAgg9
 z9:=Tryz.sizeOf9
 v9:=Tryz.zeroValue9
 i9:=by kernel_rfl
 t21:=Tryz.underlying21
 a21:=Tryz.isAgg21
 z21:=Tryz.sizeOf21
 v21:=Tryz.zeroValue21
 i21:=by kernel_rfl
 t23:=Tryz.underlying131
 a23:=Tryz.isAgg131
 z23:=Tryz.sizeOf131
 v23:=Tryz.zeroValue131
 i23:=by kernel_rfl }
def Tryz.lays264_ren:Go.Shelf.Ren:=⟨fun | 264=>161 | n=>n,fun | 53=>164 | 46=>139 | n=>n,fun | n=>n⟩
theorem Tryz.lays264:Go.Proofs.Lays.n264 Tryz.prog Tryz.lays264_ren:={
 mixed:=by kernel_rfl
 f264:=Tryz.func161.trans (congrArg some (by kernel_rfl))
 t46:=Tryz.underlying139
 a46:=Tryz.isAgg139
 z46:=Tryz.sizeOf139
 v46:=Tryz.zeroValue139
 t53:=Tryz.underlying164
 a53:=Tryz.isAgg164
 z53:=Tryz.sizeOf164
 v53:=Tryz.zeroValue164 }
open Go.RowKit Go.Lib in
theorem Tryz.bits_Mul64 (x y:Nat) (hx:x<18446744073709551616) (hy:y<18446744073709551616) (w:World) :
  Calls Tryz.prog 161 #[.int .u64 x,.int .u64 y] w fun e w'=>e = .returned (.tuple #[.int .u64 ((x*y / 18446744073709551616:Nat):Int),.int .u64 ((x*y%18446744073709551616:Nat):Int)]) /\ w'=w:=Any.bits_Mul64 Tryz.lays264 x y hx hy w
open Go.RowKit Go.Lib in
theorem Tryz.strings_ContainsFunc_grows (g:Nat) (lb:Array Value) (eg:∀ args w,(callFunc g args).run Tryz.prog w = .ok (.enter g args) w) (p:Nat->Bool) (s:ByteArray) (w:World) (hp:PredGrows Tryz.prog g lb p w) :
  Calls Tryz.prog 83 #[.string s,.func (.func g) #[] lb] w fun e w'=>e = .returned (.bool (decide (0<=Lib.idxFunc p true s))) /\ Below w.heap.size w w':=Any.strings_ContainsFunc_grows Tryz.laysGw17 g lb eg p s w hp
def Tryz.lays110_ren:Go.Shelf.Ren:=⟨fun | 110=>226 | 109=>256 | n=>n,fun | 31=>45 | 9=>9 | 4=>4 | 3=>3 | 0=>0 | n=>n,fun | n=>n⟩
theorem Tryz.lays110:Go.Proofs.Lays.n110 Tryz.prog Tryz.lays110_ren:={
 mixed:=by kernel_rfl
 f109:=Tryz.func256.trans (congrArg some (by kernel_rfl))
 f110:=Tryz.func226.trans (congrArg some (by kernel_rfl))
 t0:=Tryz.underlying0
 a0:=Tryz.isAgg0
 z0:=Tryz.sizeOf0
 v0:=Tryz.zeroValue0
 t3:=Tryz.underlying3
 a3:=Tryz.isAgg3
 z3:=Tryz.sizeOf3
 v3:=Tryz.zeroValue3
 t4:=Tryz.underlying4
 a4:=Tryz.isAgg4
 z4:=Tryz.sizeOf4
 v4:=Tryz.zeroValue4
 t9:=Tryz.underlying9
 a9:=Tryz.isAgg9
 z9:=Tryz.sizeOf9
 v9:=Tryz.zeroValue9
 t31:=Tryz.underlying45
 a31:=Tryz.isAgg45
 z31:=Tryz.sizeOf45
 v31:=Tryz.zeroValue45 }
open Go.Lib in
theorem Tryz.slices_Contains_string (b off n c:Nat) (zs:List ByteArray) (x:ByteArray) (w:World) (hz:n<=zs.length) (hbig:n<=9223372036854775807) (hc:∀ j,j<zs.length->w.cell? ⟨b,off+j,none⟩=some (.string (zs.getD j ByteArray.empty))) :
  Calls Tryz.prog 226 #[.slice (some ⟨b,off,none⟩) n c,.string x] w fun e w'=>e = .returned (.bool (Lib.containsS (zs.take n) x)) /\ w'=w:=Any.slices_Contains_string Tryz.lays110 b off n c zs x w hz hbig hc
open Go.Lib in
theorem Tryz.slices_Contains_string_empty (a:Option Addr) (c:Nat) (x:ByteArray) (w:World) :
  Calls Tryz.prog 226 #[.slice a 0 c,.string x] w fun e w'=>e = .returned (.bool false) /\ w'=w:=Any.slices_Contains_string_empty Tryz.lays110 a c x w
end Go.Proofs
namespace Go.Proofs.YtngjlnhojicjeaaGreatDoor
open Go.RowKit Go.Pl
def cl8 (b:UInt8):Nat:=if b==35 then 2 else if b==95 then 5 else if b==34 then 7 else if aQD b then 3 else if aIr b then 4 else if aTj b then 1 else if aTi b then 6 else 0
def aH0 (i:Nat):Nat:=if aQD (UInt8.ofNat i) then 3 else if aIr (UInt8.ofNat i) then 4 else if aTj (UInt8.ofNat i) then 1 else if aTi (UInt8.ofNat i) then 6 else 0
def ixb (s:Bys) (i:Nat):Int:=Lib.indexByte s (UInt8.ofNat i)
theorem aDO (i:Nat) (hi:i<256):aH0 i=bif (decide ((97:Int)<=(i:Int))&&decide ((i:Int)<=122)||decide ((65:Int)<=(i:Int))&&decide ((i:Int)<=90)) then 3 else bif (decide ((48:Int)<=(i:Int))&&decide ((i:Int)<=57)) then 4 else bif decide ((0:Int)<=ixb [32,9,10] i) then 1 else bif decide ((0:Int)<=ixb [59,44,46,58,40,41,123,125,91,93,61,60,62,47,45] i) then 6 else 0:=by
  have:∀ i:Fin 256,aH0 i.val=bif (decide ((97:Int)<=(i.val:Int))&&decide ((i.val:Int)<=122)||decide ((65:Int)<=(i.val:Int))&&decide ((i.val:Int)<=90)) then 3 else bif (decide ((48:Int)<=(i.val:Int))&&decide ((i.val:Int)<=57)) then 4 else bif decide ((0:Int)<=ixb [32,9,10] i.val) then 1 else bif decide ((0:Int)<=ixb [59,44,46,58,40,41,123,125,91,93,61,60,62,47,45] i.val) then 6 else 0:=by decide +kernel
  exact this ⟨i,hi⟩
theorem aVC (i:Nat) (hi:i<256):(if i=34 then 7 else if i=95 then 5 else if i=35 then 2 else aH0 i)=cl8 (UInt8.ofNat i):=by
  have:∀ i:Fin 256,(if i.val=34 then 7 else if i.val=95 then 5 else if i.val=35 then 2 else aH0 i.val)=cl8 (UInt8.ofNat i.val):=by decide +kernel
  exact this ⟨i,hi⟩
theorem aIp (s:Bys) (i:Nat) (hi:i<256) (w:World):Calls Tryz.prog 139 #[vS s,.int .u8 (i:Int)] w fun e w'=>e = .returned (vI (ixb s i)) /\ Fr nF_ w w':=by
  refine (Tryz.strings_IndexByte (ofL s) (i:Int) w).mono fun e w' h=>⟨?_,by rw [h.2];exact Fr.refl _ _⟩;rw [h.1];unfold ixb;rw [show (ofL s).data.toList=s from by simp [ofL],show ((i:Int).toNat.toUInt8)=UInt8.ofNat i from by simp]
abbrev vU (n:Nat):Value := .int .u8 (n:Int)
abbrev T8 (cs:Array Value) (t:Nat->Nat):Prop:=TbA 256 cs (fun i=>vU (t i))
def aMm (i:Nat):Nat:=cl8 (UInt8.ofNat i)
theorem aDv (b:UInt8):aMm b.toNat=cl8 b:=by
  unfold aMm;rw [show UInt8.ofNat b.toNat=b by simp]
theorem aSk:T8 (zT Tryz.prog 137) (fun _=>0):=by
  have h:(zT Tryz.prog 137).size=256 /\ (List.range 256).all (fun i=>match (zT Tryz.prog 137)[i]? with | some (.int .u8 n)=>n==0 | _=>false)=true:=⟨by kernel_rfl,by kernel_rfl⟩;refine ⟨h.1,fun i hi=>?_⟩;have:=List.all_eq_true.1 h.2 i (List.mem_range.2 hi)
  split at this
  · rename_i n hn;rw [hn];rw [beq_iff_eq] at this;rw [this];rfl
  · cases this
theorem T8.one {cs:Array Value}{t:Nat->Nat}(h:T8 cs t):cs.all (·.oneCell')=true:=TbA.one h fun _=>rfl
theorem T8.ext {cs:Array Value}{t t':Nat->Nat}(h:T8 cs t) (e:∀ i,i<256->t i=t' i):T8 cs t':=TbA.ext h fun i hi=>by rw [e i hi]
theorem T8.set {cs:Array Value}{t:Nat->Nat}(h:T8 cs t) {k:Nat}(hk:k<256) (v:Nat):T8 (cs.setIfInBounds k (vU v)) (fun i=>if i=k then v else t i):=(TbA.set h hk (vU v)).ext fun i _=>by by_cases e:i=k<;>simp [e]
theorem aD9 {n v:Nat}(h:aH0 n=v) (i:Nat):(if i=n then v else if i<n then aH0 i else 0)=if i<n+1 then aH0 i else 0:=by
  rcases Nat.lt_trichotomy i n with e | e | e
  · rw [if_neg (by omega),if_pos e,if_pos (by omega)]
  · subst e;rw [if_pos rfl,if_pos (by omega),h]
  · rw [if_neg (by omega),if_neg (by omega),if_neg (by omega)]
theorem aOA {n:Nat}(h:aH0 n=0) (i:Nat):(if i<n then aH0 i else 0)=if i<n+1 then aH0 i else 0:=by
  rcases Nat.lt_trichotomy i n with e | e | e
  · rw [if_pos e,if_pos (by omega)]
  · subst e;rw [if_neg (by omega),if_pos (by omega),h]
  · rw [if_neg (by omega),if_neg (by omega)]
theorem aYn (i:Nat) (hi:i<256) {w:World}:Ft.ok Tryz.prog w (.g1 (.convert 3 5) (vI (i:Int)) (.int .u8 (i:Int))):=fun o ρ x ho hx=>by
  have:IntKind.u8.wrap (i:Int)=i:=by simp [IntKind.wrap,IntKind.bits,IntKind.signed];omega
  simp [execOp,ho,hx,go_sem,this]
abbrev A87 (Z:Ending->World->Prop):=AtO Tryz.prog (aAw Tryz.f87) (aAL (bodyPost Tryz.prog Tryz.f87 Z)) [] 50
theorem aH1 (w:World):Calls Tryz.prog 87 #[] w fun e w'=>(∃ cs,e = .returned (.agg cs) /\ T8 cs aMm /\ Fr nF_ w w'):=by
  refine beg Tryz.func87 rfl rfl [] rfl rfl fun Z hZ=>?_;have hM:=Mm.nil nF_ w;refine aAu 0 0 0 [] (cs:=zT Tryz.prog 137) (T:=137) (v:=fun b=>vP b 0) f0 hM fun b1 w1 hM=>aAu 1 0 1 [] (cs:=zT Tryz.prog 137) (T:=137) (v:=fun b=>vP b 0) f0 hM fun b2 w1 hM=>seg 3 0 [(4,vI 0)] f0 ?_
  have lp3:∀ (m5:Nat) (n:Nat) (cs:Array Value) (w2:World),n<=256->(T8 cs (fun i=>if i<n then aH0 i else 0))->Mm nF_ w w2 [bk b1 (zT Tryz.prog 137) 137,bk b2 cs 137]->m5=256-n->A87 Z (some (3,0)) [(4,vI (n:Int)),(1,vP b2 0),(0,vP b1 0)] w2:=by
   refine aCx fun m5 ih4 n cs w2 hn hT hM hm5=>seg 3 1 [(5,vB (decide ((n:Int)<256)))] f0 ?_;cases h6:(decide ((n:Int)<256))
   ·have rh6:=df h6;have hT:T8 cs (fun i=>aH0 i):=T8.ext hT fun i hi=>by rw [if_pos (by omega)]
    refine aP5 16 1 [(46,vP b2 (0+35*1))] 5 1 35 (vU 2) (fc (aLU 137 256 .i64 b2 0 35 (by omega)) f0) hM rfl (by have:=hT.1;omega) fun w1 hM=>?_;have hT:=T8.set hT (k:=35) (by omega) 2;refine aP5 16 3 [(47,vP b2 (0+95*1))] 5 1 95 (vU 5) (fc (aLU 137 256 .i64 b2 0 95 (by omega)) f0) hM rfl (by have:=hT.1;omega) fun w1 hM=>?_;have hT:=T8.set hT (k:=95) (by omega) 5;refine aP5 16 5 [(48,vP b2 (0+34*1))] 5 1 34 (vU 7) (fc (aLU 137 256 .i64 b2 0 34 (by omega)) f0) hM rfl (by have:=hT.1;omega) fun w1 hM=>?_;have hT:=T8.set hT (k:=34) (by omega) 7;refine aXC 17 1 [(49,.agg (Array.setIfInBounds (Array.setIfInBounds (Array.setIfInBounds cs 35 (vU 2)) 95 (vU 5)) 34 (vU 7)))] 137 0 (fc (lac 137 1 hM rfl hT.1) f0) hM rfl aSk.1 hT.1 (T8.one hT) fun w1 hM=>?_;have hT:T8 _ aMm:=T8.ext hT fun i hi=>by unfold aMm;rw [←aVC i hi]
    exact rtc 0 137 rfl (aBT 137 0 hM rfl hT.1) f0 (hZ _ _ ⟨_,rfl,hT,hM.fr⟩)
   have rh6:=dt h6;have hlt:n<256:=by omega
   refine seg 6 0 [(2,vI (n:Int)),(3,.int .u8 (n:Int))] (fc (aYn n hlt) f0) ?_
   have cu7:∀ (w2:World),((decide ((97:Int)<=(n:Int))&&decide ((n:Int)<=122)||decide ((65:Int)<=(n:Int))&&decide ((n:Int)<=90))=false)->Mm nF_ w w2 [bk b1 (zT Tryz.prog 137) 137,bk b2 cs 137]->A87 Z (some (9,0)) [(3,.int .u8 (n:Int)),(2,vI (n:Int)),(4,vI (n:Int)),(1,vP b2 0),(0,vP b1 0)] w2:=by
    intro w2 hc1 hM
    have cu8:∀ (w2:World),((decide ((48:Int)<=(n:Int))&&decide ((n:Int)<=57))=false)->Mm nF_ w w2 [bk b1 (zT Tryz.prog 137) 137,bk b2 cs 137]->A87 Z (some (11,0)) [(3,.int .u8 (n:Int)),(2,vI (n:Int)),(4,vI (n:Int)),(1,vP b2 0),(0,vP b1 0)] w2:=by
     intro w2 hc2 hM;refine aAx 11 1 35 [(34,.int .u8 (n:Int))] f0 hM (aIp [32,9,10] n hlt _) fun w1 hM=>seg 11 4 [(33,vB (decide (0<=(ixb [32,9,10] n))))] f0 ?_;cases h9:(decide (0<=(ixb [32,9,10] n)))
     rotate_left
     ·refine aP5 12 2 [(38,vP b2 (0+n*1))] 5 1 n (vU 1) (fc (aLU 137 256 .i64 b2 0 n (by omega)) f0) hM rfl (by have:=hT.1;omega) fun w1 hM=>?_;have hT:=T8.set hT (k:=n) (by omega) 1;refine seg 3 0 [(4,vI ((n:Int)+1))] (fc (aAI (n:Int) 1 u3_) f0) ?_;have hcv:aH0 n=1:=by rw [aDO n hlt,hc1,hc2];simp [h9]
      exact aAh _ (ih4 _ (by omega) (n+1) _ _ (by omega) (T8.ext hT fun i _=>aD9 hcv i) hM rfl)
     refine aAx 13 1 41 [(40,.int .u8 (n:Int))] f0 hM (aIp [59,44,46,58,40,41,123,125,91,93,61,60,62,47,45] n hlt _) fun w1 hM=>seg 13 4 [(39,vB (decide (0<=(ixb [59,44,46,58,40,41,123,125,91,93,61,60,62,47,45] n))))] f0 ?_;cases h10:(decide (0<=(ixb [59,44,46,58,40,41,123,125,91,93,61,60,62,47,45] n)))
     ·refine seg 3 0 [(4,vI ((n:Int)+1))] (fc (aAI (n:Int) 1 u3_) f0) ?_;have hcv:aH0 n=0:=by rw [aDO n hlt,hc1,hc2];simp [h9,h10]
      exact aAh _ (ih4 _ (by omega) (n+1) _ _ (by omega) (T8.ext hT fun i _=>aOA hcv i) hM rfl)
     refine aP5 14 2 [(44,vP b2 (0+n*1))] 5 1 n (vU 6) (fc (aLU 137 256 .i64 b2 0 n (by omega)) f0) hM rfl (by have:=hT.1;omega) fun w1 hM=>?_;have hT:=T8.set hT (k:=n) (by omega) 6;refine seg 3 0 [(4,vI ((n:Int)+1))] (fc (aAI (n:Int) 1 u3_) f0) ?_;have hcv:aH0 n=6:=by rw [aDO n hlt,hc1,hc2];simp [h9,h10]
     exact aAh _ (ih4 _ (by omega) (n+1) _ _ (by omega) (T8.ext hT fun i _=>aD9 hcv i) hM rfl)
    refine seg 9 3 [(27,vB (decide (48<=(n:Int))))] f0 ?_;cases h11:(decide (48<=(n:Int)))
    ·have aa:=df h11;refine seg 11 0 [] f0 (aAh _ (cu8 _ (by simp [h11]) hM))
    have aa:=dt h11;refine seg 9 7 [(24,vB (decide ((n:Int)<=57)))] f0 ?_;cases h12:(decide ((n:Int)<=57))
    ·have ab:=df h12;refine seg 11 0 [] f0 (aAh _ (cu8 _ (by simp [h11,h12]) hM))
    have ab:=dt h12;refine aP5 10 2 [(32,vP b2 (0+n*1))] 5 1 n (vU 4) (fc (aLU 137 256 .i64 b2 0 n (by omega)) f0) hM rfl (by have:=hT.1;omega) fun w1 hM=>?_;have hT:=T8.set hT (k:=n) (by omega) 4;refine seg 3 0 [(4,vI ((n:Int)+1))] (fc (aAI (n:Int) 1 u3_) f0) ?_;have hcv:aH0 n=4:=by rw [aDO n hlt,hc1];simp [h11,h12]
    exact aAh _ (ih4 _ (by omega) (n+1) _ _ (by omega) (T8.ext hT fun i _=>aD9 hcv i) hM rfl)
   refine seg 6 3 [(12,vB (decide (97<=(n:Int))))] f0 ?_;cases h13:(decide (97<=(n:Int)))
   ·have ac:=df h13;refine seg 7 3 [(18,vB (decide (65<=(n:Int))))] f0 ?_;cases h14:(decide (65<=(n:Int)))
    ·have ad:=df h14;refine seg 9 0 [] f0 (aAh _ (cu7 _ (by simp [h13,h14]) hM))
    have ad:=dt h14;refine seg 7 7 [(9,vB (decide ((n:Int)<=90)))] f0 ?_;cases h15:(decide ((n:Int)<=90))
    ·have ae:=df h15;refine seg 9 0 [] f0 (aAh _ (cu7 _ (by simp [h13,h14,h15]) hM))
    have ae:=dt h15;refine aP5 8 2 [(23,vP b2 (0+n*1))] 5 1 n (vU 3) (fc (aLU 137 256 .i64 b2 0 n (by omega)) f0) hM rfl (by have:=hT.1;omega) fun w1 hM=>?_;have hT:=T8.set hT (k:=n) (by omega) 3;refine seg 3 0 [(4,vI ((n:Int)+1))] (fc (aAI (n:Int) 1 u3_) f0) ?_;have hcv:aH0 n=3:=by rw [aDO n hlt];simp [h13,h14,h15]
    exact aAh _ (ih4 _ (by omega) (n+1) _ _ (by omega) (T8.ext hT fun i _=>aD9 hcv i) hM rfl)
   have ac:=dt h13;refine seg 6 7 [(9,vB (decide ((n:Int)<=122)))] f0 ?_;cases h16:(decide ((n:Int)<=122))
   rotate_left
   ·have af:=dt h16;refine aP5 8 2 [(23,vP b2 (0+n*1))] 5 1 n (vU 3) (fc (aLU 137 256 .i64 b2 0 n (by omega)) f0) hM rfl (by have:=hT.1;omega) fun w1 hM=>?_;have hT:=T8.set hT (k:=n) (by omega) 3;refine seg 3 0 [(4,vI ((n:Int)+1))] (fc (aAI (n:Int) 1 u3_) f0) ?_;have hcv:aH0 n=3:=by rw [aDO n hlt];simp [h13,h16]
    exact aAh _ (ih4 _ (by omega) (n+1) _ _ (by omega) (T8.ext hT fun i _=>aD9 hcv i) hM rfl)
   have af:=df h16;refine seg 7 3 [(18,vB (decide (65<=(n:Int))))] f0 ?_;cases h17:(decide (65<=(n:Int)))
   ·refine seg 9 0 [(9,vB false)] f0 (aAh _ (cu7 _ (by simp [h13,h16,h17]) hM))
   refine seg 7 7 [(9,vB (decide ((n:Int)<=90)))] f0 ?_;cases h18:(decide ((n:Int)<=90))
   ·have ag:=df h18;refine seg 9 0 [] f0 (aAh _ (cu7 _ (by simp [h13,h16,h17,h18]) hM))
   have ag:=dt h18;refine aP5 8 2 [(23,vP b2 (0+n*1))] 5 1 n (vU 3) (fc (aLU 137 256 .i64 b2 0 n (by omega)) f0) hM rfl (by have:=hT.1;omega) fun w1 hM=>?_;have hT:=T8.set hT (k:=n) (by omega) 3;refine seg 3 0 [(4,vI ((n:Int)+1))] (fc (aAI (n:Int) 1 u3_) f0) ?_;have hcv:aH0 n=3:=by rw [aDO n hlt];simp [h13,h16,h17,h18]
   exact aAh _ (ih4 _ (by omega) (n+1) _ _ (by omega) (T8.ext hT fun i _=>aD9 hcv i) hM rfl)
  exact aAh _ (lp3 _ 0 _ _ (Gg_ _) (T8.ext aSk fun i _=>rfl) hM rfl)
def aFD (i:Nat) (c:UInt8):Bool:=cl8 c==3||(!(i==0)&&(cl8 c==4||cl8 c==5))
def aGi:Nat->Bys->Bool
  | _,[]=>true
  | i,c::l=>aFD i c&&aGi (i+1) l
def aBg (s:Bys):Bool:=aGi 0 s&&(!(s==[]))&&decide (s.length<=24)
abbrev A52 (Z:Ending->World->Prop):=AtO Tryz.prog (aAw Tryz.f41) (aAL (bodyPost Tryz.prog Tryz.f41 Z)) [] 39
theorem aA7 {s:Bys}(hs:s.length<=9223372036854775807) (w:World):Calls Tryz.prog 41 #[vS s] w fun e w'=>e = .returned (vB (aBg s)) /\ Fr nF_ w w':=by
  refine beg Tryz.func41 rfl rfl [(0,vS s)] rfl rfl fun Z hZ=>?_;have hM:=Mm.nil nF_ w;refine aLd 1 0 6 [] (K:=fun v w8=>∃ cs,v = .agg cs /\ T8 cs aMm) f0 hM ((aH1 _).mono fun e w8 ⟨cs,h1,h2,h3⟩=>⟨⟨_,h1,cs,rfl,h2⟩,h3⟩) fun _ w1 ⟨cs,hv9,hT⟩ hM f1=>?_;subst hv9;refine aAu 1 1 3 [] (cs:=zT Tryz.prog 137) (T:=137) (v:=fun b=>vP b 0) f0 hM fun b1 w1 hM=>aXC 1 2 [] 137 0 f0 hM rfl aSk.1 hT.1 (T8.one hT) fun w1 hM=>seg 3 0 [(8,vI (s.length:Int)),(9,vI 0)] (fc (aII 9 s) f0) ?_
  have lp2:∀ (m4:Nat) (i:Nat) (w2:World),i<=s.length->aGi 0 s=aGi i (s.drop i)->Mm nF_ w w2 [bk b1 cs 137]->m4=s.length-i->A52 Z (some (3,0)) [(9,vI (i:Int)),(8,vI (s.length:Int)),(3,vP b1 0),(0,vS s)] w2:=by
   refine aCx fun m4 ih3 i w2 hi hv hM hm4=>seg 3 1 [(10,vB (decide ((i:Int)<(s.length:Int))))] f0 ?_;cases h5:(decide ((i:Int)<(s.length:Int)))
   ·have rh5:=df h5;refine seg 9 3 [(34,vB (!(s==[])))] (fc (sne 9 s []) f0) ?_;cases h6:(s==[])
    ·exact rt1 2 (vB (decide ((s.length:Int)<=24))) rfl (fc (aII 9 s) f0) (hZ _ _ ⟨by unfold aBg;rw [hv,List.drop_of_length_le (by omega),h6,aGi,show decide (((s.length:Nat):Int)<=24)=decide (s.length<=24) from by rw [decide_eq_decide];omega];rfl,hM.fr⟩)
    exact rt1 2 (vB false) rfl f0 (hZ _ _ ⟨by unfold aBg;rw [h6];simp,hM.fr⟩)
   have rh5:=dt h5;obtain ⟨e7,he7⟩:=geb (l:=s) (i:=i) (by omega);refine seg 6 3 [(4,vI (i:Int)),(5,.int .u8 ((aMm e7.toNat:Nat):Int)),(19,vB (!(((aMm e7.toNat:Nat):Int)==3)))] (fc (byt 9 he7) (fc (aLU 137 256 .u8 b1 0 e7.toNat e7.toNat_lt) (fc (ldt 5 0 hM rfl (hT.2 _ e7.toNat_lt)) f0))) ?_;cases h8:(((aMm e7.toNat:Nat):Int)==3)
   rotate_left
   ·have rh8:=et h8;refine seg 3 0 [(9,vI ((i:Int)+1))] (fc (aAI (i:Int) 1 u3_) f0) (aAh _ (ih3 _ (by omega) (i+1) _ (gl he7) (by rw [hv,gd he7,aGi,show aFD i e7=true by unfold aFD;rw [←aDv];simp;omega];rfl) hM rfl))
   have rh8:=ef h8;refine seg 6 6 [(22,vB ((i:Int)==0))] f0 ?_;cases h9:((i:Int)==0)
   rotate_left
   ·have rh9:=et h9;exact rt1 2 (vB false) rfl f0 (hZ _ _ ⟨by unfold aBg;rw [hv,gd he7,aGi,show aFD i e7=false by unfold aFD;rw [←aDv];simp;omega];rfl,hM.fr⟩)
   have rh9:=ef h9;refine seg 6 9 [(25,vB (!(((aMm e7.toNat:Nat):Int)==4)))] f0 ?_;cases h10:(((aMm e7.toNat:Nat):Int)==4)
   rotate_left
   ·have aa:=et h10;refine seg 3 0 [(9,vI ((i:Int)+1))] (fc (aAI (i:Int) 1 u3_) f0) (aAh _ (ih3 _ (by omega) (i+1) _ (gl he7) (by rw [hv,gd he7,aGi,show aFD i e7=true by unfold aFD;rw [←aDv];simp;omega];rfl) hM rfl))
   have aa:=ef h10;refine seg 6 14 [(30,vB (!(((aMm e7.toNat:Nat):Int)==5)))] f0 ?_;cases h11:(((aMm e7.toNat:Nat):Int)==5)
   ·have ab:=ef h11;exact rt1 2 (vB false) rfl f0 (hZ _ _ ⟨by unfold aBg;rw [hv,gd he7,aGi,show aFD i e7=false by unfold aFD;rw [←aDv];simp;omega];rfl,hM.fr⟩)
   have ab:=et h11;refine seg 3 0 [(9,vI ((i:Int)+1))] (fc (aAI (i:Int) 1 u3_) f0) (aAh _ (ih3 _ (by omega) (i+1) _ (gl he7) (by rw [hv,gd he7,aGi,show aFD i e7=true by unfold aFD;rw [←aDv];simp;omega];rfl) hM rfl))
  exact aAh _ (lp2 _ 0 _ (Gg_ _) rfl hM rfl)
inductive Fst {α:Type}(L:List α) (q:Nat->Bool) (I:Nat->World->Prop) (w:World):Int->Prop where
  | none:(∀ j,j<L.length->q j=false)->I L.length w->Fst L q I w (-1)
  | some (i:Nat):i<L.length->q i=true->(∀ j,j<i->q j=false)->I (i+1) w->Fst L q I w (i:Int)
theorem Fst.end_ {α:Type}{L:List α}{q:Nat->Bool}{I:Nat->World->Prop}{w:World}{i:Nat}(e:i=L.length) (h:∀ j,j<i->q j=false) (hI:I i w):Fst L q I w (-1):=by subst e;exact .none h hI
abbrev A90 (Z:Ending->World->Prop):=AtO Tryz.prog (aAw Tryz.f143) (aAL (bodyPost Tryz.prog Tryz.f143 Z)) [] 19
theorem aLX {w:World}{B:Nat}{p:Option Addr}{cap:Nat}{L:List Bys}{f:FuncId}{caps:Array Value}{G:Nat->Prop}(hs:SrcB stL 1 w B p cap L) (hG:∀ k,G k->B<=k) (eg:aIL Tryz.prog f) (I:Nat->World->Prop) (q:Nat->Bool) (h0:I 0 w) (step:∀ i x w1,L[i]?=some x->(∀ j,j<i->q j=false)->I i w1->Fr G w w1->Calls Tryz.prog f (#[vS x]++caps) w1 fun e w2=>e = .returned (vB (q i)) /\ I (i+1) w2 /\ Fr G w1 w2):Calls Tryz.prog 143 #[vL p L.length cap,.func (.func f) #[] caps] w fun e w'=>(∃ z,e = .returned (vI z) /\ Fst L q I w' z) /\ Fr G w w':=by
  have bb:=hs.bnd;refine beg Tryz.func143 rfl rfl [(0,vL p L.length cap),(1,.func (.func f) #[] caps)] rfl rfl fun Z hZ=>?_;have hM:=Mm.nil G w;refine seg 2 0 [(7,vI (L.length:Int)),(8,vI 0)] f0 ?_
  have lp1:∀ (m3:Nat) (i:Nat) (w2:World),i<=L.length->(∀ j,j<i->q j=false)->I i w2->Mm G w w2 []->m3=L.length-i->A90 Z (some (2,0)) [(8,vI (i:Int)),(7,vI (L.length:Int)),(0,vL p L.length cap),(1,.func (.func f) #[] caps)] w2:=by
   refine aCx fun m3 ih2 i w2 hi hq hI hM hm3=>seg 2 1 [(9,vB (decide ((i:Int)<(L.length:Int))))] f0 ?_;cases h4:(decide ((i:Int)<(L.length:Int)))
   ·have rh4:=df h4;exact rt1 4 (vI (-1)) rfl f0 (hZ _ _ ⟨⟨_,rfl,.end_ (by omega) hq hI⟩,hM.fr⟩)
   have rh4:=dt h4;obtain ⟨y5,hy5,g5,o5,q5,r5,n5⟩:=(hs).eb hG (i:=i) (by omega);refine aT8 4 5 16 [(5,vI (i:Int)),(11,.func (.func f) #[] caps),(15,vS y5)] #[9] (K:=fun u w9=>u=vB (q i) /\ I (i+1) w9 /\ Fr G w2 w9) (by decide) (fc (ix 45 cap q5 (gl hy5)) (fc (ld0 9 hM (r5 0 _ rfl) n5) f0)) eg ((step i y5 _ hy5 hq hI hM.fr).mono fun e w9 h=>⟨_,h.1,rfl,h.2⟩) fun u w1 ⟨hu,hI,f1⟩=>?_;subst hu;have hM:=hM.g f1;cases h6:(q i)
   ·refine seg 2 0 [(8,vI ((i:Int)+1))] (fc (aAI (i:Int) 1 u3_) f0) (aAh _ (ih2 _ (by omega) (i+1) _ (gl hy5) (fun j hj=>by rcases Nat.lt_succ_iff_lt_or_eq.1 hj with h | h;exact hq j h;rw [h];exact h6) hI hM rfl))
   exact rt1 4 (vI (i:Int)) rfl f0 (hZ _ _ ⟨⟨_,rfl,.some i (gl hy5) h6 hq hI⟩,hM.fr⟩)
  exact aAh _ (lp1 _ 0 _ (Gg_ _) (fun _ h=>absurd h (Nat.not_lt_zero _)) h0 hM rfl)
abbrev A88 (Z:Ending->World->Prop):=AtO Tryz.prog (aAw Tryz.f38) (aAL (bodyPost Tryz.prog Tryz.f38 Z)) [] 19
theorem aLZ {w:World}{B:Nat}{p:Option Addr}{cap:Nat}{L:List ObR}{f:FuncId}{caps:Array Value}{G:Nat->Prop}(hs:SrcB obL 6 w B p cap L) (hG:∀ k,G k->B<=k) (eg:aIL Tryz.prog f) (I:Nat->World->Prop) (q:Nat->Bool) (h0:I 0 w) (step:∀ i x w1,L[i]?=some x->(∀ j,j<i->q j=false)->I i w1->Fr G w w1->Calls Tryz.prog f (#[vA (obL x)]++caps) w1 fun e w2=>e = .returned (vB (q i)) /\ I (i+1) w2 /\ Fr G w1 w2):Calls Tryz.prog 38 #[vL p L.length cap,.func (.func f) #[] caps] w fun e w'=>(∃ z,e = .returned (vI z) /\ Fst L q I w' z) /\ Fr G w w':=by
  have bb:=hs.bnd;refine beg Tryz.func38 rfl rfl [(0,vL p L.length cap),(1,.func (.func f) #[] caps)] rfl rfl fun Z hZ=>?_;have hM:=Mm.nil G w;refine seg 2 0 [(7,vI (L.length:Int)),(8,vI 0)] f0 ?_
  have lp7:∀ (m9:Nat) (i:Nat) (w2:World),i<=L.length->(∀ j,j<i->q j=false)->I i w2->Mm G w w2 []->m9=L.length-i->A88 Z (some (2,0)) [(8,vI (i:Int)),(7,vI (L.length:Int)),(0,vL p L.length cap),(1,.func (.func f) #[] caps)] w2:=by
   refine aCx fun m9 ih8 i w2 hi hq hI hM hm9=>seg 2 1 [(9,vB (decide ((i:Int)<(L.length:Int))))] f0 ?_;cases h10:(decide ((i:Int)<(L.length:Int)))
   ·have ab:=df h10;exact rt1 4 (vI (-1)) rfl f0 (hZ _ _ ⟨⟨_,rfl,.end_ (by omega) hq hI⟩,hM.fr⟩)
   have ab:=dt h10;obtain ⟨y11,aa,ad,ae,q11,ac,n11⟩:=(hs).eb hG (i:=i) (by omega);refine aT8 4 5 16 [(5,vI (i:Int)),(11,.func (.func f) #[] caps),(15,.agg (oY_ y11))] #[48] (K:=fun u w9=>u=vB (q i) /\ I (i+1) w9 /\ Fr G w2 w9) (by decide) (fc (ix 22 cap q11 (gl aa)) (fc (la0 48 hM ac n11) f0)) eg ((step i y11 _ aa hq hI hM.fr).mono fun e w9 h=>⟨_,h.1,rfl,h.2⟩) fun u w1 ⟨hu,hI,f1⟩=>?_;subst hu;have hM:=hM.g f1;cases h12:(q i)
   ·refine seg 2 0 [(8,vI ((i:Int)+1))] (fc (aAI (i:Int) 1 u3_) f0) (aAh _ (ih8 _ (by omega) (i+1) _ (gl aa) (fun j hj=>by rcases Nat.lt_succ_iff_lt_or_eq.1 hj with h | h;exact hq j h;rw [h];exact h12) hI hM rfl))
   exact rt1 4 (vI (i:Int)) rfl f0 (hZ _ _ ⟨⟨_,rfl,.some i (gl aa) h12 hq hI⟩,hM.fr⟩)
  exact aAh _ (lp7 _ 0 _ (Gg_ _) (fun _ h=>absurd h (Nat.not_lt_zero _)) h0 hM rfl)
theorem aOD {w:World}{B:Nat}{p:Option Addr}{cap:Nat}{L:List Bys}{f:FuncId}{caps:Array Value}{G:Nat->Prop}(hs:SrcB stL 1 w B p cap L) (hG:∀ k,G k->B<=k) (eg:aIL Tryz.prog f) (I:Nat->World->Prop) (q:Nat->Bool) (h0:I 0 w) (step:∀ i x w1,L[i]?=some x->(∀ j,j<i->q j=false)->I i w1->Fr G w w1->Calls Tryz.prog f (#[vS x]++caps) w1 fun e w2=>e = .returned (vB (q i)) /\ I (i+1) w2 /\ Fr G w1 w2):Calls Tryz.prog 96 #[vL p L.length cap,.func (.func f) #[] caps] w fun e w'=>(∃ z,e = .returned (vB (decide (0<=z))) /\ Fst L q I w' z) /\ Fr G w w':=by
  refine beg Tryz.func96 rfl rfl [(0,vL p L.length cap),(1,.func (.func f) #[] caps)] rfl rfl fun Z hZ=>?_;have hM:=Mm.nil G w;refine cal 1 2 7 [(5,vL p L.length cap),(6,.func (.func f) #[] caps)] (K:=fun u w8=>∃ z,u=vI z /\ Fst L q I w8 z /\ Fr G w w8) f0 ((aLX hs hG eg I q h0 step).mono fun e w9 h=>⟨_,h.1.choose_spec.1,_,rfl,h.1.choose_spec.2,h.2⟩) fun u w1 ⟨z,hu,hz,f1⟩=>?_;subst hu;have hM:=hM.g f1;exact rt1 4 (vB (decide (0<=z))) rfl f0 (hZ _ _ ⟨⟨_,rfl,hz⟩,hM.fr⟩)
def aDU (k:Int):Bys:=if k<0∨6<=k then [] else [[],[110,111,100,101],[119,97,121],[97,114,101,97],[114,111,117,116,101],[116,117,114,110]].getD k.toNat []
def aG4 (k:Int):Int:=[0,0,2,3,1,3].getD k.toNat 0
def onB (x y:Int):Bool:=decide (0<=x)&&decide (x<1048576)&&decide (0<=y)&&decide (y<1048576)
theorem six {k:Int}(h0:¬ k<0) (h1:¬ 6<=k):∃ i:Nat,k=(i:Int) /\ i<6:=⟨k.toNat,by omega,by omega⟩
theorem aWk {i:Nat}(h:i<6):(#[vS [],vS [110,111,100,101],vS [119,97,121],vS [97,114,101,97],vS [114,111,117,116,101],vS [116,117,114,110]]:Array Value)[i]?=some (vS (aDU (i:Int))):=by
  match i,h with
  | 0,_=>rfl
  | 1,_=>rfl
  | 2,_=>rfl
  | 3,_=>rfl
  | 4,_=>rfl
  | 5,_=>rfl
theorem aVf {i:Nat}(h:i<6):(#[vI 0,vI 0,vI 2,vI 3,vI 1,vI 3]:Array Value)[i]?=some (vI (aG4 (i:Int))):=by
  match i,h with
  | 0,_=>rfl
  | 1,_=>rfl
  | 2,_=>rfl
  | 3,_=>rfl
  | 4,_=>rfl
  | 5,_=>rfl
theorem aC9 (k:Int) (w:World):Calls Tryz.prog 93 #[vI k] w fun e w'=>e = .returned (vS (aDU k)) /\ Fr nF_ w w':=by
  refine beg Tryz.func93 rfl rfl [(0,vI k)] rfl rfl fun Z hZ=>?_;have hM:=Mm.nil nF_ w;refine aBY 1 1 3 [(4,.agg #[vS [],vS [110,111,100,101],vS [119,97,121],vS [97,114,101,97],vS [114,111,117,116,101],vS [116,117,114,110]])] [] 216 (.agg #[vS [],vS [110,111,100,101],vS [119,97,121],vS [97,114,101,97],vS [114,111,117,116,101],vS [116,117,114,110]]) f0 hM fun aa w1 hM=>seg 2 3 [(7,vB (decide (k<0)))] f0 ?_;cases h14:(decide (k<0))
  rotate_left
  ·have ab:=dt h14;exact rt1 2 (vS []) rfl f0 (hZ _ _ ⟨by unfold aDU;rw [if_pos (by omega)],hM.fr⟩)
  have ab:=df h14;refine seg 2 6 [(10,vB (decide (6<=k)))] f0 ?_;cases h15:(decide (6<=k))
  ·have ac:=df h15;obtain ⟨i,hk,hi⟩:=six (k:=k) (by omega) (by omega);subst hk;exact rt1 2 (vS (aDU (i:Int))) rfl (fc (aLU 216 6 .i64 aa 0 i hi) (fc (ldt 9 0 hM rfl (aWk hi)) f0)) (hZ _ _ ⟨rfl,hM.fr⟩)
  have ac:=dt h15;exact rt1 2 (vS []) rfl f0 (hZ _ _ ⟨by unfold aDU;rw [if_pos (by omega)],hM.fr⟩)
theorem aFI (k:Int) (h0:¬ k<0) (h1:¬ 6<=k) (w:World):Calls Tryz.prog 94 #[vI k] w fun e w'=>e = .returned (vI (aG4 k)) /\ Fr nF_ w w':=by
  obtain ⟨i,hk,hi⟩:=six (k:=k) (by omega) (by omega);subst hk;refine beg Tryz.func94 rfl rfl [(0,vI (i:Int))] rfl rfl fun Z hZ=>?_;have hM:=Mm.nil nF_ w;exact rt1 2 (vI (aG4 (i:Int))) rfl (fc (ixv 217 6 (kd := .i64) (aVf hi) rfl) f0) (hZ _ _ ⟨rfl,hM.fr⟩)
theorem aQs (a b:Int) (w:World):Calls Tryz.prog 97 #[.agg #[vI a,vI b]] w fun e w'=>e = .returned (vB (onB a b)) /\ Fr nF_ w w':=by
  refine beg Tryz.func97 rfl rfl [(0,.agg #[vI a,vI b])] rfl rfl fun Z hZ=>?_;have hM:=Mm.nil nF_ w;refine aAu 0 0 1 [] (cs:=#[vI a,vI b]) (T:=29) (v:=fun b=>vP b 0) f0 hM fun aa w1 hM=>seg 1 4 [(6,vB (decide (0<=a)))] (fc (ldm 3 0 0 hM rfl rfl) f0) ?_;cases h17:(decide (0<=a))
  ·exact rt1 2 (vB false) rfl f0 (hZ _ _ ⟨by unfold onB;simp [h17],hM.fr⟩)
  refine seg 1 9 [(11,vB (decide (a<1048576)))] (fc (ldm 3 0 0 hM rfl rfl) f0) ?_;cases h18:(decide (a<1048576))
  ·exact rt1 2 (vB false) rfl f0 (hZ _ _ ⟨by unfold onB;simp [h17,h18],hM.fr⟩)
  refine seg 1 14 [(16,vB (decide (0<=b)))] (fc (ldm 3 0 1 hM rfl rfl) f0) ?_;cases h19:(decide (0<=b))
  ·exact rt1 2 (vB false) rfl f0 (hZ _ _ ⟨by unfold onB;simp [h17,h18,h19],hM.fr⟩)
  exact rt1 2 (vB (decide (b<1048576))) rfl (fc (ldm 3 0 1 hM rfl rfl) f0) (hZ _ _ ⟨by unfold onB;simp [h17,h18,h19],hM.fr⟩)
def aMC:Bys->List Tag->Bool
  | _,[]=>true
  | k,t::l=>aBg t.1&&blt k t.1&&(!(t.2==[]))&&decide ((t.2.length:Int)<=200)&&aMC t.1 l
def aGN (l:List Tag):Bool:=aMC [] l&&decide ((l.length:Int)<=60)
abbrev A81 (Z:Ending->World->Prop):=AtO Tryz.prog (aAw Tryz.f40) (aAL (bodyPost Tryz.prog Tryz.f40 Z)) [] 39
theorem aC7 {w:World}{v:Value}{l:List Tag}(hl:TgV w v l) (hb:∀ t∈l,B63 t.1 /\ B63 t.2):Calls Tryz.prog 40 #[v] w fun e w'=>e = .returned (vB (aGN l)) /\ Fr nF_ w w':=by
  obtain ⟨p0,cp0,hp0,sp0⟩:=hl.op;subst hp0;have bp0:=sp0.bnd;refine beg Tryz.func40 rfl rfl [(0,vL p0 l.length cp0)] rfl rfl fun Z hZ=>?_;have hM:=Mm.nil nF_ w;refine seg 3 0 [(3,vS []),(6,vL p0 l.length cp0),(7,vI (l.length:Int)),(8,vI 0)] f0 ?_
  have ab:∀ (aa:Nat) (i:Nat) (k:Bys) (w2:World),i<=l.length->aMC [] l=aMC k (l.drop i)->Mm nF_ w w2 []->aa=l.length-i->A81 Z (some (3,0)) [(8,vI (i:Int)),(7,vI (l.length:Int)),(6,vL p0 l.length cp0),(3,vS k),(0,vL p0 l.length cp0)] w2:=by
   refine aCx fun aa ac i k w2 hi hv hM ag=>seg 3 1 [(9,vB (decide ((i:Int)<(l.length:Int))))] f0 ?_;cases h23:(decide ((i:Int)<(l.length:Int)))
   ·have ad:=df h23;exact rt1 2 (vB (decide ((l.length:Int)<=60))) rfl f0 (hZ _ _ ⟨by unfold aGN;rw [hv,List.drop_of_length_le (by omega)];rfl,hM.fr⟩)
   have ad:=dt h23;obtain ⟨y,hy,ah,ai,q24,ae⟩:=sp0.el (i:=i) (by omega);refine aBY 4 2 5 [(11,.agg #[vS y.1,vS y.2])] [] 72 (.agg #[vS y.1,vS y.2]) (fc (ix 46 cp0 q24 (gl hy)) (fc (la0 72 hM ae) f0)) hM fun aj w1 hM=>aAx 5 2 14 [(13,vS y.1)] (fc (ldm 9 0 0 hM rfl rfl) f0) hM (aA7 (hb _ (gm hy)).1 _) fun w1 hM=>seg 5 5 [(16,vB (!(aBg y.1)))] f0 ?_;cases h26:(aBg y.1)
   ·exact rt1 2 (vB false) rfl f0 (hZ _ _ ⟨by unfold aGN;rw [hv,gd hy,aMC];simp [h26];try omega,hM.fr⟩)
   refine seg 5 11 [(22,vB (!(blt k y.1)))] (fc (ldm 9 0 0 hM rfl rfl) (fc (sle 9 y.1 k) f0)) ?_;cases h27:(blt k y.1)
   ·exact rt1 2 (vB false) rfl f0 (hZ _ _ ⟨by unfold aGN;rw [hv,gd hy,aMC];simp [h26,h27];try omega,hM.fr⟩)
   refine seg 5 16 [(27,vB (y.2==[]))] (fc (ldm 9 0 1 hM rfl rfl) (fc (seq 9 y.2 []) f0)) ?_;cases h28:(y.2==[])
   rotate_left
   ·exact rt1 2 (vB false) rfl f0 (hZ _ _ ⟨by unfold aGN;rw [hv,gd hy,aMC];simp [h26,h27,h28];try omega,hM.fr⟩)
   refine seg 5 21 [(32,vB (decide (200<(y.2.length:Int))))] (fc (ldm 9 0 1 hM rfl rfl) (fc (aII 9 y.2) f0)) ?_;cases h29:(decide (200<(y.2.length:Int)))
   ·have af:=df h29;refine seg 3 0 [(3,vS y.1),(8,vI ((i:Int)+1))] (fc (ldm 9 0 0 hM rfl rfl) (fc (aAI (i:Int) 1 u3_) f0)) (aAh _ (ac _ (by omega) (i+1) y.1 _ (gl hy) (by rw [hv,gd hy,aMC];simp [h26,h27,h28,h29];omega) (hM.pick []) rfl))
   have af:=dt h29;exact rt1 2 (vB false) rfl f0 (hZ _ _ ⟨by unfold aGN;rw [hv,gd hy,aMC];simp [h26,h27,h28,h29];try omega,hM.fr⟩)
  exact aAh _ (ab _ 0 [] _ (Gg_ _) rfl hM rfl)
def aLy (S:List Bys):Value->Option Value
  | .string s=>if s.toList∈S then some (vB true) else none
  | _=>none
theorem aHU (S:List Bys) (x:Bys):((aLy S) (vS x)).getD (vB false)=vB (S.contains x):=by
  show (if (ofL x).toList∈S then some (vB true) else none).getD (vB false)=_;rw [aAC]
  by_cases h:x∈S<;>simp [h]
theorem aEa (S:List Bys) (x:Bys):upd (aLy S) (vS x) (vB true)=aLy (S++[x]):=by
  funext v
  by_cases h:v=vS x
  · subst h;rw [aGL];show _=if (ofL x).toList∈S++[x] then some (vB true) else none
    rw [aAC,if_pos (by simp)]
  · rw [aDV _ h]
    cases v with
    | string s =>
      show (if s.toList∈S then some (vB true) else none)=if s.toList∈S++[x] then some (vB true) else none
      have:s.toList≠x:=fun e=>h (by rw [←e,vS,ofL_of])
      by_cases h2:s.toList∈S<;>simp [h2,this]
    | _=>rfl
theorem aPE:aLy []=fun _=>none:=by
  funext v;cases v<;>simp [aLy]
theorem aUr (w:World):(zeroValue 4).run Tryz.prog w = .ok (vB false) w:=by kernel_rfl
def aDT (kind:Int) (last:Bys) (S:List Bys) (s:Bys):Bool:=((kind==2)&&(s==last))||((kind==3)&&S.contains s) || !(aBg s)
def aGE (o:Ob) (i:Nat):Bool:=match o.refs[i]? with
  | some s=>aDT o.kind ((o.refs.take i).getLast?.getD []) (o.refs.take i) s
  | none=>false
theorem aIN {w:World}{G:Nat->Prop}{bo bl bs bm n:Nat}{b:ObR}{last:Bys}{S:List Bys}{s:Bys}(hs:B63 s) (hM0:Mm G w w [bk bo (oY_ b) 48,bk bl #[vS last] 9,bk bs #[.map (some bm)] 145,mp Tryz.prog 9 bm n (aLy S)]):Calls Tryz.prog 95 #[vS s,vP bo 0,vP bl 0,vP bs 0] w fun e w'=>e = .returned (vB (aDT b.o.kind last S s)) /\ Mm G w w' [bk bo (oY_ b) 48,bk bl #[vS s] 9,bk bs #[.map (some bm)] 145,mp Tryz.prog 9 bm (n+1) (aLy (S++[s]))]:=by
  refine beg Tryz.func95 rfl rfl [(0,vS s),(1,vP bo 0),(2,vP bl 0),(3,vP bs 0)] rfl rfl fun Z hZ=>?_;have hM:=hM0;refine seg 1 4 [(10,vB (b.o.kind==2))] (fc (ldm 3 0 1 hM rfl rfl) f0) ?_;cases h30:(b.o.kind==2)
  ·refine seg 1 13 [(15,vB false),(19,vB (b.o.kind==3))] (fc (ldm 3 0 1 hM rfl rfl) f0) ?_;cases h31:(b.o.kind==3)
   ·refine mup 2 3 [(6,vB false),(25,.map (some bm)),(26,vS s),(27,vS s)] 145 3 (vS s) (vB true) (fc (ldm 145 2 0 hM rfl rfl) f0) hM rfl aEe u145_ (aEu hs) fun w1 hM=>?_;rw [aEa] at hM;refine stm 2 4 [] 9 1 0 (vS s) f0 hM rfl fun w1 hM=>aAx 3 3 31 [(29,vB false),(30,vS s)] f0 hM (aA7 hs _) fun w1 hM=>rt1 5 (vB (!(aBg s))) rfl f0 (hZ _ _ ⟨by unfold aDT;simp only [h30,h31]<;>rfl,hM⟩)
   refine mup 2 3 [(6,vB (S.contains s)),(25,.map (some bm)),(26,vS s),(27,vS s)] 145 3 (vS s) (vB true) (fc (ldm 145 2 0 hM rfl rfl) (fc (rz2 (lk 145 3 (vS s) (vB false) hM rfl aEe u145_ (aEu hs) (aUr _)) (aHU S s)) (fc (ldm 145 2 0 hM rfl rfl) f0))) hM rfl aEe u145_ (aEu hs) fun w1 hM=>?_;rw [aEa] at hM;refine stm 2 4 [] 9 1 0 (vS s) f0 hM rfl fun w1 hM=>seg 3 2 [(29,vB (S.contains s))] f0 ?_;cases h32:(S.contains s)
   ·refine aAx 3 3 31 [(30,vS s)] f0 hM (aA7 hs _) fun w1 hM=>rt1 5 (vB (!(aBg s))) rfl f0 (hZ _ _ ⟨by unfold aDT;simp only [h30,h31,h32]<;>rfl,hM⟩)
   exact rt1 5 (vB true) rfl f0 (hZ _ _ ⟨by unfold aDT;simp only [h30,h31,h32]<;>rfl,hM⟩)
  refine seg 1 9 [(15,vB (s==last))] (fc (ldm 9 1 0 hM rfl rfl) (fc (seq 9 s last) f0)) ?_;cases h33:(s==last)
  rotate_left
  ·refine mup 2 3 [(6,vB true),(25,.map (some bm)),(26,vS s),(27,vS s)] 145 3 (vS s) (vB true) (fc (ldm 145 2 0 hM rfl rfl) f0) hM rfl aEe u145_ (aEu hs) fun w1 hM=>?_;rw [aEa] at hM;refine stm 2 4 [] 9 1 0 (vS s) f0 hM rfl fun w1 hM=>rt1 5 (vB true) rfl f0 (hZ _ _ ⟨by unfold aDT;simp only [h30,h33]<;>rfl,hM⟩)
  refine seg 1 13 [(19,vB (b.o.kind==3))] (fc (ldm 3 0 1 hM rfl rfl) f0) ?_;cases h34:(b.o.kind==3)
  ·refine mup 2 3 [(6,vB false),(25,.map (some bm)),(26,vS s),(27,vS s)] 145 3 (vS s) (vB true) (fc (ldm 145 2 0 hM rfl rfl) f0) hM rfl aEe u145_ (aEu hs) fun w1 hM=>?_;rw [aEa] at hM;refine stm 2 4 [] 9 1 0 (vS s) f0 hM rfl fun w1 hM=>aAx 3 3 31 [(29,vB false),(30,vS s)] f0 hM (aA7 hs _) fun w1 hM=>rt1 5 (vB (!(aBg s))) rfl f0 (hZ _ _ ⟨by unfold aDT;simp only [h30,h33,h34]<;>rfl,hM⟩)
  refine mup 2 3 [(6,vB (S.contains s)),(25,.map (some bm)),(26,vS s),(27,vS s)] 145 3 (vS s) (vB true) (fc (ldm 145 2 0 hM rfl rfl) (fc (rz2 (lk 145 3 (vS s) (vB false) hM rfl aEe u145_ (aEu hs) (aUr _)) (aHU S s)) (fc (ldm 145 2 0 hM rfl rfl) f0))) hM rfl aEe u145_ (aEu hs) fun w1 hM=>?_;rw [aEa] at hM;refine stm 2 4 [] 9 1 0 (vS s) f0 hM rfl fun w1 hM=>seg 3 2 [(29,vB (S.contains s))] f0 ?_;cases h35:(S.contains s)
  ·refine aAx 3 3 31 [(30,vS s)] f0 hM (aA7 hs _) fun w1 hM=>rt1 5 (vB (!(aBg s))) rfl f0 (hZ _ _ ⟨by unfold aDT;simp only [h30,h33,h34,h35]<;>rfl,hM⟩)
  exact rt1 5 (vB true) rfl f0 (hZ _ _ ⟨by unfold aDT;simp only [h30,h33,h34,h35]<;>rfl,hM⟩)
def aF8 (o:Ob):Bool:=(List.range o.refs.length).all fun i => !aGE o i
def aAW (o:Ob):Bool:=(!(aDU o.kind==[]))&&aBg o.id&&aGN o.tags&&(!decide ((o.refs.length:Int)<aG4 o.kind))&&(!decide (2000<(o.refs.length:Int)))&&aF8 o &&
  (bif o.kind==1 then ((o.refs.length:Int)==0)&&onB o.x o.y else bif o.kind==5 then ((o.refs.length:Int)==3)&&((o.x==0)&&(o.y==0)) else ((o.x==0)&&(o.y==0)))
theorem aPy {k:Int}(h:(aDU k==[])=false):¬ k<0 /\ ¬ 6<=k:=by
  unfold aDU at h
  by_cases e:k<0∨6<=k
  · rw [if_pos e] at h;simp at h
  · exact ⟨fun z=>e (.inl z),fun z=>e (.inr z)⟩
theorem aNV {L:List Bys}{i:Nat}{x:Bys}(h:L[i]?=some x):((L.take (i+1)).getLast?.getD [])=x:=by rw [gt_ h];simp
theorem peq (T:TypeId) (a b c d:Int) {w:World}(hT:T=29:=by rfl):Ft.ok Tryz.prog w (.g2 (fun x y => .binOp .eql T x y T) (.agg #[vI a,vI b]) (.agg #[vI c,vI d]) (vB ((a==c)&&(b==d)))):=fun o ρ x y ho hx hy=>by
  subst hT;simp [execOp,ho,hx,hy,go_sem]
  by_cases h1:a=c<;>by_cases h2:b=d<;>simp [h1,h2]
theorem aS8 {w:World}{B:Nat}{G:Nat->Prop}{bo bl bs bm:Nat}{b:ObR}(hs:SrcB stL 1 w B b.pr b.cr b.o.refs) (hB:ObB b.o) (hG:∀ k,G k->B<=k) (hGm:∀ k,k=bo∨k=bl∨k=bs∨k=bm->G k)
    (hM:Mm G w w [bk bo (obL b).toArray 48,bk bl #[vS []] 9,bk bs #[.map (some bm)] 145,mp Tryz.prog 9 bm 0 (aLy [])]) :
    Calls Tryz.prog 96 #[vL b.pr b.o.refs.length b.cr,.func (.func 95) #[] #[vP bo 0,vP bl 0,vP bs 0]] w fun e w'=>e = .returned (vB (!(aF8 b.o))) /\ ∃ n last S,Mm G w w' [bk bo (obL b).toArray 48,bk bl #[vS last] 9,bk bs #[.map (some bm)] 145,mp Tryz.prog 9 bm n (aLy S)]:=by
  refine (aOD hs hG (enters_of Tryz.func95 (by kernel_rfl) rfl) (fun i w'=>Mm G w w' [bk bo (obL b).toArray 48,bk bl #[vS ((b.o.refs.take i).getLast?.getD [])] 9,bk bs #[.map (some bm)] 145,mp Tryz.prog 9 bm i (aLy (b.o.refs.take i))]) (aGE b.o) hM fun i x w1 hx hq hI f1=>?_).mono fun e w' h=>?_
  · refine (aIN (hB.refs x (gm hx)) (hI.re fun e he k hk=>hGm k ?_)).mono fun e w2 h=>⟨?_,?_,h.2.fr⟩
    · simp only [List.mem_cons,List.not_mem_nil,or_false] at he
      rcases he with rfl | rfl | rfl | rfl
      · exact .inl hk
      · exact .inr (.inl hk)
      · exact .inr (.inr (.inl hk))
      · exact .inr (.inr (.inr hk))
    · rw [h.1];unfold aGE;rw [hx]
    · have:=hI.tr h.2
      rw [aNV hx,gt_ hx];exact this
  · obtain ⟨⟨z,h1,h2⟩,h3⟩:=h
    subst h1
    have key:∀ i,i<b.o.refs.length->aGE b.o i=true->aF8 b.o=false:=fun i hi hw=>by
      unfold aF8;rw [←Bool.not_eq_true,List.all_eq_true];intro h;have:=h i (List.mem_range.2 hi);rw [hw] at this;cases this
    cases h2 with
    | none hq hI=>exact ⟨by
        rw [show aF8 b.o=true from List.all_eq_true.2 fun i hi=>by rw [hq i (List.mem_range.1 hi)];rfl];rfl,_,_,_,hI⟩
    | some i hi hw hq hI=>exact ⟨by rw [key i hi hw,decide_eq_true (by omega)];rfl,_,_,_,hI⟩
theorem aIS {w:World}{b:ObR}(hb:ObIn w b):Calls Tryz.prog 49 #[vA (obL b)] w fun e w'=>e = .returned (vB (aAW b.o)) /\ Fr nF_ w w':=by
  refine beg Tryz.func49 rfl rfl [(0,.agg (oY_ b))] rfl rfl fun Z hZ=>?_;have hM:=Mm.nil nF_ w;refine aAu 0 0 1 [] (cs:=(oY_ b)) (T:=48) (v:=fun b=>vP b 0) f0 hM fun ab w1 hM=>seg 1 0 [] f0 ?_;cases h37:((aDU b.o.kind)==[])
  rotate_left
  ·refine drc [(36,vB true)] hM (fun w5 hM=>(fc (ldm 3 0 1 hM rfl rfl) (fc (tcl (aC9 b.o.kind _)) (fc (rz (seq 9 (aDU b.o.kind) []) h37) f0)))) fun w5 hM=>rt1 2 (vB false) rfl f0 (hZ _ _ ⟨by unfold aAW;simp only [h37]<;>rfl,hM.fr⟩)
  cases h38:(aBg b.o.id)
  ·refine drc [(36,vB true)] hM (fun w5 hM=>(fc (ldm 3 0 1 hM rfl rfl) (fc (tcl (aC9 b.o.kind _)) (fc (rz (seq 9 (aDU b.o.kind) []) h37) (fc (ldm 9 0 0 hM rfl rfl) (fc (rzc (tcl (aA7 hb.bnd.id _)) h38) f0)))))) fun w5 hM=>rt1 2 (vB false) rfl f0 (hZ _ _ ⟨by unfold aAW;simp only [h37,h38]<;>rfl,hM.fr⟩)
  cases h39:(aGN b.o.tags)
  ·refine drc [(36,vB true)] hM (fun w5 hM=>(fc (ldm 3 0 1 hM rfl rfl) (fc (tcl (aC9 b.o.kind _)) (fc (rz (seq 9 (aDU b.o.kind) []) h37) (fc (ldm 9 0 0 hM rfl rfl) (fc (rzc (tcl (aA7 hb.bnd.id _)) h38) (fc (ldm 46 0 5 hM rfl rfl) (fc (rzc (tcl (aC7 (hb.tags.src.fr hM.fr) hb.bnd.tags)) h39) f0)))))))) fun w5 hM=>rt1 2 (vB false) rfl f0 (hZ _ _ ⟨by unfold aAW;simp only [h37,h38,h39]<;>rfl,hM.fr⟩)
  cases h40:(decide ((b.o.refs.length:Int)<(aG4 b.o.kind)))
  rotate_left
  ·refine drc [(36,vB true)] hM (fun w5 hM=>(fc (ldm 3 0 1 hM rfl rfl) (fc (tcl (aC9 b.o.kind _)) (fc (rz (seq 9 (aDU b.o.kind) []) h37) (fc (ldm 9 0 0 hM rfl rfl) (fc (rzc (tcl (aA7 hb.bnd.id _)) h38) (fc (ldm 46 0 5 hM rfl rfl) (fc (rzc (tcl (aC7 (hb.tags.src.fr hM.fr) hb.bnd.tags)) h39) (fc (ldm 45 0 4 hM rfl rfl) (fc (ldm 3 0 1 hM rfl rfl) (fc (tcl (aFI b.o.kind (aPy h37).1 (aPy h37).2 _)) (fc (tv 29 h40) f0)))))))))))) fun w5 hM=>rt1 2 (vB false) rfl f0 (hZ _ _ ⟨by unfold aAW;simp only [h37,h38,h39,h40]<;>rfl,hM.fr⟩)
  refine drc [(36,vB (decide (2000<(b.o.refs.length:Int))))] hM (fun w5 hM=>(fc (ldm 3 0 1 hM rfl rfl) (fc (tcl (aC9 b.o.kind _)) (fc (rz (seq 9 (aDU b.o.kind) []) h37) (fc (ldm 9 0 0 hM rfl rfl) (fc (rzc (tcl (aA7 hb.bnd.id _)) h38) (fc (ldm 46 0 5 hM rfl rfl) (fc (rzc (tcl (aC7 (hb.tags.src.fr hM.fr) hb.bnd.tags)) h39) (fc (ldm 45 0 4 hM rfl rfl) (fc (ldm 3 0 1 hM rfl rfl) (fc (tcl (aFI b.o.kind (aPy h37).1 (aPy h37).2 _)) (fc (tv 29 h40) (fc (ldm 45 0 4 hM rfl rfl) f0))))))))))))) fun w5 hM=>?_;cases h41:(decide (2000<(b.o.refs.length:Int)))
  rotate_left
  ·exact rt1 2 (vB false) rfl f0 (hZ _ _ ⟨by unfold aAW;simp only [h37,h38,h39,h40,h41]<;>rfl,hM.fr⟩)
  refine aNJ 3 0 37 [] 9 f0 hM fun aa w1 hM=>aBY 3 1 3 [] [] 145 (.map (some aa)) f0 hM fun ac w1 hM=>aBY 4 0 4 [] [] 9 (vS []) f0 hM fun ad w1 hM=>?_;have hM4:Mm nF_ w _ [bk ab (obL b).toArray 48,bk ad #[vS []] 9,bk ac #[.map (some aa)] 145,mp Tryz.prog 9 aa 0 (aLy [])]:=(hM.pick [0,3,2,1]).cast (by rw [aPE];rfl);refine cal 6 3 42 [(40,vL b.pr b.o.refs.length b.cr),(41,.func (.func 95) #[] #[vP ab 0,vP ad 0,vP ac 0])] (K:=fun u w8=>u=vB (!(aF8 b.o)) /\ ∃ n last S,Mm (BlM [bk ab (obL b).toArray 48,bk ad #[vS []] 9,bk ac #[.map (some aa)] 145,mp Tryz.prog 9 aa 0 (aLy [])]) _ w8 [bk ab (obL b).toArray 48,bk ad #[vS last] 9,bk ac #[.map (some aa)] 145,mp Tryz.prog 9 aa n (aLy S)]) (fc (ldm 45 0 4 hM rfl rfl) f0) ((aS8 (hb.refs.b hM.fr) hb.bnd (fun k ⟨e,he,hk⟩=>hM4.ge he hk) (fun k h=>by rcases h with rfl | rfl | rfl | rfl;exact ⟨_,.head _,rfl⟩;exact ⟨_,.tail _ (.head _),rfl⟩;exact ⟨_,.tail _ (.tail _ (.head _)),rfl⟩;exact ⟨_,.tail _ (.tail _ (.tail _ (.head _))),rfl⟩) (hM4.re fun e he k hk=>⟨e,he,hk⟩)).mono fun e w9 h=>⟨_,h.1,rfl,h.2⟩) fun u w1 ⟨hu,n1,l1,S1,hM5⟩=>?_;subst hu;have hM:=hM4.call (A:=[]) hM5 (fun _ _ h=>h);cases h45:(aF8 b.o)
  ·exact rt1 2 (vB false) rfl f0 (hZ _ _ ⟨by unfold aAW;simp only [h37,h38,h39,h40,h41,h45]<;>rfl,hM.fr⟩)
  refine seg 9 2 [(44,vI b.o.kind),(45,vB (b.o.kind==1))] (fc (ldm 3 0 1 hM rfl rfl) f0) ?_;cases h46:(b.o.kind==1)
  rotate_left
  ·refine seg 10 5 [(51,vB ((b.o.refs.length:Int)==0))] (fc (ldm 45 0 4 hM rfl rfl) f0) ?_;cases h49:((b.o.refs.length:Int)==0)
   ·exact rt1 2 (vB false) rfl f0 (hZ _ _ ⟨by unfold aAW;simp only [h37,h38,h39,h40,h41,h45,h46,h49]<;>rfl,hM.fr⟩)
   refine aAx 10 7 54 [(53,.agg #[vI b.o.x,vI b.o.y])] (fc (lam 29 0 2 2 hM rfl) f0) hM (aQs b.o.x b.o.y _) fun w1 hM=>rt1 2 (vB (onB b.o.x b.o.y)) rfl f0 (hZ _ _ ⟨by unfold aAW;simp only [h37,h38,h39,h40,h41,h45,h46,h49]<;>rfl,hM.fr⟩)
  refine seg 11 2 [(56,vB (b.o.kind==5))] f0 ?_;cases h47:(b.o.kind==5)
  ·exact rt1 2 (vB ((b.o.x==0)&&(b.o.y==0))) rfl (fc (lam 29 0 2 2 hM rfl) (fc (peq 29 b.o.x b.o.y 0 0) f0)) (hZ _ _ ⟨by unfold aAW;simp only [h37,h38,h39,h40,h41,h45,h46,h47]<;>rfl,hM.fr⟩)
  refine seg 12 5 [(62,vB ((b.o.refs.length:Int)==3))] (fc (ldm 45 0 4 hM rfl rfl) f0) ?_;cases h48:((b.o.refs.length:Int)==3)
  ·exact rt1 2 (vB false) rfl f0 (hZ _ _ ⟨by unfold aAW;simp only [h37,h38,h39,h40,h41,h45,h46,h47,h48]<;>rfl,hM.fr⟩)
  exact rt1 2 (vB ((b.o.x==0)&&(b.o.y==0))) rfl (fc (lam 29 0 2 2 hM rfl) (fc (peq 29 b.o.x b.o.y 0 0) f0)) (hZ _ _ ⟨by unfold aAW;simp only [h37,h38,h39,h40,h41,h45,h46,h47,h48]<;>rfl,hM.fr⟩)
def aNP:Bys->List Ob->Bool
  | _,[]=>true
  | k,o::l=>aAW o&&blt k o.id&&aNP o.id l
def aAl (l:List Ob):Bool:=aNP [] l&&decide ((l.length:Int)<=1000000)
abbrev A20 (Z:Ending->World->Prop):=AtO Tryz.prog (aAw Tryz.f55) (aAL (bodyPost Tryz.prog Tryz.f55 Z)) [] 29
theorem aC6 {w:World}{v:Value}{l:List ObR}(hm:aC0 w v l):Calls Tryz.prog 55 #[.agg #[v]] w fun e w'=>e = .returned (vB (aAl (aAa l))) /\ Fr nF_ w w':=by
  have hm0:=hm;obtain ⟨hs0,hob⟩:=hm0;obtain ⟨p0,cp0,hp0,sp0⟩:=hs0.op;subst hp0;have bp0:=sp0.bnd;refine beg Tryz.func55 rfl rfl [(0,.agg #[vL p0 l.length cp0])] rfl rfl fun Z hZ=>?_;have hM:=Mm.nil nF_ w;refine aAu 0 0 1 [] (cs:=#[vL p0 l.length cp0]) (T:=24) (v:=fun b=>vP b 0) f0 hM fun b1 w1 hM=>seg 3 0 [(3,vS []),(7,vL p0 l.length cp0),(8,vI (l.length:Int)),(9,vI 0)] (fc (ldm 22 0 0 hM rfl rfl) f0) ?_
  have lp2:∀ (m4:Nat) (i:Nat) (k:Bys) (w2:World),i<=l.length->aNP [] (aAa l)=aNP k ((aAa l).drop i)->Mm nF_ w w2 [bk b1 #[vL p0 l.length cp0] 24]->m4=l.length-i->A20 Z (some (3,0)) [(9,vI (i:Int)),(8,vI (l.length:Int)),(7,vL p0 l.length cp0),(3,vS k),(1,vP b1 0)] w2:=by
   refine aCx fun m4 ih3 i k w2 hi hv hM hm4=>seg 3 1 [(10,vB (decide ((i:Int)<(l.length:Int))))] f0 ?_;cases h5:(decide ((i:Int)<(l.length:Int)))
   ·have rh5:=df h5;exact rt1 2 (vB (decide ((l.length:Int)<=1000000))) rfl (fc (ldm 22 0 0 hM rfl rfl) f0) (hZ _ _ ⟨by unfold aAl;rw [hv,List.drop_of_length_le (by rw [aAQ];omega),aAQ];rfl,hM.fr⟩)
   have rh5:=dt h5;obtain ⟨y,hy,g6,o6,q6,r6⟩:=sp0.el (i:=i) (by omega);refine aBY 4 2 5 [(12,.agg (oY_ y))] [] 48 (.agg (oY_ y)) (fc (ix 22 cp0 q6 (gl hy)) (fc (la0 48 hM r6) f0)) hM fun b7 w1 hM=>aAx 5 1 14 [(13,.agg (oY_ y))] (fc (lam 48 1 0 6 hM rfl) f0) hM (aIS ((hob _ (gm hy)).fr hM.fr)) fun w1 hM=>seg 5 4 [(16,vB (!(aAW y.o)))] f0 ?_;cases h8:(aAW y.o)
   ·exact rt1 2 (vB false) rfl f0 (hZ _ _ ⟨by unfold aAl;rw [hv,gd (aAF hy),aNP];simp only [h8]<;>rfl,hM.fr⟩)
   refine seg 5 9 [(21,vB (!(blt k y.o.id)))] (fc (ldm 9 1 0 hM rfl rfl) (fc (sle 9 y.o.id k) f0)) ?_;cases h9:(blt k y.o.id)
   ·exact rt1 2 (vB false) rfl f0 (hZ _ _ ⟨by unfold aAl;rw [hv,gd (aAF hy),aNP];simp only [h8,h9]<;>rfl,hM.fr⟩)
   refine seg 3 0 [(3,vS y.o.id),(9,vI ((i:Int)+1))] (fc (ldm 9 1 0 hM rfl rfl) (fc (aAI (i:Int) 1 u3_) f0)) (aAh _ (ih3 _ (by omega) (i+1) y.o.id _ (gl hy) (by rw [hv,gd (aAF hy),aNP];simp only [h8,h9];rfl) (hM.pick [0]) rfl))
  exact aAh _ (lp2 _ 0 [] _ (Gg_ _) rfl hM rfl)
theorem aXu (v c:Value):(#[v]++#[c]:Array Value)=#[v,c]:=rfl
def aAv (l:List Ob) (id:Bys):Int:=match l.findIdx? (fun o=>o.id==id) with
  | some i=>(i:Int)
  | none => -1
def aVo (l:List ObR) (id:Bys) (i:Nat):Bool:=match l[i]? with
  | some y=>y.o.id==id
  | none=>false
theorem aTw {l:List ObR}{id:Bys}{I:Nat->World->Prop}{w:World}{z:Int}(h:Fst l (aVo l id) I w z):z=aAv (aAa l) id:=by
  unfold aAv
  have hat:∀ i (hi:i<l.length),aVo l id i=(((aAa l)[i]'(by rw [aAQ];exact hi)).id==id):=fun i hi=>by
    unfold aVo aAa;rw [Gb_ hi];simp
  cases h with
  | none hq _ =>
    rw [List.findIdx?_eq_none_iff.2 fun o ho=>?_];obtain ⟨i,hi,rfl⟩:=List.mem_iff_getElem.1 ho;have:=hq i (by rw [←aAQ];exact hi);rw [hat i (by rw [←aAQ];exact hi)] at this;exact this
  | some i hi hw hq _ =>
    rw [List.findIdx?_eq_some_iff_getElem.2 ⟨by rw [aAQ];exact hi,by rw [←hat i hi];exact hw,fun j hj=>by rw [←hat j (by omega),hq j hj];simp⟩]
theorem aJ9 {w:World}{bi:Nat}{id:Bys}(b:ObR) (hc:w.heap[bi]?=some (.cells #[vS id] 9 (0,0))):Calls Tryz.prog 39 #[vA (obL b),vP bi 0] w fun e w'=>e = .returned (vB (b.o.id==id)) /\ Fr nF_ w w':=by
  refine beg Tryz.func39 rfl rfl [(0,.agg (oY_ b)),(1,vP bi 0)] rfl rfl fun Z hZ=>?_;have hM:=Mm.nil nF_ w;refine aAu 0 0 2 [] (cs:=(oY_ b)) (T:=48) (v:=fun b=>vP b 0) f0 hM fun aa w1 hM=>rt1 3 (vB (b.o.id==id)) rfl (fc (ldm 9 0 0 hM rfl rfl) (fc (ld0 9 hM (bx hc 0 rfl)) (fc (seq 9 b.o.id id) f0))) (hZ _ _ ⟨rfl,hM.fr⟩)
theorem aD4 {w:World}{v:Value}{l:List ObR}(hm:aC0 w v l) (id:Bys):Calls Tryz.prog 18 #[.agg #[v],vS id] w fun e w'=>e = .returned (vI (aAv (aAa l) id)) /\ Fr nF_ w w':=by
  have hm0:=hm;obtain ⟨hs0,hob⟩:=hm0;obtain ⟨p0,cp0,hp0,sp0⟩:=hs0.op;subst hp0;refine beg Tryz.func18 rfl rfl [(0,.agg #[vL p0 l.length cp0]),(1,vS id)] rfl rfl fun Z hZ=>?_;have hM:=Mm.nil nF_ w;refine aAu 0 0 2 [] (cs:=#[vL p0 l.length cp0]) (T:=24) (v:=fun b=>vP b 0) f0 hM fun ab w1 hM=>aAu 0 1 3 [] (cs:=#[vS id]) (T:=9) (v:=fun b=>vP b 0) f0 hM fun aa w1 hM=>?_;have hc1:w1.heap[aa]?=some (.cells #[vS id] 9 (0,0)):=hM.get 1 rfl;refine cal 1 3 8 [(6,vL p0 l.length cp0),(7,.func (.func 39) #[] #[vP aa 0])] (K:=fun u w8=>u=vI (aAv (aAa l) id) /\ Fr nF_ _ w8) (fc (ldm 22 0 0 hM rfl rfl) f0) ((aLZ (sp0.b hM.fr) (fun _ h=>h.elim) (enters_of Tryz.func39 (by kernel_rfl) rfl) (fun _ _=>True) (aVo l id) trivial (fun i x w9 hx _ _ f9=>by rw [aXu];exact (aJ9 x (f9.obj hc1 (fun z=>z))).mono fun e w8 h=>⟨by rw [h.1];unfold aVo;rw [hx],trivial,h.2⟩)).mono fun e w9 h=>⟨_,h.1.choose_spec.1,congrArg vI (aTw h.1.choose_spec.2),h.2⟩) fun u w1 ⟨hu,f1⟩=>?_;subst hu;have hM:=hM.q f1;exact rt1 4 (vI (aAv (aAa l) id)) rfl f0 (hZ _ _ ⟨rfl,hM.fr⟩)
abbrev Pt:=Int×Int
def ptL (p:Pt):List Value:=[vI p.1,vI p.2]
def aA0 (p:Pt):Bool := !(decide (2097152<max p.1 p.2)) && !(decide (min p.1 p.2 < -2097152))
def aEX (a b:Pt):Int:=bif aA0 a&&aA0 b then (b.1-a.1)*(b.1-a.1)+(b.2-a.2)*(b.2-a.2) else 0
theorem aBa {p:Pt}(h:aA0 p=true) : -2097152<=p.1 /\ p.1<=2097152 /\ -2097152<=p.2 /\ p.2<=2097152:=by
  unfold aA0 at h;simp only [Ga_,Bool.not_eq_true',decide_eq_false_iff_not] at h;omega
theorem aEG {x:Int}(h1 : -4194304<=x) (h2:x<=4194304):0<=x*x /\ x*x<=17592186044416:=by
  rcases Int.le_total 0 x with h | h
  · have a:=Int.mul_le_mul h2 h2 h (by omega)
    have b:=Int.mul_nonneg h h;exact ⟨b,by omega⟩
  · have a:=Int.mul_le_mul (a := -x) (b := -x) (c:=4194304) (d:=4194304) (by omega) (by omega) (by omega) (by omega)
    have b:=Int.mul_nonneg (a := -x) (b := -x) (by omega) (by omega);rw [Int.neg_mul_neg] at a b;exact ⟨b,by omega⟩
abbrev aZz (Z:Ending->World->Prop):=AtO Tryz.prog (aAw Tryz.f153) (aAL (bodyPost Tryz.prog Tryz.f153 Z)) [] 26
theorem aCF {w:World}{p:Option Addr}{cap:Nat}{L:List Pt}(hs:SrcP ptL 2 w p cap L):Calls Tryz.prog 153 #[vL p L.length cap] w fun e w'=>e = .returned (vB (L.all aA0)) /\ Fr nF_ w w':=by
  have bb:=hs.bnd;refine beg Tryz.func153 rfl rfl [(0,vL p L.length cap)] rfl rfl fun Z hZ=>?_;have hM:=Mm.nil nF_ w;refine seg 2 0 [(5,vL p L.length cap),(6,vI (L.length:Int)),(7,vI 0)] f0 ?_
  have ab:∀ (aa:Nat) (i:Nat) (w2:World),i<=L.length->L.all aA0=(L.drop i).all aA0->Mm nF_ w w2 []->aa=L.length-i->aZz Z (some (2,0)) [(7,vI (i:Int)),(6,vI (L.length:Int)),(5,vL p L.length cap)] w2:=by
   refine aCx fun aa ac i w2 hi hv hM af=>seg 2 1 [(8,vB (decide ((i:Int)<(L.length:Int))))] f0 ?_;cases h16:(decide ((i:Int)<(L.length:Int)))
   ·have ad:=df h16;exact rt1 2 (vB true) rfl f0 (hZ _ _ ⟨by rw [hv,aHA (by omega)],hM.fr⟩)
   have ad:=dt h16;obtain ⟨y,hy,ag,ah,q17,ae⟩:=hs.el (i:=i) (by omega);refine aBY 3 2 4 [(10,.agg #[vI y.1,vI y.2])] [] 29 (.agg #[vI y.1,vI y.2]) (fc (ix 100 cap q17 (gl hy)) (fc (la0 29 hM ae) f0)) hM fun ai w1 hM=>seg 4 7 [(17,vB (decide (2097152<(max y.1 y.2))))] (fc (ldm 3 0 0 hM rfl rfl) (fc (ldm 3 0 1 hM rfl rfl) (fc (aU0 3 y.1 y.2) f0))) ?_;cases h19:(decide (2097152<(max y.1 y.2)))
   rotate_left
   ·exact rt1 2 (vB false) rfl f0 (hZ _ _ ⟨by rw [hv,aBo hy];unfold aA0;simp only [h19]<;>rfl,hM.fr⟩)
   refine seg 4 14 [(24,vB (decide ((min y.1 y.2)<(-2097152))))] (fc (ldm 3 0 0 hM rfl rfl) (fc (ldm 3 0 1 hM rfl rfl) (fc (aSt 3 y.1 y.2) f0))) ?_;cases h20:(decide ((min y.1 y.2)<(-2097152)))
   ·refine seg 2 0 [(7,vI ((i:Int)+1))] (fc (aAI (i:Int) 1 u3_) f0) (aAh _ (ac _ (by omega) (i+1) _ (gl hy) (by rw [hv,aBo hy];unfold aA0;simp only [h19,h20];rfl) (hM.pick []) rfl))
   exact rt1 2 (vB false) rfl f0 (hZ _ _ ⟨by rw [hv,aBo hy];unfold aA0;simp only [h19,h20]<;>rfl,hM.fr⟩)
  exact aAh _ (ab _ 0 _ (Gg_ _) rfl hM rfl)
theorem aVg (j:Nat) {w w0:World}{F0:Nat->Prop}{M:List Ent}{b:Nat}{u v:Value}(hM:Mm F0 w0 w M) (hj:M[j]?=some (bk b #[u,v] 240)):(Instr.loadAt 240 (vP b 0)).run Tryz.prog w = .ok (.agg #[u,v]) w:=aBT 240 j hM hj rfl
theorem aDX {a b:Pt}(ha:aA0 a=true) (hb:aA0 b=true) (w:World):Calls Tryz.prog 157 #[.agg #[vI a.1,vI a.2],.agg #[vI b.1,vI b.2]] w fun e w'=>e = .returned (.agg #[vI (b.1-a.1),vI (b.2-a.2)]) /\ Fr nF_ w w':=by
  refine beg Tryz.func157 rfl rfl [(0,.agg #[vI a.1,vI a.2]),(1,.agg #[vI b.1,vI b.2])] rfl rfl fun Z hZ=>?_;have hM:=Mm.nil nF_ w;have ⟨ha1,ha2,ha3,ha4⟩:=aBa ha;have ⟨hb1,hb2,hb3,hb4⟩:=aBa hb;refine aAu 0 0 2 [] (cs:=#[vI a.1,vI a.2]) (T:=29) (v:=fun b=>vP b 0) f0 hM fun aa w1 hM=>aAu 0 1 3 [] (cs:=#[vI b.1,vI b.2]) (T:=29) (v:=fun b=>vP b 0) f0 hM fun ab w1 hM=>aAu 0 2 4 [] (cs:=#[vI 0,vI 0]) (T:=240) (v:=fun b=>vP b 0) f0 hM fun ac w1 hM=>stm 1 11 [(15,.agg #[vI (b.1-a.1),vI (b.2-a.2)])] 240 2 0 (.agg #[vI (b.1-a.1),vI (b.2-a.2)]) (fc (ldm 3 1 0 hM rfl rfl) (fc (ldm 3 0 0 hM rfl rfl) (fc (aGb b.1 a.1 u3_) (fc (ldm 3 1 1 hM rfl rfl) (fc (ldm 3 0 1 hM rfl rfl) (fc (aGb b.2 a.2 u3_) f0)))))) hM rfl fun w1 hM=>rtc 4 240 rfl (aVg 2 hM rfl) f0 (hZ _ _ ⟨rfl,hM.fr⟩)
theorem aO0 {x y:Int}(hx1 : -4194304<=x) (hx2:x<=4194304) (hy1 : -4194304<=y) (hy2:y<=4194304) (w:World):Calls Tryz.prog 158 #[.agg #[vI x,vI y],.agg #[vI x,vI y]] w fun e w'=>e = .returned (vI (x*x+y*y)) /\ Fr nF_ w w':=by
  refine beg Tryz.func158 rfl rfl [(0,.agg #[vI x,vI y]),(1,.agg #[vI x,vI y])] rfl rfl fun Z hZ=>?_;have hM:=Mm.nil nF_ w;have h1:=aEG hx1 hx2;have h2:=aEG hy1 hy2;refine aAu 0 0 2 [] (cs:=#[vI x,vI y]) (T:=240) (v:=fun b=>vP b 0) f0 hM fun aa w1 hM=>aAu 0 1 3 [] (cs:=#[vI x,vI y]) (T:=240) (v:=fun b=>vP b 0) f0 hM fun ab w1 hM=>rt1 4 (vI ((x*x)+(y*y))) rfl (fc (ldm 3 0 0 hM rfl rfl) (fc (ldm 3 1 0 hM rfl rfl) (fc (aHN x x u3_) (fc (ldm 3 0 1 hM rfl rfl) (fc (ldm 3 1 1 hM rfl rfl) (fc (aHN y y u3_) (fc (aAI (x*x) (y*y) u3_) f0))))))) (hZ _ _ ⟨rfl,hM.fr⟩)
theorem aSy {α:Type}{f:α->List Value}{c:Nat}{w:World}{b:Nat}{x y:α}{T:TypeId}(hf:∀ x,(f x).length=c) (hc:0<c) (hb:w.heap[b]?=some (.cells ((f x)++(f y)).toArray T (0,0))):SrcP f c w (some ⟨b,0,none⟩) 2 [x,y] :=
  ⟨Gj_ _,by omega,.inr ⟨b,0,rfl,aAe hb,fun i z hz j u hu=>by
    rw [aAk hb];have hj:=(List.getElem?_eq_some_iff.1 hu).1;rw [hf] at hj
    match i,hz with
    | 0,hz =>
      simp at hz;subst hz;rw [Nat.zero_mul,Nat.zero_add,←Array.getElem?_toList];rw [List.getElem?_append_left (by rw [hf];exact hj)];exact hu
    | 1,hz =>
      simp at hz;subst hz;rw [Nat.one_mul,Nat.zero_add,←Array.getElem?_toList];rw [List.getElem?_append_right (by rw [hf];omega),hf,Nat.add_sub_cancel_left];exact hu
    | i+2,hz=>simp at hz⟩,fun h=>by cases h⟩
theorem aG7 (a b:Pt) (w:World):Calls Tryz.prog 159 #[.agg #[vI a.1,vI a.2],.agg #[vI b.1,vI b.2]] w fun e w'=>e = .returned (vI (aEX a b)) /\ Fr nF_ w w':=by
  refine beg Tryz.func159 rfl rfl [(0,.agg #[vI a.1,vI a.2]),(1,.agg #[vI b.1,vI b.2])] rfl rfl fun Z hZ=>?_;have hM:=Mm.nil nF_ w;refine aAu 0 0 2 [] (cs:=#[vI a.1,vI a.2]) (T:=29) (v:=fun b=>vP b 0) f0 hM fun aa w1 hM=>aAu 0 1 3 [] (cs:=#[vI b.1,vI b.2]) (T:=29) (v:=fun b=>vP b 0) f0 hM fun ab w1 hM=>aAu 1 2 8 [(6,.agg #[vI a.1,vI a.2]),(7,.agg #[vI b.1,vI b.2])] (cs:=#[vI a.1,vI a.2,vI b.1,vI b.2]) (T:=29) (v:=fun b=>vL (some ⟨b,0,none⟩) 2 2) (fc (lam 29 0 0 2 hM rfl) (fc (lam 29 1 0 2 hM rfl) f0)) hM fun ac w1 hM=>aAx 1 3 9 [] f0 hM ((aCF (aSy (f:=ptL) (x:=a) (y:=b) (fun _=>rfl) (by omega) (hM.get 2 rfl)))) fun w1 hM=>seg 1 5 [(10,vB (!([a,b].all aA0)))] f0 ?_;cases h29:([a,b].all aA0)
  ·exact rt1 4 (vI 0) rfl f0 (hZ _ _ ⟨by unfold aEX;rw [show (aA0 a&&aA0 b)=false by have:=h29;simpa using this];rfl,hM.fr⟩)
  have ha:aA0 a=true:=by have:=List.all_eq_true.1 h29 a (.head _);exact this
  have hb:aA0 b=true:=by have:=List.all_eq_true.1 h29 b (.tail _ (.head _));exact this
  have ⟨ha1,ha2,ha3,ha4⟩:=aBa ha;have ⟨hb1,hb2,hb3,hb4⟩:=aBa hb;refine aAx 3 2 13 [(11,.agg #[vI a.1,vI a.2]),(12,.agg #[vI b.1,vI b.2])] (fc (lam 29 0 0 2 hM rfl) (fc (lam 29 1 0 2 hM rfl) f0)) hM (aDX ha hb _) fun w1 hM=>aBY 3 3 5 [] [] 240 (.agg #[vI (b.1-a.1),vI (b.2-a.2)]) f0 hM fun ad w1 hM=>aAx 4 2 16 [(14,.agg #[vI (b.1-a.1),vI (b.2-a.2)]),(15,.agg #[vI (b.1-a.1),vI (b.2-a.2)])] (fc (lam 240 3 0 2 hM rfl) (fc (lam 240 3 0 2 hM rfl) f0)) hM (aO0 (x:=b.1-a.1) (y:=b.2-a.2) (by omega) (by omega) (by omega) (by omega) _) fun w1 hM=>rt1 4 (vI ((b.1-a.1)*(b.1-a.1)+(b.2-a.2)*(b.2-a.2))) rfl f0 (hZ _ _ ⟨by unfold aEX;rw [ha,hb];rfl,hM.fr⟩)
end Go.Proofs.YtngjlnhojicjeaaGreatDoor
namespace Go.Pl
open Go.RowKit
section
variable {P:Program}{B:Code}{R:Pst}{ds:List Deferred}{n:Nat}{p:Option (Nat×Nat)}{L N:Frm}{w:World}{r r' i':Nat}{F:List Ft}
end
section
variable {P:Program}{w w0:World}{rd:Option Nat}{B:Code}{r n:Nat}{L:Frm}{ef:List Nat}{V:Lts->List (Option Value)}{F:Lts->List Ft}{ds:List Deferred}{F0:Nat->Prop}{Mf:Lts->List Bool->List Ent}
theorem aAH (p i d:Nat) {f:FuncId}(args:Lts->Array Value) (v:Value)
  (hc:∀ γ fr wm,Mm F0 w0 wm (Mf γ (flg B r ef i fr))->Calls P f (args γ) wm fun x w'=>x = .returned v /\ Fr nF_ wm w')
  (hm:∀ γ fr,Mf γ (flg B r ef i fr)=Mf (aBN γ p v) ((flg B r ef i fr).set p true):=by intro γ fr;kernel_rfl)
  (hV:∀ γ,((V (aBN γ p v))[p]?).getD none=some v:=by intro γ;rfl)
  (hs:∀ γ wm,enL P wm (aA5 B r) i (frX P w n B r L ef V F i γ)=some (f,args γ,some d,wm):=by intro γ wm;kernel_rfl):Arm rd P w n B r L ef V F ds F0 w0 Mf p i:=by
 intro γ fr a wm Q o ho En hw hM;obtain ⟨h1,h2⟩:=aIz ho En (hs γ wm);refine aC5 (R:=fun u w'=>u=v /\ Fr nF_ wm w') h1 ((hc γ fr wm hM).mono fun x w' ⟨g1,g2⟩=>⟨v,g1,rfl,g2⟩) fun u w' ⟨hu,g1⟩=>?_;subst hu;have hM':=hM.q g1;rw [hm] at hM';exact ⟨u,γ.e p,by rw [aAy,hV,h2];rfl,by rw [aAy];exact hM'⟩
end
section
variable {P:Program}{w w0:World}{rd:Option Nat}{B:Code}{r n:Nat}{L:Frm}{ef:List Nat}{V:Lts->List (Option Value)}{F:Lts->List Ft}{ds:List Deferred}{F0:Nat->Prop}{Mf:Lts->List Bool->List Ent}
end
section
variable {P:Program}{w w0:World}{rd:Option Nat}{B:Code}{r n:Nat}{L:Frm}{ef:List Nat}{V:Lts->List (Option Value)}{F:Lts->List Ft}{ds:List Deferred}{F0:Nat->Prop}{Mf:Lts->List Bool->List Ent}
theorem aOU (p i d:Nat) {f:FuncId}(args:Lts->Array Value) (n0 c0:Nat)
  (hc:∀ γ fr wm,Mm F0 w0 wm (Mf γ (flg B r ef i fr))->Calls P f (args γ) wm fun x w'=>∃ q,x = .returned (vL q n0 c0) /\ Fr nF_ wm w')
  (hm:∀ γ fr q,Mf γ (flg B r ef i fr)=Mf (aBN γ p (vL q n0 c0)) ((flg B r ef i fr).set p true):=by intro γ fr q;kernel_rfl)
  (hV:∀ γ q,((V (aBN γ p (vL q n0 c0)))[p]?).getD none=some (vL q n0 c0):=by intro γ q;rfl)
  (hs:∀ γ wm,enL P wm (aA5 B r) i (frX P w n B r L ef V F i γ)=some (f,args γ,some d,wm):=by intro γ wm;kernel_rfl):Arm rd P w n B r L ef V F ds F0 w0 Mf p i:=by
 intro γ fr a wm Q o ho En hw hM;obtain ⟨h1,h2⟩:=aIz ho En (hs γ wm);refine aC5 (R:=fun u w'=>∃ q,u=vL q n0 c0 /\ Fr nF_ wm w') h1 ((hc γ fr wm hM).mono fun x w' ⟨q,g1,g2⟩=>⟨_,g1,q,rfl,g2⟩) fun u w' ⟨q,hu,g1⟩=>?_;subst hu;have hM':=hM.q g1;rw [hm γ fr q] at hM';exact ⟨vL q n0 c0,γ.e p,by rw [aAy,hV,h2];rfl,by rw [aAy];exact hM'⟩
end
end Go.Pl
namespace Go.Proofs.YtngjlnhojicjeaaGreatDoor
open Go.RowKit Go.Pl
theorem aQS (a b c d:Int) (w:World):(Go.binOp .eql 29 (.agg #[vI a,vI b]) (.agg #[vI c,vI d])).run Tryz.prog w = .ok (.bool ((a==c)&&(b==d))) w:=by
 have u3:=u3_;have hS:Tryz.prog.underlying 29=some (.struct (Tryz.prog.fieldsOf 29)):=by kernel_rfl
 have hp:Tryz.prog.stoodInHeld 29=false:=by kernel_rfl
 rw [run_eql_struct,show (10000:Nat)=9999+1 from rfl,run_equalIn_agg w 9999 29 _ _ hS hp];simp only [Program.fieldsOf,u29_]
 go_simp
 by_cases h1:a=c<;>by_cases h2:b=d<;>simp [h1,h2]
theorem aRS (a b c d:Int) {w:World}:Ft.ok Tryz.prog w (.g2 (fun x y => .binOp .eql 29 x y 29) (.agg #[vI a,vI b]) (.agg #[vI c,vI d]) (vB ((a==c)&&(b==d)))):=fun o ρ x y ho hx hy=>by
 have hm:Tryz.prog.eqGuardType Tryz.prog.depth 29=false:=by kernel_rfl
 simp only [execOp,ho,hx,hy,Sem.run_bind,run_eqGuard_agg w _ 29 _ _ _ _ hm,Result.andThen_ok,aQS,Sem.run_pure]
abbrev v64 (a:Nat):Value := .int .u64 (a:Int)
theorem aDH {a:Nat}(h:a<18446744073709551616):IntKind.u64.wrap (a:Int)=a:=by
  show (a:Int)%_=a;exact Int.emod_eq_of_lt (by omega) (by show (a:Int)<18446744073709551616;omega)
theorem aJT {a b:Nat}(ha:a<18446744073709551616) (hb:b<18446744073709551616):bits BinOp.or IntKind.u64 (a:Int) (b:Int)=((a ||| b:Nat):Int):=by
  have h:a ||| b<2 ^ 64:=Nat.or_lt_two_pow ha hb;have h2:(BitVec.ofNat 64 a ||| BitVec.ofNat 64 b:BitVec 64).toNat=a ||| b:=by rw [BitVec.toNat_or,BitVec.toNat_ofNat,BitVec.toNat_ofNat,Nat.mod_eq_of_lt ha,Nat.mod_eq_of_lt hb]
  have h3:((BitVec.ofNat 64 a ||| BitVec.ofNat 64 b:BitVec 64).toNat:Int)%18446744073709551616=((a ||| b:Nat):Int):=by rw [h2];omega
  simp [bits,IntKind.wrap,IntKind.bits,IntKind.signed];exact h3
theorem aLg {a b:Nat}(ha:a<18446744073709551616) (hb:b<18446744073709551616):bits BinOp.and IntKind.u64 (a:Int) (b:Int)=((a &&& b:Nat):Int):=by
  have h:a &&& b<2 ^ 64:=Nat.and_lt_two_pow a hb;have h2:(BitVec.ofNat 64 a &&& BitVec.ofNat 64 b:BitVec 64).toNat=a &&& b:=by rw [BitVec.toNat_and,BitVec.toNat_ofNat,BitVec.toNat_ofNat,Nat.mod_eq_of_lt ha,Nat.mod_eq_of_lt hb]
  have h3:((BitVec.ofNat 64 a &&& BitVec.ofNat 64 b:BitVec 64).toNat:Int)%18446744073709551616=((a &&& b:Nat):Int):=by rw [h2];omega
  simp [bits,IntKind.wrap,IntKind.bits,IntKind.signed];exact h3
theorem or4 (a x:Nat) (h:x<4):4*a ||| x=4*a+x:=by
  have:=Nat.two_pow_add_eq_or_of_lt (i:=2) h a;rw [show 2 ^ 2*a=4*a by omega] at this;exact this.symm
theorem or2 (a:Nat):2*a ||| 1=2*a+1:=by
  have:=Nat.two_pow_add_eq_or_of_lt (i:=1) (show 1<2 ^ 1 by omega) a;rw [show 2 ^ 1*a=2*a by omega] at this;exact this.symm
section
variable {w:World}
theorem aWq (a:Nat) (h:a<4611686018427387904):Ft.ok Tryz.prog w (.g2 (fun x y => .binOp .shl 164 x y 139) (v64 a) (.int .u64 2) (v64 (4*a))):=fun o ρ x y ho hx hy=>by
  simp [execOp,ho,hx,hy,go_sem];have:=aDH (a:=a*4) (by omega);rw [show ((a:Int)*4)=((a*4:Nat):Int) by omega,this];omega
theorem aUw (a:Nat) (h:a<9223372036854775808):Ft.ok Tryz.prog w (.g2 (fun x y => .binOp .shl 164 x y 139) (v64 a) (.int .u64 1) (v64 (2*a))):=fun o ρ x y ho hx hy=>by
  simp [execOp,ho,hx,hy,go_sem];have:=aDH (a:=a*2) (by omega);rw [show ((a:Int)*2)=((a*2:Nat):Int) by omega,this];omega
theorem aYm (a x:Nat) (h:a<4611686018427387904) (hx4:x<4):Ft.ok Tryz.prog w (.g2 (fun x y => .binOp .or 164 x y 164) (v64 (4*a)) (v64 x) (v64 (4*a+x))):=fun o ρ y z ho hx hy=>by
  have:=aJT (a:=4*a) (b:=x) (by omega) (by omega);rw [or4 a x hx4] at this;simp only [execOp,ho,hx,hy];simp [go_sem];simpa using this
theorem aX9 (a:Nat) (h:a<4611686018427387904):Ft.ok Tryz.prog w (.g2 (fun x y => .binOp .or 164 x y 164) (v64 (2*a)) (.int .u64 1) (v64 (2*a+1))):=fun o ρ y z ho hx hy=>by
  have:=aJT (a:=2*a) (b:=1) (by omega) (by omega);rw [or2] at this;simp only [execOp,ho,hx,hy];simp [go_sem];simpa using this
theorem aWv (a:Nat) (h:a<9223372036854775808):Ft.ok Tryz.prog w (.g2 (fun x y => .binOp .and 164 x y 164) (v64 a) (.int .u64 3) (v64 (a%4))):=fun o ρ y z ho hx hy=>by
  have:=aLg (a:=a) (b:=3) (by omega) (by omega);rw [show a &&& 3=a%4 from Nat.and_two_pow_sub_one_eq_mod a 2] at this;simp only [execOp,ho,hx,hy];simp [go_sem];simpa using this
theorem aYj (a k:Nat) (h:k<64) {z:Int}(hz:z=(k:Int)):Ft.ok Tryz.prog w (.g2 (fun x y => .binOp .shr 164 x y 3) (v64 a) (vI z) (v64 (a / 2 ^ k))):=fun o ρ x y ho hx hy=>by
  subst hz;simp [execOp,ho,hx,hy,go_sem]
theorem aYi (a b:Nat) (h:b<=a) (ha:a<18446744073709551616):Ft.ok Tryz.prog w (.g2 (fun x y => .binOp .sub 164 x y 164) (v64 a) (v64 b) (v64 (a-b))):=fun o ρ x y ho hx hy=>by
  have:=aDH (a:=a-b) (by omega);rw [show ((a-b:Nat):Int)=(a:Int)-b by omega] at this;simp [execOp,ho,hx,hy,go_sem,u164_,this];omega
theorem aX7 (a:Nat) (h:a<9223372036854775808):Ft.ok Tryz.prog w (.g1 (.convert 3 164) (vI (a:Int)) (v64 a)):=fun o ρ x ho hx=>by
  simp [execOp,ho,hx,go_sem,aDH (a:=a) (by omega)]
theorem aWr (a:Nat) (h:a<9223372036854775808):Ft.ok Tryz.prog w (.g1 (.convert 164 3) (v64 a) (vI (a:Int))):=fun o ρ x ho hx=>by
  simp [execOp,ho,hx,go_sem,IntWalk.i64_in (a:Int) ⟨by omega,by omega⟩]
end
def aCy:Nat->Nat
  | 0=>0
  | n+1=>if (aCy n+1)*(aCy n+1)<=n+1 then aCy n+1 else aCy n
theorem aGZ:∀ n,aCy n*aCy n<=n /\ n<(aCy n+1)*(aCy n+1)
  | 0=>by simp [aCy]
  | n+1=>by
    obtain ⟨h1,h2⟩:=aGZ n;unfold aCy
    split
    · rename_i h
      refine ⟨h,?_⟩;have e:(aCy n+1+1)*(aCy n+1+1)=(aCy n+1)*(aCy n+1)+2*aCy n+3:=by grind
      omega
    · rename_i h;omega
theorem aUC {a b:Nat}(h:a<b):(a+1)*(a+1)<=b*b:=Nat.mul_le_mul h h
theorem aNn {n r:Nat}(h1:r*r<=n) (h2:n<(r+1)*(r+1)):aCy n=r:=by
  obtain ⟨g1,g2⟩:=aGZ n;rcases Nat.lt_trichotomy (aCy n) r with h | h | h
  · exact absurd (Nat.lt_of_lt_of_le g2 (Gn_ (aUC h) h1)) (Nat.lt_irrefl _)
  · exact h
  · exact absurd (Nat.lt_of_lt_of_le h2 (Gn_ (aUC h) g1)) (Nat.lt_irrefl _)
def aAE (n:Int):Int:=bif decide (n<0) then 0 else (aCy n.toNat:Int)
structure RtAt (n i root rest:Nat):Prop where
  sq:root*root+rest=n / 4 ^ (32-i)
  le:rest<=2*root
  lt:root<2 ^ i
theorem aWL {i:Nat}(hi:i<32):(2:Nat) ^ (62-2*i)=4 ^ (31-i):=by
  rw [show (4:Nat)=2 ^ 2 by rfl,←Nat.pow_mul];congr 1;omega
theorem dig {n i:Nat}(hi:i<32):n / 4 ^ (32-(i+1))=4*(n / 4 ^ (32-i))+n / 2 ^ (62-2*i)%4:=by
  rw [aWL hi,show 32-(i+1)=31-i by omega,show 32-i=(31-i)+1 by omega,Nat.pow_succ,←Nat.div_div_eq_div_mul];omega
theorem aWG {i:Nat}(hi:i<=32) {root:Nat}(h:root<2 ^ i):root<4294967296:=Nat.lt_of_lt_of_le h (Gn_ (Nat.pow_le_pow_right (by omega) hi) (by decide))
theorem RtAt.up {n i root rest:Nat}(h:RtAt n i root rest) (hi:i<32) (hc:2*(2*root)+1<=4*rest+n / 2 ^ (62-2*i)%4):RtAt n (i+1) (2*root+1) (4*rest+n / 2 ^ (62-2*i)%4-(2*(2*root)+1)):=by
  obtain ⟨h1,h2,h3⟩:=h;refine ⟨?_,by omega,by rw [Nat.pow_succ];omega⟩;rw [dig hi,←h1];have e:(2*root+1)*(2*root+1)=4*(root*root)+4*root+1:=by grind
  omega
theorem RtAt.st {n i root rest:Nat}(h:RtAt n i root rest) (hi:i<32) (hc:¬ 2*(2*root)+1<=4*rest+n / 2 ^ (62-2*i)%4):RtAt n (i+1) (2*root) (4*rest+n / 2 ^ (62-2*i)%4):=by
  obtain ⟨h1,h2,h3⟩:=h;refine ⟨?_,by omega,by rw [Nat.pow_succ];omega⟩;rw [dig hi,←h1];have e:(2*root)*(2*root)=4*(root*root):=by grind
  omega
theorem RtAt.ok {n root rest:Nat}(h:RtAt n 32 root rest):aCy n=root:=by
  obtain ⟨h1,h2,h3⟩:=h;rw [Nat.sub_self,Nat.pow_zero,Nat.div_one] at h1;have e:(root+1)*(root+1)=root*root+2*root+1:=by grind
  exact aNn (by omega) (by omega)
theorem RtAt.zero {n:Nat}(h:n<9223372036854775808):RtAt n 0 0 0:=⟨by rw [Nat.div_eq_of_lt (Nat.lt_of_lt_of_le h (by decide))],by omega,by simp⟩
abbrev aZ0 (Z:Ending->World->Prop):=AtO Tryz.prog (aAw Tryz.f60) (aAL (bodyPost Tryz.prog Tryz.f60 Z)) [] 38
theorem aGx (m:Int) (hm:m<=9223372036854775807) (w:World):Calls Tryz.prog 60 #[vI m] w fun e w'=>e = .returned (vI (aAE m)) /\ Fr nF_ w w':=by
  refine beg Tryz.func60 rfl rfl [(0,vI m)] rfl rfl fun Z hZ=>?_;have hM:=Mm.nil nF_ w;refine seg 2 2 [(3,.int .u64 0),(4,.int .u64 0),(8,vB (decide (m<0)))] f0 ?_;cases h1:(decide (m<0))
  rotate_left
  ·have rh1:=dt h1;exact rt1 2 (vI 0) rfl f0 (hZ _ _ ⟨by unfold aAE;rw [h1];rfl,hM.fr⟩)
  have rh1:=df h1;obtain ⟨n,rfl⟩:∃ n:Nat,m=(n:Int):=⟨m.toNat,by omega⟩;have hn:n<9223372036854775808:=by omega
  refine seg 5 0 [(9,vI 0)] f0 ?_
  have lp2:∀ (m4:Nat) (i:Nat) (root:Nat) (rest:Nat) (w2:World),i<=32->RtAt n i root rest->Mm nF_ w w2 []->m4=32-i->aZ0 Z (some (5,0)) [(9,vI (i:Int)),(4,.int .u64 ((rest:Nat):Int)),(3,.int .u64 ((root:Nat):Int)),(0,vI (n:Int))] w2:=by
   refine aCx fun m4 ih3 i root rest w2 hi hr hM hm4=>?_;have hrl:=aWG hi hr.lt;have hrs:=hr.le;have hd4:n / 2 ^ (62-2*i)%4<4:=Nat.mod_lt _ (by omega);refine seg 5 1 [(10,vB (decide ((i:Int)<32)))] f0 ?_;cases h5:(decide ((i:Int)<32))
   ·have rh5:=df h5;exact rt1 2 (vI ((root:Nat):Int)) rfl (fc (aWr root (by omega)) f0) (hZ _ _ ⟨by unfold aAE;rw [h1];rw [show i=32 by omega] at hr;rw [←hr.ok];rfl,hM.fr⟩)
   have rh5:=dt h5;refine seg 10 3 [(4,.int .u64 ((4*rest+n / 2 ^ (62-2*i)%4:Nat):Int)),(3,.int .u64 ((2*root:Nat):Int)),(6,.int .u64 ((2*(2*root)+1:Nat):Int)),(29,vB (decide (((2*(2*root)+1:Nat):Int)<=((4*rest+n / 2 ^ (62-2*i)%4:Nat):Int))))] (fc (aWq rest (by omega)) (fc (aX7 n hn) (fc (aHN 2 (i:Int) u3_) (fc (aGb 62 (2*(i:Int)) u3_) (fc (aYj n (62-2*i) (z:=(62-(2*(i:Int)))) (by omega) (by omega)) (fc (aWv (n / 2 ^ (62-2*i)) (Nat.lt_of_le_of_lt (Nat.div_le_self _ _) hn)) (fc (aYm rest (n / 2 ^ (62-2*i)%4) (by omega) (Nat.mod_lt _ (by omega))) (fc (aUw root (by omega)) (fc (aUw (2*root) (by omega)) (fc (aX9 (2*root) (by omega)) f0)))))))))) ?_;cases h6:(decide (((2*(2*root)+1:Nat):Int)<=((4*rest+n / 2 ^ (62-2*i)%4:Nat):Int)))
   ·have rh6:=df h6;refine seg 5 0 [(9,vI ((i:Int)+1))] (fc (aAI (i:Int) 1 u3_) f0) (aAh _ (ih3 _ (by omega) (i+1) _ _ _ (by omega) (hr.st (by omega) (by omega)) hM rfl))
   have rh6:=dt h6;refine seg 5 0 [(4,.int .u64 ((4*rest+n / 2 ^ (62-2*i)%4-(2*(2*root)+1):Nat):Int)),(3,.int .u64 ((2*root+1:Nat):Int)),(9,vI ((i:Int)+1))] (fc (aYi (4*rest+n / 2 ^ (62-2*i)%4) (2*(2*root)+1) (by omega) (by omega)) (fc (aX9 root (by omega)) (fc (aAI (i:Int) 1 u3_) f0))) (aAh _ (ih3 _ (by omega) (i+1) _ _ _ (by omega) (hr.up (by omega) (by omega)) hM rfl))
  exact aAh _ (lp2 _ 0 0 0 _ (Gg_ _) (RtAt.zero hn) hM rfl)
def aSM (l:List Ob) (id:Bys):Option Pt:=l.foldl (fun r o=>bif (o.kind==1)&&(o.id==id) then some (o.x,o.y) else r) none
def aVn (l:List Ob) (id:Bys):Bool:=(aSM l id).isSome
def aYh (N:Bys->Bool) (l:List ObR) (id:Bys):Option ObR:=l.foldl (fun r b=>bif ((b.o.kind==2)&&b.o.refs.all N)&&(b.o.id==id) then some b else r) none
abbrev rfV (b:ObR):Value:=vL b.pr b.o.refs.length b.cr
end Go.Proofs.YtngjlnhojicjeaaGreatDoor
namespace Go.Pl
open Go.RowKit
section
variable {P:Program}{B:Code}{n:Nat}{p:Option (Nat×Nat)}{L:Frm}{w w0:World}{F:List Ft}{F0:Nat->Prop}{M:List Ent}{fn:Func}{Φ:Ending->World->Prop}
end
section
variable {P:Program}{B:Code}{R:Pst}{ds:List Deferred}{n:Nat}{p:Option (Nat×Nat)}{L:Frm}{w w0:World}{F:List Ft}{F0:Nat->Prop}{M A Ms:List Ent}
theorem opp (r' i' d:Nat) (N:Frm) {v:Value}(hF:aBp P w F) (k:AtO P B R ds n (some (r',i'+1)) ((d,v)::(N++L)) w) (h:(lhs (go P w n B p L r' i' F) N L,aMu P w n L (go P w n B p L r' i' F))=(rhs (go P w n B p L r' i' F) N B r' i',some (d,.ok (.value v,w))):=by kernel_rfl):AtO P B R ds n p L w:=opx r' i' d N hF k h
end
section
variable {P:Program}{B:Code}{n:Nat}{p:Option (Nat×Nat)}{L:Frm}{w w0:World}{F:List Ft}{F0:Nat->Prop}{M:List Ent}{fn:Func}{Φ:Ending->World->Prop}{t2 t3 t4 T2 T3 T4 b2 b3 b4:Nat}{v2 v3 v4:Value}
end
end Go.Pl
namespace Go.Proofs.YtngjlnhojicjeaaGreatDoor
open Go.RowKit Go.Pl
abbrev Arc:=Bys×Bys×Bys×Int
def aSg (l:List Ob) (a b:Bys):Int:=max 1 (aAE (aEX ((aSM l a).getD (0,0)) ((aSM l b).getD (0,0))))
def aXF (l:List Ob) (w:Bys):List Bys->List Arc
 | a::b::t=>(a,b,w,aSg l a b)::(b,a,w,aSg l a b)::aXF l w (b::t)
 | _=>[]
def aXo (os:List ObR) (b:ObR):List Arc:=bif b.o.kind==2 then (match aYh (aVn (aAa os)) os b.o.id with | some c=>aXF (aAa os) b.o.id c.o.refs | none=>[]) else []
def aXn (os:List ObR):List Arc:=os.flatMap (aXo os)
def aY3 (l:List Arc):List Arc:=l.foldl (fun r a=>bif r.contains a then r else r++[a]) []
theorem aM7 {a b:Bys}(h:vS a=vS b):a=b:=by
 have h2:ofL a=ofL b:=Value.string.inj h;rw [←aAC a,h2,aAC]
def arL (a:Arc):List Value:=[vS a.1,vS a.2.1,vS a.2.2.1,vI a.2.2.2]
structure ArcB (a:Arc):Prop where
 f1:B63 a.1
 f2:B63 a.2.1
 f3:B63 a.2.2.1
 pos:1<=a.2.2.2
 lt:a.2.2.2<4294967296
section
variable {α:Type}
abbrev Res (α β:Type):=Except (Int×α) β
def aUj (k:Int) (xs:List Bys):List (Tok α)->Bool
  | []=>false
  | t::_=>t.1==k&&(xs.isEmpty||xs.contains t.2.1)
def take (en:α) (k:Int) (xs:List Bys) (ts:List (Tok α)):Res α (Tok α×List (Tok α)) :=
  match ts with
  | [] => .error (6,en)
  | t::l=>if aUj k xs (t::l) then .ok (t,l) else .error (5,t.2.2)
def aUk (t:Bys):Int:=t.foldl (fun n b=>10*n+((b.toNat:Int)-48)) 0
def aVH:Bys:=[58]
def aVG:Bys:=[45]
def aSa:Bys:=[44]
def aXY:List Bys:=[[109,111],[116,117],[119,101],[116,104],[102,114],[115,97],[115,117]]
def aVS:Bys:=[97,108,119,97,121,115]
def aWS:Bys:=[110,101,118,101,114]
def clock (en:α) (most:Int) (ts:List (Tok α)):Res α ((Int×α)×List (Tok α)) :=
  match take en 2 [] ts with
  | .error e => .error e
  | .ok (h,ts) =>
    if aUk h.2.1>most then .error (10,h.2.2)
    else match take en 4 [aVH] ts with
      | .error e => .error e
      | .ok (_,ts)=>match take en 2 [] ts with
        | .error e => .error e
        | .ok (m,ts) =>
          if m.2.1.length != 2||aUk m.2.1>59||(aUk h.2.1==24&&aUk m.2.1>0) then .error (10,m.2.2)
          else .ok ((60*aUk h.2.1+aUk m.2.1,h.2.2),ts)
def aYb (f t:Int):List Sp:=if t>10080 then [(f,min t 10080),(0,t-10080)] else [(f,min t 10080)]
def aZg (f n a b:Int):List Sp:=(List.range n.toNat).flatMap fun (i:Nat)=>aYb ((f+(i:Int)).tmod 7*1440+a) ((f+(i:Int)).tmod 7*1440+b)
def aYq (en:α) (f t:Int) (ts:List (Tok α)):Res α (List Sp×List (Tok α)) :=
  match clock en 23 ts with
  | .error e => .error e
  | .ok ((a,_),ts)=>match take en 4 [aVG] ts with
    | .error e => .error e
    | .ok (_,ts)=>match clock en 24 ts with
      | .error e => .error e
      | .ok ((b,at_),ts) =>
        if a==b then .error (10,at_) else .ok (aZg f ((t-f+7).tmod 7+1) a (if b<a then b+1440 else b),ts)
def aY5:List (Tok α)->Bool
  | t::u::l=>aUj 4 [aSa] (t::u::l)&&u.1==2
  | _=>false
def aU1 (en:α) (f t:Int):Nat->List (Tok α)->Res α (List Sp×List (Tok α))
  | 0,_ => .error (6,en)
  | n+1,ts=>match aYq en f t ts with
    | .error e => .error e
    | .ok (s,ts)=>if aY5 ts then (match aU1 en f t n (ts.drop 1) with | .error e => .error e | .ok (s',ts) => .ok (s++s',ts)) else .ok (s,ts)
def idx (d:Bys):Int:=aXY.findIdx (· == d)
def dys (en:α) (ts:List (Tok α)):Res α ((Int×Int)×List (Tok α)) :=
  match take en 1 aXY ts with
  | .error e => .error e
  | .ok (f,ts) =>
    if aUj 4 [aVG] ts then (match take en 1 aXY (ts.drop 1) with
      | .error e => .error e
      | .ok (t,ts) => .ok ((idx f.2.1,idx t.2.1),ts))
    else .ok ((idx f.2.1,idx f.2.1),ts)
def part (en:α) (ts:List (Tok α)):Res α (List Sp×List (Tok α)) :=
  match dys en ts with
  | .error e => .error e
  | .ok ((f,t),ts)=>aU1 en f t (ts.length+1) ts
def aUN (en:α):Nat->List (Tok α)->Res α (List Sp×List (Tok α))
  | 0,_ => .error (6,en)
  | n+1,ts=>match part en ts with
    | .error e => .error e
    | .ok (s,ts)=>if aUj 4 [aSa] ts then (match aUN en n (ts.drop 1) with | .error e => .error e | .ok (s',ts) => .ok (s++s',ts)) else .ok (s,ts)
def fin:Res α (List Sp×List (Tok α))->Res α (List Sp)
  | .error e => .error e
  | .ok (s,[]) => .ok s
  | .ok (_,t::_) => .error (5,t.2.2)
def aW0 (en:α) (ts:List (Tok α)):Res α (List Sp×List (Tok α)) :=
  if aUj 1 [aVS] ts then .ok (aYb 0 10080,ts.drop 1) else if aUj 1 [aWS] ts then .ok ([],ts.drop 1) else aUN en (ts.length+1) ts
def aW1 (en:α) (ts:List (Tok α)):Res α (List Sp):=fin (aW0 en ts)
end
def aR1 (l:Bys):Except (Int×Int) (List Sp) :=
  match aY8 l with
  | .error e => .error e
  | .ok ts=>match aW1 (l.length:Int) ts with
    | .error e => .error e
    | .ok s=>if (aVF s).length>60 then .error (2,(l.length:Int)) else .ok (aVF s)
section
variable {α:Type}{en:α}
end
section
variable {α β:Type}(φ:α->β)
end
section
variable {α:Type}{en:α}
end
example:aR1 [109,111,45,116,117,32,57,58,48,48,45,49,55,58,51,48] = .ok [(540,1050),(1980,2490)]:=by kernel_rfl
theorem aUz {p:UInt8->Bool}(h:(List.range 256).all (fun n=>p (UInt8.ofNat n))=true) (b:UInt8):p b=true:=by
  have:=List.all_eq_true.1 h b.toNat (List.mem_range.2 b.toNat_lt);simpa using this
section
variable {α:Type}{en:α}{E:Int×α->Prop}
end
def aZh:List (Tok Int)->Int->List (Tok (Int×Int))
  | [],_=>[]
  | t::ts,n=>(t.1,t.2.1,(t.2.2,n))::aZh ts (n+(t.2.1.length+1:Nat))
def spL (s:Sp):List Value:=[vI s.1,vI s.2]
theorem tou (T:TypeId) (m:Int) (h0:0<=m) (h1:m<=9223372036854775807) {w:World}(hT:T=139:=by rfl):Ft.ok Tryz.prog w (.g1 (.convert 3 T) (vI m) (.int .u64 m)):=fun o ρ x ho hx=>by
 subst hT
 have:IntKind.u64.wrap m=m:=by
  show m%18446744073709551616=m;omega
 simp [execOp,ho,hx,go_sem,this]
theorem toi (T:TypeId) (m:Int) (h0:0<=m) (h1:m<=9223372036854775807) {w:World}(hT:T=139:=by rfl):Ft.ok Tryz.prog w (.g1 (.convert T 3) (.int .u64 m) (vI m)):=fun o ρ x ho hx=>by
 subst hT;simp [execOp,ho,hx,go_sem,IntWalk.i64_in m ⟨by omega,by omega⟩]
theorem aU5 (T:TypeId) (n:Nat) (h1:n<=9223372036854775807) {w:World}(hT:T=139:=by rfl):Ft.ok Tryz.prog w (.g2 (fun x y => .binOp .shr T x y T) (.int .u64 ((n:Nat):Int)) (.int .u64 1) (.int .u64 (((n / 2:Nat)):Int))):=fun o ρ x y ho hx hy=>by
 subst hT
 have:IntKind.u64.wrap ((n:Int) / 2)=(n:Int) / 2:=by
  show ((n:Int) / 2)%18446744073709551616=_;omega
 simp [execOp,ho,hx,hy,go_sem,this]
end Go.Proofs.YtngjlnhojicjeaaGreatDoor
namespace Go.Proofs
open Go.Shelf
end Go.Proofs
namespace Go.Proofs.YtngjlnhojicjeaaGreatDoor
open Go.RowKit Go.Pl Go.Sort Go.Shelf
section
variable {w:World}{b k:Nat}{cs:Array Value}{T:TypeId}
end
section
variable {o:Oper}{w:World}{ρ:Operand->Value}{x y z:Operand}{g off k n cap i:Nat}{p:Option Addr}{v u:Value}{m b:Nat}
theorem aAn {n:Int}(ho:o.op = .load 3 x) (hx:ρ x = .pointer (some ⟨g,off,none⟩)) (hc:w.cell? ⟨g,off,none⟩=some (.int .i64 n)):(execOp ρ o).run Tryz.prog w = .ok (.value (.int .i64 n)) w:=by
 simp [execOp,ho,hx,go_sem,hc]
end
section
variable {P:Program}{o:Oper}{w:World}{ρ:Operand->Value}{f:FuncId}{ts:Array TypeId}{x y z:Operand}{u v:Value}{cs bs:Array Value}
end
def Gw (w w':World):Prop:=∃ q os,w'=grow (w.drewN q) os
theorem aQL (w:World):grow w #[]=w:=by simp [grow]
theorem Gw.refl (w:World):Gw w w:=⟨0,#[],by rw [aQL];rfl⟩
theorem Gw.drew {w w':World}(h:Gw w w'):Gw w w'.drew:=by
 obtain ⟨q,os,rfl⟩:=h;exact ⟨q+1,os,rfl⟩
theorem Gw.alloc {w w':World}(h:Gw w w') (o:Obj):Gw w (w'.alloc o):=by
 obtain ⟨q,os,rfl⟩:=h;refine ⟨q,os++#[o],?_⟩;simp [World.alloc,grow]
theorem Gw.fr {w w':World}(h:Gw w w'):Fr nF_ w w':=by
 obtain ⟨q,os,rfl⟩:=h;refine ⟨rfl,rfl,rfl,?_,fun r hr _=>?_⟩
 ·simp [grow,World.drewN]
 ·simp only [grow,World.drewN];rw [Array.getElem?_append_left hr]
set_option maxHeartbeats 1000000 in
section
variable {α:Type}[Inhabited α] {c:Nat}{f:α->List Value}{T:TypeId}
def aZ3 (f:α->List Value) (c:Nat) (cur:Array Value) (L:List α):Prop:=∀ t x,L[t]?=some x->∀ j u,(f x)[j]?=some u->cur[t*c+j]?=some u
end
theorem aRt {α:Type}{lt:α->α->Bool}(a b:α->Int) (h:∀ x y,lt x y=true↔a x<a y∨a x=a y /\ b x<b y):SWO lt:=by
 have h':∀ x y,lt x y=false↔¬ (a x<a y∨a x=a y /\ b x<b y):=fun x y=>by rw [←h,Bool.not_eq_true]
 refine ⟨fun x=>?_,fun x y z h1 h2=>?_,fun x y z h1 h2=>?_⟩
 ·rw [h'];omega
 ·rw [h] at *;omega
 ·rw [h'] at *;omega
section
variable {α:Type}[Inhabited α]
theorem aQg {d d':Array α}(h:PermIn 0 d.size d d'):d'.toList.Perm d.toList:=by
 have h1:=h.2.2;have e1:d.extract 0 d.size=d:=by simp
 have e2:d'.extract 0 d.size=d':=by rw [←h.1];simp
 rwa [e1,e2] at h1
end
section
variable {P:Program}{O:Array Oper}{Q:Exit->Act->World->Prop}{rest:List Oper}{o:Oper}{a:Act}{w:World}{n d:Nat}{L:List (Nat×Value)}{x y:Operand}{b:Nat}{ds:List Deferred}
end
section
variable {w:World}
end
section
variable {P:Program}{B:Code}{R:Pst}{ds:List Deferred}{n:Nat}{p:Option (Nat×Nat)}{L:Frm}{w:World}{F:List Ft}
end
theorem q92 (c:UInt8):(c==92)=((c.toNat:Int)==92):=by
 have:=aUz (p:=fun c=>(c==92)==((c.toNat:Int)==92)) (by decide +kernel) c;exact beq_iff_eq.1 this
theorem aOJ (w:World) (e:TypeId) (s:ByteArray):Fr nF_ w (Lib.bytesWorld w e s):=by
 refine ⟨rfl,rfl,rfl,?_,fun r hr _=>?_⟩
 ·simp [Lib.bytesWorld,World.freeze]
 ·have hne:w.heap.size≠r:=by omega
  show ((w.drew.alloc _).heap.modify w.heap.size _)[r]?=_;rw [Array.getElem?_modify,if_neg hne];exact (aCw (by simpa using hr) _)
theorem aVy:∀ (xs:List Bys) (y:Bys) (i:Nat),Lib.idxFromS (xs.map ofL) (ofL y) i=if xs.contains y then ((i+xs.findIdx (· == y):Nat):Int) else -1:=by
 intro xs y
 induction xs with
 | nil=>intro i;rfl
 | cons x xs ih =>
  intro i;simp only [List.map_cons,Lib.idxFromS,aJv,List.contains_cons,List.findIdx_cons]
  by_cases h:x=y
  ·subst h;simp
  ·rw [if_neg h,ih];have e:(y==x)=false:=by simpa using fun e=>h e.symm
   have e2:(x==y)=false:=by simpa using h
   rw [e,e2];simp only [Bool.false_or,cond_false]
   split
   ·omega
   ·rfl
theorem aTq (xs:List Bys) (y:Bys):Lib.idxOfS (xs.map ofL) (ofL y)=if xs.contains y then ((xs.findIdx (· == y):Nat):Int) else -1:=by
 have:=aVy xs y 0
 rwa [Nat.zero_add] at this
theorem aI5 (xs:List Bys) (y:Bys):Lib.containsS (xs.map ofL) (ofL y)=xs.contains y:=by
 unfold Lib.containsS;rw [aTq];cases h:xs.contains y
 ·simp
 ·rw [if_pos rfl,decide_eq_true (by omega)]
theorem aMK {w:World}{G:Nat}{p:Option Addr}{g off:Nat}{xs:List Bys}(h:aBd stL 1 w G p xs) (hp:p=some ⟨g,off,none⟩):∀ j,j<(xs.map ofL).length->w.cell? ⟨g,off+j,none⟩=some (.string ((xs.map ofL).getD j ByteArray.empty)):=by
 intro j hj;rw [Go_] at hj;obtain ⟨g',off',he,_,hs⟩:=h.at hj;rw [hp] at he;cases he;have:=hs j xs[j] (Gb_ hj) 0 _ rfl;rw [Nat.mul_one,Nat.add_zero] at this;rw [this];simp [List.getD,Gb_ hj]
def Tb (w:World):Prop:=Lib.TabIs Tryz.prog w "internal/strconv.uint64pow10" .u64 Lib.pow10Tab /\ Lib.TabIs Tryz.prog w "strings.asciiSpace" .u8 Lib.asciiSpaceTab
theorem aGk {w:World}{v:Value}{xs:List Bys}{y:Bys}(h:StV w v xs):Calls Tryz.prog 226 #[v,vS y] w fun e w'=>e = .returned (vB (xs.contains y)) /\ Fr nF_ w w':=by
 obtain ⟨p,c,rfl,h1,h2,h3,h4⟩:=h
 by_cases hx:xs=[]
 ·subst hx;exact (Tryz.slices_Contains_string_empty p c (ofL y) w).mono fun e w' h=>⟨h.1,by rw [h.2];exact Fr.refl _ _⟩
 ·obtain ⟨g,off,rfl,_,_⟩:=h3.resolve_left hx;refine (Tryz.slices_Contains_string g off xs.length c (xs.map ofL) (ofL y) w (by simp) (by omega) (aMK h3 rfl)).mono fun e w' h=>⟨?_,by rw [h.2];exact Fr.refl _ _⟩;rw [h.1,Gc_ (by simp),aI5]
abbrev aY0 (c x:Int):Value := .iface 316 (.agg #[vI c,vI x])
abbrev pn (c x:Int):List PanicEntry:=[{ v:=aY0 c x,recovered:=false }]
section
variable {α:Type}{en:α}
def pre (acc:List Sp):Res α (List Sp×List (Tok α))->Res α (List Sp×List (Tok α))
 | .error e => .error e
 | .ok (s,l) => .ok (acc++s,l)
end
section
variable {α:Type}{en:α}
end
theorem aRq {w w':World}{F:Nat->Prop}{n:String}{cs:Array Value}{g:Nat}(hg:Tryz.prog.globalNamed n=some g) (h:w.var? Tryz.prog n=some cs) (f:Fr F w w') (hF:¬ F g):w'.var? Tryz.prog n=some cs:=by
 unfold World.var? at h ⊢;rw [hg] at h ⊢;simp only [Option.bind_some] at h ⊢
 cases hb:w.heap[g]? with
 | none=>rw [hb] at h;cases h
 | some ob=>rw [f.obj hb hF,←hb];exact h
theorem Tb.fr {w w':World}{F:Nat->Prop}(h:Tb w) (f:Fr F w w') (hF:∀ r,r<7->¬ F r):Tb w' :=
 ⟨aRq (g:=6) (by kernel_rfl) h.1 f (hF _ (by decide)),aRq (g:=5) (by kernel_rfl) h.2 f (hF _ (by decide))⟩
def aXz (w:World) (g:Nat):Prop:=∃ ev,w.cell? ⟨g,0,none⟩=some ev /\ (ev = .nilIface∨∃ te pe,ev = .iface te pe)
structure Te (w:World):Prop where
 tb:Tb w
 e0:aXz w 3
 e1:aXz w 4
theorem Te.fr {w w':World}(h:Te w) (f:Fr nF_ w w'):Te w' :=
 ⟨h.tb.fr f fun _ _ h=>h,let ⟨ev,h1,h2⟩:=h.e0;⟨ev,f.cell h1 id,h2⟩,let ⟨ev,h1,h2⟩:=h.e1;⟨ev,f.cell h1 id,h2⟩⟩
theorem aNA (s:Bys):(ofL s).data.toList=s:=by unfold ofL;simp
def aH7 (s:Bys):Option Int:=match Lib.atoiAll s with
 | .ok v=>some v
 | _=>none
theorem aGC {w:World}{s:Bys}(hs:s.length<=281474976710656) (hT:Te w):Calls Tryz.prog 85 #[vS s] w fun e w'=>(∃ n ev,e = .returned (.tuple #[vI n,ev]) /\ ((aH7 s=some n /\ ev = .nilIface /\ -9223372036854775808<=n /\ n<=9223372036854775807)∨(aH7 s=none /\ ∃ T v,ev = .iface T v))) /\ Fr nF_ w w':=by
 have hsz:(ofL s).size=s.length:=aD1 s;cases h:Lib.atoiAll s
 ·rename_i v;have h1:=h;rw [←aNA s] at h1;refine (Go.Proofs.Any.strconv_Atoi_ok Tryz.laysC172 (ofL s) (by omega) v h1 w).mono ?_;rintro e w' ⟨rfl,hw⟩;obtain ⟨b1,b2⟩:=Lib.atoiAll_bounds h;refine ⟨⟨v,.nilIface,rfl,.inl ⟨by unfold aH7;rw [h],rfl,b1,b2⟩⟩,?_⟩;rcases hw with rfl | ⟨t,rfl⟩
  ·exact Fr.refl _ _
  ·exact aOJ _ _ _
 ·have h1:=h;rw [←aNA s] at h1;obtain ⟨ev,hv,hev⟩:=hT.e0;refine (Go.Proofs.Any.strconv_Atoi_syntax Tryz.laysC172 (ofL s) (by omega) h1 ev w hv hev).mono ?_;rintro e w' ⟨N,rfl,_,_,hb⟩;exact ⟨⟨_,_,rfl,.inr ⟨by unfold aH7;rw [h],_,_,rfl⟩⟩,Fr.of_below hb⟩
 ·have h1:=h;rw [←aNA s] at h1;obtain ⟨ev,hv,hev⟩:=hT.e1;refine (Go.Proofs.Any.strconv_Atoi_range Tryz.laysC172 (ofL s) (by omega) h1 ev w hv hev).mono ?_;rintro e w' ⟨N,rfl,_,_,hb⟩;exact ⟨⟨_,_,rfl,.inr ⟨by unfold aH7;rw [h],_,_,rfl⟩⟩,Fr.of_below hb⟩
def aUF (s:Bys):Int:=match aH7 s with
 | some n=>bif decide (n<1)||decide (9999999<n) || !(Lib.itoa n==s) then 100 else n
 | none=>100
def inL (n:Int):List Value:=[vI n]
abbrev aYc:=List (Bys×Value×List Int)
def aY2 (T:aYc):Value->Option Value
 | .string s=>(T.find? fun x=>x.1==s.toList).map (·.2.1)
 | _=>none
structure Road where
 closed:Bool
 oneway:Bool
 limited:Bool
 speed:Int
 hours:List Sp
 refs:List Bys
def aXM:Bys:=[102,111,111,116]
def aRN (o:Ob):Except (Int×Int) (List Sp):=aR1 (aAP o.tags [104,111,117,114,115]).1
def aRO (o:Ob):List Sp:=match aRN o with
 | .ok l=>l
 | .error _=>[]
def aVz (o:Ob):Bool:=match aRN o with
 | .ok _=>true
 | .error _=>false
def aPX (prof:Bys) (o:Ob):Road :=
 { closed:=(aAP o.tags prof).1==[110,111],oneway:=((aAP o.tags [111,110,101,119,97,121]).1==[121,101,115]) && !(prof==aXM),limited:=(aAP o.tags [104,111,117,114,115]).2&&aVz o,speed:=aUF (aAP o.tags [115,112,101,101,100]).1,hours:=aRO o,refs:=o.refs }
abbrev aWI (prof:Bys) (b:ObR) (hv:Value):Value := .agg #[vB (aPX prof b.o).closed,vB (aPX prof b.o).oneway,vB (aPX prof b.o).limited,vI (aPX prof b.o).speed,hv,rfV b]
abbrev RdT:=List (ObR×Value)
def rdF (prof:Bys) (T:RdT):Value->Option Value
 | .string s=>(T.find? fun x=>x.1.o.id==s.toList).map fun x=>aWI prof x.1 x.2
 | _=>none
abbrev Tri:=Bys×Bys×Bys
abbrev aYo (t:Tri):Value := .agg #[vS t.1,vS t.2.1,vS t.2.2]
open Classical in
noncomputable def setT (S:List Tri):Value->Option Value:=fun v=>if ∃ a∈S,v=aYo a then some (vB true) else none
def aYp (o:Ob):Tri:=(o.refs.getD 0 [],o.refs.getD 1 [],o.refs.getD 2 [])
def aZi (prof:Bys) (os:List ObR):List Tri:=bif prof==aXM then [] else (os.filter fun b=>b.o.kind==5).map fun b=>aYp b.o
abbrev AS (os:List ObR):List Arc:=aY3 (aXn os)
theorem aKh {k:Bys}:∀ {l:List Ob},aNP k l=true->∀ o∈l,aAW o=true
 | [],_,o,h=>by cases h
 | b::l,hm,o,h=>by
  unfold aNP at hm;simp only [Ga_] at hm;rcases List.mem_cons.1 h with rfl | h
  ·exact hm.1.1
  ·exact aKh hm.2 o h
theorem aKj {k:Bys}:∀ {l:List Tag},aMC k l=true->∀ t∈l,t.2.length<=200
 | [],_,t,h=>by cases h
 | b::l,hm,t,h=>by
  unfold aMC at hm;simp only [Ga_,decide_eq_true_eq] at hm;rcases List.mem_cons.1 h with rfl | h
  ·have:=hm.1.2;omega
  ·exact aKj hm.2 t h
theorem aQN {l:List Tag}(h:∀ t∈l,t.2.length<=200) (k:Bys):(aAP l k).1.length<=200:=by
 induction l with
 | nil=>simp [aAP]
 | cons t l ih =>
  unfold aAP
  cases t.1==k with
  | true=>exact h t (.head _)
  | false=>exact ih fun t ht=>h t (.tail _ ht)
theorem aLt {o:Ob}(h:aAW o=true) (k:Bys):(aAP o.tags k).1.length<=200:=by
 unfold aAW at h;simp only [Ga_] at h;have h1:=h.1.1.1.1.2;unfold aGN at h1;rw [Ga_] at h1;exact aQN (aKj h1.1) k
structure StF (w:World) (bs ca bo br bb no nr nb:Nat) (qa:Option Addr) (prof:Bys) (os:List ObR) (T:aYc) (T2:RdT):Prop where
 blk:w.heap[bs]?=some (.cells #[vS prof,vL qa (AS os).length ca,.map (some bo),.map (some br),.map (some bb)] 203 (0,0))
 arcs:SrcP arL 4 w qa ca (AS os)
 out:aDP Tryz.prog 9 w bo no (aY2 T)
 rows:∀ x∈T,Src inL 1 w x.2.1 x.2.2
 rds:aDP Tryz.prog 9 w br nr (rdF prof T2)
 hrs:∀ x∈T2,Src spL 2 w x.2 (aRO x.1.o)
 refs:∀ x∈T2,SrcP stL 1 w x.1.pr x.1.cr x.1.o.refs
 ban:aDP Tryz.prog 261 w bb nb (setT (aZi prof os))
 ok:∀ a∈AS os,ArcB a
section
variable {w:World}{q n c:Nat}{p:Option Addr}
end
section
variable {P:Program}{n:Nat}{w:World}
end
section
variable {P:Program}{w w0:World}{rd:Option Nat}{B:Code}{r n:Nat}{L:Frm}{ef:List Nat}{V:Lts->List (Option Value)}{F:Lts->List Ft}{ds:List Deferred}{F0:Nat->Prop}{Mf:Lts->List Bool->List Ent}
end
end Go.Proofs.YtngjlnhojicjeaaGreatDoor
namespace Go.Pl
open Go.RowKit
structure NetW where
 n:Nat
 st:Nat->Bool
 ps:Nat->Int->Option Int
 al:Nat->Nat->Bool
section
variable {N:NetW}{i:Nat}{mi m0:Int}{t t':Nat->Option Int}{W W':List (Nat×Int)}{X:Nat->Int->Prop}
end
end Go.Pl
namespace Go.Proofs.YtngjlnhojicjeaaGreatDoor
open Go.RowKit Go.Pl
theorem aTd:Maps.Keyed Tryz.prog 3:=Maps.int_keyed u3_
theorem aTf {n:Int}(h : -9223372036854775808<=n /\ n<=9223372036854775807):∃ l,keyOf Tryz.prog 3 (vI n)=some l:=⟨_,Maps.keyOf_int_mk u3_ (by
 show (decide (IntKind.i64.min<=n)&&decide (n<=IntKind.i64.max))=true;have h1:IntKind.i64.min = -9223372036854775808:=by rfl
 have h2:IntKind.i64.max=9223372036854775807:=by rfl
 rw [h1,h2];simp only [Ga_,decide_eq_true_eq];exact h)⟩
def aDp (os:List ObR) (id:Bys):Int:=match os[(aAv (aAa os) id).toNat]? with
 | some b=>b.o.kind
 | none=>0
theorem aF6 {w:World}{b:Nat}{cs:Array Value}{T:TypeId}(h:w.heap[b]?=some (.cells cs T (0,0))):w.rangeAt b 0 cs.toList:=fun j u hu=>by
 rw [aAk h,Nat.zero_add];simpa using hu
theorem aBC {l:List Ob}{id:Bys}(h:¬ aAv l id<0):∃ k o,aAv l id=((k:Nat):Int) /\ l[k]?=some o /\ o.id=id:=by
 unfold aAv at h ⊢
 cases e:l.findIdx? (fun o=>o.id==id) with
 | none=>rw [e] at h;exact absurd (by decide) h
 | some k =>
  obtain ⟨h1,h2,h3⟩:=List.findIdx?_eq_some_iff_getElem.1 e;exact ⟨k,l[k],rfl,Gb_ h1,by simpa using h2⟩
theorem stT:ElT Tryz.prog stL 1 45 9:=⟨fun _=>rfl,by decide,fun x u hu=>by
 unfold stL at hu;rw [Gd_] at hu;subst hu;rfl,u45_,aDs (by kernel_rfl)⟩
theorem aNR {α:Type}{f:α->List Value}{c:Nat}{E:TypeId}{b:Nat}{cs:Array Value}{F0:Nat->Prop}{w0 w:World}{M:List Ent}(h:Mm F0 w0 w M) {j:Nat}(hj:M[j]?=some (bk b cs E)) (L:List α) (n:Nat) (hL:L.flatMap f=cs.toList) (hn:L.length=n) (hc:cs.size=n*c) (hm:n<=9223372036854775807:=by decide):Mm F0 w0 w (M.set j (rw_ f c E (vL (some ⟨b,0,none⟩) n n) L)) :=
 h.put j hj (Fr.refl nF_ _) (fun _ _ h=>h.elim) (show ow f c E w 0 _ L from by
  refine ⟨by rw [hL,hn];simpa using hc,.inr ⟨b,n,cs,by rw [hn],Gg_ _,h.get j hj,by omega,by unfold maxLen;omega,hc,?_⟩⟩;rw [hL,hn,←hc];exact Gc_ (by simp)) fun k e => .inl (by
  have e:some b=some k:=e;exact (Gh_ e).symm)
theorem aBH {α:Type}{f:α->List Value}{c:Nat}{w:World}{b:Nat}{cs:Array Value}{T:TypeId}(hb:w.heap[b]?=some (.cells cs T (0,0))) (L:List α) (n:Nat) (hf:∀ x,(f x).length=c) (hL:L.flatMap f=cs.toList) (hn:L.length=n) (hm:n<=9223372036854775807:=by decide):SrcP f c w (some ⟨b,0,none⟩) n L :=
 ⟨by omega,hm,.inr ⟨b,0,rfl,aAe hb,fun i y hy j u hu=>by
  have hi:=(List.getElem?_eq_some_iff.1 hu).1;rw [hf] at hi;rw [aAk hb,Nat.zero_add];have:=aBM hf L i y hy j hi;rw [hL,hu,Array.getElem?_toList] at this;exact this⟩,fun h=>by cases h⟩
def aBL (Ms:List Ent):Ent where
 B:=BlM Ms
 H:=fun w=>(∀ e∈Ms,e.H w) /\ Ms.Pairwise fun x y=>∀ k,x.B k->¬ y.B k
 lt:=fun h ⟨e,he,hk⟩=>e.lt (h.1 e he) hk
 fr:=fun h f hn=>⟨fun e he=>e.fr (h.1 e he) f fun k hk=>hn k ⟨e,he,hk⟩,h.2⟩
theorem aCW {F0:Nat->Prop}{w0 w:World}{A Ms:List Ent}(h:Mm F0 w0 w (A++Ms)):Mm F0 w0 w (A++[aBL Ms]):=by
 have hnd:=List.pairwise_append.1 h.nd;refine ⟨h.fr,fun x hx=>?_,fun x hx k hk hl=>?_,?_⟩
 ·rcases List.mem_append.1 hx with hx | hx
  ·exact h.at_ x (Gr_ _ hx)
  ·rw [Gd_] at hx;subst hx;exact ⟨fun e he=>h.at_ e (List.mem_append_right _ he),hnd.2.1⟩
 ·rcases List.mem_append.1 hx with hx | hx
  ·exact h.own x (Gr_ _ hx) k hk hl
  ·rw [Gd_] at hx;subst hx;obtain ⟨e,he,hk⟩:=hk;exact h.own e (List.mem_append_right _ he) k hk hl
 ·refine List.pairwise_append.2 ⟨hnd.1,List.pairwise_singleton _ _,fun x hx y hy k hxk hyk=>?_⟩;rw [Gd_] at hy;subst hy;obtain ⟨e,he,hk⟩:=hyk;exact hnd.2.2 x hx e he k hxk hk
theorem aIH {F0 G:Nat->Prop}{w0 w:World}{M:List Ent}(h:Mm F0 w0 w M) (hG:∀ k,F0 k->G k):Mm G w0 w M:=⟨h.fr.mono fun r _ h=>hG r h,h.at_,fun e he k hk hl=>hG k (h.own e he k hk hl),h.nd⟩
def rwL (x:Bys×Int):List Value:=[vS x.1,vI x.2]
theorem rwT:ElT Tryz.prog rwL 2 36 42:=⟨fun _=>rfl,by decide,fun x u hu=>by
 unfold rwL at hu;rcases List.mem_cons.1 hu with rfl | hu
 ·rfl
 ·rw [Gd_] at hu;subst hu;rfl,Tryz.underlying36,aDs (by kernel_rfl)⟩
theorem aP4 {α:Type}[BEq α] [LawfulBEq α] {A B:List α}{i:Nat}(h:A.take i=B.take i) (hA:A.length<=i) (hB:B.length<=i):(A==B)=true:=by
 rw [Gc_ hA,Gc_ hB] at h;simpa using h
theorem aHO {α:Type}{A B:List α}{i:Nat}{x y:α}(h:A.take i=B.take i) (hx:A[i]?=some x) (hy:B[i]?=some y) (e:x=y):A.take (i+1)=B.take (i+1):=by
 rw [gt_ hx,gt_ hy,h,e]
theorem aVJ {α:Type}[BEq α] [LawfulBEq α] {A B:List α}{i:Nat}{x y:α}(hx:A[i]?=some x) (hy:B[i]?=some y) (e:x≠y):(A==B)=false:=by
 cases h:A==B with
 | false=>rfl
 | true=>rw [et h] at hx;rw [hx] at hy;exact absurd (Gh_ hy) e
theorem aTC {α:Type}[BEq α] [LawfulBEq α] {A B:List α}(h:¬ (A.length:Int)=(B.length:Int)):(A==B)=false:=by
 cases e:A==B with
 | false=>rfl
 | true=>rw [et e] at h;exact absurd rfl h
theorem aHi (w:World) (id:Bys) (k x y:Int) (hid:B63 id):ObIn w (⟨⟨id,k,x,y,[],[]⟩,none,0,none,0⟩:ObR) :=
 ⟨⟨Gj_ _,Gg_ _,.inl rfl,fun _=>rfl⟩,⟨Gj_ _,Gg_ _,.inl rfl,fun _=>rfl⟩,hid,fun _ h=>(by cases h),fun _ h=>(by cases h)⟩
def aVj (l:List Ob) (id:Bys):Int:=match l[(aAv l id).toNat]? with
 | some o=>o.kind
 | none=>0
theorem aCk {l:List Ob}(h:aAl l=true):∀ o∈l,aAW o=true:=by
 unfold aAl at h;rw [Ga_] at h;exact aKh h.1
section
variable {l:List Ob}
end
def cn (l:List Ob):List ObR:=l.map fun o=>⟨o,none,0,none,0⟩
theorem aAz (a:Bys):blt a a=false:=by
 have:=aLe a a
 cases h:Op.bytesLess a a with
 | false=>exact h
 | true=>rw [h] at this;simp at this
theorem aLf:∀ {a b c:List UInt8},Op.bytesLess a b=true->Op.bytesLess b c=true->Op.bytesLess a c=true
 | [],_,[],h,k=>by
  rename_i b;cases b<;>simp [Op.bytesLess] at k
 | [],_,_::_,_,_=>by simp [Op.bytesLess]
 | _::_,[],_,h,_=>by simp [Op.bytesLess] at h
 | _::_,_::_,[],_,k=>by simp [Op.bytesLess] at k
 | x::a,y::b,z::c,h,k=>by
  unfold Op.bytesLess at h k ⊢
  by_cases h1:x<y
  ·by_cases k1:y<z
   ·simp [UInt8.lt_trans h1 k1]
   ·by_cases e:y=z
    ·subst e;simp [h1]
    ·simp [k1,e] at k
  ·by_cases e:x=y
   ·subst e;simp at h
    by_cases k1:x<z
    ·simp [k1]
    ·by_cases e2:x=z
     ·subst e2;simp at k;simpa using aLf h k
     ·simp [k1,e2] at k
   ·simp [h1,e] at h
theorem aEo {a b c:Bys}(h:blt a b=true) (k:blt b c=true):blt a c=true:=aLf h k
theorem aNO {k:Bys}:∀ {l:List Ob},aNP k l=true->(∀ o∈l,blt k o.id=true) /\ l.Pairwise fun x y=>blt x.id y.id=true
 | [],_=>⟨fun _ h=>(by cases h),.nil⟩
 | o::l,h=>by
  unfold aNP at h;simp only [Ga_] at h;obtain ⟨h1,h2⟩:=aNO (l:=l) h.2;refine ⟨fun x hx=>?_,List.pairwise_cons.2 ⟨h1,h2⟩⟩;rcases List.mem_cons.1 hx with rfl | hx
  ·exact h.1.2
  ·exact aEo h.1.2 (h1 x hx)
theorem aAM {l:List Ob}(h:aAl l=true):l.Pairwise fun x y=>blt x.id y.id=true:=by
 unfold aAl at h;rw [Ga_] at h;exact (aNO h.1).2
theorem aS9 {l:List Ob}(h:l.Pairwise fun x y=>blt x.id y.id=true) {a b:Ob}(ha:a∈l) (hb:b∈l) (e:a.id=b.id):a=b:=by
 obtain ⟨i,hi,rfl⟩:=List.mem_iff_getElem.1 ha;obtain ⟨j,hj,rfl⟩:=List.mem_iff_getElem.1 hb;rcases Nat.lt_trichotomy i j with q | q | q
 ·have:=List.pairwise_iff_getElem.1 h i j hi hj q;rw [e,aAz] at this;cases this
 ·subst q;rfl
 ·have:=List.pairwise_iff_getElem.1 h j i hj hi q;rw [e,aAz] at this;cases this
section
variable {prof f g:Bys}{l:List Ob}{m0 c:Int}{nd:List Bys}{mi:List Int}
end
theorem aCI {l:List Ob}(hp:l.Pairwise fun x y=>blt x.id y.id=true) {o:Ob}(ho:o∈l):¬ aAv l o.id<0 /\ aVj l o.id=o.kind:=by
 have hn:¬ aAv l o.id<0:=by
  unfold aAv
  cases h:l.findIdx? (fun x=>x.id==o.id) with
  | none=>have:=List.findIdx?_eq_none_iff.1 h o ho;simp at this
  | some k=>show ¬ ((k:Nat):Int)<0;omega
 obtain ⟨k,o2,h1,h2,h3⟩:=aBC hn;refine ⟨hn,?_⟩;unfold aVj;rw [h1,Int.toNat_natCast,h2,aS9 hp (gm h2) ho h3]
section
variable {prof f g:Bys}{l:List Ob}{n m0 c c2:Int}{rows:List (Bys×Int)}{nd2:List Bys}{mi2:List Int}
end
theorem aHz:∀ (a b:Bys),decide (Lib.compareBytes a b<0)=blt a b
  | [],[]=>rfl
  | [],_::_=>rfl
  | _::_,[]=>rfl
  | a::x,b::y=>by
    have ih:=aHz x y;show decide ((if a<b then (-1:Int) else if b<a then 1 else Lib.compareBytes x y)<0)=(decide (a<b)||a==b&&blt x y)
    by_cases h1:a<b
    · simp [h1]
    · by_cases h2:b<a
      · have h3:(a==b)=false:=by rw [beq_eq_false_iff_ne];rintro rfl;exact UInt8.lt_irrefl _ h2
        simp [h1,h2,h3]
      · have h3:a=b:=by
          rcases Nat.lt_trichotomy a.toNat b.toNat with h | h | h
          · exact absurd (UInt8.lt_iff_toNat_lt.2 h) h1
          · exact UInt8.toNat.inj h
          · exact absurd (UInt8.lt_iff_toNat_lt.2 h) h2
        rw [←ih];simp [h1,h2,h3]
theorem aJP:∀ (a b:Bys),(Lib.compareBytes a b==0)=(a==b)
  | [],[]=>rfl
  | [],_::_=>rfl
  | _::_,[]=>rfl
  | a::x,b::y=>by
    have ih:=aJP x y;simp only [Lib.compareBytes]
    by_cases h1:a<b
    · rw [if_pos h1]
      have:(a::x==b::y)=false:=by rw [beq_eq_false_iff_ne];intro e;injection e with e _;subst e;exact UInt8.lt_irrefl _ h1
      rw [this];rfl
    · rw [if_neg h1]
      by_cases h2:b<a
      · rw [if_pos h2]
        have:(a::x==b::y)=false:=by rw [beq_eq_false_iff_ne];intro e;injection e with e _;subst e;exact UInt8.lt_irrefl _ h2
        rw [this];rfl
      · rw [if_neg h2,ih]
        have h3:a=b:=by
          rcases Nat.lt_trichotomy a.toNat b.toNat with h | h | h
          · exact absurd (UInt8.lt_iff_toNat_lt.2 h) h1
          · exact UInt8.toNat.inj h
          · exact absurd (UInt8.lt_iff_toNat_lt.2 h) h2
        subst h3;simp
theorem aG9 (a b:Bys) (w:World):Calls Tryz.prog 44 #[vS a,vS b] w fun e w'=>e = .returned (vI (Lib.compareBytes a b)) /\ Fr nF_ w w' :=
  (Tryz.strings_Compare (ofL a) (ofL b) w).mono fun e w' ⟨h,h2⟩=>by
    subst h2;exact ⟨by rw [h];simp [ofL],Fr.refl _ _⟩
theorem aIE {w:World}(b:ObR) (s:Bys):Calls Tryz.prog 99 #[vA (obL b),vS s] w fun e w'=>e = .returned (vI (Lib.compareBytes b.o.id s)) /\ Fr nF_ w w':=by
  refine beg Tryz.func99 rfl rfl [(0,.agg (oY_ b)),(1,vS s)] rfl rfl fun Z hZ=>?_;have hM:=Mm.nil nF_ w;refine aAu 0 0 2 [] (cs:=(oY_ b)) (T:=48) (v:=fun b=>vP b 0) f0 hM fun aa w1 hM=>aAx 1 3 8 [(6,vS b.o.id),(7,vS s)] (fc (ldm 9 0 0 hM rfl rfl) f0) hM (aG9 b.o.id s _) fun w1 hM=>rt1 4 (vI (Lib.compareBytes b.o.id s)) rfl f0 (hZ _ _ ⟨rfl,hM.fr⟩)
theorem aXl {l:List ObR}{s:Bys}{k:Nat}{y:ObR}(hv:(aAa l).Pairwise fun x y=>blt x.id y.id=true) (hy:l[k]?=some y) (h:decide (Lib.compareBytes y.o.id s<0)=true):∀ z q,z<k+1->l[z]?=some q->blt q.o.id s=true:=fun z q hz hq=>by
  rw [aHz] at h;rcases Nat.lt_succ_iff_lt_or_eq.1 hz with h9 | h9
  · have h1:=aAF hq;have h2:=aAF hy
    obtain ⟨a1,a2⟩:=List.getElem?_eq_some_iff.1 h1;obtain ⟨b1,b2⟩:=List.getElem?_eq_some_iff.1 h2;have:=List.pairwise_iff_getElem.1 hv z k a1 b1 h9;rw [a2,b2] at this;exact aEo this h
  · subst h9;rw [hy] at hq;cases hq;exact h
theorem aXm {l:List ObR}{s:Bys}{k:Nat}{y:ObR}(hv:(aAa l).Pairwise fun x y=>blt x.id y.id=true) (hy:l[k]?=some y) (h:decide (Lib.compareBytes y.o.id s<0)=false):∀ z q,k<=z->l[z]?=some q->blt q.o.id s=false:=fun z q hz hq=>by
  rw [aHz] at h;rcases Nat.lt_or_ge k z with h9 | h9
  · have h1:=aAF hy;have h2:=aAF hq
    obtain ⟨a1,a2⟩:=List.getElem?_eq_some_iff.1 h1;obtain ⟨b1,b2⟩:=List.getElem?_eq_some_iff.1 h2;have:=List.pairwise_iff_getElem.1 hv k z a1 b1 h9;rw [a2,b2] at this
    cases h8:blt q.o.id s with
    | false=>rfl
    | true=>rw [aEo this h8] at h;cases h
  · have e9:z=k:=by omega
    subst e9;rw [hy] at hq;cases hq;exact h
theorem aOR {l:List ObR}{s:Bys}{i:Nat}(hA:∀ z q,z<i->l[z]?=some q->blt q.o.id s=true) (hB:∀ z q,i<=z->l[z]?=some q->blt q.o.id s=false) (hv:(aAa l).Pairwise fun x y=>blt x.id y.id=true):(l.length<=i->aAv (aAa l) s<0) /\ ∀ y,l[i]?=some y->((y.o.id==s)=true->aAv (aAa l) s=(i:Int)) /\ ((y.o.id==s)=false->aAv (aAa l) s<0):=by
  have key:∀ k o,aAv (aAa l) s=((k:Nat):Int)->(aAa l)[k]?=some o->o.id=s->∃ y,l[k]?=some y /\ y.o.id=s /\ i<=k:=by
    intro k o _ h2 h3;have hk:k<l.length:=by rw [←aAQ];exact gl h2
    obtain ⟨y,hy⟩:=geb hk;have:=aAF hy;rw [h2] at this;cases this;refine ⟨y,hy,h3,?_⟩;rcases Nat.lt_or_ge k i with h | h
    · have:=hA k y h hy;rw [h3,aAz] at this;cases this
    · exact h
  refine ⟨fun h=>?_,fun y hy=>⟨fun e=>?_,fun e=>?_⟩⟩
  · refine Classical.byContradiction fun hn=>?_
    obtain ⟨k,o,h1,h2,h3⟩:=aBC hn;obtain ⟨y,hy,_,h4⟩:=key k o h1 h2 h3;have:=gl hy;omega
  · have hn:¬ aAv (aAa l) s<0:=by
      intro hneg;unfold aAv at hneg
      cases h:(aAa l).findIdx? (fun o=>o.id==s) with
      | none=>have:=List.findIdx?_eq_none_iff.1 h y.o (gm (aAF hy));rw [this] at e;cases e
      | some k=>rw [h] at hneg;have:((k:Nat):Int)<0:=hneg;omega
    obtain ⟨k,o,h1,h2,h3⟩:=aBC hn;obtain ⟨y2,hy2,h5,h4⟩:=key k o h1 h2 h3;rcases Nat.lt_or_ge i k with h | h
    · have h6:=aAF hy;have h7:=aAF hy2
      obtain ⟨a1,a2⟩:=List.getElem?_eq_some_iff.1 h6;obtain ⟨b1,b2⟩:=List.getElem?_eq_some_iff.1 h7;have:=List.pairwise_iff_getElem.1 hv i k a1 b1 h;rw [a2,b2,h5,et e,aAz] at this;cases this
    · have:k=i:=by omega
      rw [h1,this]
  · refine Classical.byContradiction fun hn=>?_
    obtain ⟨k,o,h1,h2,h3⟩:=aBC hn;obtain ⟨y2,hy2,h5,h4⟩:=key k o h1 h2 h3;rcases Nat.lt_or_ge i k with h | h
    · have h6:=aAF hy;have h7:=aAF hy2
      obtain ⟨a1,a2⟩:=List.getElem?_eq_some_iff.1 h6;obtain ⟨b1,b2⟩:=List.getElem?_eq_some_iff.1 h7;have:=List.pairwise_iff_getElem.1 hv i k a1 b1 h;rw [a2,b2,h5] at this;have h8:=hB i y (Gj_ _) hy;rw [this] at h8;cases h8
    · have:k=i:=by omega
      subst this;rw [hy] at hy2;cases hy2;exact absurd h5 (ef e)
abbrev aZy (Z:Ending->World->Prop):=AtO Tryz.prog (aAw Tryz.f98) (aAL (bodyPost Tryz.prog Tryz.f98 Z)) [] 49
theorem aOL {w:World}{v:Value}{os:List ObR}(hm:aC0 w v os) (hlen:os.length<=400000000) (hv:(aAa os).Pairwise fun x y=>blt x.id y.id=true) (s:Bys):Calls Tryz.prog 98 #[v,vS s,.func (.func 99) #[] #[]] w fun e w'=>∃ (i:Nat) (b:Bool),e = .returned (.tuple #[vI (i:Int),vB b]) /\ (b=true->aAv (aAa os) s=(i:Int)) /\ (b=false->aAv (aAa os) s<0) /\ Fr nF_ w w':=by
  have hm0:=hm;obtain ⟨hs0,hob⟩:=hm0;obtain ⟨p0,cp0,hp0,sp0⟩:=hs0.op;subst hp0;refine beg Tryz.func98 rfl rfl [(0,vL p0 os.length cp0),(1,vS s),(2,.func (.func 99) #[] #[])] rfl rfl fun Z hZ=>?_;have hM:=Mm.nil nF_ w;refine seg 3 0 [(8,vI (os.length:Int)),(9,vI 0),(10,vI (os.length:Int))] f0 ?_
  have ae:∀ (ac:Nat) (i:Nat) (j:Nat) (w2:World),i<=j->j<=os.length->(∀ z q,z<i->os[z]?=some q->blt q.o.id s=true)->(∀ z q,j<=z->os[z]?=some q->blt q.o.id s=false)->Mm nF_ w w2 []->ac=j-i->aZy Z (some (3,0)) [(10,vI (j:Int)),(9,vI (i:Int)),(8,vI (os.length:Int)),(0,vL p0 os.length cp0),(1,vS s),(2,.func (.func 99) #[] #[])] w2:=by
   refine aCx fun ac ad i j w2 hij hjl hA hB hM aj=>seg 3 3 [(17,vB (decide ((i:Int)<(j:Int))))] f0 ?_;cases h44:(decide ((i:Int)<(j:Int)))
   rotate_left
   ·have af:=dt h44;obtain ⟨y47,aa,ak,al,q47,ag⟩:=sp0.el (i:=((i+j) / 2)) (by omega);refine aAx 5 6 30 [(11,vI ((((i+j) / 2:Nat)):Int)),(24,.func (.func 99) #[] #[]),(28,.agg (oY_ y47)),(29,vS s)] (fc (aAI (i:Int) (j:Int) u3_) (fc (tou 139 ((i:Int)+(j:Int)) (by omega) (by omega)) (fc (aU5 139 (i+j) (by omega)) (fc (toi 139 ((((i+j) / 2:Nat)):Int) (by omega) (by omega)) (fc (ix 22 cp0 q47 (gl aa)) (fc (la0 48 hM ag) f0)))))) hM (aIE y47 s) fun w1 hM=>seg 5 8 [(31,vB (decide ((Lib.compareBytes y47.o.id s)<0)))] f0 ?_;cases h48:(decide ((Lib.compareBytes y47.o.id s)<0))
    ·refine seg 3 0 [(10,vI ((((i+j) / 2:Nat)):Int))] f0 (aAh _ (ad _ (by omega) i ((i+j) / 2) _ (by omega) (by omega) hA (aXm hv aa h48) hM rfl))
    refine seg 3 0 [(9,vI (((((i+j) / 2:Nat)):Int)+1))] (fc (aAI ((((i+j) / 2:Nat)):Int) 1 u3_) f0) (aAh _ (ad _ (by omega) ((i+j) / 2+1) j _ (by omega) (by omega) (aXl hv aa h48) hB hM rfl))
   have af:=df h44;refine seg 8 5 [(35,vI (i:Int)),(39,vB (decide ((i:Int)<(os.length:Int))))] f0 ?_;cases h45:(decide ((i:Int)<(os.length:Int)))
   ·have ah:=df h45;have hji:i=j:=by omega
    subst hji;exact rt2 6 7 (vI (i:Int)) (vB false) rfl rfl f0 (hZ _ _ ⟨i,false,rfl,(fun h=>by cases h),fun _=>(aOR hA hB hv).1 (by omega),hM.fr⟩)
   have ah:=dt h45;obtain ⟨y46,ab,am,an,q46,ai⟩:=sp0.el (i:=i) (by omega);refine aAx 8 11 46 [(40,.func (.func 99) #[] #[]),(44,.agg (oY_ y46)),(45,vS s)] (fc (ix 22 cp0 q46 (gl ab)) (fc (la0 48 hM ai) f0)) hM (aIE y46 s) fun w1 hM=>?_;have hji:i=j:=by omega
   subst hji;exact rt2 6 7 (vI (i:Int)) (vB ((Lib.compareBytes y46.o.id s)==0)) rfl rfl f0 (hZ _ _ ⟨i,_,rfl,(fun h=>by rw [aJP] at h;exact ((aOR hA hB hv).2 y46 ab).1 h),(fun h=>by rw [aJP] at h;exact ((aOR hA hB hv).2 y46 ab).2 h),hM.fr⟩)
  exact aAh _ (ae _ 0 os.length _ (Gg_ _) (Gj_ _) (fun _ _ h=>absurd h (Nat.not_lt_zero _)) (fun z q h hq=>absurd (gl hq) (by omega)) hM rfl)
theorem aFZ {w:World}{v:Value}{os:List ObR}(hm:aC0 w v os) (hlen:os.length<=400000000) (hv:(aAa os).Pairwise fun x y=>blt x.id y.id=true) (s:Bys):Calls Tryz.prog 50 #[.agg #[v],vS s] w fun e w'=>∃ (i:Nat) (b:Bool),e = .returned (.tuple #[vI (i:Int),vB b]) /\ (b=true->aAv (aAa os) s=(i:Int)) /\ (b=false->aAv (aAa os) s<0) /\ Fr nF_ w w':=by
  have hm0:=hm;obtain ⟨hs0,hob⟩:=hm0;obtain ⟨p0,cp0,hp0,sp0⟩:=hs0.op;subst hp0;refine beg Tryz.func50 rfl rfl [(0,.agg #[vL p0 os.length cp0]),(1,vS s)] rfl rfl fun Z hZ=>?_;have hM:=Mm.nil nF_ w;refine aAu 0 0 2 [] (cs:=#[vL p0 os.length cp0]) (T:=24) (v:=fun b=>vP b 0) f0 hM fun aa w1 hM=>aLd 1 3 9 [(7,vL p0 os.length cp0),(8,vS s)] (K:=fun u w8=>∃ (i:Nat) (b:Bool),u = .tuple #[vI (i:Int),vB b] /\ (b=true->aAv (aAa os) s=(i:Int)) /\ (b=false->aAv (aAa os) s<0)) (fc (ldm 22 0 0 hM rfl rfl) f0) hM ((aOL (hm.fr hM.fr) hlen hv s).mono fun e w8 ⟨i,b,h1,h2,h3,h4⟩=>⟨⟨_,h1,i,b,rfl,h2,h3⟩,h4⟩) fun _ w1 ⟨i,b,hv9,hy9,hn9⟩ hM f1=>?_;subst hv9;exact rt2 4 5 (vI (i:Int)) (vB b) rfl rfl f0 (hZ _ _ ⟨i,b,rfl,hy9,hn9,hM.fr⟩)
def aWK (v:Value):List Value:=[v]
abbrev aZw (Z:Ending->World->Prop):=AtO Tryz.prog (aAw Tryz.f142) (aAL (bodyPost Tryz.prog Tryz.f142 Z)) [] 19
theorem aMa {w:World}{B:Nat}{p:Option Addr}{cap:Nat}{L:List Value}{f:FuncId}{caps:Array Value}{G:Nat->Prop}(hs:SrcB aWK 1 w B p cap L) (hG:∀ k,G k->B<=k) (eg:aIL Tryz.prog f) (I:Nat->World->Prop) (q:Nat->Bool) (h0:I 0 w) (step:∀ i x w1,L[i]?=some x->(∀ j,j<i->q j=false)->I i w1->Fr G w w1->Calls Tryz.prog f (#[.agg #[x]]++caps) w1 fun e w2=>e = .returned (vB (q i)) /\ I (i+1) w2 /\ Fr G w1 w2):Calls Tryz.prog 142 #[vL p L.length cap,.func (.func f) #[] caps] w fun e w'=>(∃ z,e = .returned (vI z) /\ Fst L q I w' z) /\ Fr G w w':=by
  have bb:=hs.bnd;refine beg Tryz.func142 rfl rfl [(0,vL p L.length cap),(1,.func (.func f) #[] caps)] rfl rfl fun Z hZ=>?_;have hM:=Mm.nil G w;refine seg 2 0 [(7,vI (L.length:Int)),(8,vI 0)] f0 ?_
  have ac:∀ (ab:Nat) (i:Nat) (w2:World),i<=L.length->(∀ j,j<i->q j=false)->I i w2->Mm G w w2 []->ab=L.length-i->aZw Z (some (2,0)) [(8,vI (i:Int)),(7,vI (L.length:Int)),(0,vL p L.length cap),(1,.func (.func f) #[] caps)] w2:=by
   refine aCx fun ab ad i w2 hi hq hI hM ag=>seg 2 1 [(9,vB (decide ((i:Int)<(L.length:Int))))] f0 ?_;cases h53:(decide ((i:Int)<(L.length:Int)))
   ·have ae:=df h53;exact rt1 4 (vI (-1)) rfl f0 (hZ _ _ ⟨⟨_,rfl,.end_ (by omega) hq hI⟩,hM.fr⟩)
   have ae:=dt h53;obtain ⟨y54,aa,ah,ai,q54,af,n54⟩:=(hs).eb hG (i:=i) (by omega);refine aT8 4 5 16 [(5,vI (i:Int)),(11,.func (.func f) #[] caps),(15,.agg #[y54])] #[24] (K:=fun u w9=>u=vB (q i) /\ I (i+1) w9 /\ Fr G w2 w9) (by decide) (fc (ix 142 cap q54 (gl aa)) (fc (la0 24 hM af n54) f0)) eg ((step i y54 _ aa hq hI hM.fr).mono fun e w9 h=>⟨_,h.1,rfl,h.2⟩) fun u w1 ⟨hu,hI,f1⟩=>?_;subst hu;have hM:=hM.g f1;cases h55:(q i)
   ·refine seg 2 0 [(8,vI ((i:Int)+1))] (fc (aAI (i:Int) 1 u3_) f0) (aAh _ (ad _ (by omega) (i+1) _ (gl aa) (fun j hj=>by rcases Nat.lt_succ_iff_lt_or_eq.1 hj with h | h;exact hq j h;rw [h];exact h55) hI hM rfl))
   exact rt1 4 (vI (i:Int)) rfl f0 (hZ _ _ ⟨⟨_,rfl,.some i (gl aa) h55 hq hI⟩,hM.fr⟩)
  exact aAh _ (ac _ 0 _ (Gg_ _) (fun _ h=>absurd h (Nat.not_lt_zero _)) h0 hM rfl)
theorem aOF {w:World}{B:Nat}{p:Option Addr}{cap:Nat}{L:List Value}{f:FuncId}{caps:Array Value}{G:Nat->Prop}(hs:SrcB aWK 1 w B p cap L) (hG:∀ k,G k->B<=k) (eg:aIL Tryz.prog f) (I:Nat->World->Prop) (q:Nat->Bool) (h0:I 0 w) (step:∀ i x w1,L[i]?=some x->(∀ j,j<i->q j=false)->I i w1->Fr G w w1->Calls Tryz.prog f (#[.agg #[x]]++caps) w1 fun e w2=>e = .returned (vB (q i)) /\ I (i+1) w2 /\ Fr G w1 w2):Calls Tryz.prog 91 #[vL p L.length cap,.func (.func f) #[] caps] w fun e w'=>(∃ z,e = .returned (vB (decide (0<=z))) /\ Fst L q I w' z) /\ Fr G w w':=by
  refine beg Tryz.func91 rfl rfl [(0,vL p L.length cap),(1,.func (.func f) #[] caps)] rfl rfl fun Z hZ=>?_;have hM:=Mm.nil G w;refine cal 1 2 7 [(5,vL p L.length cap),(6,.func (.func f) #[] caps)] (K:=fun u w8=>∃ z,u=vI z /\ Fst L q I w8 z /\ Fr G w w8) f0 ((aMa hs hG eg I q h0 step).mono fun e w9 h=>⟨_,h.1.choose_spec.1,_,rfl,h.1.choose_spec.2,h.2⟩) fun u w1 ⟨z,hu,hz,f1⟩=>?_;subst hu;have hM:=hM.g f1;exact rt1 4 (vB (decide (0<=z))) rfl f0 (hZ _ _ ⟨⟨_,rfl,hz⟩,hM.fr⟩)
theorem aGJ {w:World}{v:Value}{os:List ObR}(hm:aC0 w v os):Calls Tryz.prog 92 #[.agg #[v]] w fun e w'=>e = .returned (vB (!(aAl (aAa os)))) /\ Fr nF_ w w':=by
  refine beg Tryz.func92 rfl rfl [(0,.agg #[v])] rfl rfl fun Z hZ=>?_;have hM:=Mm.nil nF_ w;refine aAu 0 0 1 [] (cs:=#[v]) (T:=24) (v:=fun b=>vP b 0) f0 hM fun aa w1 hM=>aAx 1 1 4 [(3,.agg #[v])] (fc (lam 24 0 0 1 hM rfl) f0) hM (aC6 (hm.fr hM.fr)) fun w1 hM=>rt1 2 (vB (!(aAl (aAa os)))) rfl f0 (hZ _ _ ⟨rfl,hM.fr⟩)
theorem aTv {α:Type}{x:α}{b:Bool}{I:Nat->World->Prop}{w:World}{z:Int}(h:Fst [x] (fun _=>b) I w z):decide (0<=z)=b:=by
  cases h with
  | none h _=>have:=h 0 (by simp);rw [this];rfl
  | some i h1 h2 _ _=>rw [h2,decide_eq_true (by omega)]
theorem aHK {w:World}{v:Value}{os:List ObR}(hm:aC0 w v os) {bl:Nat}(hb:w.heap[bl]?=some (.cells #[v] 24 (0,0))):Calls Tryz.prog 48 #[vL (some ⟨bl,0,none⟩) 1 1] w fun e w'=>e = .returned (vB (aAl (aAa os))) /\ Fr nF_ w w':=by
  refine beg Tryz.func48 rfl rfl [(0,vL (some ⟨bl,0,none⟩) 1 1)] rfl rfl fun Z hZ=>?_;have hM:=Mm.nil nF_ w;refine aAx 1 1 4 [(3,vL (some ⟨bl,0,none⟩) 1 1)] f0 hM ((aOF (caps:=#[]) ((aBH (f:=aWK) (c:=1) (hb.trans rfl) [v] 1 (fun _=>rfl) rfl rfl).b (Fr.refl _ _)) (G:=fun _=>False) (fun _ h=>h.elim) (enters_of Tryz.func92 (by kernel_rfl) rfl) (fun _ _=>True) (fun _ => !(aAl (aAa os))) trivial (fun i x w1 hx _ _ f=>by have hx0:=gl hx;have hi0:i=0:=(by simpa using hx0);subst hi0;cases hx;exact (aGJ (hm.fr f)).mono fun e w2 h=>⟨h.1,trivial,h.2⟩)).mono fun e w9 h=>⟨by obtain ⟨z,h1,h2⟩:=h.1;rw [h1,aTv h2],h.2⟩) fun w1 hM=>rt1 2 (vB (!(!(aAl (aAa os))))) rfl f0 (hZ _ _ ⟨by simp,hM.fr⟩)
theorem ptT:ElT Tryz.prog ptL 2 100 29:=⟨fun _=>rfl,by decide,fun x u hu=>by
  unfold ptL at hu;simp only [List.mem_cons,List.not_mem_nil,or_false] at hu;rcases hu with rfl | rfl<;>rfl,Tryz.underlying100,aDs (by kernel_rfl)⟩
def aCB (l:List Ob) (s:Bys):Option Pt:=match l[(aAv l s).toNat]? with
  | some o=>bif decide (aAv l s<0) || !(o.kind==1) then none else some (o.x,o.y)
  | none=>none
def aAG (l:List Ob) (o:Ob):Int×List Pt :=
  bif o.kind==1 then (0,[(o.x,o.y)]) else bif (o.kind==2)||(o.kind==3) then (bif o.refs.all fun r=>(aCB l r).isSome then (0,o.refs.map fun r=>(aCB l r).getD (0,0)) else (14,[])) else (13,[])
def aAf (l:List Ob) (s:Bys):Int×List Pt :=
  bif !(aAl l) then (1,[]) else bif decide (aAv l s<0) then (11,[]) else match l[(aAv l s).toNat]? with
    | some o=>aAG l o
    | none=>(11,[])
theorem aTI {l:List ObR}{s:Bys}{i:Nat}(h:aAv (aAa l) s=(i:Int)):i<l.length:=by
  obtain ⟨k,o,h1,h2,_⟩:=aBC (l:=aAa l) (id:=s) (by omega);have:=gl h2;rw [aAQ] at this;omega
theorem aG0 {l:List ObR}{s:Bys}{i:Nat}{y:ObR}(hv:aAl (aAa l)=true) (h:aAv (aAa l) s=(i:Int)) (hy:l[i]?=some y):aAf (aAa l) s=aAG (aAa l) y.o:=by
  unfold aAf;rw [hv,h,decide_eq_false (by omega),Int.toNat_natCast,aAF hy];rfl
theorem aHg {l:List ObR}{s:Bys}{i:Nat}{y:ObR}(h:aAv (aAa l) s=(i:Int)) (hy:l[i]?=some y):aCB (aAa l) s=bif !(y.o.kind==1) then none else some (y.o.x,y.o.y):=by
  unfold aCB;rw [h,decide_eq_false (by omega),Int.toNat_natCast,aAF hy];rfl
theorem aNt {l:List Ob}{s:Bys}(h:aAv l s<0):aCB l s=none:=by
  unfold aCB;rw [decide_eq_true h];split<;>rfl
theorem aLh {rs:List Bys}{q:Bys->Bool}{i:Nat}{x:Bys}(h:rs[i]?=some x) (ha:(rs.take i).all q=true) (hx:q x=true):(rs.take (i+1)).all q=true:=by
  rw [gt_ h,List.all_append,ha];simp [hx]
theorem aHd {o:Ob}(h:aAW o=true):o.refs.length<=2000:=by
  unfold aAW at h;simp only [Ga_,Bool.not_eq_true',decide_eq_false_iff_not] at h;have:=h.1.1.2;omega
theorem aLi {rs:List Bys}{q:Bys->Bool}{i:Nat}{x:Bys}(h:rs[i]?=some x) (hx:q x=false):rs.all q=false:=by
  rw [List.all_eq_false];exact ⟨x,gm h,by rw [hx];decide⟩
abbrev A76 (Z:Ending->World->Prop):=AtO Tryz.prog (aAw Tryz.f75) (aAL (bodyPost Tryz.prog Tryz.f75 Z)) [] 76
theorem aIe {w:World}{v:Value}{os:List ObR}(hm:aC0 w v os) (hlen:os.length<=400000000) (s:Bys):Calls Tryz.prog 75 #[.agg #[v],vS s] w fun e w'=>∃ u,e = .returned (.tuple #[u,vI (aAf (aAa os) s).1]) /\ Mm nF_ w w' [rw_ ptL 2 29 u (aAf (aAa os) s).2]:=by
  have hm0:=hm;obtain ⟨hs0,hob⟩:=hm0;obtain ⟨p0,cp0,hp0,sp0⟩:=hs0.op;subst hp0;refine beg Tryz.func75 rfl rfl [(0,.agg #[vL p0 os.length cp0]),(1,vS s)] rfl rfl fun Z hZ=>?_;have hM:=Mm.nil nF_ w;refine aAu 0 0 2 [] (cs:=#[vL p0 os.length cp0]) (T:=24) (v:=fun b=>vP b 0) f0 hM fun ac w1 hM=>aAu 1 1 15 [(14,.agg #[vL p0 os.length cp0])] (cs:=#[vL p0 os.length cp0]) (T:=24) (v:=fun b=>vL (some ⟨b,0,none⟩) 1 1) (fc (lam 24 0 0 1 hM rfl) f0) hM fun ae w1 hM=>aAx 1 2 16 [] f0 hM (aHK (hm.fr hM.fr) (hM.get 1 rfl)) fun w1 hM=>seg 1 4 [(17,vB (!(aAl (aAa os))))] f0 ?_;cases h59:(aAl (aAa os))
  ·exact rt2 4 5 (vL none 0 0) (vI 1) rfl rfl f0 (hZ _ _ ⟨_,by unfold aAf;rw [h59];rfl,by unfold aAf;rw [h59];exact (hM.pick (M':=[]) []).row⟩)
  have hvm:=h59;refine aLd 3 2 21 [(19,.agg #[vL p0 os.length cp0]),(20,vS s)] (K:=fun u w8=>∃ (i:Nat) (b:Bool),u = .tuple #[vI (i:Int),vB b] /\ (b=true->aAv (aAa os) s=(i:Int)) /\ (b=false->aAv (aAa os) s<0)) (fc (lam 24 0 0 1 hM rfl) f0) hM ((aFZ (hm.fr hM.fr) hlen (aAM hvm) s).mono fun e w8 ⟨i,b,h1,h2,h3,h4⟩=>⟨⟨_,h1,i,b,rfl,h2,h3⟩,h4⟩) fun _ w1 ⟨i60,am,hv9,av,hn60⟩ hM f1=>?_;subst hv9;refine seg 4 2 [(6,vI (i60:Int)),(25,vB (!am))] f0 ?_
  cases h61:am with
  | false =>
   have hfi60:=hn60 h61;exact rt2 4 5 (vL none 0 0) (vI 11) rfl rfl f0 (hZ _ _ ⟨_,by unfold aAf;rw [hvm,decide_eq_true hfi60];rfl,by unfold aAf;rw [hvm,decide_eq_true hfi60];exact (hM.pick (M':=[]) []).row⟩)
  | true =>
   have hfi60:=av h61;have hli60:=aTI hfi60;obtain ⟨y62,ad,a8,a9,q62,aw⟩:=sp0.el (i:=i60) (by omega);refine aBY 6 5 8 [(30,.agg (oY_ y62))] [] 48 (.agg (oY_ y62)) (fc (ldm 22 0 0 hM rfl rfl) (fc (ix 22 cp0 q62 (gl ad)) (fc (la0 48 hM aw) f0))) hM fun af w1 hM=>?_;have hpo:=aG0 hvm hfi60 ad;have hrl:=aHd (aCk hvm _ (List.mem_map.2 ⟨_,gm ad,rfl⟩));refine seg 8 2 [(32,vI y62.o.kind),(33,vB (y62.o.kind==1))] (fc (ldm 3 2 1 hM rfl rfl) f0) ?_;cases h64:(y62.o.kind==1)
   rotate_left
   ·refine aAu 9 2 37 [(36,.agg #[vI y62.o.x,vI y62.o.y])] (cs:=#[vI y62.o.x,vI y62.o.y]) (T:=29) (v:=fun b=>vL (some ⟨b,0,none⟩) 1 1) (fc (lam 29 2 2 2 hM rfl) f0) hM fun ax w1 hM=>?_;have hM:=aNR hM (f:=ptL) (c:=2) (j:=3) rfl [((y62.o.x,y62.o.y):Pt)] 1 rfl rfl rfl;exact rt2 4 5 (vL (some ⟨ax,0,none⟩) 1 1) (vI 0) rfl rfl f0 (hZ _ _ ⟨_,by rw [hpo];unfold aAG;simp only [h64]<;>rfl,by rw [hpo];unfold aAG;simp only [h64];exact hM.pick [3]⟩)
   refine seg 10 2 [(38,vB (y62.o.kind==2))] f0 ?_;cases h65:(y62.o.kind==2)
   rotate_left
   ·have hM:=hM.row (f:=ptL) (c:=2) (E:=29);refine seg 14 0 [(9,vL none 0 0),(42,vL y62.pr y62.o.refs.length y62.cr),(43,vI (y62.o.refs.length:Int)),(44,vI 0)] (fc (ldm 45 2 4 hM rfl rfl) f0) ?_
    have ay:∀ (an:Nat) (i:Nat) (vo:Value) (w2:World),i<=y62.o.refs.length->(y62.o.refs.take i).all (fun r=>(aCB (aAa os) r).isSome)=true->Mm nF_ w w2 [bk ac #[vL p0 os.length cp0] 24,bk ae #[vL p0 os.length cp0] 24,bk af (oY_ y62) 48,rw_ ptL 2 29 vo ((y62.o.refs.take i).map fun r=>(aCB (aAa os) r).getD (0,0))]->an=y62.o.refs.length-i->A76 Z (some (14,0)) [(44,vI (i:Int)),(43,vI (y62.o.refs.length:Int)),(42,vL y62.pr y62.o.refs.length y62.cr),(9,vo),(2,vP ac 0)] w2:=by
     refine aCx fun an az i vo w2 hi ha hM ba=>seg 14 1 [(45,vB (decide ((i:Int)<(y62.o.refs.length:Int))))] f0 ?_;cases h82:(decide ((i:Int)<(y62.o.refs.length:Int)))
     ·have a0:=df h82;have hti:y62.o.refs.take i=y62.o.refs:=Gc_ (by omega);rw [hti] at ha hM;exact rt2 4 5 vo (vI 0) rfl rfl f0 (hZ _ _ ⟨_,by rw [hpo];unfold aAG;simp only [h64,h65,ha]<;>rfl,by rw [hpo];unfold aAG;simp only [h64,h65,ha];exact hM.pick [3]⟩)
     have a0:=dt h82;have s83:=(hob _ (gm ad)).refs;obtain ⟨y84,aa,bb,bc,q84,a1⟩:=s83.el (i:=i) (by omega);refine aLd 16 2 51 [(49,.agg #[vL p0 os.length cp0]),(50,vS y84)] (K:=fun u w8=>∃ (i:Nat) (b:Bool),u = .tuple #[vI (i:Int),vB b] /\ (b=true->aAv (aAa os) y84=(i:Int)) /\ (b=false->aAv (aAa os) y84<0)) (fc (ix 45 y62.cr q84 (gl aa)) (fc (ld0 9 hM (a1 0 _ rfl)) (fc (lam 24 0 0 1 hM rfl) f0))) hM ((aFZ (hm.fr hM.fr) hlen (aAM hvm) y84).mono fun e w8 ⟨i,b,h1,h2,h3,h4⟩=>⟨⟨_,h1,i,b,rfl,h2,h3⟩,h4⟩) fun _ w1 ⟨i85,ao,hv9,a2,hn85⟩ hM f1=>?_;subst hv9;refine seg 17 3 [(12,vI (i85:Int)),(56,vB (!ao))] f0 ?_
     cases h86:ao with
     | false =>
      have hfi85:=hn85 h86;have hp9:aCB (aAa os) y84=none:=aNt hfi85;have ha9:=aLi (q:=fun r=>(aCB (aAa os) r).isSome) aa (by rw [hp9];rfl);exact rt2 4 5 (vL none 0 0) (vI 14) rfl rfl f0 (hZ _ _ ⟨_,by rw [hpo];unfold aAG;simp only [h64,h65,ha9]<;>rfl,by rw [hpo];unfold aAG;simp only [h64,h65,ha9];exact (hM.pick (M':=[]) []).row⟩)
     | true =>
      have hfi85:=a2 h86;have hli85:=aTI hfi85;obtain ⟨y87,ag,bd,be,q87,ap⟩:=sp0.el (i:=i85) (by omega);refine seg 17 11 [(64,vB (!(y87.o.kind==1)))] (fc (ldm 22 0 0 hM rfl rfl) (fc (ix 22 cp0 q87 (gl ag)) (fc (ld0 3 hM (ap 1 _ rfl)) f0))) ?_;cases h88:(y87.o.kind==1)
      ·have hp9:aCB (aAa os) y84=none:=by rw [aHg hfi85 ag];simp only [h88]<;>rfl
       have ha9:=aLi (q:=fun r=>(aCB (aAa os) r).isSome) aa (by rw [hp9];rfl);exact rt2 4 5 (vL none 0 0) (vI 14) rfl rfl f0 (hZ _ _ ⟨_,by rw [hpo];unfold aAG;simp only [h64,h65,ha9]<;>rfl,by rw [hpo];unfold aAG;simp only [h64,h65,ha9];exact (hM.pick (M':=[]) []).row⟩)
      refine aAu 19 7 72 [(65,vo),(71,.agg #[vI y87.o.x,vI y87.o.y])] (cs:=#[vI y87.o.x,vI y87.o.y]) (T:=29) (v:=fun b=>vL (some ⟨b,0,none⟩) 1 1) (fc (ldm 22 0 0 hM rfl rfl) (fc (ix 22 cp0 q87 (gl ag)) (fc (la0 29 hM (rs ap 2 2)) f0))) hM fun bf w1 hM=>aVO 19 8 73 [] (cap:=1) (by decide) ptT f0 hM (j:=3) rfl (aCq (f:=ptL) (x:=((y87.o.x,y87.o.y):Pt)) (hM.get 4 rfl) (Nat.lt_succ_self _)) (fun h=>by cases h) (by simp only [Go_,Gp_,Gf_,Gm_];omega) fun v90 w1 hM=>?_;obtain ⟨ai,aj,e90,-⟩:=(hM.src (j:=3) rfl ptT.len).op;subst e90;refine seg 14 0 [(9,vL ai (((y62.o.refs.take i).map fun r=>(aCB (aAa os) r).getD (0,0))++[((y87.o.x,y87.o.y):Pt)]).length aj),(44,vI ((i:Int)+1))] (fc (aAI (i:Int) 1 u3_) f0) ?_;have hp9:aCB (aAa os) y84=some (y87.o.x,y87.o.y):=by rw [aHg hfi85 ag];simp only [h88]<;>rfl
      have hM:=hM.pick [0,1,2,3];replace hM:Mm nF_ w _ [bk ac #[vL p0 os.length cp0] 24,bk ae #[vL p0 os.length cp0] 24,bk af (oY_ y62) 48,_]:=hM;obtain ⟨u1,hu1⟩:∃ z,z=vL ai (((y62.o.refs.take i).map fun r=>(aCB (aAa os) r).getD (0,0))++[((y87.o.x,y87.o.y):Pt)]).length aj:=⟨_,rfl⟩;rw [←hu1] at hM;have e1:(((y62.o.refs.take i).map fun r=>(aCB (aAa os) r).getD (0,0))++[((y87.o.x,y87.o.y):Pt)])=(y62.o.refs.take (i+1)).map fun r=>(aCB (aAa os) r).getD (0,0):=by rw [gt_ aa,List.map_append];simp only [List.map_cons,List.map_nil,hp9]<;>rfl
      rw [e1,hu1] at hM;exact aAh _ (az _ (by have:=gl aa;omega) (i+1) (vL ai (((y62.o.refs.take i).map fun r=>(aCB (aAa os) r).getD (0,0))++[((y87.o.x,y87.o.y):Pt)]).length aj) _ (gl aa) (aLh aa ha (by rw [hp9];rfl)) hM rfl)
    exact aAh _ (ay _ 0 (vL none 0 0) _ (Gg_ _) rfl hM rfl)
   refine seg 11 2 [(38,vB (y62.o.kind==3))] f0 ?_;cases h66:(y62.o.kind==3)
   ·exact rt2 4 5 (vL none 0 0) (vI 13) rfl rfl f0 (hZ _ _ ⟨_,by rw [hpo];unfold aAG;simp only [h64,h65,h66]<;>rfl,by rw [hpo];unfold aAG;simp only [h64,h65,h66];exact (hM.pick (M':=[]) []).row⟩)
   have hM:=hM.row (f:=ptL) (c:=2) (E:=29);refine seg 14 0 [(9,vL none 0 0),(42,vL y62.pr y62.o.refs.length y62.cr),(43,vI (y62.o.refs.length:Int)),(44,vI 0)] (fc (ldm 45 2 4 hM rfl rfl) f0) ?_
   have a3:∀ (aq:Nat) (i:Nat) (vo:Value) (w2:World),i<=y62.o.refs.length->(y62.o.refs.take i).all (fun r=>(aCB (aAa os) r).isSome)=true->Mm nF_ w w2 [bk ac #[vL p0 os.length cp0] 24,bk ae #[vL p0 os.length cp0] 24,bk af (oY_ y62) 48,rw_ ptL 2 29 vo ((y62.o.refs.take i).map fun r=>(aCB (aAa os) r).getD (0,0))]->aq=y62.o.refs.length-i->A76 Z (some (14,0)) [(44,vI (i:Int)),(43,vI (y62.o.refs.length:Int)),(42,vL y62.pr y62.o.refs.length y62.cr),(9,vo),(2,vP ac 0)] w2:=by
    refine aCx fun aq a4 i vo w2 hi ha hM bg=>seg 14 1 [(45,vB (decide ((i:Int)<(y62.o.refs.length:Int))))] f0 ?_;cases h70:(decide ((i:Int)<(y62.o.refs.length:Int)))
    ·have a5:=df h70;have hti:y62.o.refs.take i=y62.o.refs:=Gc_ (by omega);rw [hti] at ha hM;exact rt2 4 5 vo (vI 0) rfl rfl f0 (hZ _ _ ⟨_,by rw [hpo];unfold aAG;simp only [h64,h65,h66,ha]<;>rfl,by rw [hpo];unfold aAG;simp only [h64,h65,h66,ha];exact hM.pick [3]⟩)
    have a5:=dt h70;have s71:=(hob _ (gm ad)).refs;obtain ⟨y72,ab,bh,bi,q72,a6⟩:=s71.el (i:=i) (by omega);refine aLd 16 2 51 [(49,.agg #[vL p0 os.length cp0]),(50,vS y72)] (K:=fun u w8=>∃ (i:Nat) (b:Bool),u = .tuple #[vI (i:Int),vB b] /\ (b=true->aAv (aAa os) y72=(i:Int)) /\ (b=false->aAv (aAa os) y72<0)) (fc (ix 45 y62.cr q72 (gl ab)) (fc (ld0 9 hM (a6 0 _ rfl)) (fc (lam 24 0 0 1 hM rfl) f0))) hM ((aFZ (hm.fr hM.fr) hlen (aAM hvm) y72).mono fun e w8 ⟨i,b,h1,h2,h3,h4⟩=>⟨⟨_,h1,i,b,rfl,h2,h3⟩,h4⟩) fun _ w1 ⟨i73,ar,hv9,a7,hn73⟩ hM f1=>?_;subst hv9;refine seg 17 3 [(12,vI (i73:Int)),(56,vB (!ar))] f0 ?_
    cases h74:ar with
    | false =>
     have hfi73:=hn73 h74;have hp9:aCB (aAa os) y72=none:=aNt hfi73;have ha9:=aLi (q:=fun r=>(aCB (aAa os) r).isSome) ab (by rw [hp9];rfl);exact rt2 4 5 (vL none 0 0) (vI 14) rfl rfl f0 (hZ _ _ ⟨_,by rw [hpo];unfold aAG;simp only [h64,h65,h66,ha9]<;>rfl,by rw [hpo];unfold aAG;simp only [h64,h65,h66,ha9];exact (hM.pick (M':=[]) []).row⟩)
    | true =>
     have hfi73:=a7 h74;have hli73:=aTI hfi73;obtain ⟨y75,ah,bj,bl,q75,au⟩:=sp0.el (i:=i73) (by omega);refine seg 17 11 [(64,vB (!(y75.o.kind==1)))] (fc (ldm 22 0 0 hM rfl rfl) (fc (ix 22 cp0 q75 (gl ah)) (fc (ld0 3 hM (au 1 _ rfl)) f0))) ?_;cases h76:(y75.o.kind==1)
     ·have hp9:aCB (aAa os) y72=none:=by rw [aHg hfi73 ah];simp only [h76]<;>rfl
      have ha9:=aLi (q:=fun r=>(aCB (aAa os) r).isSome) ab (by rw [hp9];rfl);exact rt2 4 5 (vL none 0 0) (vI 14) rfl rfl f0 (hZ _ _ ⟨_,by rw [hpo];unfold aAG;simp only [h64,h65,h66,ha9]<;>rfl,by rw [hpo];unfold aAG;simp only [h64,h65,h66,ha9];exact (hM.pick (M':=[]) []).row⟩)
     refine aAu 19 7 72 [(65,vo),(71,.agg #[vI y75.o.x,vI y75.o.y])] (cs:=#[vI y75.o.x,vI y75.o.y]) (T:=29) (v:=fun b=>vL (some ⟨b,0,none⟩) 1 1) (fc (ldm 22 0 0 hM rfl rfl) (fc (ix 22 cp0 q75 (gl ah)) (fc (la0 29 hM (rs au 2 2)) f0))) hM fun bm w1 hM=>aVO 19 8 73 [] (cap:=1) (by decide) ptT f0 hM (j:=3) rfl (aCq (f:=ptL) (x:=((y75.o.x,y75.o.y):Pt)) (hM.get 4 rfl) (Nat.lt_succ_self _)) (fun h=>by cases h) (by simp only [Go_,Gp_,Gf_,Gm_];omega) fun v78 w1 hM=>?_;obtain ⟨ak,al,e78,-⟩:=(hM.src (j:=3) rfl ptT.len).op;subst e78;refine seg 14 0 [(9,vL ak (((y62.o.refs.take i).map fun r=>(aCB (aAa os) r).getD (0,0))++[((y75.o.x,y75.o.y):Pt)]).length al),(44,vI ((i:Int)+1))] (fc (aAI (i:Int) 1 u3_) f0) ?_;have hp9:aCB (aAa os) y72=some (y75.o.x,y75.o.y):=by rw [aHg hfi73 ah];simp only [h76]<;>rfl
     have hM:=hM.pick [0,1,2,3];replace hM:Mm nF_ w _ [bk ac #[vL p0 os.length cp0] 24,bk ae #[vL p0 os.length cp0] 24,bk af (oY_ y62) 48,_]:=hM;obtain ⟨u1,hu1⟩:∃ z,z=vL ak (((y62.o.refs.take i).map fun r=>(aCB (aAa os) r).getD (0,0))++[((y75.o.x,y75.o.y):Pt)]).length al:=⟨_,rfl⟩;rw [←hu1] at hM;have e1:(((y62.o.refs.take i).map fun r=>(aCB (aAa os) r).getD (0,0))++[((y75.o.x,y75.o.y):Pt)])=(y62.o.refs.take (i+1)).map fun r=>(aCB (aAa os) r).getD (0,0):=by rw [gt_ ab,List.map_append];simp only [List.map_cons,List.map_nil,hp9]<;>rfl
     rw [e1,hu1] at hM;exact aAh _ (a4 _ (by have:=gl ab;omega) (i+1) (vL ak (((y62.o.refs.take i).map fun r=>(aCB (aAa os) r).getD (0,0))++[((y75.o.x,y75.o.y):Pt)]).length al) _ (gl ab) (aLh ab ha (by rw [hp9];rfl)) hM rfl)
   exact aAh _ (a3 _ 0 (vL none 0 0) _ (Gg_ _) rfl hM rfl)
end Go.Proofs.YtngjlnhojicjeaaGreatDoor
namespace Go.Pl
open Go.RowKit Go.WideMaps
section maps3
open Classical
variable {P:Program}{K:TypeId}
def aUn (P:Program) (K:TypeId) (o:Obj) (n:Nat) (m:Value->Option Value):Prop:=∃ es clock,o = .map es clock /\ Ents P K es.toList clock m /\ es.size<=n
theorem aDP.obj {w:World}{b n:Nat}{m}(h:aDP P K w b n m):∃ o,w.heap[b]?=some o /\ aUn P K o n m:=by
 obtain ⟨es,c,hb,r⟩:=h;exact ⟨_,hb,es,c,rfl,r⟩
theorem aDP.of_obj {w:World}{b n:Nat}{m}{o:Obj}(hb:w.heap[b]?=some o) (h:aUn P K o n m):aDP P K w b n m:=by
 obtain ⟨es,c,rfl,r⟩:=h;exact ⟨es,c,hb,r⟩
theorem aUn.entry (L:Maps.Keyed P K) {t e:TypeId}(ht:P.underlying t=some (.map K e)) {o:Obj}{m}{n:Nat}(h:aUn P K o n m) (b:Nat) {key:Value}{l:Lit}(hk:keyOf P K key=some l) {z:Value}(hz:∀ w,(zeroValue e).run P w = .ok z w) (v:Value) :
  ∃ o1 o2 x s,(∀ W:World,W.heap[b]?=some o->(Instr.mapEntry t (.map (some b)) key).run P W = .ok (.tuple #[x,.int .i64 s]) (setBlk W b o1)) /\
   (∀ W:World,W.heap[b]?=some o1->(Instr.entryStore t (.map (some b)) (.int .i64 s) v).run P W = .ok () (setBlk W b o2)) /\ aUn P K o2 (n+1) (upd m key v):=by
 obtain ⟨es,c,rfl,h,hn⟩:=h;have hall:=fun w=>h.find L (w:=w) hk;rcases hall default with ⟨_,h2,h3⟩ | ⟨j,en,_,h2,h3,h4⟩
 ·refine ⟨.map (es.push ⟨key,z,c⟩) (c+1),.map (es.push ⟨key,v,c⟩) (c+1),z,c,fun W hb=>?_,fun W hb=>?_,_,_,rfl,by simpa using h.push hk h3,by simp;omega⟩
  ·have h1:(Instr.findKey K key es.toList).run P W = .ok none W:=by
    rcases hall W with ⟨h1,_⟩ | ⟨j,en,_,g2,g3,_⟩
    ·exact h1
    ·exact absurd g3 (h3 en (Ge_ g2))
   simp [Instr.mapEntry,run_underlying ht,MapKept.run_getObj_map hb,L.check W false hk,h1,hz,MapKept.run_setObj_map _ hb,Result.andThen,setBlk,goInt]
  ·have hs:(es.push ⟨key,z,c⟩).toList.Pairwise (fun x y=>x.born≠y.born):=by simpa using (h.push (v:=z) hk h3).stamps
   have hf:(es.push ⟨key,z,c⟩).findIdx? (fun e=>(e.born:Int)==(c:Int))=some es.size:=aDF hs (e:=⟨key,z,c⟩) (by simp)
   have hm:(es.push ⟨key,z,c⟩).modify es.size (fun e=>{ e with val:=v })=es.push ⟨key,v,c⟩:=by
    apply Array.ext_getElem?;intro i;rw [Array.getElem?_modify,Array.getElem?_push,Array.getElem?_push]
    by_cases hi:i=es.size
    ·subst hi;simp
    ·rw [if_neg (by omega),if_neg hi,if_neg hi]
   simp [Instr.entryStore,MapKept.run_getObj_map hb,hf,hm,asInt,asIntOf,MapKept.run_setObj_map _ hb,Result.andThen,setBlk]
 ·have hj:j<es.size:=by simpa using (List.getElem?_eq_some_iff.1 h2).1
  have hj2:es[j]=en:=by simpa using (List.getElem?_eq_some_iff.1 h2).2
  have hes:es[j]?=some en:=by simpa using h2
  have hsame:es.modify j (fun e=>{ e with key:=key })=es:=by
   apply Array.ext_getElem?;intro i;rw [Array.getElem?_modify]
   by_cases hi:j=i
   ·subst hi;rw [if_pos rfl,hes,←h3];rfl
   ·rw [if_neg hi]
  refine ⟨.map es c,.map (es.modify j fun e=>{ e with val:=v }) c,en.val,en.born,fun W hb=>?_,fun W hb=>?_,_,_,rfl,?_,by simp;omega⟩
  ·have h1:(Instr.findKey K key es.toList).run P W = .ok (some (j,en.val)) W:=by
    rcases hall W with ⟨_,_,g3⟩ | ⟨j',en',g1,g2,g3,g4⟩
    ·exact absurd h3 (g3 en (Ge_ h2))
    ·have:j'=j:=Ents.unique h.apart g2 h2 (g3.trans h3.symm);subst this;rw [h2] at g2;cases g2;exact g1
   have hst:=L.stays W hk;simp [Instr.mapEntry,run_underlying ht,MapKept.run_getObj_map hb,L.check W false hk,h1,hes,h3,hst,hsame,MapKept.run_setObj_map _ hb,Result.andThen,setBlk,goInt]
  ·have hf:es.findIdx? (fun e=>(e.born:Int)==(en.born:Int))=some j:=aDF h.stamps hes;simp [Instr.entryStore,MapKept.run_getObj_map hb,hf,asInt,asIntOf,MapKept.run_setObj_map _ hb,Result.andThen,setBlk]
  ·have:(es.modify j fun e=>{ e with val:=v }).toList=es.toList.set j { en with key:=key,val:=v }:=by
    apply List.ext_getElem?;intro i;simp only [Array.getElem?_toList,Array.getElem?_modify,List.getElem?_set]
    by_cases hij:j=i
    ·subst hij;simp [hj,hj2,←h3]
    ·simp [hij]
   rw [this];exact h.set h2 h3
end maps3
def obE (b:Nat) (o:Obj):Ent where
 B k:=k=b
 H w:=w.heap[b]?=some o
 lt h e:=by subst e;exact (Array.getElem?_eq_some_iff.1 h).1
 fr h f hn:=f.obj h (hn _ rfl)
section
variable {P:Program}{F0:Nat->Prop}{w0 w:World}{M:List Ent}
theorem Mm.toOb (h:Mm F0 w0 w M) {j:Nat}{K:TypeId}{b c:Nat}{m:Value->Option Value}(hj:M[j]?=some (mp P K b c m)):∃ o,aUn P K o c m /\ Mm F0 w0 w (M.set j (obE b o)):=by
 have hm:aDP P K w b c m:=h.get j hj;obtain ⟨o,ho,hn⟩:=hm.obj;exact ⟨o,hn,h.put j hj (Fr.refl nF_ _) (fun _ _ h=>h.elim) ho fun k e => .inl e⟩
theorem Mm.ofOb (h:Mm F0 w0 w M) {j:Nat}{K:TypeId}{b c:Nat}{m:Value->Option Value}{o:Obj}(hj:M[j]?=some (obE b o)) (hn:aUn P K o c m):Mm F0 w0 w (M.set j (mp P K b c m)):=by
 have ho:w.heap[b]?=some o:=h.get j hj;exact h.put j hj (Fr.refl nF_ _) (fun _ _ h=>h.elim) (aDP.of_obj ho hn) fun k e => .inl e
end
section
variable {P:Program}{w w0:World}{rd:Option Nat}{B:Code}{r n:Nat}{L:Frm}{ef:List Nat}{V:Lts->List (Option Value)}{F:Lts->List Ft}{ds:List Deferred}{F0:Nat->Prop}{Mf:Lts->List Bool->List Ent}
theorem aXp (p i d:Nat) (T:TypeId) (j b:Nat) (o o1:Obj) (key x:Value) (s:Int)
  (hr:∀ W:World,W.heap[b]?=some o->(Instr.mapEntry T (.map (some b)) key).run P W = .ok (.tuple #[x,.int .i64 s]) (setBlk W b o1))
  (hj:∀ γ fr,(Mf γ (flg B r ef i fr))[j]?=some (obE b o):=by intro γ fr;kernel_rfl)
  (hm:∀ γ fr,(Mf γ (flg B r ef i fr)).set j (obE b o1)=Mf (aBN γ p (.tuple #[x,.int .i64 s])) ((flg B r ef i fr).set p true):=by intro γ fr;kernel_rfl)
  (hV:∀ γ,((V (aBN γ p (.tuple #[x,.int .i64 s])))[p]?).getD none=some (.tuple #[x,.int .i64 s]):=by intro γ;rfl)
  (hs:∀ γ,aU9 (aA5 B r) i (frX P w n B r L ef V F i γ)=aU8 (aA5 B r) i (fun x y => .mapEntry T x y) (.map (some b)) key (some d):=by intro γ;kernel_rfl):Arm rd P w n B r L ef V F ds F0 w0 Mf p i:=by
 intro γ fr a wm Q o' ho En hw hM;obtain ⟨u,y,h1,h2,h3,h4⟩:=aMH ho En (hs γ);have hb:wm.heap[b]?=some o:=hM.get j (hj γ fr);have hlt:=(Array.getElem?_eq_some_iff.1 hb).1;have hM':=hM.put (w':=setBlk wm b o1) j (e':=obE b o1) (hj γ fr) ((Fr.refl (fun r=>r=b) wm).setBlk (fun _=>rfl) o1) (fun k _ e=>e) (aCN hlt o1) (fun k e => .inl e);rw [hm] at hM';refine aDy (v := .tuple #[x,.int .i64 s]) (w':=setBlk wm b o1) (by simp only [execOp,h1,h2,h3,Sem.run_bind,hr wm hb,Result.andThen_ok,Sem.run_pure]) ⟨.tuple #[x,.int .i64 s],γ.e p,by rw [aAy,hV,h4];rfl,by rw [aAy];exact hM'⟩
theorem aXr (p i:Nat) (T:TypeId) (j b:Nat) (o1 o2:Obj) (s:Int) (v:Value)
  (hr:∀ W:World,W.heap[b]?=some o1->(Instr.entryStore T (.map (some b)) (.int .i64 s) v).run P W = .ok () (setBlk W b o2))
  (hj:∀ γ fr,(Mf γ (flg B r ef i fr))[j]?=some (obE b o1):=by intro γ fr;kernel_rfl)
  (hm:∀ γ fr,(Mf γ (flg B r ef i fr)).set j (obE b o2)=Mf (aBN γ p undef) ((flg B r ef i fr).set p true):=by intro γ fr;kernel_rfl)
  (hV:∀ γ,((V (aBN γ p undef))[p]?).getD none=none:=by intro γ;rfl)
  (hs:∀ γ,aUh (aA5 B r) i (frX P w n B r L ef V F i γ)=aUg (aA5 B r) i (fun x y z => .entryStore T x y z) (.map (some b)) (.int .i64 s) v none:=by intro γ;kernel_rfl):Arm rd P w n B r L ef V F ds F0 w0 Mf p i:=by
 intro γ fr a wm Q o' ho E hw hM;obtain ⟨x,y,z,h1,h2,h3,h4,h5⟩:=aKm ho E (hs γ);have hb:wm.heap[b]?=some o1:=hM.get j (hj γ fr);have hlt:=(Array.getElem?_eq_some_iff.1 hb).1;have hM':=hM.put (w':=setBlk wm b o2) j (e':=obE b o2) (hj γ fr) ((Fr.refl (fun r=>r=b) wm).setBlk (fun _=>rfl) o2) (fun k _ e=>e) (aCN hlt o2) (fun k e => .inl e);rw [hm] at hM';exact aGG (w':=setBlk wm b o2) (by simp only [execOp,h1,h2,h3,h4,Sem.run_bind,hr wm hb,Result.andThen_ok,Sem.run_pure]) h5 ⟨undef,γ.e p,by rw [aAy,hV];rfl,by rw [aAy];exact hM'⟩
end
section
variable {P:Program}{B:Code}{fn:Func}{Φ:Ending->World->Prop}{n:Nat}{p:Option (Nat×Nat)}{L:Frm}{w:World}{F:List Ft}
theorem aWH (t:Nat) (T:TypeId) {g:Nat}(v:Value) (hr:fn.results=#[.cell t T]) (hv:(Instr.loadAt T (vP g 0)).run P w = .ok v w) (hF:aBp P w F) (k:Φ (.returned v) w) (h:aQO (go P w n B p L 1000000 0 F) [(t,vP g 0)] L=aMw (go P w n B p L 1000000 0 F) [(t,vP g 0)]:=by kernel_rfl):AtO P B (aAL (bodyPost P fn Φ)) [] n p L w :=
 aRP [(t,vP g 0)] hF h fun a E=>by
  have hv':a.eval (.tmp t)=vP g 0:=E.at_ t _ (by simp [Go.Pl.look])
  have key:∃ u,(results fn a.tmps).run P w = .ok u w /\ Φ (.returned u) w:=⟨v,by
   have hl:a.tmps.getD t undef=vP g 0:=hv';simp only [Instr.loadAt,Instr.sureAddr,Sem.run_bind,Sem.run_pure,Result.andThen_ok] at hv;have hl':a.tmps[t]?.getD undef=vP g 0:=by simpa using hl
   simp [results,hr,hl',asAddr,hv],k⟩
  exact ⟨⟨E.df,key⟩,⟨E.df,key⟩⟩
theorem aY6 (T:TypeId) {K e:TypeId}{b n:Nat}{m:Value->Option Value}(ht:P.underlying T=some (.map K e)) (h:aDP P K w b n m):∃ c:Nat,c<=n /\ ∀ w',w'.heap[b]?=w.heap[b]?->Ft.ok P w' (.g1 (fun x => .call ⟨.builtin .len,#[x],#[T]⟩) (.map (some b)) (vI c)):=by
 obtain ⟨c,h1,_,h2⟩:=h.len ht;refine ⟨c,h1,fun w' hw o ρ x ho hx=>?_⟩;have:=h2 w' o.type hw;simp [execOp,ho,hx,resolve,invoke,builtin,this,Result.andThen]
end
end Go.Pl
namespace Go.Proofs.YtngjlnhojicjeaaGreatDoor
open Go.RowKit Go.Pl
def bxI (b:Pt×Pt) (L:List Pt):Pt×Pt:=L.foldl (fun b p=>((min b.1.1 p.1,min b.1.2 p.2),(max b.2.1 p.1,max b.2.2 p.2))) b
def aAc (L:List Pt):Pt×Pt:=bxI (L.headD (0,0),L.headD (0,0)) L
theorem aRh (b:Pt×Pt) (L:List Pt) (p:Pt):bxI b (L++[p])=((min (bxI b L).1.1 p.1,min (bxI b L).1.2 p.2),(max (bxI b L).2.1 p.1,max (bxI b L).2.2 p.2)):=by unfold bxI;rw [List.foldl_append];rfl
theorem aTs {L:List Pt}{p:Pt}(h:L[0]?=some p):L.headD (0,0)=p:=by cases L with | nil=>cases h | cons a l=>cases h;rfl
abbrev bxV (b:Pt×Pt):Value := .agg #[vI b.1.1,vI b.1.2,vI b.2.1,vI b.2.2]
abbrev A59 (Z:Ending->World->Prop):=AtO Tryz.prog (aAw Tryz.f58) (aAL (bodyPost Tryz.prog Tryz.f58 Z)) [] 49
theorem aEP {w:World}{p:Option Addr}{cap:Nat}{L:List Pt}(hs:SrcP ptL 2 w p cap L) (h0:0<L.length):Calls Tryz.prog 58 #[vL p L.length cap] w fun e w'=>e = .returned (bxV (aAc L)) /\ Fr nF_ w w':=by
  have bb:=hs.bnd;refine beg Tryz.func58 rfl rfl [(0,vL p L.length cap)] rfl rfl fun Y hY=>?_;have hM:=Mm.nil nF_ w;refine aAu 0 0 2 [] (cs:=#[vI 0,vI 0,vI 0,vI 0]) (T:=97) (v:=fun b=>vP b 0) f0 hM fun ab w1 hM=>seg 1 0 [] f0 ?_;obtain ⟨p0,hp0,aj,ak,q94,ac⟩:=hs.el (i:=0) (by omega);have hM:=hM.nl;refine drx [7,8] (fun Z=>[some (vP (bn (Z 0)) 0),none]) _ (fun Z l=>[bk ab #[vI 0,vI 0,vI 0,vI 0] 97,(bif l.getD 1 false then bk (bn (Z 0)) #[vI p0.1,vI p0.2,vI p0.1,vI p0.2] 97 else (bif l.getD 0 false then bk (bn (Z 0)) #[vI 0,vI 0,vI 0,vI 0] 97 else aEK))]) (fun Z=>[(3,vP (bn (Z 0)) 0)]) hM (fun Z=>rfl) (fun Z l w5 hM=>(fc (ix 100 cap q94 (gl hp0)) (fc (la0 29 hM ac) (fc (ix 100 cap q94 (gl hp0)) (fc (la0 29 hM ac) f0))))) ⟨aDx 0 7 1 3 (fun Z=>#[vI 0,vI 0,vI 0,vI 0]) 97 (fun b=>vP b 0),aCz 1 8 97 1 0 (fun Z=>(bn (Z 0))) (fun Z l=>#[vI 0,vI 0,vI 0,vI 0]) 97 (fun Z => .agg #[vI p0.1,vI p0.2,vI p0.1,vI p0.2]),trivial⟩ fun aa w1 hM=>?_;replace hM:Mm nF_ w w1 [bk ab #[vI 0,vI 0,vI 0,vI 0] 97,bk (bn (aa 0)) #[vI p0.1,vI p0.2,vI p0.1,vI p0.2] 97]:=hM;have hhd:=aTs hp0;refine seg 3 0 [(13,vL p L.length cap),(14,vI (L.length:Int)),(15,vI 0)] f0 ?_
  have ae:∀ (ad:Nat) (i:Nat) (B:Pt×Pt) (w2:World),i<=L.length->B=bxI (p0,p0) (L.take i)->Mm nF_ w w2 [bk ab #[vI 0,vI 0,vI 0,vI 0] 97,bk (bn (aa 0)) #[vI B.1.1,vI B.1.2,vI B.2.1,vI B.2.2] 97]->ad=L.length-i->A59 Y (some (3,0)) [(15,vI (i:Int)),(14,vI (L.length:Int)),(13,vL p L.length cap),(3,vP (bn (aa 0)) 0),(2,vP ab 0)] w2:=by
   refine aCx fun ad af i B w2 hi hB hM al=>seg 3 1 [(16,vB (decide ((i:Int)<(L.length:Int))))] f0 ?_;cases h99:(decide ((i:Int)<(L.length:Int)))
   ·have ag:=df h99;refine stm 8 1 [(48,.agg #[vI B.1.1,vI B.1.2,vI B.2.1,vI B.2.2])] 97 0 0 (.agg #[vI B.1.1,vI B.1.2,vI B.2.1,vI B.2.2]) (fc (lam 97 1 0 4 hM rfl) f0) hM rfl fun w1 hM=>?_;have hl9:=aBT 97 0 (P:=Tryz.prog) (n:=4) hM rfl rfl;exact aWH 2 97 (bxV B) rfl hl9 f0 (hY _ _ ⟨by unfold aAc;rw [hhd,hB,Gc_ (by omega)],hM.fr⟩)
   have ag:=dt h99;obtain ⟨y,hy,am,an,ah,ai⟩:=hs.el (i:=i) (by omega);refine aBY 4 2 5 [(18,.agg #[vI y.1,vI y.2])] [] 29 (.agg #[vI y.1,vI y.2]) (fc (ix 100 cap ah (gl hy)) (fc (la0 29 hM ai) f0)) hM fun ao w1 hM=>stm 5 14 [(31,.agg #[vI (min B.1.1 y.1),vI (min B.1.2 y.2)]),(32,vP (bn (aa 0)) 0)] 29 1 0 (.agg #[vI (min B.1.1 y.1),vI (min B.1.2 y.2)]) (fc (ldm 3 1 0 hM rfl rfl) (fc (ldm 3 2 0 hM rfl rfl) (fc (aSt 3 B.1.1 y.1) (fc (ldm 3 1 1 hM rfl rfl) (fc (ldm 3 2 1 hM rfl rfl) (fc (aSt 3 B.1.2 y.2) f0)))))) hM rfl fun w1 hM=>stm 6 14 [(45,.agg #[vI (max B.2.1 y.1),vI (max B.2.2 y.2)]),(46,vP (bn (aa 0)) 2)] 29 1 2 (.agg #[vI (max B.2.1 y.1),vI (max B.2.2 y.2)]) (fc (ldm 3 1 2 hM rfl rfl) (fc (ldm 3 2 0 hM rfl rfl) (fc (aU0 3 B.2.1 y.1) (fc (ldm 3 1 3 hM rfl rfl) (fc (ldm 3 2 1 hM rfl rfl) (fc (aU0 3 B.2.2 y.2) f0)))))) hM rfl fun w1 hM=>seg 3 0 [(15,vI ((i:Int)+1))] (fc (aAI (i:Int) 1 u3_) f0) ?_;have hM:=hM.pick [0,1];exact aAh _ (af _ (by have:=gl hy;omega) (i+1) ((min B.1.1 y.1,min B.1.2 y.2),(max B.2.1 y.1,max B.2.2 y.2)) _ (gl hy) (by rw [gt_ hy,aRh,←hB]) hM rfl)
  exact aAh _ (ae _ 0 (p0,p0) _ (Gg_ _) rfl hM rfl)
theorem aTh {w:World}:Calls Tryz.prog 74 #[] w fun e w'=>∃ ix mb,e = .returned (vP ix 0) /\ Mm nF_ w w' [bk ix #[.map (some mb),.pointer none,.bool false] 182,mp Tryz.prog 9 mb 0 (fun _=>none)]:=by
  refine beg Tryz.func74 rfl rfl [] rfl rfl fun Z hZ=>?_;have hM:=Mm.nil nF_ w;refine aNJ 1 0 1 [] 9 f0 hM fun aa w1 hM=>aAu 1 2 3 [(2,.agg #[.map (some aa),.pointer none,vB false])] (cs:=#[.map (some aa),.pointer none,vB false]) (T:=182) (v:=fun b=>vP b 0) f0 hM fun ab w1 hM=>rt1 0 (vP ab 0) rfl f0 (hZ _ _ ⟨_,_,rfl,hM.pick [1,0]⟩)
abbrev aZx (Z:Ending->World->Prop):=AtO Tryz.prog (aAw Tryz.f193) (aAL (bodyPost Tryz.prog Tryz.f193 Z)) [] 19
theorem aMb {w:World}{B:Nat}{p:Option Addr}{cap:Nat}{L:List Int}{f:FuncId}{caps:Array Value}{G:Nat->Prop}(hs:SrcB inL 1 w B p cap L) (hG:∀ k,G k->B<=k) (eg:aIL Tryz.prog f) (I:Nat->World->Prop) (q:Nat->Bool) (h0:I 0 w) (step:∀ i x w1,L[i]?=some x->(∀ j,j<i->q j=false)->I i w1->Fr G w w1->Calls Tryz.prog f (#[vI x]++caps) w1 fun e w2=>e = .returned (vB (q i)) /\ I (i+1) w2 /\ Fr G w1 w2):Calls Tryz.prog 193 #[vL p L.length cap,.func (.func f) #[] caps] w fun e w'=>(∃ z,e = .returned (vI z) /\ Fst L q I w' z) /\ Fr G w w':=by
  have bb:=hs.bnd;refine beg Tryz.func193 rfl rfl [(0,vL p L.length cap),(1,.func (.func f) #[] caps)] rfl rfl fun Z hZ=>?_;have hM:=Mm.nil G w;refine seg 2 0 [(7,vI (L.length:Int)),(8,vI 0)] f0 ?_
  have af:∀ (ab:Nat) (i:Nat) (w2:World),i<=L.length->(∀ j,j<i->q j=false)->I i w2->Mm G w w2 []->ab=L.length-i->aZx Z (some (2,0)) [(8,vI (i:Int)),(7,vI (L.length:Int)),(0,vL p L.length cap),(1,.func (.func f) #[] caps)] w2:=by
   refine aCx fun ab ag i w2 hi hq hI hM ak=>seg 2 1 [(9,vB (decide ((i:Int)<(L.length:Int))))] f0 ?_;cases ac:(decide ((i:Int)<(L.length:Int)))
   ·have ah:=df ac;exact rt1 4 (vI (-1)) rfl f0 (hZ _ _ ⟨⟨_,rfl,.end_ (by omega) hq hI⟩,hM.fr⟩)
   have ah:=dt ac;obtain ⟨ad,aa,al,am,ai,aj,n108⟩:=(hs).eb hG (i:=i) (by omega);refine aT8 4 5 16 [(5,vI (i:Int)),(11,.func (.func f) #[] caps),(15,vI ad)] #[3] (K:=fun u w9=>u=vB (q i) /\ I (i+1) w9 /\ Fr G w2 w9) (by decide) (fc (ix 167 cap ai (gl aa)) (fc (ld0 3 hM (aj 0 _ rfl) n108) f0)) eg ((step i ad _ aa hq hI hM.fr).mono fun e w9 h=>⟨_,h.1,rfl,h.2⟩) fun u w1 ⟨hu,hI,f1⟩=>?_;subst hu;have hM:=hM.g f1;cases ae:(q i)
   ·refine seg 2 0 [(8,vI ((i:Int)+1))] (fc (aAI (i:Int) 1 u3_) f0) (aAh _ (ag _ (by omega) (i+1) _ (gl aa) (fun j hj=>by rcases Nat.lt_succ_iff_lt_or_eq.1 hj with h | h;exact hq j h;rw [h];exact ae) hI hM rfl))
   exact rt1 4 (vI (i:Int)) rfl f0 (hZ _ _ ⟨⟨_,rfl,.some i (gl aa) ae hq hI⟩,hM.fr⟩)
  exact aAh _ (af _ 0 _ (Gg_ _) (fun _ h=>absurd h (Nat.not_lt_zero _)) h0 hM rfl)
theorem aOG {w:World}{B:Nat}{p:Option Addr}{cap:Nat}{L:List Int}{f:FuncId}{caps:Array Value}{G:Nat->Prop}(hs:SrcB inL 1 w B p cap L) (hG:∀ k,G k->B<=k) (eg:aIL Tryz.prog f) (I:Nat->World->Prop) (q:Nat->Bool) (h0:I 0 w) (step:∀ i x w1,L[i]?=some x->(∀ j,j<i->q j=false)->I i w1->Fr G w w1->Calls Tryz.prog f (#[vI x]++caps) w1 fun e w2=>e = .returned (vB (q i)) /\ I (i+1) w2 /\ Fr G w1 w2):Calls Tryz.prog 148 #[vL p L.length cap,.func (.func f) #[] caps] w fun e w'=>(∃ z,e = .returned (vB (decide (0<=z))) /\ Fst L q I w' z) /\ Fr G w w':=by
  refine beg Tryz.func148 rfl rfl [(0,vL p L.length cap),(1,.func (.func f) #[] caps)] rfl rfl fun Z hZ=>?_;have hM:=Mm.nil G w;refine cal 1 2 7 [(5,vL p L.length cap),(6,.func (.func f) #[] caps)] (K:=fun u w8=>∃ z,u=vI z /\ Fst L q I w8 z /\ Fr G w w8) f0 ((aMb hs hG eg I q h0 step).mono fun e w9 h=>⟨_,h.1.choose_spec.1,_,rfl,h.1.choose_spec.2,h.2⟩) fun u w1 ⟨z,hu,hz,f1⟩=>?_;subst hu;have hM:=hM.g f1;exact rt1 4 (vB (decide (0<=z))) rfl f0 (hZ _ _ ⟨⟨_,rfl,hz⟩,hM.fr⟩)
def aMx (n:Int):Bool:=decide (n < -2097152)||decide (2097152<n)
theorem aGK {w:World}(n:Int):Calls Tryz.prog 149 #[vI n] w fun e w'=>e = .returned (vB (aMx n)) /\ Fr nF_ w w':=by
  refine beg Tryz.func149 rfl rfl [(0,vI n)] rfl rfl fun Z hZ=>?_;have hM:=Mm.nil nF_ w;refine seg 1 3 [(5,vB (decide (n<(-2097152))))] f0 ?_;cases aa:(decide (n<(-2097152)))
  ·exact rt1 2 (vB (decide (2097152<n))) rfl f0 (hZ _ _ ⟨by unfold aMx;simp only [aa]<;>rfl,hM.fr⟩)
  exact rt1 2 (vB true) rfl f0 (hZ _ _ ⟨by unfold aMx;simp only [aa]<;>rfl,hM.fr⟩)
def atQ {α:Type}(L:List α) (q:α->Bool) (i:Nat):Bool:=match L[i]? with | some x=>q x | none=>false
theorem aHx {α:Type}{L:List α}{q:α->Bool}{I:Nat->World->Prop}{w:World}{z:Int}(h:Fst L (atQ L q) I w z):decide (0<=z)=L.any q:=by
  cases h with
  | none hq _ =>
    have:L.any q=false:=by
      rw [List.any_eq_false];intro x hx;obtain ⟨i,hi,rfl⟩:=List.mem_iff_getElem.1 hx;have:=hq i hi;unfold atQ at this;simp only [Gb_ hi] at this;rw [this];simp
    rw [this];rfl
  | some i hi hw _ _ =>
    unfold atQ at hw;simp only [Gb_ hi] at hw;have:L.any q=true:=List.any_eq_true.2 ⟨_,List.getElem_mem hi,hw⟩;rw [this,decide_eq_true (by omega)]
theorem aHt {w:World}{p:Option Addr}{cap:Nat}{L:List Int}(hs:SrcP inL 1 w p cap L):Calls Tryz.prog 106 #[vL p L.length cap] w fun e w'=>e = .returned (vB (!(L.any aMx))) /\ Fr nF_ w w':=by
  refine beg Tryz.func106 rfl rfl [(0,vL p L.length cap)] rfl rfl fun Z hZ=>?_;have hM:=Mm.nil nF_ w;refine aAx 1 1 4 [(3,vL p L.length cap)] f0 hM ((aOG (caps:=#[]) (hs.b hM.fr) (G:=fun _=>False) (fun _ h=>h.elim) (enters_of Tryz.func149 (by kernel_rfl) rfl) (fun _ _=>True) (atQ L aMx) trivial (fun i x w1 hx _ _ f=>(aGK x).mono fun e w2 h=>⟨by rw [h.1];unfold atQ;simp only [hx],trivial,h.2⟩)).mono fun e w9 h=>⟨by obtain ⟨z,h1,h2⟩:=h.1;rw [h1,aHx h2],h.2⟩) fun w1 hM=>rt1 2 (vB (!(L.any aMx))) rfl f0 (hZ _ _ ⟨by rfl,hM.fr⟩)
theorem aY1 (b k:Nat) {w:World}:Ft.ok Tryz.prog w (.g2 (fun x y => .binOp .eql 91 x y 91) (vP b k) (.pointer none) (vB false)):=fun o ρ x y ho hx hy=>by
 simp [execOp,ho,hx,hy,go_sem]
def bxF (m:Bys->Option (Pt×Pt)):Value->Option Value
 | .string s=>(m s.toList).map bxV
 | _=>none
theorem aSc (m:Bys->Option (Pt×Pt)) (s:Bys):bxF m (vS s)=(m s).map bxV:=by
 show (m (ofL s).toList).map bxV=_;rw [aAC]
theorem aTA:(fun _=>none)=bxF (fun _=>none):=by funext v;cases v<;>rfl
def aHC (m:Bys->Option (Pt×Pt)) (s:Bys) (b:Pt×Pt):Bys->Option (Pt×Pt):=fun t=>if t=s then some b else m t
theorem aT9 (m:Bys->Option (Pt×Pt)) (s:Bys) (b:Pt×Pt):upd (bxF m) (vS s) (bxV b)=bxF (aHC m s b):=by
 funext v
 by_cases hv:v=vS s
 ·subst hv;rw [aSc];unfold aHC;simp [upd]
 ·unfold upd;rw [if_neg hv]
  cases v with
  | string t =>
   show (m t.toList).map bxV=(aHC m s b t.toList).map bxV;unfold aHC;rw [if_neg];intro e;apply hv;show Value.string t = .string (ofL s);rw [←e,ofL_of]
  | _=>rfl
theorem aXg (m:Bys->Option (Pt×Pt)) (s:Bys):(.tuple #[(bxF m (vS s)).getD (bxV ((0,0),(0,0))),.bool (bxF m (vS s)).isSome]:Value) = .tuple #[bxV ((m s).getD ((0,0),(0,0))),vB (m s).isSome]:=by
 rw [aSc];cases m s<;>rfl
theorem aRp (w:World):(zeroValue 97).run Tryz.prog w = .ok (bxV ((0,0),(0,0))) w:=by kernel_rfl
end Go.Proofs.YtngjlnhojicjeaaGreatDoor
namespace Go.Pl
open Go.RowKit Go.Proofs.YtngjlnhojicjeaaGreatDoor
section
variable {P:Program}{w w0:World}{rd:Option Nat}{B:Code}{r n:Nat}{L:Frm}{ef:List Nat}{V:Lts->List (Option Value)}{F:Lts->List Ft}{ds:List Deferred}{F0:Nat->Prop}{Mf:Lts->List Bool->List Ent}
theorem aVM (p i j d:Nat) (K:TypeId)
  (hj:∀ γ fr,(Mf γ (flg B r ef i fr))[j]?=some aEK:=by intro γ fr;kernel_rfl)
  (hm:∀ γ fr (b:Nat),(Mf γ (flg B r ef i fr)).set j (mp P K b 0 fun _=>none)=Mf (aBN γ p (vI (b:Int))) ((flg B r ef i fr).set p true):=by intro γ fr b;kernel_rfl)
  (hV:∀ γ (b:Nat),((V (aBN γ p (vI (b:Int))))[p]?).getD none=some (.map (some b)):=by intro γ b;rfl)
  (hs:∀ γ wm,opX P wm (aA5 B r) i (frX P w n B r L ef V F i γ)=some (some d,.ok (.value (.map (some wm.heap.size)),wm.alloc (.map #[] 0))):=by intro γ wm;kernel_rfl):Arm rd P w n B r L ef V F ds F0 w0 Mf p i:=by
 intro γ fr a wm Q o ho E hw hM;obtain ⟨h1,h2⟩:=aR4 ho E (hs γ wm);have hM':=hM.put j (hj γ fr) ((Fr.refl nF_ wm).alloc (.map #[] 0)) (fun k _ e=>e.elim) (e':=mp P K wm.heap.size 0 fun _=>none) (aDP.made wm) fun k e => .inr (by have:k=wm.heap.size:=e;omega);rw [hm] at hM';exact aDy h2 ⟨_,γ.e p,by rw [aAy,hV,h1];rfl,by rw [aAy];exact hM'⟩
theorem aOV (p i j d:Nat) {f:FuncId}(args:Lts->Array Value) (K:Nat->Ent->Prop)
  (hc:∀ γ fr wm,Mm F0 w0 wm (Mf γ (flg B r ef i fr))->Calls P f (args γ) wm fun x w'=>∃ u e,x = .returned (vP u 0) /\ K u e /\ Mm nF_ wm w' [e])
  (hj:∀ γ fr,(Mf γ (flg B r ef i fr))[j]?=some aEK:=by intro γ fr;kernel_rfl)
  (hm:∀ γ fr (u:Nat) e,(Mf γ (flg B r ef i fr)).set j (pfE (K u) e)=Mf (aFa (aBN γ p (vI (u:Int))) p e) ((flg B r ef i fr).set p true):=by intro γ fr u e;kernel_rfl)
  (hV:∀ γ (u:Nat) e,((V (aFa (aBN γ p (vI (u:Int))) p e))[p]?).getD none=some (vP u 0):=by intro γ u e;rfl)
  (hs:∀ γ wm,enL P wm (aA5 B r) i (frX P w n B r L ef V F i γ)=some (f,args γ,some d,wm):=by intro γ wm;kernel_rfl):Arm rd P w n B r L ef V F ds F0 w0 Mf p i:=by
 intro γ fr a wm Q o ho En hw hM;obtain ⟨h1,h2⟩:=aIz ho En (hs γ wm);refine aC5 (R:=fun v w'=>∃ u e,v=vP u 0 /\ K u e /\ Mm nF_ wm w' [e]) h1 ((hc γ fr wm hM).mono fun x w' ⟨u,e,g1,g2,g3⟩=>⟨_,g1,u,e,rfl,g2,g3⟩) fun v w' ⟨u,e,hv,g2,g3⟩=>?_;subst hv
 have hM':=hM.put (w':=w') j (hj γ fr) g3.fr (fun k _ e=>e.elim) (e':=pfE (K u) e) ⟨g2,g3.get 0 rfl⟩ (fun k hk => .inr (by
  rcases Nat.lt_or_ge k wm.heap.size with h | h
  ·exact (g3.own e (.head _) k hk h).elim
  ·exact h))
 rw [hm] at hM';exact ⟨vI (u:Int),e,by rw [hV,h2];rfl,hM'⟩
def tp0:Value->Value
 | .tuple a=>a.getD 0 .nilIface
 | _ => .nilIface
def tp1:Value->Int
 | .tuple a=>match a.getD 1 .nilIface with
  | .int _ z=>z
  | _=>0
 | _=>0
theorem aH8 (p i j d:Nat) {f:FuncId}(args:Lts->Array Value) (K:Value->Int->Ent->Prop)
  (hc:∀ γ fr wm,Mm F0 w0 wm (Mf γ (flg B r ef i fr))->Calls P f (args γ) wm fun x w'=>∃ u z e,x = .returned (.tuple #[u,vI z]) /\ K u z e /\ Mm nF_ wm w' [e])
  (hj:∀ γ fr,(Mf γ (flg B r ef i fr))[j]?=some aEK:=by intro γ fr;kernel_rfl)
  (hm:∀ γ fr u (z:Int) e,(Mf γ (flg B r ef i fr)).set j (pfE (K u z) e)=Mf (aFa (aBN γ p (.tuple #[u,vI z])) p e) ((flg B r ef i fr).set p true):=by intro γ fr u z e;kernel_rfl)
  (hV:∀ γ u (z:Int) e,((V (aFa (aBN γ p (.tuple #[u,vI z])) p e))[p]?).getD none=some (.tuple #[u,vI z]):=by intro γ u z e;rfl)
  (hs:∀ γ wm,enL P wm (aA5 B r) i (frX P w n B r L ef V F i γ)=some (f,args γ,some d,wm):=by intro γ wm;kernel_rfl):Arm rd P w n B r L ef V F ds F0 w0 Mf p i:=by
 intro γ fr a wm Q o ho En hw hM;obtain ⟨h1,h2⟩:=aIz ho En (hs γ wm);refine aC5 (R:=fun v w'=>∃ u z e,v = .tuple #[u,vI z] /\ K u z e /\ Mm nF_ wm w' [e]) h1 ((hc γ fr wm hM).mono fun x w' ⟨u,z,e,g1,g2,g3⟩=>⟨_,g1,u,z,e,rfl,g2,g3⟩) fun v w' ⟨u,z,e,hv,g2,g3⟩=>?_;subst hv
 have hM':=hM.put (w':=w') j (hj γ fr) g3.fr (fun k _ e=>e.elim) (e':=pfE (K u z) e) ⟨g2,g3.get 0 rfl⟩ (fun k hk => .inr (by
  rcases Nat.lt_or_ge k wm.heap.size with h | h
  ·exact (g3.own e (.head _) k hk h).elim
  ·exact h))
 rw [hm] at hM';exact ⟨.tuple #[u,vI z],e,by rw [hV,h2];rfl,hM'⟩
theorem aOW (p i j d:Nat) {f:FuncId}(args:Lts->Array Value) (e0:Lts->Ent) (K:Value->Ent->Prop)
  (hc:∀ γ fr wm,Mm F0 w0 wm (Mf γ (flg B r ef i fr))->Mm (BlM [e0 γ]) wm wm [e0 γ]->Calls P f (args γ) wm fun x w'=>∃ u e,x = .returned u /\ K u e /\ Mm (BlM [e0 γ]) wm w' [e])
  (hj:∀ γ fr,(Mf γ (flg B r ef i fr))[j]?=some (e0 γ):=by intro γ fr;kernel_rfl)
  (hm:∀ γ fr u e,(Mf γ (flg B r ef i fr)).set j (pfE (K u) e)=Mf (aFa (aBN γ p u) p e) ((flg B r ef i fr).set p true):=by intro γ fr u e;kernel_rfl)
  (hV:∀ γ u e,((V (aFa (aBN γ p u) p e))[p]?).getD none=some u:=by intro γ u e;rfl)
  (hs:∀ γ wm,enL P wm (aA5 B r) i (frX P w n B r L ef V F i γ)=some (f,args γ,some d,wm):=by intro γ wm;kernel_rfl):Arm rd P w n B r L ef V F ds F0 w0 Mf p i:=by
 intro γ fr a wm Q o ho En hw hM;obtain ⟨h1,h2⟩:=aIz ho En (hs γ wm);have h1M:Mm (BlM [e0 γ]) wm wm [e0 γ]:=⟨Fr.refl _ _,fun x hx=>by rw [Gd_] at hx;subst hx;exact hM.get j (hj γ fr),fun x hx k hk _=>⟨x,hx,hk⟩,List.pairwise_singleton _ _⟩;refine aC5 (R:=fun u w'=>∃ e,K u e /\ Mm (BlM [e0 γ]) wm w' [e]) h1 ((hc γ fr wm hM h1M).mono fun x w' ⟨u,e,g1,g2,g3⟩=>⟨u,g1,e,g2,g3⟩) fun u w' ⟨e,g2,g⟩=>?_
 have hB:∀ k,BlM [e0 γ] k->(e0 γ).B k:=fun k hk=>by
  obtain ⟨x,hx,hk⟩:=hk;rw [Gd_] at hx;subst hx;exact hk
 have hM':=hM.put (w':=w') j (hj γ fr) g.fr (fun k _ h=>hB k h) (e':=pfE (K u) e) ⟨g2,g.get 0 rfl⟩ (fun k hk=>by
  by_cases hlt:k<wm.heap.size
  ·exact .inl (hB k (g.own _ (.head _) k hk hlt))
  ·exact .inr (by omega))
 rw [hm] at hM';exact ⟨u,e,by rw [hV,h2];rfl,hM'⟩
end
section
variable {F0:Nat->Prop}{w0 w:World}
theorem Mm.ung {A Ms C:List Ent}(h:Mm F0 w0 w (A++aBL Ms::C)):Mm F0 w0 w (A++(Ms++C)):=by
 obtain ⟨n1,n2,n3⟩:=List.pairwise_append.1 h.nd;obtain ⟨n4,n5⟩:=List.pairwise_cons.1 n2;have hg:(aBL Ms).H w:=h.at_ _ (List.mem_append_right _ (.head _));refine ⟨h.fr,fun x hx=>?_,fun x hx k hk hl=>?_,?_⟩
 ·rcases List.mem_append.1 hx with hx | hx
  ·exact h.at_ x (Gr_ _ hx)
  ·rcases List.mem_append.1 hx with hx | hx
   ·exact hg.1 x hx
   ·exact h.at_ x (List.mem_append_right _ (.tail _ hx))
 ·rcases List.mem_append.1 hx with hx | hx
  ·exact h.own x (Gr_ _ hx) k hk hl
  ·rcases List.mem_append.1 hx with hx | hx
   ·exact h.own (aBL Ms) (List.mem_append_right _ (.head _)) k ⟨x,hx,hk⟩ hl
   ·exact h.own x (List.mem_append_right _ (.tail _ hx)) k hk hl
 ·refine List.pairwise_append.2 ⟨n1,List.pairwise_append.2 ⟨hg.2,n5,fun x hx y hy k hk=>n4 y hy k ⟨x,hx,hk⟩⟩,fun x hx y hy k hk hk'=>?_⟩;rcases List.mem_append.1 hy with hy | hy
  ·exact n3 x hx (aBL Ms) (.head _) k hk ⟨y,hy,hk'⟩
  ·exact n3 x hx y (.tail _ hy) k hk hk'
end
end Go.Pl
namespace Go.Proofs.YtngjlnhojicjeaaGreatDoor
open Go.RowKit Go.Pl
def sgL (s:Pt×Pt):List Value:=[vI s.1.1,vI s.1.2,vI s.2.1,vI s.2.2]
theorem sgT:ElT Tryz.prog sgL 4 99 126:=⟨fun _=>rfl,by decide,fun x u hu=>by
 unfold sgL at hu;simp only [List.mem_cons,List.not_mem_nil,or_false] at hu;rcases hu with rfl | rfl | rfl | rfl<;>rfl,Tryz.underlying99,aDs (by kernel_rfl)⟩
abbrev ixG (ix mb:Nat) (rv:Value) (pk:Bool) (nb:Nat) (m:Bys->Option (Pt×Pt)):Ent:=aBL [bk ix #[.map (some mb),rv,vB pk] 182,mp Tryz.prog 9 mb nb (bxF m)]
def aWf (b:Nat) (e:Ent):Prop:=∃ mb,e=ixG b mb (.pointer none) false 0 (fun _=>none)
theorem aVk {w:World}:Calls Tryz.prog 74 #[] w fun e w'=>∃ u e',e = .returned (vP u 0) /\ aWf u e' /\ Mm nF_ w w' [e'] :=
 aTh.mono fun e w' ⟨ix,mb,h1,h2⟩=>⟨_,_,h1,⟨mb,rfl⟩,by rw [aTA] at h2;exact aCW (A:=[]) h2⟩
theorem aKJ {o:Ob}(h:aAW o=true):aG4 o.kind<=(o.refs.length:Int):=by
 unfold aAW at h;simp only [Ga_,Bool.not_eq_true',decide_eq_false_iff_not] at h;have:=h.1.1.1.2;omega
theorem aNr {l:List Ob}{s:Bys}(hv:aAl l=true) (h:(aAf l s).1=0):0<(aAf l s).2.length:=by
 unfold aAf at h ⊢;rw [hv] at h ⊢
 cases hd:decide (aAv l s<0) with
 | true=>rw [hd] at h;cases h
 | false =>
  rw [hd] at h;simp only [Bool.not_true,cond_false] at h ⊢
  cases ho:l[(aAv l s).toNat]? with
  | none=>rw [ho] at h;cases h
  | some o =>
   rw [ho] at h;simp only at h ⊢;unfold aAG at h ⊢;have hvo:=aCk hv o (Ge_ ho)
   cases h1:o.kind==1 with
   | true=>simp
   | false =>
    rw [h1] at h;simp only [cond_false] at h ⊢
    cases h2:(o.kind==2)||(o.kind==3) with
    | false=>rw [h2] at h;cases h
    | true =>
     rw [h2] at h;simp only [cond_true] at h ⊢
     cases ha:o.refs.all fun r=>(aCB l r).isSome with
     | false=>rw [ha] at h;cases h
     | true =>
      simp only [cond_true,Go_];have:=aKJ hvo;rw [Bool.or_eq_true] at h2;rcases h2 with h2 | h2
      ·rw [et h2] at this;have:(2:Int)<=o.refs.length:=this;omega
      ·rw [et h2] at this;have:(3:Int)<=o.refs.length:=this;omega
theorem aUM {l:List Ob}{s:Bys}(hv:aAl l=true):(aAf l s).2.length<=2000:=by
 unfold aAf;rw [hv]
 cases hd:decide (aAv l s<0) with
 | true=>simp
 | false =>
  simp only [Bool.not_true,cond_false]
  cases ho:l[(aAv l s).toNat]? with
  | none=>simp
  | some o =>
   have h2:=aHd (aCk hv o (Ge_ ho));simp only;unfold aAG
   cases h1:o.kind==1 with
   | true=>simp
   | false =>
    cases h3:(o.kind==2)||(o.kind==3) with
    | false=>simp
    | true =>
     cases ha:o.refs.all fun r=>(aCB l r).isSome with
     | false=>simp
     | true=>simp only [cond_false,cond_true,Go_];exact h2
theorem aIn {w:World}{G:Nat->Prop}{ix mb n:Nat}{rv:Value}{pk:Bool}{m:Bys->Option (Pt×Pt)}(hM0:Mm G w w [bk ix #[.map (some mb),rv,vB pk] 182,mp Tryz.prog 9 mb n (bxF m)]) {s:Bys}(hs:B63 s) {b:Pt×Pt}(hv:([b.1.1,b.1.2,b.2.1,b.2.2].any aMx)=false) (hx:(decide (b.2.1<b.1.1))=false) (hy:(decide (b.2.2<b.1.2))=false) (hms:(m s).isSome=false) (hn:n<1000000):Calls Tryz.prog 76 #[vP ix 0,vS s,bxV b] w fun e w'=>e = .returned (vI 0) /\ Mm G w w' [bk ix #[.map (some mb),rv,vB false] 182,mp Tryz.prog 9 mb (n+1) (bxF (aHC m s b))]:=by
  refine beg Tryz.func76 rfl rfl [(0,vP ix 0),(1,vS s),(2,.agg #[vI b.1.1,vI b.1.2,vI b.2.1,vI b.2.2])] rfl rfl fun Y hY=>?_;have hM:=hM0;refine aAu 0 0 5 [] (cs:=#[vI b.1.1,vI b.1.2,vI b.2.1,vI b.2.2]) (T:=97) (v:=fun b=>vP b 0) f0 hM fun aa w1 hM=>aAu 1 15 24 [(11,vB false),(14,vI b.1.1),(17,vI b.1.2),(20,vI b.2.1),(23,vI b.2.2)] (cs:=#[vI b.1.1,vI b.1.2,vI b.2.1,vI b.2.2]) (T:=3) (v:=fun b=>vL (some ⟨b,0,none⟩) 4 4) (fc (aY1 ix 0) (fc (ldm 3 2 0 hM rfl rfl) (fc (ldm 3 2 1 hM rfl rfl) (fc (ldm 3 2 2 hM rfl rfl) (fc (ldm 3 2 3 hM rfl rfl) f0))))) hM fun ab w1 hM=>aAx 1 16 25 [] f0 hM (aHt (L:=[b.1.1,b.1.2,b.2.1,b.2.2]) (aBH (f:=inL) (c:=1) (hM.get 3 rfl) [b.1.1,b.1.2,b.2.1,b.2.2] 4 (fun _=>rfl) rfl rfl)) fun w1 hM=>seg 1 20 [(28,vB (!(!([b.1.1,b.1.2,b.2.1,b.2.2].any aMx))))] f0 ?_;cases ad:([b.1.1,b.1.2,b.2.1,b.2.2].any aMx)
  rotate_left
  ·exact absurd (ad.symm.trans hv) (by decide)
  refine seg 1 29 [(37,vB (decide (b.2.1<b.1.1)))] (fc (ldm 3 2 0 hM rfl rfl) (fc (ldm 3 2 2 hM rfl rfl) f0)) ?_;cases ae:(decide (b.2.1<b.1.1))
  rotate_left
  ·exact absurd (ae.symm.trans hx) (by decide)
  refine seg 1 37 [(45,vB (decide (b.2.2<b.1.2)))] (fc (ldm 3 2 1 hM rfl rfl) (fc (ldm 3 2 3 hM rfl rfl) f0)) ?_;cases af:(decide (b.2.2<b.1.2))
  rotate_left
  ·exact absurd (af.symm.trans hy) (by decide)
  refine aBY 3 9 7 [(53,.agg #[vI ((m s).getD ((0,0),(0,0))).1.1,vI ((m s).getD ((0,0),(0,0))).1.2,vI ((m s).getD ((0,0),(0,0))).2.1,vI ((m s).getD ((0,0),(0,0))).2.2]),(54,vB (m s).isSome)] [] 97 (.agg #[vI ((m s).getD ((0,0),(0,0))).1.1,vI ((m s).getD ((0,0),(0,0))).1.2,vI ((m s).getD ((0,0),(0,0))).2.1,vI ((m s).getD ((0,0),(0,0))).2.2]) (fc (ldm 180 0 0 hM rfl rfl) (fc (rz2 (lko 180 1 (vS s) (bxV ((0,0),(0,0))) hM rfl aEe u180_ (aEu hs) (aRp _)) (aXg m s)) f0)) hM fun ac w1 hM=>seg 4 1 [(55,vB (m s).isSome)] f0 ?_
  cases ag:(m s).isSome with
  | false =>
   obtain ⟨cl,hcl,hlf⟩:=aY6 180 u180_ (hM.get 1 rfl);have hcn:((cl:Int)==1000000)=false:=beq_eq_false_iff_ne.2 (by omega);refine seg 6 6 [(61,vB ((cl:Int)==1000000))] (fc (ldm 180 0 0 hM rfl rfl) (fc (hlf _ rfl) f0)) ?_;cases ah:((cl:Int)==1000000)
   rotate_left
   ·exact absurd (ah.symm.trans hcn) (by decide)
   obtain ⟨ob,hob,hM⟩:=hM.toOb (j:=1) rfl;obtain ⟨ob1,ob2,xo,so,hr1,hr2,hob2⟩:=hob.entry aEe u180_ mb (aEu hs).choose_spec aRp (bxV b);refine seg 8 0 [] f0 (drx [3,7,9,12] (fun Z=>[some (.map (some mb)),some (.tuple #[xo,vI so]),none,none]) _ (fun Z l=>[bk ix #[.map (some mb),rv,(bif l.getD 3 false then vB false else vB pk)] 182,(bif l.getD 2 false then obE mb ob2 else (bif l.getD 1 false then obE mb ob1 else obE mb ob)),bk aa #[vI b.1.1,vI b.1.2,vI b.2.1,vI b.2.2] 97,bk ab #[vI b.1.1,vI b.1.2,vI b.2.1,vI b.2.2] 3,bk ac #[vI ((m s).getD ((0,0),(0,0))).1.1,vI ((m s).getD ((0,0),(0,0))).1.2,vI ((m s).getD ((0,0),(0,0))).2.1,vI ((m s).getD ((0,0),(0,0))).2.2] 97]) (fun Z=>[]) hM (fun Z=>rfl) (fun Z l w5 hM=>(fc (lam 97 2 0 4 hM rfl) f0)) ⟨aTK 0 3 180 0 0 65 (fun Z=>ix) (fun Z l=>#[.map (some mb),rv,(bif l.getD 3 false then vB false else vB pk)]) 182 (fun Z => .map (some mb)),aXp 1 7 69 180 1 mb ob ob1 (vS s) xo so hr1,aXr 2 9 180 1 mb ob1 ob2 so (.agg #[vI b.1.1,vI b.1.2,vI b.2.1,vI b.2.2]) hr2,aCz 3 12 4 0 2 (fun Z=>ix) (fun Z l=>#[.map (some mb),rv,(bif l.getD 3 false then vB false else vB pk)]) 182 (fun Z=>vB false),trivial⟩ fun ai w1 hM=>?_);replace hM:Mm G w w1 [bk ix #[.map (some mb),rv,vB false] 182,_,bk aa #[vI b.1.1,vI b.1.2,vI b.2.1,vI b.2.2] 97,bk ab #[vI b.1.1,vI b.1.2,vI b.2.1,vI b.2.2] 3,bk ac #[vI ((m s).getD ((0,0),(0,0))).1.1,vI ((m s).getD ((0,0),(0,0))).1.2,vI ((m s).getD ((0,0),(0,0))).2.1,vI ((m s).getD ((0,0),(0,0))).2.2] 97]:=hM;have hM:=hM.ofOb (j:=1) rfl hob2;rw [aT9] at hM;exact rt1 6 (vI 0) rfl f0 (hY _ _ ⟨rfl,hM.pick [0,1]⟩)
  | true =>
   exact absurd (ag.symm.trans hms) (by decide)
theorem aR5 {x y:Int}(h:onB x y=true):(0<=x /\ x<=1048575) /\ (0<=y /\ y<=1048575):=by
 unfold onB at h;simp only [Ga_,decide_eq_true_eq] at h;omega
theorem aSB {l:List Ob}{s:Bys}{p:Pt}(hv:aAl l=true) (h:aCB l s=some p):(0<=p.1 /\ p.1<=1048575) /\ (0<=p.2 /\ p.2<=1048575):=by
 unfold aCB at h
 cases ho:l[(aAv l s).toNat]? with
 | none=>rw [ho] at h;cases h
 | some o =>
  rw [ho] at h;simp only at h
  cases hk:decide (aAv l s<0) || !(o.kind==1) with
  | true=>rw [hk] at h;cases h
  | false =>
   rw [hk] at h;have h1:=(Bool.or_eq_false_iff.1 hk).2;have hvo:=aCk hv o (Ge_ ho);unfold aAW at hvo;simp only [Ga_] at hvo;have h2:=hvo.2;rw [show (o.kind==1)=true by simpa using h1] at h2;simp only [cond_true,Ga_] at h2;cases h;exact aR5 h2.2
theorem aNs {l:List Ob}{s:Bys}(hv:aAl l=true):∀ p∈(aAf l s).2,(0<=p.1 /\ p.1<=1048575) /\ (0<=p.2 /\ p.2<=1048575):=by
 intro p hp;unfold aAf at hp;rw [hv] at hp
 cases hd:decide (aAv l s<0) with
 | true=>rw [hd] at hp;cases hp
 | false =>
  rw [hd] at hp;simp only [Bool.not_true,cond_false] at hp
  cases ho:l[(aAv l s).toNat]? with
  | none=>rw [ho] at hp;cases hp
  | some o =>
   rw [ho] at hp;simp only at hp;have hvo:=aCk hv o (Ge_ ho);unfold aAG at hp
   cases h1:o.kind==1 with
   | true =>
    rw [h1] at hp;simp only [cond_true,Gd_] at hp;subst hp;unfold aAW at hvo;simp only [Ga_] at hvo;have h2:=hvo.2;rw [h1] at h2;simp only [cond_true,Ga_] at h2;exact aR5 h2.2
   | false =>
    rw [h1] at hp
    cases h3:(o.kind==2)||(o.kind==3) with
    | false=>rw [h3] at hp;cases hp
    | true =>
     rw [h3] at hp
     cases ha:o.refs.all fun r=>(aCB l r).isSome with
     | false=>rw [ha] at hp;cases hp
     | true =>
      rw [ha] at hp;simp only [cond_false,cond_true,List.mem_map] at hp;obtain ⟨r,hr,rfl⟩:=hp;obtain ⟨q,hq⟩:=Option.isSome_iff_exists.1 (List.all_eq_true.1 ha r hr);rw [hq];exact aSB hv hq
theorem aSb {lo hi:Int}:∀ (L:List Pt) (b:Pt×Pt),(∀ p∈L,(lo<=p.1 /\ p.1<=hi) /\ (lo<=p.2 /\ p.2<=hi))->(lo<=b.1.1 /\ b.1.1<=b.2.1 /\ b.2.1<=hi) /\ (lo<=b.1.2 /\ b.1.2<=b.2.2 /\ b.2.2<=hi)->(lo<=(bxI b L).1.1 /\ (bxI b L).1.1<=(bxI b L).2.1 /\ (bxI b L).2.1<=hi) /\ (lo<=(bxI b L).1.2 /\ (bxI b L).1.2<=(bxI b L).2.2 /\ (bxI b L).2.2<=hi)
 | [],_,_,hb=>hb
 | p::L,b,hL,hb=>by
  have hp:=hL p (.head _);have e:bxI b (p::L)=bxI ((min b.1.1 p.1,min b.1.2 p.2),(max b.2.1 p.1,max b.2.2 p.2)) L:=rfl;rw [e];refine aSb L _ (fun q hq=>hL q (.tail _ hq)) ?_;simp only;omega
theorem aIB {lo hi:Int}{L:List Pt}(h0:0<L.length) (hL:∀ p∈L,(lo<=p.1 /\ p.1<=hi) /\ (lo<=p.2 /\ p.2<=hi)):(lo<=(aAc L).1.1 /\ (aAc L).1.1<=(aAc L).2.1 /\ (aAc L).2.1<=hi) /\ (lo<=(aAc L).1.2 /\ (aAc L).1.2<=(aAc L).2.2 /\ (aAc L).2.2<=hi):=by
 cases L with
 | nil=>cases h0
 | cons p L =>
  have hp:=hL p (.head _);exact aSb (p::L) (p,p) hL (by simp only;omega)
theorem aON {L:List Pt}(h0:0<L.length) (hL:∀ p∈L,(0<=p.1 /\ p.1<=1048575) /\ (0<=p.2 /\ p.2<=1048575)):([(aAc L).1.1,(aAc L).1.2,(aAc L).2.1,(aAc L).2.2].any aMx)=false /\ (decide ((aAc L).2.1<(aAc L).1.1))=false /\ (decide ((aAc L).2.2<(aAc L).1.2))=false:=by
 have h:=aIB h0 hL;refine ⟨?_,decide_eq_false (by omega),decide_eq_false (by omega)⟩;unfold aMx;simp only [List.any_cons,List.any_nil,Bool.or_false,Bool.or_eq_false_iff,decide_eq_false_iff_not];omega
def aHq (k:Int) (P:List Pt) (i:Nat):List (Pt×Pt):=bif decide (0<(((i:Int)+1)%(P.length:Int))) || !(k==2) then [(P.getD i (0,0),P.getD ((i+1)%P.length) (0,0))] else []
def aG3 (k:Int) (P:List Pt):List (Pt×Pt):=(List.range P.length).flatMap (aHq k P)
structure ShR where
 b:Nat
 o:ObR
 lp:Option Addr
 lc:Nat
 pp:Option Addr
 pc:Nat
abbrev ShR.P (l:List Ob) (s:ShR):List Pt:=(aAf l s.o.o.id).2
abbrev ShR.L (l:List Ob) (s:ShR):List (Pt×Pt):=aG3 s.o.o.kind (s.P l)
def shE (l:List Ob) (s:ShR):Ent:=aBL [bk s.b #[vS s.o.o.id,vI s.o.o.kind,vI s.o.o.x,vI s.o.o.y,vL s.o.pr s.o.o.refs.length s.o.cr,vL s.o.pt s.o.o.tags.length s.o.ct,vL s.lp (s.L l).length s.lc,vL s.pp (s.P l).length s.pc] 102,rw_ sgL 4 126 (vL s.lp (s.L l).length s.lc) (s.L l),rw_ ptL 2 29 (vL s.pp (s.P l).length s.pc) (s.P l)]
noncomputable def shF (S:List ShR):Value->Option Value:=S.foldl (fun m s=>upd m (vS s.o.o.id) (vP s.b 0)) fun _=>none
def bxS (l:List Ob) (S:List ShR):Bys->Option (Pt×Pt):=S.foldl (fun m s=>aHC m s.o.o.id (aAc (s.P l))) fun _=>none
theorem aPB (S:List ShR) (s:ShR):shF (S++[s])=upd (shF S) (vS s.o.o.id) (vP s.b 0):=by unfold shF;rw [List.foldl_append];rfl
theorem aRf (l:List Ob) (S:List ShR) (s:ShR):bxS l (S++[s])=aHC (bxS l S) s.o.o.id (aAc (s.P l)):=by unfold bxS;rw [List.foldl_append];rfl
theorem aRg {l:List Ob}{S:List ShR}{id:Bys}(h:∀ s∈S,s.o.o.id≠id):(bxS l S id).isSome=false:=by
 have key:∀ (S:List ShR) (m:Bys->Option (Pt×Pt)),(∀ s∈S,s.o.o.id≠id)->(m id).isSome=false->(S.foldl (fun m s=>aHC m s.o.o.id (aAc (s.P l))) m id).isSome=false:=by
  intro S
  induction S with
  | nil=>intro m _ hm;exact hm
  | cons s S ih =>
   intro m hS hm;refine ih _ (fun x hx=>hS x (.tail _ hx)) ?_;show (if id=s.o.o.id then some (aAc (s.P l)) else m id).isSome=false;rw [if_neg fun e=>hS s (.head _) e.symm];exact hm
 exact key S _ h rfl
theorem aTH {F0:Nat->Prop}{w0 w:World}{A Ms G:List Ent}(h:Mm F0 w0 w (A++(aBL Ms::G))):Mm F0 w0 w (A++[aBL (Ms++[aBL G])]):=by
 have h1:Mm F0 w0 w ((A++Ms)++G):=by rw [Gl_];exact h.ung
 have h2:=aCW h1;rw [Gl_] at h2;exact aCW h2
def aEt (l:List Ob) (os:List ObR) (S:List ShR):Prop:=S.map (·.o)=os.filter fun b=>(aAf l b.o.id).1==0
theorem aP9 {l:List Ob}{os:List ObR}{S:List ShR}{i:Nat}{y:ObR}(h:aEt l (os.take i) S) (hy:os[i]?=some y) (hp:((aAf l y.o.id).1==0)=true) {s:ShR}(hs:s.o=y):aEt l (os.take (i+1)) (S++[s]):=by
 unfold aEt at h ⊢;rw [gt_ hy,List.filter_append,List.map_append,h];simp [hp,hs]
theorem aS1 {l:List Ob}{os:List ObR}{S:List ShR}{i:Nat}{y:ObR}(h:aEt l (os.take i) S) (hy:os[i]?=some y) (hp:((aAf l y.o.id).1==0)=false):aEt l (os.take (i+1)) S:=by
 unfold aEt at h ⊢;rw [gt_ hy,List.filter_append,h];simp [hp]
theorem aPA {l:List Ob}{os:List ObR}{S:List ShR}{i:Nat}{y:ObR}(hpw:(aAa os).Pairwise fun x y=>blt x.id y.id=true) (h:aEt l (os.take i) S) (hy:os[i]?=some y):∀ s∈S,s.o.o.id≠y.o.id:=by
 intro s hs e;have h1:s.o∈(os.take i).filter fun b=>(aAf l b.o.id).1==0:=by rw [←h];exact List.mem_map.2 ⟨s,hs,rfl⟩
 have h2:=(List.mem_filter.1 h1).1;obtain ⟨j,hj⟩:=List.getElem?_of_mem h2;have hji:j<i:=by have:=gl hj;rw [Gp_] at this;omega
 rw [List.getElem?_take_of_lt hji] at hj;have hpw2:os.Pairwise fun x y=>blt x.o.id y.o.id=true:=by unfold aAa at hpw;exact List.pairwise_map.1 hpw
 have h3:=List.pairwise_iff_getElem.1 hpw2 j i (gl hj) (gl hy) hji;have e1:os[j]'(gl hj)=s.o:=Gh_ ((Gb_ (gl hj)).symm.trans hj);have e2:os[i]'(gl hy)=y:=Gh_ ((Gb_ (gl hy)).symm.trans hy);rw [e1,e2,e,aAz] at h3;cases h3
inductive CdR where
  | mk (op:Int) (key val:Bys) (n:Int) (p:Option Addr) (cap:Nat) (kids:List CdR)
def CdR.op:CdR->Int | .mk o _ _ _ _ _ _=>o
def CdR.key:CdR->Bys | .mk _ k _ _ _ _ _=>k
def CdR.val:CdR->Bys | .mk _ _ v _ _ _ _=>v
def CdR.n:CdR->Int | .mk _ _ _ n _ _ _=>n
def CdR.p:CdR->Option Addr | .mk _ _ _ _ p _ _=>p
def CdR.cap:CdR->Nat | .mk _ _ _ _ _ c _=>c
def CdR.kids:CdR->List CdR | .mk _ _ _ _ _ _ l=>l
def cdL (c:CdR):List Value:=[vI c.op,vS c.key,vS c.val,vI c.n,vL c.p c.kids.length c.cap]
def CdB (w:World) (B:Nat):Nat->CdR->Prop
  | 0,_=>False
  | h+1,c=>B63 c.key /\ B63 c.val /\ SrcB cdL 5 w B c.p c.cap c.kids /\ ∀ k∈c.kids,CdB w B h k
theorem _root_.Go.Pl.SrcB.g {α:Type}{f:α->List Value}{c:Nat}{w w':World}{B:Nat}{p:Option Addr}{cap:Nat}{L:List α}{G:Nat->Prop}(h:SrcB f c w B p cap L) (hG:∀ k,G k->B<=k) (f1:Fr G w w') (hB:B<=w.heap.size):SrcB f c w' B p cap L :=
  ⟨h.le,h.ca,h.at_.fr (f1.mono fun r hr hg=>hg) fun r hr hg=>by have:=hG r hg;omega,h.nil⟩
theorem CdB.g {w w':World}{B:Nat}{G:Nat->Prop}(hG:∀ k,G k->B<=k) (f1:Fr G w w') (hB:B<=w.heap.size):∀ {h:Nat}{c:CdR},CdB w B h c->CdB w' B h c
  | 0,_,hc=>hc
  | _+1,_,⟨a,b,s,k⟩=>⟨a,b,s.g hG f1 hB,fun x hx=>(k x hx).g hG f1 hB⟩
def aDJ {σ:Type}(f:CdR->σ->Bool×σ):List CdR->σ->Bool×σ
  | [],s=>(true,s)
  | k::l,s=>bif (f k s).1 then aDJ f l (f k s).2 else (false,(f k s).2)
def aBt {σ:Type}(vis:CdR->σ->Bool×σ):Nat->CdR->σ->Bool×σ
  | 0,_,s=>(true,s)
  | h+1,c,s=>bif (vis c s).1 then aDJ (aBt vis h) c.kids (vis c s).2 else (false,(vis c s).2)
def stK {σ:Type}(f:CdR->σ->Bool×σ) (l:List CdR) (s:σ):σ:=l.foldl (fun s k=>(f k s).2) s
def qK {σ:Type}(f:CdR->σ->Bool×σ) (l:List CdR) (s:σ) (i:Nat):Bool:=match l[i]? with
  | some k => !(f k (stK f (l.take i) s)).1
  | none=>false
theorem aKl {σ:Type}{f:CdR->σ->Bool×σ}{l:List CdR}{s:σ}{i:Nat}{k:CdR}(h:l[i]?=some k):stK f (l.take (i+1)) s=(f k (stK f (l.take i) s)).2:=by
  unfold stK;rw [gt_ h,List.foldl_append];rfl
theorem aJq {σ:Type}{f:CdR->σ->Bool×σ}{k:CdR}{l:List CdR}{s:σ}{i:Nat}:qK f (k::l) s (i+1)=qK f l (f k s).2 i:=by
  unfold qK;rw [List.getElem?_cons_succ,List.take_succ_cons];rfl
theorem aHI {σ:Type}{f:CdR->σ->Bool×σ}:∀ {l:List CdR}{s:σ},(∀ j,j<l.length->qK f l s j=false)->aDJ f l s=(true,stK f l s)
  | [],_,_=>rfl
  | k::l,s,h=>by
    have h0:(f k s).1=true:=by have:=h 0 (by simp);unfold qK at this;simpa [stK] using this
    have:=aHI (l:=l) (s:=(f k s).2) fun j hj=>by rw [←aJq];exact h (j+1) (by simpa using hj)
    unfold aDJ;rw [h0,cond_true,this];rfl
theorem aKf {σ:Type}{f:CdR->σ->Bool×σ}:∀ {l:List CdR}{s:σ}{i:Nat},i<l.length->qK f l s i=true->(∀ j,j<i->qK f l s j=false)->aDJ f l s=(false,stK f (l.take (i+1)) s)
  | [],_,_,h,_,_=>absurd h (Nat.not_lt_zero _)
  | k::l,s,0,_,h,_=>by
    have h0:(f k s).1=false:=by unfold qK at h;simpa [stK] using h
    unfold aDJ;rw [h0];rfl
  | k::l,s,i+1,hl,h,hj=>by
    have h0:(f k s).1=true:=by have:=hj 0 (by omega);unfold qK at this;simpa [stK] using this
    rw [aJq] at h;have:=aKf (l:=l) (s:=(f k s).2) (by simpa using hl) h fun j hj2=>by rw [←aJq];exact hj (j+1) (by omega)
    unfold aDJ;rw [h0,cond_true,this];rfl
abbrev aX2 (Z:Ending->World->Prop):=AtO Tryz.prog (aAw Tryz.f138) (aAL (bodyPost Tryz.prog Tryz.f138 Z)) [] 19
abbrev cY_ (c:CdR):Array Value:=#[vI c.op,vS c.key,vS c.val,vI c.n,vL c.p c.kids.length c.cap]
theorem aMd {w:World}{B:Nat}{p:Option Addr}{cap:Nat}{L:List CdR}{f:FuncId}{caps:Array Value}{G:Nat->Prop}(hs:SrcB cdL 5 w B p cap L) (hG:∀ k,G k->B<=k) (eg:aIL Tryz.prog f) (I:Nat->World->Prop) (q:Nat->Bool) (h0:I 0 w) (step:∀ i x w1,L[i]?=some x->(∀ j,j<i->q j=false)->I i w1->Fr G w w1->Calls Tryz.prog f (#[vA (cdL x)]++caps) w1 fun e w2=>e = .returned (vB (q i)) /\ I (i+1) w2 /\ Fr G w1 w2):Calls Tryz.prog 138 #[vL p L.length cap,.func (.func f) #[] caps] w fun e w'=>(∃ z,e = .returned (vI z) /\ Fst L q I w' z) /\ Fr G w w':=by
  have bb:=hs.bnd;refine beg Tryz.func138 rfl rfl [(0,vL p L.length cap),(1,.func (.func f) #[] caps)] rfl rfl fun Z hZ=>?_;have hM:=Mm.nil G w;refine seg 2 0 [(7,vI (L.length:Int)),(8,vI 0)] f0 ?_
  have ac:∀ (ab:Nat) (i:Nat) (w2:World),i<=L.length->(∀ j,j<i->q j=false)->I i w2->Mm G w w2 []->ab=L.length-i->aX2 Z (some (2,0)) [(8,vI (i:Int)),(7,vI (L.length:Int)),(0,vL p L.length cap),(1,.func (.func f) #[] caps)] w2:=by
   refine aCx fun ab ad i w2 hi hq hI hM ag=>seg 2 1 [(9,vB (decide ((i:Int)<(L.length:Int))))] f0 ?_;cases h43:(decide ((i:Int)<(L.length:Int)))
   ·have ae:=df h43;exact rt1 4 (vI (-1)) rfl f0 (hZ _ _ ⟨⟨_,rfl,.end_ (by omega) hq hI⟩,hM.fr⟩)
   have ae:=dt h43;obtain ⟨y44,aa,ah,ai,q44,af,n44⟩:=(hs).eb hG (i:=i) (by omega);refine aT8 4 5 16 [(5,vI (i:Int)),(11,.func (.func f) #[] caps),(15,.agg (cY_ y44))] #[27] (K:=fun u w9=>u=vB (q i) /\ I (i+1) w9 /\ Fr G w2 w9) (by decide) (fc (ix 25 cap q44 (gl aa)) (fc (la0 27 hM af n44) f0)) eg ((step i y44 _ aa hq hI hM.fr).mono fun e w9 h=>⟨_,h.1,rfl,h.2⟩) fun u w1 ⟨hu,hI,f1⟩=>?_;subst hu;have hM:=hM.g f1;cases h45:(q i)
   ·refine seg 2 0 [(8,vI ((i:Int)+1))] (fc (aAI (i:Int) 1 u3_) f0) (aAh _ (ad _ (by omega) (i+1) _ (gl aa) (fun j hj=>by rcases Nat.lt_succ_iff_lt_or_eq.1 hj with h | h;exact hq j h;rw [h];exact h45) hI hM rfl))
   exact rt1 4 (vI (i:Int)) rfl f0 (hZ _ _ ⟨⟨_,rfl,.some i (gl aa) h45 hq hI⟩,hM.fr⟩)
  exact aAh _ (ac _ 0 _ (Gg_ _) (fun _ h=>absurd h (Nat.not_lt_zero _)) h0 hM rfl)
theorem aFW {w:World}{B:Nat}{p:Option Addr}{cap:Nat}{L:List CdR}{f:FuncId}{caps:Array Value}{G:Nat->Prop}(hs:SrcB cdL 5 w B p cap L) (hG:∀ k,G k->B<=k) (eg:aIL Tryz.prog f) (I:Nat->World->Prop) (q:Nat->Bool) (h0:I 0 w) (step:∀ i x w1,L[i]?=some x->(∀ j,j<i->q j=false)->I i w1->Fr G w w1->Calls Tryz.prog f (#[vA (cdL x)]++caps) w1 fun e w2=>e = .returned (vB (q i)) /\ I (i+1) w2 /\ Fr G w1 w2):Calls Tryz.prog 86 #[vL p L.length cap,.func (.func f) #[] caps] w fun e w'=>(∃ z,e = .returned (vB (decide (0<=z))) /\ Fst L q I w' z) /\ Fr G w w':=by
  refine beg Tryz.func86 rfl rfl [(0,vL p L.length cap),(1,.func (.func f) #[] caps)] rfl rfl fun Z hZ=>?_;have hM:=Mm.nil G w;refine cal 1 2 7 [(5,vL p L.length cap),(6,.func (.func f) #[] caps)] (K:=fun u w8=>∃ z,u=vI z /\ Fst L q I w8 z /\ Fr G w w8) f0 ((aMd hs hG eg I q h0 step).mono fun e w9 h=>⟨_,h.1.choose_spec.1,_,rfl,h.1.choose_spec.2,h.2⟩) fun u w1 ⟨z,hu,hz,f1⟩=>?_;subst hu;have hM:=hM.g f1;exact rt1 4 (vB (decide (0<=z))) rfl f0 (hZ _ _ ⟨⟨_,rfl,hz⟩,hM.fr⟩)
structure Vis (f:FuncId) (caps:Array Value) {σ:Type}(D:Nat->Prop) (J:σ->Ent) (Lv:σ->Prop) (vis:CdR->σ->Bool×σ) (B:Nat):Prop where
  eg:aIL Tryz.prog f
  hD:∀ s k,(J s).B k↔D k
  hB:∀ k,D k->B<=k
  lv:∀ c s,Lv s->(vis c s).1=true->Lv (vis c s).2
  step:∀ {h:Nat}{c:CdR}{s:σ}{w:World},CdB w B h c->B<=w.heap.size->Lv s->Mm D w w [J s]->Calls Tryz.prog f (#[vA (cdL c)]++caps) w fun e w'=>e = .returned (vB (vis c s).1) /\ Mm D w w' [J (vis c s).2]
def aLl (f:FuncId) (caps:Array Value) {σ:Type}(D:Nat->Prop) (J:σ->Ent) (Lv:σ->Prop) (vis:CdR->σ->Bool×σ) (B h:Nat):Prop:=∀ {c:CdR}{s:σ}{w:World},CdB w B h c->B<=w.heap.size->Lv s->Mm D w w [J s]->Calls Tryz.prog 79 #[vA (cdL c),.func (.func f) #[] caps] w fun e w'=>e = .returned (vB (aBt vis h c s).1) /\ Mm D w w' [J (aBt vis h c s).2]
theorem aWg {σ:Type}{D:Nat->Prop}{J:σ->Ent}(hD:∀ s k,(J s).B k↔D k) {g:FuncId}{args:Array Value}{w:World}{s s':σ}{b:Bool}(c:Mm D w w [J s]->Calls Tryz.prog g args w fun e w'=>e = .returned (vB b) /\ Mm D w w' [J s']) (hm:Mm (BlM [J s]) w w [J s]):Calls Tryz.prog g args w fun e w'=>∃ u Mn,e = .returned u /\ (u=vB b /\ Mn=[J s']) /\ Mm (BlM [J s]) w w' Mn :=
  (c (hm.re fun e he k hk=>by rw [Gd_] at he;subst he;exact (hD s k).1 hk)).mono fun e w' ⟨h1,h2⟩=>⟨_,_,h1,⟨rfl,rfl⟩,aIH h2 fun k hk=>⟨J s,.head _,(hD s k).2 hk⟩⟩
theorem aKg {σ:Type}{Lv:σ->Prop}{f:CdR->σ->Bool×σ}(h:∀ c s,Lv s->(f c s).1=true->Lv (f c s).2):∀ (l:List CdR) {s:σ},Lv s->(aDJ f l s).1=true->Lv (aDJ f l s).2
  | [],_,hs,_=>hs
  | k::l,s,hs,hw=>by
    unfold aDJ at hw ⊢
    cases hk:(f k s).1 with
    | false=>rw [hk] at hw;cases hw
    | true=>rw [hk] at hw;exact aKg h l (h k s hs hk) hw
theorem aKe {σ:Type}{Lv:σ->Prop}{vis:CdR->σ->Bool×σ}(h:∀ c s,Lv s->(vis c s).1=true->Lv (vis c s).2):∀ (n:Nat) (c:CdR) (s:σ),Lv s->(aBt vis n c s).1=true->Lv (aBt vis n c s).2
  | 0,_,_,hs,_=>hs
  | n+1,c,s,hs,hw=>by
    unfold aBt at hw ⊢
    cases hk:(vis c s).1 with
    | false=>rw [hk] at hw;cases hw
    | true=>rw [hk] at hw;exact aKg (aKe h n) _ (h c s hs hk) hw
theorem aRu {σ:Type}{Lv:σ->Prop}{f:CdR->σ->Bool×σ}(h:∀ c s,Lv s->(f c s).1=true->Lv (f c s).2) {l:List CdR}{s:σ}(hs:Lv s):∀ {i:Nat},i<=l.length->(∀ j,j<i->qK f l s j=false)->Lv (stK f (l.take i) s)
  | 0,_,_=>hs
  | i+1,hi,hq=>by
    obtain ⟨k,hk⟩:=geb (l:=l) (i:=i) (by omega);have h1:=aRu h hs (l:=l) (i:=i) (by omega) fun j hj=>hq j (by omega);have h2:=hq i (by omega);unfold qK at h2;rw [hk] at h2;rw [aKl hk];exact h _ _ h1 (by simpa using h2)
theorem aIR {f:FuncId}{caps:Array Value}{σ:Type}{D:Nat->Prop}{J:σ->Ent}{Lv:σ->Prop}{vis:CdR->σ->Bool×σ}{B:Nat}(V:Vis f caps D J Lv vis B) {h:Nat}(ih:aLl f caps D J Lv vis B h) {c:CdR}{s:σ}{w:World}{b:Nat}(hb:w.heap[b]?=some (.cells #[.func (.func f) #[] caps] 34 (0,0))) (hnb:¬ D b) (hc:CdB w B h c) (hBw:B<=w.heap.size) (hLv:Lv s) (hM0:Mm D w w [J s]):Calls Tryz.prog 133 #[vA (cdL c),vP b 0] w fun e w'=>e = .returned (vB (!(aBt vis h c s).1)) /\ Mm D w w' [J (aBt vis h c s).2]:=by
  refine beg Tryz.func133 rfl rfl [(0,.agg (cY_ c)),(1,vP b 0)] rfl rfl fun Z hZ=>?_;have hM:=hM0;refine aAu 0 0 2 [] (cs:=(cY_ c)) (T:=27) (v:=fun b=>vP b 0) f0 hM fun aa w1 hM=>aOI 1 2 6 [(4,.agg (cY_ c)),(5,.func (.func f) #[] caps)] (K:=fun u Mn=>u=vB (aBt vis h c s).1 /\ Mn=[J (aBt vis h c s).2]) [1] [0] (fc (lam 27 1 0 5 hM rfl) (fc (ld0 34 hM (bx hb 0 rfl) hnb) f0)) hM rfl rfl (by decide) (fun hm=>aWg V.hD (fun hm=>ih (hc.g V.hB hM.fr hBw) (Gn_ hBw hM.fr.size) hLv hm) hm) fun u Mn w1 hK hM=>?_;obtain ⟨rfl,rfl⟩:=hK;exact rt1 3 (vB (!(aBt vis h c s).1)) rfl f0 (hZ _ _ ⟨rfl,hM.pick [1]⟩)
theorem aLS {f:FuncId}{caps:Array Value}{σ:Type}{D:Nat->Prop}{J:σ->Ent}{Lv:σ->Prop}{vis:CdR->σ->Bool×σ}{B:Nat}(V:Vis f caps D J Lv vis B) {h:Nat}(ih:aLl f caps D J Lv vis B h) {s:σ}{w:World}{b:Nat}{p:Option Addr}{cap:Nat}{L:List CdR}(hb:w.heap[b]?=some (.cells #[.func (.func f) #[] caps] 34 (0,0))) (hnb:¬ D b) (hs:SrcB cdL 5 w B p cap L) (hk:∀ k∈L,CdB w B h k) (hBw:B<=w.heap.size) (hLv:Lv s) (hM0:Mm D w w [J s]):Calls Tryz.prog 86 #[vL p L.length cap,.func (.func 133) #[] #[vP b 0]] w fun e w'=>e = .returned (vB (!(aDJ (aBt vis h) L s).1)) /\ Mm D w w' [J (aDJ (aBt vis h) L s).2]:=by
  have hbl:b<w.heap.size:=by
    rcases Nat.lt_or_ge b w.heap.size with h | h
    · exact h
    · rw [Array.getElem?_eq_none h] at hb;cases hb
  refine (aFW (caps:=#[vP b 0]) hs V.hB (enters_of Tryz.func133 (by kernel_rfl) rfl) (fun i w1=>Mm D w w1 [J (stK (aBt vis h) (L.take i) s)]) (qK (aBt vis h) L s) (by simpa [stK] using hM0) (fun i x w1 hx hq hI f1=>?_)).mono fun e w' ⟨⟨z,he,hz⟩,f2⟩=>?_
  · have hLi:=aRu (aKe V.lv h) hLv (l:=L) (i:=i) (Nat.le_of_lt (gl hx)) hq
    have h1:Mm D w1 w1 [J (stK (aBt vis h) (L.take i) s)]:=hI.re fun e he k hk=>by rw [Gd_] at he;subst he;exact (V.hD _ k).1 hk
    refine (aIR V ih (b:=b) (by rw [f1.blk b hbl hnb];exact hb) hnb ((hk x (gm hx)).g V.hB f1 hBw) (Gn_ hBw f1.size) hLi h1).mono fun e w2 ⟨g1,g2⟩=>⟨?_,?_,g2.fr⟩
    · rw [g1];unfold qK;rw [hx]
    · rw [aKl hx]
      exact ⟨f1.trans g2.fr,g2.at_,fun e he k hk hl=>by rw [Gd_] at he;subst he;exact (V.hD _ k).1 hk,g2.nd⟩
  · cases hz with
    | none hq hI=>rw [he,aHI hq];exact ⟨rfl,by rw [List.take_length] at hI;exact hI⟩
    | some i hi hq hj hI=>rw [he,aKf hi hq hj];exact ⟨by rw [decide_eq_true (by omega)];rfl,hI⟩
theorem _root_.Go.Pl.Mm.apart2 {F0:Nat->Prop}{w0 w:World}{M:List Ent}(h:Mm F0 w0 w M) {i j:Nat}{x y:Ent}(hi:M[i]?=some x) (hj:M[j]?=some y) (hij:i≠j) (k:Nat) (hx:x.B k) (hy:y.B k):False:=by
  have key:∀ {i j:Nat}{x y:Ent},i<j->M[i]?=some x->M[j]?=some y->x.B k->y.B k->False:=fun {i j x y} hl hi hj hx hy=>by
    have hi2:=gl hi;have hj2:=gl hj;have h1:=List.pairwise_iff_getElem.1 h.nd i j hi2 hj2 hl k;rw [Gb_ hi2] at hi;rw [Gb_ hj2] at hj;cases hi;cases hj;exact h1 hx hy
  rcases Nat.lt_or_gt_of_ne hij with hl | hl
  · exact key hl hi hj hx hy
  · exact key hl hj hi hy hx
theorem aM6 {f:FuncId}{caps:Array Value}{σ:Type}{D:Nat->Prop}{J:σ->Ent}{Lv:σ->Prop}{vis:CdR->σ->Bool×σ}{B:Nat}(V:Vis f caps D J Lv vis B) {h:Nat}(ih:aLl f caps D J Lv vis B h) {c:CdR}{s:σ}{w:World}(hc:CdB w B (h+1) c) (hBw:B<=w.heap.size) (hLv:Lv s) (hM0:Mm D w w [J s]):Calls Tryz.prog 79 #[vA (cdL c),.func (.func f) #[] caps] w fun e w'=>e = .returned (vB (aBt vis (h+1) c s).1) /\ Mm D w w' [J (aBt vis (h+1) c s).2]:=by
  refine beg Tryz.func79 rfl rfl [(0,.agg (cY_ c)),(1,.func (.func f) #[] caps)] rfl rfl fun Z hZ=>?_;have hM:=hM0;refine aAu 0 0 2 [] (cs:=(cY_ c)) (T:=27) (v:=fun b=>vP b 0) f0 hM fun ab w1 hM=>aAu 0 1 3 [] (cs:=#[.func (.func f) #[] caps]) (T:=34) (v:=fun b=>vP b 0) f0 hM fun aa w1 hM=>aT8 1 2 7 [(5,.func (.func f) #[] caps),(6,.agg (cY_ c))] #[27] (by decide) (fc (ldm 34 2 0 hM rfl rfl) (fc (lam 27 1 0 5 hM rfl) f0)) V.eg (aY7 (K:=fun u Mn=>u=vB (vis c s).1 /\ Mn=[J (vis c s).2]) [1,2] [0] hM rfl rfl (by decide) (aWg V.hD fun hm=>V.step (hc.g V.hB hM.fr hBw) (Gn_ hBw hM.fr.size) hLv hm)) fun u w1 ⟨Mn,hK,hM⟩=>?_;obtain ⟨rfl,rfl⟩:=hK;replace hM:Mm D w w1 [bk ab (cY_ c) 27,bk aa #[.func (.func f) #[] caps] 34,_]:=hM;refine seg 1 4 [(8,vB (vis c s).1)] f0 ?_
  cases h49:(vis c s).1 with
  | false =>
   exact rt1 4 (vB false) rfl f0 (hZ _ _ ⟨by unfold aBt;rw [h49];simp,by unfold aBt;rw [h49];exact hM.pick [2]⟩)
  | true =>
   refine aOI 1 7 12 [(10,vL c.p c.kids.length c.cap),(11,.func (.func 133) #[] #[vP aa 0])] (K:=fun u Mn=>u=vB (!(aDJ (aBt vis h) c.kids (vis c s).2).1) /\ Mn=[J (aDJ (aBt vis h) c.kids (vis c s).2).2]) [0,1] [2] (fc (ldm 25 0 4 hM rfl rfl) f0) hM rfl rfl (by decide) (fun hm=>aWg V.hD (fun hm=>aLS V ih (b:=aa) (hM.get 1 rfl) (fun hd=>hM.apart2 (i:=1) (j:=2) rfl rfl (by decide) _ rfl ((V.hD _ _).2 hd)) (hc.2.2.1.g V.hB hM.fr hBw) (fun k hk=>(hc.2.2.2 k hk).g V.hB hM.fr hBw) (Gn_ hBw hM.fr.size) (V.lv c s hLv h49) hm) hm) fun u Mn w1 hK hM=>?_;obtain ⟨rfl,rfl⟩:=hK;exact rt1 4 (vB (!(!(aDJ (aBt vis h) c.kids (vis c s).2).1))) rfl f0 (hZ _ _ ⟨by unfold aBt;rw [h49];simp,by unfold aBt;rw [h49];exact hM.pick [2]⟩)
theorem aEv {f:FuncId}{caps:Array Value}{σ:Type}{D:Nat->Prop}{J:σ->Ent}{Lv:σ->Prop}{vis:CdR->σ->Bool×σ}{B:Nat}(V:Vis f caps D J Lv vis B):∀ h,aLl f caps D J Lv vis B h
  | 0=>fun hc=>hc.elim
  | h+1=>fun hc hBw hLv hM=>aM6 V (aEv V h) hc hBw hLv hM
def aWd (s:Bys):Bool:=([[97,108,119,97,121,115],[97,110,100],[110,111,116],[111,114],[119,104,101,114,101]]:List Bys).contains s
def aFj (s:Bys):Bool:=aBg s && !(aWd s)
def aA6 (c:CdR):Bool:=(c.key==[])&&(c.val==[])&&(c.n==0)
def aA1 (c:CdR):Bool :=
  bif c.op==1 then aA6 c&&((c.kids.length:Int)==0)
  else bif c.op==2 then aFj c.key&&(c.val==[])&&(c.n==0)&&((c.kids.length:Int)==0)
  else bif c.op==3 then aFj c.key && !(c.val==[])&&decide ((c.val.length:Int)<=200)&&(c.n==0)&&((c.kids.length:Int)==0)
  else bif c.op==7 then aFj c.key&&(c.val==[])&&decide (0<=c.n)&&decide (c.n<=9999999)&&((c.kids.length:Int)==0)
  else bif c.op==4 then aA6 c&&((c.kids.length:Int)==1)
  else bif (c.op==5)||(c.op==6) then aA6 c&&decide (1<(c.kids.length:Int))
  else false
def aP8 (h:Nat) (c:CdR):Int:=(aBt (fun _ s=>(decide (s+1<=60),s+1)) h c 0).2
def aDh (h:Nat) (c:CdR):Bool:=decide (aP8 h c<=60)&&(aBt (fun c s=>(aA1 c,s)) h c ()).1
theorem aGh {w:World}(s:Bys):Calls Tryz.prog 180 #[vS s] w fun e w'=>e = .returned (vB (aWd s)) /\ Fr nF_ w w':=by
  refine beg Tryz.func180 rfl rfl [(0,vS s)] rfl rfl fun Z hZ=>?_;have hM:=Mm.nil nF_ w;refine aAu 1 0 3 [] (cs:=#[vS [97,108,119,97,121,115],vS [97,110,100],vS [110,111,116],vS [111,114],vS [119,104,101,114,101]]) (T:=9) (v:=fun b=>vL (some ⟨b,0,none⟩) 5 5) f0 hM fun aa w1 hM=>?_;have hM:=aNR hM (f:=stL) (c:=1) (j:=0) rfl [[97,108,119,97,121,115],[97,110,100],[110,111,116],[111,114],[119,104,101,114,101]] 5 rfl rfl rfl;refine aAx 1 2 5 [(4,vS s)] f0 hM (aGk (y:=s) (hM.src (j:=0) rfl stT.len)) fun w1 hM=>rt1 2 (vB (aWd s)) rfl f0 (hZ _ _ ⟨rfl,hM.fr⟩)
theorem aBl {w:World}{s:Bys}(hs:s.length<=9223372036854775807):Calls Tryz.prog 134 #[vS s] w fun e w'=>e = .returned (vB (aFj s)) /\ Fr nF_ w w':=by
  refine beg Tryz.func134 rfl rfl [(0,vS s)] rfl rfl fun Z hZ=>?_;have hM:=Mm.nil nF_ w;refine aAx 1 1 4 [(3,vS s)] f0 hM (aA7 hs _) fun w1 hM=>seg 1 3 [(5,vB (aBg s))] f0 ?_;cases h51:(aBg s)
  ·exact rt1 2 (vB false) rfl f0 (hZ _ _ ⟨by unfold aFj;simp only [h51]<;>rfl,hM.fr⟩)
  refine aAx 1 4 7 [(6,vS s)] f0 hM (aGh s) fun w1 hM=>rt1 2 (vB (!(aWd s))) rfl f0 (hZ _ _ ⟨by unfold aFj;simp only [h51]<;>rfl,hM.fr⟩)
theorem aLM {w:World}{c:CdR}(hk:c.key.length<=9223372036854775807):Calls Tryz.prog 80 #[vA (cdL c)] w fun e w'=>e = .returned (vB (aA1 c)) /\ Fr nF_ w w':=by
  refine beg Tryz.func80 rfl rfl [(0,.agg (cY_ c))] rfl rfl fun Z hZ=>?_;have hM:=Mm.nil nF_ w;refine aAu 0 0 1 [] (cs:=(cY_ c)) (T:=27) (v:=fun b=>vP b 0) f0 hM fun ac w1 hM=>seg 1 4 [(8,vB (c.key==[]))] (fc (ldm 9 0 1 hM rfl rfl) (fc (seq 9 c.key []) f0)) ?_;cases h53:(c.key==[])
  ·refine seg 4 2 [(3,vB false),(4,vI (c.kids.length:Int)),(22,vI c.op),(23,vB (c.op==1))] (fc (ldm 25 0 4 hM rfl rfl) (fc (ldm 3 0 0 hM rfl rfl) f0)) ?_;cases h54:(c.op==1)
   rotate_left
   ·exact rt1 2 (vB false) rfl f0 (hZ _ _ ⟨by unfold aA1 aA6;simp only [h53,h54]<;>rfl,hM.fr⟩)
   refine seg 6 2 [(30,vB (c.op==2))] f0 ?_;cases h55:(c.op==2)
   rotate_left
   ·refine aAx 7 2 34 [(33,vS c.key)] (fc (ldm 9 0 1 hM rfl rfl) f0) hM (aBl hk) fun w1 hM=>seg 7 4 [(35,vB (aFj c.key))] f0 ?_;cases h69:(aFj c.key)
    ·exact rt1 2 (vB false) rfl f0 (hZ _ _ ⟨by unfold aA1 aA6;simp only [h53,h54,h55,h69]<;>rfl,hM.fr⟩)
    refine seg 7 9 [(40,vB (c.val==[]))] (fc (ldm 9 0 2 hM rfl rfl) (fc (seq 9 c.val []) f0)) ?_;cases h70:(c.val==[])
    ·exact rt1 2 (vB false) rfl f0 (hZ _ _ ⟨by unfold aA1 aA6;simp only [h53,h54,h55,h69,h70]<;>rfl,hM.fr⟩)
    refine seg 7 14 [(45,vB (c.n==0))] (fc (ldm 3 0 3 hM rfl rfl) f0) ?_;cases h71:(c.n==0)
    ·exact rt1 2 (vB false) rfl f0 (hZ _ _ ⟨by unfold aA1 aA6;simp only [h53,h54,h55,h69,h70,h71]<;>rfl,hM.fr⟩)
    exact rt1 2 (vB ((c.kids.length:Int)==0)) rfl f0 (hZ _ _ ⟨by unfold aA1 aA6;simp only [h53,h54,h55,h69,h70,h71]<;>rfl,hM.fr⟩)
   refine seg 8 2 [(49,vB (c.op==3))] f0 ?_;cases h56:(c.op==3)
   rotate_left
   ·refine aAx 9 2 53 [(52,vS c.key)] (fc (ldm 9 0 1 hM rfl rfl) f0) hM (aBl hk) fun w1 hM=>seg 9 4 [(54,vB (aFj c.key))] f0 ?_;cases h65:(aFj c.key)
    ·exact rt1 2 (vB false) rfl f0 (hZ _ _ ⟨by unfold aA1 aA6;simp only [h53,h54,h55,h56,h65]<;>rfl,hM.fr⟩)
    refine seg 9 9 [(59,vB (!(c.val==[])))] (fc (ldm 9 0 2 hM rfl rfl) (fc (sne 9 c.val []) f0)) ?_;cases h66:(c.val==[])
    rotate_left
    ·exact rt1 2 (vB false) rfl f0 (hZ _ _ ⟨by unfold aA1 aA6;simp only [h53,h54,h55,h56,h65,h66]<;>rfl,hM.fr⟩)
    refine seg 9 15 [(65,vB (decide ((c.val.length:Int)<=200)))] (fc (ldm 9 0 2 hM rfl rfl) (fc (aII 9 c.val) f0)) ?_;cases h67:(decide ((c.val.length:Int)<=200))
    ·exact rt1 2 (vB false) rfl f0 (hZ _ _ ⟨by unfold aA1 aA6;simp only [h53,h54,h55,h56,h65,h66,h67]<;>rfl,hM.fr⟩)
    refine seg 9 20 [(70,vB (c.n==0))] (fc (ldm 3 0 3 hM rfl rfl) f0) ?_;cases h68:(c.n==0)
    ·exact rt1 2 (vB false) rfl f0 (hZ _ _ ⟨by unfold aA1 aA6;simp only [h53,h54,h55,h56,h65,h66,h67,h68]<;>rfl,hM.fr⟩)
    exact rt1 2 (vB ((c.kids.length:Int)==0)) rfl f0 (hZ _ _ ⟨by unfold aA1 aA6;simp only [h53,h54,h55,h56,h65,h66,h67,h68]<;>rfl,hM.fr⟩)
   refine seg 10 2 [(74,vB (c.op==7))] f0 ?_;cases h57:(c.op==7)
   ·refine seg 12 2 [(98,vB (c.op==4))] f0 ?_;cases h58:(c.op==4)
    rotate_left
    ·exact rt1 2 (vB false) rfl f0 (hZ _ _ ⟨by unfold aA1 aA6;simp only [h53,h54,h55,h56,h57,h58]<;>rfl,hM.fr⟩)
    refine seg 14 2 [(105,vB (c.op==5))] f0 ?_;cases h59:(c.op==5)
    rotate_left
    ·exact rt1 2 (vB false) rfl f0 (hZ _ _ ⟨by unfold aA1 aA6;simp only [h53,h54,h55,h56,h57,h58,h59]<;>rfl,hM.fr⟩)
    refine seg 15 2 [(105,vB (c.op==6))] f0 ?_;cases h60:(c.op==6)
    ·exact rt1 2 (vB false) rfl f0 (hZ _ _ ⟨by unfold aA1 aA6;simp only [h53,h54,h55,h56,h57,h58,h59,h60]<;>rfl,hM.fr⟩)
    exact rt1 2 (vB false) rfl f0 (hZ _ _ ⟨by unfold aA1 aA6;simp only [h53,h54,h55,h56,h57,h58,h59,h60]<;>rfl,hM.fr⟩)
   refine aAx 11 2 78 [(77,vS c.key)] (fc (ldm 9 0 1 hM rfl rfl) f0) hM (aBl hk) fun w1 hM=>seg 11 4 [(79,vB (aFj c.key))] f0 ?_;cases h61:(aFj c.key)
   ·exact rt1 2 (vB false) rfl f0 (hZ _ _ ⟨by unfold aA1 aA6;simp only [h53,h54,h55,h56,h57,h61]<;>rfl,hM.fr⟩)
   refine seg 11 9 [(84,vB (c.val==[]))] (fc (ldm 9 0 2 hM rfl rfl) (fc (seq 9 c.val []) f0)) ?_;cases h62:(c.val==[])
   ·exact rt1 2 (vB false) rfl f0 (hZ _ _ ⟨by unfold aA1 aA6;simp only [h53,h54,h55,h56,h57,h61,h62]<;>rfl,hM.fr⟩)
   refine seg 11 14 [(89,vB (decide (0<=c.n)))] (fc (ldm 3 0 3 hM rfl rfl) f0) ?_;cases h63:(decide (0<=c.n))
   ·exact rt1 2 (vB false) rfl f0 (hZ _ _ ⟨by unfold aA1 aA6;simp only [h53,h54,h55,h56,h57,h61,h62,h63]<;>rfl,hM.fr⟩)
   refine seg 11 19 [(94,vB (decide (c.n<=9999999)))] (fc (ldm 3 0 3 hM rfl rfl) f0) ?_;cases h64:(decide (c.n<=9999999))
   ·exact rt1 2 (vB false) rfl f0 (hZ _ _ ⟨by unfold aA1 aA6;simp only [h53,h54,h55,h56,h57,h61,h62,h63,h64]<;>rfl,hM.fr⟩)
   exact rt1 2 (vB ((c.kids.length:Int)==0)) rfl f0 (hZ _ _ ⟨by unfold aA1 aA6;simp only [h53,h54,h55,h56,h57,h61,h62,h63,h64]<;>rfl,hM.fr⟩)
  refine seg 1 9 [(13,vB (c.val==[]))] (fc (ldm 9 0 2 hM rfl rfl) (fc (seq 9 c.val []) f0)) ?_;cases h72:(c.val==[])
  ·refine seg 4 2 [(3,vB false),(4,vI (c.kids.length:Int)),(22,vI c.op),(23,vB (c.op==1))] (fc (ldm 25 0 4 hM rfl rfl) (fc (ldm 3 0 0 hM rfl rfl) f0)) ?_;cases h73:(c.op==1)
   rotate_left
   ·exact rt1 2 (vB false) rfl f0 (hZ _ _ ⟨by unfold aA1 aA6;simp only [h53,h72,h73]<;>rfl,hM.fr⟩)
   refine seg 6 2 [(30,vB (c.op==2))] f0 ?_;cases h74:(c.op==2)
   rotate_left
   ·refine aAx 7 2 34 [(33,vS c.key)] (fc (ldm 9 0 1 hM rfl rfl) f0) hM (aBl hk) fun w1 hM=>seg 7 4 [(35,vB (aFj c.key))] f0 ?_;cases h84:(aFj c.key)
    ·exact rt1 2 (vB false) rfl f0 (hZ _ _ ⟨by unfold aA1 aA6;simp only [h53,h72,h73,h74,h84]<;>rfl,hM.fr⟩)
    exact rt1 2 (vB false) rfl (fc (ldm 9 0 2 hM rfl rfl) (fc (rz (seq 9 c.val []) h72) f0)) (hZ _ _ ⟨by unfold aA1 aA6;simp only [h53,h72,h73,h74,h84]<;>rfl,hM.fr⟩)
   refine seg 8 2 [(49,vB (c.op==3))] f0 ?_;cases h75:(c.op==3)
   rotate_left
   ·refine aAx 9 2 53 [(52,vS c.key)] (fc (ldm 9 0 1 hM rfl rfl) f0) hM (aBl hk) fun w1 hM=>seg 9 4 [(54,vB (aFj c.key))] f0 ?_;cases h81:(aFj c.key)
    ·exact rt1 2 (vB false) rfl f0 (hZ _ _ ⟨by unfold aA1 aA6;simp only [h53,h72,h73,h74,h75,h81]<;>rfl,hM.fr⟩)
    refine seg 9 15 [(65,vB (decide ((c.val.length:Int)<=200)))] (fc (ldm 9 0 2 hM rfl rfl) (fc (rz (sne 9 c.val []) (by rw [h72]<;>rfl)) (fc (ldm 9 0 2 hM rfl rfl) (fc (aII 9 c.val) f0)))) ?_;cases h82:(decide ((c.val.length:Int)<=200))
    ·exact rt1 2 (vB false) rfl f0 (hZ _ _ ⟨by unfold aA1 aA6;simp only [h53,h72,h73,h74,h75,h81,h82]<;>rfl,hM.fr⟩)
    refine seg 9 20 [(70,vB (c.n==0))] (fc (ldm 3 0 3 hM rfl rfl) f0) ?_;cases h83:(c.n==0)
    ·exact rt1 2 (vB false) rfl f0 (hZ _ _ ⟨by unfold aA1 aA6;simp only [h53,h72,h73,h74,h75,h81,h82,h83]<;>rfl,hM.fr⟩)
    exact rt1 2 (vB ((c.kids.length:Int)==0)) rfl f0 (hZ _ _ ⟨by unfold aA1 aA6;simp only [h53,h72,h73,h74,h75,h81,h82,h83]<;>rfl,hM.fr⟩)
   refine seg 10 2 [(74,vB (c.op==7))] f0 ?_;cases h76:(c.op==7)
   rotate_left
   ·refine aAx 11 2 78 [(77,vS c.key)] (fc (ldm 9 0 1 hM rfl rfl) f0) hM (aBl hk) fun w1 hM=>seg 11 4 [(79,vB (aFj c.key))] f0 ?_;cases h80:(aFj c.key)
    ·exact rt1 2 (vB false) rfl f0 (hZ _ _ ⟨by unfold aA1 aA6;simp only [h53,h72,h73,h74,h75,h76,h80]<;>rfl,hM.fr⟩)
    exact rt1 2 (vB false) rfl (fc (ldm 9 0 2 hM rfl rfl) (fc (rz (seq 9 c.val []) h72) f0)) (hZ _ _ ⟨by unfold aA1 aA6;simp only [h53,h72,h73,h74,h75,h76,h80]<;>rfl,hM.fr⟩)
   refine seg 12 2 [(98,vB (c.op==4))] f0 ?_;cases h77:(c.op==4)
   rotate_left
   ·exact rt1 2 (vB false) rfl f0 (hZ _ _ ⟨by unfold aA1 aA6;simp only [h53,h72,h73,h74,h75,h76,h77]<;>rfl,hM.fr⟩)
   refine seg 14 2 [(105,vB (c.op==5))] f0 ?_;cases h78:(c.op==5)
   rotate_left
   ·exact rt1 2 (vB false) rfl f0 (hZ _ _ ⟨by unfold aA1 aA6;simp only [h53,h72,h73,h74,h75,h76,h77,h78]<;>rfl,hM.fr⟩)
   refine seg 15 2 [(105,vB (c.op==6))] f0 ?_;cases h79:(c.op==6)
   ·exact rt1 2 (vB false) rfl f0 (hZ _ _ ⟨by unfold aA1 aA6;simp only [h53,h72,h73,h74,h75,h76,h77,h78,h79]<;>rfl,hM.fr⟩)
   exact rt1 2 (vB false) rfl f0 (hZ _ _ ⟨by unfold aA1 aA6;simp only [h53,h72,h73,h74,h75,h76,h77,h78,h79]<;>rfl,hM.fr⟩)
  refine seg 4 2 [(3,vB (c.n==0)),(4,vI (c.kids.length:Int)),(22,vI c.op),(23,vB (c.op==1))] (fc (ldm 3 0 3 hM rfl rfl) (fc (ldm 25 0 4 hM rfl rfl) (fc (ldm 3 0 0 hM rfl rfl) f0))) ?_;cases h85:(c.op==1)
  rotate_left
  ·refine seg 5 2 [(26,vB (c.n==0))] f0 ?_;cases aa:(c.n==0)
   ·exact rt1 2 (vB false) rfl f0 (hZ _ _ ⟨by unfold aA1 aA6;simp only [h53,h72,h85,aa]<;>rfl,hM.fr⟩)
   exact rt1 2 (vB ((c.kids.length:Int)==0)) rfl f0 (hZ _ _ ⟨by unfold aA1 aA6;simp only [h53,h72,h85,aa]<;>rfl,hM.fr⟩)
  refine seg 6 2 [(30,vB (c.op==2))] f0 ?_;cases h86:(c.op==2)
  rotate_left
  ·refine aAx 7 2 34 [(33,vS c.key)] (fc (ldm 9 0 1 hM rfl rfl) f0) hM (aBl hk) fun w1 hM=>seg 7 4 [(35,vB (aFj c.key))] f0 ?_;cases h99:(aFj c.key)
   ·exact rt1 2 (vB false) rfl f0 (hZ _ _ ⟨by unfold aA1 aA6;simp only [h53,h72,h85,h86,h99]<;>rfl,hM.fr⟩)
   refine seg 7 14 [(45,vB (c.n==0))] (fc (ldm 9 0 2 hM rfl rfl) (fc (rz (seq 9 c.val []) h72) (fc (ldm 3 0 3 hM rfl rfl) f0))) ?_;cases ab:(c.n==0)
   ·exact rt1 2 (vB false) rfl f0 (hZ _ _ ⟨by unfold aA1 aA6;simp only [h53,h72,h85,h86,h99,ab]<;>rfl,hM.fr⟩)
   exact rt1 2 (vB ((c.kids.length:Int)==0)) rfl f0 (hZ _ _ ⟨by unfold aA1 aA6;simp only [h53,h72,h85,h86,h99,ab]<;>rfl,hM.fr⟩)
  refine seg 8 2 [(49,vB (c.op==3))] f0 ?_;cases h87:(c.op==3)
  rotate_left
  ·refine aAx 9 2 53 [(52,vS c.key)] (fc (ldm 9 0 1 hM rfl rfl) f0) hM (aBl hk) fun w1 hM=>seg 9 4 [(54,vB (aFj c.key))] f0 ?_;cases h98:(aFj c.key)
   ·exact rt1 2 (vB false) rfl f0 (hZ _ _ ⟨by unfold aA1 aA6;simp only [h53,h72,h85,h86,h87,h98]<;>rfl,hM.fr⟩)
   exact rt1 2 (vB false) rfl (fc (ldm 9 0 2 hM rfl rfl) (fc (rz (sne 9 c.val []) (by rw [h72]<;>rfl)) f0)) (hZ _ _ ⟨by unfold aA1 aA6;simp only [h53,h72,h85,h86,h87,h98]<;>rfl,hM.fr⟩)
  refine seg 10 2 [(74,vB (c.op==7))] f0 ?_;cases h88:(c.op==7)
  rotate_left
  ·refine aAx 11 2 78 [(77,vS c.key)] (fc (ldm 9 0 1 hM rfl rfl) f0) hM (aBl hk) fun w1 hM=>seg 11 4 [(79,vB (aFj c.key))] f0 ?_;cases h95:(aFj c.key)
   ·exact rt1 2 (vB false) rfl f0 (hZ _ _ ⟨by unfold aA1 aA6;simp only [h53,h72,h85,h86,h87,h88,h95]<;>rfl,hM.fr⟩)
   refine seg 11 14 [(89,vB (decide (0<=c.n)))] (fc (ldm 9 0 2 hM rfl rfl) (fc (rz (seq 9 c.val []) h72) (fc (ldm 3 0 3 hM rfl rfl) f0))) ?_;cases h96:(decide (0<=c.n))
   ·exact rt1 2 (vB false) rfl f0 (hZ _ _ ⟨by unfold aA1 aA6;simp only [h53,h72,h85,h86,h87,h88,h95,h96]<;>rfl,hM.fr⟩)
   refine seg 11 19 [(94,vB (decide (c.n<=9999999)))] (fc (ldm 3 0 3 hM rfl rfl) f0) ?_;cases h97:(decide (c.n<=9999999))
   ·exact rt1 2 (vB false) rfl f0 (hZ _ _ ⟨by unfold aA1 aA6;simp only [h53,h72,h85,h86,h87,h88,h95,h96,h97]<;>rfl,hM.fr⟩)
   exact rt1 2 (vB ((c.kids.length:Int)==0)) rfl f0 (hZ _ _ ⟨by unfold aA1 aA6;simp only [h53,h72,h85,h86,h87,h88,h95,h96,h97]<;>rfl,hM.fr⟩)
  refine seg 12 2 [(98,vB (c.op==4))] f0 ?_;cases h89:(c.op==4)
  rotate_left
  ·refine seg 13 2 [(101,vB (c.n==0))] f0 ?_;cases h94:(c.n==0)
   ·exact rt1 2 (vB false) rfl f0 (hZ _ _ ⟨by unfold aA1 aA6;simp only [h53,h72,h85,h86,h87,h88,h89,h94]<;>rfl,hM.fr⟩)
   exact rt1 2 (vB ((c.kids.length:Int)==1)) rfl f0 (hZ _ _ ⟨by unfold aA1 aA6;simp only [h53,h72,h85,h86,h87,h88,h89,h94]<;>rfl,hM.fr⟩)
  refine seg 14 2 [(105,vB (c.op==5))] f0 ?_;cases h90:(c.op==5)
  rotate_left
  ·refine seg 16 2 [(109,vB (c.n==0))] f0 ?_;cases h93:(c.n==0)
   ·exact rt1 2 (vB false) rfl f0 (hZ _ _ ⟨by unfold aA1 aA6;simp only [h53,h72,h85,h86,h87,h88,h89,h90,h93]<;>rfl,hM.fr⟩)
   exact rt1 2 (vB (decide (1<(c.kids.length:Int)))) rfl f0 (hZ _ _ ⟨by unfold aA1 aA6;simp only [h53,h72,h85,h86,h87,h88,h89,h90,h93]<;>rfl,hM.fr⟩)
  refine seg 15 2 [(105,vB (c.op==6))] f0 ?_;cases h91:(c.op==6)
  ·exact rt1 2 (vB false) rfl f0 (hZ _ _ ⟨by unfold aA1 aA6;simp only [h53,h72,h85,h86,h87,h88,h89,h90,h91]<;>rfl,hM.fr⟩)
  refine seg 16 2 [(109,vB (c.n==0))] f0 ?_;cases h92:(c.n==0)
  ·exact rt1 2 (vB false) rfl f0 (hZ _ _ ⟨by unfold aA1 aA6;simp only [h53,h72,h85,h86,h87,h88,h89,h90,h91,h92]<;>rfl,hM.fr⟩)
  exact rt1 2 (vB (decide (1<(c.kids.length:Int)))) rfl f0 (hZ _ _ ⟨by unfold aA1 aA6;simp only [h53,h72,h85,h86,h87,h88,h89,h90,h91,h92]<;>rfl,hM.fr⟩)
theorem aWR (B:Nat):Vis 80 #[] (σ:=Unit) nF_ (fun _=>aEK) (fun _=>True) (fun c s=>(aA1 c,s)) B where
  eg:=enters_of Tryz.func80 (by kernel_rfl) rfl
  hD:=fun _ _=>Iff.rfl
  hB:=fun _ h=>h.elim
  lv:=fun _ _ _ _=>trivial
  step:=fun {h c s w} hc hBw _ hM=>by
    cases h with
    | zero=>exact hc.elim
    | succ h=>exact (aLM (w:=w) (c:=c) hc.1).mono fun e w' ⟨h1,h2⟩=>⟨h1,hM.q h2⟩
theorem aIZ {w:World}{c:CdR}{b:Nat}{s:Int}(h0:0<=s) (h1:s<=60) (hM0:Mm (fun k=>k=b) w w [bk b #[vI s] 3]):Calls Tryz.prog 132 #[vA (cdL c),vP b 0] w fun e w'=>e = .returned (vB (decide (s+1<=60))) /\ Mm (fun k=>k=b) w w' [bk b #[vI (s+1)] 3]:=by
  refine beg Tryz.func132 rfl rfl [(0,.agg (cY_ c)),(1,vP b 0)] rfl rfl fun Z hZ=>?_;have hM:=hM0;refine aAu 0 0 2 [] (cs:=(cY_ c)) (T:=27) (v:=fun b=>vP b 0) f0 hM fun aa w1 hM=>stm 1 2 [(5,vI (s+1))] 3 0 0 (vI (s+1)) (fc (ldm 3 0 0 hM rfl rfl) (fc (aAI s 1 u3_) f0)) hM rfl fun w1 hM=>rt1 3 (vB (decide ((s+1)<=60))) rfl (fc (ldm 3 0 0 hM rfl rfl) f0) (hZ _ _ ⟨rfl,hM.pick [0]⟩)
theorem aW7 {B b:Nat}(hb:B<=b):Vis 132 #[vP b 0] (fun k=>k=b) (fun s=>bk b #[vI s] 3) (fun s=>0<=s /\ s<=60) (fun _ s=>(decide (s+1<=60),s+1)) B where
  eg:=enters_of Tryz.func132 (by kernel_rfl) rfl
  hD:=fun _ _=>Iff.rfl
  hB:=fun _ h=>by rw [h];exact hb
  lv:=fun _ s h h2=>⟨by have:=h.1;show 0<=s+1;omega,of_decide_eq_true h2⟩
  step:=fun {h c s w} hc hBw hL hM=>aIZ hL.1 hL.2 hM
theorem _root_.Go.Pl.Mm.new {w0 w:World}{M:List Ent}(h:Mm nF_ w0 w M) (j:Nat) {b:Nat}{cs:Array Value}{T:TypeId}(hj:M[j]?=some (bk b cs T)):w0.heap.size<=b:=by
  rcases Nat.lt_or_ge b w0.heap.size with h1 | h1
  · exact (h.own _ (gm hj) b rfl h1).elim
  · exact h1
theorem aIQ {w:World}{B h:Nat}{c:CdR}(hc:CdB w B h c) (hBw:B<=w.heap.size):Calls Tryz.prog 79 #[vA (cdL c),.func (.func 80) #[] #[]] w fun e w'=>e = .returned (vB (aBt (fun c s=>(aA1 c,s)) h c ()).1) /\ Fr nF_ w w' :=
  (aEv (aWR B) h hc hBw trivial (s:=()) ((Mm.nil _ _).nl)).mono fun e w' ⟨h1,h2⟩=>⟨h1,h2.fr⟩
theorem aLw {w:World}{B h:Nat}{c:CdR}(hc:CdB w B h c) (hBw:B<=w.heap.size):Calls Tryz.prog 78 #[vA (cdL c)] w fun e w'=>e = .returned (vI (aP8 h c)) /\ Fr nF_ w w':=by
  refine beg Tryz.func78 rfl rfl [(0,.agg (cY_ c))] rfl rfl fun Z hZ=>?_;have hM:=Mm.nil nF_ w;refine aAu 0 0 1 [] (cs:=(cY_ c)) (T:=27) (v:=fun b=>vP b 0) f0 hM fun ab w1 hM=>aBY 1 0 3 [] [] 3 (vI 0) f0 hM fun aa w1 hM=>aOI 2 2 6 [(4,.agg (cY_ c)),(5,.func (.func 132) #[] #[vP aa 0])] (K:=fun u Mn=>u=vB (aBt (fun _ s=>(decide (s+1<=60),s+1)) h c 0).1 /\ Mn=[bk aa #[vI (aBt (fun _ s=>(decide (s+1<=60),s+1)) h c 0).2] 3]) [0] [1] (fc (lam 27 0 0 5 hM rfl) f0) hM rfl rfl (by decide) (fun hm=>aWg (J:=(fun s=>bk aa #[vI s] 3)) (s:=(0:Int)) (s':=(aBt (fun _ s=>(decide (s+1<=60),s+1)) h c 0).2) (fun _ _=>Iff.rfl) (fun hm=>aEv (aW7 (Gn_ hBw (hM.new 1 (b:=aa) rfl))) h (hc.g (fun _ h=>h.elim) hM.fr hBw) (Gn_ hBw hM.fr.size) ⟨by decide,by decide⟩ hm) hm) fun u Mn w1 hK hM=>?_;obtain ⟨rfl,rfl⟩:=hK;exact rt1 2 (vI (aBt (fun _ s=>(decide (s+1<=60),s+1)) h c 0).2) rfl (fc (ldm 3 1 0 hM rfl rfl) f0) (hZ _ _ ⟨rfl,hM.fr⟩)
theorem aEE {w:World}{B h:Nat}{c:CdR}(hc:CdB w B h c) (hBw:B<=w.heap.size):Calls Tryz.prog 36 #[vA (cdL c)] w fun e w'=>e = .returned (vB (aDh h c)) /\ Fr nF_ w w':=by
  refine beg Tryz.func36 rfl rfl [(0,.agg (cY_ c))] rfl rfl fun Z hZ=>?_;have hM:=Mm.nil nF_ w;refine aAu 0 0 1 [] (cs:=(cY_ c)) (T:=27) (v:=fun b=>vP b 0) f0 hM fun ab w1 hM=>aAx 1 1 4 [(3,.agg (cY_ c))] (fc (lam 27 0 0 5 hM rfl) f0) hM (aLw (hc.g (fun _ h=>h.elim) hM.fr hBw) (Gn_ hBw hM.fr.size)) fun w1 hM=>seg 1 4 [(6,vB (decide ((aP8 h c)<=60)))] f0 ?_;cases aa:(decide ((aP8 h c)<=60))
  ·exact rt1 2 (vB false) rfl f0 (hZ _ _ ⟨by unfold aDh;simp only [aa]<;>rfl,hM.fr⟩)
  refine aAx 1 5 8 [(7,.agg (cY_ c))] (fc (lam 27 0 0 5 hM rfl) f0) hM (aIQ (hc.g (fun _ h=>h.elim) hM.fr hBw) (Gn_ hBw hM.fr.size)) fun w1 hM=>rt1 2 (vB (aBt (fun c s=>(aA1 c,s)) h c ()).1) rfl f0 (hZ _ _ ⟨by unfold aDh;simp only [aa]<;>rfl,hM.fr⟩)
end Go.Proofs.YtngjlnhojicjeaaGreatDoor
