/- Part 2 of the proof. -/
import Derived.Test.YtngjlnhojicjeaaGreatDoorD1
import Derived.WalkKit
import Derived.Shelf.Strings.Builder1
import Derived.Shelf.Small.Bits
import Derived.Shelf.Small.Strs
import Derived.Shelf.Small.Wraps
import Derived.Shelf.Strings.BuilderF
import Derived.Shelf.Strings.BuilderK
import Derived.Shelf.Strconv.Atoi
import Derived.Shelf.Strconv.Itoa0
import Derived.Shelf.Strconv.Itoa1
import Derived.Shelf.LaysM
import Derived.Shelf.Strconv.Itoa2
import Derived.Shelf.Strconv.Itoa3
import Derived.Shelf.Strconv.AtoiErrFast
import Derived.Shelf.Strconv.ParseIntEmpty
import Derived.Shelf.Strconv.AtoiFail
import Derived.Shelf.Strconv.Clone
import Derived.Shelf.Strconv.SyntaxError
import Derived.Shelf.LaysC
import Derived.Shelf.Strconv.ToError
import Derived.Shelf.Strconv.Lower
import Derived.Shelf.Strconv.ParseUint10
import Derived.Shelf.Strconv.ParseUint10Empty
import Derived.Shelf.Strconv.ParseUint10Any
import Derived.Shelf.Strconv.ParseInt10
import Derived.Shelf.Strconv.AtoiLong
import Derived.Shelf.Strconv.AtoiInnerAll
import Derived.Shelf.Strconv.RangeError
import Derived.Shelf.Strconv.ToErrorRange
import Derived.Shelf.Strconv.AtoiAll
import Derived.Shelf.Strings.Search1
import Derived.Shelf.GgClosure.StringsIndexFunc
import Derived.Ground.GgwProg
import Derived.Shelf.GgClosure.StringsIndexFuncTop
import Derived.Shelf.Strings.Fields
import Derived.Shelf.Unicode.Latin
import Derived.Shelf.Bits.Mul64
import Derived.Shelf.Unicode.Is16White
import Derived.Shelf.Unicode.IsSpaceAny
import Derived.Shelf.Unicode.Is16Any
import Derived.Shelf.Unicode.Is32Any
import Derived.Shelf.Unicode.ExclAny
import Derived.Shelf.Strings.FuncGrows
import Derived.Shelf.Strings.BuilderCap
import Derived.Shelf.Slices.Turned
import Derived.Ground.SlgmProg
import Derived.Shelf.SortM.Plain
import Derived.Shelf.SortM.SortNone
import Derived.Test.YtngjlnhojicjeaaGreatDoorProg
import Derived.Recover
import Derived.Defers
import Derived.DeepKeys5
import Derived.DeepKeys4
import Derived.Shelf.SlSortCmp.NoneTotal
import Derived.Ground.SlsfProg
import Derived.Shelf.SlGeneric
set_option linter.unusedVariables false
set_option linter.unusedSimpArgs false
namespace Go.Pl
open Go.RowKit
variable{B:Code}{R:Pst}{ds:List Deferred}{w w0:World}{F:List Ft}{F0:Nat->Prop}{M:List Ent}{rd:Option Nat}{o:Oper}{a:Act}{args:Array Value}{v:Value}{j k:Nat}{e:Ent}
section
variable{P:Program}{n:Nat}{p:Option (Nat×Nat)}{L N:Frm}{r' i':Nat}
def aWJ (J:Nat->Ent->Prop)(k:Nat)(e:Ent)(w w':World):Prop:=∃e',J (k+1) e'/\e'.H w'/\(∀b,e'.B b->e.B b\/w.heap.size<=b)/\Fr e.B w w'
theorem aKx {l:Nat}{K:Act->World->Prop}{Q:Exit->Act->World->Prop}{Rt Rs:World->Prop}(hrun:∀fn tmps sg bd,(Instr.yield l args).run P w=.ok (.round l fn tmps sg bd) w->(execOp a.eval o).run P w=.ok (.round l fn tmps sg bd) w)(hR:aEO P l args w Rt Rs)
  (kt:∀w',Rt w'->K (a.put o.dst (.bool true)) w') (kf:∀w',Rs w'->K (a.put o.dst (.bool false)) w'):o.wpIn (fen rd) 0 P a w K Q:=by
 obtain⟨m',fn,tmps,sg,bd,hrun1,hFn,hround⟩:=hR;refine⟨λ_ _=>trivial,?_⟩;show Oper.uponIn _ _ _ _ _ _ _ ((o.semAt rd a.eval).run P w);rw[aHh (hrun _ _ _ _ hrun1) (by intro d h;cases h)];refine⟨λh=>(by cases h),trivial,λc cs _=>?_⟩;obtain⟨e2,w2,h,h3⟩:=hround c cs (room_wide _);rcases h with⟨rfl,h2⟩|⟨rfl,h2⟩
 ·exact⟨.returned (.bool true),w2,kt w2 h2,h3⟩
 ·exact⟨.returned (.bool false),w2,kf w2 h2,h3⟩
theorem aYZ (r' i' d:Nat)(N:Frm)(ts:Array TypeId){l:Nat}{v2:Value}{J:Nat->Ent->Prop}{S:World->Prop}(hd:d<n)(hF:aBg P w F)(hM:Mm F0 w0 w M)(hj:M[j]?=some e)(hR:aEO P l #[v,v2] w (aWJ J k e w) S)
  (kt:∀e' w',J (k+1) e'->Mm F0 w0 w' (M.set j e')->AtO P B R ds n (some (r',i'+1)) ((d,.bool true)::(N++L)) w')
  (kf:∀w',S w'->AtO P B R ds n (some (r',i'+1)) ((d,.bool false)::(N++L)) w')
  (h:(lhs (go P w n B p L r' i' F) N L,aSU (go P w n B p L r' i' F) n L (λx y z =>.call ⟨.value x,#[y,z],ts⟩))=(rhs (go P w n B p L r' i' F) N B r' i',aST (go P w n B p L r' i' F) n L (λx y z =>.call ⟨.value x,#[y,z],ts⟩) (some d) (.func (.yield l) #[] #[]) v v2):=by kernel_rfl):AtO P B R ds n p L w :=
 aK2 hF h λO kk o ll a x y z hf hd1 E hdd hw ho hx hy hz=>by
  have hdr:O.toList.drop (i'+1)=ll:=by rw[<-List.tail_drop,hd1];rfl
  refine aQb hw (aKx (λ_ _ _ _ h=>aFA ho hx hy hz h) hR (λw' hw'=>?_) λw' hw'=>?_)
  ·obtain⟨e',h1,h2,h3,h4⟩:=hw';obtain⟨O1,dr,k1,hf1,hk⟩:=kt e' w' h1 (hM.put j hj h4 (λ_ _ h=>h) h2 h3);rw[hf] at hf1;cases hf1;have:=hk _ (E.put (v := .bool true) hd);rw[hdd,<-hdr];exact this
  ·obtain⟨O1,dr,k1,hf1,hk⟩:=kf w' hw';rw[hf] at hf1;cases hf1;have:=hk _ (E.put (v := .bool false) hd);rw[hdd,<-hdr];exact this
end
theorem Mm.one {W:World}(h:e.H W):Mm e.B W W [e]:=⟨Fr.refl _ _,λx hx=>by rw[Gd_] at hx;subst hx;exact h,λx hx k hk _=>by rw[Gd_] at hx;subst hx;exact hk,List.pairwise_singleton _ _⟩
def dfE (D:Nat):Ent where
 B:=λk=>k=D
 H:=λw=>w.heap[D]?=some (.deferred (some []))
 lt:=λh e=>by subst e;exact aAf h
 fr:=λh f hd=>f.obj h (hd _ rfl)
def aOu (M:List Ent)(D l:Nat)(r:Loop):Ent where
 B:=λk=>BlM M k\/k=D\/k=l
 H:=λw=>(∀e∈M,e.H w)/\w.heap[D]?=some (.deferred (some []))/\w.heap[l]?=some (.loop r)
 lt:=λh e=>by
  rcases e with⟨x,hx,hk⟩|rfl|rfl
  ·exact x.lt (h.1 x hx) hk
  ·exact aAf h.2.1
  ·exact aAf h.2.2
 fr:=λh f hd=>⟨λe he=>e.fr (h.1 e he) f λk hk=>hd k (.inl ⟨e,he,hk⟩),f.obj h.2.1 (hd _ (.inr (.inl rfl))),f.obj h.2.2 (hd _ (.inr (.inr rfl)))⟩
def aLX (q:Nat):Code->Option (Operand×Array Tmp×Code×Code)
 | .seq x y=>match aLX q x with|some z=>some z|none=>aLX q y
 | .cond _ x y=>match aLX q x with|some z=>some z|none=>aLX q y
 | .block _ c=>aLX q c
 | .loop c=>aLX q c
 | .scope c=>aLX q c
 | .rangeFunc g ps sg bd=>bif Nat.beq q (1000+aEm sg) then some (g,ps,sg,bd) else none
 | _=>none
def aUT (q:Nat)(B:Code):Code:=match aLX q B with|some (_,_,sg,_)=>sg|none =>.skip
def aSC (q:Nat)(B:Code):Code:=match aLX q B with|some (_,_,_,bd)=>bd|none =>.skip
section
variable{P:Program}{n:Nat}{L:Frm}{Qf:Exit->Act->World->Prop}
theorem aJf {ds:List Deferred}{n:Nat}{L:Frm}:∀{ps:List Nat}{vs:List Value}{t:Array Value},EnvS [] n L { tmps:=t,defers:=[] }->ps.length=vs.length->(∀p∈ps,p<n)->EnvS [] n ((ps.zip vs).reverse++L) { tmps:=(ps.zip vs).foldl (λt (p,v)=>t.setIfInBounds p v) t,defers:=[] }
 | [],vs,t,E,h,_=>by simpa using E
 | p::ps,[],t,E,h,_=>by simp at h
 | p::ps,v::vs,t,E,h,hp=>by
  have E1:=E.put (v:=v) (hp p sI);have E2:EnvS [] n ((p,v)::L) { tmps:=t.setIfInBounds p v,defers:=[] }:=E1;have:=aJf (ds:=ds) E2 (by simpa using h) λx hx=>hp x (List.mem_cons_of_mem _ hx);simpa[List.zip_cons_cons,List.reverse_cons,Gl_] using this
end
variable{fn:Func}{Φ:Ending->World->Prop}{D:Nat}{w':World}
section
variable{P:Program}{n:Nat}{p:Option (Nat×Nat)}{L:Frm}
def aXU (b:Bool)(x:Res)(N L:Frm):Option (Bool×List (Option Value)×List Eqn) :=
 match x with
 | some (m,nw,_,es)=>some (match m with|.ret=>b|.nrm => !b|_=>false,N.map (λy=>look (nw++L) y.1),es.map Eqn.l)
 | none=>none
theorem aYG (b:Bool)(N:Frm)(hF:aBg P w F)(h:aXU b (go P w n B p L 1000000 0 F) N L=aMw (go P w n B p L 1000000 0 F) N)(k:∀a,EnvS ds n N a->R.q (match b with|true =>.ret|false =>.normal) a w):AtO P B R ds n p L w:=by
 cases hx:go P w n B p L 1000000 0 F with
 | none=>rw[hx] at h;cases h
 | some z =>
  obtain⟨m,nw,fs,es⟩:=z;rw[hx] at h;have h:=Gh_ h;obtain⟨h1,h⟩:=Prod.mk.inj h;obtain⟨h2,h3⟩:=Prod.mk.inj h;refine aJS hx hF (aGt.of h3) λa E=>?_;have hk:=k a (E.sub λs v hs=>(List.map_inj_left.1 h2) (s,v) (aBo hs))
  cases m with
  | ret=>cases b with
   | true=>exact hk
   | false=>cases h1
  | nrm=>cases b with
   | true=>cases h1
   | false=>exact hk
  | _=>cases h1
theorem aJc (N:Frm)(hF:aBg P w F)(k:∀a,EnvS ds n N a->R.q .normal a w)(h:aXU false (go P w n B p L 1000000 0 F) N L=aMw (go P w n B p L 1000000 0 F) N:=by kernel_rfl):AtO P B R ds n p L w:=aYG false N hF h k
theorem aTl (N:Frm)(hF:aBg P w F)(k:∀a,EnvS ds n N a->R.q .ret a w)(h:aXU true (go P w n B p L 1000000 0 F) N L=aMw (go P w n B p L 1000000 0 F) N:=by kernel_rfl):AtO P B R ds n p L w:=aYG true N hF h k
theorem Mm.unmark (h:Mm F0 w0 w (M++[dfE D]))(f:Fr (aB0 [mkD D]) w w'):Mm F0 w0 w' M:=by
 have hi:∀r,aB0 [mkD D] r->r=D:=λr hr=>by
  rcases aBP.1 hr with h|h
  ·exact h
  ·cases h
 have hm:dfE D∈M++[dfE D]:=by simp
 obtain⟨n1,_,n3⟩:=List.pairwise_append.1 h.nd;exact⟨h.fr.trans' f λr hr hg=>h.own _ hm r (hi r hg) hr,λe he=>e.fr (h.at_ e (Gs_ _ he)) f λk hk hg=>n3 e he (dfE D) sI k hk (hi k hg),λe he=>h.own e (Gs_ _ he),n1⟩
abbrev aHZ (P:Program)(fn:Func)(Φ:Ending->World->Prop):Pst:=⟨bodyPostM Fence.wide 0 P fn Φ,none⟩
theorem aLd {u:Bool}(E:a.defers=[mkD D])(hM:Mm F0 w0 w (M++[dfE D]))(hres:∀w',Mm F0 w0 w' M->∃v,(results fn a.tmps).run P w'=.ok v w'/\Φ (.returned v) w'):bodyPostM Fence.wide 0 P fn Φ .ret a w/\bodyPostM Fence.wide 0 P fn Φ .normal a w:=by
 have:LeavesInM Fence.wide 0 P fn a.tmps Φ a.defers .returning w:=by
  rw[E]
  exact aJK _ w ⟨by simp,λd hd=>by
   rw[Gd_] at hd;exact⟨D,hd,hM.at_ (dfE D) sI⟩⟩ λw' hf=>hres w' (hM.unmark hf)
 exact⟨this,this⟩
theorem aVP (E:a.defers=[])(hres:∃v,(results fn a.tmps).run P w=.ok v w/\Φ (.returned v) w):bodyPostM Fence.wide 0 P fn Φ .ret a w/\bodyPostM Fence.wide 0 P fn Φ .normal a w:=by
 have:LeavesInM Fence.wide 0 P fn a.tmps Φ a.defers .returning w:=by
  rw[E];exact hres
 exact⟨this,this⟩
theorem aWX {f:FuncId}(hf:P.funcs[f]?=some fn)(hb:fn.body=some B)(hn:fn.ntmps=n)(L:Frm)(hL:L=(List.range args.size).zip args.toList)(hs:Nat.ble args.size n=true)(k:∀Φ':Ending->World->Prop,(∀e w',Φ e w'->Φ' e w')->AtO P B (aHZ P fn Φ') [] n none L w):Calls P f args w Φ:=by
 have hs:args.size<=n:=Nat.le_of_ble_eq_true hs;refine(callsIn_wide (n:=0)).1 (callsIn_of_wp_marks hf hb trivial (k Φ (λ_ _ h=>h) _ (aLs hn hL hs)))
end
variable{α:Type}
theorem aVd {L:List α}{g:α->Array Value}{v:Array Value}(h:(L.map g)[k]?=some v):∃y,L[k]?=some y/\g y=v:=by
 rw[Gr_] at h
 cases hq:L[k]? with
 | none=>rw[hq] at h;cases h
 | some y=>rw[hq] at h;exact⟨y,rfl,Gh_ h⟩
theorem vsz {L:List α}{g:α->Array Value}{ps:Array Tmp}(h:(λy=>(g y).size)=λ_=>ps.size):∀v∈L.map g,v.size=ps.size:=λv hv=>by
 obtain⟨y,_,rfl⟩:=List.mem_map.1 hv;exact congrFun h y
def aYJ (P:Program)(E:TypeId)(c:Nat):Bool:=match P.info? E with
 | some i=>match i.zero with
  | some z=>Nat.beq i.size c&&Nat.beq z.cells.size c&&Nat.ble i.bytes 93
  | none=>false
 | none=>false
variable{E:TypeId}
theorem aCz {P:Program}{c:Nat}(h:aYJ P E c=true):∃i z,P.info? E=some i/\i.zero=some z/\i.size=c/\z.cells.size=c/\i.bytes<=93:=by
 unfold aYJ at h
 split at h
 ·rename_i i hi
  split at h
  ·rename_i z hz;simp only[Ga_] at h;exact⟨i,z,hi,hz,Nat.eq_of_beq_eq_true h.1.1,Nat.eq_of_beq_eq_true h.1.2,Nat.le_of_ble_eq_true h.2⟩
  ·cases h
 ·cases h
theorem aFO {M:List Ent}:∀{a b:List Nat},aCH M (a++b)=aCH M a++aCH M b
 | [],b=>rfl
 | j::a,b=>by
  show(match M[j]? with|some e=>e::aCH M (a++b)|none=>aCH M (a++b))=(match M[j]? with|some e=>e::aCH M a|none=>aCH M a)++aCH M b;rw[aFO (a:=a) (b:=b)];cases M[j]?<;>rfl
variable{K:Value->List Ent->Prop}
theorem aHU {P:Program}{n:Nat}{p:Option (Nat×Nat)}{L:Frm}{A Ms:List Ent}(r' i' d:Nat)(N:Frm){g:FuncId}(is js:List Nat)(hF:aBg P w F)(hM:Mm F0 w0 w M)(hA:aCH M is=A)(hS:aCH M js=Ms)(hn:(is++js).Nodup)(hc:Mm (BlM Ms) w w Ms->Calls P g args w λe w'=>∃v Mn,e=.returned v/\K v Mn/\Mm (BlM Ms) w w' Mn)(k:∀v Mn w',K v Mn->Mm F0 w0 w' (A++Mn)->AtO P B R ds n (some (r',i'+1)) ((d,v)::(N++L)) w')(h:(lhs (go P w n B p L r' i' F) N L,aME P w n L (go P w n B p L r' i' F))=(rhs (go P w n B p L r' i' F) N B r' i',some (d,.ok (.enter g args,w))):=by kernel_rfl):AtO P B R ds n p L w:=by
 have hp:aCH M (is++js)=A++Ms:=by
  rw[<-hA,<-hS,aFO]
 have hM1:=hM.pick (is++js) hp hn;have hMs:Mm F0 w0 w Ms:=hM.pick js hS (List.nodup_append.1 hn).2.1;refine cal r' i' d N (K:=λu w'=>∃Mn,K u Mn/\Mm (BlM Ms) w w' Mn) hF ((hc (hMs.re λe he k hk=>⟨e,he,hk⟩)).mono λe w' ⟨v,Mn,h1,h2⟩=>⟨v,h1,Mn,h2⟩) (λu w' ⟨Mn,h1,h2⟩=>k u Mn w' h1 (hM1.call h2 λ_ _ h=>h)) h
section
variable{P:Program}{n:Nat}{p:Option (Nat×Nat)}{L:Frm}{t2 t3 t4 T2 T3 T4 b2 b3 b4:Nat}{v2 v3 v4:Value}
end
theorem Mm.apart {N:List Ent}(h:Mm F0 w0 w (M++N)){x:Ent}(hx:x∈N)(hk:x.B k):¬BlM M k:=λ⟨e,he,hb⟩=>(List.pairwise_append.1 h.nd).2.2 e he x hx k hb hk
section
variable{P:Program}{n:Nat}{p:Option (Nat×Nat)}{L:Frm}{Ms:List Ent}
end
theorem aEf:∀(l:List Value)(cs:Array Value)(k p:Nat),k+l.length<=cs.size->(aJ9 cs k l)[p]?=if k<=p/\p<k+l.length then l[p-k]? else cs[p]?
 | [],cs,k,p,h=>by
  rw[if_neg (by simp only[Gm_];omega)];rfl
 | v::l,cs,k,p,h=>by
  rw[Gf_] at h;unfold aJ9;rw[aEf l _ _ p (by rw[Array.size_setIfInBounds];omega),Array.getElem?_setIfInBounds,Gf_]
  by_cases h1:p=k
  ·subst h1;rw[if_neg oM,if_pos rfl,if_pos oM,if_pos oM,Nat.sub_self];rfl
  ·by_cases h2:k+1<=p/\p<k+1+l.length
   ·rw[if_pos h2,if_pos oM,show p-k=p-(k+1)+1 by omega,List.getElem?_cons_succ]
   ·rw[if_neg h2,if_neg (λe=>h1 e.symm),if_neg oM]
variable{A:List α}{i:Nat}{us:List Value}
section
variable{P:Program}{f:α->List Value}{c:Nat}{B n cap g:Nat}{q:Option Addr}
theorem aXJ (hlen:∀x,(f x).length=c)(h:ow f c E w B (.slice q n cap) A){y:α}(hy:A[i]?=some y):∃g,q=some ⟨g,0,none⟩/\w.rangeAt g (0+i*c) (f y):=by
 have hi:=(List.getElem?_eq_some_iff.1 hy).1;rcases h.2 with⟨_,h2⟩|⟨g,cap',cur,h1,hB,h3,h4,h5,h6,h7⟩
 ·omega
 ·injection h1 with e1 e2 e3
  refine⟨g,e1,λj u hu=>?_⟩;have hj:j<c:=by rw[<-hlen y];exact(List.getElem?_eq_some_iff.1 hu).1
  have h8:=aBR hlen A i y hy j hj
  rw[hu,<-h7,List.getElem?_take_of_lt (by
   have:i*c+c<=A.length*c:=by rw[<-Nat.succ_mul];exact Nat.mul_le_mul_right c hi
   omega),Array.getElem?_toList] at h8
  rw[aAj h3,Nat.zero_add];exact h8
theorem aQ5 (hlen:∀x,(f x).length=c)(h:ow f c E w B (.slice q n cap) A)(hq:q=some ⟨g,0,none⟩){y y':α}(hy:A[i]?=some y)(hk:k+us.length<=c)(hy':f y'=(f y).take k++us++(f y).drop (k+us.length))(ho:us.all (·.oneCell')=true) :
  ∃w',(storeCells ⟨g,0+i*c+k,none⟩ us 0).run P w=.ok () w'/\ow f c E w' B (.slice q n cap) (A.set i y')/\Fr (λr=>r=g) w w':=by
 have hi:=(List.getElem?_eq_some_iff.1 hy).1;rcases h.2 with⟨_,h2⟩|⟨g',cap',cur,h1,hB,h3,h4,h5,h6,h7⟩
 ·omega
 ·injection h1 with e1 e2 e3
  rw[hq] at e1
  injection e1 with e1
  injection e1 with e1 _ _
  subst e1 e3;have hic:i*c+c<=A.length*c:=by rw[<-Nat.succ_mul];exact Nat.mul_le_mul_right c hi
  have hcs:A.length*c<=cur.size:=by rw[h6];exact Nat.mul_le_mul_right c h4
  obtain⟨w',r1,r2,r3⟩:=aA8 (P:=P) us (k:=0+i*c+k) (i:=0) h3 oM ho;refine⟨w',r1,⟨by rw[aAz hlen,List.length_set],.inr ⟨g,cap,_,by rw[hq,List.length_set,e2],hB,r2,by rw[List.length_set];exact h4,h5,by rw[aEe];exact h6,?_⟩⟩,r3⟩;have hpg:=aEf us cur (0+i*c+k+0);have hfy:(f y).length=c:=hlen y;apply List.ext_getElem?;intro p;rw[List.length_set]
  by_cases hp:p<A.length*c
  ·have hc:0<c:=Nat.pos_of_ne_zero λe=>by rw[e] at hp;omega
   have hm:p%c<c:=Nat.mod_lt _ hc;have hd:p / c<A.length:=(Nat.div_lt_iff_lt_mul hc).2 hp;have e:p / c*c+p%c=p:=by rw[Nat.mul_comm];exact Nat.div_add_mod p c
   obtain⟨x,hx⟩:∃x,(A.set i y')[p / c]?=some x:=⟨_,Gb_ (by rw[List.length_set];exact hd)⟩;have h8:=aBR hlen (A.set i y') (p / c) x hx (p%c) hm;rw[e] at h8;rw[h8,List.getElem?_take_of_lt hp,Array.getElem?_toList,hpg p oM]
   have hold:∀z,A[p / c]?=some z->cur[p]?=(f z)[p%c]?:=λz hz=>by
    have h9:=aBR hlen A (p / c) z hz (p%c) hm;rw[e,<-h7,List.getElem?_take_of_lt hp,Array.getElem?_toList] at h9;exact h9
   by_cases ht:i=p / c
   ·rw[<-ht,List.getElem?_set_self hi] at hx;have hx:=Gh_ hx;subst hx;have hz:=hold y (by rw[<-ht];exact hy);have e':i*c+p%c=p:=by rw[ht];exact e
    rw[hy']
    by_cases h1:p%c<k
    ·rw[if_neg oM,hz,Gl_,List.getElem?_append_left (by rw[Gq_];omega),List.getElem?_take_of_lt h1]
    ·by_cases h2:p%c<k+us.length
     ·rw[if_pos oM,Gl_,List.getElem?_append_right (by rw[Gq_];omega),Gq_,Nat.min_eq_left oM,List.getElem?_append_left oM,show p-(0+i*c+k+0)=p%c-k by omega]
     ·rw[if_neg oM,hz,List.getElem?_append_right (by rw[Gi_,Gq_];omega),Gi_,Gq_,Nat.min_eq_left oM,List.getElem?_drop,show k+us.length+(p%c-(k+us.length))=p%c by omega]
   ·rw[List.getElem?_set_ne ht] at hx;rw[if_neg ?_,hold x hx];intro hh;rcases Nat.lt_or_ge (p / c) i with h|h
    ·have:p / c*c+c<=i*c:=by rw[<-Nat.succ_mul];exact Nat.mul_le_mul_right c h
     omega
    ·have h:i<p / c:=by omega
     have:i*c+c<=p / c*c:=by rw[<-Nat.succ_mul];exact Nat.mul_le_mul_right c h
     omega
  ·rw[List.getElem?_eq_none (by rw[Gq_];omega),List.getElem?_eq_none (by rw[aAz hlen,List.length_set];omega)]
end
variable{ρ:Operand->Value}
section
variable{P:Program}{n:Nat}{p:Option (Nat×Nat)}{L:Frm}{r' i':Nat}
variable{f:α->List Value}{c:Nat}{TS:TypeId}{q:Option Addr}{g cap m:Nat}
theorem Mm.el (X:ElT P f c TS E)(hM:Mm F0 w0 w M)(hj:M[j]?=some (rw_ f c E (.slice q m cap) A)){y:α}(hy:A[i]?=some y):∃g,q=some ⟨g,0,none⟩/\w.rangeAt g (0+i*c) (f y) :=
 aXJ X.len (hM.get j hj) hy
theorem ldr (T:TypeId)(j k:Nat){y:α}(X:ElT P f c TS E)(hM:Mm F0 w0 w M)(hj:M[j]?=some (rw_ f c E (.slice q m cap) A))(hq:q=some ⟨g,0,none⟩)(hy:A[i]?=some y)(hv:(f y)[k]?=some v)(hT:scT P T=true:=by kernel_rfl):Ft.ok P w (.g1 (.load T) (vP g (0+i*c+k)) v):=by
 obtain⟨g',h1,h2⟩:=hM.el X hj hy;rw[hq] at h1
 injection h1 with h1
 injection h1 with h1 _ _
 subst h1;exact ld T (h2 k v hv) hT
theorem lar (T:TypeId)(j k l:Nat){y:α}(X:ElT P f c TS E)(hM:Mm F0 w0 w M)(hj:M[j]?=some (rw_ f c E (.slice q m cap) A))(hq:q=some ⟨g,0,none⟩)(hy:A[i]?=some y)(hT:agT P T (((f y).drop k).take l).length=true:=by kernel_rfl):Ft.ok P w (.g1 (.load T) (vP g (0+i*c+k)) (vA (((f y).drop k).take l))):=by
 obtain⟨g',h1,h2⟩:=hM.el X hj hy;rw[hq] at h1
 injection h1 with h1
 injection h1 with h1 _ _
 subst h1;exact la T (rs h2 k l) hT
theorem Mm.rowput (X:ElT P f c TS E)(hM:Mm F0 w0 w M)(hj:M[j]?=some (rw_ f c E (.slice q m cap) A))(hq:q=some ⟨g,0,none⟩){y y':α}(hy:A[i]?=some y)(hk:k+us.length<=c)(hy':f y'=(f y).take k++us++(f y).drop (k+us.length))(ho:us.all (·.oneCell')=true) :
  ∃w',(storeCells ⟨g,0+i*c+k,none⟩ us 0).run P w=.ok () w'/\Mm F0 w0 w' (M.set j (rw_ f c E (.slice q m cap) (A.set i y'))):=by
 obtain⟨w',r1,r2,r3⟩:=aQ5 (P:=P) X.len (hM.get j hj) hq hy hk hy' ho;refine⟨w',r1,hM.put j hj r3 (λk _ e=>?_) r2 λk e =>.inl e⟩;subst e;show(Value.slice q m cap).ownBlock=some k;rw[hq];rfl
theorem aMY {T:TypeId}{w:World}{g off:Nat}{x y:Operand}(hT:(P.info? T).map (·.size)=some v.cells.size)(ho:o.op=.store T x y)(hx:ρ x=vP g off)(hy:ρ y=v)(g1:(storeCells ⟨g,off,none⟩ v.cells.toList 0).run P w=.ok () w'):(execOp ρ o).run P w=.ok .skip w':=by
 obtain⟨i,hi,hs⟩:=Option.map_eq_some_iff.1 hT;have hs:i.size=v.cells.size:=hs;simp only[execOp,ho,hx,hy,Instr.storeAt,Instr.sureAddr,storeVar,sizeOf,typeInfo];generalize v.cells=cc at *;simp[go_sem,hi,hs,g1]
theorem aXx (r' i':Nat)(N:Frm)(T:TypeId)(j k:Nat){y:α}(y':α)(v:Value)(X:ElT P f c TS E)(hF:aBg P w F)(hM:Mm F0 w0 w M)(hj:M[j]?=some (rw_ f c E (.slice q m cap) A))(hq:q=some ⟨g,0,none⟩)(hy:A[i]?=some y)(hy':f y'=(f y).take k++v.cells.toList++(f y).drop (k+v.cells.toList.length))(kk:∀w',Mm F0 w0 w' (M.set j (rw_ f c E (.slice q m cap) (A.set i y')))->AtO P B R ds n (some (r',i'+1)) (N++L) w')
  (hT:(Nat.ble (k+v.cells.toList.length) c,v.cells.toList.all (·.oneCell'),(P.info? T).map (·.size))=(true,true,some v.cells.size):=by kernel_rfl)
  (h:(lhs (go P w n B p L r' i' F) N L,aPC (go P w n B p L r' i' F) n L (λx y =>.store T x y))=(rhs (go P w n B p L r' i' F) N B r' i',aPB (go P w n B p L r' i' F) n L (λx y =>.store T x y) none false (vP g (0+i*c+k)) v):=by kernel_rfl):AtO P B R ds n p L w:=by
 obtain⟨h1,h2⟩:=Prod.mk.inj hT;obtain⟨h3,h2⟩:=Prod.mk.inj h2;obtain⟨w',g1,g2⟩:=hM.rowput X hj hq hy (Nat.le_of_ble_eq_true h1) hy' h3;exact sto (w':=w') r' i' N hF (λo ρ x y ho hx hy=>aMY h2 ho hx hy g1) (kk w' g2) h
end
variable{F:Lts->List Ft}{V:Lts->List (Option Value)}{Mf:Lts->List Bool->List Ent}
section
variable{P:Program}{n:Nat}{L:Frm}{r:Nat}{ef:List Nat}
variable{f:α->List Value}{c:Nat}{TS:TypeId}{q:Option Addr}{g cap m:Nat}
end
def pfE (Q:Ent->Prop)(e:Ent):Ent where
 B:=e.B
 H:=λw=>Q e/\e.H w
 lt:=λh k=>e.lt h.2 k
 fr:=λh f hd=>⟨h.1,e.fr h.2 f hd⟩
variable{Q:Ent->Prop}
theorem Mm.pf (h:Mm F0 w0 w M)(hj:M[j]?=some e)(hQ:Q e):Mm F0 w0 w (M.set j (pfE Q e)) :=
 h.put j hj (Fr.refl nF_ w) (λk _ e=>e.elim) (e':=pfE Q e) ⟨hQ,h.get j hj⟩ λk e =>.inl e
theorem Mm.unpf (h:Mm F0 w0 w M)(hj:M[j]?=some (pfE Q e)):Q e/\Mm F0 w0 w (M.set j e) :=
 ⟨(h.get j hj).1,h.put j hj (Fr.refl nF_ w) (λk _ e=>e.elim) (e':=e) (h.get j hj).2 λk e =>.inl e⟩
section
variable{P:Program}{n:Nat}{L:Frm}{r:Nat}{ef:List Nat}
end
variable{d:Option Nat}
section
variable{P:Program}{n:Nat}{p:Option (Nat×Nat)}{L N:Frm}{F:List Ft}{r' i':Nat}
def aQF (n:Nat)(LL:Frm)(f:Operand->Op):Md->Option (Option Nat×Option Bool×Op×Op×Option Value)
 | .ops _ O (o::_) _ _=>match o.op.operands[0]? with
  | some x=>some (o.dst,aDd O LL n o,o.op,f x,opv LL x)
  | _=>none
 | _=>none
def aWT (x:Res)(n:Nat)(L:Frm)(f:Operand->Op):Option (Option Nat×Option Bool×Op×Option Value) :=
 match x with
 | some (m,nw,_,_)=>match aQF n (nw++L) f m with
  | some (d,wt,a,b,u)=>some (d,wt,a,u)
  | none=>none
 | none=>none
def aWS (x:Res)(n:Nat)(L:Frm)(f:Operand->Op)(d:Option Nat)(v:Value):Option (Option Nat×Option Bool×Op×Option Value) :=
 match x with
 | some (m,nw,_,_)=>match aQF n (nw++L) f m with
  | some (_,_,_,b,_)=>some (d,some true,b,some v)
  | none=>some (none,none,f (.tmp 0),none)
 | none=>some (none,none,f (.tmp 0),none)
theorem aSa {f:Operand->Op}(hF:aBg P w F)
  (h:(lhs (go P w n B p L r' i' F) N L,aWT (go P w n B p L r' i' F) n L f)=(rhs (go P w n B p L r' i' F) N B r' i',aWS (go P w n B p L r' i' F) n L f d v))
  (k:∀(O:Array Oper)(kk:List Kon)(o:Oper)(l:List Oper)(a:Act) x,aBe r' B []=some (O,false,kk)->O.toList.drop i'=o::l->EnvS ds n (N++L) a->o.dst=d->Region.wanted o (yielded O a.tmps)=true->o.op=f x->a.eval x=v->wpListIn (fen R.rd) 0 P O (post P R kk) (o::l) a w):AtO P B R ds n p L w:=by
 obtain⟨h1,h2⟩:=Prod.mk.inj h;obtain⟨m,nw,fs,es,hx,hE,⟨z,hl,ht⟩,hs⟩:=aGl h1;rw[hx] at h2;refine aJS hx hF hE λa E=>?_;unfold aWT aWS at h2;simp only at h2
 cases hta:aQF n (nw++L) f m with
 | none=>rw[hta] at h2;cases h2
 | some q =>
  obtain⟨d1,wt,oa,ob,u1⟩:=q;rw[hta] at h2;simp only[Gk_,Prod.mk.injEq] at h2;obtain⟨rfl,rfl,rfl,rfl⟩:=h2
  cases m with
  | ops r O l i k1 =>
   cases l with
   | nil=>cases hta
   | cons o l =>
    unfold aQF at hta;simp only at hta
    split at hta
    ·rename_i x hx0;simp only[Gk_,Prod.mk.injEq] at hta;obtain⟨q1,q3,q4,q5,q6⟩:=hta;unfold aJm at ht
     cases hf:aBe r' B [] with
     | none=>rw[hf] at ht;cases ht
     | some z1 =>
      obtain⟨O1,dr,kk⟩:=z1;rw[hf] at ht
      cases dr with
      | true =>
       cases i' with
       | zero=>cases ht;cases hl
       | succ i'=>cases ht
      | false =>
       cases ht;have hl:(some (O,false,k1,o::l,0):Option (Array Oper×Bool×List Kon×List Oper×Nat))=some (O1,false,kk,O1.toList.drop i',0):=hl;simp only[Gk_,Prod.mk.injEq] at hl;obtain⟨rfl,_,rfl,hl,_⟩:=hl;exact k O k1 o l a x hf hl.symm (E.sub hs) q1 (aDk q3 E) (q4.trans q5.symm) (E.opv q6)
    ·cases hta
  | _=>cases hta
end
def slp:Value->Option Addr
 | .slice p _ _=>p
 | _=>none
def slc:Value->Nat
 | .slice _ _ c=>c
 | _=>0
section
variable{P:Program}{r n:Nat}{L:Frm}{ef:List Nat}
theorem aHQ {f:α->List Value}{c:Nat}(p i j d:Nat)(T E:TypeId)(G:Nat)(v:Lts->Value)(A S:List α)(q:Lts->Nat)(cap:Nat)(X:ElT P f c T E)(hl:A.length+S.length<=1500000000000)
  (hsrc:∀γ fr wm,Mm F0 w0 wm (Mf γ (flg B r ef i fr))->aBh f c wm (q γ+1) (some ⟨q γ,0,none⟩) S)
  (hj:∀γ fr,(Mf γ (flg B r ef i fr))[j]?=some (rw_ f c E (v γ) A):=by intro γ fr;kernel_rfl)
  (hm:∀γ fr p' c',(Mf γ (flg B r ef i fr)).set j (rw_ f c E (vL p' (A++S).length c') (A++S))=Mf (aBK γ p (vL p' (A++S).length c')) ((flg B r ef i fr).set p true):=by intro γ fr p' c';kernel_rfl)
  (hV:∀γ p' c',((V (aBK γ p (vL p' (A++S).length c')))[p]?).getD none=some (vL p' (A++S).length c'):=by intro γ p' c';rfl)
  (hs:∀γ,aUO (aA9 B r) i (frX P w n B r L ef V F i γ)=aUN (aA9 B r) i (λx y =>.call { callee := .builtin .append,args:=#[x,y],argTypes:=#[T,T] }) (v γ) (.slice (some ⟨q γ,0,none⟩) S.length cap) (some d):=by intro γ;kernel_rfl):Arm rd P w n B r L ef V F ds F0 w0 Mf p i:=by
 intro γ fr a wm Q o ho En hw hM;obtain⟨x,y,h1,h2,h3,h4⟩:=aK8 ho En (hs γ);have hrow:ow f c E wm 0 (v γ) A:=hM.get j (hj γ fr);obtain⟨w',v',g1,g2,g3,g4⟩:=aSF X h1 h2 hrow h3 (hsrc γ fr wm hM) sI hl (Gg_ _)
 have hM':=hM.put (w':=w') j (e':=rw_ f c E v' (A++S)) (hj γ fr) g3 (λk _ e=>e) g2 (λk e=>by
  have e:v'.ownBlock=some k:=e;rcases g4 with h3|h3
  ·exact .inl (by rw[h3] at e;exact e)
  ·rw[h3] at e;cases e;exact .inr (Gj_ _))
 obtain⟨p',c',hv,-⟩:=g2.src X.len;subst hv;rw[hm] at hM';exact aDz g1 ⟨vL p' (A++S).length c',γ.e p,by rw[aAy,hV,h4];rfl,by rw[aAy];exact hM'⟩
end
section
variable{P:Program}{n:Nat}{p:Option (Nat×Nat)}{L N:Frm}{F:List Ft}{A Ms:List Ent}
section
variable{x y z:Operand}{t:TypeId}{rv u1 u2:Value}{f:FuncId}{name:String}{ts:Array TypeId}
end
theorem aZ1 {g:FuncId}(is js:List Nat)(hM:Mm F0 w0 w M)(hA:aCH M is=A)(hS:aCH M js=Ms)(hn:(is++js).Nodup)(hc:Mm (BlM Ms) w w Ms->Calls P g args w λe w'=>∃v Mn,e=.returned v/\K v Mn/\Mm (BlM Ms) w w' Mn):Calls P g args w λe w'=>∃v,e=.returned v/\∃Mn,K v Mn/\Mm F0 w0 w' (A++Mn):=by
 have hp:aCH M (is++js)=A++Ms:=by rw[<-hA,<-hS,aFO]
 have hM1:=hM.pick (is++js) hp hn;have hMs:Mm F0 w0 w Ms:=hM.pick js hS (List.nodup_append.1 hn).2.1;exact(hc (hMs.re λe he k hk=>⟨e,he,hk⟩)).mono λe w' ⟨v,Mn,h1,h2,h3⟩=>⟨v,h1,Mn,h2,hM1.call h3 λ_ _ h=>h⟩
end
section
variable{P:Program}{f:α->List Value}{c:Nat}{TS:TypeId}{B:Nat}{p:Option Addr}
end
section
variable{P:Program}{r n:Nat}{L:Frm}{ef:List Nat}
variable{f:α->List Value}{c:Nat}{TS:TypeId}{q:Option Addr}{g cap m:Nat}
end
section
variable{P:Program}{n:Nat}{p:Option (Nat×Nat)}{L:Frm}{F:List Ft}
theorem ins (r' i':Nat)(N:Frm)(T:TypeId)(j:Nat){K e:TypeId}{b c:Nat}{m:Value->Option Value}(key v:Value)(hF:aBg P w F)(hM:Mm F0 w0 w M)(hj:M[j]?=some (mp P K b c m))(LK:Maps.Keyed P K)(ht:P.underlying T=some (.map K e))(hk:∃l,keyOf P K key=some l)(kk:∀w',Mm F0 w0 w' (M.set j (mp P K b (c+1) (upd m key v)))->AtO P B R ds n (some (r',i'+1)) (N++L) w')
  (h:(lhs (go P w n B p L r' i' F) N L,aSU (go P w n B p L r' i' F) n L (λx y z =>.insert T x y z))=(rhs (go P w n B p L r' i' F) N B r' i',aST (go P w n B p L r' i' F) n L (λx y z =>.insert T x y z) none (.map (some b)) key v):=by kernel_rfl):AtO P B R ds n p L w:=by
 obtain⟨l,hk⟩:=hk;have hm:aDS P K w b c m:=hM.get j hj;obtain⟨ob,hob⟩:=hm.store LK ht hk v;obtain⟨h1,h2⟩:=hob w rfl;have hM':=hM.put (w':=setBlk w b ob) j (e':=mp P K b (c+1) (upd m key v)) hj ((Fr.refl (λr=>r=b) w).setBlk (λ_=>rfl) ob) (λk _ e=>e) (h2.mono (by split<;>omega)) (λk e =>.inl e);refine aK2 hF h λO k1 o l a x y z hf hd1 E hd hw ho hx hy hz=>aJt hw (w':=setBlk w b ob) (by simp only[execOp,ho,hx,hy,hz,Sem.run_bind,h1,Result.andThen_ok,Sem.run_pure]) hd ?_;obtain⟨O1,dr,k2,hf1,hk⟩:=kk _ hM';rw[hf] at hf1;cases hf1;have:=hk _ E;have hdr:O.toList.drop (i'+1)=l:=by rw[<-List.tail_drop,hd1];rfl
 rw[<-hdr];exact this
end
section
variable{P:Program}{r n:Nat}{L:Frm}{ef:List Nat}
def enL (P:Program)(wm:World)(O:Array Oper)(i:Nat)(LL:Frm):Option (Nat×Array Value×Option Nat×World) :=
 match O[i]? with
 | some o=>bif aDt LL o.op&&(match o.op with|.select _ _=>false|_=>true) then(match(execOp (rho LL) o).run P wm with
  | .ok (.enter f args) w'=>some (f,args,o.dst,w')
  | _=>none) else none
 | none=>none
theorem aIG {wm:World}{O:Array Oper}{LL:Frm}{f:Nat}{ds:List Deferred}{n:Nat}(ho:O[i]?=some o)(E:EnvS ds n LL a)(h:enL P wm O i LL=some (f,args,d,wm)):(execOp a.eval o).run P wm=.ok (.enter f args) wm/\o.dst=d:=by
 unfold enL at h;rw[ho] at h;simp only at h
 cases hc:(aDt LL o.op&&(match o.op with|.select _ _=>false|_=>true)) with
 | false=>rw[hc] at h;cases h
 | true =>
  rw[hc] at h;simp only[cond_true] at h;rw[Ga_] at hc;rw[aEV E hc.1 λcs b e=>by rw[e] at hc;cases hc.2]
  split at h
  ·rename_i f1 args1 w1 hr;simp only[Gk_,Prod.mk.injEq] at h;obtain⟨rfl,rfl,rfl,rfl⟩:=h;exact⟨hr,rfl⟩
  ·cases h
end
end Go.Pl
namespace Go.Proofs.YtngjlnhojicjeaaGreatDoor
open Go.RowKit Go.Pl
variable{w:World}
theorem aRV :Calls Tryz.prog 102 #[] w λe w'=>∃p,e=.returned (vL p 6 6)/\Fr nF_ w w':=by
  refine beg Tryz.func102 rfl rfl [] rfl rfl λZ hZ=>?_;have hM:=Mm.nil nF_ w;refine aAu 1 0 1 [] (cs:=#[vS [97,110,121],vS [110,111,100,101],vS [119,97,121],vS [97,114,101,97],vS [114,111,117,116,101],vS [116,117,114,110]]) (T:=9) (v:=λb=>vL (some ⟨b,0,none⟩) 6 6) f0 hM λb1 w1 hM=>rt1 0 (vL (some ⟨b1,0,none⟩) 6 6) rfl f0 (hZ _ _ ⟨_,rfl,hM.fr⟩)
theorem aBb (n lo hi:Int):Calls Tryz.prog 103 #[vI n,vI lo,vI hi] w λe w'=>e=.returned (vB (decide (lo<=n)&&decide (n<=hi)))/\Fr nF_ w w':=by
  refine beg Tryz.func103 rfl rfl [(0,vI n),(1,vI lo),(2,vI hi)] rfl rfl λZ hZ=>?_;have hM:=Mm.nil nF_ w;refine seg 1 4 [(10,vB (decide (lo<=n)))] f0 ?_;cases h2:(decide (lo<=n))
  ·exact rt1 6 (vB false) rfl f0 (hZ _ _ ⟨by simp only[h2]<;>rfl,hM.fr⟩)
  exact rt1 6 (vB (decide (n<=hi))) rfl f0 (hZ _ _ ⟨by simp only[h2]<;>rfl,hM.fr⟩)
def aJW (o:Ob):Bool:=decide (o.refs.length<=12)&&decide (o.tags.length<=20)&&decide (o.id.length<=60)&&o.refs.all (λs=>decide (s.length<=60))&&o.tags.all (λt=>decide (IntKind.i64.wrap ((t.1.length:Int)+(t.2.length:Int))<=300))
def aEn (l:List Ob)(n:Int):Bool:=decide ((l.length:Int)<=n)&&l.all aJW
variable{α:Type}{i:Nat}
theorem aBs {p:α->Bool}{l:List α}{y:α}(hy:l[i]?=some y):(l.drop i).all p=(p y&&(l.drop (i+1)).all p):=by rw[gd hy,List.all_cons]
theorem aHR {p:α->Bool}{l:List α}(h:l.length<=i):(l.drop i).all p=true:=by rw[List.drop_of_length_le h];rfl
abbrev A26 (Z:Ending->World->Prop):=AtO Tryz.prog (aAv Tryz.f23) (aAI (bodyPost Tryz.prog Tryz.f23 Z)) [] 79
abbrev oY_ (y:ObR):Array Value:=#[vS y.o.id,vI y.o.kind,vI y.o.x,vI y.o.y,vL y.pr y.o.refs.length y.cr,vL y.pt y.o.tags.length y.ct]
theorem aJZ {v:Value}{l:List ObR}(hm:aCt w v l)(n:Int):Calls Tryz.prog 23 #[.agg #[v],vI n] w λe w'=>e=.returned (vB (aEn (aAa l) n))/\Fr nF_ w w':=by
  obtain⟨hs0,hob⟩:=hm;obtain⟨p0,cp0,hp0,sp0⟩:=hs0.op;subst hp0;have bp0:=sp0.bnd;refine beg Tryz.func23 rfl rfl [(0,.agg #[vL p0 l.length cp0]),(1,vI n)] rfl rfl λZ hZ=>?_;have hM:=Mm.nil nF_ w;refine aAu 0 0 2 [] (cs:=#[vL p0 l.length cp0]) (T:=24) (v:=λb=>vP b 0) f0 hM λb7 w1 hM=>seg 1 5 [(13,vB (decide (n<(l.length:Int))))] (fc (ldm 22 0 0 hM rfl rfl) f0) ?_;cases h8:(decide (n<(l.length:Int)))
  rotate_left
  ·have rh8:=dt h8;exact rt1 4 (vB false) rfl f0 (hZ _ _ ⟨by unfold aEn;rw[aAT,decide_eq_false oM];rfl,hM.fr⟩)
  have rh8:=df h8;refine seg 4 0 [(5,vI 0)] f0 ?_
  have lp9:∀(ab:Nat)(i:Nat)(w2:World),i<=l.length->(aAa l).all aJW=((aAa l).drop i).all aJW->Mm nF_ w w2 [bk b7 #[vL p0 l.length cp0] 24]->ab=l.length-i->A26 Z (some (4,0)) [(5,vI (i:Int)),(2,vP b7 0)] w2:=by
   refine aCh λab af i w2 hi hv hM ay=>seg 4 5 [(18,vB (decide ((i:Int)<(l.length:Int))))] (fc (ldm 22 0 0 hM rfl rfl) f0) ?_;cases h12:(decide ((i:Int)<(l.length:Int)))
   ·have ag:=df h12;exact rt1 4 (vB true) rfl f0 (hZ _ _ ⟨by unfold aEn;rw[hv,aHR (by rw[aAT];omega),aAT,decide_eq_true oM];rfl,hM.fr⟩)
   have ag:=dt h12;obtain⟨y,hy,az,a0,q13,ah⟩:=sp0.el (i:=i) oM;refine aBW 6 5 6 [(25,.agg (oY_ y))] [] 48 (.agg (oY_ y)) (fc (ldm 22 0 0 hM rfl rfl) (fc (ix 22 cp0 q13 (gl hy)) (fc (la0 48 hM ah) f0))) hM λaa w1 hM=>seg 7 5 [(30,vB (decide (12<(y.o.refs.length:Int))))] (fc (ldm 45 1 4 hM rfl rfl) f0) ?_;cases h15:(decide (12<(y.o.refs.length:Int)))
   rotate_left
   ·have ai:=dt h15;exact rt1 4 (vB false) rfl f0 (hZ _ _ ⟨by unfold aEn;rw[hv,aBs (aAK hy),show aJW y.o=false from(by unfold aJW;simp;omega)];simp,hM.fr⟩)
   have ai:=df h15;refine seg 7 11 [(36,vB (decide (20<(y.o.tags.length:Int))))] (fc (ldm 46 1 5 hM rfl rfl) f0) ?_;cases h16:(decide (20<(y.o.tags.length:Int)))
   rotate_left
   ·have aj:=dt h16;exact rt1 4 (vB false) rfl f0 (hZ _ _ ⟨by unfold aEn;rw[hv,aBs (aAK hy),show aJW y.o=false from(by unfold aJW;simp;omega)];simp,hM.fr⟩)
   have aj:=df h16;refine seg 7 16 [(41,vB (decide (60<(y.o.id.length:Int))))] (fc (ldm 9 1 0 hM rfl rfl) (fc (aHS 9 y.o.id) f0)) ?_;cases h17:(decide (60<(y.o.id.length:Int)))
   rotate_left
   ·have ak:=dt h17;exact rt1 4 (vB false) rfl f0 (hZ _ _ ⟨by unfold aEn;rw[hv,aBs (aAK hy),show aJW y.o=false from(by unfold aJW;simp;omega)];simp,hM.fr⟩)
   have ak:=df h17;refine seg 10 0 [(7,vI 0)] f0 ?_
   have al:∀(ac:Nat)(k:Nat)(w2:World),k<=y.o.refs.length->y.o.refs.all (λs=>decide (s.length<=60))=(y.o.refs.drop k).all (λs=>decide (s.length<=60))->Mm nF_ w w2 [bk b7 #[vL p0 l.length cp0] 24,bk aa (oY_ y) 48]->ac=y.o.refs.length-k->A26 Z (some (10,0)) [(7,vI (k:Int)),(6,vP aa 0),(5,vI (i:Int)),(2,vP b7 0)] w2:=by
    refine aCh λac am k w2 hk hv2 hM a1=>seg 10 5 [(46,vB (decide ((k:Int)<(y.o.refs.length:Int))))] (fc (ldm 45 1 4 hM rfl rfl) f0) ?_;cases h21:(decide ((k:Int)<(y.o.refs.length:Int)))
    rotate_left
    ·have an:=dt h21;have s29:=(hob _ (gm hy)).refs;obtain⟨z,hz,a2,a3,q30,ao⟩:=s29.el (i:=k) oM;refine seg 12 7 [(55,vB (decide (60<(z.length:Int))))] (fc (ldm 45 1 4 hM rfl rfl) (fc (ix 45 y.cr q30 (gl hz)) (fc (ld0 9 hM (ao 0 _ rfl)) (fc (aHS 9 z) f0)))) ?_;cases h31:(decide (60<(z.length:Int)))
     ·have aq:=df h31;refine seg 10 0 [(7,vI ((k:Int)+1))] (fc (aAP (k:Int) 1 u3_) f0) (aAi _ (am _ oM (k+1) _ (gl hz) (by rw[hv2,aBs hz,decide_eq_true (show z.length<=60 by omega)];rfl) hM rfl))
     have aq:=dt h31;exact rt1 4 (vB false) rfl f0 (hZ _ _ ⟨by unfold aEn;rw[hv,aBs (aAK hy),show aJW y.o=false from(by unfold aJW;rw[hv2,aBs hz,decide_eq_false (show ¬z.length<=60 by omega)];simp)];simp,hM.fr⟩)
    have an:=df h21;have hr1:y.o.refs.all (λs=>decide (s.length<=60))=true:=by rw[hv2];exact aHR oM
    refine seg 15 0 [(8,vI 0)] f0 ?_
    have au:∀(ad:Nat)(k:Nat)(w2:World),k<=y.o.tags.length->y.o.tags.all (λt=>decide (IntKind.i64.wrap ((t.1.length:Int)+(t.2.length:Int))<=300))=(y.o.tags.drop k).all (λt=>decide (IntKind.i64.wrap ((t.1.length:Int)+(t.2.length:Int))<=300))->Mm nF_ w w2 [bk b7 #[vL p0 l.length cp0] 24,bk aa (oY_ y) 48]->ad=y.o.tags.length-k->A26 Z (some (15,0)) [(8,vI (k:Int)),(6,vP aa 0),(5,vI (i:Int)),(2,vP b7 0)] w2:=by
     refine aCh λad av k w2 hk hv3 hM a4=>seg 15 5 [(60,vB (decide ((k:Int)<(y.o.tags.length:Int))))] (fc (ldm 46 1 5 hM rfl rfl) f0) ?_;cases h25:(decide ((k:Int)<(y.o.tags.length:Int)))
     ·have aw:=df h25;have hr2:y.o.tags.all (λt=>decide (IntKind.i64.wrap ((t.1.length:Int)+(t.2.length:Int))<=300))=true:=by rw[hv3];exact aHR oM
      refine seg 4 0 [(5,vI ((i:Int)+1))] (fc (aAP (i:Int) 1 u3_) f0) (aAi _ (af _ oM (i+1) _ (gl hy) (by rw[hv,aBs (aAK hy)];rw[show aJW y.o=true by unfold aJW;rw[hr1,hr2];simp;omega];rfl) (hM.pick [0]) rfl))
     have aw:=dt h25;have s26:=(hob _ (gm hy)).tags;obtain⟨u,hu,a5,a6,q27,ae⟩:=s26.el (i:=k) oM;refine seg 17 0 [] f0 ?_;have hM:=hM.q ((Fr.refl _ _).drew);refine drq [(78,vB (decide (300<(IntKind.i64.wrap ((u.1.length:Int)+(u.2.length:Int))))))] rfl (fc (ldm 46 1 5 hM rfl rfl) (fc (ix 46 y.ct q27 (gl hu)) (fc (ld0 9 hM (ae 0 _ rfl)) (fc (aHS 9 u.1) (fc (ldm 46 1 5 hM rfl rfl) (fc (ix 46 y.ct q27 (gl hu)) (fc (ld0 9 hM (ae 1 _ rfl)) (fc (aHS 9 u.2) (fc (aSW (u.1.length:Int) (u.2.length:Int) u3_) f0))))))))) ?_;cases h28:(decide (300<(IntKind.i64.wrap ((u.1.length:Int)+(u.2.length:Int)))))
     ·have ax:=df h28;refine seg 15 0 [(8,vI ((k:Int)+1))] (fc (aAP (k:Int) 1 u3_) f0) (aAi _ (av _ oM (k+1) _ (gl hu) (by rw[hv3,aBs hu,decide_eq_true (show IntKind.i64.wrap ((u.1.length:Int)+(u.2.length:Int))<=300 by omega)];rfl) hM rfl))
     have ax:=dt h28;exact rt1 4 (vB false) rfl f0 (hZ _ _ ⟨by unfold aEn;rw[hv,aBs (aAK hy),show aJW y.o=false from(by unfold aJW;rw[hv3,aBs hu,decide_eq_false (show ¬IntKind.i64.wrap ((u.1.length:Int)+(u.2.length:Int))<=300 by omega)];simp)];simp,hM.fr⟩)
    exact aAi _ (au _ 0 _ (Gg_ _) rfl hM rfl)
   exact aAi _ (al _ 0 _ (Gg_ _) rfl hM rfl)
  exact aAi _ (lp9 _ 0 _ (Gg_ _) rfl hM rfl)
abbrev Sp:=Int×Int
def vl:Int->List Sp->Bool
  | _,[]=>true
  | lo,s::l=>decide (lo<s.1)&&decide (s.1<s.2)&&decide (s.2<=10080)&&vl s.2 l
def aXc (out:List Sp)(s:Sp):List Sp :=
  match out.getLast? with
  | some q=>if s.1<=q.2 then out.dropLast++[(q.1,max q.2 s.2)] else out++[s]
  | none=>out++[s]
def aXh (l:List Sp):List Sp:=l.foldl aXc []
def wk (l:List Sp):Prop:=∀s∈l,0<=s.1/\s.1<s.2/\s.2<=10080
def aYE (s:Sp):List Sp->List Sp
  | []=>[s]
  | x::l=>if s.1<=x.1 then s::x::l else x::aYE s l
def aY7:List Sp->List Sp
  | []=>[]
  | s::l=>aYE s (aY7 l)
def aW0 (l:List Sp):List Sp:=aXh (aY7 l)
def aZW:Int->List Sp->List Sp
  | fr,[]=>if fr<10080 then[(fr,10080)] else[]
  | fr,s::l=>(if fr<s.1 then[(fr,s.1)] else[])++aZW s.2 l
def aRd (b:UInt8):Bool:=(97<=b&&b<=122)||(65<=b&&b<=90)
def aI7 (b:UInt8):Bool:=48<=b&&b<=57
def aRc (b:UInt8):Bool:=aRd b||aI7 b||b==95
def aTR (b:UInt8):Bool:=b==32||b==9||b==10
def bA1:Bys:=[59,44,46,58,40,41,123,125,91,93,61,60,62,47,45]
def aTQ (b:UInt8):Bool:=bA1.contains b
abbrev Tok (α:Type):=Int×Bys×α
def aXw:Bys->Option (Bys×Nat)
  | []=>none
  | c::l =>
    if c==34 then some ([],1)
    else if c==10 then none
    else if c==92 then
      match l with
      | []=>none
      | d::l=>if d==92||d==34||d==110 then(aXw l).map λr=>((if d==110 then 10 else d)::r.1,r.2+2) else none
    else(aXw l).map λr=>(c::r.1,r.2+1)
def one (c:UInt8)(l:Bys):Int×Bys×Nat×Int :=
  if aTR c then(0,[],0,0)
  else if c==35 then(0,[],(l.takeWhile (· != 10)).length,0)
  else if aRd c then(1,c::l.takeWhile aRc,(l.takeWhile aRc).length,if(l.takeWhile aRc).length+1>24 then 2 else 0)
  else if aI7 c then(2,c::l.takeWhile aI7,(l.takeWhile aI7).length,if(l.takeWhile aI7).length+1>7||(match(l.dropWhile aI7) with|d::_=>aRc d|[]=>false) then 4 else 0)
  else if c==34 then(match aXw l with|some (s,k)=>(3,s,k,0)|none=>(0,[],0,3))
  else if aTQ c then(4,[c],0,0)
  else(0,[],0,3)
def aXO:Nat->Bys->Int->List (Tok Int×Int)
  | 0,_,_=>[]
  | _+1,[],_=>[]
  | n+1,c::l,at_ =>
    match one c l with
    | (k,s,m,e) =>
      if e != 0 then[((k,s,at_),e)]
      else if k==0 then aXO n (l.drop m) (at_+1+m)
      else((k,s,at_),0)::aXO n (l.drop m) (at_+1+m)
def aYB (l:Bys)(at_:Int):List (Tok Int×Int):=aXO l.length l at_
def aWr:List (Tok Int×Int)->Option (Int×Int)
  | []=>none
  | x::l=>if x.2 != 0 then some (x.2,x.1.2.2) else aWr l
def aZ2 (l:Bys):Except (Int×Int) (List (Tok Int)):=match aWr (aYB l 0) with|some e =>.error e|none =>.ok ((aYB l 0).map (·.1))
end Go.Proofs.YtngjlnhojicjeaaGreatDoor
namespace Go.Proofs
open Go.Shelf
def Tryz.lays134_ren:Go.Shelf.Ren:=⟨λ| 134=>214|129=>211|n=>n,λ| 53=>164|3=>3|4=>4|46=>139|5=>5|9=>9|n=>n,λ| n=>n⟩
theorem Tryz.lays134:Go.Proofs.Lays.n134 Tryz.prog Tryz.lays134_ren:={
 mixed:=by kernel_rfl
 f129:=Tryz.func211.trans (congrArg some (by kernel_rfl))
 f134:=Tryz.func214.trans (congrArg some (by kernel_rfl))
 t3:=Tryz.underlying3
 a3:=Tryz.isAgg3
 z3:=Tryz.sizeOf3
 v3:=Tryz.zeroValue3
 t4:=Tryz.underlying4
 a4:=Tryz.isAgg4
 z4:=Tryz.sizeOf4
 v4:=Tryz.zeroValue4
 t5:=Tryz.underlying5
 a5:=Tryz.isAgg5
 z5:=Tryz.sizeOf5
 v5:=Tryz.zeroValue5
 t9:=Tryz.underlying9
 a9:=Tryz.isAgg9
 z9:=Tryz.sizeOf9
 v9:=Tryz.zeroValue9
 t46:=Tryz.underlying139
 a46:=Tryz.isAgg139
 z46:=Tryz.sizeOf139
 v46:=Tryz.zeroValue139
 t53:=Tryz.underlying164
 a53:=Tryz.isAgg164
 z53:=Tryz.sizeOf164
 v53:=Tryz.zeroValue164 }
theorem Tryz.bits_LeadingZeros64 (x:Int)(w:World)(h0:0<=x)(h1:x<=18446744073709551615) :
  Calls Tryz.prog 214 #[.int .u64 x] w λe w'=>e=.returned (.int .i64 (64-(Lib.bitLen x.toNat:Int)))/\w'=w:=Any.bits_LeadingZeros64 Tryz.lays134 x w h0 h1
def Tryz.lays106_ren:Go.Shelf.Ren:=⟨λ| 106=>44|213=>88|265=>140|n=>n,λ| 9=>9|3=>3|n=>n,λ| n=>n⟩
theorem Tryz.lays106:Go.Proofs.Lays.n106 Tryz.prog Tryz.lays106_ren:={
 mixed:=by kernel_rfl
 f106:=Tryz.func44.trans (congrArg some (by kernel_rfl))
 f213:=Tryz.func88.trans (congrArg some (by kernel_rfl))
 f265:=Tryz.func140.trans (congrArg some (by kernel_rfl))
 t3:=Tryz.underlying3
 a3:=Tryz.isAgg3
 z3:=Tryz.sizeOf3
 v3:=Tryz.zeroValue3
 t9:=Tryz.underlying9
 a9:=Tryz.isAgg9
 z9:=Tryz.sizeOf9
 v9:=Tryz.zeroValue9 }
open Go.RowKit in
theorem Tryz.strings_Compare (a b:ByteArray)(w:World) :
  Calls Tryz.prog 44 #[.string a,.string b] w λe w'=>e=.returned (.int .i64 (Lib.compareBytes a.data.toList b.data.toList))/\w'=w:=Any.strings_Compare Tryz.lays106 a b w
def Tryz.lays137_ren:Go.Shelf.Ren:=⟨λ| 137=>139|217=>187|266=>230|n=>n,λ| 9=>9|5=>5|3=>3|n=>n,λ| n=>n⟩
theorem Tryz.lays137:Go.Proofs.Lays.n137 Tryz.prog Tryz.lays137_ren:={
 mixed:=by kernel_rfl
 f137:=Tryz.func139.trans (congrArg some (by kernel_rfl))
 f217:=Tryz.func187.trans (congrArg some (by kernel_rfl))
 f266:=Tryz.func230.trans (congrArg some (by kernel_rfl))
 t3:=Tryz.underlying3
 a3:=Tryz.isAgg3
 z3:=Tryz.sizeOf3
 v3:=Tryz.zeroValue3
 t5:=Tryz.underlying5
 a5:=Tryz.isAgg5
 z5:=Tryz.sizeOf5
 v5:=Tryz.zeroValue5
 t9:=Tryz.underlying9
 a9:=Tryz.isAgg9
 z9:=Tryz.sizeOf9
 v9:=Tryz.zeroValue9 }
open Go.RowKit in
theorem Tryz.strings_IndexByte (s:ByteArray)(c:Int)(w:World) :
  Calls Tryz.prog 139 #[.string s,.int .u8 c] w λe w'=>e=.returned (.int .i64 (Lib.indexByte s.data.toList c.toNat.toUInt8))/\w'=w:=Any.strings_IndexByte Tryz.lays137 s c w
def Tryz.laysC172_ren:Go.Shelf.Ren:=⟨λ| 172=>85|244=>136|245=>137|247=>182|279=>183|280=>184|281=>185|282=>186|287=>227|316=>228|171=>222|205=>229|321=>257|322=>258|243=>252|246=>276|283=>287|284=>288|285=>289|286=>290|129=>211|317=>297|318=>298|319=>299|320=>300|337=>311|338=>312|n=>n,λ| 9=>9|3=>3|75=>133|76=>134|4=>4|5=>5|167=>273|37=>274|0=>0|85=>275|2=>2|168=>277|53=>164|175=>326|46=>139|210=>330|127=>366|145=>369|143=>367|21=>21|171=>403|173=>405|212=>412|51=>301|20=>20|213=>413|232=>438|233=>439|80=>396|n=>n,λ| 15=>3|16=>4|17=>6|18=>8|19=>9|n=>n⟩
theorem Tryz.laysC172:Go.Proofs.LaysC.n172 Tryz.prog Tryz.laysC172_ren:={
 mixed:=by kernel_rfl
 f129:=Tryz.func211.trans (congrArg some (by kernel_rfl))
 f171:=Tryz.func222.trans (congrArg some (by kernel_rfl))
 f172:=Tryz.func85.trans (congrArg some (by kernel_rfl))
 f205:=Tryz.func229.trans (congrArg some (by kernel_rfl))
 f243:=Tryz.func252.trans (congrArg some (by kernel_rfl))
 f244:=Tryz.func136.trans (congrArg some (by kernel_rfl))
 f245:=Tryz.func137.trans (congrArg some (by kernel_rfl))
 f246:=Tryz.func276.trans (congrArg some (by kernel_rfl))
 f247:=Tryz.func182.trans (congrArg some (by kernel_rfl))
 f279:=Tryz.func183.trans (congrArg some (by kernel_rfl))
 f280:=Tryz.func184.trans (congrArg some (by kernel_rfl))
 f281:=Tryz.func185.trans (congrArg some (by kernel_rfl))
 f282:=Tryz.func186.trans (congrArg some (by kernel_rfl))
 f283:=Tryz.func287.trans (congrArg some (by kernel_rfl))
 f284:=Tryz.func288.trans (congrArg some (by kernel_rfl))
 f285:=Tryz.func289.trans (congrArg some (by kernel_rfl))
 f286:=Tryz.func290.trans (congrArg some (by kernel_rfl))
 f287:=Tryz.func227.trans (congrArg some (by kernel_rfl))
 f316:=Tryz.func228.trans (congrArg some (by kernel_rfl))
 f317:=Tryz.func297.trans (congrArg some (by kernel_rfl))
 f318:=Tryz.func298.trans (congrArg some (by kernel_rfl))
 f319:=Tryz.func299.trans (congrArg some (by kernel_rfl))
 f320:=Tryz.func300.trans (congrArg some (by kernel_rfl))
 f321:=Tryz.func257.trans (congrArg some (by kernel_rfl))
 f322:=Tryz.func258.trans (congrArg some (by kernel_rfl))
 f337:=Tryz.func311.trans (congrArg some (by kernel_rfl))
 f338:=Tryz.func312.trans (congrArg some (by kernel_rfl))
 t0:=Tryz.underlying0
 a0:=Tryz.isAgg0
 z0:=Tryz.sizeOf0
 v0:=Tryz.zeroValue0
 t2:=Tryz.underlying2
 a2:=Tryz.isAgg2
 z2:=Tryz.sizeOf2
 v2:=Tryz.zeroValue2
 t3:=Tryz.underlying3
 a3:=Tryz.isAgg3
 z3:=Tryz.sizeOf3
 v3:=Tryz.zeroValue3
 t4:=Tryz.underlying4
 a4:=Tryz.isAgg4
 z4:=Tryz.sizeOf4
 v4:=Tryz.zeroValue4
 t5:=Tryz.underlying5
 a5:=Tryz.isAgg5
 z5:=Tryz.sizeOf5
 v5:=Tryz.zeroValue5
 t9:=Tryz.underlying9
 a9:=Tryz.isAgg9
 z9:=Tryz.sizeOf9
 v9:=Tryz.zeroValue9
 t20:=Tryz.underlying20
 a20:=Tryz.isAgg20
 z20:=Tryz.sizeOf20
 v20:=Tryz.zeroValue20
 t21:=Tryz.underlying21
 a21:=Tryz.isAgg21
 z21:=Tryz.sizeOf21
 v21:=Tryz.zeroValue21
 t37:=Tryz.underlying274
 a37:=Tryz.isAgg274
 z37:=Tryz.sizeOf274
 v37:=Tryz.zeroValue274
 t46:=Tryz.underlying139
 a46:=Tryz.isAgg139
 z46:=Tryz.sizeOf139
 v46:=Tryz.zeroValue139
 t51:=Tryz.underlying301
 a51:=Tryz.isAgg301
 z51:=Tryz.sizeOf301
 v51:=Tryz.zeroValue301
 t53:=Tryz.underlying164
 a53:=Tryz.isAgg164
 z53:=Tryz.sizeOf164
 v53:=Tryz.zeroValue164
 t75:=Tryz.underlying133
 a75:=Tryz.isAgg133
 z75:=Tryz.sizeOf133
 v75:=Tryz.zeroValue133
 t76:=Tryz.underlying134
 a76:=Tryz.isAgg134
 z76:=Tryz.sizeOf134
 v76:=Tryz.zeroValue134
 t85:=Tryz.underlying275
 a85:=Tryz.isAgg275
 z85:=Tryz.sizeOf275
 v85:=Tryz.zeroValue275
 t127:=Tryz.underlying366
 a127:=Tryz.isAgg366
 z127:=Tryz.sizeOf366
 v127:=Tryz.zeroValue366
 t143:=Tryz.underlying367
 a143:=Tryz.isAgg367
 z143:=Tryz.sizeOf367
 v143:=Tryz.zeroValue367
 t145:=Tryz.underlying369
 a145:=Tryz.isAgg369
 z145:=Tryz.sizeOf369
 v145:=Tryz.zeroValue369
 t167:=Tryz.underlying273
 a167:=Tryz.isAgg273
 z167:=Tryz.sizeOf273
 v167:=Tryz.zeroValue273
 t168:=Tryz.underlying277
 a168:=Tryz.isAgg277
 z168:=Tryz.sizeOf277
 v168:=Tryz.zeroValue277
 t171:=Tryz.underlying403
 a171:=Tryz.isAgg403
 z171:=Tryz.sizeOf403
 v171:=Tryz.zeroValue403
 t173:=Tryz.underlying405
 a173:=Tryz.isAgg405
 z173:=Tryz.sizeOf405
 v173:=Tryz.zeroValue405
 t175:=Tryz.underlying326
 a175:=Tryz.isAgg326
 z175:=Tryz.sizeOf326
 v175:=Tryz.zeroValue326
 t210:=Tryz.underlying330
 a210:=Tryz.isAgg330
 z210:=Tryz.sizeOf330
 v210:=Tryz.zeroValue330
 t212:=Tryz.underlying412
 a212:=Tryz.isAgg412
 z212:=Tryz.sizeOf412
 v212:=Tryz.zeroValue412
 t213:=Tryz.underlying413
 a213:=Tryz.isAgg413
 z213:=Tryz.sizeOf413
 t232:=Tryz.underlying438
 a232:=Tryz.isAgg438
 z232:=Tryz.sizeOf438
 v232:=Tryz.zeroValue438
 t233:=Tryz.underlying439
 a233:=Tryz.isAgg439
 z233:=Tryz.sizeOf439
 v233:=Tryz.zeroValue439
 g15:=by kernel_rfl
 g16:=by kernel_rfl
 g17:=by kernel_rfl
 g18:=by kernel_rfl
 g19:=by kernel_rfl
 t80:=Tryz.underlying396
 a80:=Tryz.isAgg396
 z80:=Tryz.sizeOf396
 v80:=Tryz.zeroValue396
 i0:=by kernel_rfl
 i2:=by kernel_rfl
 i3:=by kernel_rfl
 i4:=by kernel_rfl
 i5:=by kernel_rfl
 i9:=by kernel_rfl
 i20:=by kernel_rfl
 i21:=by kernel_rfl
 i37:=by kernel_rfl
 i46:=by kernel_rfl
 i51:=by kernel_rfl
 i53:=by kernel_rfl
 i75:=by kernel_rfl
 i76:=by kernel_rfl
 i80:=by kernel_rfl
 i85:=by kernel_rfl
 i127:=by kernel_rfl
 i143:=by kernel_rfl
 i145:=by kernel_rfl
 i167:=by kernel_rfl
 i168:=by kernel_rfl
 i171:=by kernel_rfl
 i173:=by kernel_rfl
 i175:=by kernel_rfl
 i210:=by kernel_rfl
 i212:=by kernel_rfl
 i232:=by kernel_rfl
 i233:=by kernel_rfl
 m15:=by kernel_rfl
 m16:=by kernel_rfl
 m17:=by kernel_rfl
 m18:=by kernel_rfl
 m19:=by kernel_rfl
 c0:=by kernel_rfl
 c2:=by kernel_rfl
 c3:=by kernel_rfl
 c4:=by kernel_rfl
 c5:=by kernel_rfl
 c9:=by kernel_rfl
 c20:=by kernel_rfl
 c21:=by kernel_rfl
 c37:=by kernel_rfl
 c46:=by kernel_rfl
 c51:=by kernel_rfl
 c53:=by kernel_rfl
 c75:=by kernel_rfl
 c76:=by kernel_rfl
 c80:=by kernel_rfl
 c85:=by kernel_rfl
 c127:=by kernel_rfl
 c143:=by kernel_rfl
 c145:=by kernel_rfl
 c167:=by kernel_rfl
 c168:=by kernel_rfl
 c171:=by kernel_rfl
 c173:=by kernel_rfl
 c175:=by kernel_rfl
 c210:=by kernel_rfl
 c212:=by kernel_rfl
 c213:=by kernel_rfl
 c232:=by kernel_rfl
 c233:=by kernel_rfl }
def Tryz.laysGw17_ren:Go.Shelf.Ren:=⟨λ| 17=>83|15=>135|20=>181|n=>n,λ| 9=>9|23=>131|4=>4|3=>3|0=>0|21=>21|n=>n,λ| n=>n⟩
theorem Tryz.laysGw17:Go.Proofs.LaysGw.n17 Tryz.prog Tryz.laysGw17_ren:={
 mixed:=by kernel_rfl
 f15:=Tryz.func135.trans (congrArg some (by kernel_rfl))
 f17:=Tryz.func83.trans (congrArg some (by kernel_rfl))
 f20:=Tryz.func181.trans (congrArg some (by kernel_rfl))
 t0:=Tryz.underlying0
 a0:=Tryz.isAgg0
 z0:=Tryz.sizeOf0
 v0:=Tryz.zeroValue0
 i0:=by kernel_rfl
 t3:=Tryz.underlying3
 a3:=Tryz.isAgg3
 z3:=Tryz.sizeOf3
 v3:=Tryz.zeroValue3
 i3:=by kernel_rfl
 t4:=Tryz.underlying4
 a4:=Tryz.isAgg4
 z4:=Tryz.sizeOf4
 v4:=Tryz.zeroValue4
 i4:=by kernel_rfl
 t9:=Tryz.underlying9
 a9:=Tryz.isAgg9
 z9:=Tryz.sizeOf9
 v9:=Tryz.zeroValue9
 i9:=by kernel_rfl
 t21:=Tryz.underlying21
 a21:=Tryz.isAgg21
 z21:=Tryz.sizeOf21
 v21:=Tryz.zeroValue21
 i21:=by kernel_rfl
 t23:=Tryz.underlying131
 a23:=Tryz.isAgg131
 z23:=Tryz.sizeOf131
 v23:=Tryz.zeroValue131
 i23:=by kernel_rfl }
def Tryz.lays264_ren:Go.Shelf.Ren:=⟨λ| 264=>161|n=>n,λ| 53=>164|46=>139|n=>n,λ| n=>n⟩
theorem Tryz.lays264:Go.Proofs.Lays.n264 Tryz.prog Tryz.lays264_ren:={
 mixed:=by kernel_rfl
 f264:=Tryz.func161.trans (congrArg some (by kernel_rfl))
 t46:=Tryz.underlying139
 a46:=Tryz.isAgg139
 z46:=Tryz.sizeOf139
 v46:=Tryz.zeroValue139
 t53:=Tryz.underlying164
 a53:=Tryz.isAgg164
 z53:=Tryz.sizeOf164
 v53:=Tryz.zeroValue164 }
open Go.RowKit Go.Lib in
theorem Tryz.bits_Mul64 (x y:Nat)(hx:x<18446744073709551616)(hy:y<18446744073709551616)(w:World) :
  Calls Tryz.prog 161 #[.int .u64 x,.int .u64 y] w λe w'=>e=.returned (.tuple #[.int .u64 ((x*y / 18446744073709551616:Nat):Int),.int .u64 ((x*y%18446744073709551616:Nat):Int)])/\w'=w:=Any.bits_Mul64 Tryz.lays264 x y hx hy w
open Go.RowKit Go.Lib in
theorem Tryz.strings_ContainsFunc_grows (g:Nat)(lb:Array Value)(eg:∀args w,(callFunc g args).run Tryz.prog w=.ok (.enter g args) w)(p:Nat->Bool)(s:ByteArray)(w:World)(hp:PredGrows Tryz.prog g lb p w) :
  Calls Tryz.prog 83 #[.string s,.func (.func g) #[] lb] w λe w'=>e=.returned (.bool (decide (0<=Lib.idxFunc p true s)))/\Below w.heap.size w w':=Any.strings_ContainsFunc_grows Tryz.laysGw17 g lb eg p s w hp
def Tryz.lays110_ren:Go.Shelf.Ren:=⟨λ| 110=>226|109=>256|n=>n,λ| 31=>45|9=>9|4=>4|3=>3|0=>0|n=>n,λ| n=>n⟩
theorem Tryz.lays110:Go.Proofs.Lays.n110 Tryz.prog Tryz.lays110_ren:={
 mixed:=by kernel_rfl
 f109:=Tryz.func256.trans (congrArg some (by kernel_rfl))
 f110:=Tryz.func226.trans (congrArg some (by kernel_rfl))
 t0:=Tryz.underlying0
 a0:=Tryz.isAgg0
 z0:=Tryz.sizeOf0
 v0:=Tryz.zeroValue0
 t3:=Tryz.underlying3
 a3:=Tryz.isAgg3
 z3:=Tryz.sizeOf3
 v3:=Tryz.zeroValue3
 t4:=Tryz.underlying4
 a4:=Tryz.isAgg4
 z4:=Tryz.sizeOf4
 v4:=Tryz.zeroValue4
 t9:=Tryz.underlying9
 a9:=Tryz.isAgg9
 z9:=Tryz.sizeOf9
 v9:=Tryz.zeroValue9
 t31:=Tryz.underlying45
 a31:=Tryz.isAgg45
 z31:=Tryz.sizeOf45
 v31:=Tryz.zeroValue45 }
open Go.Lib in
theorem Tryz.slices_Contains_string (b off n c:Nat)(zs:List ByteArray)(x:ByteArray)(w:World)(hz:n<=zs.length)(hbig:n<=9223372036854775807)(hc:∀j,j<zs.length->w.cell? ⟨b,off+j,none⟩=some (.string (zs.getD j ByteArray.empty))) :
  Calls Tryz.prog 226 #[.slice (some ⟨b,off,none⟩) n c,.string x] w λe w'=>e=.returned (.bool (Lib.containsS (zs.take n) x))/\w'=w:=Any.slices_Contains_string Tryz.lays110 b off n c zs x w hz hbig hc
open Go.Lib in
theorem Tryz.slices_Contains_string_empty (a:Option Addr)(c:Nat)(x:ByteArray)(w:World) :
  Calls Tryz.prog 226 #[.slice a 0 c,.string x] w λe w'=>e=.returned (.bool false)/\w'=w:=Any.slices_Contains_string_empty Tryz.lays110 a c x w
end Go.Proofs
namespace Go.Proofs.YtngjlnhojicjeaaGreatDoor
open Go.RowKit Go.Pl
def cl8 (b:UInt8):Nat:=if b==35 then 2 else if b==95 then 5 else if b==34 then 7 else if aRd b then 3 else if aI7 b then 4 else if aTR b then 1 else if aTQ b then 6 else 0
def aHH (i:Nat):Nat:=if aRd (UInt8.ofNat i) then 3 else if aI7 (UInt8.ofNat i) then 4 else if aTR (UInt8.ofNat i) then 1 else if aTQ (UInt8.ofNat i) then 6 else 0
def ixb (s:Bys)(i:Nat):Int:=Lib.indexByte s (UInt8.ofNat i)
theorem aDR (i:Nat)(hi:i<256):aHH i=bif (decide ((97:Int)<=(i:Int))&&decide ((i:Int)<=122)||decide ((65:Int)<=(i:Int))&&decide ((i:Int)<=90)) then 3 else bif (decide ((48:Int)<=(i:Int))&&decide ((i:Int)<=57)) then 4 else bif decide ((0:Int)<=ixb [32,9,10] i) then 1 else bif decide ((0:Int)<=ixb [59,44,46,58,40,41,123,125,91,93,61,60,62,47,45] i) then 6 else 0:=by
  have:∀i:Fin 256,aHH i.val=bif (decide ((97:Int)<=(i.val:Int))&&decide ((i.val:Int)<=122)||decide ((65:Int)<=(i.val:Int))&&decide ((i.val:Int)<=90)) then 3 else bif (decide ((48:Int)<=(i.val:Int))&&decide ((i.val:Int)<=57)) then 4 else bif decide ((0:Int)<=ixb [32,9,10] i.val) then 1 else bif decide ((0:Int)<=ixb [59,44,46,58,40,41,123,125,91,93,61,60,62,47,45] i.val) then 6 else 0:=by decide +kernel
  exact this ⟨i,hi⟩
theorem aWy (i:Nat)(hi:i<256):(if i=34 then 7 else if i=95 then 5 else if i=35 then 2 else aHH i)=cl8 (UInt8.ofNat i):=by
  have:∀i:Fin 256,(if i.val=34 then 7 else if i.val=95 then 5 else if i.val=35 then 2 else aHH i.val)=cl8 (UInt8.ofNat i.val):=by decide +kernel
  exact this ⟨i,hi⟩
theorem aI5 (s:Bys)(i:Nat)(hi:i<256)(w:World):Calls Tryz.prog 139 #[vS s,.int .u8 (i:Int)] w λe w'=>e=.returned (vI (ixb s i))/\Fr nF_ w w':=by
  refine(Tryz.strings_IndexByte (ofL s) (i:Int) w).mono λe w' h=>⟨?_,by rw[h.2];exact Fr.refl _ _⟩;rw[h.1];unfold ixb;rw[show(ofL s).data.toList=s from by simp[ofL],show((i:Int).toNat.toUInt8)=UInt8.ofNat i from by simp]
abbrev vU (n:Nat):Value := .int .u8 (n:Int)
abbrev T8 (cs:Array Value)(t:Nat->Nat):Prop:=TbA 256 cs (λi=>vU (t i))
def aM5 (i:Nat):Nat:=cl8 (UInt8.ofNat i)
theorem aDw (b:UInt8):aM5 b.toNat=cl8 b:=by
  unfold aM5;rw[show UInt8.ofNat b.toNat=b by simp]
theorem aSH:T8 (zT Tryz.prog 137) (λ_=>0):=by
  have h:(zT Tryz.prog 137).size=256/\(List.range 256).all (λi=>match(zT Tryz.prog 137)[i]? with|some (.int .u8 n)=>n==0|_=>false)=true:=⟨by kernel_rfl,by kernel_rfl⟩;refine⟨h.1,λi hi=>?_⟩;have:=List.all_eq_true.1 h.2 i (List.mem_range.2 hi)
  split at this
  · rename_i n hn;rw[hn];rw[beq_iff_eq] at this;rw[this];rfl
  · cases this
variable{t:Nat->Nat}{cs:Array Value}
theorem T8.one (h:T8 cs t):cs.all (·.oneCell')=true:=TbA.one h λ_=>rfl
theorem T8.ext {t':Nat->Nat}(h:T8 cs t)(e:∀i,i<256->t i=t' i):T8 cs t':=TbA.ext h λi hi=>by rw[e i hi]
theorem T8.set (h:T8 cs t){k:Nat}(hk:k<256)(v:Nat):T8 (cs.setIfInBounds k (vU v)) (λi=>if i=k then v else t i):=(TbA.set h hk (vU v)).ext λi _=>by by_cases e:i=k<;>simp[e]
theorem aDB {n v:Nat}(h:aHH n=v)(i:Nat):(if i=n then v else if i<n then aHH i else 0)=if i<n+1 then aHH i else 0:=by
  rcases Nat.lt_trichotomy i n with e|e|e
  · rw[if_neg oM,if_pos e,if_pos oM]
  · subst e;rw[if_pos rfl,if_pos oM,h]
  · rw[if_neg oM,if_neg oM,if_neg oM]
theorem aOW {n:Nat}(h:aHH n=0)(i:Nat):(if i<n then aHH i else 0)=if i<n+1 then aHH i else 0:=by
  rcases Nat.lt_trichotomy i n with e|e|e
  · rw[if_pos e,if_pos oM]
  · subst e;rw[if_neg oM,if_pos oM,h]
  · rw[if_neg oM,if_neg oM]
variable{w:World}
theorem aZg (i:Nat)(hi:i<256) :Ft.ok Tryz.prog w (.g1 (.convert 3 5) (vI (i:Int)) (.int .u8 (i:Int))):=λo ρ x ho hx=>by
  have:IntKind.u8.wrap (i:Int)=i:=by simp[IntKind.wrap,IntKind.bits,IntKind.signed];omega
  simp[execOp,ho,hx,go_sem,this]
abbrev A87 (Z:Ending->World->Prop):=AtO Tryz.prog (aAv Tryz.f87) (aAI (bodyPost Tryz.prog Tryz.f87 Z)) [] 50
theorem aHI (w:World):Calls Tryz.prog 87 #[] w λe w'=>(∃cs,e=.returned (.agg cs)/\T8 cs aM5/\Fr nF_ w w'):=by
  refine beg Tryz.func87 rfl rfl [] rfl rfl λZ hZ=>?_;have hM:=Mm.nil nF_ w;refine aAu 0 0 0 [] (cs:=zT Tryz.prog 137) (T:=137) (v:=λb=>vP b 0) f0 hM λb1 w1 hM=>aAu 1 0 1 [] (cs:=zT Tryz.prog 137) (T:=137) (v:=λb=>vP b 0) f0 hM λb2 w1 hM=>seg 3 0 [(4,vI 0)] f0 ?_
  have lp3:∀(m5:Nat)(n:Nat)(cs:Array Value)(w2:World),n<=256->(T8 cs (λi=>if i<n then aHH i else 0))->Mm nF_ w w2 [bk b1 (zT Tryz.prog 137) 137,bk b2 cs 137]->m5=256-n->A87 Z (some (3,0)) [(4,vI (n:Int)),(1,vP b2 0),(0,vP b1 0)] w2:=by
   refine aCh λm5 ih4 n cs w2 hn hT hM hm5=>seg 3 1 [(5,vB (decide ((n:Int)<256)))] f0 ?_;cases h6:(decide ((n:Int)<256))
   ·have rh6:=df h6;have hT:T8 cs (λi=>aHH i):=T8.ext hT λi hi=>by rw[if_pos oM]
    refine aPT 16 1 [(46,vP b2 (0+35*1))] 5 1 35 (vU 2) (fc (aMk 137 256 .i64 b2 0 35 oM) f0) hM rfl (by have:=hT.1;omega) λw1 hM=>?_;have hT:=T8.set hT (k:=35) oM 2;refine aPT 16 3 [(47,vP b2 (0+95*1))] 5 1 95 (vU 5) (fc (aMk 137 256 .i64 b2 0 95 oM) f0) hM rfl (by have:=hT.1;omega) λw1 hM=>?_;have hT:=T8.set hT (k:=95) oM 5;refine aPT 16 5 [(48,vP b2 (0+34*1))] 5 1 34 (vU 7) (fc (aMk 137 256 .i64 b2 0 34 oM) f0) hM rfl (by have:=hT.1;omega) λw1 hM=>?_;have hT:=T8.set hT (k:=34) oM 7;refine aY6 17 1 [(49,.agg (Array.setIfInBounds (Array.setIfInBounds (Array.setIfInBounds cs 35 (vU 2)) 95 (vU 5)) 34 (vU 7)))] 137 0 (fc (lac 137 1 hM rfl hT.1) f0) hM rfl aSH.1 hT.1 (T8.one hT) λw1 hM=>?_;have hT:T8 _ aM5:=T8.ext hT λi hi=>by unfold aM5;rw[<-aWy i hi]
    exact rtc 0 137 rfl (aBi 137 0 hM rfl hT.1) f0 (hZ _ _ ⟨_,rfl,hT,hM.fr⟩)
   have rh6:=dt h6;have hlt:n<256:=by omega
   refine seg 6 0 [(2,vI (n:Int)),(3,.int .u8 (n:Int))] (fc (aZg n hlt) f0) ?_
   have cu7:∀(w2:World),((decide ((97:Int)<=(n:Int))&&decide ((n:Int)<=122)||decide ((65:Int)<=(n:Int))&&decide ((n:Int)<=90))=false)->Mm nF_ w w2 [bk b1 (zT Tryz.prog 137) 137,bk b2 cs 137]->A87 Z (some (9,0)) [(3,.int .u8 (n:Int)),(2,vI (n:Int)),(4,vI (n:Int)),(1,vP b2 0),(0,vP b1 0)] w2:=by
    intro w2 hc1 hM
    have cu8:∀(w2:World),((decide ((48:Int)<=(n:Int))&&decide ((n:Int)<=57))=false)->Mm nF_ w w2 [bk b1 (zT Tryz.prog 137) 137,bk b2 cs 137]->A87 Z (some (11,0)) [(3,.int .u8 (n:Int)),(2,vI (n:Int)),(4,vI (n:Int)),(1,vP b2 0),(0,vP b1 0)] w2:=by
     intro w2 hc2 hM;refine aAw 11 1 35 [(34,.int .u8 (n:Int))] f0 hM (aI5 [32,9,10] n hlt _) λw1 hM=>seg 11 4 [(33,vB (decide (0<=(ixb [32,9,10] n))))] f0 ?_;cases h9:(decide (0<=(ixb [32,9,10] n)))
     rotate_left
     ·refine aPT 12 2 [(38,vP b2 (0+n*1))] 5 1 n (vU 1) (fc (aMk 137 256 .i64 b2 0 n oM) f0) hM rfl (by have:=hT.1;omega) λw1 hM=>?_;have hT:=T8.set hT (k:=n) oM 1;refine seg 3 0 [(4,vI ((n:Int)+1))] (fc (aAP (n:Int) 1 u3_) f0) ?_;have hcv:aHH n=1:=by rw[aDR n hlt,hc1,hc2];simp[h9]
      exact aAi _ (ih4 _ oM (n+1) _ _ oM (T8.ext hT λi _=>aDB hcv i) hM rfl)
     refine aAw 13 1 41 [(40,.int .u8 (n:Int))] f0 hM (aI5 [59,44,46,58,40,41,123,125,91,93,61,60,62,47,45] n hlt _) λw1 hM=>seg 13 4 [(39,vB (decide (0<=(ixb [59,44,46,58,40,41,123,125,91,93,61,60,62,47,45] n))))] f0 ?_;cases h10:(decide (0<=(ixb [59,44,46,58,40,41,123,125,91,93,61,60,62,47,45] n)))
     ·refine seg 3 0 [(4,vI ((n:Int)+1))] (fc (aAP (n:Int) 1 u3_) f0) ?_;have hcv:aHH n=0:=by rw[aDR n hlt,hc1,hc2];simp[h9,h10]
      exact aAi _ (ih4 _ oM (n+1) _ _ oM (T8.ext hT λi _=>aOW hcv i) hM rfl)
     refine aPT 14 2 [(44,vP b2 (0+n*1))] 5 1 n (vU 6) (fc (aMk 137 256 .i64 b2 0 n oM) f0) hM rfl (by have:=hT.1;omega) λw1 hM=>?_;have hT:=T8.set hT (k:=n) oM 6;refine seg 3 0 [(4,vI ((n:Int)+1))] (fc (aAP (n:Int) 1 u3_) f0) ?_;have hcv:aHH n=6:=by rw[aDR n hlt,hc1,hc2];simp[h9,h10]
     exact aAi _ (ih4 _ oM (n+1) _ _ oM (T8.ext hT λi _=>aDB hcv i) hM rfl)
    refine seg 9 3 [(27,vB (decide (48<=(n:Int))))] f0 ?_;cases h11:(decide (48<=(n:Int)))
    ·have aa:=df h11;refine seg 11 0 [] f0 (aAi _ (cu8 _ (by simp[h11]) hM))
    have aa:=dt h11;refine seg 9 7 [(24,vB (decide ((n:Int)<=57)))] f0 ?_;cases h12:(decide ((n:Int)<=57))
    ·have ab:=df h12;refine seg 11 0 [] f0 (aAi _ (cu8 _ (by simp[h11,h12]) hM))
    have ab:=dt h12;refine aPT 10 2 [(32,vP b2 (0+n*1))] 5 1 n (vU 4) (fc (aMk 137 256 .i64 b2 0 n oM) f0) hM rfl (by have:=hT.1;omega) λw1 hM=>?_;have hT:=T8.set hT (k:=n) oM 4;refine seg 3 0 [(4,vI ((n:Int)+1))] (fc (aAP (n:Int) 1 u3_) f0) ?_;have hcv:aHH n=4:=by rw[aDR n hlt,hc1];simp[h11,h12]
    exact aAi _ (ih4 _ oM (n+1) _ _ oM (T8.ext hT λi _=>aDB hcv i) hM rfl)
   refine seg 6 3 [(12,vB (decide (97<=(n:Int))))] f0 ?_;cases h13:(decide (97<=(n:Int)))
   ·have ac:=df h13;refine seg 7 3 [(18,vB (decide (65<=(n:Int))))] f0 ?_;cases h14:(decide (65<=(n:Int)))
    ·have ad:=df h14;refine seg 9 0 [] f0 (aAi _ (cu7 _ (by simp[h13,h14]) hM))
    have ad:=dt h14;refine seg 7 7 [(9,vB (decide ((n:Int)<=90)))] f0 ?_;cases h15:(decide ((n:Int)<=90))
    ·have ae:=df h15;refine seg 9 0 [] f0 (aAi _ (cu7 _ (by simp[h13,h14,h15]) hM))
    have ae:=dt h15;refine aPT 8 2 [(23,vP b2 (0+n*1))] 5 1 n (vU 3) (fc (aMk 137 256 .i64 b2 0 n oM) f0) hM rfl (by have:=hT.1;omega) λw1 hM=>?_;have hT:=T8.set hT (k:=n) oM 3;refine seg 3 0 [(4,vI ((n:Int)+1))] (fc (aAP (n:Int) 1 u3_) f0) ?_;have hcv:aHH n=3:=by rw[aDR n hlt];simp[h13,h14,h15]
    exact aAi _ (ih4 _ oM (n+1) _ _ oM (T8.ext hT λi _=>aDB hcv i) hM rfl)
   have ac:=dt h13;refine seg 6 7 [(9,vB (decide ((n:Int)<=122)))] f0 ?_;cases h16:(decide ((n:Int)<=122))
   rotate_left
   ·have af:=dt h16;refine aPT 8 2 [(23,vP b2 (0+n*1))] 5 1 n (vU 3) (fc (aMk 137 256 .i64 b2 0 n oM) f0) hM rfl (by have:=hT.1;omega) λw1 hM=>?_;have hT:=T8.set hT (k:=n) oM 3;refine seg 3 0 [(4,vI ((n:Int)+1))] (fc (aAP (n:Int) 1 u3_) f0) ?_;have hcv:aHH n=3:=by rw[aDR n hlt];simp[h13,h16]
    exact aAi _ (ih4 _ oM (n+1) _ _ oM (T8.ext hT λi _=>aDB hcv i) hM rfl)
   have af:=df h16;refine seg 7 3 [(18,vB (decide (65<=(n:Int))))] f0 ?_;cases h17:(decide (65<=(n:Int)))
   ·refine seg 9 0 [(9,vB false)] f0 (aAi _ (cu7 _ (by simp[h13,h16,h17]) hM))
   refine seg 7 7 [(9,vB (decide ((n:Int)<=90)))] f0 ?_;cases h18:(decide ((n:Int)<=90))
   ·have ag:=df h18;refine seg 9 0 [] f0 (aAi _ (cu7 _ (by simp[h13,h16,h17,h18]) hM))
   have ag:=dt h18;refine aPT 8 2 [(23,vP b2 (0+n*1))] 5 1 n (vU 3) (fc (aMk 137 256 .i64 b2 0 n oM) f0) hM rfl (by have:=hT.1;omega) λw1 hM=>?_;have hT:=T8.set hT (k:=n) oM 3;refine seg 3 0 [(4,vI ((n:Int)+1))] (fc (aAP (n:Int) 1 u3_) f0) ?_;have hcv:aHH n=3:=by rw[aDR n hlt];simp[h13,h16,h17,h18]
   exact aAi _ (ih4 _ oM (n+1) _ _ oM (T8.ext hT λi _=>aDB hcv i) hM rfl)
  exact aAi _ (lp3 _ 0 _ _ (Gg_ _) (T8.ext aSH λi _=>rfl) hM rfl)
def aFS (i:Nat)(c:UInt8):Bool:=cl8 c==3||(!(i==0)&&(cl8 c==4||cl8 c==5))
def aGy:Nat->Bys->Bool
  | _,[]=>true
  | i,c::l=>aFS i c&&aGy (i+1) l
def aBk (s:Bys):Bool:=aGy 0 s&&(!(s==[]))&&decide (s.length<=24)
abbrev A52 (Z:Ending->World->Prop):=AtO Tryz.prog (aAv Tryz.f41) (aAI (bodyPost Tryz.prog Tryz.f41 Z)) [] 39
variable{s:Bys}
theorem aA6 (hs:s.length<=9223372036854775807)(w:World):Calls Tryz.prog 41 #[vS s] w λe w'=>e=.returned (vB (aBk s))/\Fr nF_ w w':=by
  refine beg Tryz.func41 rfl rfl [(0,vS s)] rfl rfl λZ hZ=>?_;have hM:=Mm.nil nF_ w;refine aJd 1 0 6 [] (K:=λv w8=>∃cs,v=.agg cs/\T8 cs aM5) f0 hM ((aHI _).mono λe w8 ⟨cs,h1,h2,h3⟩=>⟨⟨_,h1,cs,rfl,h2⟩,h3⟩) λ_ w1 ⟨cs,hv9,hT⟩ hM f1=>?_;subst hv9;refine aAu 1 1 3 [] (cs:=zT Tryz.prog 137) (T:=137) (v:=λb=>vP b 0) f0 hM λb1 w1 hM=>aY6 1 2 [] 137 0 f0 hM rfl aSH.1 hT.1 (T8.one hT) λw1 hM=>seg 3 0 [(8,vI (s.length:Int)),(9,vI 0)] (fc (aHS 9 s) f0) ?_
  have lp2:∀(m4:Nat)(i:Nat)(w2:World),i<=s.length->aGy 0 s=aGy i (s.drop i)->Mm nF_ w w2 [bk b1 cs 137]->m4=s.length-i->A52 Z (some (3,0)) [(9,vI (i:Int)),(8,vI (s.length:Int)),(3,vP b1 0),(0,vS s)] w2:=by
   refine aCh λm4 ih3 i w2 hi hv hM hm4=>seg 3 1 [(10,vB (decide ((i:Int)<(s.length:Int))))] f0 ?_;cases h5:(decide ((i:Int)<(s.length:Int)))
   ·have rh5:=df h5;refine seg 9 3 [(34,vB (!(s==[])))] (fc (sne 9 s []) f0) ?_;cases h6:(s==[])
    ·exact rt1 2 (vB (decide ((s.length:Int)<=24))) rfl (fc (aHS 9 s) f0) (hZ _ _ ⟨by unfold aBk;rw[hv,List.drop_of_length_le oM,h6,aGy,show decide (((s.length:Nat):Int)<=24)=decide (s.length<=24) from by rw[decide_eq_decide];omega];rfl,hM.fr⟩)
    exact rt1 2 (vB false) rfl f0 (hZ _ _ ⟨by unfold aBk;rw[h6];simp,hM.fr⟩)
   have rh5:=dt h5;obtain⟨e7,he7⟩:=geb (l:=s) (i:=i) oM;refine seg 6 3 [(4,vI (i:Int)),(5,.int .u8 ((aM5 e7.toNat:Nat):Int)),(19,vB (!(((aM5 e7.toNat:Nat):Int)==3)))] (fc (byt 9 he7) (fc (aMk 137 256 .u8 b1 0 e7.toNat e7.toNat_lt) (fc (ldt 5 0 hM rfl (hT.2 _ e7.toNat_lt)) f0))) ?_;cases h8:(((aM5 e7.toNat:Nat):Int)==3)
   rotate_left
   ·have rh8:=et h8;refine seg 3 0 [(9,vI ((i:Int)+1))] (fc (aAP (i:Int) 1 u3_) f0) (aAi _ (ih3 _ oM (i+1) _ (gl he7) (by rw[hv,gd he7,aGy,show aFS i e7=true by unfold aFS;rw[<-aDw];simp;omega];rfl) hM rfl))
   have rh8:=ef h8;refine seg 6 6 [(22,vB ((i:Int)==0))] f0 ?_;cases h9:((i:Int)==0)
   rotate_left
   ·have rh9:=et h9;exact rt1 2 (vB false) rfl f0 (hZ _ _ ⟨by unfold aBk;rw[hv,gd he7,aGy,show aFS i e7=false by unfold aFS;rw[<-aDw];simp;omega];rfl,hM.fr⟩)
   have rh9:=ef h9;refine seg 6 9 [(25,vB (!(((aM5 e7.toNat:Nat):Int)==4)))] f0 ?_;cases h10:(((aM5 e7.toNat:Nat):Int)==4)
   rotate_left
   ·have aa:=et h10;refine seg 3 0 [(9,vI ((i:Int)+1))] (fc (aAP (i:Int) 1 u3_) f0) (aAi _ (ih3 _ oM (i+1) _ (gl he7) (by rw[hv,gd he7,aGy,show aFS i e7=true by unfold aFS;rw[<-aDw];simp;omega];rfl) hM rfl))
   have aa:=ef h10;refine seg 6 14 [(30,vB (!(((aM5 e7.toNat:Nat):Int)==5)))] f0 ?_;cases h11:(((aM5 e7.toNat:Nat):Int)==5)
   ·have ab:=ef h11;exact rt1 2 (vB false) rfl f0 (hZ _ _ ⟨by unfold aBk;rw[hv,gd he7,aGy,show aFS i e7=false by unfold aFS;rw[<-aDw];simp;omega];rfl,hM.fr⟩)
   have ab:=et h11;refine seg 3 0 [(9,vI ((i:Int)+1))] (fc (aAP (i:Int) 1 u3_) f0) (aAi _ (ih3 _ oM (i+1) _ (gl he7) (by rw[hv,gd he7,aGy,show aFS i e7=true by unfold aFS;rw[<-aDw];simp;omega];rfl) hM rfl))
  exact aAi _ (lp2 _ 0 _ (Gg_ _) rfl hM rfl)
inductive Fst {α:Type}(L:List α) (q:Nat->Bool) (I:Nat->World->Prop) (w:World):Int->Prop where
  | none:(∀j,j<L.length->q j=false)->I L.length w->Fst L q I w (-1)
  | some (i:Nat):i<L.length->q i=true->(∀j,j<i->q j=false)->I (i+1) w->Fst L q I w (i:Int)
variable{α:Type}{i:Nat}{I:Nat->World->Prop}
theorem Fst.end_ {L:List α}{q:Nat->Bool}(e:i=L.length)(h:∀j,j<i->q j=false)(hI:I i w):Fst L q I w (-1):=by subst e;exact .none h hI
abbrev A90 (Z:Ending->World->Prop):=AtO Tryz.prog (aAv Tryz.f143) (aAI (bodyPost Tryz.prog Tryz.f143 Z)) [] 19
variable{B:Nat}{caps:Array Value}{G:Nat->Prop}
theorem aMo {p:Option Addr}{cap:Nat}{L:List Bys}{f:FuncId}(hs:SrcB stL 1 w B p cap L)(hG:∀k,G k->B<=k)(eg:aJe Tryz.prog f)(I:Nat->World->Prop)(q:Nat->Bool)(h0:I 0 w)(step:∀i x w1,L[i]?=some x->(∀j,j<i->q j=false)->I i w1->Fr G w w1->Calls Tryz.prog f (#[vS x]++caps) w1 λe w2=>e=.returned (vB (q i))/\I (i+1) w2/\Fr G w1 w2):Calls Tryz.prog 143 #[vL p L.length cap,.func (.func f) #[] caps] w λe w'=>(∃z,e=.returned (vI z)/\Fst L q I w' z)/\Fr G w w':=by
  have bb:=hs.bnd;refine beg Tryz.func143 rfl rfl [(0,vL p L.length cap),(1,.func (.func f) #[] caps)] rfl rfl λZ hZ=>?_;have hM:=Mm.nil G w;refine seg 2 0 [(7,vI (L.length:Int)),(8,vI 0)] f0 ?_
  have lp1:∀(m3:Nat)(i:Nat)(w2:World),i<=L.length->(∀j,j<i->q j=false)->I i w2->Mm G w w2 []->m3=L.length-i->A90 Z (some (2,0)) [(8,vI (i:Int)),(7,vI (L.length:Int)),(0,vL p L.length cap),(1,.func (.func f) #[] caps)] w2:=by
   refine aCh λm3 ih2 i w2 hi hq hI hM hm3=>seg 2 1 [(9,vB (decide ((i:Int)<(L.length:Int))))] f0 ?_;cases h4:(decide ((i:Int)<(L.length:Int)))
   ·have rh4:=df h4;exact rt1 4 (vI (-1)) rfl f0 (hZ _ _ ⟨⟨_,rfl,.end_ oM hq hI⟩,hM.fr⟩)
   have rh4:=dt h4;obtain⟨y5,hy5,g5,o5,q5,r5,n5⟩:=(hs).eb hG (i:=i) oM;refine aUo 4 5 16 [(5,vI (i:Int)),(11,.func (.func f) #[] caps),(15,vS y5)] #[9] (K:=λu w9=>u=vB (q i)/\I (i+1) w9/\Fr G w2 w9) dE (fc (ix 45 cap q5 (gl hy5)) (fc (ld0 9 hM (r5 0 _ rfl) n5) f0)) eg ((step i y5 _ hy5 hq hI hM.fr).mono λe w9 h=>⟨_,h.1,rfl,h.2⟩) λu w1 ⟨hu,hI,f1⟩=>?_;subst hu;have hM:=hM.g f1;cases h6:(q i)
   ·refine seg 2 0 [(8,vI ((i:Int)+1))] (fc (aAP (i:Int) 1 u3_) f0) (aAi _ (ih2 _ oM (i+1) _ (gl hy5) (λj hj=>by rcases Nat.lt_succ_iff_lt_or_eq.1 hj with h|h;exact hq j h;rw[h];exact h6) hI hM rfl))
   exact rt1 4 (vI (i:Int)) rfl f0 (hZ _ _ ⟨⟨_,rfl,.some i (gl hy5) h6 hq hI⟩,hM.fr⟩)
  exact aAi _ (lp1 _ 0 _ (Gg_ _) (λ_ h=>absurd h (Nat.not_lt_zero _)) h0 hM rfl)
abbrev A88 (Z:Ending->World->Prop):=AtO Tryz.prog (aAv Tryz.f38) (aAI (bodyPost Tryz.prog Tryz.f38 Z)) [] 19
theorem aMq {p:Option Addr}{cap:Nat}{L:List ObR}{f:FuncId}(hs:SrcB obL 6 w B p cap L)(hG:∀k,G k->B<=k)(eg:aJe Tryz.prog f)(I:Nat->World->Prop)(q:Nat->Bool)(h0:I 0 w)(step:∀i x w1,L[i]?=some x->(∀j,j<i->q j=false)->I i w1->Fr G w w1->Calls Tryz.prog f (#[vA (obL x)]++caps) w1 λe w2=>e=.returned (vB (q i))/\I (i+1) w2/\Fr G w1 w2):Calls Tryz.prog 38 #[vL p L.length cap,.func (.func f) #[] caps] w λe w'=>(∃z,e=.returned (vI z)/\Fst L q I w' z)/\Fr G w w':=by
  have bb:=hs.bnd;refine beg Tryz.func38 rfl rfl [(0,vL p L.length cap),(1,.func (.func f) #[] caps)] rfl rfl λZ hZ=>?_;have hM:=Mm.nil G w;refine seg 2 0 [(7,vI (L.length:Int)),(8,vI 0)] f0 ?_
  have lp7:∀(m9:Nat)(i:Nat)(w2:World),i<=L.length->(∀j,j<i->q j=false)->I i w2->Mm G w w2 []->m9=L.length-i->A88 Z (some (2,0)) [(8,vI (i:Int)),(7,vI (L.length:Int)),(0,vL p L.length cap),(1,.func (.func f) #[] caps)] w2:=by
   refine aCh λm9 ih8 i w2 hi hq hI hM hm9=>seg 2 1 [(9,vB (decide ((i:Int)<(L.length:Int))))] f0 ?_;cases h10:(decide ((i:Int)<(L.length:Int)))
   ·have ab:=df h10;exact rt1 4 (vI (-1)) rfl f0 (hZ _ _ ⟨⟨_,rfl,.end_ oM hq hI⟩,hM.fr⟩)
   have ab:=dt h10;obtain⟨y11,aa,ad,ae,q11,ac,n11⟩:=(hs).eb hG (i:=i) oM;refine aUo 4 5 16 [(5,vI (i:Int)),(11,.func (.func f) #[] caps),(15,.agg (oY_ y11))] #[48] (K:=λu w9=>u=vB (q i)/\I (i+1) w9/\Fr G w2 w9) dE (fc (ix 22 cap q11 (gl aa)) (fc (la0 48 hM ac n11) f0)) eg ((step i y11 _ aa hq hI hM.fr).mono λe w9 h=>⟨_,h.1,rfl,h.2⟩) λu w1 ⟨hu,hI,f1⟩=>?_;subst hu;have hM:=hM.g f1;cases h12:(q i)
   ·refine seg 2 0 [(8,vI ((i:Int)+1))] (fc (aAP (i:Int) 1 u3_) f0) (aAi _ (ih8 _ oM (i+1) _ (gl aa) (λj hj=>by rcases Nat.lt_succ_iff_lt_or_eq.1 hj with h|h;exact hq j h;rw[h];exact h12) hI hM rfl))
   exact rt1 4 (vI (i:Int)) rfl f0 (hZ _ _ ⟨⟨_,rfl,.some i (gl aa) h12 hq hI⟩,hM.fr⟩)
  exact aAi _ (lp7 _ 0 _ (Gg_ _) (λ_ h=>absurd h (Nat.not_lt_zero _)) h0 hM rfl)
theorem aPa {p:Option Addr}{cap:Nat}{L:List Bys}{f:FuncId}(hs:SrcB stL 1 w B p cap L)(hG:∀k,G k->B<=k)(eg:aJe Tryz.prog f)(I:Nat->World->Prop)(q:Nat->Bool)(h0:I 0 w)(step:∀i x w1,L[i]?=some x->(∀j,j<i->q j=false)->I i w1->Fr G w w1->Calls Tryz.prog f (#[vS x]++caps) w1 λe w2=>e=.returned (vB (q i))/\I (i+1) w2/\Fr G w1 w2):Calls Tryz.prog 96 #[vL p L.length cap,.func (.func f) #[] caps] w λe w'=>(∃z,e=.returned (vB (decide (0<=z)))/\Fst L q I w' z)/\Fr G w w':=by
  refine beg Tryz.func96 rfl rfl [(0,vL p L.length cap),(1,.func (.func f) #[] caps)] rfl rfl λZ hZ=>?_;have hM:=Mm.nil G w;refine cal 1 2 7 [(5,vL p L.length cap),(6,.func (.func f) #[] caps)] (K:=λu w8=>∃z,u=vI z/\Fst L q I w8 z/\Fr G w w8) f0 ((aMo hs hG eg I q h0 step).mono λe w9 h=>⟨_,h.1.choose_spec.1,_,rfl,h.1.choose_spec.2,h.2⟩) λu w1 ⟨z,hu,hz,f1⟩=>?_;subst hu;have hM:=hM.g f1;exact rt1 4 (vB (decide (0<=z))) rfl f0 (hZ _ _ ⟨⟨_,rfl,hz⟩,hM.fr⟩)
def aDW (k:Int):Bys:=if k<0\/6<=k then[] else[[],[110,111,100,101],[119,97,121],[97,114,101,97],[114,111,117,116,101],[116,117,114,110]].getD k.toNat []
def aGM (k:Int):Int:=[0,0,2,3,1,3].getD k.toNat 0
def onB (x y:Int):Bool:=decide (0<=x)&&decide (x<1048576)&&decide (0<=y)&&decide (y<1048576)
variable{k:Int}
theorem six (h0:¬k<0)(h1:¬6<=k):∃i:Nat,k=(i:Int)/\i<6:=⟨k.toNat,by omega,by omega⟩
theorem aWZ (h:i<6):(#[vS [],vS [110,111,100,101],vS [119,97,121],vS [97,114,101,97],vS [114,111,117,116,101],vS [116,117,114,110]]:Array Value)[i]?=some (vS (aDW (i:Int))):=by
  match i,h with
  | 0,_=>rfl
  | 1,_=>rfl
  | 2,_=>rfl
  | 3,_=>rfl
  | 4,_=>rfl
  | 5,_=>rfl
theorem aVQ (h:i<6):(#[vI 0,vI 0,vI 2,vI 3,vI 1,vI 3]:Array Value)[i]?=some (vI (aGM (i:Int))):=by
  match i,h with
  | 0,_=>rfl
  | 1,_=>rfl
  | 2,_=>rfl
  | 3,_=>rfl
  | 4,_=>rfl
  | 5,_=>rfl
theorem aCD (k:Int)(w:World):Calls Tryz.prog 93 #[vI k] w λe w'=>e=.returned (vS (aDW k))/\Fr nF_ w w':=by
  refine beg Tryz.func93 rfl rfl [(0,vI k)] rfl rfl λZ hZ=>?_;have hM:=Mm.nil nF_ w;refine aBW 1 1 3 [(4,.agg #[vS [],vS [110,111,100,101],vS [119,97,121],vS [97,114,101,97],vS [114,111,117,116,101],vS [116,117,114,110]])] [] 216 (.agg #[vS [],vS [110,111,100,101],vS [119,97,121],vS [97,114,101,97],vS [114,111,117,116,101],vS [116,117,114,110]]) f0 hM λaa w1 hM=>seg 2 3 [(7,vB (decide (k<0)))] f0 ?_;cases h14:(decide (k<0))
  rotate_left
  ·have ab:=dt h14;exact rt1 2 (vS []) rfl f0 (hZ _ _ ⟨by unfold aDW;rw[if_pos oM],hM.fr⟩)
  have ab:=df h14;refine seg 2 6 [(10,vB (decide (6<=k)))] f0 ?_;cases h15:(decide (6<=k))
  ·have ac:=df h15;obtain⟨i,hk,hi⟩:=six (k:=k) oM oM;subst hk;exact rt1 2 (vS (aDW (i:Int))) rfl (fc (aMk 216 6 .i64 aa 0 i hi) (fc (ldt 9 0 hM rfl (aWZ hi)) f0)) (hZ _ _ ⟨rfl,hM.fr⟩)
  have ac:=dt h15;exact rt1 2 (vS []) rfl f0 (hZ _ _ ⟨by unfold aDW;rw[if_pos oM],hM.fr⟩)
theorem aFX (k:Int)(h0:¬k<0)(h1:¬6<=k)(w:World):Calls Tryz.prog 94 #[vI k] w λe w'=>e=.returned (vI (aGM k))/\Fr nF_ w w':=by
  obtain⟨i,hk,hi⟩:=six (k:=k) oM oM;subst hk;refine beg Tryz.func94 rfl rfl [(0,vI (i:Int))] rfl rfl λZ hZ=>?_;have hM:=Mm.nil nF_ w;exact rt1 2 (vI (aGM (i:Int))) rfl (fc (ixv 217 6 (kd := .i64) (aVQ hi) rfl) f0) (hZ _ _ ⟨rfl,hM.fr⟩)
theorem aQG (a b:Int)(w:World):Calls Tryz.prog 97 #[.agg #[vI a,vI b]] w λe w'=>e=.returned (vB (onB a b))/\Fr nF_ w w':=by
  refine beg Tryz.func97 rfl rfl [(0,.agg #[vI a,vI b])] rfl rfl λZ hZ=>?_;have hM:=Mm.nil nF_ w;refine aAu 0 0 1 [] (cs:=#[vI a,vI b]) (T:=29) (v:=λb=>vP b 0) f0 hM λaa w1 hM=>seg 1 4 [(6,vB (decide (0<=a)))] (fc (ldm 3 0 0 hM rfl rfl) f0) ?_;cases h17:(decide (0<=a))
  ·exact rt1 2 (vB false) rfl f0 (hZ _ _ ⟨by unfold onB;simp[h17],hM.fr⟩)
  refine seg 1 9 [(11,vB (decide (a<1048576)))] (fc (ldm 3 0 0 hM rfl rfl) f0) ?_;cases h18:(decide (a<1048576))
  ·exact rt1 2 (vB false) rfl f0 (hZ _ _ ⟨by unfold onB;simp[h17,h18],hM.fr⟩)
  refine seg 1 14 [(16,vB (decide (0<=b)))] (fc (ldm 3 0 1 hM rfl rfl) f0) ?_;cases h19:(decide (0<=b))
  ·exact rt1 2 (vB false) rfl f0 (hZ _ _ ⟨by unfold onB;simp[h17,h18,h19],hM.fr⟩)
  exact rt1 2 (vB (decide (b<1048576))) rfl (fc (ldm 3 0 1 hM rfl rfl) f0) (hZ _ _ ⟨by unfold onB;simp[h17,h18,h19],hM.fr⟩)
def aMW:Bys->List Tag->Bool
  | _,[]=>true
  | k,t::l=>aBk t.1&&blt k t.1&&(!(t.2==[]))&&decide ((t.2.length:Int)<=200)&&aMW t.1 l
def aE5 (l:List Tag):Bool:=aMW [] l&&decide ((l.length:Int)<=60)
abbrev A81 (Z:Ending->World->Prop):=AtO Tryz.prog (aAv Tryz.f40) (aAI (bodyPost Tryz.prog Tryz.f40 Z)) [] 39
variable{v:Value}
theorem aBS {l:List Tag}(hl:TgV w v l)(hb:∀t∈l,B63 t.1/\B63 t.2):Calls Tryz.prog 40 #[v] w λe w'=>e=.returned (vB (aE5 l))/\Fr nF_ w w':=by
  obtain⟨p0,cp0,hp0,sp0⟩:=hl.op;subst hp0;have bp0:=sp0.bnd;refine beg Tryz.func40 rfl rfl [(0,vL p0 l.length cp0)] rfl rfl λZ hZ=>?_;have hM:=Mm.nil nF_ w;refine seg 3 0 [(3,vS []),(6,vL p0 l.length cp0),(7,vI (l.length:Int)),(8,vI 0)] f0 ?_
  have ab:∀(aa:Nat)(i:Nat)(k:Bys)(w2:World),i<=l.length->aMW [] l=aMW k (l.drop i)->Mm nF_ w w2 []->aa=l.length-i->A81 Z (some (3,0)) [(8,vI (i:Int)),(7,vI (l.length:Int)),(6,vL p0 l.length cp0),(3,vS k),(0,vL p0 l.length cp0)] w2:=by
   refine aCh λaa ac i k w2 hi hv hM ag=>seg 3 1 [(9,vB (decide ((i:Int)<(l.length:Int))))] f0 ?_;cases h23:(decide ((i:Int)<(l.length:Int)))
   ·have ad:=df h23;exact rt1 2 (vB (decide ((l.length:Int)<=60))) rfl f0 (hZ _ _ ⟨by unfold aE5;rw[hv,List.drop_of_length_le oM];rfl,hM.fr⟩)
   have ad:=dt h23;obtain⟨y,hy,ah,ai,q24,ae⟩:=sp0.el (i:=i) oM;refine aBW 4 2 5 [(11,.agg #[vS y.1,vS y.2])] [] 72 (.agg #[vS y.1,vS y.2]) (fc (ix 46 cp0 q24 (gl hy)) (fc (la0 72 hM ae) f0)) hM λaj w1 hM=>aAw 5 2 14 [(13,vS y.1)] (fc (ldm 9 0 0 hM rfl rfl) f0) hM (aA6 (hb _ (gm hy)).1 _) λw1 hM=>seg 5 5 [(16,vB (!(aBk y.1)))] f0 ?_;cases h26:(aBk y.1)
   ·exact rt1 2 (vB false) rfl f0 (hZ _ _ ⟨by unfold aE5;rw[hv,gd hy,aMW];simp[h26];try omega,hM.fr⟩)
   refine seg 5 11 [(22,vB (!(blt k y.1)))] (fc (ldm 9 0 0 hM rfl rfl) (fc (sle 9 y.1 k) f0)) ?_;cases h27:(blt k y.1)
   ·exact rt1 2 (vB false) rfl f0 (hZ _ _ ⟨by unfold aE5;rw[hv,gd hy,aMW];simp[h26,h27];try omega,hM.fr⟩)
   refine seg 5 16 [(27,vB (y.2==[]))] (fc (ldm 9 0 1 hM rfl rfl) (fc (seq 9 y.2 []) f0)) ?_;cases h28:(y.2==[])
   rotate_left
   ·exact rt1 2 (vB false) rfl f0 (hZ _ _ ⟨by unfold aE5;rw[hv,gd hy,aMW];simp[h26,h27,h28];try omega,hM.fr⟩)
   refine seg 5 21 [(32,vB (decide (200<(y.2.length:Int))))] (fc (ldm 9 0 1 hM rfl rfl) (fc (aHS 9 y.2) f0)) ?_;cases h29:(decide (200<(y.2.length:Int)))
   ·have af:=df h29;refine seg 3 0 [(3,vS y.1),(8,vI ((i:Int)+1))] (fc (ldm 9 0 0 hM rfl rfl) (fc (aAP (i:Int) 1 u3_) f0)) (aAi _ (ac _ oM (i+1) y.1 _ (gl hy) (by rw[hv,gd hy,aMW];simp[h26,h27,h28,h29];omega) (hM.pick []) rfl))
   have af:=dt h29;exact rt1 2 (vB false) rfl f0 (hZ _ _ ⟨by unfold aE5;rw[hv,gd hy,aMW];simp[h26,h27,h28,h29];try omega,hM.fr⟩)
  exact aAi _ (ab _ 0 [] _ (Gg_ _) rfl hM rfl)
def aLI (S:List Bys):Value->Option Value
  | .string s=>if s.toList∈S then some (vB true) else none
  | _=>none
theorem aIl (S:List Bys)(x:Bys):((aLI S) (vS x)).getD (vB false)=vB (S.contains x):=by
  show(if(ofL x).toList∈S then some (vB true) else none).getD (vB false)=_;rw[aAF]
  by_cases h:x∈S<;>simp[h]
theorem aEc (S:List Bys)(x:Bys):upd (aLI S) (vS x) (vB true)=aLI (S++[x]):=by
  funext v
  by_cases h:v=vS x
  · subst h;rw[aHb];show _=if(ofL x).toList∈S++[x] then some (vB true) else none
    rw[aAF,if_pos sI]
  · rw[aDX _ h]
    cases v with
    | string s =>
      show(if s.toList∈S then some (vB true) else none)=if s.toList∈S++[x] then some (vB true) else none
      have:s.toList≠x:=λe=>h (by rw[<-e,vS,ofL_of])
      by_cases h2:s.toList∈S<;>simp[h2,this]
    | _=>rfl
theorem aQc:aLI []=λ_=>none:=by
  funext v;cases v<;>simp[aLI]
theorem aUZ (w:World):(zeroValue 4).run Tryz.prog w=.ok (vB false) w:=by kernel_rfl
def aDV (kind:Int)(last:Bys)(S:List Bys)(s:Bys):Bool:=((kind==2)&&(s==last))||((kind==3)&&S.contains s) || !(aBk s)
def aGT (o:Ob)(i:Nat):Bool:=match o.refs[i]? with
  | some s=>aDV o.kind ((o.refs.take i).getLast?.getD []) (o.refs.take i) s
  | none=>false
theorem aJg {bo bl bs bm n:Nat}{b:ObR}{last:Bys}{S:List Bys}(hs:B63 s)(hM0:Mm G w w [bk bo (oY_ b) 48,bk bl #[vS last] 9,bk bs #[.map (some bm)] 145,mp Tryz.prog 9 bm n (aLI S)]):Calls Tryz.prog 95 #[vS s,vP bo 0,vP bl 0,vP bs 0] w λe w'=>e=.returned (vB (aDV b.o.kind last S s))/\Mm G w w' [bk bo (oY_ b) 48,bk bl #[vS s] 9,bk bs #[.map (some bm)] 145,mp Tryz.prog 9 bm (n+1) (aLI (S++[s]))]:=by
  refine beg Tryz.func95 rfl rfl [(0,vS s),(1,vP bo 0),(2,vP bl 0),(3,vP bs 0)] rfl rfl λZ hZ=>?_;have hM:=hM0;refine seg 1 4 [(10,vB (b.o.kind==2))] (fc (ldm 3 0 1 hM rfl rfl) f0) ?_;cases h30:(b.o.kind==2)
  ·refine seg 1 13 [(15,vB false),(19,vB (b.o.kind==3))] (fc (ldm 3 0 1 hM rfl rfl) f0) ?_;cases h31:(b.o.kind==3)
   ·refine mup 2 3 [(6,vB false),(25,.map (some bm)),(26,vS s),(27,vS s)] 145 3 (vS s) (vB true) (fc (ldm 145 2 0 hM rfl rfl) f0) hM rfl aEi u145_ (aE2 hs) λw1 hM=>?_;rw[aEc] at hM;refine stm 2 4 [] 9 1 0 (vS s) f0 hM rfl λw1 hM=>aAw 3 3 31 [(29,vB false),(30,vS s)] f0 hM (aA6 hs _) λw1 hM=>rt1 5 (vB (!(aBk s))) rfl f0 (hZ _ _ ⟨by unfold aDV;simp only[h30,h31]<;>rfl,hM⟩)
   refine mup 2 3 [(6,vB (S.contains s)),(25,.map (some bm)),(26,vS s),(27,vS s)] 145 3 (vS s) (vB true) (fc (ldm 145 2 0 hM rfl rfl) (fc (rz2 (lk 145 3 (vS s) (vB false) hM rfl aEi u145_ (aE2 hs) (aUZ _)) (aIl S s)) (fc (ldm 145 2 0 hM rfl rfl) f0))) hM rfl aEi u145_ (aE2 hs) λw1 hM=>?_;rw[aEc] at hM;refine stm 2 4 [] 9 1 0 (vS s) f0 hM rfl λw1 hM=>seg 3 2 [(29,vB (S.contains s))] f0 ?_;cases h32:(S.contains s)
   ·refine aAw 3 3 31 [(30,vS s)] f0 hM (aA6 hs _) λw1 hM=>rt1 5 (vB (!(aBk s))) rfl f0 (hZ _ _ ⟨by unfold aDV;simp only[h30,h31,h32]<;>rfl,hM⟩)
   exact rt1 5 (vB true) rfl f0 (hZ _ _ ⟨by unfold aDV;simp only[h30,h31,h32]<;>rfl,hM⟩)
  refine seg 1 9 [(15,vB (s==last))] (fc (ldm 9 1 0 hM rfl rfl) (fc (seq 9 s last) f0)) ?_;cases h33:(s==last)
  rotate_left
  ·refine mup 2 3 [(6,vB true),(25,.map (some bm)),(26,vS s),(27,vS s)] 145 3 (vS s) (vB true) (fc (ldm 145 2 0 hM rfl rfl) f0) hM rfl aEi u145_ (aE2 hs) λw1 hM=>?_;rw[aEc] at hM;refine stm 2 4 [] 9 1 0 (vS s) f0 hM rfl λw1 hM=>rt1 5 (vB true) rfl f0 (hZ _ _ ⟨by unfold aDV;simp only[h30,h33]<;>rfl,hM⟩)
  refine seg 1 13 [(19,vB (b.o.kind==3))] (fc (ldm 3 0 1 hM rfl rfl) f0) ?_;cases h34:(b.o.kind==3)
  ·refine mup 2 3 [(6,vB false),(25,.map (some bm)),(26,vS s),(27,vS s)] 145 3 (vS s) (vB true) (fc (ldm 145 2 0 hM rfl rfl) f0) hM rfl aEi u145_ (aE2 hs) λw1 hM=>?_;rw[aEc] at hM;refine stm 2 4 [] 9 1 0 (vS s) f0 hM rfl λw1 hM=>aAw 3 3 31 [(29,vB false),(30,vS s)] f0 hM (aA6 hs _) λw1 hM=>rt1 5 (vB (!(aBk s))) rfl f0 (hZ _ _ ⟨by unfold aDV;simp only[h30,h33,h34]<;>rfl,hM⟩)
  refine mup 2 3 [(6,vB (S.contains s)),(25,.map (some bm)),(26,vS s),(27,vS s)] 145 3 (vS s) (vB true) (fc (ldm 145 2 0 hM rfl rfl) (fc (rz2 (lk 145 3 (vS s) (vB false) hM rfl aEi u145_ (aE2 hs) (aUZ _)) (aIl S s)) (fc (ldm 145 2 0 hM rfl rfl) f0))) hM rfl aEi u145_ (aE2 hs) λw1 hM=>?_;rw[aEc] at hM;refine stm 2 4 [] 9 1 0 (vS s) f0 hM rfl λw1 hM=>seg 3 2 [(29,vB (S.contains s))] f0 ?_;cases h35:(S.contains s)
  ·refine aAw 3 3 31 [(30,vS s)] f0 hM (aA6 hs _) λw1 hM=>rt1 5 (vB (!(aBk s))) rfl f0 (hZ _ _ ⟨by unfold aDV;simp only[h30,h33,h34,h35]<;>rfl,hM⟩)
  exact rt1 5 (vB true) rfl f0 (hZ _ _ ⟨by unfold aDV;simp only[h30,h33,h34,h35]<;>rfl,hM⟩)
def aFM (o:Ob):Bool:=(List.range o.refs.length).all λi => !aGT o i
def aA1 (o:Ob):Bool:=(!(aDW o.kind==[]))&&aBk o.id&&aE5 o.tags&&(!decide ((o.refs.length:Int)<aGM o.kind))&&(!decide (2000<(o.refs.length:Int)))&&aFM o &&
  (bif o.kind==1 then((o.refs.length:Int)==0)&&onB o.x o.y else bif o.kind==5 then((o.refs.length:Int)==3)&&((o.x==0)&&(o.y==0)) else((o.x==0)&&(o.y==0)))
theorem aMM (h:(aDW k==[])=false):¬k<0/\¬6<=k:=by
  unfold aDW at h
  by_cases e:k<0\/6<=k
  · rw[if_pos e] at h;simp at h
  · exact⟨λz=>e (.inl z),λz=>e (.inr z)⟩
theorem aOq {L:List Bys}{x:Bys}(h:L[i]?=some x):((L.take (i+1)).getLast?.getD [])=x:=by rw[gt_ h];simp
theorem peq (T:TypeId)(a b c d:Int)(hT:T=29:=by rfl):Ft.ok Tryz.prog w (.g2 (λx y =>.binOp .eql T x y T) (.agg #[vI a,vI b]) (.agg #[vI c,vI d]) (vB ((a==c)&&(b==d)))):=λo ρ x y ho hx hy=>by
  subst hT;simp[execOp,ho,hx,hy,go_sem]
  by_cases h1:a=c<;>by_cases h2:b=d<;>simp[h1,h2]
theorem aTm {bo bl bs bm:Nat}{b:ObR}(hs:SrcB stL 1 w B b.pr b.cr b.o.refs)(hB:ObB b.o)(hG:∀k,G k->B<=k)(hGm:∀k,k=bo\/k=bl\/k=bs\/k=bm->G k)
    (hM:Mm G w w [bk bo (obL b).toArray 48,bk bl #[vS []] 9,bk bs #[.map (some bm)] 145,mp Tryz.prog 9 bm 0 (aLI [])]) :
    Calls Tryz.prog 96 #[vL b.pr b.o.refs.length b.cr,.func (.func 95) #[] #[vP bo 0,vP bl 0,vP bs 0]] w λe w'=>e=.returned (vB (!(aFM b.o)))/\∃n last S,Mm G w w' [bk bo (obL b).toArray 48,bk bl #[vS last] 9,bk bs #[.map (some bm)] 145,mp Tryz.prog 9 bm n (aLI S)]:=by
  refine(aPa hs hG (enters_of Tryz.func95 kR rfl) (λi w'=>Mm G w w' [bk bo (obL b).toArray 48,bk bl #[vS ((b.o.refs.take i).getLast?.getD [])] 9,bk bs #[.map (some bm)] 145,mp Tryz.prog 9 bm i (aLI (b.o.refs.take i))]) (aGT b.o) hM λi x w1 hx hq hI f1=>?_).mono λe w' h=>?_
  · refine(aJg (hB.refs x (gm hx)) (hI.re λe he k hk=>hGm k ?_)).mono λe w2 h=>⟨?_,?_,h.2.fr⟩
    · simp only[List.mem_cons,List.not_mem_nil,or_false] at he
      rcases he with rfl|rfl|rfl|rfl
      · exact .inl hk
      · exact .inr (.inl hk)
      · exact .inr (.inr (.inl hk))
      · exact .inr (.inr (.inr hk))
    · rw[h.1];unfold aGT;rw[hx]
    · have:=hI.tr h.2
      rw[aOq hx,gt_ hx];exact this
  · obtain⟨⟨z,h1,h2⟩,h3⟩:=h
    subst h1
    have key:∀i,i<b.o.refs.length->aGT b.o i=true->aFM b.o=false:=λi hi hw=>by
      unfold aFM;rw[<-Bool.not_eq_true,List.all_eq_true];intro h;have:=h i (List.mem_range.2 hi);rw[hw] at this;cases this
    cases h2 with
    | none hq hI=>exact⟨by
        rw[show aFM b.o=true from List.all_eq_true.2 λi hi=>by rw[hq i (List.mem_range.1 hi)];rfl];rfl,_,_,_,hI⟩
    | some i hi hw hq hI=>exact⟨by rw[key i hi hw,decide_eq_true oM];rfl,_,_,_,hI⟩
theorem aF2 {b:ObR}(hb:ObIn w b):Calls Tryz.prog 49 #[vA (obL b)] w λe w'=>e=.returned (vB (aA1 b.o))/\Fr nF_ w w':=by
  refine beg Tryz.func49 rfl rfl [(0,.agg (oY_ b))] rfl rfl λZ hZ=>?_;have hM:=Mm.nil nF_ w;refine aAu 0 0 1 [] (cs:=(oY_ b)) (T:=48) (v:=λb=>vP b 0) f0 hM λab w1 hM=>seg 1 0 [] f0 ?_;cases h37:((aDW b.o.kind)==[])
  rotate_left
  ·refine drc [(36,vB true)] hM (λw5 hM=>(fc (ldm 3 0 1 hM rfl rfl) (fc (tcl (aCD b.o.kind _)) (fc (rz (seq 9 (aDW b.o.kind) []) h37) f0)))) λw5 hM=>rt1 2 (vB false) rfl f0 (hZ _ _ ⟨by unfold aA1;simp only[h37]<;>rfl,hM.fr⟩)
  cases h38:(aBk b.o.id)
  ·refine drc [(36,vB true)] hM (λw5 hM=>(fc (ldm 3 0 1 hM rfl rfl) (fc (tcl (aCD b.o.kind _)) (fc (rz (seq 9 (aDW b.o.kind) []) h37) (fc (ldm 9 0 0 hM rfl rfl) (fc (rzc (tcl (aA6 hb.bnd.id _)) h38) f0)))))) λw5 hM=>rt1 2 (vB false) rfl f0 (hZ _ _ ⟨by unfold aA1;simp only[h37,h38]<;>rfl,hM.fr⟩)
  cases h39:(aE5 b.o.tags)
  ·refine drc [(36,vB true)] hM (λw5 hM=>(fc (ldm 3 0 1 hM rfl rfl) (fc (tcl (aCD b.o.kind _)) (fc (rz (seq 9 (aDW b.o.kind) []) h37) (fc (ldm 9 0 0 hM rfl rfl) (fc (rzc (tcl (aA6 hb.bnd.id _)) h38) (fc (ldm 46 0 5 hM rfl rfl) (fc (rzc (tcl (aBS (hb.tags.src.fr hM.fr) hb.bnd.tags)) h39) f0)))))))) λw5 hM=>rt1 2 (vB false) rfl f0 (hZ _ _ ⟨by unfold aA1;simp only[h37,h38,h39]<;>rfl,hM.fr⟩)
  cases h40:(decide ((b.o.refs.length:Int)<(aGM b.o.kind)))
  rotate_left
  ·refine drc [(36,vB true)] hM (λw5 hM=>(fc (ldm 3 0 1 hM rfl rfl) (fc (tcl (aCD b.o.kind _)) (fc (rz (seq 9 (aDW b.o.kind) []) h37) (fc (ldm 9 0 0 hM rfl rfl) (fc (rzc (tcl (aA6 hb.bnd.id _)) h38) (fc (ldm 46 0 5 hM rfl rfl) (fc (rzc (tcl (aBS (hb.tags.src.fr hM.fr) hb.bnd.tags)) h39) (fc (ldm 45 0 4 hM rfl rfl) (fc (ldm 3 0 1 hM rfl rfl) (fc (tcl (aFX b.o.kind (aMM h37).1 (aMM h37).2 _)) (fc (tv 29 h40) f0)))))))))))) λw5 hM=>rt1 2 (vB false) rfl f0 (hZ _ _ ⟨by unfold aA1;simp only[h37,h38,h39,h40]<;>rfl,hM.fr⟩)
  refine drc [(36,vB (decide (2000<(b.o.refs.length:Int))))] hM (λw5 hM=>(fc (ldm 3 0 1 hM rfl rfl) (fc (tcl (aCD b.o.kind _)) (fc (rz (seq 9 (aDW b.o.kind) []) h37) (fc (ldm 9 0 0 hM rfl rfl) (fc (rzc (tcl (aA6 hb.bnd.id _)) h38) (fc (ldm 46 0 5 hM rfl rfl) (fc (rzc (tcl (aBS (hb.tags.src.fr hM.fr) hb.bnd.tags)) h39) (fc (ldm 45 0 4 hM rfl rfl) (fc (ldm 3 0 1 hM rfl rfl) (fc (tcl (aFX b.o.kind (aMM h37).1 (aMM h37).2 _)) (fc (tv 29 h40) (fc (ldm 45 0 4 hM rfl rfl) f0))))))))))))) λw5 hM=>?_;cases h41:(decide (2000<(b.o.refs.length:Int)))
  rotate_left
  ·exact rt1 2 (vB false) rfl f0 (hZ _ _ ⟨by unfold aA1;simp only[h37,h38,h39,h40,h41]<;>rfl,hM.fr⟩)
  refine aOf 3 0 37 [] 9 f0 hM λaa w1 hM=>aBW 3 1 3 [] [] 145 (.map (some aa)) f0 hM λac w1 hM=>aBW 4 0 4 [] [] 9 (vS []) f0 hM λad w1 hM=>?_;have hM4:Mm nF_ w _ [bk ab (obL b).toArray 48,bk ad #[vS []] 9,bk ac #[.map (some aa)] 145,mp Tryz.prog 9 aa 0 (aLI [])]:=(hM.pick [0,3,2,1]).cast (by rw[aQc];rfl);refine cal 6 3 42 [(40,vL b.pr b.o.refs.length b.cr),(41,.func (.func 95) #[] #[vP ab 0,vP ad 0,vP ac 0])] (K:=λu w8=>u=vB (!(aFM b.o))/\∃n last S,Mm (BlM [bk ab (obL b).toArray 48,bk ad #[vS []] 9,bk ac #[.map (some aa)] 145,mp Tryz.prog 9 aa 0 (aLI [])]) _ w8 [bk ab (obL b).toArray 48,bk ad #[vS last] 9,bk ac #[.map (some aa)] 145,mp Tryz.prog 9 aa n (aLI S)]) (fc (ldm 45 0 4 hM rfl rfl) f0) ((aTm (hb.refs.b hM.fr) hb.bnd (λk ⟨e,he,hk⟩=>hM4.ge he hk) (λk h=>by rcases h with rfl|rfl|rfl|rfl;exact⟨_,.head _,rfl⟩;exact⟨_,.tail _ (.head _),rfl⟩;exact⟨_,.tail _ (.tail _ (.head _)),rfl⟩;exact⟨_,.tail _ (.tail _ (.tail _ (.head _))),rfl⟩) (hM4.re λe he k hk=>⟨e,he,hk⟩)).mono λe w9 h=>⟨_,h.1,rfl,h.2⟩) λu w1 ⟨hu,n1,l1,S1,hM5⟩=>?_;subst hu;have hM:=hM4.call (A:=[]) hM5 (λ_ _ h=>h);cases h45:(aFM b.o)
  ·exact rt1 2 (vB false) rfl f0 (hZ _ _ ⟨by unfold aA1;simp only[h37,h38,h39,h40,h41,h45]<;>rfl,hM.fr⟩)
  refine seg 9 2 [(44,vI b.o.kind),(45,vB (b.o.kind==1))] (fc (ldm 3 0 1 hM rfl rfl) f0) ?_;cases h46:(b.o.kind==1)
  rotate_left
  ·refine seg 10 5 [(51,vB ((b.o.refs.length:Int)==0))] (fc (ldm 45 0 4 hM rfl rfl) f0) ?_;cases h49:((b.o.refs.length:Int)==0)
   ·exact rt1 2 (vB false) rfl f0 (hZ _ _ ⟨by unfold aA1;simp only[h37,h38,h39,h40,h41,h45,h46,h49]<;>rfl,hM.fr⟩)
   refine aAw 10 7 54 [(53,.agg #[vI b.o.x,vI b.o.y])] (fc (lam 29 0 2 2 hM rfl) f0) hM (aQG b.o.x b.o.y _) λw1 hM=>rt1 2 (vB (onB b.o.x b.o.y)) rfl f0 (hZ _ _ ⟨by unfold aA1;simp only[h37,h38,h39,h40,h41,h45,h46,h49]<;>rfl,hM.fr⟩)
  refine seg 11 2 [(56,vB (b.o.kind==5))] f0 ?_;cases h47:(b.o.kind==5)
  ·exact rt1 2 (vB ((b.o.x==0)&&(b.o.y==0))) rfl (fc (lam 29 0 2 2 hM rfl) (fc (peq 29 b.o.x b.o.y 0 0) f0)) (hZ _ _ ⟨by unfold aA1;simp only[h37,h38,h39,h40,h41,h45,h46,h47]<;>rfl,hM.fr⟩)
  refine seg 12 5 [(62,vB ((b.o.refs.length:Int)==3))] (fc (ldm 45 0 4 hM rfl rfl) f0) ?_;cases h48:((b.o.refs.length:Int)==3)
  ·exact rt1 2 (vB false) rfl f0 (hZ _ _ ⟨by unfold aA1;simp only[h37,h38,h39,h40,h41,h45,h46,h47,h48]<;>rfl,hM.fr⟩)
  exact rt1 2 (vB ((b.o.x==0)&&(b.o.y==0))) rfl (fc (lam 29 0 2 2 hM rfl) (fc (peq 29 b.o.x b.o.y 0 0) f0)) (hZ _ _ ⟨by unfold aA1;simp only[h37,h38,h39,h40,h41,h45,h46,h47,h48]<;>rfl,hM.fr⟩)
def aJI:Bys->List Ob->Bool
  | _,[]=>true
  | k,o::l=>aA1 o&&blt k o.id&&aJI o.id l
def aAh (l:List Ob):Bool:=aJI [] l&&decide ((l.length:Int)<=1000000)
abbrev A20 (Z:Ending->World->Prop):=AtO Tryz.prog (aAv Tryz.f55) (aAI (bodyPost Tryz.prog Tryz.f55 Z)) [] 29
theorem aCB {l:List ObR}(hm:aCt w v l):Calls Tryz.prog 55 #[.agg #[v]] w λe w'=>e=.returned (vB (aAh (aAa l)))/\Fr nF_ w w':=by
  have hm0:=hm;obtain⟨hs0,hob⟩:=hm0;obtain⟨p0,cp0,hp0,sp0⟩:=hs0.op;subst hp0;have bp0:=sp0.bnd;refine beg Tryz.func55 rfl rfl [(0,.agg #[vL p0 l.length cp0])] rfl rfl λZ hZ=>?_;have hM:=Mm.nil nF_ w;refine aAu 0 0 1 [] (cs:=#[vL p0 l.length cp0]) (T:=24) (v:=λb=>vP b 0) f0 hM λb1 w1 hM=>seg 3 0 [(3,vS []),(7,vL p0 l.length cp0),(8,vI (l.length:Int)),(9,vI 0)] (fc (ldm 22 0 0 hM rfl rfl) f0) ?_
  have lp2:∀(m4:Nat)(i:Nat)(k:Bys)(w2:World),i<=l.length->aJI [] (aAa l)=aJI k ((aAa l).drop i)->Mm nF_ w w2 [bk b1 #[vL p0 l.length cp0] 24]->m4=l.length-i->A20 Z (some (3,0)) [(9,vI (i:Int)),(8,vI (l.length:Int)),(7,vL p0 l.length cp0),(3,vS k),(1,vP b1 0)] w2:=by
   refine aCh λm4 ih3 i k w2 hi hv hM hm4=>seg 3 1 [(10,vB (decide ((i:Int)<(l.length:Int))))] f0 ?_;cases h5:(decide ((i:Int)<(l.length:Int)))
   ·have rh5:=df h5;exact rt1 2 (vB (decide ((l.length:Int)<=1000000))) rfl (fc (ldm 22 0 0 hM rfl rfl) f0) (hZ _ _ ⟨by unfold aAh;rw[hv,List.drop_of_length_le (by rw[aAT];omega),aAT];rfl,hM.fr⟩)
   have rh5:=dt h5;obtain⟨y,hy,g6,o6,q6,r6⟩:=sp0.el (i:=i) oM;refine aBW 4 2 5 [(12,.agg (oY_ y))] [] 48 (.agg (oY_ y)) (fc (ix 22 cp0 q6 (gl hy)) (fc (la0 48 hM r6) f0)) hM λb7 w1 hM=>aAw 5 1 14 [(13,.agg (oY_ y))] (fc (lam 48 1 0 6 hM rfl) f0) hM (aF2 ((hob _ (gm hy)).fr hM.fr)) λw1 hM=>seg 5 4 [(16,vB (!(aA1 y.o)))] f0 ?_;cases h8:(aA1 y.o)
   ·exact rt1 2 (vB false) rfl f0 (hZ _ _ ⟨by unfold aAh;rw[hv,gd (aAK hy),aJI];simp only[h8]<;>rfl,hM.fr⟩)
   refine seg 5 9 [(21,vB (!(blt k y.o.id)))] (fc (ldm 9 1 0 hM rfl rfl) (fc (sle 9 y.o.id k) f0)) ?_;cases h9:(blt k y.o.id)
   ·exact rt1 2 (vB false) rfl f0 (hZ _ _ ⟨by unfold aAh;rw[hv,gd (aAK hy),aJI];simp only[h8,h9]<;>rfl,hM.fr⟩)
   refine seg 3 0 [(3,vS y.o.id),(9,vI ((i:Int)+1))] (fc (ldm 9 1 0 hM rfl rfl) (fc (aAP (i:Int) 1 u3_) f0)) (aAi _ (ih3 _ oM (i+1) y.o.id _ (gl hy) (by rw[hv,gd (aAK hy),aJI];simp only[h8,h9];rfl) (hM.pick [0]) rfl))
  exact aAi _ (lp2 _ 0 [] _ (Gg_ _) rfl hM rfl)
theorem aYp (v c:Value):(#[v]++#[c]:Array Value)=#[v,c]:=rfl
def aAr (l:List Ob)(id:Bys):Int:=match l.findIdx? (λo=>o.id==id) with
  | some i=>(i:Int)
  | none => -1
def aWb (l:List ObR)(id:Bys)(i:Nat):Bool:=match l[i]? with
  | some y=>y.o.id==id
  | none=>false
theorem aUe {l:List ObR}{id:Bys}{z:Int}(h:Fst l (aWb l id) I w z):z=aAr (aAa l) id:=by
  unfold aAr
  have hat:∀i (hi:i<l.length),aWb l id i=(((aAa l)[i]'(by rw[aAT];exact hi)).id==id):=λi hi=>by
    unfold aWb aAa;rw[Gb_ hi];simp
  cases h with
  | none hq _ =>
    rw[List.findIdx?_eq_none_iff.2 λo ho=>?_];obtain⟨i,hi,rfl⟩:=List.mem_iff_getElem.1 ho;have:=hq i (by rw[<-aAT];exact hi);rw[hat i (by rw[<-aAT];exact hi)] at this;exact this
  | some i hi hw hq _ =>
    rw[List.findIdx?_eq_some_iff_getElem.2 ⟨by rw[aAT];exact hi,by rw[<-hat i hi];exact hw,λj hj=>by rw[<-hat j oM,hq j hj];simp⟩]
theorem aJV {bi:Nat}{id:Bys}(b:ObR)(hc:w.heap[bi]?=some (.cells #[vS id] 9 (0,0))):Calls Tryz.prog 39 #[vA (obL b),vP bi 0] w λe w'=>e=.returned (vB (b.o.id==id))/\Fr nF_ w w':=by
  refine beg Tryz.func39 rfl rfl [(0,.agg (oY_ b)),(1,vP bi 0)] rfl rfl λZ hZ=>?_;have hM:=Mm.nil nF_ w;refine aAu 0 0 2 [] (cs:=(oY_ b)) (T:=48) (v:=λb=>vP b 0) f0 hM λaa w1 hM=>rt1 3 (vB (b.o.id==id)) rfl (fc (ldm 9 0 0 hM rfl rfl) (fc (ld0 9 hM (bx hc 0 rfl)) (fc (seq 9 b.o.id id) f0))) (hZ _ _ ⟨rfl,hM.fr⟩)
theorem aD6 {l:List ObR}(hm:aCt w v l)(id:Bys):Calls Tryz.prog 18 #[.agg #[v],vS id] w λe w'=>e=.returned (vI (aAr (aAa l) id))/\Fr nF_ w w':=by
  have hm0:=hm;obtain⟨hs0,hob⟩:=hm0;obtain⟨p0,cp0,hp0,sp0⟩:=hs0.op;subst hp0;refine beg Tryz.func18 rfl rfl [(0,.agg #[vL p0 l.length cp0]),(1,vS id)] rfl rfl λZ hZ=>?_;have hM:=Mm.nil nF_ w;refine aAu 0 0 2 [] (cs:=#[vL p0 l.length cp0]) (T:=24) (v:=λb=>vP b 0) f0 hM λab w1 hM=>aAu 0 1 3 [] (cs:=#[vS id]) (T:=9) (v:=λb=>vP b 0) f0 hM λaa w1 hM=>?_;have hc1:w1.heap[aa]?=some (.cells #[vS id] 9 (0,0)):=hM.get 1 rfl;refine cal 1 3 8 [(6,vL p0 l.length cp0),(7,.func (.func 39) #[] #[vP aa 0])] (K:=λu w8=>u=vI (aAr (aAa l) id)/\Fr nF_ _ w8) (fc (ldm 22 0 0 hM rfl rfl) f0) ((aMq (sp0.b hM.fr) (λ_ h=>h.elim) (enters_of Tryz.func39 kR rfl) (λ_ _=>True) (aWb l id) trivial (λi x w9 hx _ _ f9=>by rw[aYp];exact(aJV x (f9.obj hc1 (λz=>z))).mono λe w8 h=>⟨by rw[h.1];unfold aWb;rw[hx],trivial,h.2⟩)).mono λe w9 h=>⟨_,h.1.choose_spec.1,congrArg vI (aUe h.1.choose_spec.2),h.2⟩) λu w1 ⟨hu,f1⟩=>?_;subst hu;have hM:=hM.q f1;exact rt1 4 (vI (aAr (aAa l) id)) rfl f0 (hZ _ _ ⟨rfl,hM.fr⟩)
abbrev Pt:=Int×Int
def ptL (p:Pt):List Value:=[vI p.1,vI p.2]
def aA4 (p:Pt):Bool := !(decide (2097152<max p.1 p.2)) && !(decide (min p.1 p.2 < -2097152))
def aFi (a b:Pt):Int:=bif aA4 a&&aA4 b then(b.1-a.1)*(b.1-a.1)+(b.2-a.2)*(b.2-a.2) else 0
theorem aBc {p:Pt}(h:aA4 p=true) : -2097152<=p.1/\p.1<=2097152/\-2097152<=p.2/\p.2<=2097152:=by
  unfold aA4 at h;simp only[Ga_,Bool.not_eq_true',decide_eq_false_iff_not] at h;omega
theorem aEU {x:Int}(h1 : -4194304<=x)(h2:x<=4194304):0<=x*x/\x*x<=17592186044416:=by
  rcases Int.le_total 0 x with h|h
  · have a:=Int.mul_le_mul h2 h2 h oM
    have b:=Int.mul_nonneg h h;exact⟨b,by omega⟩
  · have a:=Int.mul_le_mul (a := -x) (b := -x) (c:=4194304) (d:=4194304) oM oM oM oM
    have b:=Int.mul_nonneg (a := -x) (b := -x) oM oM;rw[Int.neg_mul_neg] at a b;exact⟨b,by omega⟩
abbrev bAy (Z:Ending->World->Prop):=AtO Tryz.prog (aAv Tryz.f153) (aAI (bodyPost Tryz.prog Tryz.f153 Z)) [] 26
theorem aCI {p:Option Addr}{cap:Nat}{L:List Pt}(hs:SrcP ptL 2 w p cap L):Calls Tryz.prog 153 #[vL p L.length cap] w λe w'=>e=.returned (vB (L.all aA4))/\Fr nF_ w w':=by
  have bb:=hs.bnd;refine beg Tryz.func153 rfl rfl [(0,vL p L.length cap)] rfl rfl λZ hZ=>?_;have hM:=Mm.nil nF_ w;refine seg 2 0 [(5,vL p L.length cap),(6,vI (L.length:Int)),(7,vI 0)] f0 ?_
  have ab:∀(aa:Nat)(i:Nat)(w2:World),i<=L.length->L.all aA4=(L.drop i).all aA4->Mm nF_ w w2 []->aa=L.length-i->bAy Z (some (2,0)) [(7,vI (i:Int)),(6,vI (L.length:Int)),(5,vL p L.length cap)] w2:=by
   refine aCh λaa ac i w2 hi hv hM af=>seg 2 1 [(8,vB (decide ((i:Int)<(L.length:Int))))] f0 ?_;cases h16:(decide ((i:Int)<(L.length:Int)))
   ·have ad:=df h16;exact rt1 2 (vB true) rfl f0 (hZ _ _ ⟨by rw[hv,aHR oM],hM.fr⟩)
   have ad:=dt h16;obtain⟨y,hy,ag,ah,q17,ae⟩:=hs.el (i:=i) oM;refine aBW 3 2 4 [(10,.agg #[vI y.1,vI y.2])] [] 29 (.agg #[vI y.1,vI y.2]) (fc (ix 100 cap q17 (gl hy)) (fc (la0 29 hM ae) f0)) hM λai w1 hM=>seg 4 7 [(17,vB (decide (2097152<(max y.1 y.2))))] (fc (ldm 3 0 0 hM rfl rfl) (fc (ldm 3 0 1 hM rfl rfl) (fc (aVj 3 y.1 y.2) f0))) ?_;cases h19:(decide (2097152<(max y.1 y.2)))
   rotate_left
   ·exact rt1 2 (vB false) rfl f0 (hZ _ _ ⟨by rw[hv,aBs hy];unfold aA4;simp only[h19]<;>rfl,hM.fr⟩)
   refine seg 4 14 [(24,vB (decide ((min y.1 y.2)<(-2097152))))] (fc (ldm 3 0 0 hM rfl rfl) (fc (ldm 3 0 1 hM rfl rfl) (fc (aSS 3 y.1 y.2) f0))) ?_;cases h20:(decide ((min y.1 y.2)<(-2097152)))
   ·refine seg 2 0 [(7,vI ((i:Int)+1))] (fc (aAP (i:Int) 1 u3_) f0) (aAi _ (ac _ oM (i+1) _ (gl hy) (by rw[hv,aBs hy];unfold aA4;simp only[h19,h20];rfl) (hM.pick []) rfl))
   exact rt1 2 (vB false) rfl f0 (hZ _ _ ⟨by rw[hv,aBs hy];unfold aA4;simp only[h19,h20]<;>rfl,hM.fr⟩)
  exact aAi _ (ab _ 0 _ (Gg_ _) rfl hM rfl)
theorem aVR (j:Nat){w0:World}{F0:Nat->Prop}{M:List Ent}{b:Nat}{u:Value}(hM:Mm F0 w0 w M)(hj:M[j]?=some (bk b #[u,v] 240)):(Instr.loadAt 240 (vP b 0)).run Tryz.prog w=.ok (.agg #[u,v]) w:=aBi 240 j hM hj rfl
theorem aDZ {a b:Pt}(ha:aA4 a=true)(hb:aA4 b=true)(w:World):Calls Tryz.prog 157 #[.agg #[vI a.1,vI a.2],.agg #[vI b.1,vI b.2]] w λe w'=>e=.returned (.agg #[vI (b.1-a.1),vI (b.2-a.2)])/\Fr nF_ w w':=by
  refine beg Tryz.func157 rfl rfl [(0,.agg #[vI a.1,vI a.2]),(1,.agg #[vI b.1,vI b.2])] rfl rfl λZ hZ=>?_;have hM:=Mm.nil nF_ w;have⟨ha1,ha2,ha3,ha4⟩:=aBc ha;have⟨hb1,hb2,hb3,hb4⟩:=aBc hb;refine aAu 0 0 2 [] (cs:=#[vI a.1,vI a.2]) (T:=29) (v:=λb=>vP b 0) f0 hM λaa w1 hM=>aAu 0 1 3 [] (cs:=#[vI b.1,vI b.2]) (T:=29) (v:=λb=>vP b 0) f0 hM λab w1 hM=>aAu 0 2 4 [] (cs:=#[vI 0,vI 0]) (T:=240) (v:=λb=>vP b 0) f0 hM λac w1 hM=>stm 1 11 [(15,.agg #[vI (b.1-a.1),vI (b.2-a.2)])] 240 2 0 (.agg #[vI (b.1-a.1),vI (b.2-a.2)]) (fc (ldm 3 1 0 hM rfl rfl) (fc (ldm 3 0 0 hM rfl rfl) (fc (aGq b.1 a.1 u3_) (fc (ldm 3 1 1 hM rfl rfl) (fc (ldm 3 0 1 hM rfl rfl) (fc (aGq b.2 a.2 u3_) f0)))))) hM rfl λw1 hM=>rtc 4 240 rfl (aVR 2 hM rfl) f0 (hZ _ _ ⟨rfl,hM.fr⟩)
theorem aOM {x y:Int}(hx1 : -4194304<=x)(hx2:x<=4194304)(hy1 : -4194304<=y)(hy2:y<=4194304)(w:World):Calls Tryz.prog 158 #[.agg #[vI x,vI y],.agg #[vI x,vI y]] w λe w'=>e=.returned (vI (x*x+y*y))/\Fr nF_ w w':=by
  refine beg Tryz.func158 rfl rfl [(0,.agg #[vI x,vI y]),(1,.agg #[vI x,vI y])] rfl rfl λZ hZ=>?_;have hM:=Mm.nil nF_ w;have h1:=aEU hx1 hx2;have h2:=aEU hy1 hy2;refine aAu 0 0 2 [] (cs:=#[vI x,vI y]) (T:=240) (v:=λb=>vP b 0) f0 hM λaa w1 hM=>aAu 0 1 3 [] (cs:=#[vI x,vI y]) (T:=240) (v:=λb=>vP b 0) f0 hM λab w1 hM=>rt1 4 (vI ((x*x)+(y*y))) rfl (fc (ldm 3 0 0 hM rfl rfl) (fc (ldm 3 1 0 hM rfl rfl) (fc (aIe x x u3_) (fc (ldm 3 0 1 hM rfl rfl) (fc (ldm 3 1 1 hM rfl rfl) (fc (aIe y y u3_) (fc (aAP (x*x) (y*y) u3_) f0))))))) (hZ _ _ ⟨rfl,hM.fr⟩)
theorem aTa {f:α->List Value}{c:Nat}{b:Nat}{x y:α}{T:TypeId}(hf:∀x,(f x).length=c)(hc:0<c)(hb:w.heap[b]?=some (.cells ((f x)++(f y)).toArray T (0,0))):SrcP f c w (some ⟨b,0,none⟩) 2 [x,y] :=
  ⟨Gj_ _,by omega,.inr ⟨b,0,rfl,aAf hb,λi z hz j u hu=>by
    rw[aAj hb];have hj:=(List.getElem?_eq_some_iff.1 hu).1;rw[hf] at hj
    match i,hz with
    | 0,hz =>
      simp at hz;subst hz;rw[Nat.zero_mul,Nat.zero_add,<-Array.getElem?_toList];rw[List.getElem?_append_left (by rw[hf];exact hj)];exact hu
    | 1,hz =>
      simp at hz;subst hz;rw[Nat.one_mul,Nat.zero_add,<-Array.getElem?_toList];rw[List.getElem?_append_right (by rw[hf];omega),hf,Nat.add_sub_cancel_left];exact hu
    | i+2,hz=>simp at hz⟩,λh=>by cases h⟩
theorem aGO (a b:Pt)(w:World):Calls Tryz.prog 159 #[.agg #[vI a.1,vI a.2],.agg #[vI b.1,vI b.2]] w λe w'=>e=.returned (vI (aFi a b))/\Fr nF_ w w':=by
  refine beg Tryz.func159 rfl rfl [(0,.agg #[vI a.1,vI a.2]),(1,.agg #[vI b.1,vI b.2])] rfl rfl λZ hZ=>?_;have hM:=Mm.nil nF_ w;refine aAu 0 0 2 [] (cs:=#[vI a.1,vI a.2]) (T:=29) (v:=λb=>vP b 0) f0 hM λaa w1 hM=>aAu 0 1 3 [] (cs:=#[vI b.1,vI b.2]) (T:=29) (v:=λb=>vP b 0) f0 hM λab w1 hM=>aAu 1 2 8 [(6,.agg #[vI a.1,vI a.2]),(7,.agg #[vI b.1,vI b.2])] (cs:=#[vI a.1,vI a.2,vI b.1,vI b.2]) (T:=29) (v:=λb=>vL (some ⟨b,0,none⟩) 2 2) (fc (lam 29 0 0 2 hM rfl) (fc (lam 29 1 0 2 hM rfl) f0)) hM λac w1 hM=>aAw 1 3 9 [] f0 hM ((aCI (aTa (f:=ptL) (x:=a) (y:=b) (λ_=>rfl) oM (hM.get 2 rfl)))) λw1 hM=>seg 1 5 [(10,vB (!([a,b].all aA4)))] f0 ?_;cases h29:([a,b].all aA4)
  ·exact rt1 4 (vI 0) rfl f0 (hZ _ _ ⟨by unfold aFi;rw[show(aA4 a&&aA4 b)=false by have:=h29;simpa using this];rfl,hM.fr⟩)
  have ha:aA4 a=true:=by have:=List.all_eq_true.1 h29 a (.head _);exact this
  have hb:aA4 b=true:=by have:=List.all_eq_true.1 h29 b (.tail _ (.head _));exact this
  have⟨ha1,ha2,ha3,ha4⟩:=aBc ha;have⟨hb1,hb2,hb3,hb4⟩:=aBc hb;refine aAw 3 2 13 [(11,.agg #[vI a.1,vI a.2]),(12,.agg #[vI b.1,vI b.2])] (fc (lam 29 0 0 2 hM rfl) (fc (lam 29 1 0 2 hM rfl) f0)) hM (aDZ ha hb _) λw1 hM=>aBW 3 3 5 [] [] 240 (.agg #[vI (b.1-a.1),vI (b.2-a.2)]) f0 hM λad w1 hM=>aAw 4 2 16 [(14,.agg #[vI (b.1-a.1),vI (b.2-a.2)]),(15,.agg #[vI (b.1-a.1),vI (b.2-a.2)])] (fc (lam 240 3 0 2 hM rfl) (fc (lam 240 3 0 2 hM rfl) f0)) hM (aOM (x:=b.1-a.1) (y:=b.2-a.2) oM oM oM oM _) λw1 hM=>rt1 4 (vI ((b.1-a.1)*(b.1-a.1)+(b.2-a.2)*(b.2-a.2))) rfl f0 (hZ _ _ ⟨by unfold aFi;rw[ha,hb];rfl,hM.fr⟩)
end Go.Proofs.YtngjlnhojicjeaaGreatDoor
namespace Go.Pl
open Go.RowKit
variable{B:Code}{ds:List Deferred}{w:World}
section
variable{P:Program}{R:Pst}{n:Nat}{p:Option (Nat×Nat)}{L N:Frm}{r r' i':Nat}{F:List Ft}
end
variable{F:Lts->List Ft}{F0:Nat->Prop}{rd:Option Nat}{V:Lts->List (Option Value)}{Mf:Lts->List Bool->List Ent}
section
variable{P:Program}{w0:World}{r n:Nat}{L:Frm}{ef:List Nat}
theorem aAO (p i d:Nat){f:FuncId}(args:Lts->Array Value)(v:Value)
  (hc:∀γ fr wm,Mm F0 w0 wm (Mf γ (flg B r ef i fr))->Calls P f (args γ) wm λx w'=>x=.returned v/\Fr nF_ wm w')
  (hm:∀γ fr,Mf γ (flg B r ef i fr)=Mf (aBK γ p v) ((flg B r ef i fr).set p true):=by intro γ fr;kernel_rfl)
  (hV:∀γ,((V (aBK γ p v))[p]?).getD none=some v:=by intro γ;rfl)
  (hs:∀γ wm,enL P wm (aA9 B r) i (frX P w n B r L ef V F i γ)=some (f,args γ,some d,wm):=by intro γ wm;kernel_rfl):Arm rd P w n B r L ef V F ds F0 w0 Mf p i:=by
 intro γ fr a wm Q o ho En hw hM;obtain⟨h1,h2⟩:=aIG ho En (hs γ wm);refine aCA (R:=λu w'=>u=v/\Fr nF_ wm w') h1 ((hc γ fr wm hM).mono λx w' ⟨g1,g2⟩=>⟨v,g1,rfl,g2⟩) λu w' ⟨hu,g1⟩=>?_;subst hu;have hM':=hM.q g1;rw[hm] at hM';exact⟨u,γ.e p,by rw[aAy,hV,h2];rfl,by rw[aAy];exact hM'⟩
end
section
variable{P:Program}{w0:World}{r n:Nat}{L:Frm}{ef:List Nat}
end
section
variable{P:Program}{w0:World}{r n:Nat}{L:Frm}{ef:List Nat}
theorem aPr (p i d:Nat){f:FuncId}(args:Lts->Array Value)(n0 c0:Nat)
  (hc:∀γ fr wm,Mm F0 w0 wm (Mf γ (flg B r ef i fr))->Calls P f (args γ) wm λx w'=>∃q,x=.returned (vL q n0 c0)/\Fr nF_ wm w')
  (hm:∀γ fr q,Mf γ (flg B r ef i fr)=Mf (aBK γ p (vL q n0 c0)) ((flg B r ef i fr).set p true):=by intro γ fr q;kernel_rfl)
  (hV:∀γ q,((V (aBK γ p (vL q n0 c0)))[p]?).getD none=some (vL q n0 c0):=by intro γ q;rfl)
  (hs:∀γ wm,enL P wm (aA9 B r) i (frX P w n B r L ef V F i γ)=some (f,args γ,some d,wm):=by intro γ wm;kernel_rfl):Arm rd P w n B r L ef V F ds F0 w0 Mf p i:=by
 intro γ fr a wm Q o ho En hw hM;obtain⟨h1,h2⟩:=aIG ho En (hs γ wm);refine aCA (R:=λu w'=>∃q,u=vL q n0 c0/\Fr nF_ wm w') h1 ((hc γ fr wm hM).mono λx w' ⟨q,g1,g2⟩=>⟨_,g1,q,rfl,g2⟩) λu w' ⟨q,hu,g1⟩=>?_;subst hu;have hM':=hM.q g1;rw[hm γ fr q] at hM';exact⟨vL q n0 c0,γ.e p,by rw[aAy,hV,h2];rfl,by rw[aAy];exact hM'⟩
end
end Go.Pl
namespace Go.Proofs.YtngjlnhojicjeaaGreatDoor
open Go.RowKit Go.Pl
theorem aRt (a b c d:Int)(w:World):(Go.binOp .eql 29 (.agg #[vI a,vI b]) (.agg #[vI c,vI d])).run Tryz.prog w=.ok (.bool ((a==c)&&(b==d))) w:=by
 have u3:=u3_;have hS:Tryz.prog.underlying 29=some (.struct (Tryz.prog.fieldsOf 29)):=by kernel_rfl
 have hp:Tryz.prog.stoodInHeld 29=false:=by kernel_rfl
 rw[run_eql_struct,show(10000:Nat)=9999+1 from rfl,run_equalIn_agg w 9999 29 _ _ hS hp];simp only[Program.fieldsOf,u29_]
 go_simp
 by_cases h1:a=c<;>by_cases h2:b=d<;>simp[h1,h2]
variable{w:World}
theorem aSz (a b c d:Int) :Ft.ok Tryz.prog w (.g2 (λx y =>.binOp .eql 29 x y 29) (.agg #[vI a,vI b]) (.agg #[vI c,vI d]) (vB ((a==c)&&(b==d)))):=λo ρ x y ho hx hy=>by
 have hm:Tryz.prog.eqGuardType Tryz.prog.depth 29=false:=by kernel_rfl
 simp only[execOp,ho,hx,hy,Sem.run_bind,run_eqGuard_agg w _ 29 _ _ _ _ hm,Result.andThen_ok,aRt,Sem.run_pure]
abbrev v64 (a:Nat):Value := .int .u64 (a:Int)
variable{a:Nat}
theorem aDK (h:a<18446744073709551616):IntKind.u64.wrap (a:Int)=a:=by
  show(a:Int)%_=a;exact Int.emod_eq_of_lt oM (by show(a:Int)<18446744073709551616;omega)
theorem aKn {b:Nat}(ha:a<18446744073709551616)(hb:b<18446744073709551616):bits BinOp.or IntKind.u64 (a:Int) (b:Int)=((a ||| b:Nat):Int):=by
  have h:a ||| b<2 ^ 64:=Nat.or_lt_two_pow ha hb;have h2:(BitVec.ofNat 64 a ||| BitVec.ofNat 64 b:BitVec 64).toNat=a ||| b:=by rw[BitVec.toNat_or,BitVec.toNat_ofNat,BitVec.toNat_ofNat,Nat.mod_eq_of_lt ha,Nat.mod_eq_of_lt hb]
  have h3:((BitVec.ofNat 64 a ||| BitVec.ofNat 64 b:BitVec 64).toNat:Int)%18446744073709551616=((a ||| b:Nat):Int):=by rw[h2];omega
  simp[bits,IntKind.wrap,IntKind.bits,IntKind.signed];exact h3
theorem aLz {b:Nat}(ha:a<18446744073709551616)(hb:b<18446744073709551616):bits BinOp.and IntKind.u64 (a:Int) (b:Int)=((a &&& b:Nat):Int):=by
  have h:a &&& b<2 ^ 64:=Nat.and_lt_two_pow a hb;have h2:(BitVec.ofNat 64 a &&& BitVec.ofNat 64 b:BitVec 64).toNat=a &&& b:=by rw[BitVec.toNat_and,BitVec.toNat_ofNat,BitVec.toNat_ofNat,Nat.mod_eq_of_lt ha,Nat.mod_eq_of_lt hb]
  have h3:((BitVec.ofNat 64 a &&& BitVec.ofNat 64 b:BitVec 64).toNat:Int)%18446744073709551616=((a &&& b:Nat):Int):=by rw[h2];omega
  simp[bits,IntKind.wrap,IntKind.bits,IntKind.signed];exact h3
theorem or4 (a x:Nat)(h:x<4):4*a ||| x=4*a+x:=by
  have:=Nat.two_pow_add_eq_or_of_lt (i:=2) h a;rw[show 2 ^ 2*a=4*a by omega] at this;exact this.symm
theorem or2 (a:Nat):2*a ||| 1=2*a+1:=by
  have:=Nat.two_pow_add_eq_or_of_lt (i:=1) (show 1<2 ^ 1 by omega) a;rw[show 2 ^ 1*a=2*a by omega] at this;exact this.symm
section
theorem aXf (a:Nat)(h:a<4611686018427387904):Ft.ok Tryz.prog w (.g2 (λx y =>.binOp .shl 164 x y 139) (v64 a) (.int .u64 2) (v64 (4*a))):=λo ρ x y ho hx hy=>by
  simp[execOp,ho,hx,hy,go_sem];have:=aDK (a:=a*4) oM;rw[show((a:Int)*4)=((a*4:Nat):Int) by omega,this];omega
theorem aVe (a:Nat)(h:a<9223372036854775808):Ft.ok Tryz.prog w (.g2 (λx y =>.binOp .shl 164 x y 139) (v64 a) (.int .u64 1) (v64 (2*a))):=λo ρ x y ho hx hy=>by
  simp[execOp,ho,hx,hy,go_sem];have:=aDK (a:=a*2) oM;rw[show((a:Int)*2)=((a*2:Nat):Int) by omega,this];omega
theorem aZf (a x:Nat)(h:a<4611686018427387904)(hx4:x<4):Ft.ok Tryz.prog w (.g2 (λx y =>.binOp .or 164 x y 164) (v64 (4*a)) (v64 x) (v64 (4*a+x))):=λo ρ y z ho hx hy=>by
  have:=aKn (a:=4*a) (b:=x) oM oM;rw[or4 a x hx4] at this;simp only[execOp,ho,hx,hy];simp[go_sem];simpa using this
theorem aY4 (a:Nat)(h:a<4611686018427387904):Ft.ok Tryz.prog w (.g2 (λx y =>.binOp .or 164 x y 164) (v64 (2*a)) (.int .u64 1) (v64 (2*a+1))):=λo ρ y z ho hx hy=>by
  have:=aKn (a:=2*a) (b:=1) oM oM;rw[or2] at this;simp only[execOp,ho,hx,hy];simp[go_sem];simpa using this
theorem aXk (a:Nat)(h:a<9223372036854775808):Ft.ok Tryz.prog w (.g2 (λx y =>.binOp .and 164 x y 164) (v64 a) (.int .u64 3) (v64 (a%4))):=λo ρ y z ho hx hy=>by
  have:=aLz (a:=a) (b:=3) oM oM;rw[show a &&& 3=a%4 from Nat.and_two_pow_sub_one_eq_mod a 2] at this;simp only[execOp,ho,hx,hy];simp[go_sem];simpa using this
theorem aZc (a k:Nat)(h:k<64){z:Int}(hz:z=(k:Int)):Ft.ok Tryz.prog w (.g2 (λx y =>.binOp .shr 164 x y 3) (v64 a) (vI z) (v64 (a / 2 ^ k))):=λo ρ x y ho hx hy=>by
  subst hz;simp[execOp,ho,hx,hy,go_sem]
theorem aZb (a b:Nat)(h:b<=a)(ha:a<18446744073709551616):Ft.ok Tryz.prog w (.g2 (λx y =>.binOp .sub 164 x y 164) (v64 a) (v64 b) (v64 (a-b))):=λo ρ x y ho hx hy=>by
  have:=aDK (a:=a-b) oM;rw[show((a-b:Nat):Int)=(a:Int)-b by omega] at this;simp[execOp,ho,hx,hy,go_sem,u164_,this];omega
theorem aY2 (a:Nat)(h:a<9223372036854775808):Ft.ok Tryz.prog w (.g1 (.convert 3 164) (vI (a:Int)) (v64 a)):=λo ρ x ho hx=>by
  simp[execOp,ho,hx,go_sem,aDK (a:=a) oM]
theorem aXg (a:Nat)(h:a<9223372036854775808):Ft.ok Tryz.prog w (.g1 (.convert 164 3) (v64 a) (vI (a:Int))):=λo ρ x ho hx=>by
  simp[execOp,ho,hx,go_sem,IntWalk.i64_in (a:Int) ⟨by omega,by omega⟩]
end
def aC3:Nat->Nat
  | 0=>0
  | n+1=>if(aC3 n+1)*(aC3 n+1)<=n+1 then aC3 n+1 else aC3 n
theorem aHp:∀n,aC3 n*aC3 n<=n/\n<(aC3 n+1)*(aC3 n+1)
  | 0=>by simp[aC3]
  | n+1=>by
    obtain⟨h1,h2⟩:=aHp n;unfold aC3
    split
    · rename_i h
      refine⟨h,?_⟩;have e:(aC3 n+1+1)*(aC3 n+1+1)=(aC3 n+1)*(aC3 n+1)+2*aC3 n+3:=by grind
      omega
    · rename_i h;omega
theorem aVt {b:Nat}(h:a<b):(a+1)*(a+1)<=b*b:=Nat.mul_le_mul h h
theorem aN8 {n r:Nat}(h1:r*r<=n)(h2:n<(r+1)*(r+1)):aC3 n=r:=by
  obtain⟨g1,g2⟩:=aHp n;rcases Nat.lt_trichotomy (aC3 n) r with h|h|h
  · exact absurd (Nat.lt_of_lt_of_le g2 (Gn_ (aVt h) h1)) (Nat.lt_irrefl _)
  · exact h
  · exact absurd (Nat.lt_of_lt_of_le h2 (Gn_ (aVt h) g1)) (Nat.lt_irrefl _)
def aAN (n:Int):Int:=bif decide (n<0) then 0 else(aC3 n.toNat:Int)
structure RtAt (n i root rest:Nat):Prop where
  sq:root*root+rest=n / 4 ^ (32-i)
  le:rest<=2*root
  lt:root<2 ^ i
variable{i:Nat}
theorem aXH (hi:i<32):(2:Nat) ^ (62-2*i)=4 ^ (31-i):=by
  rw[show(4:Nat)=2 ^ 2 by rfl,<-Nat.pow_mul];congr 1;omega
theorem dig {n:Nat}(hi:i<32):n / 4 ^ (32-(i+1))=4*(n / 4 ^ (32-i))+n / 2 ^ (62-2*i)%4:=by
  rw[aXH hi,show 32-(i+1)=31-i by omega,show 32-i=(31-i)+1 by omega,Nat.pow_succ,<-Nat.div_div_eq_div_mul];omega
variable{root:Nat}
theorem aXB (hi:i<=32)(h:root<2 ^ i):root<4294967296:=Nat.lt_of_lt_of_le h (Gn_ (Nat.pow_le_pow_right oM hi) dE)
variable{rest:Nat}
theorem RtAt.up {n:Nat}(h:RtAt n i root rest)(hi:i<32)(hc:2*(2*root)+1<=4*rest+n / 2 ^ (62-2*i)%4):RtAt n (i+1) (2*root+1) (4*rest+n / 2 ^ (62-2*i)%4-(2*(2*root)+1)):=by
  obtain⟨h1,h2,h3⟩:=h;refine⟨?_,by omega,by rw[Nat.pow_succ];omega⟩;rw[dig hi,<-h1];have e:(2*root+1)*(2*root+1)=4*(root*root)+4*root+1:=by grind
  omega
theorem RtAt.st {n:Nat}(h:RtAt n i root rest)(hi:i<32)(hc:¬2*(2*root)+1<=4*rest+n / 2 ^ (62-2*i)%4):RtAt n (i+1) (2*root) (4*rest+n / 2 ^ (62-2*i)%4):=by
  obtain⟨h1,h2,h3⟩:=h;refine⟨?_,by omega,by rw[Nat.pow_succ];omega⟩;rw[dig hi,<-h1];have e:(2*root)*(2*root)=4*(root*root):=by grind
  omega
theorem RtAt.ok {n:Nat}(h:RtAt n 32 root rest):aC3 n=root:=by
  obtain⟨h1,h2,h3⟩:=h;rw[Nat.sub_self,Nat.pow_zero,Nat.div_one] at h1;have e:(root+1)*(root+1)=root*root+2*root+1:=by grind
  exact aN8 oM oM
theorem RtAt.zero {n:Nat}(h:n<9223372036854775808):RtAt n 0 0 0:=⟨by rw[Nat.div_eq_of_lt (Nat.lt_of_lt_of_le h dE)],by omega,by simp⟩
abbrev bAz (Z:Ending->World->Prop):=AtO Tryz.prog (aAv Tryz.f60) (aAI (bodyPost Tryz.prog Tryz.f60 Z)) [] 38
theorem aGF (m:Int)(hm:m<=9223372036854775807)(w:World):Calls Tryz.prog 60 #[vI m] w λe w'=>e=.returned (vI (aAN m))/\Fr nF_ w w':=by
  refine beg Tryz.func60 rfl rfl [(0,vI m)] rfl rfl λZ hZ=>?_;have hM:=Mm.nil nF_ w;refine seg 2 2 [(3,.int .u64 0),(4,.int .u64 0),(8,vB (decide (m<0)))] f0 ?_;cases h1:(decide (m<0))
  rotate_left
  ·have rh1:=dt h1;exact rt1 2 (vI 0) rfl f0 (hZ _ _ ⟨by unfold aAN;rw[h1];rfl,hM.fr⟩)
  have rh1:=df h1;obtain⟨n,rfl⟩:∃n:Nat,m=(n:Int):=⟨m.toNat,by omega⟩;have hn:n<9223372036854775808:=by omega
  refine seg 5 0 [(9,vI 0)] f0 ?_
  have lp2:∀(m4:Nat)(i:Nat)(root:Nat)(rest:Nat)(w2:World),i<=32->RtAt n i root rest->Mm nF_ w w2 []->m4=32-i->bAz Z (some (5,0)) [(9,vI (i:Int)),(4,.int .u64 ((rest:Nat):Int)),(3,.int .u64 ((root:Nat):Int)),(0,vI (n:Int))] w2:=by
   refine aCh λm4 ih3 i root rest w2 hi hr hM hm4=>?_;have hrl:=aXB hi hr.lt;have hrs:=hr.le;have hd4:n / 2 ^ (62-2*i)%4<4:=Nat.mod_lt _ oM;refine seg 5 1 [(10,vB (decide ((i:Int)<32)))] f0 ?_;cases h5:(decide ((i:Int)<32))
   ·have rh5:=df h5;exact rt1 2 (vI ((root:Nat):Int)) rfl (fc (aXg root oM) f0) (hZ _ _ ⟨by unfold aAN;rw[h1];rw[show i=32 by omega] at hr;rw[<-hr.ok];rfl,hM.fr⟩)
   have rh5:=dt h5;refine seg 10 3 [(4,.int .u64 ((4*rest+n / 2 ^ (62-2*i)%4:Nat):Int)),(3,.int .u64 ((2*root:Nat):Int)),(6,.int .u64 ((2*(2*root)+1:Nat):Int)),(29,vB (decide (((2*(2*root)+1:Nat):Int)<=((4*rest+n / 2 ^ (62-2*i)%4:Nat):Int))))] (fc (aXf rest oM) (fc (aY2 n hn) (fc (aIe 2 (i:Int) u3_) (fc (aGq 62 (2*(i:Int)) u3_) (fc (aZc n (62-2*i) (z:=(62-(2*(i:Int)))) oM oM) (fc (aXk (n / 2 ^ (62-2*i)) (Nat.lt_of_le_of_lt (Nat.div_le_self _ _) hn)) (fc (aZf rest (n / 2 ^ (62-2*i)%4) oM (Nat.mod_lt _ oM)) (fc (aVe root oM) (fc (aVe (2*root) oM) (fc (aY4 (2*root) oM) f0)))))))))) ?_;cases h6:(decide (((2*(2*root)+1:Nat):Int)<=((4*rest+n / 2 ^ (62-2*i)%4:Nat):Int)))
   ·have rh6:=df h6;refine seg 5 0 [(9,vI ((i:Int)+1))] (fc (aAP (i:Int) 1 u3_) f0) (aAi _ (ih3 _ oM (i+1) _ _ _ oM (hr.st oM oM) hM rfl))
   have rh6:=dt h6;refine seg 5 0 [(4,.int .u64 ((4*rest+n / 2 ^ (62-2*i)%4-(2*(2*root)+1):Nat):Int)),(3,.int .u64 ((2*root+1:Nat):Int)),(9,vI ((i:Int)+1))] (fc (aZb (4*rest+n / 2 ^ (62-2*i)%4) (2*(2*root)+1) oM oM) (fc (aY4 root oM) (fc (aAP (i:Int) 1 u3_) f0))) (aAi _ (ih3 _ oM (i+1) _ _ _ oM (hr.up oM oM) hM rfl))
  exact aAi _ (lp2 _ 0 0 0 _ (Gg_ _) (RtAt.zero hn) hM rfl)
def aT1 (l:List Ob)(id:Bys):Option Pt:=l.foldl (λr o=>bif (o.kind==1)&&(o.id==id) then some (o.x,o.y) else r) none
def aWa (l:List Ob)(id:Bys):Bool:=(aT1 l id).isSome
def aZa (N:Bys->Bool)(l:List ObR)(id:Bys):Option ObR:=l.foldl (λr b=>bif ((b.o.kind==2)&&b.o.refs.all N)&&(b.o.id==id) then some b else r) none
abbrev rfV (b:ObR):Value:=vL b.pr b.o.refs.length b.cr
end Go.Proofs.YtngjlnhojicjeaaGreatDoor
namespace Go.Pl
open Go.RowKit
variable{B:Code}{F:List Ft}{F0:Nat->Prop}{M:List Ent}{fn:Func}{Φ:Ending->World->Prop}
section
variable{P:Program}{n:Nat}{p:Option (Nat×Nat)}{L:Frm}{w w0:World}
end
section
variable{P:Program}{R:Pst}{ds:List Deferred}{n:Nat}{p:Option (Nat×Nat)}{L:Frm}{w w0:World}{A Ms:List Ent}
theorem opp (r' i' d:Nat)(N:Frm){v:Value}(hF:aBg P w F)(k:AtO P B R ds n (some (r',i'+1)) ((d,v)::(N++L)) w)(h:(lhs (go P w n B p L r' i' F) N L,aME P w n L (go P w n B p L r' i' F))=(rhs (go P w n B p L r' i' F) N B r' i',some (d,.ok (.value v,w))):=by kernel_rfl):AtO P B R ds n p L w:=opx r' i' d N hF k h
end
section
variable{P:Program}{n:Nat}{p:Option (Nat×Nat)}{L:Frm}{w w0:World}{t2 t3 t4 T2 T3 T4 b2 b3 b4:Nat}{v2 v3 v4:Value}
end
end Go.Pl
namespace Go.Proofs.YtngjlnhojicjeaaGreatDoor
open Go.RowKit Go.Pl
abbrev Arc:=Bys×Bys×Bys×Int
def aSD (l:List Ob)(a b:Bys):Int:=max 1 (aAN (aFi ((aT1 l a).getD (0,0)) ((aT1 l b).getD (0,0))))
def aY8 (l:List Ob)(w:Bys):List Bys->List Arc
 | a::b::t=>(a,b,w,aSD l a b)::(b,a,w,aSD l a b)::aY8 l w (b::t)
 | _=>[]
def aYj (os:List ObR)(b:ObR):List Arc:=bif b.o.kind==2 then(match aZa (aWa (aAa os)) os b.o.id with|some c=>aY8 (aAa os) b.o.id c.o.refs|none=>[]) else[]
def aYi (os:List ObR):List Arc:=os.flatMap (aYj os)
def aZx (l:List Arc):List Arc:=l.foldl (λr a=>bif r.contains a then r else r++[a]) []
theorem aMR {a b:Bys}(h:vS a=vS b):a=b:=by
 have h2:ofL a=ofL b:=Value.string.inj h;rw[<-aAF a,h2,aAF]
def arL (a:Arc):List Value:=[vS a.1,vS a.2.1,vS a.2.2.1,vI a.2.2.2]
structure ArcB (a:Arc):Prop where
 f1:B63 a.1
 f2:B63 a.2.1
 f3:B63 a.2.2.1
 pos:1<=a.2.2.2
 lt:a.2.2.2<4294967296
variable{α:Type}
section
abbrev Res (α β:Type):=Except (Int×α) β
def aUQ (k:Int)(xs:List Bys):List (Tok α)->Bool
  | []=>false
  | t::_=>t.1==k&&(xs.isEmpty||xs.contains t.2.1)
def take (en:α)(k:Int)(xs:List Bys)(ts:List (Tok α)):Res α (Tok α×List (Tok α)) :=
  match ts with
  | [] =>.error (6,en)
  | t::l=>if aUQ k xs (t::l) then .ok (t,l) else .error (5,t.2.2)
def aUR (t:Bys):Int:=t.foldl (λn b=>10*n+((b.toNat:Int)-48)) 0
def aW2:Bys:=[58]
def aW1:Bys:=[45]
def aS7:Bys:=[44]
def aYR:List Bys:=[[109,111],[116,117],[119,101],[116,104],[102,114],[115,97],[115,117]]
def aWE:Bys:=[97,108,119,97,121,115]
def aXN:Bys:=[110,101,118,101,114]
def clock (en:α)(most:Int)(ts:List (Tok α)):Res α ((Int×α)×List (Tok α)) :=
  match take en 2 [] ts with
  | .error e =>.error e
  | .ok (h,ts) =>
    if aUR h.2.1>most then .error (10,h.2.2)
    else match take en 4 [aW2] ts with
      | .error e =>.error e
      | .ok (_,ts)=>match take en 2 [] ts with
        | .error e =>.error e
        | .ok (m,ts) =>
          if m.2.1.length != 2||aUR m.2.1>59||(aUR h.2.1==24&&aUR m.2.1>0) then .error (10,m.2.2)
          else .ok ((60*aUR h.2.1+aUR m.2.1,h.2.2),ts)
def aYU (f t:Int):List Sp:=if t>10080 then[(f,min t 10080),(0,t-10080)] else[(f,min t 10080)]
def bAb (f n a b:Int):List Sp:=(List.range n.toNat).flatMap λ(i:Nat)=>aYU ((f+(i:Int)).tmod 7*1440+a) ((f+(i:Int)).tmod 7*1440+b)
def aZj (en:α)(f t:Int)(ts:List (Tok α)):Res α (List Sp×List (Tok α)) :=
  match clock en 23 ts with
  | .error e =>.error e
  | .ok ((a,_),ts)=>match take en 4 [aW1] ts with
    | .error e =>.error e
    | .ok (_,ts)=>match clock en 24 ts with
      | .error e =>.error e
      | .ok ((b,at_),ts) =>
        if a==b then .error (10,at_) else .ok (bAb f ((t-f+7).tmod 7+1) a (if b<a then b+1440 else b),ts)
def aZz:List (Tok α)->Bool
  | t::u::l=>aUQ 4 [aS7] (t::u::l)&&u.1==2
  | _=>false
def aVk (en:α)(f t:Int):Nat->List (Tok α)->Res α (List Sp×List (Tok α))
  | 0,_ =>.error (6,en)
  | n+1,ts=>match aZj en f t ts with
    | .error e =>.error e
    | .ok (s,ts)=>if aZz ts then(match aVk en f t n (ts.drop 1) with|.error e =>.error e|.ok (s',ts) =>.ok (s++s',ts)) else .ok (s,ts)
def idx (d:Bys):Int:=aYR.findIdx (· == d)
def dys (en:α)(ts:List (Tok α)):Res α ((Int×Int)×List (Tok α)) :=
  match take en 1 aYR ts with
  | .error e =>.error e
  | .ok (f,ts) =>
    if aUQ 4 [aW1] ts then(match take en 1 aYR (ts.drop 1) with
      | .error e =>.error e
      | .ok (t,ts) =>.ok ((idx f.2.1,idx t.2.1),ts))
    else .ok ((idx f.2.1,idx f.2.1),ts)
def part (en:α)(ts:List (Tok α)):Res α (List Sp×List (Tok α)) :=
  match dys en ts with
  | .error e =>.error e
  | .ok ((f,t),ts)=>aVk en f t (ts.length+1) ts
def aV8 (en:α):Nat->List (Tok α)->Res α (List Sp×List (Tok α))
  | 0,_ =>.error (6,en)
  | n+1,ts=>match part en ts with
    | .error e =>.error e
    | .ok (s,ts)=>if aUQ 4 [aS7] ts then(match aV8 en n (ts.drop 1) with|.error e =>.error e|.ok (s',ts) =>.ok (s++s',ts)) else .ok (s,ts)
def fin:Res α (List Sp×List (Tok α))->Res α (List Sp)
  | .error e =>.error e
  | .ok (s,[]) =>.ok s
  | .ok (_,t::_) =>.error (5,t.2.2)
def aXr (en:α)(ts:List (Tok α)):Res α (List Sp×List (Tok α)) :=
  if aUQ 1 [aWE] ts then .ok (aYU 0 10080,ts.drop 1) else if aUQ 1 [aXN] ts then .ok ([],ts.drop 1) else aV8 en (ts.length+1) ts
def aXs (en:α)(ts:List (Tok α)):Res α (List Sp):=fin (aXr en ts)
end
def aRW (l:Bys):Except (Int×Int) (List Sp) :=
  match aZ2 l with
  | .error e =>.error e
  | .ok ts=>match aXs (l.length:Int) ts with
    | .error e =>.error e
    | .ok s=>if(aW0 s).length>60 then .error (2,(l.length:Int)) else .ok (aW0 s)
variable{en:α}
section
variable{β:Type}(φ:α->β)
end
example:aRW [109,111,45,116,117,32,57,58,48,48,45,49,55,58,51,48]=.ok [(540,1050),(1980,2490)]:=by kernel_rfl
theorem aVi {p:UInt8->Bool}(h:(List.range 256).all (λn=>p (UInt8.ofNat n))=true)(b:UInt8):p b=true:=by
  have:=List.all_eq_true.1 h b.toNat (List.mem_range.2 b.toNat_lt);simpa using this
section
variable{E:Int×α->Prop}
end
def bAd:List (Tok Int)->Int->List (Tok (Int×Int))
  | [],_=>[]
  | t::ts,n=>(t.1,t.2.1,(t.2.2,n))::bAd ts (n+(t.2.1.length+1:Nat))
def spL (s:Sp):List Value:=[vI s.1,vI s.2]
variable{w:World}
theorem tou (T:TypeId)(m:Int)(h0:0<=m)(h1:m<=9223372036854775807)(hT:T=139:=by rfl):Ft.ok Tryz.prog w (.g1 (.convert 3 T) (vI m) (.int .u64 m)):=λo ρ x ho hx=>by
 subst hT
 have:IntKind.u64.wrap m=m:=by
  show m%18446744073709551616=m;omega
 simp[execOp,ho,hx,go_sem,this]
theorem toi (T:TypeId)(m:Int)(h0:0<=m)(h1:m<=9223372036854775807)(hT:T=139:=by rfl):Ft.ok Tryz.prog w (.g1 (.convert T 3) (.int .u64 m) (vI m)):=λo ρ x ho hx=>by
 subst hT;simp[execOp,ho,hx,go_sem,IntWalk.i64_in m ⟨by omega,by omega⟩]
theorem aSV (T:TypeId)(n:Nat)(h1:n<=9223372036854775807)(hT:T=139:=by rfl):Ft.ok Tryz.prog w (.g2 (λx y =>.binOp .shr T x y T) (.int .u64 ((n:Nat):Int)) (.int .u64 1) (.int .u64 (((n / 2:Nat)):Int))):=λo ρ x y ho hx hy=>by
 subst hT
 have:IntKind.u64.wrap ((n:Int) / 2)=(n:Int) / 2:=by
  show((n:Int) / 2)%18446744073709551616=_;omega
 simp[execOp,ho,hx,hy,go_sem,this]
end Go.Proofs.YtngjlnhojicjeaaGreatDoor
namespace Go.Proofs
open Go.Shelf
end Go.Proofs
namespace Go.Proofs.YtngjlnhojicjeaaGreatDoor
open Go.RowKit Go.Pl Go.Sort Go.Shelf
variable{w:World}{cs:Array Value}
section
variable{b k:Nat}{T:TypeId}
end
variable{o:Oper}{ρ:Operand->Value}
section
variable{x y z:Operand}{g off k n cap i:Nat}{p:Option Addr}{v u:Value}{m b:Nat}
theorem aAo {n:Int}(ho:o.op=.load 3 x)(hx:ρ x=vP g off)(hc:w.cell? ⟨g,off,none⟩=some (.int .i64 n)):(execOp ρ o).run Tryz.prog w=.ok (.value (.int .i64 n)) w:=by
 simp[execOp,ho,hx,go_sem,hc]
end
section
variable{P:Program}{f:FuncId}{ts:Array TypeId}{x y z:Operand}{u v:Value}{bs:Array Value}
end
def Gw (w w':World):Prop:=∃q os,w'=grow (w.drewN q) os
theorem aRl (w:World):grow w #[]=w:=by simp[grow]
theorem Gw.refl (w:World):Gw w w:=⟨0,#[],by rw[aRl];rfl⟩
theorem Gw.drew {w':World}(h:Gw w w'):Gw w w'.drew:=by
 obtain⟨q,os,rfl⟩:=h;exact⟨q+1,os,rfl⟩
theorem Gw.alloc {w':World}(h:Gw w w')(o:Obj):Gw w (w'.alloc o):=by
 obtain⟨q,os,rfl⟩:=h;refine⟨q,os++#[o],?_⟩;simp[World.alloc,grow]
theorem Gw.fr {w':World}(h:Gw w w'):Fr nF_ w w':=by
 obtain⟨q,os,rfl⟩:=h;refine⟨rfl,rfl,rfl,?_,λr hr _=>?_⟩
 ·simp[grow,World.drewN]
 ·simp only[grow,World.drewN];rw[Array.getElem?_append_left hr]
set_option maxHeartbeats 1000000 in
section
variable{α:Type}[Inhabited α]{c:Nat}{f:α->List Value}{T:TypeId}
def bA2 (f:α->List Value)(c:Nat)(cur:Array Value)(L:List α):Prop:=∀t x,L[t]?=some x->∀j u,(f x)[j]?=some u->cur[t*c+j]?=some u
end
theorem aRO {α:Type}{lt:α->α->Bool}(a b:α->Int)(h:∀x y,lt x y=true↔a x<a y\/a x=a y/\b x<b y):SWO lt:=by
 have h':∀x y,lt x y=false↔¬(a x<a y\/a x=a y/\b x<b y):=λx y=>by rw[<-h,Bool.not_eq_true]
 refine⟨λx=>?_,λx y z h1 h2=>?_,λx y z h1 h2=>?_⟩
 ·rw[h'];omega
 ·rw[h] at *;omega
 ·rw[h'] at *;omega
variable{α:Type}
section
variable[Inhabited α]
theorem aQ4 {d d':Array α}(h:PermIn 0 d.size d d'):d'.toList.Perm d.toList:=by
 have h1:=h.2.2;have e1:d.extract 0 d.size=d:=by simp
 have e2:d'.extract 0 d.size=d':=by rw[<-h.1];simp
 rwa[e1,e2] at h1
end
variable{ds:List Deferred}{w:World}
section
variable{P:Program}{O:Array Oper}{Q:Exit->Act->World->Prop}{rest:List Oper}{o:Oper}{a:Act}{n d:Nat}{L:List (Nat×Value)}{x y:Operand}{b:Nat}
end
variable{B:Code}
section
variable{P:Program}{R:Pst}{n:Nat}{p:Option (Nat×Nat)}{L:Frm}{F:List Ft}
end
theorem q92 (c:UInt8):(c==92)=((c.toNat:Int)==92):=by
 have:=aVi (p:=λc=>(c==92)==((c.toNat:Int)==92)) (by decide +kernel) c;exact beq_iff_eq.1 this
theorem aPf (w:World)(e:TypeId)(s:ByteArray):Fr nF_ w (Lib.bytesWorld w e s):=by
 refine⟨rfl,rfl,rfl,?_,λr hr _=>?_⟩
 ·simp[Lib.bytesWorld,World.freeze]
 ·have hne:w.heap.size≠r:=by omega
  show((w.drew.alloc _).heap.modify w.heap.size _)[r]?=_;rw[Array.getElem?_modify,if_neg hne];exact(aBJ (by simpa using hr) _)
theorem aWl:∀(xs:List Bys)(y:Bys)(i:Nat),Lib.idxFromS (xs.map ofL) (ofL y) i=if xs.contains y then((i+xs.findIdx (· == y):Nat):Int) else -1:=by
 intro xs y
 induction xs with
 | nil=>intro i;rfl
 | cons x xs ih =>
  intro i;simp only[List.map_cons,Lib.idxFromS,aJE,List.contains_cons,List.findIdx_cons]
  by_cases h:x=y
  ·subst h;simp
  ·rw[if_neg h,ih];have e:(y==x)=false:=by simpa using λe=>h e.symm
   have e2:(x==y)=false:=by simpa using h
   rw[e,e2];simp only[Bool.false_or,cond_false]
   split
   ·omega
   ·rfl
theorem aTY (xs:List Bys)(y:Bys):Lib.idxOfS (xs.map ofL) (ofL y)=if xs.contains y then((xs.findIdx (· == y):Nat):Int) else -1:=by
 have:=aWl xs y 0
 rwa[Nat.zero_add] at this
theorem aIM (xs:List Bys)(y:Bys):Lib.containsS (xs.map ofL) (ofL y)=xs.contains y:=by
 unfold Lib.containsS;rw[aTY];cases h:xs.contains y
 ·simp
 ·rw[if_pos rfl,decide_eq_true oM]
theorem aNd {w:World}{G:Nat}{p:Option Addr}{g off:Nat}{xs:List Bys}(h:aBh stL 1 w G p xs)(hp:p=some ⟨g,off,none⟩):∀j,j<(xs.map ofL).length->w.cell? ⟨g,off+j,none⟩=some (.string ((xs.map ofL).getD j ByteArray.empty)):=by
 intro j hj;rw[Gp_] at hj;obtain⟨g',off',he,_,hs⟩:=h.at hj;rw[hp] at he;cases he;have:=hs j xs[j] (Gb_ hj) 0 _ rfl;rw[Nat.mul_one,Nat.add_zero] at this;rw[this];simp[List.getD,Gb_ hj]
def Tb (w:World):Prop:=Lib.TabIs Tryz.prog w "internal/strconv.uint64pow10" .u64 Lib.pow10Tab/\Lib.TabIs Tryz.prog w "strings.asciiSpace" .u8 Lib.asciiSpaceTab
theorem aG0 {w:World}{v:Value}{xs:List Bys}{y:Bys}(h:StV w v xs):Calls Tryz.prog 226 #[v,vS y] w λe w'=>e=.returned (vB (xs.contains y))/\Fr nF_ w w':=by
 obtain⟨p,c,rfl,h1,h2,h3,h4⟩:=h
 by_cases hx:xs=[]
 ·subst hx;exact(Tryz.slices_Contains_string_empty p c (ofL y) w).mono λe w' h=>⟨h.1,by rw[h.2];exact Fr.refl _ _⟩
 ·obtain⟨g,off,rfl,_,_⟩:=h3.resolve_left hx;refine(Tryz.slices_Contains_string g off xs.length c (xs.map ofL) (ofL y) w sI oM (aNd h3 rfl)).mono λe w' h=>⟨?_,by rw[h.2];exact Fr.refl _ _⟩;rw[h.1,Gc_ sI,aIM]
abbrev aZt (c x:Int):Value := .iface 316 (.agg #[vI c,vI x])
abbrev pn (c x:Int):List PanicEntry:=[{ v:=aZt c x,recovered:=false }]
variable{en:α}
section
def pre (acc:List Sp):Res α (List Sp×List (Tok α))->Res α (List Sp×List (Tok α))
 | .error e =>.error e
 | .ok (s,l) =>.ok (acc++s,l)
end
theorem aRK {w w':World}{F:Nat->Prop}{n:String}{cs:Array Value}{g:Nat}(hg:Tryz.prog.globalNamed n=some g)(h:w.var? Tryz.prog n=some cs)(f:Fr F w w')(hF:¬F g):w'.var? Tryz.prog n=some cs:=by
 unfold World.var? at h ⊢;rw[hg] at h ⊢;simp only[Option.bind_some] at h ⊢
 cases hb:w.heap[g]? with
 | none=>rw[hb] at h;cases h
 | some ob=>rw[f.obj hb hF,<-hb];exact h
theorem Tb.fr {w w':World}{F:Nat->Prop}(h:Tb w)(f:Fr F w w')(hF:∀r,r<7->¬F r):Tb w' :=
 ⟨aRK (g:=6) kR h.1 f (hF _ dE),aRK (g:=5) kR h.2 f (hF _ dE)⟩
def aYu (w:World)(g:Nat):Prop:=∃ev,w.cell? ⟨g,0,none⟩=some ev/\(ev=.nilIface\/∃te pe,ev=.iface te pe)
structure Te (w:World):Prop where
 tb:Tb w
 e0:aYu w 3
 e1:aYu w 4
theorem Te.fr {w w':World}(h:Te w)(f:Fr nF_ w w'):Te w' :=
 ⟨h.tb.fr f λ_ _ h=>h,let ⟨ev,h1,h2⟩:=h.e0;⟨ev,f.cell h1 id,h2⟩,let ⟨ev,h1,h2⟩:=h.e1;⟨ev,f.cell h1 id,h2⟩⟩
theorem aNX (s:Bys):(ofL s).data.toList=s:=by unfold ofL;simp
def aHO (s:Bys):Option Int:=match Lib.atoiAll s with
 | .ok v=>some v
 | _=>none
theorem aGS {w:World}{s:Bys}(hs:s.length<=281474976710656)(hT:Te w):Calls Tryz.prog 85 #[vS s] w λe w'=>(∃n ev,e=.returned (.tuple #[vI n,ev])/\((aHO s=some n/\ev=.nilIface/\-9223372036854775808<=n/\n<=9223372036854775807)\/(aHO s=none/\∃T v,ev=.iface T v)))/\Fr nF_ w w':=by
 have hsz:(ofL s).size=s.length:=aCU s;cases h:Lib.atoiAll s
 ·rename_i v;have h1:=h;rw[<-aNX s] at h1;refine(Go.Proofs.Any.strconv_Atoi_ok Tryz.laysC172 (ofL s) oM v h1 w).mono ?_;rintro e w' ⟨rfl,hw⟩;obtain⟨b1,b2⟩:=Lib.atoiAll_bounds h;refine⟨⟨v,.nilIface,rfl,.inl ⟨by unfold aHO;rw[h],rfl,b1,b2⟩⟩,?_⟩;rcases hw with rfl|⟨t,rfl⟩
  ·exact Fr.refl _ _
  ·exact aPf _ _ _
 ·have h1:=h;rw[<-aNX s] at h1;obtain⟨ev,hv,hev⟩:=hT.e0;refine(Go.Proofs.Any.strconv_Atoi_syntax Tryz.laysC172 (ofL s) oM h1 ev w hv hev).mono ?_;rintro e w' ⟨N,rfl,_,_,hb⟩;exact⟨⟨_,_,rfl,.inr ⟨by unfold aHO;rw[h],_,_,rfl⟩⟩,Fr.of_below hb⟩
 ·have h1:=h;rw[<-aNX s] at h1;obtain⟨ev,hv,hev⟩:=hT.e1;refine(Go.Proofs.Any.strconv_Atoi_range Tryz.laysC172 (ofL s) oM h1 ev w hv hev).mono ?_;rintro e w' ⟨N,rfl,_,_,hb⟩;exact⟨⟨_,_,rfl,.inr ⟨by unfold aHO;rw[h],_,_,rfl⟩⟩,Fr.of_below hb⟩
def aVw (s:Bys):Int:=match aHO s with
 | some n=>bif decide (n<1)||decide (9999999<n) || !(Lib.itoa n==s) then 100 else n
 | none=>100
def inL (n:Int):List Value:=[vI n]
abbrev aYV:=List (Bys×Value×List Int)
def aZw (T:aYV):Value->Option Value
 | .string s=>(T.find? λx=>x.1==s.toList).map (·.2.1)
 | _=>none
structure Road where
 closed:Bool
 oneway:Bool
 limited:Bool
 speed:Int
 hours:List Sp
 refs:List Bys
def aYF:Bys:=[102,111,111,116]
def aSv (o:Ob):Except (Int×Int) (List Sp):=aRW (aAE o.tags [104,111,117,114,115]).1
def aSw (o:Ob):List Sp:=match aSv o with
 | .ok l=>l
 | .error _=>[]
def aWm (o:Ob):Bool:=match aSv o with
 | .ok _=>true
 | .error _=>false
def aQv (prof:Bys)(o:Ob):Road :=
 { closed:=(aAE o.tags prof).1==[110,111],oneway:=((aAE o.tags [111,110,101,119,97,121]).1==[121,101,115]) && !(prof==aYF),limited:=(aAE o.tags [104,111,117,114,115]).2&&aWm o,speed:=aVw (aAE o.tags [115,112,101,101,100]).1,hours:=aSw o,refs:=o.refs }
abbrev aXE (prof:Bys)(b:ObR)(hv:Value):Value := .agg #[vB (aQv prof b.o).closed,vB (aQv prof b.o).oneway,vB (aQv prof b.o).limited,vI (aQv prof b.o).speed,hv,rfV b]
abbrev RdT:=List (ObR×Value)
def rdF (prof:Bys)(T:RdT):Value->Option Value
 | .string s=>(T.find? λx=>x.1.o.id==s.toList).map λx=>aXE prof x.1 x.2
 | _=>none
abbrev Tri:=Bys×Bys×Bys
abbrev aZh (t:Tri):Value := .agg #[vS t.1,vS t.2.1,vS t.2.2]
open Classical in
noncomputable def setT (S:List Tri):Value->Option Value:=λv=>if ∃a∈S,v=aZh a then some (vB true) else none
def aZi (o:Ob):Tri:=(o.refs.getD 0 [],o.refs.getD 1 [],o.refs.getD 2 [])
def bAe (prof:Bys)(os:List ObR):List Tri:=bif prof==aYF then[] else(os.filter λb=>b.o.kind==5).map λb=>aZi b.o
abbrev AS (os:List ObR):List Arc:=aZx (aYi os)
theorem aK1 {k:Bys}:∀{l:List Ob},aJI k l=true->∀o∈l,aA1 o=true
 | [],_,o,h=>by cases h
 | b::l,hm,o,h=>by
  unfold aJI at hm;simp only[Ga_] at hm;rcases List.mem_cons.1 h with rfl|h
  ·exact hm.1.1
  ·exact aK1 hm.2 o h
theorem aK4 {k:Bys}:∀{l:List Tag},aMW k l=true->∀t∈l,t.2.length<=200
 | [],_,t,h=>by cases h
 | b::l,hm,t,h=>by
  unfold aMW at hm;simp only[Ga_,decide_eq_true_eq] at hm;rcases List.mem_cons.1 h with rfl|h
  ·have:=hm.1.2;omega
  ·exact aK4 hm.2 t h
theorem aRn {l:List Tag}(h:∀t∈l,t.2.length<=200)(k:Bys):(aAE l k).1.length<=200:=by
 induction l with
 | nil=>simp[aAE]
 | cons t l ih =>
  unfold aAE
  cases t.1==k with
  | true=>exact h t (.head _)
  | false=>exact ih λt ht=>h t (.tail _ ht)
theorem aLC {o:Ob}(h:aA1 o=true)(k:Bys):(aAE o.tags k).1.length<=200:=by
 unfold aA1 at h;simp only[Ga_] at h;have h1:=h.1.1.1.1.2;unfold aE5 at h1;rw[Ga_] at h1;exact aRn (aK4 h1.1) k
structure StF (w:World)(bs ca bo br bb no nr nb:Nat)(qa:Option Addr)(prof:Bys)(os:List ObR)(T:aYV)(T2:RdT):Prop where
 blk:w.heap[bs]?=some (.cells #[vS prof,vL qa (AS os).length ca,.map (some bo),.map (some br),.map (some bb)] 203 (0,0))
 arcs:SrcP arL 4 w qa ca (AS os)
 out:aDS Tryz.prog 9 w bo no (aZw T)
 rows:∀x∈T,Src inL 1 w x.2.1 x.2.2
 rds:aDS Tryz.prog 9 w br nr (rdF prof T2)
 hrs:∀x∈T2,Src spL 2 w x.2 (aSw x.1.o)
 refs:∀x∈T2,SrcP stL 1 w x.1.pr x.1.cr x.1.o.refs
 ban:aDS Tryz.prog 261 w bb nb (setT (bAe prof os))
 ok:∀a∈AS os,ArcB a
section
variable{q n c:Nat}{p:Option Addr}
end
section
variable{P:Program}{n:Nat}
end
section
variable{P:Program}{w0:World}{rd:Option Nat}{r n:Nat}{L:Frm}{ef:List Nat}{V:Lts->List (Option Value)}{F:Lts->List Ft}{F0:Nat->Prop}{Mf:Lts->List Bool->List Ent}
end
end Go.Proofs.YtngjlnhojicjeaaGreatDoor
namespace Go.Pl
open Go.RowKit
structure NetW where
 n:Nat
 st:Nat->Bool
 ps:Nat->Int->Option Int
 al:Nat->Nat->Bool
section
variable{N:NetW}{i:Nat}{mi m0:Int}{t t':Nat->Option Int}{W W':List (Nat×Int)}{X:Nat->Int->Prop}
end
end Go.Pl
namespace Go.Proofs.YtngjlnhojicjeaaGreatDoor
open Go.RowKit Go.Pl
theorem aTK:Maps.Keyed Tryz.prog 3:=Maps.int_keyed u3_
theorem aTN {n:Int}(h : -9223372036854775808<=n/\n<=9223372036854775807):∃l,keyOf Tryz.prog 3 (vI n)=some l:=⟨_,Maps.keyOf_int_mk u3_ (by
 show(decide (IntKind.i64.min<=n)&&decide (n<=IntKind.i64.max))=true;have h1:IntKind.i64.min=-9223372036854775808:=by rfl
 have h2:IntKind.i64.max=9223372036854775807:=by rfl
 rw[h1,h2];simp only[Ga_,decide_eq_true_eq];exact h)⟩
def kindI (os:List ObR)(id:Bys):Int:=match os[(aAr (aAa os) id).toNat]? with
 | some b=>b.o.kind
 | none=>0
variable{w:World}{cs:Array Value}
theorem aFK {b:Nat}{T:TypeId}(h:w.heap[b]?=some (.cells cs T (0,0))):w.rangeAt b 0 cs.toList:=λj u hu=>by
 rw[aAj h,Nat.zero_add];simpa using hu
theorem aB5 {l:List Ob}{id:Bys}(h:¬aAr l id<0):∃k o,aAr l id=((k:Nat):Int)/\l[k]?=some o/\o.id=id:=by
 unfold aAr at h ⊢
 cases e:l.findIdx? (λo=>o.id==id) with
 | none=>rw[e] at h;exact absurd dE h
 | some k =>
  obtain⟨h1,h2,h3⟩:=List.findIdx?_eq_some_iff_getElem.1 e;exact⟨k,l[k],rfl,Gb_ h1,by simpa using h2⟩
theorem stT:ElT Tryz.prog stL 1 45 9:=⟨λ_=>rfl,by decide,λx u hu=>by
 unfold stL at hu;rw[Gd_] at hu;subst hu;rfl,u45_,aCz kR⟩
variable{v:Value}
theorem aXC {P:Program}{B:Code}{fn:Func}{Z:Ending->World->Prop}{n:Nat}{p:Option (Nat×Nat)}{L:Frm}{F:List Ft}(t:Nat)(T:TypeId)(t2:Nat){g:Nat}(u:Value)(hr:fn.results=#[.cell t T,.tmp t2])(hn:(t==t2)=false)(hv:(Instr.loadAt T (vP g 0)).run P w=.ok v w)(hF:aBg P w F)(k:Z (.returned (.tuple #[v,u])) w)(h:aPG (go P w n B p L 1000000 0 F) [(t,vP g 0),(t2,u)] L=aMw (go P w n B p L 1000000 0 F) [(t,vP g 0),(t2,u)]:=by kernel_rfl):AtO P B (aAI (bodyPost P fn Z)) [] n p L w :=
 aRp [(t,vP g 0),(t2,u)] hF h λa E=>by
  have hv':a.eval (.tmp t)=vP g 0:=E.at_ t _ (by simp[Go.Pl.look]);have hu':a.eval (.tmp t2)=u:=E.at_ t2 _ (by simp[Go.Pl.look,hn])
  have key:∃u,(results fn a.tmps).run P w=.ok u w/\Z (.returned u) w:=⟨.tuple #[v,u],by
   have hl:a.tmps.getD t undef=vP g 0:=hv';have hl2:a.tmps.getD t2 undef=u:=hu';simp only[Instr.loadAt,Instr.sureAddr,Sem.run_bind,Sem.run_pure,Result.andThen_ok] at hv;have hl':a.tmps[t]?.getD undef=vP g 0:=by simpa using hl
   have hl2':a.tmps[t2]?.getD undef=u:=by simpa using hl2
   simp[results,hr,hl',hl2',asAddr,hv],k⟩
  exact⟨⟨E.df,key⟩,⟨E.df,key⟩⟩
variable{F0:Nat->Prop}{M:List Ent}{α:Type}
theorem aH4 {f:α->List Value}{c:Nat}{E:TypeId}{b:Nat}{w0:World}(h:Mm F0 w0 w M){j:Nat}(hj:M[j]?=some (bk b cs E))(L:List α)(n:Nat)(hL:L.flatMap f=cs.toList)(hn:L.length=n)(hc:cs.size=n*c)(hm:n<=9223372036854775807:=by decide):Mm F0 w0 w (M.set j (rw_ f c E (vL (some ⟨b,0,none⟩) n n) L)) :=
 h.put j hj (Fr.refl nF_ _) (λ_ _ h=>h.elim) (show ow f c E w 0 _ L from by
  refine⟨by rw[hL,hn];simpa using hc,.inr ⟨b,n,cs,by rw[hn],Gg_ _,h.get j hj,by omega,by unfold maxLen;omega,hc,?_⟩⟩;rw[hL,hn,<-hc];exact Gc_ sI) λk e =>.inl (by
  have e:some b=some k:=e;exact(Gh_ e).symm)
theorem aBL {f:α->List Value}{c:Nat}{b:Nat}{T:TypeId}(hb:w.heap[b]?=some (.cells cs T (0,0)))(L:List α)(n:Nat)(hf:∀x,(f x).length=c)(hL:L.flatMap f=cs.toList)(hn:L.length=n)(hm:n<=9223372036854775807:=by decide):SrcP f c w (some ⟨b,0,none⟩) n L :=
 ⟨by omega,hm,.inr ⟨b,0,rfl,aAf hb,λi y hy j u hu=>by
  have hi:=(List.getElem?_eq_some_iff.1 hu).1;rw[hf] at hi;rw[aAj hb,Nat.zero_add];have:=aBR hf L i y hy j hi;rw[hL,hu,Array.getElem?_toList] at this;exact this⟩,λh=>by cases h⟩
def aBQ (Ms:List Ent):Ent where
 B:=BlM Ms
 H:=λw=>(∀e∈Ms,e.H w)/\Ms.Pairwise λx y=>∀k,x.B k->¬y.B k
 lt:=λh ⟨e,he,hk⟩=>e.lt (h.1 e he) hk
 fr:=λh f hn=>⟨λe he=>e.fr (h.1 e he) f λk hk=>hn k ⟨e,he,hk⟩,h.2⟩
theorem aDc {w0:World}{A Ms:List Ent}(h:Mm F0 w0 w (A++Ms)):Mm F0 w0 w (A++[aBQ Ms]):=by
 have hnd:=List.pairwise_append.1 h.nd;refine⟨h.fr,λx hx=>?_,λx hx k hk hl=>?_,?_⟩
 ·rcases List.mem_append.1 hx with hx|hx
  ·exact h.at_ x (Gs_ _ hx)
  ·rw[Gd_] at hx;subst hx;exact⟨λe he=>h.at_ e (List.mem_append_right _ he),hnd.2.1⟩
 ·rcases List.mem_append.1 hx with hx|hx
  ·exact h.own x (Gs_ _ hx) k hk hl
  ·rw[Gd_] at hx;subst hx;obtain⟨e,he,hk⟩:=hk;exact h.own e (List.mem_append_right _ he) k hk hl
 ·refine List.pairwise_append.2 ⟨hnd.1,List.pairwise_singleton _ _,λx hx y hy k hxk hyk=>?_⟩;rw[Gd_] at hy;subst hy;obtain⟨e,he,hk⟩:=hyk;exact hnd.2.2 x hx e he k hxk hk
variable{G:Nat->Prop}
theorem aEP {w0:World}(h:Mm F0 w0 w M)(hG:∀k,F0 k->G k):Mm G w0 w M:=⟨h.fr.mono λr _ h=>hG r h,h.at_,λe he k hk hl=>hG k (h.own e he k hk hl),h.nd⟩
def rwL (x:Bys×Int):List Value:=[vS x.1,vI x.2]
theorem rwT:ElT Tryz.prog rwL 2 36 42:=⟨λ_=>rfl,by decide,λx u hu=>by
 unfold rwL at hu;rcases List.mem_cons.1 hu with rfl|hu
 ·rfl
 ·rw[Gd_] at hu;subst hu;rfl,Tryz.underlying36,aCz kR⟩
variable{i:Nat}
theorem aPS [BEq α][LawfulBEq α]{A B:List α}(h:A.take i=B.take i)(hA:A.length<=i)(hB:B.length<=i):(A==B)=true:=by
 rw[Gc_ hA,Gc_ hB] at h;simpa using h
theorem aIf {A B:List α}{x y:α}(h:A.take i=B.take i)(hx:A[i]?=some x)(hy:B[i]?=some y)(e:x=y):A.take (i+1)=B.take (i+1):=by
 rw[gt_ hx,gt_ hy,h,e]
theorem aW4 [BEq α][LawfulBEq α]{A B:List α}{x y:α}(hx:A[i]?=some x)(hy:B[i]?=some y)(e:x≠y):(A==B)=false:=by
 cases h:A==B with
 | false=>rfl
 | true=>rw[et h] at hx;rw[hx] at hy;exact absurd (Gh_ hy) e
theorem aUs [BEq α][LawfulBEq α]{A B:List α}(h:¬(A.length:Int)=(B.length:Int)):(A==B)=false:=by
 cases e:A==B with
 | false=>rfl
 | true=>rw[et e] at h;exact absurd rfl h
theorem obT:ElT Tryz.prog obL 6 22 48:=⟨λ_=>rfl,by decide,λx u hu=>by
 unfold obL at hu;simp only[List.mem_cons,List.not_mem_nil,or_false] at hu;rcases hu with rfl|rfl|rfl|rfl|rfl|rfl<;>rfl,u22_,aCz kR⟩
theorem tgT:ElT Tryz.prog tgL 2 46 72:=⟨λ_=>rfl,by decide,λx u hu=>by
 unfold tgL at hu;simp only[List.mem_cons,List.not_mem_nil,or_false] at hu;rcases hu with rfl|rfl<;>rfl,u46_,aCz kR⟩
theorem aHx (w:World)(id:Bys)(k x y:Int)(hid:B63 id):ObIn w (⟨⟨id,k,x,y,[],[]⟩,none,0,none,0⟩:ObR) :=
 ⟨⟨Gj_ _,Gg_ _,.inl rfl,λ_=>rfl⟩,⟨Gj_ _,Gg_ _,.inl rfl,λ_=>rfl⟩,hid,λ_ h=>(by cases h),λ_ h=>(by cases h)⟩
def aVU (l:List Ob)(id:Bys):Int:=match l[(aAr l id).toNat]? with
 | some o=>o.kind
 | none=>0
theorem aCo {l:List Ob}(h:aAh l=true):∀o∈l,aA1 o=true:=by
 unfold aAh at h;rw[Ga_] at h;exact aK1 h.1
section
variable{l:List Ob}
end
def cn (l:List Ob):List ObR:=l.map λo=>⟨o,none,0,none,0⟩
theorem aA0 (a:Bys):blt a a=false:=by
 have:=aLx a a
 cases h:Op.bytesLess a a with
 | false=>exact h
 | true=>rw[h] at this;simp at this
theorem aLy:∀{a b c:List UInt8},Op.bytesLess a b=true->Op.bytesLess b c=true->Op.bytesLess a c=true
 | [],_,[],h,k=>by
  rename_i b;cases b<;>simp[Op.bytesLess] at k
 | [],_,_::_,_,_=>by simp[Op.bytesLess]
 | _::_,[],_,h,_=>by simp[Op.bytesLess] at h
 | _::_,_::_,[],_,k=>by simp[Op.bytesLess] at k
 | x::a,y::b,z::c,h,k=>by
  unfold Op.bytesLess at h k ⊢
  by_cases h1:x<y
  ·by_cases k1:y<z
   ·simp[UInt8.lt_trans h1 k1]
   ·by_cases e:y=z
    ·subst e;simp[h1]
    ·simp[k1,e] at k
  ·by_cases e:x=y
   ·subst e;simp at h
    by_cases k1:x<z
    ·simp[k1]
    ·by_cases e2:x=z
     ·subst e2;simp at k;simpa using aLy h k
     ·simp[k1,e2] at k
   ·simp[h1,e] at h
theorem aEu {a b c:Bys}(h:blt a b=true)(k:blt b c=true):blt a c=true:=aLy h k
theorem aOl {k:Bys}:∀{l:List Ob},aJI k l=true->(∀o∈l,blt k o.id=true)/\l.Pairwise λx y=>blt x.id y.id=true
 | [],_=>⟨λ_ h=>(by cases h),.nil⟩
 | o::l,h=>by
  unfold aJI at h;simp only[Ga_] at h;obtain⟨h1,h2⟩:=aOl (l:=l) h.2;refine⟨λx hx=>?_,List.pairwise_cons.2 ⟨h1,h2⟩⟩;rcases List.mem_cons.1 hx with rfl|hx
  ·exact h.1.2
  ·exact aEu h.1.2 (h1 x hx)
theorem aAV {l:List Ob}(h:aAh l=true):l.Pairwise λx y=>blt x.id y.id=true:=by
 unfold aAh at h;rw[Ga_] at h;exact(aOl h.1).2
theorem aTn {l:List Ob}(h:l.Pairwise λx y=>blt x.id y.id=true){a b:Ob}(ha:a∈l)(hb:b∈l)(e:a.id=b.id):a=b:=by
 obtain⟨i,hi,rfl⟩:=List.mem_iff_getElem.1 ha;obtain⟨j,hj,rfl⟩:=List.mem_iff_getElem.1 hb;rcases Nat.lt_trichotomy i j with q|q|q
 ·have:=List.pairwise_iff_getElem.1 h i j hi hj q;rw[e,aA0] at this;cases this
 ·subst q;rfl
 ·have:=List.pairwise_iff_getElem.1 h j i hj hi q;rw[e,aA0] at this;cases this
section
variable{prof f g:Bys}{l:List Ob}{m0 c:Int}{nd:List Bys}{mi:List Int}
end
variable{o:Ob}
theorem aD5 {l:List Ob}(hp:l.Pairwise λx y=>blt x.id y.id=true)(ho:o∈l):¬aAr l o.id<0/\aVU l o.id=o.kind:=by
 have hn:¬aAr l o.id<0:=by
  unfold aAr
  cases h:l.findIdx? (λx=>x.id==o.id) with
  | none=>have:=List.findIdx?_eq_none_iff.1 h o ho;simp at this
  | some k=>show ¬((k:Nat):Int)<0;omega
 obtain⟨k,o2,h1,h2,h3⟩:=aB5 hn;refine⟨hn,?_⟩;unfold aVU;rw[h1,Int.toNat_natCast,h2,aTn hp (gm h2) ho h3]
section
variable{prof f g:Bys}{l:List Ob}{n m0 c c2:Int}{rows:List (Bys×Int)}{nd2:List Bys}{mi2:List Int}
end
theorem aHF:∀(a b:Bys),decide (Lib.compareBytes a b<0)=blt a b
  | [],[]=>rfl
  | [],_::_=>rfl
  | _::_,[]=>rfl
  | a::x,b::y=>by
    have ih:=aHF x y;show decide ((if a<b then(-1:Int) else if b<a then 1 else Lib.compareBytes x y)<0)=(decide (a<b)||a==b&&blt x y)
    by_cases h1:a<b
    · simp[h1]
    · by_cases h2:b<a
      · have h3:(a==b)=false:=by rw[Gt_];rintro rfl;exact UInt8.lt_irrefl _ h2
        simp[h1,h2,h3]
      · have h3:a=b:=by
          rcases Nat.lt_trichotomy a.toNat b.toNat with h|h|h
          · exact absurd (UInt8.lt_iff_toNat_lt.2 h) h1
          · exact UInt8.toNat.inj h
          · exact absurd (UInt8.lt_iff_toNat_lt.2 h) h2
        rw[<-ih];simp[h1,h2,h3]
theorem aHG:∀(a b:Bys),(Lib.compareBytes a b==0)=(a==b)
  | [],[]=>rfl
  | [],_::_=>rfl
  | _::_,[]=>rfl
  | a::x,b::y=>by
    have ih:=aHG x y;simp only[Lib.compareBytes]
    by_cases h1:a<b
    · rw[if_pos h1]
      have:(a::x==b::y)=false:=by rw[Gt_];intro e;injection e with e _;subst e;exact UInt8.lt_irrefl _ h1
      rw[this];rfl
    · rw[if_neg h1]
      by_cases h2:b<a
      · rw[if_pos h2]
        have:(a::x==b::y)=false:=by rw[Gt_];intro e;injection e with e _;subst e;exact UInt8.lt_irrefl _ h2
        rw[this];rfl
      · rw[if_neg h2,ih]
        have h3:a=b:=by
          rcases Nat.lt_trichotomy a.toNat b.toNat with h|h|h
          · exact absurd (UInt8.lt_iff_toNat_lt.2 h) h1
          · exact UInt8.toNat.inj h
          · exact absurd (UInt8.lt_iff_toNat_lt.2 h) h2
        subst h3;simp
theorem aEK (a b:Bys)(w:World):Calls Tryz.prog 44 #[vS a,vS b] w λe w'=>e=.returned (vI (Lib.compareBytes a b))/\Fr nF_ w w' :=
  (Tryz.strings_Compare (ofL a) (ofL b) w).mono λe w' ⟨h,h2⟩=>by
    subst h2;exact⟨by rw[h];simp[ofL],Fr.refl _ _⟩
theorem aIX (b:ObR)(s:Bys):Calls Tryz.prog 99 #[vA (obL b),vS s] w λe w'=>e=.returned (vI (Lib.compareBytes b.o.id s))/\Fr nF_ w w':=by
  refine beg Tryz.func99 rfl rfl [(0,.agg (oY_ b)),(1,vS s)] rfl rfl λZ hZ=>?_;have hM:=Mm.nil nF_ w;refine aAu 0 0 2 [] (cs:=(oY_ b)) (T:=48) (v:=λb=>vP b 0) f0 hM λaa w1 hM=>aAw 1 3 8 [(6,vS b.o.id),(7,vS s)] (fc (ldm 9 0 0 hM rfl rfl) f0) hM (aEK b.o.id s _) λw1 hM=>rt1 4 (vI (Lib.compareBytes b.o.id s)) rfl f0 (hZ _ _ ⟨rfl,hM.fr⟩)
variable{k:Nat}{y:ObR}{s:Bys}
theorem aYg {l:List ObR}(hv:(aAa l).Pairwise λx y=>blt x.id y.id=true)(hy:l[k]?=some y)(h:decide (Lib.compareBytes y.o.id s<0)=true):∀z q,z<k+1->l[z]?=some q->blt q.o.id s=true:=λz q hz hq=>by
  rw[aHF] at h;rcases Nat.lt_succ_iff_lt_or_eq.1 hz with h9|h9
  · have h1:=aAK hq;have h2:=aAK hy
    obtain⟨a1,a2⟩:=List.getElem?_eq_some_iff.1 h1;obtain⟨b1,b2⟩:=List.getElem?_eq_some_iff.1 h2;have:=List.pairwise_iff_getElem.1 hv z k a1 b1 h9;rw[a2,b2] at this;exact aEu this h
  · subst h9;rw[hy] at hq;cases hq;exact h
theorem aYh {l:List ObR}(hv:(aAa l).Pairwise λx y=>blt x.id y.id=true)(hy:l[k]?=some y)(h:decide (Lib.compareBytes y.o.id s<0)=false):∀z q,k<=z->l[z]?=some q->blt q.o.id s=false:=λz q hz hq=>by
  rw[aHF] at h;rcases Nat.lt_or_ge k z with h9|h9
  · have h1:=aAK hy;have h2:=aAK hq
    obtain⟨a1,a2⟩:=List.getElem?_eq_some_iff.1 h1;obtain⟨b1,b2⟩:=List.getElem?_eq_some_iff.1 h2;have:=List.pairwise_iff_getElem.1 hv k z a1 b1 h9;rw[a2,b2] at this
    cases h8:blt q.o.id s with
    | false=>rfl
    | true=>rw[aEu this h8] at h;cases h
  · have e9:z=k:=by omega
    subst e9;rw[hy] at hq;cases hq;exact h
theorem aPo {l:List ObR}(hA:∀z q,z<i->l[z]?=some q->blt q.o.id s=true)(hB:∀z q,i<=z->l[z]?=some q->blt q.o.id s=false)(hv:(aAa l).Pairwise λx y=>blt x.id y.id=true):(l.length<=i->aAr (aAa l) s<0)/\∀y,l[i]?=some y->((y.o.id==s)=true->aAr (aAa l) s=(i:Int))/\((y.o.id==s)=false->aAr (aAa l) s<0):=by
  have key:∀k o,aAr (aAa l) s=((k:Nat):Int)->(aAa l)[k]?=some o->o.id=s->∃y,l[k]?=some y/\y.o.id=s/\i<=k:=by
    intro k o _ h2 h3;have hk:k<l.length:=by rw[<-aAT];exact gl h2
    obtain⟨y,hy⟩:=geb hk;have:=aAK hy;rw[h2] at this;cases this;refine⟨y,hy,h3,?_⟩;rcases Nat.lt_or_ge k i with h|h
    · have:=hA k y h hy;rw[h3,aA0] at this;cases this
    · exact h
  refine⟨λh=>?_,λy hy=>⟨λe=>?_,λe=>?_⟩⟩
  · refine Classical.byContradiction λhn=>?_
    obtain⟨k,o,h1,h2,h3⟩:=aB5 hn;obtain⟨y,hy,_,h4⟩:=key k o h1 h2 h3;have:=gl hy;omega
  · have hn:¬aAr (aAa l) s<0:=by
      intro hneg;unfold aAr at hneg
      cases h:(aAa l).findIdx? (λo=>o.id==s) with
      | none=>have:=List.findIdx?_eq_none_iff.1 h y.o (gm (aAK hy));rw[this] at e;cases e
      | some k=>rw[h] at hneg;have:((k:Nat):Int)<0:=hneg;omega
    obtain⟨k,o,h1,h2,h3⟩:=aB5 hn;obtain⟨y2,hy2,h5,h4⟩:=key k o h1 h2 h3;rcases Nat.lt_or_ge i k with h|h
    · have h6:=aAK hy;have h7:=aAK hy2
      obtain⟨a1,a2⟩:=List.getElem?_eq_some_iff.1 h6;obtain⟨b1,b2⟩:=List.getElem?_eq_some_iff.1 h7;have:=List.pairwise_iff_getElem.1 hv i k a1 b1 h;rw[a2,b2,h5,et e,aA0] at this;cases this
    · have:k=i:=by omega
      rw[h1,this]
  · refine Classical.byContradiction λhn=>?_
    obtain⟨k,o,h1,h2,h3⟩:=aB5 hn;obtain⟨y2,hy2,h5,h4⟩:=key k o h1 h2 h3;rcases Nat.lt_or_ge i k with h|h
    · have h6:=aAK hy;have h7:=aAK hy2
      obtain⟨a1,a2⟩:=List.getElem?_eq_some_iff.1 h6;obtain⟨b1,b2⟩:=List.getElem?_eq_some_iff.1 h7;have:=List.pairwise_iff_getElem.1 hv i k a1 b1 h;rw[a2,b2,h5] at this;have h8:=hB i y (Gj_ _) hy;rw[this] at h8;cases h8
    · have:k=i:=by omega
      subst this;rw[hy] at hy2;cases hy2;exact absurd h5 (ef e)
abbrev bAx (Z:Ending->World->Prop):=AtO Tryz.prog (aAv Tryz.f98) (aAI (bodyPost Tryz.prog Tryz.f98 Z)) [] 49
variable{os:List ObR}
theorem aPh (hm:aCt w v os)(hlen:os.length<=400000000)(hv:(aAa os).Pairwise λx y=>blt x.id y.id=true)(s:Bys):Calls Tryz.prog 98 #[v,vS s,.func (.func 99) #[] #[]] w λe w'=>∃(i:Nat)(b:Bool),e=.returned (.tuple #[vI (i:Int),vB b])/\(b=true->aAr (aAa os) s=(i:Int))/\(b=false->aAr (aAa os) s<0)/\Fr nF_ w w':=by
  have hm0:=hm;obtain⟨hs0,hob⟩:=hm0;obtain⟨p0,cp0,hp0,sp0⟩:=hs0.op;subst hp0;refine beg Tryz.func98 rfl rfl [(0,vL p0 os.length cp0),(1,vS s),(2,.func (.func 99) #[] #[])] rfl rfl λZ hZ=>?_;have hM:=Mm.nil nF_ w;refine seg 3 0 [(8,vI (os.length:Int)),(9,vI 0),(10,vI (os.length:Int))] f0 ?_
  have ae:∀(ac:Nat)(i:Nat)(j:Nat)(w2:World),i<=j->j<=os.length->(∀z q,z<i->os[z]?=some q->blt q.o.id s=true)->(∀z q,j<=z->os[z]?=some q->blt q.o.id s=false)->Mm nF_ w w2 []->ac=j-i->bAx Z (some (3,0)) [(10,vI (j:Int)),(9,vI (i:Int)),(8,vI (os.length:Int)),(0,vL p0 os.length cp0),(1,vS s),(2,.func (.func 99) #[] #[])] w2:=by
   refine aCh λac ad i j w2 hij hjl hA hB hM aj=>seg 3 3 [(17,vB (decide ((i:Int)<(j:Int))))] f0 ?_;cases h44:(decide ((i:Int)<(j:Int)))
   rotate_left
   ·have af:=dt h44;obtain⟨y47,aa,ak,al,q47,ag⟩:=sp0.el (i:=((i+j) / 2)) oM;refine aAw 5 6 30 [(11,vI ((((i+j) / 2:Nat)):Int)),(24,.func (.func 99) #[] #[]),(28,.agg (oY_ y47)),(29,vS s)] (fc (aAP (i:Int) (j:Int) u3_) (fc (tou 139 ((i:Int)+(j:Int)) oM oM) (fc (aSV 139 (i+j) oM) (fc (toi 139 ((((i+j) / 2:Nat)):Int) oM oM) (fc (ix 22 cp0 q47 (gl aa)) (fc (la0 48 hM ag) f0)))))) hM (aIX y47 s) λw1 hM=>seg 5 8 [(31,vB (decide ((Lib.compareBytes y47.o.id s)<0)))] f0 ?_;cases h48:(decide ((Lib.compareBytes y47.o.id s)<0))
    ·refine seg 3 0 [(10,vI ((((i+j) / 2:Nat)):Int))] f0 (aAi _ (ad _ oM i ((i+j) / 2) _ oM oM hA (aYh hv aa h48) hM rfl))
    refine seg 3 0 [(9,vI (((((i+j) / 2:Nat)):Int)+1))] (fc (aAP ((((i+j) / 2:Nat)):Int) 1 u3_) f0) (aAi _ (ad _ oM ((i+j) / 2+1) j _ oM oM (aYg hv aa h48) hB hM rfl))
   have af:=df h44;refine seg 8 5 [(35,vI (i:Int)),(39,vB (decide ((i:Int)<(os.length:Int))))] f0 ?_;cases h45:(decide ((i:Int)<(os.length:Int)))
   ·have ah:=df h45;have hji:i=j:=by omega
    subst hji;exact rt2 6 7 (vI (i:Int)) (vB false) rfl rfl f0 (hZ _ _ ⟨i,false,rfl,(λh=>by cases h),λ_=>(aPo hA hB hv).1 oM,hM.fr⟩)
   have ah:=dt h45;obtain⟨y46,ab,am,an,q46,ai⟩:=sp0.el (i:=i) oM;refine aAw 8 11 46 [(40,.func (.func 99) #[] #[]),(44,.agg (oY_ y46)),(45,vS s)] (fc (ix 22 cp0 q46 (gl ab)) (fc (la0 48 hM ai) f0)) hM (aIX y46 s) λw1 hM=>?_;have hji:i=j:=by omega
   subst hji;exact rt2 6 7 (vI (i:Int)) (vB ((Lib.compareBytes y46.o.id s)==0)) rfl rfl f0 (hZ _ _ ⟨i,_,rfl,(λh=>by rw[aHG] at h;exact((aPo hA hB hv).2 y46 ab).1 h),(λh=>by rw[aHG] at h;exact((aPo hA hB hv).2 y46 ab).2 h),hM.fr⟩)
  exact aAi _ (ae _ 0 os.length _ (Gg_ _) (Gj_ _) (λ_ _ h=>absurd h (Nat.not_lt_zero _)) (λz q h hq=>absurd (gl hq) oM) hM rfl)
theorem aEw (hm:aCt w v os)(hlen:os.length<=400000000)(hv:(aAa os).Pairwise λx y=>blt x.id y.id=true)(s:Bys):Calls Tryz.prog 50 #[.agg #[v],vS s] w λe w'=>∃(i:Nat)(b:Bool),e=.returned (.tuple #[vI (i:Int),vB b])/\(b=true->aAr (aAa os) s=(i:Int))/\(b=false->aAr (aAa os) s<0)/\Fr nF_ w w':=by
  have hm0:=hm;obtain⟨hs0,hob⟩:=hm0;obtain⟨p0,cp0,hp0,sp0⟩:=hs0.op;subst hp0;refine beg Tryz.func50 rfl rfl [(0,.agg #[vL p0 os.length cp0]),(1,vS s)] rfl rfl λZ hZ=>?_;have hM:=Mm.nil nF_ w;refine aAu 0 0 2 [] (cs:=#[vL p0 os.length cp0]) (T:=24) (v:=λb=>vP b 0) f0 hM λaa w1 hM=>aJd 1 3 9 [(7,vL p0 os.length cp0),(8,vS s)] (K:=λu w8=>∃(i:Nat)(b:Bool),u=.tuple #[vI (i:Int),vB b]/\(b=true->aAr (aAa os) s=(i:Int))/\(b=false->aAr (aAa os) s<0)) (fc (ldm 22 0 0 hM rfl rfl) f0) hM ((aPh (hm.fr hM.fr) hlen hv s).mono λe w8 ⟨i,b,h1,h2,h3,h4⟩=>⟨⟨_,h1,i,b,rfl,h2,h3⟩,h4⟩) λ_ w1 ⟨i,b,hv9,hy9,hn9⟩ hM f1=>?_;subst hv9;exact rt2 4 5 (vI (i:Int)) (vB b) rfl rfl f0 (hZ _ _ ⟨i,b,rfl,hy9,hn9,hM.fr⟩)
def aXG (v:Value):List Value:=[v]
abbrev bAv (Z:Ending->World->Prop):=AtO Tryz.prog (aAv Tryz.f142) (aAI (bodyPost Tryz.prog Tryz.f142 Z)) [] 19
variable{B:Nat}{caps:Array Value}
theorem aMr {p:Option Addr}{cap:Nat}{L:List Value}{f:FuncId}(hs:SrcB aXG 1 w B p cap L)(hG:∀k,G k->B<=k)(eg:aJe Tryz.prog f)(I:Nat->World->Prop)(q:Nat->Bool)(h0:I 0 w)(step:∀i x w1,L[i]?=some x->(∀j,j<i->q j=false)->I i w1->Fr G w w1->Calls Tryz.prog f (#[.agg #[x]]++caps) w1 λe w2=>e=.returned (vB (q i))/\I (i+1) w2/\Fr G w1 w2):Calls Tryz.prog 142 #[vL p L.length cap,.func (.func f) #[] caps] w λe w'=>(∃z,e=.returned (vI z)/\Fst L q I w' z)/\Fr G w w':=by
  have bb:=hs.bnd;refine beg Tryz.func142 rfl rfl [(0,vL p L.length cap),(1,.func (.func f) #[] caps)] rfl rfl λZ hZ=>?_;have hM:=Mm.nil G w;refine seg 2 0 [(7,vI (L.length:Int)),(8,vI 0)] f0 ?_
  have ac:∀(ab:Nat)(i:Nat)(w2:World),i<=L.length->(∀j,j<i->q j=false)->I i w2->Mm G w w2 []->ab=L.length-i->bAv Z (some (2,0)) [(8,vI (i:Int)),(7,vI (L.length:Int)),(0,vL p L.length cap),(1,.func (.func f) #[] caps)] w2:=by
   refine aCh λab ad i w2 hi hq hI hM ag=>seg 2 1 [(9,vB (decide ((i:Int)<(L.length:Int))))] f0 ?_;cases h53:(decide ((i:Int)<(L.length:Int)))
   ·have ae:=df h53;exact rt1 4 (vI (-1)) rfl f0 (hZ _ _ ⟨⟨_,rfl,.end_ oM hq hI⟩,hM.fr⟩)
   have ae:=dt h53;obtain⟨y54,aa,ah,ai,q54,af,n54⟩:=(hs).eb hG (i:=i) oM;refine aUo 4 5 16 [(5,vI (i:Int)),(11,.func (.func f) #[] caps),(15,.agg #[y54])] #[24] (K:=λu w9=>u=vB (q i)/\I (i+1) w9/\Fr G w2 w9) dE (fc (ix 142 cap q54 (gl aa)) (fc (la0 24 hM af n54) f0)) eg ((step i y54 _ aa hq hI hM.fr).mono λe w9 h=>⟨_,h.1,rfl,h.2⟩) λu w1 ⟨hu,hI,f1⟩=>?_;subst hu;have hM:=hM.g f1;cases h55:(q i)
   ·refine seg 2 0 [(8,vI ((i:Int)+1))] (fc (aAP (i:Int) 1 u3_) f0) (aAi _ (ad _ oM (i+1) _ (gl aa) (λj hj=>by rcases Nat.lt_succ_iff_lt_or_eq.1 hj with h|h;exact hq j h;rw[h];exact h55) hI hM rfl))
   exact rt1 4 (vI (i:Int)) rfl f0 (hZ _ _ ⟨⟨_,rfl,.some i (gl aa) h55 hq hI⟩,hM.fr⟩)
  exact aAi _ (ac _ 0 _ (Gg_ _) (λ_ h=>absurd h (Nat.not_lt_zero _)) h0 hM rfl)
theorem aPc {p:Option Addr}{cap:Nat}{L:List Value}{f:FuncId}(hs:SrcB aXG 1 w B p cap L)(hG:∀k,G k->B<=k)(eg:aJe Tryz.prog f)(I:Nat->World->Prop)(q:Nat->Bool)(h0:I 0 w)(step:∀i x w1,L[i]?=some x->(∀j,j<i->q j=false)->I i w1->Fr G w w1->Calls Tryz.prog f (#[.agg #[x]]++caps) w1 λe w2=>e=.returned (vB (q i))/\I (i+1) w2/\Fr G w1 w2):Calls Tryz.prog 91 #[vL p L.length cap,.func (.func f) #[] caps] w λe w'=>(∃z,e=.returned (vB (decide (0<=z)))/\Fst L q I w' z)/\Fr G w w':=by
  refine beg Tryz.func91 rfl rfl [(0,vL p L.length cap),(1,.func (.func f) #[] caps)] rfl rfl λZ hZ=>?_;have hM:=Mm.nil G w;refine cal 1 2 7 [(5,vL p L.length cap),(6,.func (.func f) #[] caps)] (K:=λu w8=>∃z,u=vI z/\Fst L q I w8 z/\Fr G w w8) f0 ((aMr hs hG eg I q h0 step).mono λe w9 h=>⟨_,h.1.choose_spec.1,_,rfl,h.1.choose_spec.2,h.2⟩) λu w1 ⟨z,hu,hz,f1⟩=>?_;subst hu;have hM:=hM.g f1;exact rt1 4 (vB (decide (0<=z))) rfl f0 (hZ _ _ ⟨⟨_,rfl,hz⟩,hM.fr⟩)
theorem aGZ (hm:aCt w v os):Calls Tryz.prog 92 #[.agg #[v]] w λe w'=>e=.returned (vB (!(aAh (aAa os))))/\Fr nF_ w w':=by
  refine beg Tryz.func92 rfl rfl [(0,.agg #[v])] rfl rfl λZ hZ=>?_;have hM:=Mm.nil nF_ w;refine aAu 0 0 1 [] (cs:=#[v]) (T:=24) (v:=λb=>vP b 0) f0 hM λaa w1 hM=>aAw 1 1 4 [(3,.agg #[v])] (fc (lam 24 0 0 1 hM rfl) f0) hM (aCB (hm.fr hM.fr)) λw1 hM=>rt1 2 (vB (!(aAh (aAa os)))) rfl f0 (hZ _ _ ⟨rfl,hM.fr⟩)
theorem aUd {x:α}{b:Bool}{I:Nat->World->Prop}{z:Int}(h:Fst [x] (λ_=>b) I w z):decide (0<=z)=b:=by
  cases h with
  | none h _=>have:=h 0 sI;rw[this];rfl
  | some i h1 h2 _ _=>rw[h2,decide_eq_true oM]
theorem aER (hm:aCt w v os){bl:Nat}(hb:w.heap[bl]?=some (.cells #[v] 24 (0,0))):Calls Tryz.prog 48 #[vL (some ⟨bl,0,none⟩) 1 1] w λe w'=>e=.returned (vB (aAh (aAa os)))/\Fr nF_ w w':=by
  refine beg Tryz.func48 rfl rfl [(0,vL (some ⟨bl,0,none⟩) 1 1)] rfl rfl λZ hZ=>?_;have hM:=Mm.nil nF_ w;refine aAw 1 1 4 [(3,vL (some ⟨bl,0,none⟩) 1 1)] f0 hM ((aPc (caps:=#[]) ((aBL (f:=aXG) (c:=1) (hb.trans rfl) [v] 1 (λ_=>rfl) rfl rfl).b (Fr.refl _ _)) (G:=λ_=>False) (λ_ h=>h.elim) (enters_of Tryz.func92 kR rfl) (λ_ _=>True) (λ_ => !(aAh (aAa os))) trivial (λi x w1 hx _ _ f=>by have hx0:=gl hx;have hi0:i=0:=(by simpa using hx0);subst hi0;cases hx;exact(aGZ (hm.fr f)).mono λe w2 h=>⟨h.1,trivial,h.2⟩)).mono λe w9 h=>⟨by obtain⟨z,h1,h2⟩:=h.1;rw[h1,aUd h2],h.2⟩) λw1 hM=>rt1 2 (vB (!(!(aAh (aAa os))))) rfl f0 (hZ _ _ ⟨by simp,hM.fr⟩)
theorem ptT:ElT Tryz.prog ptL 2 100 29:=⟨λ_=>rfl,by decide,λx u hu=>by
  unfold ptL at hu;simp only[List.mem_cons,List.not_mem_nil,or_false] at hu;rcases hu with rfl|rfl<;>rfl,Tryz.underlying100,aCz kR⟩
def ptOf (l:List Ob)(s:Bys):Option Pt:=match l[(aAr l s).toNat]? with
  | some o=>bif decide (aAr l s<0) || !(o.kind==1) then none else some (o.x,o.y)
  | none=>none
def aA3 (l:List Ob)(o:Ob):Int×List Pt :=
  bif o.kind==1 then(0,[(o.x,o.y)]) else bif (o.kind==2)||(o.kind==3) then(bif o.refs.all λr=>(ptOf l r).isSome then(0,o.refs.map λr=>(ptOf l r).getD (0,0)) else(14,[])) else(13,[])
def aAd (l:List Ob)(s:Bys):Int×List Pt :=
  bif !(aAh l) then(1,[]) else bif decide (aAr l s<0) then(11,[]) else match l[(aAr l s).toNat]? with
    | some o=>aA3 l o
    | none=>(11,[])
theorem aUy {l:List ObR}(h:aAr (aAa l) s=(i:Int)):i<l.length:=by
  obtain⟨k,o,h1,h2,_⟩:=aB5 (l:=aAa l) (id:=s) oM;have:=gl h2;rw[aAT] at this;omega
theorem aGI {l:List ObR}(hv:aAh (aAa l)=true)(h:aAr (aAa l) s=(i:Int))(hy:l[i]?=some y):aAd (aAa l) s=aA3 (aAa l) y.o:=by
  unfold aAd;rw[hv,h,decide_eq_false oM,Int.toNat_natCast,aAK hy];rfl
theorem aHv {l:List ObR}(h:aAr (aAa l) s=(i:Int))(hy:l[i]?=some y):ptOf (aAa l) s=bif !(y.o.kind==1) then none else some (y.o.x,y.o.y):=by
  unfold ptOf;rw[h,decide_eq_false oM,Int.toNat_natCast,aAK hy];rfl
theorem aNF {l:List Ob}(h:aAr l s<0):ptOf l s=none:=by
  unfold ptOf;rw[decide_eq_true h];split<;>rfl
variable{x:Bys}
theorem aL0 {rs:List Bys}{q:Bys->Bool}(h:rs[i]?=some x)(ha:(rs.take i).all q=true)(hx:q x=true):(rs.take (i+1)).all q=true:=by
  rw[gt_ h,List.all_append,ha];simp[hx]
theorem aHt (h:aA1 o=true):o.refs.length<=2000:=by
  unfold aA1 at h;simp only[Ga_,Bool.not_eq_true',decide_eq_false_iff_not] at h;have:=h.1.1.2;omega
theorem aL1 {rs:List Bys}{q:Bys->Bool}(h:rs[i]?=some x)(hx:q x=false):rs.all q=false:=by
  rw[List.all_eq_false];exact⟨x,gm h,by rw[hx];decide⟩
abbrev A76 (Z:Ending->World->Prop):=AtO Tryz.prog (aAv Tryz.f75) (aAI (bodyPost Tryz.prog Tryz.f75 Z)) [] 76
theorem aIu (hm:aCt w v os)(hlen:os.length<=400000000)(s:Bys):Calls Tryz.prog 75 #[.agg #[v],vS s] w λe w'=>∃u,e=.returned (.tuple #[u,vI (aAd (aAa os) s).1])/\Mm nF_ w w' [rw_ ptL 2 29 u (aAd (aAa os) s).2]:=by
  have hm0:=hm;obtain⟨hs0,hob⟩:=hm0;obtain⟨p0,cp0,hp0,sp0⟩:=hs0.op;subst hp0;refine beg Tryz.func75 rfl rfl [(0,.agg #[vL p0 os.length cp0]),(1,vS s)] rfl rfl λZ hZ=>?_;have hM:=Mm.nil nF_ w;refine aAu 0 0 2 [] (cs:=#[vL p0 os.length cp0]) (T:=24) (v:=λb=>vP b 0) f0 hM λac w1 hM=>aAu 1 1 15 [(14,.agg #[vL p0 os.length cp0])] (cs:=#[vL p0 os.length cp0]) (T:=24) (v:=λb=>vL (some ⟨b,0,none⟩) 1 1) (fc (lam 24 0 0 1 hM rfl) f0) hM λae w1 hM=>aAw 1 2 16 [] f0 hM (aER (hm.fr hM.fr) (hM.get 1 rfl)) λw1 hM=>seg 1 4 [(17,vB (!(aAh (aAa os))))] f0 ?_;cases h59:(aAh (aAa os))
  ·exact rt2 4 5 (vL none 0 0) (vI 1) rfl rfl f0 (hZ _ _ ⟨_,by unfold aAd;rw[h59];rfl,by unfold aAd;rw[h59];exact(hM.pick (M':=[]) []).row⟩)
  have hvm:=h59;refine aJd 3 2 21 [(19,.agg #[vL p0 os.length cp0]),(20,vS s)] (K:=λu w8=>∃(i:Nat)(b:Bool),u=.tuple #[vI (i:Int),vB b]/\(b=true->aAr (aAa os) s=(i:Int))/\(b=false->aAr (aAa os) s<0)) (fc (lam 24 0 0 1 hM rfl) f0) hM ((aEw (hm.fr hM.fr) hlen (aAV hvm) s).mono λe w8 ⟨i,b,h1,h2,h3,h4⟩=>⟨⟨_,h1,i,b,rfl,h2,h3⟩,h4⟩) λ_ w1 ⟨i60,am,hv9,ax,hn60⟩ hM f1=>?_;subst hv9;refine seg 4 2 [(6,vI (i60:Int)),(25,vB (!am))] f0 ?_
  cases h61:am with
  | false =>
   have hfi60:=hn60 h61;exact rt2 4 5 (vL none 0 0) (vI 11) rfl rfl f0 (hZ _ _ ⟨_,by unfold aAd;rw[hvm,decide_eq_true hfi60];rfl,by unfold aAd;rw[hvm,decide_eq_true hfi60];exact(hM.pick (M':=[]) []).row⟩)
  | true =>
   have hfi60:=ax h61;have hli60:=aUy hfi60;obtain⟨y62,ad,ba,bb,q62,ay⟩:=sp0.el (i:=i60) oM;refine aBW 6 5 8 [(30,.agg (oY_ y62))] [] 48 (.agg (oY_ y62)) (fc (ldm 22 0 0 hM rfl rfl) (fc (ix 22 cp0 q62 (gl ad)) (fc (la0 48 hM ay) f0))) hM λaf w1 hM=>?_;have hpo:=aGI hvm hfi60 ad;have hrl:=aHt (aCo hvm _ (List.mem_map.2 ⟨_,gm ad,rfl⟩));refine seg 8 2 [(32,vI y62.o.kind),(33,vB (y62.o.kind==1))] (fc (ldm 3 2 1 hM rfl rfl) f0) ?_;cases h64:(y62.o.kind==1)
   rotate_left
   ·refine aAu 9 2 37 [(36,.agg #[vI y62.o.x,vI y62.o.y])] (cs:=#[vI y62.o.x,vI y62.o.y]) (T:=29) (v:=λb=>vL (some ⟨b,0,none⟩) 1 1) (fc (lam 29 2 2 2 hM rfl) f0) hM λaz w1 hM=>?_;have hM:=aH4 hM (f:=ptL) (c:=2) (j:=3) rfl [((y62.o.x,y62.o.y):Pt)] 1 rfl rfl rfl;exact rt2 4 5 (vL (some ⟨az,0,none⟩) 1 1) (vI 0) rfl rfl f0 (hZ _ _ ⟨_,by rw[hpo];unfold aA3;simp only[h64]<;>rfl,by rw[hpo];unfold aA3;simp only[h64];exact hM.pick [3]⟩)
   refine seg 10 2 [(38,vB (y62.o.kind==2))] f0 ?_;cases h65:(y62.o.kind==2)
   rotate_left
   ·have hM:=hM.row (f:=ptL) (c:=2) (E:=29);refine seg 14 0 [(9,vL none 0 0),(42,vL y62.pr y62.o.refs.length y62.cr),(43,vI (y62.o.refs.length:Int)),(44,vI 0)] (fc (ldm 45 2 4 hM rfl rfl) f0) ?_
    have a0:∀(an:Nat)(i:Nat)(vo:Value)(w2:World),i<=y62.o.refs.length->(y62.o.refs.take i).all (λr=>(ptOf (aAa os) r).isSome)=true->Mm nF_ w w2 [bk ac #[vL p0 os.length cp0] 24,bk ae #[vL p0 os.length cp0] 24,bk af (oY_ y62) 48,rw_ ptL 2 29 vo ((y62.o.refs.take i).map λr=>(ptOf (aAa os) r).getD (0,0))]->an=y62.o.refs.length-i->A76 Z (some (14,0)) [(44,vI (i:Int)),(43,vI (y62.o.refs.length:Int)),(42,vL y62.pr y62.o.refs.length y62.cr),(9,vo),(2,vP ac 0)] w2:=by
     refine aCh λan a1 i vo w2 hi ha hM bc=>seg 14 1 [(45,vB (decide ((i:Int)<(y62.o.refs.length:Int))))] f0 ?_;cases h82:(decide ((i:Int)<(y62.o.refs.length:Int)))
     ·have a2:=df h82;have hti:y62.o.refs.take i=y62.o.refs:=Gc_ oM;rw[hti] at ha hM;exact rt2 4 5 vo (vI 0) rfl rfl f0 (hZ _ _ ⟨_,by rw[hpo];unfold aA3;simp only[h64,h65,ha]<;>rfl,by rw[hpo];unfold aA3;simp only[h64,h65,ha];exact hM.pick [3]⟩)
     have a2:=dt h82;have s83:=(hob _ (gm ad)).refs;obtain⟨y84,aa,bd,be,q84,a3⟩:=s83.el (i:=i) oM;refine aJd 16 2 51 [(49,.agg #[vL p0 os.length cp0]),(50,vS y84)] (K:=λu w8=>∃(i:Nat)(b:Bool),u=.tuple #[vI (i:Int),vB b]/\(b=true->aAr (aAa os) y84=(i:Int))/\(b=false->aAr (aAa os) y84<0)) (fc (ix 45 y62.cr q84 (gl aa)) (fc (ld0 9 hM (a3 0 _ rfl)) (fc (lam 24 0 0 1 hM rfl) f0))) hM ((aEw (hm.fr hM.fr) hlen (aAV hvm) y84).mono λe w8 ⟨i,b,h1,h2,h3,h4⟩=>⟨⟨_,h1,i,b,rfl,h2,h3⟩,h4⟩) λ_ w1 ⟨i85,ao,hv9,a4,hn85⟩ hM f1=>?_;subst hv9;refine seg 17 3 [(12,vI (i85:Int)),(56,vB (!ao))] f0 ?_
     cases h86:ao with
     | false =>
      have hfi85:=hn85 h86;have hp9:ptOf (aAa os) y84=none:=aNF hfi85;have ha9:=aL1 (q:=λr=>(ptOf (aAa os) r).isSome) aa (by rw[hp9];rfl);exact rt2 4 5 (vL none 0 0) (vI 14) rfl rfl f0 (hZ _ _ ⟨_,by rw[hpo];unfold aA3;simp only[h64,h65,ha9]<;>rfl,by rw[hpo];unfold aA3;simp only[h64,h65,ha9];exact(hM.pick (M':=[]) []).row⟩)
     | true =>
      have hfi85:=a4 h86;have hli85:=aUy hfi85;obtain⟨y87,ag,bf,bg,q87,aq⟩:=sp0.el (i:=i85) oM;refine seg 17 11 [(64,vB (!(y87.o.kind==1)))] (fc (ldm 22 0 0 hM rfl rfl) (fc (ix 22 cp0 q87 (gl ag)) (fc (ld0 3 hM (aq 1 _ rfl)) f0))) ?_;cases h88:(y87.o.kind==1)
      ·have hp9:ptOf (aAa os) y84=none:=by rw[aHv hfi85 ag];simp only[h88]<;>rfl
       have ha9:=aL1 (q:=λr=>(ptOf (aAa os) r).isSome) aa (by rw[hp9];rfl);exact rt2 4 5 (vL none 0 0) (vI 14) rfl rfl f0 (hZ _ _ ⟨_,by rw[hpo];unfold aA3;simp only[h64,h65,ha9]<;>rfl,by rw[hpo];unfold aA3;simp only[h64,h65,ha9];exact(hM.pick (M':=[]) []).row⟩)
      refine aAu 19 7 72 [(65,vo),(71,.agg #[vI y87.o.x,vI y87.o.y])] (cs:=#[vI y87.o.x,vI y87.o.y]) (T:=29) (v:=λb=>vL (some ⟨b,0,none⟩) 1 1) (fc (ldm 22 0 0 hM rfl rfl) (fc (ix 22 cp0 q87 (gl ag)) (fc (la0 29 hM (rs aq 2 2)) f0))) hM λbh w1 hM=>aU6 19 8 73 [] (cap:=1) dE ptT f0 hM (j:=3) rfl (aCu (f:=ptL) (x:=((y87.o.x,y87.o.y):Pt)) (hM.get 4 rfl) (Nat.lt_succ_self _)) (λh=>by cases h) (by simp only[Gp_,Gq_,Gf_,Gm_];omega) λv90 w1 hM=>?_;obtain⟨ai,aj,e90,-⟩:=(hM.src (j:=3) rfl ptT.len).op;subst e90;refine seg 14 0 [(9,vL ai (((y62.o.refs.take i).map λr=>(ptOf (aAa os) r).getD (0,0))++[((y87.o.x,y87.o.y):Pt)]).length aj),(44,vI ((i:Int)+1))] (fc (aAP (i:Int) 1 u3_) f0) ?_;have hp9:ptOf (aAa os) y84=some (y87.o.x,y87.o.y):=by rw[aHv hfi85 ag];simp only[h88]<;>rfl
      have hM:=hM.pick [0,1,2,3];replace hM:Mm nF_ w _ [bk ac #[vL p0 os.length cp0] 24,bk ae #[vL p0 os.length cp0] 24,bk af (oY_ y62) 48,_]:=hM;obtain⟨u1,hu1⟩:∃z,z=vL ai (((y62.o.refs.take i).map λr=>(ptOf (aAa os) r).getD (0,0))++[((y87.o.x,y87.o.y):Pt)]).length aj:=⟨_,rfl⟩;rw[<-hu1] at hM;have e1:(((y62.o.refs.take i).map λr=>(ptOf (aAa os) r).getD (0,0))++[((y87.o.x,y87.o.y):Pt)])=(y62.o.refs.take (i+1)).map λr=>(ptOf (aAa os) r).getD (0,0):=by rw[gt_ aa,List.map_append];simp only[List.map_cons,List.map_nil,hp9]<;>rfl
      rw[e1,hu1] at hM;exact aAi _ (a1 _ (by have:=gl aa;omega) (i+1) (vL ai (((y62.o.refs.take i).map λr=>(ptOf (aAa os) r).getD (0,0))++[((y87.o.x,y87.o.y):Pt)]).length aj) _ (gl aa) (aL0 aa ha (by rw[hp9];rfl)) hM rfl)
    exact aAi _ (a0 _ 0 (vL none 0 0) _ (Gg_ _) rfl hM rfl)
   refine seg 11 2 [(38,vB (y62.o.kind==3))] f0 ?_;cases h66:(y62.o.kind==3)
   ·exact rt2 4 5 (vL none 0 0) (vI 13) rfl rfl f0 (hZ _ _ ⟨_,by rw[hpo];unfold aA3;simp only[h64,h65,h66]<;>rfl,by rw[hpo];unfold aA3;simp only[h64,h65,h66];exact(hM.pick (M':=[]) []).row⟩)
   have hM:=hM.row (f:=ptL) (c:=2) (E:=29);refine seg 14 0 [(9,vL none 0 0),(42,vL y62.pr y62.o.refs.length y62.cr),(43,vI (y62.o.refs.length:Int)),(44,vI 0)] (fc (ldm 45 2 4 hM rfl rfl) f0) ?_
   have a5:∀(au:Nat)(i:Nat)(vo:Value)(w2:World),i<=y62.o.refs.length->(y62.o.refs.take i).all (λr=>(ptOf (aAa os) r).isSome)=true->Mm nF_ w w2 [bk ac #[vL p0 os.length cp0] 24,bk ae #[vL p0 os.length cp0] 24,bk af (oY_ y62) 48,rw_ ptL 2 29 vo ((y62.o.refs.take i).map λr=>(ptOf (aAa os) r).getD (0,0))]->au=y62.o.refs.length-i->A76 Z (some (14,0)) [(44,vI (i:Int)),(43,vI (y62.o.refs.length:Int)),(42,vL y62.pr y62.o.refs.length y62.cr),(9,vo),(2,vP ac 0)] w2:=by
    refine aCh λau a6 i vo w2 hi ha hM bi=>seg 14 1 [(45,vB (decide ((i:Int)<(y62.o.refs.length:Int))))] f0 ?_;cases h70:(decide ((i:Int)<(y62.o.refs.length:Int)))
    ·have a7:=df h70;have hti:y62.o.refs.take i=y62.o.refs:=Gc_ oM;rw[hti] at ha hM;exact rt2 4 5 vo (vI 0) rfl rfl f0 (hZ _ _ ⟨_,by rw[hpo];unfold aA3;simp only[h64,h65,h66,ha]<;>rfl,by rw[hpo];unfold aA3;simp only[h64,h65,h66,ha];exact hM.pick [3]⟩)
    have a7:=dt h70;have s71:=(hob _ (gm ad)).refs;obtain⟨y72,ab,bj,bl,q72,a8⟩:=s71.el (i:=i) oM;refine aJd 16 2 51 [(49,.agg #[vL p0 os.length cp0]),(50,vS y72)] (K:=λu w8=>∃(i:Nat)(b:Bool),u=.tuple #[vI (i:Int),vB b]/\(b=true->aAr (aAa os) y72=(i:Int))/\(b=false->aAr (aAa os) y72<0)) (fc (ix 45 y62.cr q72 (gl ab)) (fc (ld0 9 hM (a8 0 _ rfl)) (fc (lam 24 0 0 1 hM rfl) f0))) hM ((aEw (hm.fr hM.fr) hlen (aAV hvm) y72).mono λe w8 ⟨i,b,h1,h2,h3,h4⟩=>⟨⟨_,h1,i,b,rfl,h2,h3⟩,h4⟩) λ_ w1 ⟨i73,av,hv9,a9,hn73⟩ hM f1=>?_;subst hv9;refine seg 17 3 [(12,vI (i73:Int)),(56,vB (!av))] f0 ?_
    cases h74:av with
    | false =>
     have hfi73:=hn73 h74;have hp9:ptOf (aAa os) y72=none:=aNF hfi73;have ha9:=aL1 (q:=λr=>(ptOf (aAa os) r).isSome) ab (by rw[hp9];rfl);exact rt2 4 5 (vL none 0 0) (vI 14) rfl rfl f0 (hZ _ _ ⟨_,by rw[hpo];unfold aA3;simp only[h64,h65,h66,ha9]<;>rfl,by rw[hpo];unfold aA3;simp only[h64,h65,h66,ha9];exact(hM.pick (M':=[]) []).row⟩)
    | true =>
     have hfi73:=a9 h74;have hli73:=aUy hfi73;obtain⟨y75,ah,bm,bo,q75,aw⟩:=sp0.el (i:=i73) oM;refine seg 17 11 [(64,vB (!(y75.o.kind==1)))] (fc (ldm 22 0 0 hM rfl rfl) (fc (ix 22 cp0 q75 (gl ah)) (fc (ld0 3 hM (aw 1 _ rfl)) f0))) ?_;cases h76:(y75.o.kind==1)
     ·have hp9:ptOf (aAa os) y72=none:=by rw[aHv hfi73 ah];simp only[h76]<;>rfl
      have ha9:=aL1 (q:=λr=>(ptOf (aAa os) r).isSome) ab (by rw[hp9];rfl);exact rt2 4 5 (vL none 0 0) (vI 14) rfl rfl f0 (hZ _ _ ⟨_,by rw[hpo];unfold aA3;simp only[h64,h65,h66,ha9]<;>rfl,by rw[hpo];unfold aA3;simp only[h64,h65,h66,ha9];exact(hM.pick (M':=[]) []).row⟩)
     refine aAu 19 7 72 [(65,vo),(71,.agg #[vI y75.o.x,vI y75.o.y])] (cs:=#[vI y75.o.x,vI y75.o.y]) (T:=29) (v:=λb=>vL (some ⟨b,0,none⟩) 1 1) (fc (ldm 22 0 0 hM rfl rfl) (fc (ix 22 cp0 q75 (gl ah)) (fc (la0 29 hM (rs aw 2 2)) f0))) hM λbp w1 hM=>aU6 19 8 73 [] (cap:=1) dE ptT f0 hM (j:=3) rfl (aCu (f:=ptL) (x:=((y75.o.x,y75.o.y):Pt)) (hM.get 4 rfl) (Nat.lt_succ_self _)) (λh=>by cases h) (by simp only[Gp_,Gq_,Gf_,Gm_];omega) λv78 w1 hM=>?_;obtain⟨ak,al,e78,-⟩:=(hM.src (j:=3) rfl ptT.len).op;subst e78;refine seg 14 0 [(9,vL ak (((y62.o.refs.take i).map λr=>(ptOf (aAa os) r).getD (0,0))++[((y75.o.x,y75.o.y):Pt)]).length al),(44,vI ((i:Int)+1))] (fc (aAP (i:Int) 1 u3_) f0) ?_;have hp9:ptOf (aAa os) y72=some (y75.o.x,y75.o.y):=by rw[aHv hfi73 ah];simp only[h76]<;>rfl
     have hM:=hM.pick [0,1,2,3];replace hM:Mm nF_ w _ [bk ac #[vL p0 os.length cp0] 24,bk ae #[vL p0 os.length cp0] 24,bk af (oY_ y62) 48,_]:=hM;obtain⟨u1,hu1⟩:∃z,z=vL ak (((y62.o.refs.take i).map λr=>(ptOf (aAa os) r).getD (0,0))++[((y75.o.x,y75.o.y):Pt)]).length al:=⟨_,rfl⟩;rw[<-hu1] at hM;have e1:(((y62.o.refs.take i).map λr=>(ptOf (aAa os) r).getD (0,0))++[((y75.o.x,y75.o.y):Pt)])=(y62.o.refs.take (i+1)).map λr=>(ptOf (aAa os) r).getD (0,0):=by rw[gt_ ab,List.map_append];simp only[List.map_cons,List.map_nil,hp9]<;>rfl
     rw[e1,hu1] at hM;exact aAi _ (a6 _ (by have:=gl ab;omega) (i+1) (vL ak (((y62.o.refs.take i).map λr=>(ptOf (aAa os) r).getD (0,0))++[((y75.o.x,y75.o.y):Pt)]).length al) _ (gl ab) (aL0 ab ha (by rw[hp9];rfl)) hM rfl)
   exact aAi _ (a5 _ 0 (vL none 0 0) _ (Gg_ _) rfl hM rfl)
end Go.Proofs.YtngjlnhojicjeaaGreatDoor
namespace Go.Pl
open Go.RowKit Go.WideMaps
variable{w:World}{o:Obj}{K:TypeId}
section maps3
open Classical
variable{P:Program}
def aUU (P:Program)(K:TypeId)(o:Obj)(n:Nat)(m:Value->Option Value):Prop:=∃es clock,o=.map es clock/\Ents P K es.toList clock m/\es.size<=n
theorem aDS.obj {b n:Nat}{m}(h:aDS P K w b n m):∃o,w.heap[b]?=some o/\aUU P K o n m:=by
 obtain⟨es,c,hb,r⟩:=h;exact⟨_,hb,es,c,rfl,r⟩
theorem aDS.of_obj {b n:Nat}{m}(hb:w.heap[b]?=some o)(h:aUU P K o n m):aDS P K w b n m:=by
 obtain⟨es,c,rfl,r⟩:=h;exact⟨es,c,hb,r⟩
theorem aUU.entry (L:Maps.Keyed P K){t e:TypeId}(ht:P.underlying t=some (.map K e)){m}{n:Nat}(h:aUU P K o n m)(b:Nat){key:Value}{l:Lit}(hk:keyOf P K key=some l){z:Value}(hz:∀w,(zeroValue e).run P w=.ok z w)(v:Value) :
  ∃o1 o2 x s,(∀W:World,W.heap[b]?=some o->(Instr.mapEntry t (.map (some b)) key).run P W=.ok (.tuple #[x,.int .i64 s]) (setBlk W b o1))/\
   (∀W:World,W.heap[b]?=some o1->(Instr.entryStore t (.map (some b)) (.int .i64 s) v).run P W=.ok () (setBlk W b o2))/\aUU P K o2 (n+1) (upd m key v):=by
 obtain⟨es,c,rfl,h,hn⟩:=h;have hall:=λw=>h.find L (w:=w) hk;rcases hall default with⟨_,h2,h3⟩|⟨j,en,_,h2,h3,h4⟩
 ·refine⟨.map (es.push ⟨key,z,c⟩) (c+1),.map (es.push ⟨key,v,c⟩) (c+1),z,c,λW hb=>?_,λW hb=>?_,_,_,rfl,by simpa using h.push hk h3,by simp;omega⟩
  ·have h1:(Instr.findKey K key es.toList).run P W=.ok none W:=by
    rcases hall W with⟨h1,_⟩|⟨j,en,_,g2,g3,_⟩
    ·exact h1
    ·exact absurd g3 (h3 en (Ge_ g2))
   simp[Instr.mapEntry,run_underlying ht,MapKept.run_getObj_map hb,L.check W false hk,h1,hz,MapKept.run_setObj_map _ hb,Result.andThen,setBlk,goInt]
  ·have hs:(es.push ⟨key,z,c⟩).toList.Pairwise (λx y=>x.born≠y.born):=by simpa using(h.push (v:=z) hk h3).stamps
   have hf:(es.push ⟨key,z,c⟩).findIdx? (λe=>(e.born:Int)==(c:Int))=some es.size:=aDI hs (e:=⟨key,z,c⟩) sI
   have hm:(es.push ⟨key,z,c⟩).modify es.size (λe=>{ e with val:=v })=es.push ⟨key,v,c⟩:=by
    apply Array.ext_getElem?;intro i;rw[Array.getElem?_modify,Array.getElem?_push,Array.getElem?_push]
    by_cases hi:i=es.size
    ·subst hi;simp
    ·rw[if_neg oM,if_neg hi,if_neg hi]
   simp[Instr.entryStore,MapKept.run_getObj_map hb,hf,hm,asInt,asIntOf,MapKept.run_setObj_map _ hb,Result.andThen,setBlk]
 ·have hj:j<es.size:=by simpa using(List.getElem?_eq_some_iff.1 h2).1
  have hj2:es[j]=en:=by simpa using(List.getElem?_eq_some_iff.1 h2).2
  have hes:es[j]?=some en:=by simpa using h2
  have hsame:es.modify j (λe=>{ e with key:=key })=es:=by
   apply Array.ext_getElem?;intro i;rw[Array.getElem?_modify]
   by_cases hi:j=i
   ·subst hi;rw[if_pos rfl,hes,<-h3];rfl
   ·rw[if_neg hi]
  refine⟨.map es c,.map (es.modify j λe=>{ e with val:=v }) c,en.val,en.born,λW hb=>?_,λW hb=>?_,_,_,rfl,?_,by simp;omega⟩
  ·have h1:(Instr.findKey K key es.toList).run P W=.ok (some (j,en.val)) W:=by
    rcases hall W with⟨_,_,g3⟩|⟨j',en',g1,g2,g3,g4⟩
    ·exact absurd h3 (g3 en (Ge_ h2))
    ·have:j'=j:=Ents.unique h.apart g2 h2 (g3.trans h3.symm);subst this;rw[h2] at g2;cases g2;exact g1
   have hst:=L.stays W hk;simp[Instr.mapEntry,run_underlying ht,MapKept.run_getObj_map hb,L.check W false hk,h1,hes,h3,hst,hsame,MapKept.run_setObj_map _ hb,Result.andThen,setBlk,goInt]
  ·have hf:es.findIdx? (λe=>(e.born:Int)==(en.born:Int))=some j:=aDI h.stamps hes;simp[Instr.entryStore,MapKept.run_getObj_map hb,hf,asInt,asIntOf,MapKept.run_setObj_map _ hb,Result.andThen,setBlk]
  ·have:(es.modify j λe=>{ e with val:=v }).toList=es.toList.set j { en with key:=key,val:=v }:=by
    apply List.ext_getElem?;intro i;simp only[Array.getElem?_toList,Array.getElem?_modify,List.getElem?_set]
    by_cases hij:j=i
    ·subst hij;simp[hj,hj2,<-h3]
    ·simp[hij]
   rw[this];exact h.set h2 h3
end maps3
def obE (b:Nat)(o:Obj):Ent where
 B k:=k=b
 H w:=w.heap[b]?=some o
 lt h e:=by subst e;exact(Array.getElem?_eq_some_iff.1 h).1
 fr h f hn:=f.obj h (hn _ rfl)
variable{F0:Nat->Prop}{j:Nat}{m:Value->Option Value}
section
variable{P:Program}{w0:World}{M:List Ent}
theorem Mm.toOb (h:Mm F0 w0 w M){b c:Nat}(hj:M[j]?=some (mp P K b c m)):∃o,aUU P K o c m/\Mm F0 w0 w (M.set j (obE b o)):=by
 have hm:aDS P K w b c m:=h.get j hj;obtain⟨o,ho,hn⟩:=hm.obj;exact⟨o,hn,h.put j hj (Fr.refl nF_ _) (λ_ _ h=>h.elim) ho λk e =>.inl e⟩
theorem Mm.ofOb (h:Mm F0 w0 w M){b c:Nat}(hj:M[j]?=some (obE b o))(hn:aUU P K o c m):Mm F0 w0 w (M.set j (mp P K b c m)):=by
 have ho:w.heap[b]?=some o:=h.get j hj;exact h.put j hj (Fr.refl nF_ _) (λ_ _ h=>h.elim) (aDS.of_obj ho hn) λk e =>.inl e
end
variable{B:Code}
section
variable{P:Program}{w0:World}{rd:Option Nat}{r n:Nat}{L:Frm}{ef:List Nat}{V:Lts->List (Option Value)}{F:Lts->List Ft}{ds:List Deferred}{Mf:Lts->List Bool->List Ent}
theorem aYk (p i d:Nat)(T:TypeId)(j b:Nat)(o o1:Obj)(key x:Value)(s:Int)
  (hr:∀W:World,W.heap[b]?=some o->(Instr.mapEntry T (.map (some b)) key).run P W=.ok (.tuple #[x,.int .i64 s]) (setBlk W b o1))
  (hj:∀γ fr,(Mf γ (flg B r ef i fr))[j]?=some (obE b o):=by intro γ fr;kernel_rfl)
  (hm:∀γ fr,(Mf γ (flg B r ef i fr)).set j (obE b o1)=Mf (aBK γ p (.tuple #[x,.int .i64 s])) ((flg B r ef i fr).set p true):=by intro γ fr;kernel_rfl)
  (hV:∀γ,((V (aBK γ p (.tuple #[x,.int .i64 s])))[p]?).getD none=some (.tuple #[x,.int .i64 s]):=by intro γ;rfl)
  (hs:∀γ,aUO (aA9 B r) i (frX P w n B r L ef V F i γ)=aUN (aA9 B r) i (λx y =>.mapEntry T x y) (.map (some b)) key (some d):=by intro γ;kernel_rfl):Arm rd P w n B r L ef V F ds F0 w0 Mf p i:=by
 intro γ fr a wm Q o' ho En hw hM;obtain⟨u,y,h1,h2,h3,h4⟩:=aK8 ho En (hs γ);have hb:wm.heap[b]?=some o:=hM.get j (hj γ fr);have hlt:=(Array.getElem?_eq_some_iff.1 hb).1;have hM':=hM.put (w':=setBlk wm b o1) j (e':=obE b o1) (hj γ fr) ((Fr.refl (λr=>r=b) wm).setBlk (λ_=>rfl) o1) (λk _ e=>e) (aCR hlt o1) (λk e =>.inl e);rw[hm] at hM';refine aDz (v := .tuple #[x,.int .i64 s]) (w':=setBlk wm b o1) (by simp only[execOp,h1,h2,h3,Sem.run_bind,hr wm hb,Result.andThen_ok,Sem.run_pure]) ⟨.tuple #[x,.int .i64 s],γ.e p,by rw[aAy,hV,h4];rfl,by rw[aAy];exact hM'⟩
theorem aYm (p i:Nat)(T:TypeId)(j b:Nat)(o1 o2:Obj)(s:Int)(v:Value)
  (hr:∀W:World,W.heap[b]?=some o1->(Instr.entryStore T (.map (some b)) (.int .i64 s) v).run P W=.ok () (setBlk W b o2))
  (hj:∀γ fr,(Mf γ (flg B r ef i fr))[j]?=some (obE b o1):=by intro γ fr;kernel_rfl)
  (hm:∀γ fr,(Mf γ (flg B r ef i fr)).set j (obE b o2)=Mf (aBK γ p undef) ((flg B r ef i fr).set p true):=by intro γ fr;kernel_rfl)
  (hV:∀γ,((V (aBK γ p undef))[p]?).getD none=none:=by intro γ;rfl)
  (hs:∀γ,aUM (aA9 B r) i (frX P w n B r L ef V F i γ)=aUL (aA9 B r) i (λx y z =>.entryStore T x y z) (.map (some b)) (.int .i64 s) v none:=by intro γ;kernel_rfl):Arm rd P w n B r L ef V F ds F0 w0 Mf p i:=by
 intro γ fr a wm Q o' ho E hw hM;obtain⟨x,y,z,h1,h2,h3,h4,h5⟩:=aK7 ho E (hs γ);have hb:wm.heap[b]?=some o1:=hM.get j (hj γ fr);have hlt:=(Array.getElem?_eq_some_iff.1 hb).1;have hM':=hM.put (w':=setBlk wm b o2) j (e':=obE b o2) (hj γ fr) ((Fr.refl (λr=>r=b) wm).setBlk (λ_=>rfl) o2) (λk _ e=>e) (aCR hlt o2) (λk e =>.inl e);rw[hm] at hM';exact aGV (w':=setBlk wm b o2) (by simp only[execOp,h1,h2,h3,h4,Sem.run_bind,hr wm hb,Result.andThen_ok,Sem.run_pure]) h5 ⟨undef,γ.e p,by rw[aAy,hV];rfl,by rw[aAy];exact hM'⟩
end
section
variable{P:Program}{fn:Func}{Φ:Ending->World->Prop}{n:Nat}{p:Option (Nat×Nat)}{L:Frm}{F:List Ft}
theorem aXD (t:Nat)(T:TypeId){g:Nat}(v:Value)(hr:fn.results=#[.cell t T])(hv:(Instr.loadAt T (vP g 0)).run P w=.ok v w)(hF:aBg P w F)(k:Φ (.returned v) w)(h:aPG (go P w n B p L 1000000 0 F) [(t,vP g 0)] L=aMw (go P w n B p L 1000000 0 F) [(t,vP g 0)]:=by kernel_rfl):AtO P B (aAI (bodyPost P fn Φ)) [] n p L w :=
 aRp [(t,vP g 0)] hF h λa E=>by
  have hv':a.eval (.tmp t)=vP g 0:=E.at_ t _ (by simp[Go.Pl.look])
  have key:∃u,(results fn a.tmps).run P w=.ok u w/\Φ (.returned u) w:=⟨v,by
   have hl:a.tmps.getD t undef=vP g 0:=hv';simp only[Instr.loadAt,Instr.sureAddr,Sem.run_bind,Sem.run_pure,Result.andThen_ok] at hv;have hl':a.tmps[t]?.getD undef=vP g 0:=by simpa using hl
   simp[results,hr,hl',asAddr,hv],k⟩
  exact⟨⟨E.df,key⟩,⟨E.df,key⟩⟩
theorem aZ0 (T:TypeId){e:TypeId}{b n:Nat}(ht:P.underlying T=some (.map K e))(h:aDS P K w b n m):∃c:Nat,c<=n/\∀w',w'.heap[b]?=w.heap[b]?->Ft.ok P w' (.g1 (λx =>.call ⟨.builtin .len,#[x],#[T]⟩) (.map (some b)) (vI c)):=by
 obtain⟨c,h1,_,h2⟩:=h.len ht;refine⟨c,h1,λw' hw o ρ x ho hx=>?_⟩;have:=h2 w' o.type hw;simp[execOp,ho,hx,resolve,invoke,builtin,this,Result.andThen]
end
end Go.Pl
namespace Go.Proofs.YtngjlnhojicjeaaGreatDoor
open Go.RowKit Go.Pl
def bxI (b:Pt×Pt)(L:List Pt):Pt×Pt:=L.foldl (λb p=>((min b.1.1 p.1,min b.1.2 p.2),(max b.2.1 p.1,max b.2.2 p.2))) b
def aAc (L:List Pt):Pt×Pt:=bxI (L.headD (0,0),L.headD (0,0)) L
theorem aRA (b:Pt×Pt)(L:List Pt)(p:Pt):bxI b (L++[p])=((min (bxI b L).1.1 p.1,min (bxI b L).1.2 p.2),(max (bxI b L).2.1 p.1,max (bxI b L).2.2 p.2)):=by unfold bxI;rw[List.foldl_append];rfl
theorem aUa {L:List Pt}{p:Pt}(h:L[0]?=some p):L.headD (0,0)=p:=by cases L with|nil=>cases h|cons a l=>cases h;rfl
abbrev bxV (b:Pt×Pt):Value := .agg #[vI b.1.1,vI b.1.2,vI b.2.1,vI b.2.2]
abbrev A59 (Z:Ending->World->Prop):=AtO Tryz.prog (aAv Tryz.f58) (aAI (bodyPost Tryz.prog Tryz.f58 Z)) [] 49
variable{w:World}
theorem aFb {p:Option Addr}{cap:Nat}{L:List Pt}(hs:SrcP ptL 2 w p cap L)(h0:0<L.length):Calls Tryz.prog 58 #[vL p L.length cap] w λe w'=>e=.returned (bxV (aAc L))/\Fr nF_ w w':=by
  have bb:=hs.bnd;refine beg Tryz.func58 rfl rfl [(0,vL p L.length cap)] rfl rfl λY hY=>?_;have hM:=Mm.nil nF_ w;refine aAu 0 0 2 [] (cs:=#[vI 0,vI 0,vI 0,vI 0]) (T:=97) (v:=λb=>vP b 0) f0 hM λab w1 hM=>seg 1 0 [] f0 ?_;obtain⟨p0,hp0,aj,ak,q94,ac⟩:=hs.el (i:=0) oM;have hM:=hM.nl;refine drx [7,8] (λZ=>[some (vP (bn (Z 0)) 0),none]) _ (λZ l=>[bk ab #[vI 0,vI 0,vI 0,vI 0] 97,(bif l.getD 1 false then bk (bn (Z 0)) #[vI p0.1,vI p0.2,vI p0.1,vI p0.2] 97 else(bif l.getD 0 false then bk (bn (Z 0)) #[vI 0,vI 0,vI 0,vI 0] 97 else aEB))]) (λZ=>[(3,vP (bn (Z 0)) 0)]) hM (λZ=>rfl) (λZ l w5 hM=>(fc (ix 100 cap q94 (gl hp0)) (fc (la0 29 hM ac) (fc (ix 100 cap q94 (gl hp0)) (fc (la0 29 hM ac) f0))))) ⟨aDb 0 7 1 3 (λZ=>#[vI 0,vI 0,vI 0,vI 0]) 97 (λb=>vP b 0),aC2 1 8 97 1 0 (λZ=>(bn (Z 0))) (λZ l=>#[vI 0,vI 0,vI 0,vI 0]) 97 (λZ =>.agg #[vI p0.1,vI p0.2,vI p0.1,vI p0.2]),trivial⟩ λaa w1 hM=>?_;replace hM:Mm nF_ w w1 [bk ab #[vI 0,vI 0,vI 0,vI 0] 97,bk (bn (aa 0)) #[vI p0.1,vI p0.2,vI p0.1,vI p0.2] 97]:=hM;have hhd:=aUa hp0;refine seg 3 0 [(13,vL p L.length cap),(14,vI (L.length:Int)),(15,vI 0)] f0 ?_
  have ae:∀(ad:Nat)(i:Nat)(B:Pt×Pt)(w2:World),i<=L.length->B=bxI (p0,p0) (L.take i)->Mm nF_ w w2 [bk ab #[vI 0,vI 0,vI 0,vI 0] 97,bk (bn (aa 0)) #[vI B.1.1,vI B.1.2,vI B.2.1,vI B.2.2] 97]->ad=L.length-i->A59 Y (some (3,0)) [(15,vI (i:Int)),(14,vI (L.length:Int)),(13,vL p L.length cap),(3,vP (bn (aa 0)) 0),(2,vP ab 0)] w2:=by
   refine aCh λad af i B w2 hi hB hM al=>seg 3 1 [(16,vB (decide ((i:Int)<(L.length:Int))))] f0 ?_;cases h99:(decide ((i:Int)<(L.length:Int)))
   ·have ag:=df h99;refine stm 8 1 [(48,.agg #[vI B.1.1,vI B.1.2,vI B.2.1,vI B.2.2])] 97 0 0 (.agg #[vI B.1.1,vI B.1.2,vI B.2.1,vI B.2.2]) (fc (lam 97 1 0 4 hM rfl) f0) hM rfl λw1 hM=>?_;have hl9:=aBi 97 0 (P:=Tryz.prog) (n:=4) hM rfl rfl;exact aXD 2 97 (bxV B) rfl hl9 f0 (hY _ _ ⟨by unfold aAc;rw[hhd,hB,Gc_ oM],hM.fr⟩)
   have ag:=dt h99;obtain⟨y,hy,am,an,ah,ai⟩:=hs.el (i:=i) oM;refine aBW 4 2 5 [(18,.agg #[vI y.1,vI y.2])] [] 29 (.agg #[vI y.1,vI y.2]) (fc (ix 100 cap ah (gl hy)) (fc (la0 29 hM ai) f0)) hM λao w1 hM=>stm 5 14 [(31,.agg #[vI (min B.1.1 y.1),vI (min B.1.2 y.2)]),(32,vP (bn (aa 0)) 0)] 29 1 0 (.agg #[vI (min B.1.1 y.1),vI (min B.1.2 y.2)]) (fc (ldm 3 1 0 hM rfl rfl) (fc (ldm 3 2 0 hM rfl rfl) (fc (aSS 3 B.1.1 y.1) (fc (ldm 3 1 1 hM rfl rfl) (fc (ldm 3 2 1 hM rfl rfl) (fc (aSS 3 B.1.2 y.2) f0)))))) hM rfl λw1 hM=>stm 6 14 [(45,.agg #[vI (max B.2.1 y.1),vI (max B.2.2 y.2)]),(46,vP (bn (aa 0)) 2)] 29 1 2 (.agg #[vI (max B.2.1 y.1),vI (max B.2.2 y.2)]) (fc (ldm 3 1 2 hM rfl rfl) (fc (ldm 3 2 0 hM rfl rfl) (fc (aVj 3 B.2.1 y.1) (fc (ldm 3 1 3 hM rfl rfl) (fc (ldm 3 2 1 hM rfl rfl) (fc (aVj 3 B.2.2 y.2) f0)))))) hM rfl λw1 hM=>seg 3 0 [(15,vI ((i:Int)+1))] (fc (aAP (i:Int) 1 u3_) f0) ?_;have hM:=hM.pick [0,1];exact aAi _ (af _ (by have:=gl hy;omega) (i+1) ((min B.1.1 y.1,min B.1.2 y.2),(max B.2.1 y.1,max B.2.2 y.2)) _ (gl hy) (by rw[gt_ hy,aRA,<-hB]) hM rfl)
  exact aAi _ (ae _ 0 (p0,p0) _ (Gg_ _) rfl hM rfl)
theorem aTP :Calls Tryz.prog 74 #[] w λe w'=>∃ix mb,e=.returned (vP ix 0)/\Mm nF_ w w' [bk ix #[.map (some mb),.pointer none,.bool false] 182,mp Tryz.prog 9 mb 0 (λ_=>none)]:=by
  refine beg Tryz.func74 rfl rfl [] rfl rfl λZ hZ=>?_;have hM:=Mm.nil nF_ w;refine aOf 1 0 1 [] 9 f0 hM λaa w1 hM=>aAu 1 2 3 [(2,.agg #[.map (some aa),.pointer none,vB false])] (cs:=#[.map (some aa),.pointer none,vB false]) (T:=182) (v:=λb=>vP b 0) f0 hM λab w1 hM=>rt1 0 (vP ab 0) rfl f0 (hZ _ _ ⟨_,_,rfl,hM.pick [1,0]⟩)
abbrev bAw (Z:Ending->World->Prop):=AtO Tryz.prog (aAv Tryz.f193) (aAI (bodyPost Tryz.prog Tryz.f193 Z)) [] 19
variable{B:Nat}{caps:Array Value}{G:Nat->Prop}
theorem aMs {p:Option Addr}{cap:Nat}{L:List Int}{f:FuncId}(hs:SrcB inL 1 w B p cap L)(hG:∀k,G k->B<=k)(eg:aJe Tryz.prog f)(I:Nat->World->Prop)(q:Nat->Bool)(h0:I 0 w)(step:∀i x w1,L[i]?=some x->(∀j,j<i->q j=false)->I i w1->Fr G w w1->Calls Tryz.prog f (#[vI x]++caps) w1 λe w2=>e=.returned (vB (q i))/\I (i+1) w2/\Fr G w1 w2):Calls Tryz.prog 193 #[vL p L.length cap,.func (.func f) #[] caps] w λe w'=>(∃z,e=.returned (vI z)/\Fst L q I w' z)/\Fr G w w':=by
  have bb:=hs.bnd;refine beg Tryz.func193 rfl rfl [(0,vL p L.length cap),(1,.func (.func f) #[] caps)] rfl rfl λZ hZ=>?_;have hM:=Mm.nil G w;refine seg 2 0 [(7,vI (L.length:Int)),(8,vI 0)] f0 ?_
  have af:∀(ab:Nat)(i:Nat)(w2:World),i<=L.length->(∀j,j<i->q j=false)->I i w2->Mm G w w2 []->ab=L.length-i->bAw Z (some (2,0)) [(8,vI (i:Int)),(7,vI (L.length:Int)),(0,vL p L.length cap),(1,.func (.func f) #[] caps)] w2:=by
   refine aCh λab ag i w2 hi hq hI hM ak=>seg 2 1 [(9,vB (decide ((i:Int)<(L.length:Int))))] f0 ?_;cases ac:(decide ((i:Int)<(L.length:Int)))
   ·have ah:=df ac;exact rt1 4 (vI (-1)) rfl f0 (hZ _ _ ⟨⟨_,rfl,.end_ oM hq hI⟩,hM.fr⟩)
   have ah:=dt ac;obtain⟨ad,aa,al,am,ai,aj,n108⟩:=(hs).eb hG (i:=i) oM;refine aUo 4 5 16 [(5,vI (i:Int)),(11,.func (.func f) #[] caps),(15,vI ad)] #[3] (K:=λu w9=>u=vB (q i)/\I (i+1) w9/\Fr G w2 w9) dE (fc (ix 167 cap ai (gl aa)) (fc (ld0 3 hM (aj 0 _ rfl) n108) f0)) eg ((step i ad _ aa hq hI hM.fr).mono λe w9 h=>⟨_,h.1,rfl,h.2⟩) λu w1 ⟨hu,hI,f1⟩=>?_;subst hu;have hM:=hM.g f1;cases ae:(q i)
   ·refine seg 2 0 [(8,vI ((i:Int)+1))] (fc (aAP (i:Int) 1 u3_) f0) (aAi _ (ag _ oM (i+1) _ (gl aa) (λj hj=>by rcases Nat.lt_succ_iff_lt_or_eq.1 hj with h|h;exact hq j h;rw[h];exact ae) hI hM rfl))
   exact rt1 4 (vI (i:Int)) rfl f0 (hZ _ _ ⟨⟨_,rfl,.some i (gl aa) ae hq hI⟩,hM.fr⟩)
  exact aAi _ (af _ 0 _ (Gg_ _) (λ_ h=>absurd h (Nat.not_lt_zero _)) h0 hM rfl)
theorem aPd {p:Option Addr}{cap:Nat}{L:List Int}{f:FuncId}(hs:SrcB inL 1 w B p cap L)(hG:∀k,G k->B<=k)(eg:aJe Tryz.prog f)(I:Nat->World->Prop)(q:Nat->Bool)(h0:I 0 w)(step:∀i x w1,L[i]?=some x->(∀j,j<i->q j=false)->I i w1->Fr G w w1->Calls Tryz.prog f (#[vI x]++caps) w1 λe w2=>e=.returned (vB (q i))/\I (i+1) w2/\Fr G w1 w2):Calls Tryz.prog 148 #[vL p L.length cap,.func (.func f) #[] caps] w λe w'=>(∃z,e=.returned (vB (decide (0<=z)))/\Fst L q I w' z)/\Fr G w w':=by
  refine beg Tryz.func148 rfl rfl [(0,vL p L.length cap),(1,.func (.func f) #[] caps)] rfl rfl λZ hZ=>?_;have hM:=Mm.nil G w;refine cal 1 2 7 [(5,vL p L.length cap),(6,.func (.func f) #[] caps)] (K:=λu w8=>∃z,u=vI z/\Fst L q I w8 z/\Fr G w w8) f0 ((aMs hs hG eg I q h0 step).mono λe w9 h=>⟨_,h.1.choose_spec.1,_,rfl,h.1.choose_spec.2,h.2⟩) λu w1 ⟨z,hu,hz,f1⟩=>?_;subst hu;have hM:=hM.g f1;exact rt1 4 (vB (decide (0<=z))) rfl f0 (hZ _ _ ⟨⟨_,rfl,hz⟩,hM.fr⟩)
def aMG (n:Int):Bool:=decide (n < -2097152)||decide (2097152<n)
theorem aHa (n:Int):Calls Tryz.prog 149 #[vI n] w λe w'=>e=.returned (vB (aMG n))/\Fr nF_ w w':=by
  refine beg Tryz.func149 rfl rfl [(0,vI n)] rfl rfl λZ hZ=>?_;have hM:=Mm.nil nF_ w;refine seg 1 3 [(5,vB (decide (n<(-2097152))))] f0 ?_;cases aa:(decide (n<(-2097152)))
  ·exact rt1 2 (vB (decide (2097152<n))) rfl f0 (hZ _ _ ⟨by unfold aMG;simp only[aa]<;>rfl,hM.fr⟩)
  exact rt1 2 (vB true) rfl f0 (hZ _ _ ⟨by unfold aMG;simp only[aa]<;>rfl,hM.fr⟩)
variable{α:Type}
def atQ (L:List α)(q:α->Bool)(i:Nat):Bool:=match L[i]? with|some x=>q x|none=>false
theorem aHC {L:List α}{q:α->Bool}{I:Nat->World->Prop}{z:Int}(h:Fst L (atQ L q) I w z):decide (0<=z)=L.any q:=by
  cases h with
  | none hq _ =>
    have:L.any q=false:=by
      rw[List.any_eq_false];intro x hx;obtain⟨i,hi,rfl⟩:=List.mem_iff_getElem.1 hx;have:=hq i hi;unfold atQ at this;simp only[Gb_ hi] at this;rw[this];simp
    rw[this];rfl
  | some i hi hw _ _ =>
    unfold atQ at hw;simp only[Gb_ hi] at hw;have:L.any q=true:=List.any_eq_true.2 ⟨_,List.getElem_mem hi,hw⟩;rw[this,decide_eq_true oM]
theorem aH8 {p:Option Addr}{cap:Nat}{L:List Int}(hs:SrcP inL 1 w p cap L):Calls Tryz.prog 106 #[vL p L.length cap] w λe w'=>e=.returned (vB (!(L.any aMG)))/\Fr nF_ w w':=by
  refine beg Tryz.func106 rfl rfl [(0,vL p L.length cap)] rfl rfl λZ hZ=>?_;have hM:=Mm.nil nF_ w;refine aAw 1 1 4 [(3,vL p L.length cap)] f0 hM ((aPd (caps:=#[]) (hs.b hM.fr) (G:=λ_=>False) (λ_ h=>h.elim) (enters_of Tryz.func149 kR rfl) (λ_ _=>True) (atQ L aMG) trivial (λi x w1 hx _ _ f=>(aHa x).mono λe w2 h=>⟨by rw[h.1];unfold atQ;simp only[hx],trivial,h.2⟩)).mono λe w9 h=>⟨by obtain⟨z,h1,h2⟩:=h.1;rw[h1,aHC h2],h.2⟩) λw1 hM=>rt1 2 (vB (!(L.any aMG))) rfl f0 (hZ _ _ ⟨by rfl,hM.fr⟩)
theorem aZu (b k:Nat) :Ft.ok Tryz.prog w (.g2 (λx y =>.binOp .eql 91 x y 91) (vP b k) (.pointer none) (vB false)):=λo ρ x y ho hx hy=>by
 simp[execOp,ho,hx,hy,go_sem]
def bxF (m:Bys->Option (Pt×Pt)):Value->Option Value
 | .string s=>(m s.toList).map bxV
 | _=>none
theorem aS9 (m:Bys->Option (Pt×Pt))(s:Bys):bxF m (vS s)=(m s).map bxV:=by
 show(m (ofL s).toList).map bxV=_;rw[aAF]
theorem aUq:(λ_=>none)=bxF (λ_=>none):=by funext v;cases v<;>rfl
def aHT (m:Bys->Option (Pt×Pt))(s:Bys)(b:Pt×Pt):Bys->Option (Pt×Pt):=λt=>if t=s then some b else m t
theorem aUp (m:Bys->Option (Pt×Pt))(s:Bys)(b:Pt×Pt):upd (bxF m) (vS s) (bxV b)=bxF (aHT m s b):=by
 funext v
 by_cases hv:v=vS s
 ·subst hv;rw[aS9];unfold aHT;simp[upd]
 ·unfold upd;rw[if_neg hv]
  cases v with
  | string t =>
   show(m t.toList).map bxV=(aHT m s b t.toList).map bxV;unfold aHT;rw[if_neg];intro e;apply hv;show Value.string t=.string (ofL s);rw[<-e,ofL_of]
  | _=>rfl
theorem aYb (m:Bys->Option (Pt×Pt))(s:Bys):(.tuple #[(bxF m (vS s)).getD (bxV ((0,0),(0,0))),.bool (bxF m (vS s)).isSome]:Value)=.tuple #[bxV ((m s).getD ((0,0),(0,0))),vB (m s).isSome]:=by
 rw[aS9];cases m s<;>rfl
theorem aRJ (w:World):(zeroValue 97).run Tryz.prog w=.ok (bxV ((0,0),(0,0))) w:=by kernel_rfl
end Go.Proofs.YtngjlnhojicjeaaGreatDoor
namespace Go.Pl
open Go.RowKit Go.Proofs.YtngjlnhojicjeaaGreatDoor
variable{F0:Nat->Prop}
section
variable{P:Program}{w w0:World}{rd:Option Nat}{B:Code}{r n:Nat}{L:Frm}{ef:List Nat}{V:Lts->List (Option Value)}{F:Lts->List Ft}{ds:List Deferred}{Mf:Lts->List Bool->List Ent}
theorem aW8 (p i j d:Nat)(K:TypeId)
  (hj:∀γ fr,(Mf γ (flg B r ef i fr))[j]?=some aEB:=by intro γ fr;kernel_rfl)
  (hm:∀γ fr (b:Nat),(Mf γ (flg B r ef i fr)).set j (mp P K b 0 λ_=>none)=Mf (aBK γ p (vI (b:Int))) ((flg B r ef i fr).set p true):=by intro γ fr b;kernel_rfl)
  (hV:∀γ (b:Nat),((V (aBK γ p (vI (b:Int))))[p]?).getD none=some (.map (some b)):=by intro γ b;rfl)
  (hs:∀γ wm,opX P wm (aA9 B r) i (frX P w n B r L ef V F i γ)=some (some d,.ok (.value (.map (some wm.heap.size)),wm.alloc (.map #[] 0))):=by intro γ wm;kernel_rfl):Arm rd P w n B r L ef V F ds F0 w0 Mf p i:=by
 intro γ fr a wm Q o ho E hw hM;obtain⟨h1,h2⟩:=aRZ ho E (hs γ wm);have hM':=hM.put j (hj γ fr) ((Fr.refl nF_ wm).alloc (.map #[] 0)) (λk _ e=>e.elim) (e':=mp P K wm.heap.size 0 λ_=>none) (aDS.made wm) λk e =>.inr (by have:k=wm.heap.size:=e;omega);rw[hm] at hM';exact aDz h2 ⟨_,γ.e p,by rw[aAy,hV,h1];rfl,by rw[aAy];exact hM'⟩
theorem aPs (p i j d:Nat){f:FuncId}(args:Lts->Array Value)(K:Nat->Ent->Prop)
  (hc:∀γ fr wm,Mm F0 w0 wm (Mf γ (flg B r ef i fr))->Calls P f (args γ) wm λx w'=>∃u e,x=.returned (vP u 0)/\K u e/\Mm nF_ wm w' [e])
  (hj:∀γ fr,(Mf γ (flg B r ef i fr))[j]?=some aEB:=by intro γ fr;kernel_rfl)
  (hm:∀γ fr (u:Nat) e,(Mf γ (flg B r ef i fr)).set j (pfE (K u) e)=Mf (aFl (aBK γ p (vI (u:Int))) p e) ((flg B r ef i fr).set p true):=by intro γ fr u e;kernel_rfl)
  (hV:∀γ (u:Nat) e,((V (aFl (aBK γ p (vI (u:Int))) p e))[p]?).getD none=some (vP u 0):=by intro γ u e;rfl)
  (hs:∀γ wm,enL P wm (aA9 B r) i (frX P w n B r L ef V F i γ)=some (f,args γ,some d,wm):=by intro γ wm;kernel_rfl):Arm rd P w n B r L ef V F ds F0 w0 Mf p i:=by
 intro γ fr a wm Q o ho En hw hM;obtain⟨h1,h2⟩:=aIG ho En (hs γ wm);refine aCA (R:=λv w'=>∃u e,v=vP u 0/\K u e/\Mm nF_ wm w' [e]) h1 ((hc γ fr wm hM).mono λx w' ⟨u,e,g1,g2,g3⟩=>⟨_,g1,u,e,rfl,g2,g3⟩) λv w' ⟨u,e,hv,g2,g3⟩=>?_;subst hv
 have hM':=hM.put (w':=w') j (hj γ fr) g3.fr (λk _ e=>e.elim) (e':=pfE (K u) e) ⟨g2,g3.get 0 rfl⟩ (λk hk =>.inr (by
  rcases Nat.lt_or_ge k wm.heap.size with h|h
  ·exact(g3.own e (.head _) k hk h).elim
  ·exact h))
 rw[hm] at hM';exact⟨vI (u:Int),e,by rw[hV,h2];rfl,hM'⟩
def tp0:Value->Value
 | .tuple a=>a.getD 0 .nilIface
 | _ =>.nilIface
def tp1:Value->Int
 | .tuple a=>match a.getD 1 .nilIface with
  | .int _ z=>z
  | _=>0
 | _=>0
theorem aHP (p i j d:Nat){f:FuncId}(args:Lts->Array Value)(K:Value->Int->Ent->Prop)
  (hc:∀γ fr wm,Mm F0 w0 wm (Mf γ (flg B r ef i fr))->Calls P f (args γ) wm λx w'=>∃u z e,x=.returned (.tuple #[u,vI z])/\K u z e/\Mm nF_ wm w' [e])
  (hj:∀γ fr,(Mf γ (flg B r ef i fr))[j]?=some aEB:=by intro γ fr;kernel_rfl)
  (hm:∀γ fr u (z:Int) e,(Mf γ (flg B r ef i fr)).set j (pfE (K u z) e)=Mf (aFl (aBK γ p (.tuple #[u,vI z])) p e) ((flg B r ef i fr).set p true):=by intro γ fr u z e;kernel_rfl)
  (hV:∀γ u (z:Int) e,((V (aFl (aBK γ p (.tuple #[u,vI z])) p e))[p]?).getD none=some (.tuple #[u,vI z]):=by intro γ u z e;rfl)
  (hs:∀γ wm,enL P wm (aA9 B r) i (frX P w n B r L ef V F i γ)=some (f,args γ,some d,wm):=by intro γ wm;kernel_rfl):Arm rd P w n B r L ef V F ds F0 w0 Mf p i:=by
 intro γ fr a wm Q o ho En hw hM;obtain⟨h1,h2⟩:=aIG ho En (hs γ wm);refine aCA (R:=λv w'=>∃u z e,v=.tuple #[u,vI z]/\K u z e/\Mm nF_ wm w' [e]) h1 ((hc γ fr wm hM).mono λx w' ⟨u,z,e,g1,g2,g3⟩=>⟨_,g1,u,z,e,rfl,g2,g3⟩) λv w' ⟨u,z,e,hv,g2,g3⟩=>?_;subst hv
 have hM':=hM.put (w':=w') j (hj γ fr) g3.fr (λk _ e=>e.elim) (e':=pfE (K u z) e) ⟨g2,g3.get 0 rfl⟩ (λk hk =>.inr (by
  rcases Nat.lt_or_ge k wm.heap.size with h|h
  ·exact(g3.own e (.head _) k hk h).elim
  ·exact h))
 rw[hm] at hM';exact⟨.tuple #[u,vI z],e,by rw[hV,h2];rfl,hM'⟩
theorem aPt (p i j d:Nat){f:FuncId}(args:Lts->Array Value)(e0:Lts->Ent)(K:Value->Ent->Prop)
  (hc:∀γ fr wm,Mm F0 w0 wm (Mf γ (flg B r ef i fr))->Mm (BlM [e0 γ]) wm wm [e0 γ]->Calls P f (args γ) wm λx w'=>∃u e,x=.returned u/\K u e/\Mm (BlM [e0 γ]) wm w' [e])
  (hj:∀γ fr,(Mf γ (flg B r ef i fr))[j]?=some (e0 γ):=by intro γ fr;kernel_rfl)
  (hm:∀γ fr u e,(Mf γ (flg B r ef i fr)).set j (pfE (K u) e)=Mf (aFl (aBK γ p u) p e) ((flg B r ef i fr).set p true):=by intro γ fr u e;kernel_rfl)
  (hV:∀γ u e,((V (aFl (aBK γ p u) p e))[p]?).getD none=some u:=by intro γ u e;rfl)
  (hs:∀γ wm,enL P wm (aA9 B r) i (frX P w n B r L ef V F i γ)=some (f,args γ,some d,wm):=by intro γ wm;kernel_rfl):Arm rd P w n B r L ef V F ds F0 w0 Mf p i:=by
 intro γ fr a wm Q o ho En hw hM;obtain⟨h1,h2⟩:=aIG ho En (hs γ wm);have h1M:Mm (BlM [e0 γ]) wm wm [e0 γ]:=⟨Fr.refl _ _,λx hx=>by rw[Gd_] at hx;subst hx;exact hM.get j (hj γ fr),λx hx k hk _=>⟨x,hx,hk⟩,List.pairwise_singleton _ _⟩;refine aCA (R:=λu w'=>∃e,K u e/\Mm (BlM [e0 γ]) wm w' [e]) h1 ((hc γ fr wm hM h1M).mono λx w' ⟨u,e,g1,g2,g3⟩=>⟨u,g1,e,g2,g3⟩) λu w' ⟨e,g2,g⟩=>?_
 have hB:∀k,BlM [e0 γ] k->(e0 γ).B k:=λk hk=>by
  obtain⟨x,hx,hk⟩:=hk;rw[Gd_] at hx;subst hx;exact hk
 have hM':=hM.put (w':=w') j (hj γ fr) g.fr (λk _ h=>hB k h) (e':=pfE (K u) e) ⟨g2,g.get 0 rfl⟩ (λk hk=>by
  by_cases hlt:k<wm.heap.size
  ·exact .inl (hB k (g.own _ (.head _) k hk hlt))
  ·exact .inr oM)
 rw[hm] at hM';exact⟨u,e,by rw[hV,h2];rfl,hM'⟩
end
section
variable{w0 w:World}
theorem Mm.ung {A Ms C:List Ent}(h:Mm F0 w0 w (A++aBQ Ms::C)):Mm F0 w0 w (A++(Ms++C)):=by
 obtain⟨n1,n2,n3⟩:=List.pairwise_append.1 h.nd;obtain⟨n4,n5⟩:=List.pairwise_cons.1 n2;have hg:(aBQ Ms).H w:=h.at_ _ (List.mem_append_right _ (.head _));refine⟨h.fr,λx hx=>?_,λx hx k hk hl=>?_,?_⟩
 ·rcases List.mem_append.1 hx with hx|hx
  ·exact h.at_ x (Gs_ _ hx)
  ·rcases List.mem_append.1 hx with hx|hx
   ·exact hg.1 x hx
   ·exact h.at_ x (List.mem_append_right _ (.tail _ hx))
 ·rcases List.mem_append.1 hx with hx|hx
  ·exact h.own x (Gs_ _ hx) k hk hl
  ·rcases List.mem_append.1 hx with hx|hx
   ·exact h.own (aBQ Ms) (List.mem_append_right _ (.head _)) k ⟨x,hx,hk⟩ hl
   ·exact h.own x (List.mem_append_right _ (.tail _ hx)) k hk hl
 ·refine List.pairwise_append.2 ⟨n1,List.pairwise_append.2 ⟨hg.2,n5,λx hx y hy k hk=>n4 y hy k ⟨x,hx,hk⟩⟩,λx hx y hy k hk hk'=>?_⟩;rcases List.mem_append.1 hy with hy|hy
  ·exact n3 x hx (aBQ Ms) (.head _) k hk ⟨y,hy,hk'⟩
  ·exact n3 x hx y (.tail _ hy) k hk hk'
end
end Go.Pl
namespace Go.Proofs.YtngjlnhojicjeaaGreatDoor
open Go.RowKit Go.Pl
def sgL (s:Pt×Pt):List Value:=[vI s.1.1,vI s.1.2,vI s.2.1,vI s.2.2]
theorem sgT:ElT Tryz.prog sgL 4 99 126:=⟨λ_=>rfl,by decide,λx u hu=>by
 unfold sgL at hu;simp only[List.mem_cons,List.not_mem_nil,or_false] at hu;rcases hu with rfl|rfl|rfl|rfl<;>rfl,Tryz.underlying99,aCz kR⟩
abbrev ixG (ix mb:Nat)(rv:Value)(pk:Bool)(nb:Nat)(m:Bys->Option (Pt×Pt)):Ent:=aBQ [bk ix #[.map (some mb),rv,vB pk] 182,mp Tryz.prog 9 mb nb (bxF m)]
def aWU (b:Nat)(e:Ent):Prop:=∃mb,e=ixG b mb (.pointer none) false 0 (λ_=>none)
variable{w:World}
theorem aVX :Calls Tryz.prog 74 #[] w λe w'=>∃u e',e=.returned (vP u 0)/\aWU u e'/\Mm nF_ w w' [e'] :=
 aTP.mono λe w' ⟨ix,mb,h1,h2⟩=>⟨_,_,h1,⟨mb,rfl⟩,by rw[aUq] at h2;exact aDc (A:=[]) h2⟩
theorem aLe {o:Ob}(h:aA1 o=true):aGM o.kind<=(o.refs.length:Int):=by
 unfold aA1 at h;simp only[Ga_,Bool.not_eq_true',decide_eq_false_iff_not] at h;have:=h.1.1.1.2;omega
variable{s:Bys}
theorem aND {l:List Ob}(hv:aAh l=true)(h:(aAd l s).1=0):0<(aAd l s).2.length:=by
 unfold aAd at h ⊢;rw[hv] at h ⊢
 cases hd:decide (aAr l s<0) with
 | true=>rw[hd] at h;cases h
 | false =>
  rw[hd] at h;simp only[Bool.not_true,cond_false] at h ⊢
  cases ho:l[(aAr l s).toNat]? with
  | none=>rw[ho] at h;cases h
  | some o =>
   rw[ho] at h;simp only at h ⊢;unfold aA3 at h ⊢;have hvo:=aCo hv o (Ge_ ho)
   cases h1:o.kind==1 with
   | true=>simp
   | false =>
    rw[h1] at h;simp only[cond_false] at h ⊢
    cases h2:(o.kind==2)||(o.kind==3) with
    | false=>rw[h2] at h;cases h
    | true =>
     rw[h2] at h;simp only[cond_true] at h ⊢
     cases ha:o.refs.all λr=>(ptOf l r).isSome with
     | false=>rw[ha] at h;cases h
     | true =>
      simp only[cond_true,Gp_];have:=aLe hvo;rw[Bool.or_eq_true] at h2;rcases h2 with h2|h2
      ·rw[et h2] at this;have:(2:Int)<=o.refs.length:=this;omega
      ·rw[et h2] at this;have:(3:Int)<=o.refs.length:=this;omega
theorem aV7 {l:List Ob}(hv:aAh l=true):(aAd l s).2.length<=2000:=by
 unfold aAd;rw[hv]
 cases hd:decide (aAr l s<0) with
 | true=>simp
 | false =>
  simp only[Bool.not_true,cond_false]
  cases ho:l[(aAr l s).toNat]? with
  | none=>simp
  | some o =>
   have h2:=aHt (aCo hv o (Ge_ ho));simp only;unfold aA3
   cases h1:o.kind==1 with
   | true=>simp
   | false =>
    cases h3:(o.kind==2)||(o.kind==3) with
    | false=>simp
    | true =>
     cases ha:o.refs.all λr=>(ptOf l r).isSome with
     | false=>simp
     | true=>simp only[cond_false,cond_true,Gp_];exact h2
variable{G:Nat->Prop}
theorem aI3 {ix mb n:Nat}{rv:Value}{pk:Bool}{m:Bys->Option (Pt×Pt)}(hM0:Mm G w w [bk ix #[.map (some mb),rv,vB pk] 182,mp Tryz.prog 9 mb n (bxF m)])(hs:B63 s){b:Pt×Pt}(hv:([b.1.1,b.1.2,b.2.1,b.2.2].any aMG)=false)(hx:(decide (b.2.1<b.1.1))=false)(hy:(decide (b.2.2<b.1.2))=false)(hms:(m s).isSome=false)(hn:n<1000000):Calls Tryz.prog 76 #[vP ix 0,vS s,bxV b] w λe w'=>e=.returned (vI 0)/\Mm G w w' [bk ix #[.map (some mb),rv,vB false] 182,mp Tryz.prog 9 mb (n+1) (bxF (aHT m s b))]:=by
  refine beg Tryz.func76 rfl rfl [(0,vP ix 0),(1,vS s),(2,.agg #[vI b.1.1,vI b.1.2,vI b.2.1,vI b.2.2])] rfl rfl λY hY=>?_;have hM:=hM0;refine aAu 0 0 5 [] (cs:=#[vI b.1.1,vI b.1.2,vI b.2.1,vI b.2.2]) (T:=97) (v:=λb=>vP b 0) f0 hM λaa w1 hM=>aAu 1 15 24 [(11,vB false),(14,vI b.1.1),(17,vI b.1.2),(20,vI b.2.1),(23,vI b.2.2)] (cs:=#[vI b.1.1,vI b.1.2,vI b.2.1,vI b.2.2]) (T:=3) (v:=λb=>vL (some ⟨b,0,none⟩) 4 4) (fc (aZu ix 0) (fc (ldm 3 2 0 hM rfl rfl) (fc (ldm 3 2 1 hM rfl rfl) (fc (ldm 3 2 2 hM rfl rfl) (fc (ldm 3 2 3 hM rfl rfl) f0))))) hM λab w1 hM=>aAw 1 16 25 [] f0 hM (aH8 (L:=[b.1.1,b.1.2,b.2.1,b.2.2]) (aBL (f:=inL) (c:=1) (hM.get 3 rfl) [b.1.1,b.1.2,b.2.1,b.2.2] 4 (λ_=>rfl) rfl rfl)) λw1 hM=>seg 1 20 [(28,vB (!(!([b.1.1,b.1.2,b.2.1,b.2.2].any aMG))))] f0 ?_;cases ad:([b.1.1,b.1.2,b.2.1,b.2.2].any aMG)
  rotate_left
  ·exact absurd (ad.symm.trans hv) dE
  refine seg 1 29 [(37,vB (decide (b.2.1<b.1.1)))] (fc (ldm 3 2 0 hM rfl rfl) (fc (ldm 3 2 2 hM rfl rfl) f0)) ?_;cases ae:(decide (b.2.1<b.1.1))
  rotate_left
  ·exact absurd (ae.symm.trans hx) dE
  refine seg 1 37 [(45,vB (decide (b.2.2<b.1.2)))] (fc (ldm 3 2 1 hM rfl rfl) (fc (ldm 3 2 3 hM rfl rfl) f0)) ?_;cases af:(decide (b.2.2<b.1.2))
  rotate_left
  ·exact absurd (af.symm.trans hy) dE
  refine aBW 3 9 7 [(53,.agg #[vI ((m s).getD ((0,0),(0,0))).1.1,vI ((m s).getD ((0,0),(0,0))).1.2,vI ((m s).getD ((0,0),(0,0))).2.1,vI ((m s).getD ((0,0),(0,0))).2.2]),(54,vB (m s).isSome)] [] 97 (.agg #[vI ((m s).getD ((0,0),(0,0))).1.1,vI ((m s).getD ((0,0),(0,0))).1.2,vI ((m s).getD ((0,0),(0,0))).2.1,vI ((m s).getD ((0,0),(0,0))).2.2]) (fc (ldm 180 0 0 hM rfl rfl) (fc (rz2 (lko 180 1 (vS s) (bxV ((0,0),(0,0))) hM rfl aEi u180_ (aE2 hs) (aRJ _)) (aYb m s)) f0)) hM λac w1 hM=>seg 4 1 [(55,vB (m s).isSome)] f0 ?_
  cases ag:(m s).isSome with
  | false =>
   obtain⟨cl,hcl,hlf⟩:=aZ0 180 u180_ (hM.get 1 rfl);have hcn:((cl:Int)==1000000)=false:=beq_eq_false_iff_ne.2 oM;refine seg 6 6 [(61,vB ((cl:Int)==1000000))] (fc (ldm 180 0 0 hM rfl rfl) (fc (hlf _ rfl) f0)) ?_;cases ah:((cl:Int)==1000000)
   rotate_left
   ·exact absurd (ah.symm.trans hcn) dE
   obtain⟨ob,hob,hM⟩:=hM.toOb (j:=1) rfl;obtain⟨ob1,ob2,xo,so,hr1,hr2,hob2⟩:=hob.entry aEi u180_ mb (aE2 hs).choose_spec aRJ (bxV b);refine seg 8 0 [] f0 (drx [3,7,9,12] (λZ=>[some (.map (some mb)),some (.tuple #[xo,vI so]),none,none]) _ (λZ l=>[bk ix #[.map (some mb),rv,(bif l.getD 3 false then vB false else vB pk)] 182,(bif l.getD 2 false then obE mb ob2 else(bif l.getD 1 false then obE mb ob1 else obE mb ob)),bk aa #[vI b.1.1,vI b.1.2,vI b.2.1,vI b.2.2] 97,bk ab #[vI b.1.1,vI b.1.2,vI b.2.1,vI b.2.2] 3,bk ac #[vI ((m s).getD ((0,0),(0,0))).1.1,vI ((m s).getD ((0,0),(0,0))).1.2,vI ((m s).getD ((0,0),(0,0))).2.1,vI ((m s).getD ((0,0),(0,0))).2.2] 97]) (λZ=>[]) hM (λZ=>rfl) (λZ l w5 hM=>(fc (lam 97 2 0 4 hM rfl) f0)) ⟨aU0 0 3 180 0 0 65 (λZ=>ix) (λZ l=>#[.map (some mb),rv,(bif l.getD 3 false then vB false else vB pk)]) 182 (λZ =>.map (some mb)),aYk 1 7 69 180 1 mb ob ob1 (vS s) xo so hr1,aYm 2 9 180 1 mb ob1 ob2 so (.agg #[vI b.1.1,vI b.1.2,vI b.2.1,vI b.2.2]) hr2,aC2 3 12 4 0 2 (λZ=>ix) (λZ l=>#[.map (some mb),rv,(bif l.getD 3 false then vB false else vB pk)]) 182 (λZ=>vB false),trivial⟩ λai w1 hM=>?_);replace hM:Mm G w w1 [bk ix #[.map (some mb),rv,vB false] 182,_,bk aa #[vI b.1.1,vI b.1.2,vI b.2.1,vI b.2.2] 97,bk ab #[vI b.1.1,vI b.1.2,vI b.2.1,vI b.2.2] 3,bk ac #[vI ((m s).getD ((0,0),(0,0))).1.1,vI ((m s).getD ((0,0),(0,0))).1.2,vI ((m s).getD ((0,0),(0,0))).2.1,vI ((m s).getD ((0,0),(0,0))).2.2] 97]:=hM;have hM:=hM.ofOb (j:=1) rfl hob2;rw[aUp] at hM;exact rt1 6 (vI 0) rfl f0 (hY _ _ ⟨rfl,hM.pick [0,1]⟩)
  | true =>
   exact absurd (ag.symm.trans hms) dE
theorem aSb {x y:Int}(h:onB x y=true):(0<=x/\x<=1048575)/\(0<=y/\y<=1048575):=by
 unfold onB at h;simp only[Ga_,decide_eq_true_eq] at h;omega
theorem aTp {l:List Ob}{p:Pt}(hv:aAh l=true)(h:ptOf l s=some p):(0<=p.1/\p.1<=1048575)/\(0<=p.2/\p.2<=1048575):=by
 unfold ptOf at h
 cases ho:l[(aAr l s).toNat]? with
 | none=>rw[ho] at h;cases h
 | some o =>
  rw[ho] at h;simp only at h
  cases hk:decide (aAr l s<0) || !(o.kind==1) with
  | true=>rw[hk] at h;cases h
  | false =>
   rw[hk] at h;have h1:=(Bool.or_eq_false_iff.1 hk).2;have hvo:=aCo hv o (Ge_ ho);unfold aA1 at hvo;simp only[Ga_] at hvo;have h2:=hvo.2;rw[show(o.kind==1)=true by simpa using h1] at h2;simp only[cond_true,Ga_] at h2;cases h;exact aSb h2.2
theorem aNE {l:List Ob}(hv:aAh l=true):∀p∈(aAd l s).2,(0<=p.1/\p.1<=1048575)/\(0<=p.2/\p.2<=1048575):=by
 intro p hp;unfold aAd at hp;rw[hv] at hp
 cases hd:decide (aAr l s<0) with
 | true=>rw[hd] at hp;cases hp
 | false =>
  rw[hd] at hp;simp only[Bool.not_true,cond_false] at hp
  cases ho:l[(aAr l s).toNat]? with
  | none=>rw[ho] at hp;cases hp
  | some o =>
   rw[ho] at hp;simp only at hp;have hvo:=aCo hv o (Ge_ ho);unfold aA3 at hp
   cases h1:o.kind==1 with
   | true =>
    rw[h1] at hp;simp only[cond_true,Gd_] at hp;subst hp;unfold aA1 at hvo;simp only[Ga_] at hvo;have h2:=hvo.2;rw[h1] at h2;simp only[cond_true,Ga_] at h2;exact aSb h2.2
   | false =>
    rw[h1] at hp
    cases h3:(o.kind==2)||(o.kind==3) with
    | false=>rw[h3] at hp;cases hp
    | true =>
     rw[h3] at hp
     cases ha:o.refs.all λr=>(ptOf l r).isSome with
     | false=>rw[ha] at hp;cases hp
     | true =>
      rw[ha] at hp;simp only[cond_false,cond_true,List.mem_map] at hp;obtain⟨r,hr,rfl⟩:=hp;obtain⟨q,hq⟩:=Option.isSome_iff_exists.1 (List.all_eq_true.1 ha r hr);rw[hq];exact aTp hv hq
theorem aS8 {lo hi:Int}:∀(L:List Pt)(b:Pt×Pt),(∀p∈L,(lo<=p.1/\p.1<=hi)/\(lo<=p.2/\p.2<=hi))->(lo<=b.1.1/\b.1.1<=b.2.1/\b.2.1<=hi)/\(lo<=b.1.2/\b.1.2<=b.2.2/\b.2.2<=hi)->(lo<=(bxI b L).1.1/\(bxI b L).1.1<=(bxI b L).2.1/\(bxI b L).2.1<=hi)/\(lo<=(bxI b L).1.2/\(bxI b L).1.2<=(bxI b L).2.2/\(bxI b L).2.2<=hi)
 | [],_,_,hb=>hb
 | p::L,b,hL,hb=>by
  have hp:=hL p (.head _);have e:bxI b (p::L)=bxI ((min b.1.1 p.1,min b.1.2 p.2),(max b.2.1 p.1,max b.2.2 p.2)) L:=rfl;rw[e];refine aS8 L _ (λq hq=>hL q (.tail _ hq)) ?_;simp only;omega
theorem aIU {lo hi:Int}{L:List Pt}(h0:0<L.length)(hL:∀p∈L,(lo<=p.1/\p.1<=hi)/\(lo<=p.2/\p.2<=hi)):(lo<=(aAc L).1.1/\(aAc L).1.1<=(aAc L).2.1/\(aAc L).2.1<=hi)/\(lo<=(aAc L).1.2/\(aAc L).1.2<=(aAc L).2.2/\(aAc L).2.2<=hi):=by
 cases L with
 | nil=>cases h0
 | cons p L =>
  have hp:=hL p (.head _);exact aS8 (p::L) (p,p) hL (by simp only;omega)
theorem aPk {L:List Pt}(h0:0<L.length)(hL:∀p∈L,(0<=p.1/\p.1<=1048575)/\(0<=p.2/\p.2<=1048575)):([(aAc L).1.1,(aAc L).1.2,(aAc L).2.1,(aAc L).2.2].any aMG)=false/\(decide ((aAc L).2.1<(aAc L).1.1))=false/\(decide ((aAc L).2.2<(aAc L).1.2))=false:=by
 have h:=aIU h0 hL;refine⟨?_,decide_eq_false oM,decide_eq_false oM⟩;unfold aMG;simp only[List.any_cons,List.any_nil,Bool.or_false,Bool.or_eq_false_iff,decide_eq_false_iff_not];omega
def aH5 (k:Int)(P:List Pt)(i:Nat):List (Pt×Pt):=bif decide (0<(((i:Int)+1)%(P.length:Int))) || !(k==2) then[(P.getD i (0,0),P.getD ((i+1)%P.length) (0,0))] else[]
def aEX (k:Int)(P:List Pt):List (Pt×Pt):=(List.range P.length).flatMap (aH5 k P)
structure ShR where
 b:Nat
 o:ObR
 lp:Option Addr
 lc:Nat
 pp:Option Addr
 pc:Nat
abbrev ShR.P (l:List Ob)(s:ShR):List Pt:=(aAd l s.o.o.id).2
abbrev ShR.L (l:List Ob)(s:ShR):List (Pt×Pt):=aEX s.o.o.kind (s.P l)
def shE (l:List Ob)(s:ShR):Ent:=aBQ [bk s.b #[vS s.o.o.id,vI s.o.o.kind,vI s.o.o.x,vI s.o.o.y,vL s.o.pr s.o.o.refs.length s.o.cr,vL s.o.pt s.o.o.tags.length s.o.ct,vL s.lp (s.L l).length s.lc,vL s.pp (s.P l).length s.pc] 102,rw_ sgL 4 126 (vL s.lp (s.L l).length s.lc) (s.L l),rw_ ptL 2 29 (vL s.pp (s.P l).length s.pc) (s.P l)]
noncomputable def shF (S:List ShR):Value->Option Value:=S.foldl (λm s=>upd m (vS s.o.o.id) (vP s.b 0)) λ_=>none
def bxS (l:List Ob)(S:List ShR):Bys->Option (Pt×Pt):=S.foldl (λm s=>aHT m s.o.o.id (aAc (s.P l))) λ_=>none
theorem aPZ (S:List ShR)(s:ShR):shF (S++[s])=upd (shF S) (vS s.o.o.id) (vP s.b 0):=by unfold shF;rw[List.foldl_append];rfl
theorem aR8 (l:List Ob)(S:List ShR)(s:ShR):bxS l (S++[s])=aHT (bxS l S) s.o.o.id (aAc (s.P l)):=by unfold bxS;rw[List.foldl_append];rfl
variable{S:List ShR}
theorem aR9 {l:List Ob}{id:Bys}(h:∀s∈S,s.o.o.id≠id):(bxS l S id).isSome=false:=by
 have key:∀(S:List ShR)(m:Bys->Option (Pt×Pt)),(∀s∈S,s.o.o.id≠id)->(m id).isSome=false->(S.foldl (λm s=>aHT m s.o.o.id (aAc (s.P l))) m id).isSome=false:=by
  intro S
  induction S with
  | nil=>intro m _ hm;exact hm
  | cons s S ih =>
   intro m hS hm;refine ih _ (λx hx=>hS x (.tail _ hx)) ?_;show(if id=s.o.o.id then some (aAc (s.P l)) else m id).isSome=false;rw[if_neg λe=>hS s (.head _) e.symm];exact hm
 exact key S _ h rfl
variable{F0:Nat->Prop}
theorem aUx {w0:World}{A Ms G:List Ent}(h:Mm F0 w0 w (A++(aBQ Ms::G))):Mm F0 w0 w (A++[aBQ (Ms++[aBQ G])]):=by
 have h1:Mm F0 w0 w ((A++Ms)++G):=by rw[Gl_];exact h.ung
 have h2:=aDc h1;rw[Gl_] at h2;exact aDc h2
def aE1 (l:List Ob)(os:List ObR)(S:List ShR):Prop:=S.map (·.o)=os.filter λb=>(aAd l b.o.id).1==0
variable{i:Nat}{y:ObR}{os:List ObR}
theorem aPX {l:List Ob}(h:aE1 l (os.take i) S)(hy:os[i]?=some y)(hp:((aAd l y.o.id).1==0)=true){s:ShR}(hs:s.o=y):aE1 l (os.take (i+1)) (S++[s]):=by
 unfold aE1 at h ⊢;rw[gt_ hy,List.filter_append,List.map_append,h];simp[hp,hs]
theorem aTd {l:List Ob}(h:aE1 l (os.take i) S)(hy:os[i]?=some y)(hp:((aAd l y.o.id).1==0)=false):aE1 l (os.take (i+1)) S:=by
 unfold aE1 at h ⊢;rw[gt_ hy,List.filter_append,h];simp[hp]
theorem aPY {l:List Ob}(hpw:(aAa os).Pairwise λx y=>blt x.id y.id=true)(h:aE1 l (os.take i) S)(hy:os[i]?=some y):∀s∈S,s.o.o.id≠y.o.id:=by
 intro s hs e;have h1:s.o∈(os.take i).filter λb=>(aAd l b.o.id).1==0:=by rw[<-h];exact List.mem_map.2 ⟨s,hs,rfl⟩
 have h2:=(List.mem_filter.1 h1).1;obtain⟨j,hj⟩:=List.getElem?_of_mem h2;have hji:j<i:=by have:=gl hj;rw[Gq_] at this;omega
 rw[List.getElem?_take_of_lt hji] at hj;have hpw2:os.Pairwise λx y=>blt x.o.id y.o.id=true:=by unfold aAa at hpw;exact List.pairwise_map.1 hpw
 have h3:=List.pairwise_iff_getElem.1 hpw2 j i (gl hj) (gl hy) hji;have e1:os[j]'(gl hj)=s.o:=Gh_ ((Gb_ (gl hj)).symm.trans hj);have e2:os[i]'(gl hy)=y:=Gh_ ((Gb_ (gl hy)).symm.trans hy);rw[e1,e2,e,aA0] at h3;cases h3
inductive CdR where
  | mk (op:Int) (key val:Bys) (n:Int) (p:Option Addr) (cap:Nat) (kids:List CdR)
def CdR.op:CdR->Int|.mk o _ _ _ _ _ _=>o
def CdR.key:CdR->Bys|.mk _ k _ _ _ _ _=>k
def CdR.val:CdR->Bys|.mk _ _ v _ _ _ _=>v
def CdR.n:CdR->Int|.mk _ _ _ n _ _ _=>n
def CdR.p:CdR->Option Addr|.mk _ _ _ _ p _ _=>p
def CdR.cap:CdR->Nat|.mk _ _ _ _ _ c _=>c
def CdR.kids:CdR->List CdR|.mk _ _ _ _ _ _ l=>l
def cdL (c:CdR):List Value:=[vI c.op,vS c.key,vS c.val,vI c.n,vL c.p c.kids.length c.cap]
def CdB (w:World)(B:Nat):Nat->CdR->Prop
  | 0,_=>False
  | h+1,c=>B63 c.key/\B63 c.val/\SrcB cdL 5 w B c.p c.cap c.kids/\∀k∈c.kids,CdB w B h k
variable{B:Nat}
theorem _root_.Go.Pl.SrcB.g {α:Type}{f:α->List Value}{c:Nat}{w':World}{p:Option Addr}{cap:Nat}{L:List α}(h:SrcB f c w B p cap L)(hG:∀k,G k->B<=k)(f1:Fr G w w')(hB:B<=w.heap.size):SrcB f c w' B p cap L :=
  ⟨h.le,h.ca,h.at_.fr (f1.mono λr hr hg=>hg) λr hr hg=>by have:=hG r hg;omega,h.nil⟩
theorem CdB.g {w':World}(hG:∀k,G k->B<=k)(f1:Fr G w w')(hB:B<=w.heap.size):∀{h:Nat}{c:CdR},CdB w B h c->CdB w' B h c
  | 0,_,hc=>hc
  | _+1,_,⟨a,b,s,k⟩=>⟨a,b,s.g hG f1 hB,λx hx=>(k x hx).g hG f1 hB⟩
def aDM {σ:Type}(f:CdR->σ->Bool×σ):List CdR->σ->Bool×σ
  | [],s=>(true,s)
  | k::l,s=>bif (f k s).1 then aDM f l (f k s).2 else(false,(f k s).2)
def aBw {σ:Type}(vis:CdR->σ->Bool×σ):Nat->CdR->σ->Bool×σ
  | 0,_,s=>(true,s)
  | h+1,c,s=>bif (vis c s).1 then aDM (aBw vis h) c.kids (vis c s).2 else(false,(vis c s).2)
variable{σ:Type}
def stK (f:CdR->σ->Bool×σ)(l:List CdR)(s:σ):σ:=l.foldl (λs k=>(f k s).2) s
def qK (f:CdR->σ->Bool×σ)(l:List CdR)(s:σ)(i:Nat):Bool:=match l[i]? with
  | some k => !(f k (stK f (l.take i) s)).1
  | none=>false
variable{k:CdR}
theorem aK6 {f:CdR->σ->Bool×σ}{l:List CdR}{s:σ}(h:l[i]?=some k):stK f (l.take (i+1)) s=(f k (stK f (l.take i) s)).2:=by
  unfold stK;rw[gt_ h,List.foldl_append];rfl
theorem aJ8 {f:CdR->σ->Bool×σ}{l:List CdR}{s:σ}:qK f (k::l) s (i+1)=qK f l (f k s).2 i:=by
  unfold qK;rw[List.getElem?_cons_succ,List.take_succ_cons];rfl
theorem aIa {σ:Type}{f:CdR->σ->Bool×σ}:∀{l:List CdR}{s:σ},(∀j,j<l.length->qK f l s j=false)->aDM f l s=(true,stK f l s)
  | [],_,_=>rfl
  | k::l,s,h=>by
    have h0:(f k s).1=true:=by have:=h 0 sI;unfold qK at this;simpa[stK] using this
    have:=aIa (l:=l) (s:=(f k s).2) λj hj=>by rw[<-aJ8];exact h (j+1) (by simpa using hj)
    unfold aDM;rw[h0,cond_true,this];rfl
theorem aKz {σ:Type}{f:CdR->σ->Bool×σ}:∀{l:List CdR}{s:σ}{i:Nat},i<l.length->qK f l s i=true->(∀j,j<i->qK f l s j=false)->aDM f l s=(false,stK f (l.take (i+1)) s)
  | [],_,_,h,_,_=>absurd h (Nat.not_lt_zero _)
  | k::l,s,0,_,h,_=>by
    have h0:(f k s).1=false:=by unfold qK at h;simpa[stK] using h
    unfold aDM;rw[h0];rfl
  | k::l,s,i+1,hl,h,hj=>by
    have h0:(f k s).1=true:=by have:=hj 0 oM;unfold qK at this;simpa[stK] using this
    rw[aJ8] at h;have:=aKz (l:=l) (s:=(f k s).2) (by simpa using hl) h λj hj2=>by rw[<-aJ8];exact hj (j+1) oM
    unfold aDM;rw[h0,cond_true,this];rfl
abbrev aYx (Z:Ending->World->Prop):=AtO Tryz.prog (aAv Tryz.f138) (aAI (bodyPost Tryz.prog Tryz.f138 Z)) [] 19
abbrev cY_ (c:CdR):Array Value:=#[vI c.op,vS c.key,vS c.val,vI c.n,vL c.p c.kids.length c.cap]
variable{caps:Array Value}
theorem aMu {p:Option Addr}{cap:Nat}{L:List CdR}{f:FuncId}(hs:SrcB cdL 5 w B p cap L)(hG:∀k,G k->B<=k)(eg:aJe Tryz.prog f)(I:Nat->World->Prop)(q:Nat->Bool)(h0:I 0 w)(step:∀i x w1,L[i]?=some x->(∀j,j<i->q j=false)->I i w1->Fr G w w1->Calls Tryz.prog f (#[vA (cdL x)]++caps) w1 λe w2=>e=.returned (vB (q i))/\I (i+1) w2/\Fr G w1 w2):Calls Tryz.prog 138 #[vL p L.length cap,.func (.func f) #[] caps] w λe w'=>(∃z,e=.returned (vI z)/\Fst L q I w' z)/\Fr G w w':=by
  have bb:=hs.bnd;refine beg Tryz.func138 rfl rfl [(0,vL p L.length cap),(1,.func (.func f) #[] caps)] rfl rfl λZ hZ=>?_;have hM:=Mm.nil G w;refine seg 2 0 [(7,vI (L.length:Int)),(8,vI 0)] f0 ?_
  have ac:∀(ab:Nat)(i:Nat)(w2:World),i<=L.length->(∀j,j<i->q j=false)->I i w2->Mm G w w2 []->ab=L.length-i->aYx Z (some (2,0)) [(8,vI (i:Int)),(7,vI (L.length:Int)),(0,vL p L.length cap),(1,.func (.func f) #[] caps)] w2:=by
   refine aCh λab ad i w2 hi hq hI hM ag=>seg 2 1 [(9,vB (decide ((i:Int)<(L.length:Int))))] f0 ?_;cases h43:(decide ((i:Int)<(L.length:Int)))
   ·have ae:=df h43;exact rt1 4 (vI (-1)) rfl f0 (hZ _ _ ⟨⟨_,rfl,.end_ oM hq hI⟩,hM.fr⟩)
   have ae:=dt h43;obtain⟨y44,aa,ah,ai,q44,af,n44⟩:=(hs).eb hG (i:=i) oM;refine aUo 4 5 16 [(5,vI (i:Int)),(11,.func (.func f) #[] caps),(15,.agg (cY_ y44))] #[27] (K:=λu w9=>u=vB (q i)/\I (i+1) w9/\Fr G w2 w9) dE (fc (ix 25 cap q44 (gl aa)) (fc (la0 27 hM af n44) f0)) eg ((step i y44 _ aa hq hI hM.fr).mono λe w9 h=>⟨_,h.1,rfl,h.2⟩) λu w1 ⟨hu,hI,f1⟩=>?_;subst hu;have hM:=hM.g f1;cases h45:(q i)
   ·refine seg 2 0 [(8,vI ((i:Int)+1))] (fc (aAP (i:Int) 1 u3_) f0) (aAi _ (ad _ oM (i+1) _ (gl aa) (λj hj=>by rcases Nat.lt_succ_iff_lt_or_eq.1 hj with h|h;exact hq j h;rw[h];exact h45) hI hM rfl))
   exact rt1 4 (vI (i:Int)) rfl f0 (hZ _ _ ⟨⟨_,rfl,.some i (gl aa) h45 hq hI⟩,hM.fr⟩)
  exact aAi _ (ac _ 0 _ (Gg_ _) (λ_ h=>absurd h (Nat.not_lt_zero _)) h0 hM rfl)
theorem aGm {p:Option Addr}{cap:Nat}{L:List CdR}{f:FuncId}(hs:SrcB cdL 5 w B p cap L)(hG:∀k,G k->B<=k)(eg:aJe Tryz.prog f)(I:Nat->World->Prop)(q:Nat->Bool)(h0:I 0 w)(step:∀i x w1,L[i]?=some x->(∀j,j<i->q j=false)->I i w1->Fr G w w1->Calls Tryz.prog f (#[vA (cdL x)]++caps) w1 λe w2=>e=.returned (vB (q i))/\I (i+1) w2/\Fr G w1 w2):Calls Tryz.prog 86 #[vL p L.length cap,.func (.func f) #[] caps] w λe w'=>(∃z,e=.returned (vB (decide (0<=z)))/\Fst L q I w' z)/\Fr G w w':=by
  refine beg Tryz.func86 rfl rfl [(0,vL p L.length cap),(1,.func (.func f) #[] caps)] rfl rfl λZ hZ=>?_;have hM:=Mm.nil G w;refine cal 1 2 7 [(5,vL p L.length cap),(6,.func (.func f) #[] caps)] (K:=λu w8=>∃z,u=vI z/\Fst L q I w8 z/\Fr G w w8) f0 ((aMu hs hG eg I q h0 step).mono λe w9 h=>⟨_,h.1.choose_spec.1,_,rfl,h.1.choose_spec.2,h.2⟩) λu w1 ⟨z,hu,hz,f1⟩=>?_;subst hu;have hM:=hM.g f1;exact rt1 4 (vB (decide (0<=z))) rfl f0 (hZ _ _ ⟨⟨_,rfl,hz⟩,hM.fr⟩)
structure Vis (f:FuncId)(caps:Array Value){σ:Type}(D:Nat->Prop)(J:σ->Ent)(Lv:σ->Prop)(vis:CdR->σ->Bool×σ)(B:Nat):Prop where
  eg:aJe Tryz.prog f
  hD:∀s k,(J s).B k↔D k
  hB:∀k,D k->B<=k
  lv:∀c s,Lv s->(vis c s).1=true->Lv (vis c s).2
  step:∀{h:Nat}{c:CdR}{s:σ}{w:World},CdB w B h c->B<=w.heap.size->Lv s->Mm D w w [J s]->Calls Tryz.prog f (#[vA (cdL c)]++caps) w λe w'=>e=.returned (vB (vis c s).1)/\Mm D w w' [J (vis c s).2]
def aL4 (f:FuncId)(caps:Array Value)(D:Nat->Prop)(J:σ->Ent)(Lv:σ->Prop)(vis:CdR->σ->Bool×σ)(B h:Nat):Prop:=∀{c:CdR}{s:σ}{w:World},CdB w B h c->B<=w.heap.size->Lv s->Mm D w w [J s]->Calls Tryz.prog 79 #[vA (cdL c),.func (.func f) #[] caps] w λe w'=>e=.returned (vB (aBw vis h c s).1)/\Mm D w w' [J (aBw vis h c s).2]
variable{D:Nat->Prop}
theorem aWV {J:σ->Ent}(hD:∀s k,(J s).B k↔D k){g:FuncId}{args:Array Value}{s s':σ}{b:Bool}(c:Mm D w w [J s]->Calls Tryz.prog g args w λe w'=>e=.returned (vB b)/\Mm D w w' [J s'])(hm:Mm (BlM [J s]) w w [J s]):Calls Tryz.prog g args w λe w'=>∃u Mn,e=.returned u/\(u=vB b/\Mn=[J s'])/\Mm (BlM [J s]) w w' Mn :=
  (c (hm.re λe he k hk=>by rw[Gd_] at he;subst he;exact(hD s k).1 hk)).mono λe w' ⟨h1,h2⟩=>⟨_,_,h1,⟨rfl,rfl⟩,aEP h2 λk hk=>⟨J s,.head _,(hD s k).2 hk⟩⟩
theorem aK0 {σ:Type}{Lv:σ->Prop}{f:CdR->σ->Bool×σ}(h:∀c s,Lv s->(f c s).1=true->Lv (f c s).2):∀(l:List CdR){s:σ},Lv s->(aDM f l s).1=true->Lv (aDM f l s).2
  | [],_,hs,_=>hs
  | k::l,s,hs,hw=>by
    unfold aDM at hw ⊢
    cases hk:(f k s).1 with
    | false=>rw[hk] at hw;cases hw
    | true=>rw[hk] at hw;exact aK0 h l (h k s hs hk) hw
theorem aKy {σ:Type}{Lv:σ->Prop}{vis:CdR->σ->Bool×σ}(h:∀c s,Lv s->(vis c s).1=true->Lv (vis c s).2):∀(n:Nat)(c:CdR)(s:σ),Lv s->(aBw vis n c s).1=true->Lv (aBw vis n c s).2
  | 0,_,_,hs,_=>hs
  | n+1,c,s,hs,hw=>by
    unfold aBw at hw ⊢
    cases hk:(vis c s).1 with
    | false=>rw[hk] at hw;cases hw
    | true=>rw[hk] at hw;exact aK0 (aKy h n) _ (h c s hs hk) hw
theorem aRP {σ:Type}{Lv:σ->Prop}{f:CdR->σ->Bool×σ}(h:∀c s,Lv s->(f c s).1=true->Lv (f c s).2){l:List CdR}{s:σ}(hs:Lv s):∀{i:Nat},i<=l.length->(∀j,j<i->qK f l s j=false)->Lv (stK f (l.take i) s)
  | 0,_,_=>hs
  | i+1,hi,hq=>by
    obtain⟨k,hk⟩:=geb (l:=l) (i:=i) oM;have h1:=aRP h hs (l:=l) (i:=i) oM λj hj=>hq j oM;have h2:=hq i oM;unfold qK at h2;rw[hk] at h2;rw[aK6 hk];exact h _ _ h1 (by simpa using h2)
variable{h:Nat}
theorem aJk {f:FuncId}{J:σ->Ent}{Lv:σ->Prop}{vis:CdR->σ->Bool×σ}(V:Vis f caps D J Lv vis B)(ih:aL4 f caps D J Lv vis B h){c:CdR}{s:σ}{b:Nat}(hb:w.heap[b]?=some (.cells #[.func (.func f) #[] caps] 34 (0,0)))(hnb:¬D b)(hc:CdB w B h c)(hBw:B<=w.heap.size)(hLv:Lv s)(hM0:Mm D w w [J s]):Calls Tryz.prog 133 #[vA (cdL c),vP b 0] w λe w'=>e=.returned (vB (!(aBw vis h c s).1))/\Mm D w w' [J (aBw vis h c s).2]:=by
  refine beg Tryz.func133 rfl rfl [(0,.agg (cY_ c)),(1,vP b 0)] rfl rfl λZ hZ=>?_;have hM:=hM0;refine aAu 0 0 2 [] (cs:=(cY_ c)) (T:=27) (v:=λb=>vP b 0) f0 hM λaa w1 hM=>aHU 1 2 6 [(4,.agg (cY_ c)),(5,.func (.func f) #[] caps)] (K:=λu Mn=>u=vB (aBw vis h c s).1/\Mn=[J (aBw vis h c s).2]) [1] [0] (fc (lam 27 1 0 5 hM rfl) (fc (ld0 34 hM (bx hb 0 rfl) hnb) f0)) hM rfl rfl dE (λhm=>aWV V.hD (λhm=>ih (hc.g V.hB hM.fr hBw) (Gn_ hBw hM.fr.size) hLv hm) hm) λu Mn w1 hK hM=>?_;obtain⟨rfl,rfl⟩:=hK;exact rt1 3 (vB (!(aBw vis h c s).1)) rfl f0 (hZ _ _ ⟨rfl,hM.pick [1]⟩)
theorem aMi {f:FuncId}{J:σ->Ent}{Lv:σ->Prop}{vis:CdR->σ->Bool×σ}(V:Vis f caps D J Lv vis B)(ih:aL4 f caps D J Lv vis B h){s:σ}{b:Nat}{p:Option Addr}{cap:Nat}{L:List CdR}(hb:w.heap[b]?=some (.cells #[.func (.func f) #[] caps] 34 (0,0)))(hnb:¬D b)(hs:SrcB cdL 5 w B p cap L)(hk:∀k∈L,CdB w B h k)(hBw:B<=w.heap.size)(hLv:Lv s)(hM0:Mm D w w [J s]):Calls Tryz.prog 86 #[vL p L.length cap,.func (.func 133) #[] #[vP b 0]] w λe w'=>e=.returned (vB (!(aDM (aBw vis h) L s).1))/\Mm D w w' [J (aDM (aBw vis h) L s).2]:=by
  have hbl:b<w.heap.size:=by
    rcases Nat.lt_or_ge b w.heap.size with h|h
    · exact h
    · rw[Array.getElem?_eq_none h] at hb;cases hb
  refine(aGm (caps:=#[vP b 0]) hs V.hB (enters_of Tryz.func133 kR rfl) (λi w1=>Mm D w w1 [J (stK (aBw vis h) (L.take i) s)]) (qK (aBw vis h) L s) (by simpa[stK] using hM0) (λi x w1 hx hq hI f1=>?_)).mono λe w' ⟨⟨z,he,hz⟩,f2⟩=>?_
  · have hLi:=aRP (aKy V.lv h) hLv (l:=L) (i:=i) (Nat.le_of_lt (gl hx)) hq
    have h1:Mm D w1 w1 [J (stK (aBw vis h) (L.take i) s)]:=hI.re λe he k hk=>by rw[Gd_] at he;subst he;exact(V.hD _ k).1 hk
    refine(aJk V ih (b:=b) (by rw[f1.blk b hbl hnb];exact hb) hnb ((hk x (gm hx)).g V.hB f1 hBw) (Gn_ hBw f1.size) hLi h1).mono λe w2 ⟨g1,g2⟩=>⟨?_,?_,g2.fr⟩
    · rw[g1];unfold qK;rw[hx]
    · rw[aK6 hx]
      exact⟨f1.trans g2.fr,g2.at_,λe he k hk hl=>by rw[Gd_] at he;subst he;exact(V.hD _ k).1 hk,g2.nd⟩
  · cases hz with
    | none hq hI=>rw[he,aIa hq];exact⟨rfl,by rw[List.take_length] at hI;exact hI⟩
    | some i hi hq hj hI=>rw[he,aKz hi hq hj];exact⟨by rw[decide_eq_true oM];rfl,hI⟩
variable{M:List Ent}
theorem _root_.Go.Pl.Mm.apart2 {w0:World}(h:Mm F0 w0 w M){j:Nat}{x y:Ent}(hi:M[i]?=some x)(hj:M[j]?=some y)(hij:i≠j)(k:Nat)(hx:x.B k)(hy:y.B k):False:=by
  have key:∀{i j:Nat}{x y:Ent},i<j->M[i]?=some x->M[j]?=some y->x.B k->y.B k->False:=λ{i j x y} hl hi hj hx hy=>by
    have hi2:=gl hi;have hj2:=gl hj;have h1:=List.pairwise_iff_getElem.1 h.nd i j hi2 hj2 hl k;rw[Gb_ hi2] at hi;rw[Gb_ hj2] at hj;cases hi;cases hj;exact h1 hx hy
  rcases Nat.lt_or_gt_of_ne hij with hl|hl
  · exact key hl hi hj hx hy
  · exact key hl hj hi hy hx
theorem aMQ {f:FuncId}{J:σ->Ent}{Lv:σ->Prop}{vis:CdR->σ->Bool×σ}(V:Vis f caps D J Lv vis B)(ih:aL4 f caps D J Lv vis B h){c:CdR}{s:σ}(hc:CdB w B (h+1) c)(hBw:B<=w.heap.size)(hLv:Lv s)(hM0:Mm D w w [J s]):Calls Tryz.prog 79 #[vA (cdL c),.func (.func f) #[] caps] w λe w'=>e=.returned (vB (aBw vis (h+1) c s).1)/\Mm D w w' [J (aBw vis (h+1) c s).2]:=by
  refine beg Tryz.func79 rfl rfl [(0,.agg (cY_ c)),(1,.func (.func f) #[] caps)] rfl rfl λZ hZ=>?_;have hM:=hM0;refine aAu 0 0 2 [] (cs:=(cY_ c)) (T:=27) (v:=λb=>vP b 0) f0 hM λab w1 hM=>aAu 0 1 3 [] (cs:=#[.func (.func f) #[] caps]) (T:=34) (v:=λb=>vP b 0) f0 hM λaa w1 hM=>aUo 1 2 7 [(5,.func (.func f) #[] caps),(6,.agg (cY_ c))] #[27] dE (fc (ldm 34 2 0 hM rfl rfl) (fc (lam 27 1 0 5 hM rfl) f0)) V.eg (aZ1 (K:=λu Mn=>u=vB (vis c s).1/\Mn=[J (vis c s).2]) [1,2] [0] hM rfl rfl dE (aWV V.hD λhm=>V.step (hc.g V.hB hM.fr hBw) (Gn_ hBw hM.fr.size) hLv hm)) λu w1 ⟨Mn,hK,hM⟩=>?_;obtain⟨rfl,rfl⟩:=hK;replace hM:Mm D w w1 [bk ab (cY_ c) 27,bk aa #[.func (.func f) #[] caps] 34,_]:=hM;refine seg 1 4 [(8,vB (vis c s).1)] f0 ?_
  cases h49:(vis c s).1 with
  | false =>
   exact rt1 4 (vB false) rfl f0 (hZ _ _ ⟨by unfold aBw;rw[h49];simp,by unfold aBw;rw[h49];exact hM.pick [2]⟩)
  | true =>
   refine aHU 1 7 12 [(10,vL c.p c.kids.length c.cap),(11,.func (.func 133) #[] #[vP aa 0])] (K:=λu Mn=>u=vB (!(aDM (aBw vis h) c.kids (vis c s).2).1)/\Mn=[J (aDM (aBw vis h) c.kids (vis c s).2).2]) [0,1] [2] (fc (ldm 25 0 4 hM rfl rfl) f0) hM rfl rfl dE (λhm=>aWV V.hD (λhm=>aMi V ih (b:=aa) (hM.get 1 rfl) (λhd=>hM.apart2 (i:=1) (j:=2) rfl rfl dE _ rfl ((V.hD _ _).2 hd)) (hc.2.2.1.g V.hB hM.fr hBw) (λk hk=>(hc.2.2.2 k hk).g V.hB hM.fr hBw) (Gn_ hBw hM.fr.size) (V.lv c s hLv h49) hm) hm) λu Mn w1 hK hM=>?_;obtain⟨rfl,rfl⟩:=hK;exact rt1 4 (vB (!(!(aDM (aBw vis h) c.kids (vis c s).2).1))) rfl f0 (hZ _ _ ⟨by unfold aBw;rw[h49];simp,by unfold aBw;rw[h49];exact hM.pick [2]⟩)
theorem aE4 {f:FuncId}{caps:Array Value}{σ:Type}{D:Nat->Prop}{J:σ->Ent}{Lv:σ->Prop}{vis:CdR->σ->Bool×σ}{B:Nat}(V:Vis f caps D J Lv vis B):∀h,aL4 f caps D J Lv vis B h
  | 0=>λhc=>hc.elim
  | h+1=>λhc hBw hLv hM=>aMQ V (aE4 V h) hc hBw hLv hM
def aWQ (s:Bys):Bool:=([[97,108,119,97,121,115],[97,110,100],[110,111,116],[111,114],[119,104,101,114,101]]:List Bys).contains s
def aFu (s:Bys):Bool:=aBk s && !(aWQ s)
def aAC (c:CdR):Bool:=(c.key==[])&&(c.val==[])&&(c.n==0)
def aA5 (c:CdR):Bool :=
  bif c.op==1 then aAC c&&((c.kids.length:Int)==0)
  else bif c.op==2 then aFu c.key&&(c.val==[])&&(c.n==0)&&((c.kids.length:Int)==0)
  else bif c.op==3 then aFu c.key && !(c.val==[])&&decide ((c.val.length:Int)<=200)&&(c.n==0)&&((c.kids.length:Int)==0)
  else bif c.op==7 then aFu c.key&&(c.val==[])&&decide (0<=c.n)&&decide (c.n<=9999999)&&((c.kids.length:Int)==0)
  else bif c.op==4 then aAC c&&((c.kids.length:Int)==1)
  else bif (c.op==5)||(c.op==6) then aAC c&&decide (1<(c.kids.length:Int))
  else false
def aPW (h:Nat)(c:CdR):Int:=(aBw (λ_ s=>(decide (s+1<=60),s+1)) h c 0).2
def aDl (h:Nat)(c:CdR):Bool:=decide (aPW h c<=60)&&(aBw (λc s=>(aA5 c,s)) h c ()).1
theorem aGw (s:Bys):Calls Tryz.prog 180 #[vS s] w λe w'=>e=.returned (vB (aWQ s))/\Fr nF_ w w':=by
  refine beg Tryz.func180 rfl rfl [(0,vS s)] rfl rfl λZ hZ=>?_;have hM:=Mm.nil nF_ w;refine aAu 1 0 3 [] (cs:=#[vS [97,108,119,97,121,115],vS [97,110,100],vS [110,111,116],vS [111,114],vS [119,104,101,114,101]]) (T:=9) (v:=λb=>vL (some ⟨b,0,none⟩) 5 5) f0 hM λaa w1 hM=>?_;have hM:=aH4 hM (f:=stL) (c:=1) (j:=0) rfl [[97,108,119,97,121,115],[97,110,100],[110,111,116],[111,114],[119,104,101,114,101]] 5 rfl rfl rfl;refine aAw 1 2 5 [(4,vS s)] f0 hM (aG0 (y:=s) (hM.src (j:=0) rfl stT.len)) λw1 hM=>rt1 2 (vB (aWQ s)) rfl f0 (hZ _ _ ⟨rfl,hM.fr⟩)
theorem aBp (hs:s.length<=9223372036854775807):Calls Tryz.prog 134 #[vS s] w λe w'=>e=.returned (vB (aFu s))/\Fr nF_ w w':=by
  refine beg Tryz.func134 rfl rfl [(0,vS s)] rfl rfl λZ hZ=>?_;have hM:=Mm.nil nF_ w;refine aAw 1 1 4 [(3,vS s)] f0 hM (aA6 hs _) λw1 hM=>seg 1 3 [(5,vB (aBk s))] f0 ?_;cases h51:(aBk s)
  ·exact rt1 2 (vB false) rfl f0 (hZ _ _ ⟨by unfold aFu;simp only[h51]<;>rfl,hM.fr⟩)
  refine aAw 1 4 7 [(6,vS s)] f0 hM (aGw s) λw1 hM=>rt1 2 (vB (!(aWQ s))) rfl f0 (hZ _ _ ⟨by unfold aFu;simp only[h51]<;>rfl,hM.fr⟩)
theorem aMc {c:CdR}(hk:c.key.length<=9223372036854775807):Calls Tryz.prog 80 #[vA (cdL c)] w λe w'=>e=.returned (vB (aA5 c))/\Fr nF_ w w':=by
  refine beg Tryz.func80 rfl rfl [(0,.agg (cY_ c))] rfl rfl λZ hZ=>?_;have hM:=Mm.nil nF_ w;refine aAu 0 0 1 [] (cs:=(cY_ c)) (T:=27) (v:=λb=>vP b 0) f0 hM λac w1 hM=>seg 1 4 [(8,vB (c.key==[]))] (fc (ldm 9 0 1 hM rfl rfl) (fc (seq 9 c.key []) f0)) ?_;cases h53:(c.key==[])
  ·refine seg 4 2 [(3,vB false),(4,vI (c.kids.length:Int)),(22,vI c.op),(23,vB (c.op==1))] (fc (ldm 25 0 4 hM rfl rfl) (fc (ldm 3 0 0 hM rfl rfl) f0)) ?_;cases h54:(c.op==1)
   rotate_left
   ·exact rt1 2 (vB false) rfl f0 (hZ _ _ ⟨by unfold aA5 aAC;simp only[h53,h54]<;>rfl,hM.fr⟩)
   refine seg 6 2 [(30,vB (c.op==2))] f0 ?_;cases h55:(c.op==2)
   rotate_left
   ·refine aAw 7 2 34 [(33,vS c.key)] (fc (ldm 9 0 1 hM rfl rfl) f0) hM (aBp hk) λw1 hM=>seg 7 4 [(35,vB (aFu c.key))] f0 ?_;cases h69:(aFu c.key)
    ·exact rt1 2 (vB false) rfl f0 (hZ _ _ ⟨by unfold aA5 aAC;simp only[h53,h54,h55,h69]<;>rfl,hM.fr⟩)
    refine seg 7 9 [(40,vB (c.val==[]))] (fc (ldm 9 0 2 hM rfl rfl) (fc (seq 9 c.val []) f0)) ?_;cases h70:(c.val==[])
    ·exact rt1 2 (vB false) rfl f0 (hZ _ _ ⟨by unfold aA5 aAC;simp only[h53,h54,h55,h69,h70]<;>rfl,hM.fr⟩)
    refine seg 7 14 [(45,vB (c.n==0))] (fc (ldm 3 0 3 hM rfl rfl) f0) ?_;cases h71:(c.n==0)
    ·exact rt1 2 (vB false) rfl f0 (hZ _ _ ⟨by unfold aA5 aAC;simp only[h53,h54,h55,h69,h70,h71]<;>rfl,hM.fr⟩)
    exact rt1 2 (vB ((c.kids.length:Int)==0)) rfl f0 (hZ _ _ ⟨by unfold aA5 aAC;simp only[h53,h54,h55,h69,h70,h71]<;>rfl,hM.fr⟩)
   refine seg 8 2 [(49,vB (c.op==3))] f0 ?_;cases h56:(c.op==3)
   rotate_left
   ·refine aAw 9 2 53 [(52,vS c.key)] (fc (ldm 9 0 1 hM rfl rfl) f0) hM (aBp hk) λw1 hM=>seg 9 4 [(54,vB (aFu c.key))] f0 ?_;cases h65:(aFu c.key)
    ·exact rt1 2 (vB false) rfl f0 (hZ _ _ ⟨by unfold aA5 aAC;simp only[h53,h54,h55,h56,h65]<;>rfl,hM.fr⟩)
    refine seg 9 9 [(59,vB (!(c.val==[])))] (fc (ldm 9 0 2 hM rfl rfl) (fc (sne 9 c.val []) f0)) ?_;cases h66:(c.val==[])
    rotate_left
    ·exact rt1 2 (vB false) rfl f0 (hZ _ _ ⟨by unfold aA5 aAC;simp only[h53,h54,h55,h56,h65,h66]<;>rfl,hM.fr⟩)
    refine seg 9 15 [(65,vB (decide ((c.val.length:Int)<=200)))] (fc (ldm 9 0 2 hM rfl rfl) (fc (aHS 9 c.val) f0)) ?_;cases h67:(decide ((c.val.length:Int)<=200))
    ·exact rt1 2 (vB false) rfl f0 (hZ _ _ ⟨by unfold aA5 aAC;simp only[h53,h54,h55,h56,h65,h66,h67]<;>rfl,hM.fr⟩)
    refine seg 9 20 [(70,vB (c.n==0))] (fc (ldm 3 0 3 hM rfl rfl) f0) ?_;cases h68:(c.n==0)
    ·exact rt1 2 (vB false) rfl f0 (hZ _ _ ⟨by unfold aA5 aAC;simp only[h53,h54,h55,h56,h65,h66,h67,h68]<;>rfl,hM.fr⟩)
    exact rt1 2 (vB ((c.kids.length:Int)==0)) rfl f0 (hZ _ _ ⟨by unfold aA5 aAC;simp only[h53,h54,h55,h56,h65,h66,h67,h68]<;>rfl,hM.fr⟩)
   refine seg 10 2 [(74,vB (c.op==7))] f0 ?_;cases h57:(c.op==7)
   ·refine seg 12 2 [(98,vB (c.op==4))] f0 ?_;cases h58:(c.op==4)
    rotate_left
    ·exact rt1 2 (vB false) rfl f0 (hZ _ _ ⟨by unfold aA5 aAC;simp only[h53,h54,h55,h56,h57,h58]<;>rfl,hM.fr⟩)
    refine seg 14 2 [(105,vB (c.op==5))] f0 ?_;cases h59:(c.op==5)
    rotate_left
    ·exact rt1 2 (vB false) rfl f0 (hZ _ _ ⟨by unfold aA5 aAC;simp only[h53,h54,h55,h56,h57,h58,h59]<;>rfl,hM.fr⟩)
    refine seg 15 2 [(105,vB (c.op==6))] f0 ?_;cases h60:(c.op==6)
    ·exact rt1 2 (vB false) rfl f0 (hZ _ _ ⟨by unfold aA5 aAC;simp only[h53,h54,h55,h56,h57,h58,h59,h60]<;>rfl,hM.fr⟩)
    exact rt1 2 (vB false) rfl f0 (hZ _ _ ⟨by unfold aA5 aAC;simp only[h53,h54,h55,h56,h57,h58,h59,h60]<;>rfl,hM.fr⟩)
   refine aAw 11 2 78 [(77,vS c.key)] (fc (ldm 9 0 1 hM rfl rfl) f0) hM (aBp hk) λw1 hM=>seg 11 4 [(79,vB (aFu c.key))] f0 ?_;cases h61:(aFu c.key)
   ·exact rt1 2 (vB false) rfl f0 (hZ _ _ ⟨by unfold aA5 aAC;simp only[h53,h54,h55,h56,h57,h61]<;>rfl,hM.fr⟩)
   refine seg 11 9 [(84,vB (c.val==[]))] (fc (ldm 9 0 2 hM rfl rfl) (fc (seq 9 c.val []) f0)) ?_;cases h62:(c.val==[])
   ·exact rt1 2 (vB false) rfl f0 (hZ _ _ ⟨by unfold aA5 aAC;simp only[h53,h54,h55,h56,h57,h61,h62]<;>rfl,hM.fr⟩)
   refine seg 11 14 [(89,vB (decide (0<=c.n)))] (fc (ldm 3 0 3 hM rfl rfl) f0) ?_;cases h63:(decide (0<=c.n))
   ·exact rt1 2 (vB false) rfl f0 (hZ _ _ ⟨by unfold aA5 aAC;simp only[h53,h54,h55,h56,h57,h61,h62,h63]<;>rfl,hM.fr⟩)
   refine seg 11 19 [(94,vB (decide (c.n<=9999999)))] (fc (ldm 3 0 3 hM rfl rfl) f0) ?_;cases h64:(decide (c.n<=9999999))
   ·exact rt1 2 (vB false) rfl f0 (hZ _ _ ⟨by unfold aA5 aAC;simp only[h53,h54,h55,h56,h57,h61,h62,h63,h64]<;>rfl,hM.fr⟩)
   exact rt1 2 (vB ((c.kids.length:Int)==0)) rfl f0 (hZ _ _ ⟨by unfold aA5 aAC;simp only[h53,h54,h55,h56,h57,h61,h62,h63,h64]<;>rfl,hM.fr⟩)
  refine seg 1 9 [(13,vB (c.val==[]))] (fc (ldm 9 0 2 hM rfl rfl) (fc (seq 9 c.val []) f0)) ?_;cases h72:(c.val==[])
  ·refine seg 4 2 [(3,vB false),(4,vI (c.kids.length:Int)),(22,vI c.op),(23,vB (c.op==1))] (fc (ldm 25 0 4 hM rfl rfl) (fc (ldm 3 0 0 hM rfl rfl) f0)) ?_;cases h73:(c.op==1)
   rotate_left
   ·exact rt1 2 (vB false) rfl f0 (hZ _ _ ⟨by unfold aA5 aAC;simp only[h53,h72,h73]<;>rfl,hM.fr⟩)
   refine seg 6 2 [(30,vB (c.op==2))] f0 ?_;cases h74:(c.op==2)
   rotate_left
   ·refine aAw 7 2 34 [(33,vS c.key)] (fc (ldm 9 0 1 hM rfl rfl) f0) hM (aBp hk) λw1 hM=>seg 7 4 [(35,vB (aFu c.key))] f0 ?_;cases h84:(aFu c.key)
    ·exact rt1 2 (vB false) rfl f0 (hZ _ _ ⟨by unfold aA5 aAC;simp only[h53,h72,h73,h74,h84]<;>rfl,hM.fr⟩)
    exact rt1 2 (vB false) rfl (fc (ldm 9 0 2 hM rfl rfl) (fc (rz (seq 9 c.val []) h72) f0)) (hZ _ _ ⟨by unfold aA5 aAC;simp only[h53,h72,h73,h74,h84]<;>rfl,hM.fr⟩)
   refine seg 8 2 [(49,vB (c.op==3))] f0 ?_;cases h75:(c.op==3)
   rotate_left
   ·refine aAw 9 2 53 [(52,vS c.key)] (fc (ldm 9 0 1 hM rfl rfl) f0) hM (aBp hk) λw1 hM=>seg 9 4 [(54,vB (aFu c.key))] f0 ?_;cases h81:(aFu c.key)
    ·exact rt1 2 (vB false) rfl f0 (hZ _ _ ⟨by unfold aA5 aAC;simp only[h53,h72,h73,h74,h75,h81]<;>rfl,hM.fr⟩)
    refine seg 9 15 [(65,vB (decide ((c.val.length:Int)<=200)))] (fc (ldm 9 0 2 hM rfl rfl) (fc (rz (sne 9 c.val []) (by rw[h72]<;>rfl)) (fc (ldm 9 0 2 hM rfl rfl) (fc (aHS 9 c.val) f0)))) ?_;cases h82:(decide ((c.val.length:Int)<=200))
    ·exact rt1 2 (vB false) rfl f0 (hZ _ _ ⟨by unfold aA5 aAC;simp only[h53,h72,h73,h74,h75,h81,h82]<;>rfl,hM.fr⟩)
    refine seg 9 20 [(70,vB (c.n==0))] (fc (ldm 3 0 3 hM rfl rfl) f0) ?_;cases h83:(c.n==0)
    ·exact rt1 2 (vB false) rfl f0 (hZ _ _ ⟨by unfold aA5 aAC;simp only[h53,h72,h73,h74,h75,h81,h82,h83]<;>rfl,hM.fr⟩)
    exact rt1 2 (vB ((c.kids.length:Int)==0)) rfl f0 (hZ _ _ ⟨by unfold aA5 aAC;simp only[h53,h72,h73,h74,h75,h81,h82,h83]<;>rfl,hM.fr⟩)
   refine seg 10 2 [(74,vB (c.op==7))] f0 ?_;cases h76:(c.op==7)
   rotate_left
   ·refine aAw 11 2 78 [(77,vS c.key)] (fc (ldm 9 0 1 hM rfl rfl) f0) hM (aBp hk) λw1 hM=>seg 11 4 [(79,vB (aFu c.key))] f0 ?_;cases h80:(aFu c.key)
    ·exact rt1 2 (vB false) rfl f0 (hZ _ _ ⟨by unfold aA5 aAC;simp only[h53,h72,h73,h74,h75,h76,h80]<;>rfl,hM.fr⟩)
    exact rt1 2 (vB false) rfl (fc (ldm 9 0 2 hM rfl rfl) (fc (rz (seq 9 c.val []) h72) f0)) (hZ _ _ ⟨by unfold aA5 aAC;simp only[h53,h72,h73,h74,h75,h76,h80]<;>rfl,hM.fr⟩)
   refine seg 12 2 [(98,vB (c.op==4))] f0 ?_;cases h77:(c.op==4)
   rotate_left
   ·exact rt1 2 (vB false) rfl f0 (hZ _ _ ⟨by unfold aA5 aAC;simp only[h53,h72,h73,h74,h75,h76,h77]<;>rfl,hM.fr⟩)
   refine seg 14 2 [(105,vB (c.op==5))] f0 ?_;cases h78:(c.op==5)
   rotate_left
   ·exact rt1 2 (vB false) rfl f0 (hZ _ _ ⟨by unfold aA5 aAC;simp only[h53,h72,h73,h74,h75,h76,h77,h78]<;>rfl,hM.fr⟩)
   refine seg 15 2 [(105,vB (c.op==6))] f0 ?_;cases h79:(c.op==6)
   ·exact rt1 2 (vB false) rfl f0 (hZ _ _ ⟨by unfold aA5 aAC;simp only[h53,h72,h73,h74,h75,h76,h77,h78,h79]<;>rfl,hM.fr⟩)
   exact rt1 2 (vB false) rfl f0 (hZ _ _ ⟨by unfold aA5 aAC;simp only[h53,h72,h73,h74,h75,h76,h77,h78,h79]<;>rfl,hM.fr⟩)
  refine seg 4 2 [(3,vB (c.n==0)),(4,vI (c.kids.length:Int)),(22,vI c.op),(23,vB (c.op==1))] (fc (ldm 3 0 3 hM rfl rfl) (fc (ldm 25 0 4 hM rfl rfl) (fc (ldm 3 0 0 hM rfl rfl) f0))) ?_;cases h85:(c.op==1)
  rotate_left
  ·refine seg 5 2 [(26,vB (c.n==0))] f0 ?_;cases aa:(c.n==0)
   ·exact rt1 2 (vB false) rfl f0 (hZ _ _ ⟨by unfold aA5 aAC;simp only[h53,h72,h85,aa]<;>rfl,hM.fr⟩)
   exact rt1 2 (vB ((c.kids.length:Int)==0)) rfl f0 (hZ _ _ ⟨by unfold aA5 aAC;simp only[h53,h72,h85,aa]<;>rfl,hM.fr⟩)
  refine seg 6 2 [(30,vB (c.op==2))] f0 ?_;cases h86:(c.op==2)
  rotate_left
  ·refine aAw 7 2 34 [(33,vS c.key)] (fc (ldm 9 0 1 hM rfl rfl) f0) hM (aBp hk) λw1 hM=>seg 7 4 [(35,vB (aFu c.key))] f0 ?_;cases h99:(aFu c.key)
   ·exact rt1 2 (vB false) rfl f0 (hZ _ _ ⟨by unfold aA5 aAC;simp only[h53,h72,h85,h86,h99]<;>rfl,hM.fr⟩)
   refine seg 7 14 [(45,vB (c.n==0))] (fc (ldm 9 0 2 hM rfl rfl) (fc (rz (seq 9 c.val []) h72) (fc (ldm 3 0 3 hM rfl rfl) f0))) ?_;cases ab:(c.n==0)
   ·exact rt1 2 (vB false) rfl f0 (hZ _ _ ⟨by unfold aA5 aAC;simp only[h53,h72,h85,h86,h99,ab]<;>rfl,hM.fr⟩)
   exact rt1 2 (vB ((c.kids.length:Int)==0)) rfl f0 (hZ _ _ ⟨by unfold aA5 aAC;simp only[h53,h72,h85,h86,h99,ab]<;>rfl,hM.fr⟩)
  refine seg 8 2 [(49,vB (c.op==3))] f0 ?_;cases h87:(c.op==3)
  rotate_left
  ·refine aAw 9 2 53 [(52,vS c.key)] (fc (ldm 9 0 1 hM rfl rfl) f0) hM (aBp hk) λw1 hM=>seg 9 4 [(54,vB (aFu c.key))] f0 ?_;cases h98:(aFu c.key)
   ·exact rt1 2 (vB false) rfl f0 (hZ _ _ ⟨by unfold aA5 aAC;simp only[h53,h72,h85,h86,h87,h98]<;>rfl,hM.fr⟩)
   exact rt1 2 (vB false) rfl (fc (ldm 9 0 2 hM rfl rfl) (fc (rz (sne 9 c.val []) (by rw[h72]<;>rfl)) f0)) (hZ _ _ ⟨by unfold aA5 aAC;simp only[h53,h72,h85,h86,h87,h98]<;>rfl,hM.fr⟩)
  refine seg 10 2 [(74,vB (c.op==7))] f0 ?_;cases h88:(c.op==7)
  rotate_left
  ·refine aAw 11 2 78 [(77,vS c.key)] (fc (ldm 9 0 1 hM rfl rfl) f0) hM (aBp hk) λw1 hM=>seg 11 4 [(79,vB (aFu c.key))] f0 ?_;cases h95:(aFu c.key)
   ·exact rt1 2 (vB false) rfl f0 (hZ _ _ ⟨by unfold aA5 aAC;simp only[h53,h72,h85,h86,h87,h88,h95]<;>rfl,hM.fr⟩)
   refine seg 11 14 [(89,vB (decide (0<=c.n)))] (fc (ldm 9 0 2 hM rfl rfl) (fc (rz (seq 9 c.val []) h72) (fc (ldm 3 0 3 hM rfl rfl) f0))) ?_;cases h96:(decide (0<=c.n))
   ·exact rt1 2 (vB false) rfl f0 (hZ _ _ ⟨by unfold aA5 aAC;simp only[h53,h72,h85,h86,h87,h88,h95,h96]<;>rfl,hM.fr⟩)
   refine seg 11 19 [(94,vB (decide (c.n<=9999999)))] (fc (ldm 3 0 3 hM rfl rfl) f0) ?_;cases h97:(decide (c.n<=9999999))
   ·exact rt1 2 (vB false) rfl f0 (hZ _ _ ⟨by unfold aA5 aAC;simp only[h53,h72,h85,h86,h87,h88,h95,h96,h97]<;>rfl,hM.fr⟩)
   exact rt1 2 (vB ((c.kids.length:Int)==0)) rfl f0 (hZ _ _ ⟨by unfold aA5 aAC;simp only[h53,h72,h85,h86,h87,h88,h95,h96,h97]<;>rfl,hM.fr⟩)
  refine seg 12 2 [(98,vB (c.op==4))] f0 ?_;cases h89:(c.op==4)
  rotate_left
  ·refine seg 13 2 [(101,vB (c.n==0))] f0 ?_;cases h94:(c.n==0)
   ·exact rt1 2 (vB false) rfl f0 (hZ _ _ ⟨by unfold aA5 aAC;simp only[h53,h72,h85,h86,h87,h88,h89,h94]<;>rfl,hM.fr⟩)
   exact rt1 2 (vB ((c.kids.length:Int)==1)) rfl f0 (hZ _ _ ⟨by unfold aA5 aAC;simp only[h53,h72,h85,h86,h87,h88,h89,h94]<;>rfl,hM.fr⟩)
  refine seg 14 2 [(105,vB (c.op==5))] f0 ?_;cases h90:(c.op==5)
  rotate_left
  ·refine seg 16 2 [(109,vB (c.n==0))] f0 ?_;cases h93:(c.n==0)
   ·exact rt1 2 (vB false) rfl f0 (hZ _ _ ⟨by unfold aA5 aAC;simp only[h53,h72,h85,h86,h87,h88,h89,h90,h93]<;>rfl,hM.fr⟩)
   exact rt1 2 (vB (decide (1<(c.kids.length:Int)))) rfl f0 (hZ _ _ ⟨by unfold aA5 aAC;simp only[h53,h72,h85,h86,h87,h88,h89,h90,h93]<;>rfl,hM.fr⟩)
  refine seg 15 2 [(105,vB (c.op==6))] f0 ?_;cases h91:(c.op==6)
  ·exact rt1 2 (vB false) rfl f0 (hZ _ _ ⟨by unfold aA5 aAC;simp only[h53,h72,h85,h86,h87,h88,h89,h90,h91]<;>rfl,hM.fr⟩)
  refine seg 16 2 [(109,vB (c.n==0))] f0 ?_;cases h92:(c.n==0)
  ·exact rt1 2 (vB false) rfl f0 (hZ _ _ ⟨by unfold aA5 aAC;simp only[h53,h72,h85,h86,h87,h88,h89,h90,h91,h92]<;>rfl,hM.fr⟩)
  exact rt1 2 (vB (decide (1<(c.kids.length:Int)))) rfl f0 (hZ _ _ ⟨by unfold aA5 aAC;simp only[h53,h72,h85,h86,h87,h88,h89,h90,h91,h92]<;>rfl,hM.fr⟩)
theorem aXM (B:Nat):Vis 80 #[] (σ:=Unit) nF_ (λ_=>aEB) (λ_=>True) (λc s=>(aA5 c,s)) B where
  eg:=enters_of Tryz.func80 kR rfl
  hD:=λ_ _=>Iff.rfl
  hB:=λ_ h=>h.elim
  lv:=λ_ _ _ _=>trivial
  step:=λ{h c s w} hc hBw _ hM=>by
    cases h with
    | zero=>exact hc.elim
    | succ h=>exact(aMc (w:=w) (c:=c) hc.1).mono λe w' ⟨h1,h2⟩=>⟨h1,hM.q h2⟩
theorem aJr {c:CdR}{b:Nat}{s:Int}(h0:0<=s)(h1:s<=60)(hM0:Mm (λk=>k=b) w w [bk b #[vI s] 3]):Calls Tryz.prog 132 #[vA (cdL c),vP b 0] w λe w'=>e=.returned (vB (decide (s+1<=60)))/\Mm (λk=>k=b) w w' [bk b #[vI (s+1)] 3]:=by
  refine beg Tryz.func132 rfl rfl [(0,.agg (cY_ c)),(1,vP b 0)] rfl rfl λZ hZ=>?_;have hM:=hM0;refine aAu 0 0 2 [] (cs:=(cY_ c)) (T:=27) (v:=λb=>vP b 0) f0 hM λaa w1 hM=>stm 1 2 [(5,vI (s+1))] 3 0 0 (vI (s+1)) (fc (ldm 3 0 0 hM rfl rfl) (fc (aAP s 1 u3_) f0)) hM rfl λw1 hM=>rt1 3 (vB (decide ((s+1)<=60))) rfl (fc (ldm 3 0 0 hM rfl rfl) f0) (hZ _ _ ⟨rfl,hM.pick [0]⟩)
theorem aX2 {b:Nat}(hb:B<=b):Vis 132 #[vP b 0] (λk=>k=b) (λs=>bk b #[vI s] 3) (λs=>0<=s/\s<=60) (λ_ s=>(decide (s+1<=60),s+1)) B where
  eg:=enters_of Tryz.func132 kR rfl
  hD:=λ_ _=>Iff.rfl
  hB:=λ_ h=>by rw[h];exact hb
  lv:=λ_ s h h2=>⟨by have:=h.1;show 0<=s+1;omega,of_decide_eq_true h2⟩
  step:=λ{h c s w} hc hBw hL hM=>aJr hL.1 hL.2 hM
theorem _root_.Go.Pl.Mm.new {w0:World}(h:Mm nF_ w0 w M)(j:Nat){b:Nat}{cs:Array Value}{T:TypeId}(hj:M[j]?=some (bk b cs T)):w0.heap.size<=b:=by
  rcases Nat.lt_or_ge b w0.heap.size with h1|h1
  · exact(h.own _ (gm hj) b rfl h1).elim
  · exact h1
theorem aJj {c:CdR}(hc:CdB w B h c)(hBw:B<=w.heap.size):Calls Tryz.prog 79 #[vA (cdL c),.func (.func 80) #[] #[]] w λe w'=>e=.returned (vB (aBw (λc s=>(aA5 c,s)) h c ()).1)/\Fr nF_ w w' :=
  (aE4 (aXM B) h hc hBw trivial (s:=()) ((Mm.nil _ _).nl)).mono λe w' ⟨h1,h2⟩=>⟨h1,h2.fr⟩
theorem aLF {c:CdR}(hc:CdB w B h c)(hBw:B<=w.heap.size):Calls Tryz.prog 78 #[vA (cdL c)] w λe w'=>e=.returned (vI (aPW h c))/\Fr nF_ w w':=by
  refine beg Tryz.func78 rfl rfl [(0,.agg (cY_ c))] rfl rfl λZ hZ=>?_;have hM:=Mm.nil nF_ w;refine aAu 0 0 1 [] (cs:=(cY_ c)) (T:=27) (v:=λb=>vP b 0) f0 hM λab w1 hM=>aBW 1 0 3 [] [] 3 (vI 0) f0 hM λaa w1 hM=>aHU 2 2 6 [(4,.agg (cY_ c)),(5,.func (.func 132) #[] #[vP aa 0])] (K:=λu Mn=>u=vB (aBw (λ_ s=>(decide (s+1<=60),s+1)) h c 0).1/\Mn=[bk aa #[vI (aBw (λ_ s=>(decide (s+1<=60),s+1)) h c 0).2] 3]) [0] [1] (fc (lam 27 0 0 5 hM rfl) f0) hM rfl rfl dE (λhm=>aWV (J:=(λs=>bk aa #[vI s] 3)) (s:=(0:Int)) (s':=(aBw (λ_ s=>(decide (s+1<=60),s+1)) h c 0).2) (λ_ _=>Iff.rfl) (λhm=>aE4 (aX2 (Gn_ hBw (hM.new 1 (b:=aa) rfl))) h (hc.g (λ_ h=>h.elim) hM.fr hBw) (Gn_ hBw hM.fr.size) ⟨by decide,by decide⟩ hm) hm) λu Mn w1 hK hM=>?_;obtain⟨rfl,rfl⟩:=hK;exact rt1 2 (vI (aBw (λ_ s=>(decide (s+1<=60),s+1)) h c 0).2) rfl (fc (ldm 3 1 0 hM rfl rfl) f0) (hZ _ _ ⟨rfl,hM.fr⟩)
theorem aES {c:CdR}(hc:CdB w B h c)(hBw:B<=w.heap.size):Calls Tryz.prog 36 #[vA (cdL c)] w λe w'=>e=.returned (vB (aDl h c))/\Fr nF_ w w':=by
  refine beg Tryz.func36 rfl rfl [(0,.agg (cY_ c))] rfl rfl λZ hZ=>?_;have hM:=Mm.nil nF_ w;refine aAu 0 0 1 [] (cs:=(cY_ c)) (T:=27) (v:=λb=>vP b 0) f0 hM λab w1 hM=>aAw 1 1 4 [(3,.agg (cY_ c))] (fc (lam 27 0 0 5 hM rfl) f0) hM (aLF (hc.g (λ_ h=>h.elim) hM.fr hBw) (Gn_ hBw hM.fr.size)) λw1 hM=>seg 1 4 [(6,vB (decide ((aPW h c)<=60)))] f0 ?_;cases aa:(decide ((aPW h c)<=60))
  ·exact rt1 2 (vB false) rfl f0 (hZ _ _ ⟨by unfold aDl;simp only[aa]<;>rfl,hM.fr⟩)
  refine aAw 1 5 8 [(7,.agg (cY_ c))] (fc (lam 27 0 0 5 hM rfl) f0) hM (aJj (hc.g (λ_ h=>h.elim) hM.fr hBw) (Gn_ hBw hM.fr.size)) λw1 hM=>rt1 2 (vB (aBw (λc s=>(aA5 c,s)) h c ()).1) rfl f0 (hZ _ _ ⟨by unfold aDl;simp only[aa]<;>rfl,hM.fr⟩)
end Go.Proofs.YtngjlnhojicjeaaGreatDoor
