/- Part 1 of the proof. -/
import Derived.WalkKit
import Derived.WalkSpells
import Derived.WalkLawsBesides
import Derived.Orders
import Derived.Maps.Own
import Derived.Maps.OwnSet
import Derived.Maps.RangeWalk
import Derived.Sort.KeysCollected
import Derived.Deep.MidRow
import Derived.Maps.AppendAt
import Derived.Laws.AppendOwnNone
import Derived.RangeFuncNested
import Derived.TacticsIn
import Derived.OrdersIn
import Derived.Scope
import Derived.Shelf.Abstract
import Derived.StringKeys
import Derived.Test.YtngjlnhojicjeaaGreatDoorChecked
set_option linter.unusedVariables false
set_option linter.unusedSimpArgs false
namespace Go.Pl
theorem oM {p:Prop}(h:p:=by omega):p:=h
theorem kR {p:Prop}(h:p:=by kernel_rfl):p:=h
theorem dE {p:Prop}(h:p:=by decide):p:=h
theorem sI {p:Prop}(h:p:=by simp):p:=h
theorem cS {α:Type}{a b:α}(h:a=b:=by kernel_rfl):some a=some b:=congrArg some h
open Go.RowKit
variable{P:Program}{O:Array Oper}{Q:Exit->Act->World->Prop}{rest:List Oper}{o:Oper}{a:Act}{w:World}{ρ:Operand->Value}
variable{v:Value}{w':World}
theorem aMZ (hw:Region.wanted o (yielded O a.tmps)=true)(hr:(execOp a.eval o).run P w=.ok (.value v) w')(h:wpList P O Q rest (a.put o.dst v) w'):wpList P O Q (o::rest) a w:=by
  simp only[wpList,hw,if_true];left;unfold Oper.wp;rw[hr];exact h
theorem aSX (hw:Region.wanted o (yielded O a.tmps)=true)(hr:(execOp a.eval o).run P w=.ok .skip w')(hd:o.dst=none)(h:wpList P O Q rest a w'):wpList P O Q (o::rest) a w:=by
  simp only[wpList,hw,if_true];left;unfold Oper.wp;rw[hr,Oper.upon_skip,hd];exact h
variable{args:Array Value}
theorem aNa {f:FuncId}{R:Value->World->Prop}(hw:Region.wanted o (yielded O a.tmps)=true)(hr:(execOp a.eval o).run P w=.ok (.enter f args) w)(hc:Calls P f args w λe w'=>∃v,e=.returned v/\R v w')(h:∀v w',R v w'->wpList P O Q rest (a.put o.dst v) w'):wpList P O Q (o::rest) a w:=by
  simp only[wpList,hw,if_true];left;unfold Oper.wp;rw[hr,Oper.upon_enter];refine hc.mono ?_;rintro e w' ⟨v,rfl,hR⟩;exact h v w' hR
variable{d:Nat}
theorem aCr {i:Nat}(h:d<a.tmps.size):(a.put (some d) v).eval (.tmp i)=if i=d then v else a.eval (.tmp i):=by
  unfold Act.put Act.eval;simp only[Array.getD_eq_getD_getElem?,Array.getElem?_setIfInBounds]
  by_cases e:i=d
  · subst e;simp[h]
  · simp[e,Ne.symm e]
theorem aWP {d:Option Tmp}:(a.put d v).tmps.size=a.tmps.size:=by
  cases d<;>simp[Act.put]
variable{s:Nat}
theorem aBD {g:Nat}(hg:(O[g]?).bind (·.dst)=some s)(hs:s<a.tmps.size):yielded O a.tmps g=match a.eval (.tmp s) with|.bool b=>some b|_=>none:=by
  unfold yielded Act.eval;rw[hg];simp[hs];cases a.tmps[s]<;>rfl
theorem aAb (h:o.guard=none)(f):Region.wanted o f=true:=by unfold Region.wanted;rw[h]
theorem aAM {j:Nat}{b:Bool}(h:o.guard=some (j,b))(f):Region.wanted o f=(f j==some b):=by unfold Region.wanted;rw[h]
structure EnvD (ds:List Deferred)(n:Nat)(L:List (Nat×Value))(a:Act):Prop where
  size:a.tmps.size=n
  at_:∀x∈L,a.eval (.tmp x.1)=x.2
  df:a.defers=ds
abbrev Env:=EnvD []
variable{ds:List Deferred}
def aUH (a:Act):List (Nat×Value)->Prop
  | []=>True
  | x::l=>a.eval (.tmp x.1)=x.2/\aUH a l
theorem aUH.mem {a:Act}:∀{L:List (Nat×Value)},aUH a L->∀x∈L,a.eval (.tmp x.1)=x.2
  | _::_,h,x,hx=>by
    rcases List.mem_cons.1 hx with rfl|hx
    · exact h.1
    · exact aUH.mem h.2 x hx
theorem EnvD.of {n:Nat}{L L':List (Nat×Value)}(E:EnvD ds n L a)(h:aUH a L'):EnvD ds n L' a:=⟨E.size,h.mem,E.df⟩
theorem EnvD.get {n:Nat}{L:List (Nat×Value)}(E:EnvD ds n L a)(k:Nat)(h:L[k]?=some (s,v)):a.eval (.tmp s)=v:=E.at_ (s,v) (List.mem_of_getElem? h)
theorem EnvD.put {n:Nat}{L:List (Nat×Value)}(E:EnvD ds n L a)(hn:d<n)(hf:(L.map (·.1)).contains d=false):EnvD ds n ((d,v)::L) (a.put (some d) v):=by
  refine⟨aWP.trans E.size,λx hx=>?_,E.df⟩;rw[aCr (by rw[E.size];exact hn)];rcases List.mem_cons.1 hx with h1|h2
  · subst h1;rw[if_pos rfl]
  · rw[if_neg]
    · exact E.at_ x h2
    · intro e
      have:(L.map (·.1)).contains d=true:=by simp only[List.contains_eq_mem,decide_eq_true_eq];rw[<-e];exact List.mem_map_of_mem h2
      rw[hf] at this;cases this
def aKf (d:Nat):List (Nat×Value)->List (Nat×Value)
  | []=>[]
  | x::l=>bif x.1==d then aKf d l else x::aKf d l
theorem aGh {d:Nat}:∀{L:List (Nat×Value)}{x},x∈aKf d L->x∈L/\x.1≠d
  | y::l,x,h=>by
    unfold aKf at h
    cases hy:y.1==d with
    | true=>rw[hy] at h;have:=aGh (L:=l) h;exact⟨List.mem_cons_of_mem _ this.1,this.2⟩
    | false =>
      rw[hy] at h;rcases List.mem_cons.1 h with rfl|h
      · exact⟨by simp,by simpa using hy⟩
      · have:=aGh (L:=l) h;exact⟨List.mem_cons_of_mem _ this.1,this.2⟩
theorem EnvD.set {n:Nat}{L:List (Nat×Value)}(E:EnvD ds n L a)(hn:d<n):EnvD ds n ((d,v)::aKf d L) (a.put (some d) v):=by
  refine⟨aWP.trans E.size,λx hx=>?_,E.df⟩;rw[aCr (by rw[E.size];exact hn)];rcases List.mem_cons.1 hx with rfl|hx
  · rw[if_pos rfl]
  · have:=aGh hx
    rw[if_neg this.2];exact E.at_ x this.1
variable{F:World->Prop}
section
variable{n:Nat}{L:List (Nat×Value)}
theorem aB8 (E:EnvD ds n L a)(hd:o.dst=some d)(hn:d<n)(hf:(L.map (·.1)).contains d=false)(hw:Region.wanted o (yielded O a.tmps)=true)(hr:(execOp a.eval o).run P w=.ok (.value v) w')(k:∀a',EnvD ds n ((d,v)::L) a'->wpList P O Q rest a' w'):wpList P O Q (o::rest) a w:=by
  refine aMZ hw hr ?_;rw[hd];exact k _ (E.put hn hf)
theorem aUg (E:EnvD ds n L a)(hd:o.dst=some d)(hn:d<n)(hw:Region.wanted o (yielded O a.tmps)=true)(hr:(execOp a.eval o).run P w=.ok (.value v) w')(k:∀a',EnvD ds n ((d,v)::aKf d L) a'->wpList P O Q rest a' w'):wpList P O Q (o::rest) a w:=by
  refine aMZ hw hr ?_;rw[hd];exact k _ (E.set hn)
theorem aCN (E:EnvD ds n L a)(hd:o.dst=none)(hw:Region.wanted o (yielded O a.tmps)=true)(hr:(execOp a.eval o).run P w=.ok .skip w')(k:EnvD ds n L a->wpList P O Q rest a w'):wpList P O Q (o::rest) a w:=aSX hw hr hd (k E)
theorem aD8 {f:FuncId}(E:EnvD ds n L a)(hd:o.dst=some d)(hn:d<n)(hf:(L.map (·.1)).contains d=false)(hw:Region.wanted o (yielded O a.tmps)=true)(hr:(execOp a.eval o).run P w=.ok (.enter f args) w)
    (hc:Calls P f args w λe w'=>e=.returned v/\F w') (k:∀a' w',F w'->EnvD ds n ((d,v)::L) a'->wpList P O Q rest a' w'):wpList P O Q (o::rest) a w:=by
  refine aNa (R:=λu w'=>u=v/\F w') hw hr (hc.mono λe w' h=>⟨v,h.1,rfl,h.2⟩) ?_;rintro u w' ⟨rfl,hF⟩;rw[hd];exact k _ w' hF (E.put hn hf)
theorem aRu {g:Nat}{b:Bool}(E:EnvD ds n L a)(hd:o.dst=some d)(hn:d<n)(hf:(L.map (·.1)).contains d=false)(hgd:o.guard=some (g,b))(hg:(O[g]?).bind (·.dst)=some s)(hs:s<n)(hv:a.eval (.tmp s)=.bool (!b))(k:∀a',EnvD ds n ((d,undef)::L) a'->wpList P O Q rest a' w):wpList P O Q (o::rest) a w:=by
  refine wpList_skip ?_ ?_
  · rw[aAM hgd,aBD hg (by rw[E.size];exact hs),hv];cases b<;>rfl
  · rw[hd];exact k _ (E.put hn hf)
theorem aVc {g:Nat}{b:Bool}(E:EnvD ds n L a)(hgd:o.guard=some (g,b))(hg:(O[g]?).bind (·.dst)=some s)(hs:s<n)(hv:a.eval (.tmp s)=.bool b):Region.wanted o (yielded O a.tmps)=true:=by
  rw[aAM hgd,aBD hg (by rw[E.size];exact hs),hv];simp
end
theorem aQn {x:Operand}{v:Value}(ho:o.op=.move x)(hx:ρ x=v):(execOp ρ o).run P w=.ok (.value v) w:=by
  simp[execOp,ho,hx,go_sem]
theorem aLR {x:Operand}{v:Value}(ho:o.op=.assign x)(hx:ρ x=v):(execOp ρ o).run P w=.ok (.value v) w:=by
  simp[execOp,ho,hx,go_sem]
variable{x:Operand}
theorem aAL {c y:Operand}(ho:o.op=.pick c x y)(hc:ρ c=.bool true)(hx:ρ x=v):(execOp ρ o).run P w=.ok (.value v) w:=by
  simp[execOp,ho,hc,hx,go_sem]
theorem aAx {c y:Operand}(ho:o.op=.pick c x y)(hc:ρ c=.bool false)(hy:ρ y=v):(execOp ρ o).run P w=.ok (.value v) w:=by
  simp[execOp,ho,hc,hy,go_sem]
theorem aBM {t:TypeId}{b:Bool}(ho:o.op=.unOp .not t x)(hx:ρ x=.bool b):(execOp ρ o).run P w=.ok (.value (.bool !b)) w:=by
  simp[execOp,ho,hx,go_sem]
section
variable{f:FuncId}{ts:Array TypeId}
theorem aBd (eg:∀args w,(callFunc f args).run P w=.ok (.enter f args) w)(ho:o.op=.call ⟨.value (.func f),#[x],ts⟩)(hf:ρ (.func f)=.func (.func f) #[] #[])(hx:ρ x=v):(execOp ρ o).run P w=.ok (.enter f #[v]) w:=by
  simp[execOp,ho,hf,hx,eg,resolve,Deferred.ofValue,invoke,go_sem]
theorem aAB {y:Operand}{u:Value}(eg:∀args w,(callFunc f args).run P w=.ok (.enter f args) w)(ho:o.op=.call ⟨.value (.func f),#[x,y],ts⟩)(hf:ρ (.func f)=.func (.func f) #[] #[])(hx:ρ x=v)(hy:ρ y=u):(execOp ρ o).run P w=.ok (.enter f #[v,u]) w:=by
  simp[execOp,ho,hf,hx,hy,eg,resolve,Deferred.ofValue,invoke,go_sem]
theorem aN2 {y z:Operand}{u t:Value}(eg:∀args w,(callFunc f args).run P w=.ok (.enter f args) w)(ho:o.op=.call ⟨.value (.func f),#[x,y,z],ts⟩)(hf:ρ (.func f)=.func (.func f) #[] #[])(hx:ρ x=v)(hy:ρ y=u)(hz:ρ z=t):(execOp ρ o).run P w=.ok (.enter f #[v,u,t]) w:=by
  simp[execOp,ho,hf,hx,hy,hz,eg,resolve,Deferred.ofValue,invoke,go_sem]
end
section
variable{t t2:TypeId}{k:IntKind}{y:Operand}{m n:Int}(hx:ρ x=.int k m)(hy:ρ y=.int k n)
include hx hy
theorem aKP (ht:P.underlying t=some (.int k))(ho:o.op=.binOp .eql t x y t2):(execOp ρ o).run P w=.ok (.value (.bool (m==n))) w:=by
  simp[execOp,ho,hx,hy,go_sem,ht]
theorem aBn (ht:P.underlying t=some (.int k))(ho:o.op=.binOp .lss t x y t2):(execOp ρ o).run P w=.ok (.value (.bool (decide (m<n)))) w:=by
  simp[execOp,ho,hx,hy,go_sem,ht]
theorem aFn (ht:P.underlying t=some (.int k))(ho:o.op=.binOp .leq t x y t2):(execOp ρ o).run P w=.ok (.value (.bool (decide (m<=n)))) w:=by
  simp[execOp,ho,hx,hy,go_sem,ht]
theorem aCk (ht:P.underlying t=some (.int k))(ho:o.op=.binOp .gtr t x y t2):(execOp ρ o).run P w=.ok (.value (.bool (decide (n<m)))) w:=by
  simp[execOp,ho,hx,hy,go_sem,ht]
end
section
variable{f:FuncId}{fn:Func}{c:Code}{R:Ending->World->Prop}{n:Nat}{L:List (Nat×Value)}
theorem aAs {t:Tmp}(hr:fn.results=#[.tmp t])(E:Env n L a)(hv:a.eval (.tmp t)=v)(h:R (.returned v) w):bodyPost P fn R .ret a w:=by
  refine⟨E.df,v,?_,h⟩;unfold results;rw[hr];have:a.tmps.getD t undef=v:=hv;rw[Array.getD_eq_getD_getElem?] at this;simp[this]
end
section
variable{next:Act->World->Prop}{Q1:Exit->Act->World->Prop}{id:Nat}
theorem aVm (h:next a w):Exit.then next Q1 .normal a w:=h
theorem aYe (h:Q1 .normal a w):Exit.inBlock id Q1 .normal a w:=h
theorem aVl (h:Q1 .ret a w):Exit.then next Q1 .ret a w:=h
theorem aYd (h:Q1 .ret a w):Exit.inBlock id Q1 .ret a w:=h
end
variable{x0 x1 x2 x3 x4 x5:Nat×Value}
section
theorem ep {n:Nat}{L:List (Nat×Value)}(E:EnvD ds n L a)(hd:o.dst=some d)(hr:(execOp a.eval o).run P w=.ok (.value v) w')(k:∀a',EnvD ds n ((d,v)::L) a'->wpList P O Q rest a' w')(hn:d<n:=by decide)(hf:(L.map (·.1)).contains d=false:=by rfl)(hw:Region.wanted o (yielded O a.tmps)=true:=by exact aAb rfl _):wpList P O Q (o::rest) a w:=aB8 E hd hn hf hw hr k
theorem eg {n:Nat}{L:List (Nat×Value)}(E:EnvD ds n L a)(hd:o.dst=some d)(hw:Region.wanted o (yielded O a.tmps)=true)(hr:(execOp a.eval o).run P w=.ok (.value v) w')(k:∀a',EnvD ds n ((d,v)::L) a'->wpList P O Q rest a' w')(hn:d<n:=by decide)(hf:(L.map (·.1)).contains d=false:=by rfl):wpList P O Q (o::rest) a w:=aB8 E hd hn hf hw hr k
theorem ek {n g:Nat}{b:Bool}{L:List (Nat×Value)}(E:EnvD ds n L a)(hd:o.dst=some d)(hgd:o.guard=some (g,b))(hv:a.eval (.tmp s)=.bool (!b))(k:∀a',EnvD ds n ((d,undef)::L) a'->wpList P O Q rest a' w)(hn:d<n:=by decide)(hf:(L.map (·.1)).contains d=false:=by rfl)(hg:(O[g]?).bind (·.dst)=some s:=by rfl)(hs:s<n:=by decide):wpList P O Q (o::rest) a w:=aRu E hd hn hf hgd hg hs hv k
theorem EnvD.g0 {n:Nat}{L:List (Nat×Value)}(E:EnvD ds n ((s,v)::L) a):a.eval (.tmp s)=v:=E.at_ (s,v) (.head _)
theorem EnvD.g1 {n:Nat}{L:List (Nat×Value)}(E:EnvD ds n (x0::(s,v)::L) a):a.eval (.tmp s)=v:=E.at_ (s,v) (.tail _ (.head _))
theorem EnvD.g2 {n:Nat}{L:List (Nat×Value)}(E:EnvD ds n (x0::x1::(s,v)::L) a):a.eval (.tmp s)=v:=E.at_ (s,v) (.tail _ (.tail _ (.head _)))
theorem EnvD.g3 {n:Nat}{L:List (Nat×Value)}(E:EnvD ds n (x0::x1::x2::(s,v)::L) a):a.eval (.tmp s)=v:=E.at_ (s,v) (.tail _ (.tail _ (.tail _ (.head _))))
theorem EnvD.g4 {n:Nat}{L:List (Nat×Value)}(E:EnvD ds n (x0::x1::x2::x3::(s,v)::L) a):a.eval (.tmp s)=v:=E.at_ (s,v) (.tail _ (.tail _ (.tail _ (.tail _ (.head _)))))
theorem EnvD.g5 {n:Nat}{L:List (Nat×Value)}(E:EnvD ds n (x0::x1::x2::x3::x4::(s,v)::L) a):a.eval (.tmp s)=v:=E.at_ (s,v) (.tail _ (.tail _ (.tail _ (.tail _ (.tail _ (.head _))))))
theorem EnvD.g6 {n:Nat}{L:List (Nat×Value)}(E:EnvD ds n (x0::x1::x2::x3::x4::x5::(s,v)::L) a):a.eval (.tmp s)=v:=E.at_ (s,v) (.tail _ (.tail _ (.tail _ (.tail _ (.tail _ (.tail _ (.head _)))))))
theorem EnvD.g7 {n:Nat}{x6:Nat×Value}{L:List (Nat×Value)}(E:EnvD ds n (x0::x1::x2::x3::x4::x5::x6::(s,v)::L) a):a.eval (.tmp s)=v:=E.at_ (s,v) (.tail _ (.tail _ (.tail _ (.tail _ (.tail _ (.tail _ (.tail _ (.head _))))))))
theorem EnvD.g8 {n:Nat}{x6 x7:Nat×Value}{L:List (Nat×Value)}(E:EnvD ds n (x0::x1::x2::x3::x4::x5::x6::x7::(s,v)::L) a):a.eval (.tmp s)=v:=E.at_ (s,v) (.tail _ (.tail _ (.tail _ (.tail _ (.tail _ (.tail _ (.tail _ (.tail _ (.head _)))))))))
theorem EnvD.g9 {n:Nat}{x6 x7 x8:Nat×Value}{L:List (Nat×Value)}(E:EnvD ds n (x0::x1::x2::x3::x4::x5::x6::x7::x8::(s,v)::L) a):a.eval (.tmp s)=v:=E.at_ (s,v) (.tail _ (.tail _ (.tail _ (.tail _ (.tail _ (.tail _ (.tail _ (.tail _ (.tail _ (.head _))))))))))
theorem EnvD.g10 {n:Nat}{x6 x7 x8 x9:Nat×Value}{L:List (Nat×Value)}(E:EnvD ds n (x0::x1::x2::x3::x4::x5::x6::x7::x8::x9::(s,v)::L) a):a.eval (.tmp s)=v:=E.at_ (s,v) (.tail _ (.tail _ (.tail _ (.tail _ (.tail _ (.tail _ (.tail _ (.tail _ (.tail _ (.tail _ (.head _)))))))))))
theorem EnvD.g11 {n:Nat}{x6 x7 x8 x9 x10:Nat×Value}{L:List (Nat×Value)}(E:EnvD ds n (x0::x1::x2::x3::x4::x5::x6::x7::x8::x9::x10::(s,v)::L) a):a.eval (.tmp s)=v:=E.at_ (s,v) (.tail _ (.tail _ (.tail _ (.tail _ (.tail _ (.tail _ (.tail _ (.tail _ (.tail _ (.tail _ (.tail _ (.head _))))))))))))
theorem wy_ {n g:Nat}{b:Bool}{L:List (Nat×Value)}(E:EnvD ds n L a)(hv:a.eval (.tmp s)=.bool b)(hgd:o.guard=some (g,b):=by rfl)(hg:(O[g]?).bind (·.dst)=some s:=by rfl)(hs:s<n:=by decide):Region.wanted o (yielded O a.tmps)=true:=aVc E hgd hg hs hv
theorem ec_ {n:Nat}{L:List (Nat×Value)}{f:FuncId}(E:EnvD ds n L a)(hd:o.dst=some d)(hr:(execOp a.eval o).run P w=.ok (.enter f args) w)(hc:Calls P f args w λe w'=>e=.returned v/\F w')(k:∀a' w',F w'->EnvD ds n ((d,v)::L) a'->wpList P O Q rest a' w')(hn:d<n:=by decide)(hf:(L.map (·.1)).contains d=false:=by rfl)(hw:Region.wanted o (yielded O a.tmps)=true:=by exact aAb rfl _):wpList P O Q (o::rest) a w:=aD8 E hd hn hf hw hr hc k
theorem es_ {n:Nat}{L:List (Nat×Value)}(E:EnvD ds n L a)(hd:o.dst=some d)(hr:(execOp a.eval o).run P w=.ok (.value v) w')(k:∀a',EnvD ds n ((d,v)::aKf d L) a'->wpList P O Q rest a' w')(hn:d<n:=by decide)(hw:Region.wanted o (yielded O a.tmps)=true:=by exact aAb rfl _):wpList P O Q (o::rest) a w:=aUg E hd hn hw hr k
end
end Go.Pl
namespace Go.Pl
end Go.Pl
namespace Go.Pl
variable{w:World}
theorem aAW {P:Program}{f:FuncId}{fn:Func}{c:Code}{R:Ending->World->Prop}{n:Nat}{v0 v1:Value}(hf:P.funcs[f]?=some fn)(hb:fn.body=some c)(hn:fn.ntmps=n)(h2:2<=n)(k:∀a,Env n [(0,v0),(1,v1)] a->c.wp P (bodyPost P fn R) a w):Calls P f #[v0,v1] w R:=by
  refine calls_of_wp hf hb (k _ ⟨?_,?_,rfl⟩)
  · simp[hn];omega
  · intro x hx
    simp only[List.mem_cons,List.not_mem_nil,or_false] at hx;rcases hx with rfl|rfl
    · show(#[v0,v1]++Array.replicate (fn.ntmps-2) undef).getD 0 undef=v0
      rw[Array.getD_eq_getD_getElem?,Array.getElem?_append_left sI];rfl
    · show(#[v0,v1]++Array.replicate (fn.ntmps-2) undef).getD 1 undef=v1
      rw[Array.getD_eq_getD_getElem?,Array.getElem?_append_left sI];rfl
abbrev n_:=@wpList_nil
abbrev t_:=@aVm
abbrev s_:=@wp_seq
abbrev r_:=@wp_region_lit
abbrev c_t:=@wp_cond_true
abbrev c_f:=@wp_cond_false
abbrev k_:=@wp_skip
abbrev b_:=@aYe
abbrev bk_:=@wp_block
abbrev x_:=@wp_exit
abbrev wr_:=@wp_ret
abbrev tr_:=@aVl
abbrev br_:=@aYd
abbrev m_:=@aQn
abbrev a_:=@aLR
open Go.RowKit
variable{ds:List Deferred}{P:Program}{ops:Array Oper}{Q:Exit->Act->World->Prop}
def aAH (ops:Array Oper)(i j:Nat):Bool:=((ops[i]?).map λo=>o.after.toList.any λe=>Region.binds .any e&&e.on==j).getD false
def aBx (ops:Array Oper):Bool:=(List.range ops.size).all λi=>((ops[i]?).map λo=>o.after.all λe => !Region.binds .any e||decide (e.on<i)).getD true
variable{listed:Array Bool}
theorem aBG {i:Nat}:i∈Region.ready .any ops listed↔i<ops.size/\listed.getD i true=false/\∃o,ops[i]?=some o/\∀e∈o.after,Region.binds .any e=true->listed.getD e.on false=true:=by
  unfold Region.ready;simp only[List.mem_filter,List.mem_range,Bool.and_eq_true,Bool.not_eq_true'];constructor
  · rintro⟨h1,h2,h3⟩
    refine⟨h1,h2,?_⟩;obtain⟨o,ho⟩:∃o,ops[i]?=some o:=⟨_,Array.getElem?_eq_getElem h1⟩;rw[ho] at h3;refine⟨o,ho,λe he hb=>?_⟩;simp only[Option.map_some,Option.getD_some,Array.all_eq_true'] at h3;have:=h3 e he;simpa[hb] using this
  · rintro⟨h1,h2,o,ho,h3⟩
    refine⟨h1,h2,?_⟩;rw[ho];simp only[Option.map_some,Option.getD_some,Array.all_eq_true'];intro e he
    cases hb:Region.binds .any e with
    | false=>rfl
    | true=>simpa using h3 e he hb
theorem aDD (hord:aBx ops=true)(hs:listed.size=ops.size)(hr:Region.ready .any ops listed=[]):∀i,i<ops.size->listed.getD i false=true:=by
  intro i
  induction i using Nat.strongRecOn with
  | _ i ih =>
    intro hi;apply Classical.byContradiction;intro hn;have hl:i<listed.size:=by omega
    have h2:listed.getD i true=false:=by
      rw[Array.getD_eq_getD_getElem?,Array.getElem?_eq_getElem hl] at hn ⊢;simpa using hn
    obtain⟨o,ho⟩:∃o,ops[i]?=some o:=⟨_,Array.getElem?_eq_getElem hi⟩
    have:i∈Region.ready .any ops listed:=by
      refine aBG.2 ⟨hi,h2,o,ho,λe he hb9=>?_⟩;have h4:=List.all_eq_true.1 hord i (by simpa using hi);rw[ho] at h4;simp only[Option.map_some,Option.getD_some,Array.all_eq_true'] at h4;have:=h4 e he;rw[hb9] at this;simp only[Bool.not_true,Bool.false_or,decide_eq_true_eq] at this;exact ih _ this oM
    rw[hr] at this;simp at this
structure RInv (ds:List Deferred)(n:Nat)(base:List (Nat×Value))(T:List (Option (Nat×Value)))(M:(Nat->Bool)->World->Prop)(listed:Array Bool)(a:Act)(w:World):Prop where
  env:EnvD ds n base a
  vals:∀j x,T[j]?=some (some x)->listed.getD j false=true->a.eval (.tmp x.1)=x.2
  mem:M (λj=>listed.getD j false) w
def aHe (ops:Array Oper)(n:Nat)(base:List (Nat×Value))(T:List (Option (Nat×Value))):Bool :=
  (T.length==ops.size)&&((List.range ops.size).all λi=>((ops[i]?).bind λo=>(T[i]?).map λt=>(o.guard.isNone&&(o.dst==t.map (·.1))&&(match t with|some x=>decide (x.1<n) && !(base.map (·.1)).contains x.1&&((List.range T.length).all λj=>j==i||(match T[j]? with|some (some y)=>y.1 != x.1|_=>true))|none=>true))).getD false)
def aGr (a:Act):Option (Nat×Value)->Act
  | some x=>a.put (some x.1) x.2
  | none=>a
theorem aEp {l:List Bool}:∀{i:Nat},l[i]?=some false->((l.set i true).filter (!·)).length+1=(l.filter (!·)).length:=by
  induction l with
  | nil=>intro i h;simp at h
  | cons b l ih =>
    intro i h
    cases i with
    | zero=>simp at h;subst h;simp
    | succ i =>
      simp at h;have:=ih h;cases b<;>simp[this]<;>omega
variable{M:(Nat->Bool)->World->Prop}
theorem aML {n:Nat}{base:List (Nat×Value)}{T:List (Option (Nat×Value))}(hord:aBx ops=true)(hT:aHe ops n base T=true)
    (step:∀(i:Nat)(o:Oper)(t:Option (Nat×Value))(lst:Nat->Bool)(a:Act)(w:World),ops[i]?=some o->T[i]?=some t->lst i=false->EnvD ds n base a->(∀(j:Nat)(x:Nat×Value),aAH ops i j=true->T[j]?=some (some x)->a.eval (.tmp x.1)=x.2)->(∀j,aAH ops i j=true->lst j=true)->M lst w ->
      o.wp P a w (λa' w'=>a'=aGr a t/\M (λj=>j==i||lst j) w') Q)
    (hend:∀a w,EnvD ds n base a->(∀(j:Nat)(x:Nat×Value),T[j]?=some (some x)->a.eval (.tmp x.1)=x.2)->M (λj=>decide (j<ops.size)) w->Q .normal a w) :
    ∀(fuel:Nat)(listed:Array Bool)(a:Act)(w:World),listed.size=ops.size->(listed.toList.filter (!·)).length<=fuel->RInv ds n base T M listed a w->wpAny P .any ops Q fuel listed a w:=by
  have hfin:∀(listed:Array Bool)(a:Act)(w:World),listed.size=ops.size->Region.ready .any ops listed=[]->RInv ds n base T M listed a w->Q .normal a w:=by
    intro listed a w hs hr h;have hall:=aDD hord hs hr
    have hlen:T.length=ops.size:=by
      unfold aHe at hT;simp only[Bool.and_eq_true,beq_iff_eq] at hT;exact hT.1
    refine hend a w h.env (λj x hj=>h.vals j x hj (hall j (by rw[<-hlen];exact(List.getElem?_eq_some_iff.1 hj).1))) ?_
    have e:(λj=>listed.getD j false)=λj=>decide (j<ops.size):=by
      funext j
      by_cases hj:j<ops.size
      · rw[hall j hj,decide_eq_true hj]
      · rw[decide_eq_false hj,Array.getD_eq_getD_getElem?,Array.getElem?_eq_none oM];rfl
    rw[<-e];exact h.mem
  intro fuel
  induction fuel with
  | zero =>
    intro listed a w hs hc h
    have hr:Region.ready .any ops listed=[]:=by
      apply List.eq_nil_iff_forall_not_mem.2;intro i hi;obtain⟨h1,h2,_⟩:=aBG.1 hi;have hl:i<listed.size:=by omega
      have:listed[i]?=some false:=by
        rw[Array.getD_eq_getD_getElem?,Array.getElem?_eq_getElem hl] at h2;rw[Array.getElem?_eq_getElem hl];simpa using h2
      have hm:false∈listed.toList.filter (!·):=by
        rw[List.mem_filter];exact⟨Array.mem_toList_iff.2 (Array.mem_of_getElem? this),rfl⟩
      have:=List.length_pos_of_mem hm;omega
    exact⟨hr,hfin listed a w hs hr h⟩
  | succ fuel ih =>
    intro listed a w hs hc h;refine⟨λhr=>hfin listed a w hs hr h,λi hi=>?_⟩;obtain⟨h1,h2,o,ho,hdep⟩:=aBG.1 hi;have hT':=hT;unfold aHe at hT';simp only[Bool.and_eq_true,beq_iff_eq] at hT';obtain⟨hlen,hall⟩:=hT';have hi':=List.all_eq_true.1 hall i (by simpa using h1);obtain⟨t,ht⟩:∃t,T[i]?=some t:=⟨_,List.getElem?_eq_getElem oM⟩;rw[ho,ht] at hi';simp only[Option.bind_some,Option.map_some,Option.getD_some,Bool.and_eq_true,beq_iff_eq] at hi';obtain⟨⟨hg,hd⟩,hx⟩:=hi';have hl:i<listed.size:=by omega
    have hf:listed.getD i false=false:=by
      rw[Array.getD_eq_getD_getElem?,Array.getElem?_eq_getElem hl] at h2 ⊢;simpa using h2
    have hf':listed[i]?=some false:=by
      rw[Array.getD_eq_getD_getElem?,Array.getElem?_eq_getElem hl] at hf;rw[Array.getElem?_eq_getElem hl];simpa using hf
    have hdl:∀j,aAH ops i j=true->listed.getD j false=true:=by
      intro j hj;unfold aAH at hj;rw[ho] at hj;simp only[Option.map_some,Option.getD_some,List.any_eq_true,Array.mem_toList_iff] at hj;obtain⟨e,he,hb⟩:=hj;simp only[Bool.and_eq_true,beq_iff_eq] at hb;rw[<-hb.2];exact hdep e he hb.1
    have hstep:=step i o t (λj=>listed.getD j false) a w ho ht hf h.env (λj x hj hx=>h.vals j x hx (hdl j hj)) hdl h.mem;unfold wpOp;simp only[ho];have hg':o.guard=none:=by cases hgg:o.guard with|none=>rfl|some g=>rw[hgg] at hg;simp at hg
    rw[aAb hg'];simp only[if_true];left;refine Oper.wp_mono ?_ hstep;rintro a' w' ⟨rfl,hM⟩
    have hset:∀j,(listed.setIfInBounds i true).getD j false=(j==i||listed.getD j false):=by
      intro j;rw[Array.getD_eq_getD_getElem?,Array.getElem?_setIfInBounds]
      by_cases e:i=j
      · subst e;simp[hl]
      · have e':(j==i)=false:=by simpa using Ne.symm e
        simp[e,e',Array.getD_eq_getD_getElem?]
    refine ih _ _ _ (by simpa using hs) ?_ ⟨?_,?_,?_⟩
    · have:=aEp (l:=listed.toList) (i:=i) (by simpa using hf')
      simp only[Array.toList_setIfInBounds];omega
    · cases t with
      | none=>exact h.env
      | some x =>
        simp only[Bool.and_eq_true,decide_eq_true_eq,Bool.not_eq_true'] at hx;have hp:=h.env.put (v:=x.2) hx.1.1 hx.1.2;exact⟨hp.size,λy hy=>hp.at_ y (List.mem_cons_of_mem _ hy),hp.df⟩
    · intro j x hj hlj
      rw[hset] at hlj
      cases t with
      | none =>
        by_cases e:j=i
        · subst e;rw[ht] at hj;simp at hj
        · have e':(j==i)=false:=by simpa using e
          rw[e',Bool.false_or] at hlj;exact h.vals j x hj hlj
      | some y =>
        simp only[Bool.and_eq_true,decide_eq_true_eq,Bool.not_eq_true'] at hx;show(a.put (some y.1) y.2).eval (.tmp x.1)=x.2;rw[aCr (by rw[h.env.size];exact hx.1.1)]
        by_cases e:j=i
        · subst e;rw[ht] at hj;simp at hj;subst hj;rw[if_pos rfl]
        · have e':(j==i)=false:=by simpa using e
          rw[e',Bool.false_or] at hlj;have h5:=List.all_eq_true.1 hx.2 j (by simpa using(List.getElem?_eq_some_iff.1 hj).1);rw[hj,e',Bool.false_or] at h5;have h6:x.1≠y.1:=by simpa using h5
          rw[if_neg h6];exact h.vals j x hj hlj
    · have e:(λj=>(listed.setIfInBounds i true).getD j false)=λj=>j==i||listed.getD j false:=funext hset
      rw[e];exact hM
variable{a:Act}
theorem aBE {id n:Nat}{base:List (Nat×Value)}{T:List (Option (Nat×Value))}(hm:P.follows .mixedOrders=true)(hord:aBx ops=true)(hT:aHe ops n base T=true)
    (E:EnvD ds n base a) (hM:M (λ_=>false) w.drew)
    (step:∀(i:Nat)(o:Oper)(t:Option (Nat×Value))(lst:Nat->Bool)(a:Act)(w:World),ops[i]?=some o->T[i]?=some t->lst i=false->EnvD ds n base a->(∀(j:Nat)(x:Nat×Value),aAH ops i j=true->T[j]?=some (some x)->a.eval (.tmp x.1)=x.2)->(∀j,aAH ops i j=true->lst j=true)->M lst w ->
      o.wp P a w (λa' w'=>a'=aGr a t/\M (λj=>j==i||lst j) w') Q)
    (hend:∀a w,EnvD ds n base a->(∀(j:Nat)(x:Nat×Value),T[j]?=some (some x)->a.eval (.tmp x.1)=x.2)->M (λj=>decide (j<ops.size)) w->Q .normal a w) :
    (Code.region id ops true).wp P Q a w:=by
  refine wp_region_any hm (aML hord hT step hend _ _ _ _ sI ?_ ⟨E,?_,?_⟩)
  · exact Nat.le_trans (List.length_filter_le _ _) sI
  · intro j x hj hlj
    rw[Array.getD_eq_getD_getElem?,Array.getElem?_replicate] at hlj
    split at hlj<;>simp at hlj
  · have e:(λj=>(Array.replicate ops.size false).getD j false)=λ_=>false:=by
      funext j;rw[Array.getD_eq_getD_getElem?,Array.getElem?_replicate]
      split<;>rfl
    rw[e];exact hM
section
variable{o:Oper}{w':World}{d:Nat}{v:Value}{M:World->Prop}
theorem aAe (hr:(execOp a.eval o).run P w=.ok (.value v) w)(hd:o.dst=some d)(hM:M w):o.wp P a w (λa' w'=>a'=aGr a (some (d,v))/\M w') Q:=by
  unfold Oper.wp;rw[hr,Oper.upon_value,hd];exact⟨rfl,hM⟩
theorem aSN (hr:(execOp a.eval o).run P w=.ok (.value v) w')(hd:o.dst=some d)(hM:M w'):o.wp P a w (λa' w'=>a'=aGr a (some (d,v))/\M w') Q:=by
  unfold Oper.wp;rw[hr,Oper.upon_value,hd];exact⟨rfl,hM⟩
theorem aEL {f:FuncId}{args:Array Value}{F:World->Prop}(hr:(execOp a.eval o).run P w=.ok (.enter f args) w)(hc:Calls P f args w λe w'=>e=.returned v/\F w')(hd:o.dst=some d)(hM:∀w',F w'->M w'):o.wp P a w (λa' w'=>a'=aGr a (some (d,v))/\M w') Q:=by
  unfold Oper.wp;rw[hr,Oper.upon_enter];refine hc.mono ?_;rintro e w' ⟨rfl,hF⟩;show _/\_;rw[hd];exact⟨rfl,hM w' hF⟩
end
end Go.Pl
namespace Go.Pl
theorem aVn {next:Act->World->Prop}{Q1:Exit->Act->World->Prop}{id:Nat}{a:Act}{w:World}(h:Q1 (.exit id) a w):Exit.then next Q1 (.exit id) a w:=h
theorem aYf {Q1:Exit->Act->World->Prop}{id:Nat}{a:Act}{w:World}(h:Q1 .normal a w):Exit.inBlock id Q1 (.exit id) a w:=by
  unfold Exit.inBlock;simp only[if_true];exact h
theorem aM8 {Q1:Exit->Act->World->Prop}{id id':Nat}{a:Act}{w:World}(hne:id'≠id)(h:Q1 (.exit id') a w):Exit.inBlock id Q1 (.exit id') a w:=by
  unfold Exit.inBlock;simp only[if_neg hne];exact h
abbrev te_:=@aVn
abbrev be_:=@aYf
open Go.RowKit
variable{ds:List Deferred}{P:Program}{ops:Array Oper}{Q:Exit->Act->World->Prop}
def aAJ (ops:Array Oper)(n:Nat)(base:List (Nat×Value))(T:List (Option (Nat×Value))):Bool :=
  (T.length==ops.size)&&((List.range ops.size).all λi=>((ops[i]?).bind λo=>(T[i]?).map λt=>((o.dst==t.map (·.1))&&(match t with|some x=>decide (x.1<n) && !(base.map (·.1)).contains x.1&&((List.range T.length).all λj=>j==i||(match T[j]? with|some (some y)=>y.1 != x.1|_=>true))|none=>true))).getD false)
variable{M:(Nat->Bool)->World->Prop}
theorem aLA {n:Nat}{base:List (Nat×Value)}{T:List (Option (Nat×Value))}(hord:aBx ops=true)(hT:aAJ ops n base T=true)
    (step:∀(i:Nat)(o:Oper)(t:Option (Nat×Value))(lst:Nat->Bool)(a:Act)(w:World),ops[i]?=some o->T[i]?=some t->lst i=false->EnvD ds n base a->(∀(j:Nat)(x:Nat×Value),aAH ops i j=true->T[j]?=some (some x)->a.eval (.tmp x.1)=x.2)->(∀j,aAH ops i j=true->lst j=true)->M lst w ->
      (Region.wanted o (yielded ops a.tmps)=true->o.wp P a w (λa' w'=>a'=aGr a t/\M (λj=>j==i||lst j) w') Q)/\(Region.wanted o (yielded ops a.tmps)=false->(∀x,t=some x->x.2=undef)/\M (λj=>j==i||lst j) w))
    (hend:∀a w,EnvD ds n base a->(∀(j:Nat)(x:Nat×Value),T[j]?=some (some x)->a.eval (.tmp x.1)=x.2)->M (λj=>decide (j<ops.size)) w->Q .normal a w) :
    ∀(fuel:Nat)(listed:Array Bool)(a:Act)(w:World),listed.size=ops.size->(listed.toList.filter (!·)).length<=fuel->RInv ds n base T M listed a w->wpAny P .any ops Q fuel listed a w:=by
  have hfin:∀(listed:Array Bool)(a:Act)(w:World),listed.size=ops.size->Region.ready .any ops listed=[]->RInv ds n base T M listed a w->Q .normal a w:=by
    intro listed a w hs hr h;have hall:=aDD hord hs hr
    have hlen:T.length=ops.size:=by
      unfold aAJ at hT;simp only[Bool.and_eq_true,beq_iff_eq] at hT;exact hT.1
    refine hend a w h.env (λj x hj=>h.vals j x hj (hall j (by rw[<-hlen];exact(List.getElem?_eq_some_iff.1 hj).1))) ?_
    have e:(λj=>listed.getD j false)=λj=>decide (j<ops.size):=by
      funext j
      by_cases hj:j<ops.size
      · rw[hall j hj,decide_eq_true hj]
      · rw[decide_eq_false hj,Array.getD_eq_getD_getElem?,Array.getElem?_eq_none oM];rfl
    rw[<-e];exact h.mem
  intro fuel
  induction fuel with
  | zero =>
    intro listed a w hs hc h
    have hr:Region.ready .any ops listed=[]:=by
      apply List.eq_nil_iff_forall_not_mem.2;intro i hi;obtain⟨h1,h2,_⟩:=aBG.1 hi;have hl:i<listed.size:=by omega
      have:listed[i]?=some false:=by
        rw[Array.getD_eq_getD_getElem?,Array.getElem?_eq_getElem hl] at h2;rw[Array.getElem?_eq_getElem hl];simpa using h2
      have hm:false∈listed.toList.filter (!·):=by
        rw[List.mem_filter];exact⟨Array.mem_toList_iff.2 (Array.mem_of_getElem? this),rfl⟩
      have:=List.length_pos_of_mem hm;omega
    exact⟨hr,hfin listed a w hs hr h⟩
  | succ fuel ih =>
    intro listed a w hs hc h;refine⟨λhr=>hfin listed a w hs hr h,λi hi=>?_⟩;obtain⟨h1,h2,o,ho,hdep⟩:=aBG.1 hi;have hT':=hT;unfold aAJ at hT';simp only[Bool.and_eq_true,beq_iff_eq] at hT';obtain⟨hlen,hall⟩:=hT';have hi':=List.all_eq_true.1 hall i (by simpa using h1);obtain⟨t,ht⟩:∃t,T[i]?=some t:=⟨_,List.getElem?_eq_getElem oM⟩;rw[ho,ht] at hi';simp only[Option.bind_some,Option.map_some,Option.getD_some,Bool.and_eq_true,beq_iff_eq] at hi';obtain⟨hd,hx⟩:=hi';have hl:i<listed.size:=by omega
    have hf:listed.getD i false=false:=by
      rw[Array.getD_eq_getD_getElem?,Array.getElem?_eq_getElem hl] at h2 ⊢;simpa using h2
    have hf':listed[i]?=some false:=by
      rw[Array.getD_eq_getD_getElem?,Array.getElem?_eq_getElem hl] at hf;rw[Array.getElem?_eq_getElem hl];simpa using hf
    have hdl:∀j,aAH ops i j=true->listed.getD j false=true:=by
      intro j hj;unfold aAH at hj;rw[ho] at hj;simp only[Option.map_some,Option.getD_some,List.any_eq_true,Array.mem_toList_iff] at hj;obtain⟨e,he,hb⟩:=hj;simp only[Bool.and_eq_true,beq_iff_eq] at hb;rw[<-hb.2];exact hdep e he hb.1
    have hstep:=step i o t (λj=>listed.getD j false) a w ho ht hf h.env (λj x hj hx=>h.vals j x hx (hdl j hj)) hdl h.mem;unfold wpOp;simp only[ho];have hgo:∀a' w',a'=aGr a t/\M (λj=>j==i||listed.getD j false) w'->wpAny P .any ops Q fuel (listed.setIfInBounds i true) a' w':=?_
    · cases hw:Region.wanted o (yielded ops a.tmps) with
      | true =>
        simp only[if_true];left;exact Oper.wp_mono hgo (hstep.1 hw)
      | false =>
        obtain⟨h3,h4⟩:=hstep.2 hw;refine hgo _ _ ⟨?_,h4⟩
        cases t with
        | none=>rw[show o.dst=none from hd];rfl
        | some x=>rw[show o.dst=some x.1 from hd,<-h3 x rfl];rfl
    rintro a' w' ⟨rfl,hM⟩
    have hset:∀j,(listed.setIfInBounds i true).getD j false=(j==i||listed.getD j false):=by
      intro j;rw[Array.getD_eq_getD_getElem?,Array.getElem?_setIfInBounds]
      by_cases e:i=j
      · subst e;simp[hl]
      · have e':(j==i)=false:=by simpa using Ne.symm e
        simp[e,e',Array.getD_eq_getD_getElem?]
    refine ih _ _ _ (by simpa using hs) ?_ ⟨?_,?_,?_⟩
    · have:=aEp (l:=listed.toList) (i:=i) (by simpa using hf')
      simp only[Array.toList_setIfInBounds];omega
    · cases t with
      | none=>exact h.env
      | some x =>
        simp only[Bool.and_eq_true,decide_eq_true_eq,Bool.not_eq_true'] at hx;have hp:=h.env.put (v:=x.2) hx.1.1 hx.1.2;exact⟨hp.size,λy hy=>hp.at_ y (List.mem_cons_of_mem _ hy),hp.df⟩
    · intro j x hj hlj
      rw[hset] at hlj
      cases t with
      | none =>
        by_cases e:j=i
        · subst e;rw[ht] at hj;simp at hj
        · have e':(j==i)=false:=by simpa using e
          rw[e',Bool.false_or] at hlj;exact h.vals j x hj hlj
      | some y =>
        simp only[Bool.and_eq_true,decide_eq_true_eq,Bool.not_eq_true'] at hx;show(a.put (some y.1) y.2).eval (.tmp x.1)=x.2;rw[aCr (by rw[h.env.size];exact hx.1.1)]
        by_cases e:j=i
        · subst e;rw[ht] at hj;simp at hj;subst hj;rw[if_pos rfl]
        · have e':(j==i)=false:=by simpa using e
          rw[e',Bool.false_or] at hlj;have h5:=List.all_eq_true.1 hx.2 j (by simpa using(List.getElem?_eq_some_iff.1 hj).1);rw[hj,e',Bool.false_or] at h5;have h6:x.1≠y.1:=by simpa using h5
          rw[if_neg h6];exact h.vals j x hj hlj
    · have e:(λj=>(listed.setIfInBounds i true).getD j false)=λj=>j==i||listed.getD j false:=funext hset
      rw[e];exact hM
theorem aC9 {id n:Nat}{base:List (Nat×Value)}{T:List (Option (Nat×Value))}{a:Act}{w:World}(hm:P.follows .mixedOrders=true)(hord:aBx ops=true)(hT:aAJ ops n base T=true)
    (E:EnvD ds n base a) (hM:M (λ_=>false) w.drew)
    (step:∀(i:Nat)(o:Oper)(t:Option (Nat×Value))(lst:Nat->Bool)(a:Act)(w:World),ops[i]?=some o->T[i]?=some t->lst i=false->EnvD ds n base a->(∀(j:Nat)(x:Nat×Value),aAH ops i j=true->T[j]?=some (some x)->a.eval (.tmp x.1)=x.2)->(∀j,aAH ops i j=true->lst j=true)->M lst w ->
      (Region.wanted o (yielded ops a.tmps)=true->o.wp P a w (λa' w'=>a'=aGr a t/\M (λj=>j==i||lst j) w') Q)/\(Region.wanted o (yielded ops a.tmps)=false->(∀x,t=some x->x.2=undef)/\M (λj=>j==i||lst j) w))
    (hend:∀a w,EnvD ds n base a->(∀(j:Nat)(x:Nat×Value),T[j]?=some (some x)->a.eval (.tmp x.1)=x.2)->M (λj=>decide (j<ops.size)) w->Q .normal a w) :
    (Code.region id ops true).wp P Q a w:=by
  refine wp_region_any hm (aLA hord hT step hend _ _ _ _ sI ?_ ⟨E,?_,?_⟩)
  · exact Nat.le_trans (List.length_filter_le _ _) sI
  · intro j x hj hlj
    rw[Array.getD_eq_getD_getElem?,Array.getElem?_replicate] at hlj
    split at hlj<;>simp at hlj
  · have e:(λj=>(Array.replicate ops.size false).getD j false)=λ_=>false:=by
      funext j;rw[Array.getD_eq_getD_getElem?,Array.getElem?_replicate]
      split<;>rfl
    rw[e];exact hM
variable{O:Array Oper}{o:Oper}{d:Nat}
section
variable{o':Oper}{t t':Option (Nat×Value)}{a a1:Act}{w:World}{M:World->Prop}{B:Prop}
theorem y9_ (ho:(some o:Option Oper)=some o')(hT:(some t:Option (Option (Nat×Value)))=some t')(h:o.wp P a w (λa' w'=>a'=aGr a t/\M w') Q):o'.wp P a w (λa' w'=>a'=aGr a t'/\M w') Q:=by cases ho;cases hT;exact h
theorem y0_ {f:Nat->Option Bool}(ho:(some o:Option Oper)=some o')(hT:(some t:Option (Option (Nat×Value)))=some t')(h:o.wp P a w (λa' w'=>a'=aGr a t/\M w') Q)(hg:o.guard=none:=by rfl):(Region.wanted o' f=true->o'.wp P a w (λa' w'=>a'=aGr a t'/\M w') Q)/\(Region.wanted o' f=false->B):=by
  cases ho;cases hT;exact⟨λ_=>h,λk=>by rw[aAb hg] at k;cases k⟩
theorem y1_ {n g s:Nat}{b:Bool}{L:List (Nat×Value)}(ho:(some o:Option Oper)=some o')(hT:(some t:Option (Option (Nat×Value)))=some t')(E:EnvD ds n L a1)(hv:a1.eval (.tmp s)=.bool b)(h:o.wp P a w (λa' w'=>a'=aGr a t/\M w') Q)(hgd:o.guard=some (g,b):=by rfl)(hg:(O[g]?).bind (·.dst)=some s:=by rfl)(hs:s<n:=by decide):(Region.wanted o' (yielded O a1.tmps)=true->o'.wp P a w (λa' w'=>a'=aGr a t'/\M w') Q)/\(Region.wanted o' (yielded O a1.tmps)=false->B):=by
  cases ho;cases hT;exact⟨λ_=>h,λk=>by rw[aVc E hgd hg hs hv] at k;cases k⟩
theorem y2_ {n g s:Nat}{b:Bool}{L:List (Nat×Value)}{A N:Prop}(ho:(some o:Option Oper)=some o')(hT:(some (some (d,undef)):Option (Option (Nat×Value)))=some t')(E:EnvD ds n L a1)(hv:a1.eval (.tmp s)=.bool (!b))(h:N)(hgd:o.guard=some (g,b):=by rfl)(hg:(O[g]?).bind (·.dst)=some s:=by rfl)(hs:s<n:=by decide):(Region.wanted o' (yielded O a1.tmps)=true->A)/\(Region.wanted o' (yielded O a1.tmps)=false->(∀x,t'=some x->x.2=undef)/\N):=by
  cases ho;cases hT;exact⟨λk=>(by rw[aAM hgd,aBD hg (by rw[E.size];exact hs),hv] at k;cases b<;>cases k),λ_=>⟨λx hx=>by cases hx;rfl,h⟩⟩
end
variable{ds:List Deferred}{P:Program}{ops:Array Oper}{Q:Exit->Act->World->Prop}
variable{G:Type}
def aE0 (T:G->List (Option (Nat×Value)))(M:G->(Nat->Bool)->World->Prop)(i:Nat)(γ:G)(lst:Nat->Bool)(a a':Act)(w':World):Prop :=
  ∃γ' t,(T γ')[i]?=some t/\a'=aGr a t/\(∀j,lst j=true->(T γ')[j]?=(T γ)[j]?)/\M γ' (λj=>j==i||lst j) w'
def aB3 (ops:Array Oper)(n:Nat)(base:List (Nat×Value))(U:List (Nat×Value×Nat))(T:List (Option (Nat×Value))):Bool :=
  aAJ ops n base T&&U.all λx=>(List.range T.length).all λj=>j==x.2.2||(match T[j]? with|some (some y)=>y.1 != x.1|_=>true)
variable{U:List (Nat×Value×Nat)}
theorem aBA {n:Nat}{base:List (Nat×Value)}{T:List (Option (Nat×Value))}(h:aB3 ops n base U T=true):aAJ ops n base T=true:=by
  unfold aB3 at h;rw[Bool.and_eq_true] at h;exact h.1
variable{j:Nat}
theorem aG7 {n:Nat}{base:List (Nat×Value)}{T:List (Option (Nat×Value))}(h:aB3 ops n base U T=true){x:Nat×Value×Nat}(hx:x∈U){y:Nat×Value}(hj:T[j]?=some (some y))(hne:j≠x.2.2):x.1≠y.1:=by
  unfold aB3 at h;rw[Bool.and_eq_true] at h;have h2:=List.all_eq_true.1 (List.all_eq_true.1 h.2 x hx) j (by simpa using(List.getElem?_eq_some_iff.1 hj).1);have e':(j==x.2.2)=false:=by simpa using hne
  rw[hj,e',Bool.false_or] at h2;intro e;rw[e] at h2;simp at h2
structure RInvU (ds:List Deferred)(ops:Array Oper)(n:Nat)(base:List (Nat×Value))(U:List (Nat×Value×Nat))(T:List (Option (Nat×Value)))(M:(Nat->Bool)->World->Prop)(listed:Array Bool)(a:Act)(w:World):Prop where
  inv:RInv ds n base T M listed a w
  old:∀x∈U,listed.getD x.2.2 false=false->a.eval (.tmp x.1)=x.2.1
  cl:∀j k,aAH ops j k=true->listed.getD j false=true->listed.getD k false=true
theorem aG4 {n:Nat}{base:List (Nat×Value)}{T:G->List (Option (Nat×Value))}{M:G->(Nat->Bool)->World->Prop}(hord:aBx ops=true)(hT:∀γ,aB3 ops n base U (T γ)=true)
    (step:∀(i:Nat)(o:Oper)(γ:G)(lst:Nat->Bool)(a:Act)(w:World),ops[i]?=some o->lst i=false->EnvD ds n base a->(∀(j:Nat)(x:Nat×Value),aAH ops i j=true->(T γ)[j]?=some (some x)->a.eval (.tmp x.1)=x.2)->(∀j,aAH ops i j=true->lst j=true)->(∀j k,aAH ops j k=true->lst j=true->lst k=true)->(∀x∈U,aAH ops x.2.2 i=true->a.eval (.tmp x.1)=x.2.1)->M γ lst w ->
      (Region.wanted o (yielded ops a.tmps)=true->o.wp P a w (aE0 T M i γ lst a) Q)/\(Region.wanted o (yielded ops a.tmps)=false->(∀x,(T γ)[i]?=some (some x)->x.2=undef)/\M γ (λj=>j==i||lst j) w))
    (hend:∀γ a w,EnvD ds n base a->(∀(j:Nat)(x:Nat×Value),(T γ)[j]?=some (some x)->a.eval (.tmp x.1)=x.2)->M γ (λj=>decide (j<ops.size)) w->Q .normal a w) :
    ∀(fuel:Nat)(γ:G)(listed:Array Bool)(a:Act)(w:World),listed.size=ops.size->(listed.toList.filter (!·)).length<=fuel->RInvU ds ops n base U (T γ) (M γ) listed a w->wpAny P .any ops Q fuel listed a w:=by
  have hfin:∀(γ:G)(listed:Array Bool)(a:Act)(w:World),listed.size=ops.size->Region.ready .any ops listed=[]->RInvU ds ops n base U (T γ) (M γ) listed a w->Q .normal a w:=by
    intro γ listed a w hs hr h;have hall:=aDD hord hs hr
    have hlen:(T γ).length=ops.size:=by
      have hT:=aBA (hT γ);unfold aAJ at hT;simp only[Bool.and_eq_true,beq_iff_eq] at hT;exact hT.1
    refine hend γ a w h.inv.env (λj x hj=>h.inv.vals j x hj (hall j (by rw[<-hlen];exact(List.getElem?_eq_some_iff.1 hj).1))) ?_
    have e:(λj=>listed.getD j false)=λj=>decide (j<ops.size):=by
      funext j
      by_cases hj:j<ops.size
      · rw[hall j hj,decide_eq_true hj]
      · rw[decide_eq_false hj,Array.getD_eq_getD_getElem?,Array.getElem?_eq_none oM];rfl
    rw[<-e];exact h.inv.mem
  intro fuel
  induction fuel with
  | zero =>
    intro γ listed a w hs hc h
    have hr:Region.ready .any ops listed=[]:=by
      apply List.eq_nil_iff_forall_not_mem.2;intro i hi;obtain⟨h1,h2,_⟩:=aBG.1 hi;have hl:i<listed.size:=by omega
      have:listed[i]?=some false:=by
        rw[Array.getD_eq_getD_getElem?,Array.getElem?_eq_getElem hl] at h2;rw[Array.getElem?_eq_getElem hl];simpa using h2
      have hm:false∈listed.toList.filter (!·):=by
        rw[List.mem_filter];exact⟨Array.mem_toList_iff.2 (Array.mem_of_getElem? this),rfl⟩
      have:=List.length_pos_of_mem hm;omega
    exact⟨hr,hfin γ listed a w hs hr h⟩
  | succ fuel ih =>
    intro γ listed a w hs hc h;refine⟨λhr=>hfin γ listed a w hs hr h,λi hi=>?_⟩;obtain⟨h1,h2,o,ho,hdep⟩:=aBG.1 hi
    have hlenT:∀γ,(T γ).length=ops.size:=λγ=>by
      have hT':=aBA (hT γ);unfold aAJ at hT';simp only[Bool.and_eq_true,beq_iff_eq] at hT';exact hT'.1
    have hl:i<listed.size:=by omega
    have hf:listed.getD i false=false:=by
      rw[Array.getD_eq_getD_getElem?,Array.getElem?_eq_getElem hl] at h2 ⊢;simpa using h2
    have hf':listed[i]?=some false:=by
      rw[Array.getD_eq_getD_getElem?,Array.getElem?_eq_getElem hl] at hf;rw[Array.getElem?_eq_getElem hl];simpa using hf
    have hdl:∀j,aAH ops i j=true->listed.getD j false=true:=by
      intro j hj;unfold aAH at hj;rw[ho] at hj;simp only[Option.map_some,Option.getD_some,List.any_eq_true,Array.mem_toList_iff] at hj;obtain⟨e,he,hb⟩:=hj;simp only[Bool.and_eq_true,beq_iff_eq] at hb;rw[<-hb.2];exact hdep e he hb.1
    have hstep:=step i o γ (λj=>listed.getD j false) a w ho hf h.inv.env (λj x hj hx=>h.inv.vals j x hx (hdl j hj)) hdl h.cl (λx hx hk=>h.old x hx (by
      cases hkl:listed.getD x.2.2 false with
      | false=>rfl
      | true=>have:=h.cl _ _ hk hkl;rw[hf] at this;cases this)) h.inv.mem
    unfold wpOp;simp only[ho];have hgo:∀a' w',aE0 T M i γ (λj=>listed.getD j false) a a' w'->wpAny P .any ops Q fuel (listed.setIfInBounds i true) a' w':=?_
    · cases hw:Region.wanted o (yielded ops a.tmps) with
      | true =>
        simp only[if_true];left;exact Oper.wp_mono hgo (hstep.1 hw)
      | false =>
        obtain⟨h3,h4⟩:=hstep.2 hw;obtain⟨t,ht⟩:∃t,(T γ)[i]?=some t:=⟨_,List.getElem?_eq_getElem (by rw[hlenT];exact h1)⟩;have hT':=aBA (hT γ);unfold aAJ at hT';simp only[Bool.and_eq_true,beq_iff_eq] at hT';obtain⟨hlen,hall⟩:=hT';have hi':=List.all_eq_true.1 hall i (by simpa using h1);rw[ho,ht] at hi';simp only[Option.bind_some,Option.map_some,Option.getD_some,Bool.and_eq_true,beq_iff_eq] at hi';obtain⟨hd,hx⟩:=hi';refine hgo _ _ ⟨γ,t,ht,?_,λ_ _=>rfl,h4⟩
        cases t with
        | none=>rw[show o.dst=none from hd];rfl
        | some x=>rw[show o.dst=some x.1 from hd,<-h3 x ht];rfl
    rintro a' w' ⟨γ',t,ht,rfl,hkeep,hM⟩;have hT':=aBA (hT γ');unfold aAJ at hT';simp only[Bool.and_eq_true,beq_iff_eq] at hT';obtain⟨hlen,hall⟩:=hT';have hi':=List.all_eq_true.1 hall i (by simpa using h1);rw[ho,ht] at hi';simp only[Option.bind_some,Option.map_some,Option.getD_some,Bool.and_eq_true,beq_iff_eq] at hi';obtain⟨hd,hx⟩:=hi'
    have hset:∀j,(listed.setIfInBounds i true).getD j false=(j==i||listed.getD j false):=by
      intro j;rw[Array.getD_eq_getD_getElem?,Array.getElem?_setIfInBounds]
      by_cases e:i=j
      · subst e;simp[hl]
      · have e':(j==i)=false:=by simpa using Ne.symm e
        simp[e,e',Array.getD_eq_getD_getElem?]
    refine ih γ' _ _ _ (by simpa using hs) ?_ ⟨⟨?_,?_,?_⟩,?_,?_⟩
    · have:=aEp (l:=listed.toList) (i:=i) (by simpa using hf')
      simp only[Array.toList_setIfInBounds];omega
    · cases t with
      | none=>exact h.inv.env
      | some x =>
        simp only[Bool.and_eq_true,decide_eq_true_eq,Bool.not_eq_true'] at hx;have hp:=h.inv.env.put (v:=x.2) hx.1.1 hx.1.2;exact⟨hp.size,λy hy=>hp.at_ y (List.mem_cons_of_mem _ hy),hp.df⟩
    · intro j x hj hlj
      rw[hset] at hlj;have hltj:=(List.getElem?_eq_some_iff.1 hj).1
      cases t with
      | none =>
        by_cases e:j=i
        · subst e;rw[ht] at hj;simp at hj
        · have e':(j==i)=false:=by simpa using e
          rw[e',Bool.false_or] at hlj;rw[hkeep j hlj] at hj;exact h.inv.vals j x hj hlj
      | some y =>
        simp only[Bool.and_eq_true,decide_eq_true_eq,Bool.not_eq_true'] at hx;show(a.put (some y.1) y.2).eval (.tmp x.1)=x.2;rw[aCr (by rw[h.inv.env.size];exact hx.1.1)]
        by_cases e:j=i
        · subst e;rw[ht] at hj;simp at hj;subst hj;rw[if_pos rfl]
        · have e':(j==i)=false:=by simpa using e
          rw[e',Bool.false_or] at hlj;have h5:=List.all_eq_true.1 hx.2 j (by simpa using hltj);rw[hj,e',Bool.false_or] at h5;have h6:x.1≠y.1:=by simpa using h5
          rw[if_neg h6];rw[hkeep j hlj] at hj;exact h.inv.vals j x hj hlj
    · have e:(λj=>(listed.setIfInBounds i true).getD j false)=λj=>j==i||listed.getD j false:=funext hset
      rw[e];exact hM
    · intro x hx2 hlx
      rw[hset] at hlx
      have hne:i≠x.2.2:=by
        intro e;rw[<-e] at hlx;simp at hlx
      have hlo:listed.getD x.2.2 false=false:=by
        have e':(x.2.2==i)=false:=by simpa using Ne.symm hne
        rw[e',Bool.false_or] at hlx;exact hlx
      cases t with
      | none=>exact h.old x hx2 hlo
      | some y =>
        have hsl:=aG7 (hT γ') hx2 ht hne;simp only[Bool.and_eq_true,decide_eq_true_eq,Bool.not_eq_true'] at hx;show(a.put (some y.1) y.2).eval (.tmp x.1)=x.2.1;rw[aCr (by rw[h.inv.env.size];exact hx.1.1),if_neg hsl];exact h.old x hx2 hlo
    · intro j k hjk hj
      rw[hset] at hj ⊢
      by_cases e:j=i
      · subst e;rw[hdl k hjk];simp
      · have e':(j==i)=false:=by simpa using e
        rw[e',Bool.false_or] at hj;rw[h.cl j k hjk hj];simp
theorem aAt (γ0:G){id n:Nat}{base:List (Nat×Value)}{T:G->List (Option (Nat×Value))}{M:G->(Nat->Bool)->World->Prop}{a:Act}{w:World}(hm:P.follows .mixedOrders=true)(hord:aBx ops=true)(hT:∀γ,aB3 ops n base U (T γ)=true)
    (E:EnvD ds n base a) (hU:∀x∈U,a.eval (.tmp x.1)=x.2.1) (hM:M γ0 (λ_=>false) w.drew)
    (step:∀(i:Nat)(o:Oper)(γ:G)(lst:Nat->Bool)(a:Act)(w:World),ops[i]?=some o->lst i=false->EnvD ds n base a->(∀(j:Nat)(x:Nat×Value),aAH ops i j=true->(T γ)[j]?=some (some x)->a.eval (.tmp x.1)=x.2)->(∀j,aAH ops i j=true->lst j=true)->(∀j k,aAH ops j k=true->lst j=true->lst k=true)->(∀x∈U,aAH ops x.2.2 i=true->a.eval (.tmp x.1)=x.2.1)->M γ lst w ->
      (Region.wanted o (yielded ops a.tmps)=true->o.wp P a w (aE0 T M i γ lst a) Q)/\(Region.wanted o (yielded ops a.tmps)=false->(∀x,(T γ)[i]?=some (some x)->x.2=undef)/\M γ (λj=>j==i||lst j) w))
    (hend:∀γ a w,EnvD ds n base a->(∀(j:Nat)(x:Nat×Value),(T γ)[j]?=some (some x)->a.eval (.tmp x.1)=x.2)->M γ (λj=>decide (j<ops.size)) w->Q .normal a w) :
    (Code.region id ops true).wp P Q a w:=by
  refine wp_region_any hm (aG4 hord hT step hend _ γ0 _ _ _ sI ?_ ⟨⟨E,?_,?_⟩,λx hx _=>hU x hx,?_⟩)
  · exact Nat.le_trans (List.length_filter_le _ _) sI
  · intro j x hj hlj
    rw[Array.getD_eq_getD_getElem?,Array.getElem?_replicate] at hlj
    split at hlj<;>simp at hlj
  · have e:(λj=>(Array.replicate ops.size false).getD j false)=λ_=>false:=by
      funext j;rw[Array.getD_eq_getD_getElem?,Array.getElem?_replicate]
      split<;>rfl
    rw[e];exact hM
  · intro j k _ hlj
    rw[Array.getD_eq_getD_getElem?,Array.getElem?_replicate] at hlj
    split at hlj<;>simp at hlj
variable{v:Value}{w':World}{args:Array Value}{i:Nat}
section
variable{T:G->List (Option (Nat×Value))}{M:G->(Nat->Bool)->World->Prop}{γ:G}{lst:Nat->Bool}{a:Act}{w:World}
theorem aAq (hT:(T γ)[i]?=some (some (d,v)))(hr:(execOp a.eval o).run P w=.ok (.value v) w)(hd:o.dst=some d)(hM:M γ (λj=>j==i||lst j) w):o.wp P a w (aE0 T M i γ lst a) Q:=by
  unfold Oper.wp;rw[hr,Oper.upon_value,hd];exact⟨γ,_,hT,rfl,λ_ _=>rfl,hM⟩
theorem aLB (γ':G)(hT:(T γ')[i]?=some (some (d,v)))(hr:(execOp a.eval o).run P w=.ok (.value v) w')(hd:o.dst=some d)(hk:∀j,lst j=true->(T γ')[j]?=(T γ)[j]?)(hM:M γ' (λj=>j==i||lst j) w'):o.wp P a w (aE0 T M i γ lst a) Q:=by
  unfold Oper.wp;rw[hr,Oper.upon_value,hd];exact⟨γ',_,hT,rfl,hk,hM⟩
theorem aDm (hT:(T γ)[i]?=some none)(hr:(execOp a.eval o).run P w=.ok .skip w')(hd:o.dst=none)(hM:M γ (λj=>j==i||lst j) w'):o.wp P a w (aE0 T M i γ lst a) Q:=by
  unfold Oper.wp;rw[hr,Oper.upon_skip,hd];exact⟨γ,_,hT,rfl,λ_ _=>rfl,hM⟩
theorem aHK {f:FuncId}{F:World->Prop}(hT:(T γ)[i]?=some (some (d,v)))(hr:(execOp a.eval o).run P w=.ok (.enter f args) w)(hc:Calls P f args w λe w'=>e=.returned v/\F w')(hd:o.dst=some d)(hM:∀w',F w'->M γ (λj=>j==i||lst j) w'):o.wp P a w (aE0 T M i γ lst a) Q:=by
  unfold Oper.wp;rw[hr,Oper.upon_enter];refine hc.mono ?_;rintro e w' ⟨rfl,hF⟩;show aE0 T M i γ lst a _ _;rw[hd];exact⟨γ,_,hT,rfl,λ_ _=>rfl,hM w' hF⟩
theorem aS5 {f:FuncId}{F:Value->World->Prop}(hr:(execOp a.eval o).run P w=.ok (.enter f args) w)(hc:Calls P f args w λe w'=>∃v,e=.returned v/\F v w')(hd:o.dst=some d)(hM:∀v w',F v w'->∃γ',(T γ')[i]?=some (some (d,v))/\(∀j,lst j=true->(T γ')[j]?=(T γ)[j]?)/\M γ' (λj=>j==i||lst j) w'):o.wp P a w (aE0 T M i γ lst a) Q:=by
  unfold Oper.wp;rw[hr,Oper.upon_enter];refine hc.mono ?_;rintro e w' ⟨v,rfl,hF⟩;obtain⟨γ',h1,h2,h3⟩:=hM v w' hF;show aE0 T M i γ lst a _ _;rw[hd];exact⟨γ',_,h1,rfl,h2,h3⟩
end
section
variable{o':Oper}{a a1:Act}{w:World}{K:Act->World->Prop}{A B N:Prop}
theorem z0_ {f:Nat->Option Bool}(ho:(some o:Option Oper)=some o')(h:o.wp P a w K Q)(hg:o.guard=none:=by rfl):(Region.wanted o' f=true->o'.wp P a w K Q)/\(Region.wanted o' f=false->B):=by
  cases ho;exact⟨λ_=>h,λk=>by rw[aAb hg] at k;cases k⟩
end
structure Fr (F:Nat->Prop)(w w':World):Prop where
  os:w'.os=w.os
  tape:w'.tape=w.tape
  output:w'.output=w.output
  size:w.heap.size<=w'.heap.size
  blk:∀r,r<w.heap.size->¬F r->w'.heap[r]?=w.heap[r]?
variable{F:Nat->Prop}{cur:Array Value}{E:TypeId}{fz:Nat×Nat}
section fr
variable{G:Nat->Prop}{a b c w:World}
@[simp] theorem Fr.refl (F:Nat->Prop)(w:World):Fr F w w:=⟨rfl,rfl,rfl,Nat.le_refl _,λ_ _ _=>rfl⟩
theorem Fr.trans' (h:Fr F a b)(k:Fr G b c)(hs:∀r,r<a.heap.size->G r->F r):Fr F a c :=
  ⟨k.os.trans h.os,k.tape.trans h.tape,k.output.trans h.output,Nat.le_trans h.size k.size,
    λr hr hf=>(k.blk r (Nat.lt_of_lt_of_le hr h.size) (λg=>hf (hs r hr g))).trans (h.blk r hr hf)⟩
theorem Fr.trans (h:Fr F a b)(k:Fr F b c):Fr F a c:=h.trans' k λ_ _=>id
theorem Fr.mono (h:Fr F a b)(hs:∀r,r<a.heap.size->F r->G r):Fr G a b:=⟨h.os,h.tape,h.output,h.size,λr hr hg=>h.blk r hr (λf=>hg (hs r hr f))⟩
@[simp] theorem Fr.drew (h:Fr F a w):Fr F a w.drew:=⟨h.os,h.tape,h.output,h.size,h.blk⟩
@[simp] theorem Fr.alloc (h:Fr F a w)(o:Obj):Fr F a (w.alloc o) :=
  h.trans ⟨rfl,rfl,rfl,by simp,λr hr _=>Below.heap_alloc _ _ _ hr⟩
theorem Fr.setCell (h:Fr F a w){p:Addr}(hp:p.block<a.heap.size->F p.block)(u:Value):Fr F a (w.setCell p u) :=
  h.trans' (G:=λr=>r=p.block) ⟨rfl,rfl,rfl,by simp[World.setCell],λr _ hne=>Below.heap_setCell _ _ _ _ hne⟩ (λr hr e=>by subst e;exact hp hr)
theorem Fr.grown {row:Option Nat}(h:Fr F a w)(hg:w.grownBy w' row)(hr:∀k,row=some k->k<a.heap.size->F k):Fr F a w' :=
  h.trans' (G:=λr=>row=some r) ⟨hg.os,hg.tape,hg.output,hg.size,λr hr hne=>hg.block r hr (λe=>hne e.symm)⟩ (λr hl e=>hr r e hl)
theorem Fr.below (h:Fr F a w)(hf:∀r,r<a.heap.size->¬F r):Below a.heap.size a w:=⟨h.os,h.tape,h.output,h.size,λr hr=>h.blk r hr (hf r hr)⟩
theorem Fr.of_below (h:Below a.heap.size a w):Fr F a w:=⟨h.os,h.tape,h.output,h.size,λr hr _=>h.block r hr⟩
theorem Fr.cell (h:Fr F w w'){p:Addr}(hc:w.cell? p=some v)(hf:¬F p.block):w'.cell? p=some v :=
  (World.cell?_of_block (h.blk p.block (World.block_lt_of_cell? w p hc) hf)).trans hc
theorem Fr.obj (h:Fr F w w'){r:Nat}{o:Obj}(hc:w.heap[r]?=some o)(hf:¬F r):w'.heap[r]?=some o :=
  (h.blk r (Array.getElem?_eq_some_iff.1 hc).1 hf).trans hc
@[simp] theorem aBJ {w:World}{r:Nat}(h:r<w.heap.size)(o:Obj):(w.alloc o).heap[r]?=w.heap[r]?:=Below.heap_alloc _ _ _ h
@[simp] theorem aAl (w:World)(o:Obj):(w.alloc o).heap[w.heap.size]?=some o:=heap_alloc_new w o
theorem aC7 {w:World}{r:Nat}(h:r=w.heap.size)(o:Obj):(w.alloc o).heap[r]?=some o:=by rw[h];exact heap_alloc_new w o
theorem aKm {w:World}{p:Addr}{r:Nat}(h:r≠p.block)(u:Value):(w.setCell p u).heap[r]?=w.heap[r]?:=Below.heap_setCell _ _ _ _ h
theorem aAk {w:World}{g off:Nat}(h:w.heap[g]?=some (.cells cur E fz))(u:Value) :
    (w.setCell ⟨g,off,none⟩ u).heap[g]?=some (.cells (cur.setIfInBounds off u) E fz):=by
  simp[World.setCell,Array.getElem?_modify,h]
theorem aAj {w:World}{g:Nat}(h:w.heap[g]?=some (.cells cur E fz))(off:Nat):w.cell? ⟨g,off,none⟩=cur[off]?:=by
  simp[World.cell?,h]
theorem aAm {w:World}{g:Nat}(h:w.heap[g]?=some (.cells cur E (0,0)))(off:Nat):w.frozen? ⟨g,off,none⟩=false:=by
  simp[World.frozen?,h]
theorem aAf {w:World}{g:Nat}{o:Obj}(h:w.heap[g]?=some o):g<w.heap.size:=(Array.getElem?_eq_some_iff.1 h).1
end fr
variable{t K:TypeId}{es:List MapEntry}{e:MapEntry}
section maps
open Classical
variable{P:Program}
noncomputable def upd (m:Value->Option Value)(k v:Value):Value->Option Value:=λx=>if x=k then some v else m x
theorem aHb (m k v):upd m k v k=some v:=by simp[upd]
theorem aDX (m){k x:Value}(h:x≠k):upd m k v x=m x:=by simp[upd,h]
structure Ents (P:Program)(K:TypeId)(es:List MapEntry)(clock:Nat)(m:Value->Option Value):Prop where
  keys:∀e∈es,∃l,keyOf P K e.key=some l
  apart:es.Pairwise (λx y=>x.key≠y.key)
  born:∀e∈es,e.born<clock
  stamps:es.Pairwise (λx y=>x.born≠y.born)
  at_:∀k v,m k=some v↔∃e∈es,e.key=k/\e.val=v
def aP8 (P:Program)(K:TypeId)(w:World)(b:Nat)(m:Value->Option Value):Prop :=
  ∃es clock,w.heap[b]?=some (.map es clock)/\Ents P K es.toList clock m
theorem aP8.lt {w:World}{b:Nat}{m}(h:aP8 P K w b m):b<w.heap.size:=by
  obtain⟨es,c,hb,_⟩:=h;exact(Array.getElem?_eq_some_iff.1 hb).1
theorem Ents.find (L:Maps.Keyed P K){w:World}{c:Nat}{m}(h:Ents P K es c m){key:Value}{l:Lit}(hk:keyOf P K key=some l) :
    ((Instr.findKey K key es).run P w=.ok none w/\m key=none/\∀e∈es,e.key≠key)\/
    ∃j e,(Instr.findKey K key es).run P w=.ok (some (j,e.val)) w/\es[j]?=some e/\e.key=key/\m key=some e.val:=by
  rcases L.find w hk es h.keys with⟨h1,h2⟩|⟨j,e,h1,h2,h3⟩
  · left
    refine⟨h1,?_,h2⟩
    cases hm:m key with
    | none=>rfl
    | some v =>
      obtain⟨e,he,hek,_⟩:=(h.at_ key v).1 hm;exact absurd hek (h2 e he)
  · right
    exact⟨j,e,h1,h2,h3,(h.at_ key e.val).2 ⟨e,List.mem_of_getElem? h2,h3,rfl⟩⟩
theorem aP8.look (L:Maps.Keyed P K){e:TypeId}(ht:P.underlying t=some (.map K e)){w:World}{b:Nat}{m}(h:aP8 P K w b m){key:Value}{l:Lit}(hk:keyOf P K key=some l)
    {z:Value}(hz:(zeroValue e).run P w=.ok z w):(Instr.lookup t (.map (some b)) key false).run P w=.ok ((m key).getD z) w:=by
  obtain⟨es,c,hb,h⟩:=h;rcases h.find L (w:=w) hk with⟨h1,h2,_⟩|⟨j,en,h1,h2,h3,h4⟩
  · simp[Instr.lookup,run_underlying ht,MapKept.run_getObj_map hb,L.check w _ hk,h1,hz,h2,Result.andThen]
  · simp[Instr.lookup,run_underlying ht,MapKept.run_getObj_map hb,L.check w _ hk,h1,h4,Result.andThen]
theorem aP8.look_ok (L:Maps.Keyed P K){e:TypeId}(ht:P.underlying t=some (.map K e)){w:World}{b:Nat}{m}(h:aP8 P K w b m){key:Value}{l:Lit}(hk:keyOf P K key=some l)
    {z:Value}(hz:(zeroValue e).run P w=.ok z w):(Instr.lookup t (.map (some b)) key true).run P w=.ok (.tuple #[(m key).getD z,.bool (m key).isSome]) w:=by
  obtain⟨es,c,hb,h⟩:=h;rcases h.find L (w:=w) hk with⟨h1,h2,_⟩|⟨j,en,h1,h2,h3,h4⟩
  · simp[Instr.lookup,run_underlying ht,MapKept.run_getObj_map hb,L.check w _ hk,h1,hz,h2,Result.andThen]
  · simp[Instr.lookup,run_underlying ht,MapKept.run_getObj_map hb,L.check w _ hk,h1,h4,Result.andThen]
def setBlk (w:World)(b:Nat)(o:Obj):World:={ w with heap:=w.heap.setIfInBounds b o }
theorem Fr.setBlk {a w:World}(h:Fr F a w){b:Nat}(hb:b<a.heap.size->F b)(o:Obj):Fr F a (setBlk w b o) :=
  h.trans' (G:=λr=>r=b) ⟨rfl,rfl,rfl,by simp[Pl.setBlk],λr _ hne=>by simp[Pl.setBlk,Ne.symm hne]⟩ (λr hr e=>by subst e;exact hb hr)
theorem aCR {w:World}{b:Nat}(hb:b<w.heap.size)(o:Obj):(setBlk w b o).heap[b]?=some o:=by
  simp[setBlk,hb]
theorem Ents.push {c:Nat}{m}(h:Ents P K es c m){key:Value}{l:Lit}(hk:keyOf P K key=some l)(hn:∀e∈es,e.key≠key) :
    Ents P K (es++[⟨key,v,c⟩]) (c+1) (upd m key v):=by
  refine⟨?_,?_,?_,?_,?_⟩
  · intro e he
    rcases List.mem_append.1 he with he|he
    · exact h.keys e he
    · simp at he;subst he;exact⟨l,hk⟩
  · rw[List.pairwise_append];exact⟨h.apart,by simp,λx hx y hy=>by simp at hy;subst hy;exact hn x hx⟩
  · intro e he
    rcases List.mem_append.1 he with he|he
    · have:=h.born e he;omega
    · simp at he;subst he;exact Nat.lt_succ_self _
  · rw[List.pairwise_append];exact⟨h.stamps,by simp,λx hx y hy=>by simp at hy;subst hy;have:=h.born x hx;simp;omega⟩
  · intro k u
    unfold upd
    by_cases hkk:k=key
    · subst hkk
      simp only[if_true,Option.some.injEq];constructor
      · rintro rfl;exact⟨⟨k,v,c⟩,by simp,rfl,rfl⟩
      · rintro⟨e,he,h1,h2⟩
        rcases List.mem_append.1 he with he|he
        · exact absurd h1 (hn e he)
        · simp at he;subst he;exact h2
    · simp only[if_neg hkk]
      rw[h.at_];constructor
      · rintro⟨e,he,h1,h2⟩;exact⟨e,List.mem_append_left _ he,h1,h2⟩
      · rintro⟨e,he,h1,h2⟩
        rcases List.mem_append.1 he with he|he
        · exact⟨e,he,h1,h2⟩
        · simp at he;subst he;exact absurd h1.symm hkk
theorem Ents.unique (hp:es.Pairwise (λx y=>x.key≠y.key)){x y:MapEntry}(hi:es[i]?=some x)(hj:es[j]?=some y)(hk:x.key=y.key):i=j:=by
  obtain⟨hi1,hi2⟩:=List.getElem?_eq_some_iff.1 hi;obtain⟨hj1,hj2⟩:=List.getElem?_eq_some_iff.1 hj;rcases Nat.lt_trichotomy i j with h|h|h
  · exact absurd (by rw[hi2,hj2];exact hk) (List.pairwise_iff_getElem.1 hp i j hi1 hj1 h)
  · exact h
  · exact absurd (by rw[hi2,hj2];exact hk.symm) (List.pairwise_iff_getElem.1 hp j i hj1 hi1 h)
theorem Ents.set {c:Nat}{m}(h:Ents P K es c m){key:Value}{e0:MapEntry}(hj:es[j]?=some e0)(hk:e0.key=key) :
    Ents P K (es.set j { e0 with key:=key,val:=v }) c (upd m key v):=by
  have hj1:j<es.length:=(List.getElem?_eq_some_iff.1 hj).1;have hj2:es[j]=e0:=(List.getElem?_eq_some_iff.1 hj).2
  have hget:∀i x,(es.set j { e0 with key:=key,val:=v })[i]?=some x->∃y,es[i]?=some y/\x.key=y.key/\x.born=y.born/\(i≠j->x=y)/\(i=j->x.val=v):=by
    intro i x hx;rw[List.getElem?_set] at hx
    by_cases hij:j=i
    · subst hij
      simp[hj1] at hx;subst hx;exact⟨e0,hj,hk.symm,rfl,λh=>absurd rfl h,λ_=>rfl⟩
    · simp[hij] at hx
      exact⟨x,hx,rfl,rfl,λ_=>rfl,λh=>absurd h.symm hij⟩
  have hpw:∀(R:MapEntry->MapEntry->Prop),(∀x y x' y',x.key=x'.key->x.born=x'.born->y.key=y'.key->y.born=y'.born->R x' y'->R x y)->es.Pairwise R->(es.set j { e0 with key:=key,val:=v }).Pairwise R:=by
    intro R hR hp;rw[List.pairwise_iff_getElem] at hp ⊢;intro a b ha hb hab;obtain⟨y,hy,h1,h2,_⟩:=hget a _ (List.getElem?_eq_getElem ha);obtain⟨z,hz,h3,h4,_⟩:=hget b _ (List.getElem?_eq_getElem hb);obtain⟨ha',rfl⟩:=List.getElem?_eq_some_iff.1 hy;obtain⟨hb',rfl⟩:=List.getElem?_eq_some_iff.1 hz;exact hR _ _ _ _ h1 h2 h3 h4 (hp a b ha' hb' hab)
  refine⟨?_,hpw _ (λx y x' y' h1 _ h2 _ hr=>by rw[h1,h2];exact hr) h.apart,?_,hpw _ (λx y x' y' _ h1 _ h2 hr=>by rw[h1,h2];exact hr) h.stamps,?_⟩
  · intro e he
    obtain⟨i,hi⟩:=List.getElem?_of_mem he;obtain⟨y,hy,h1,_⟩:=hget i e hi;rw[h1];exact h.keys y (List.mem_of_getElem? hy)
  · intro e he
    obtain⟨i,hi⟩:=List.getElem?_of_mem he;obtain⟨y,hy,_,h1,_⟩:=hget i e hi;rw[h1];exact h.born y (List.mem_of_getElem? hy)
  · intro k u
    unfold upd
    by_cases hkk:k=key
    · subst hkk
      simp only[if_true,Option.some.injEq];constructor
      · rintro rfl
        exact⟨{ e0 with key:=k,val:=v },List.mem_of_getElem? (i:=j) (by simp[hj1]),rfl,rfl⟩
      · rintro⟨e,he,h1,h2⟩
        obtain⟨i,hi⟩:=List.getElem?_of_mem he;obtain⟨y,hy,h3,h4,h5,h6⟩:=hget i e hi;have:i=j:=Ents.unique h.apart hy hj (by rw[<-h3,h1,hk]);rw[<-h2,h6 this]
    · simp only[if_neg hkk]
      rw[h.at_];constructor
      · rintro⟨e,he,h1,h2⟩
        obtain⟨i,hi⟩:=List.getElem?_of_mem he;have:j≠i:=by rintro rfl;rw[hj] at hi;cases hi;exact hkk (h1.symm.trans hk)
        exact⟨e,List.mem_of_getElem? (i:=i) (by rw[List.getElem?_set,if_neg this];exact hi),h1,h2⟩
      · rintro⟨e,he,h1,h2⟩
        obtain⟨i,hi⟩:=List.getElem?_of_mem he;obtain⟨y,hy,h3,h4,h5,h6⟩:=hget i e hi
        by_cases hij:i=j
        · subst hij;rw[hj] at hy;cases hy;exact absurd (h1.symm.trans (h3.trans hk)) hkk
        · rw[h5 hij] at h1 h2;exact⟨y,List.mem_of_getElem? hy,h1,h2⟩
theorem aEH (hp:es.Pairwise (λx y=>x.born≠y.born))(hj:es[j]?=some e):es.findIdx? (λx=>(x.born:Int)==(e.born:Int))=some j:=by
  obtain⟨hj1,hj2⟩:=List.getElem?_eq_some_iff.1 hj;rw[List.findIdx?_eq_some_iff_getElem];refine⟨hj1,by rw[hj2];simp,λi hi=>?_⟩;have:=List.pairwise_iff_getElem.1 hp i j oM hj1 hi;rw[hj2] at this;simp;omega
theorem aDI {A:Array MapEntry}(hp:A.toList.Pairwise (λx y=>x.born≠y.born))(hj:A[j]?=some e):A.findIdx? (λx=>(x.born:Int)==(e.born:Int))=some j:=by
  cases A with
  | mk l=>rw[List.findIdx?_toArray];exact aEH hp (by simpa using hj)
end maps
section maps2
variable{P:Program}
def aDS (P:Program)(K:TypeId)(w:World)(b n:Nat)(m:Value->Option Value):Prop :=
  ∃es clock,w.heap[b]?=some (.map es clock)/\Ents P K es.toList clock m/\es.size<=n
theorem aDS.at {w:World}{b n:Nat}{m}(h:aDS P K w b n m):aP8 P K w b m:=by
  obtain⟨es,c,hb,r,_⟩:=h;exact⟨es,c,hb,r⟩
theorem aDS.lt {w:World}{b n:Nat}{m}(h:aDS P K w b n m):b<w.heap.size:=h.at.lt
theorem aDS.of_blk {w:World}{b n:Nat}{m}(h:aDS P K w b n m)(e:w'.heap[b]?=w.heap[b]?):aDS P K w' b n m:=by
  obtain⟨es,c,hb,r⟩:=h;exact⟨es,c,e.trans hb,r⟩
theorem aDS.fr {w:World}{b n:Nat}{m}(h:aDS P K w b n m)(hf:Fr F w w')(hn:¬F b):aDS P K w' b n m:=h.of_blk (hf.blk b h.lt hn)
theorem aDS.mono {w:World}{b n n':Nat}{m}(h:aDS P K w b n m)(hn:n<=n'):aDS P K w b n' m:=by
  obtain⟨es,c,hb,r,hs⟩:=h;exact⟨es,c,hb,r,Nat.le_trans hs hn⟩
theorem aDS.made (w:World):aDS P K (w.alloc (.map #[] 0)) w.heap.size 0 (λ_=>none) :=
  ⟨#[],0,heap_alloc_new w _,⟨by simp,by simp,by simp,by simp,by simp⟩,by simp⟩
theorem aDS.store (L:Maps.Keyed P K){e:TypeId}(ht:P.underlying t=some (.map K e)){w:World}{b n:Nat}{m}(h:aDS P K w b n m){key:Value}{l:Lit}(hk:keyOf P K key=some l)(v:Value) :
    ∃o,∀W:World,W.heap[b]?=w.heap[b]?->(Instr.mapUpdate t (.map (some b)) key v).run P W=.ok () (setBlk W b o)/\aDS P K (setBlk W b o) b (if(m key).isSome then n else n+1) (upd m key v):=by
  obtain⟨es,c,hb0,h,hsz⟩:=h;rcases h.find L (w:=w) hk with⟨h1,h2,h3⟩|⟨j,en,h1,h2,h3,h4⟩
  · refine⟨.map (es.push ⟨key,v,c⟩) (c+1),λW hW=>?_⟩
    have hb:=hW.trans hb0;have hlt:b<W.heap.size:=(Array.getElem?_eq_some_iff.1 hb).1
    have h1:(Instr.findKey K key es.toList).run P W=.ok none W:=by
      rcases h.find L (w:=W) hk with⟨h1,_⟩|⟨j,en,_,g2,g3,_⟩
      · exact h1
      · exact absurd g3 (h3 en (List.mem_of_getElem? g2))
    refine⟨?_,_,_,aCR hlt _,by simpa using h.push hk h3,by rw[h2];simp;exact hsz⟩;simp[Instr.mapUpdate,run_underlying ht,MapKept.run_getObj_map hb,L.check W false hk,h1,MapKept.run_setObj_map _ hb,Result.andThen,setBlk]
  · have hj:j<es.size:=by simpa using(List.getElem?_eq_some_iff.1 h2).1
    have hj2:es[j]=en:=by simpa using(List.getElem?_eq_some_iff.1 h2).2
    refine⟨.map (es.modify j λe=>{ e with key:=key,val:=v }) c,λW hW=>?_⟩;have hb:=hW.trans hb0;have hlt:b<W.heap.size:=(Array.getElem?_eq_some_iff.1 hb).1
    have h1:(Instr.findKey K key es.toList).run P W=.ok (some (j,en.val)) W:=by
      rcases h.find L (w:=W) hk with⟨_,_,g3⟩|⟨j',en',g1,g2,g3,g4⟩
      · exact absurd h3 (g3 en (List.mem_of_getElem? h2))
      · have:j'=j:=Ents.unique h.apart g2 h2 (g3.trans h3.symm)
        subst this;rw[h2] at g2;cases g2;exact g1
    refine⟨?_,_,_,aCR hlt _,?_,by rw[h4];simp;exact hsz⟩
    · have hes:es[j]?=some en:=by simpa using h2
      have hst:=L.stays W hk;simp[Instr.mapUpdate,run_underlying ht,MapKept.run_getObj_map hb,L.check W false hk,h1,hes,h3,hst,MapKept.run_setObj_map _ hb,Result.andThen,setBlk]
    · have:(es.modify j λe=>{ e with key:=key,val:=v }).toList=es.toList.set j { en with key:=key,val:=v }:=by
        apply List.ext_getElem?;intro i;simp only[Array.getElem?_toList,Array.getElem?_modify,List.getElem?_set]
        by_cases hij:j=i
        · subst hij;simp[hj,hj2]
        · simp[hij]
      rw[this];exact h.set h2 h3
theorem aDS.len {e:TypeId}(ht:P.underlying t=some (.map K e)){w:World}{b n:Nat}{m}(h:aDS P K w b n m) :
    ∃c:Nat,c<=n/\(c=0↔∀k,m k=none)/\∀(W:World) ty,W.heap[b]?=w.heap[b]?->(Builtin.len_ #[t] ty #[.map (some b)]).run P W=.ok (.int .i64 c) W:=by
  obtain⟨es,c,hb0,h,hsz⟩:=h;refine⟨es.size,hsz,⟨λh0 k=>?_,λh0=>?_⟩,λW ty hW=>?_⟩
  · cases hm:m k with
    | none=>rfl
    | some v =>
      obtain⟨e,he,_⟩:=(h.at_ k v).1 hm;have:0<es.toList.length:=List.length_pos_of_mem he;simp at this;omega
  · rcases Nat.eq_zero_or_pos es.size with hz|hz
    · exact hz
    · have:=(h.at_ es[0].key es[0].val).2 ⟨es[0],by simp,rfl,rfl⟩
      rw[h0] at this;cases this
  · have hb:=hW.trans hb0
    simp[Builtin.len_,run_underlying ht,MapKept.run_getObj_map hb,goInt,Result.andThen]
def Rng (P:Program)(K:TypeId)(w:World)(b r:Nat)(m:Value->Option Value)(left:Value->Prop)(cnt:Nat):Prop :=
  ∃es clock since seen c0,w.heap[b]?=some (.map es clock)/\Ents P K es.toList clock m/\w.heap[r]?=some (.mapIter (some b) since seen c0)/\(∀x∈es.toList,x.born<since)/\(leftOf es seen).size=cnt/\
    (∀x∈es.toList,left x.key↔seen.contains x.born=false)/\(∀k,left k->∃x∈es.toList,x.key=k)/\since<=c0/\since<=clock
theorem Rng.at {w:World}{b r:Nat}{m left cnt}(h:Rng P K w b r m left cnt):aP8 P K w b m:=by
  obtain⟨es,c,_,_,_,hb,h,_⟩:=h;exact⟨es,c,hb,h⟩
theorem Rng.left_eq {w:World}{b r:Nat}{m left cnt}(h:Rng P K w b r m left cnt):w.rangeLeft b r=cnt:=by
  obtain⟨es,clock,since,seen,c0,hb,_,hr,_,hc,_⟩:=h;simp only[World.rangeLeft,hb,hr];exact hc
theorem Rng.ne {w:World}{b r:Nat}{m left cnt}(h:Rng P K w b r m left cnt):r≠b:=by
  obtain⟨es,clock,since,seen,c0,hb,_,hr,_⟩:=h;intro e;rw[e,hb] at hr;cases hr
theorem Rng.lt {w:World}{b r:Nat}{m left cnt}(h:Rng P K w b r m left cnt):r<w.heap.size:=by
  obtain⟨es,clock,since,seen,c0,_,_,hr,_⟩:=h;exact aAf hr
theorem Rng.fr {w:World}{b r:Nat}{m left cnt}(h:Rng P K w b r m left cnt)(hf:Fr F w w')(hb':¬F b)(hr':¬F r):Rng P K w' b r m left cnt:=by
  obtain⟨es,clock,since,seen,c0,hb,h2,hr,rest⟩:=h;exact⟨es,clock,since,seen,c0,hf.obj hb hb',h2,hf.obj hr hr',rest⟩
theorem Rng.next {w:World}{b r:Nat}{m left cnt}(h:Rng P K w b r m left cnt)(ty:TypeId) :
    ((∀k,¬left k)/\(Instr.next (.pointer (some ⟨r,0,none⟩)) false ty).run P w=.ok (.tuple #[.bool false]) w)\/
    ∃key v w' cnt',left key/\m key=some v/\(∃l,keyOf P K key=some l)/\(Instr.next (.pointer (some ⟨r,0,none⟩)) false ty).run P w=.ok (.tuple #[.bool true,key,v]) w'/\
      Rng P K w' b r m (λx=>left x/\x≠key) cnt'/\cnt'<cnt/\Fr (λx=>x=r) w w'/\(Instr.entry (.pointer (some ⟨r,0,none⟩))).run P w'=.ok (.tuple #[key,v]) w':=by
  have hne:=h.ne;obtain⟨es,clock,since,seen,c0,hb,F,hr,hold,rfl,hl1,hl2,hsc,hsk⟩:=h;rcases run_next_at (P:=P) w ty r b since c0 seen es clock hr hb hold hsc with⟨h0,hrun⟩|⟨e,he,w1,hal,hrun⟩
  · refine Or.inl ⟨λk hk=>?_,hrun⟩
    obtain⟨x,hx,rfl⟩:=hl2 k hk;have h1:=(hl1 x hx).1 hk;rw[all_seen es seen h0 x hx] at h1;cases h1
  · obtain⟨hem,hes⟩:=mem_left he
    have hr1:w1.heap[r]?=some (.mapIter (some b) since seen c0):=by rcases hal with rfl|rfl<;>exact hr
    have hb1:w1.heap[b]?=some (.map es clock):=by rcases hal with rfl|rfl<;>exact hb
    have hset:=MapKept.heap_set (o' := .mapIter (some b) since (seen.push e.born) clock) hr1;have hb':(ChangeMaps.setBlock w1 r (.mapIter (some b) since (seen.push e.born) clock)).heap[b]?=some (.map es clock):=(hset.2 b (λe1=>hne e1.symm)).trans hb1
    refine Or.inr ⟨e.key,e.val,_,_,(hl1 e hem).2 hes,(F.at_ _ _).2 ⟨e,hem,rfl,rfl⟩,F.keys e hem,hrun,
      ⟨es,clock,since,seen.push e.born,clock,hb',F,hset.1,hold,rfl,λx hx=>?_,λk hk=>hl2 k hk.1,hsk,hsk⟩,left_shrinks es seen e he,?_,
      run_entry_at _ r b since seen es clock e hset.1 hb' hem ?_⟩
    · show(left x.key/\x.key≠e.key)↔_
      rw[hl1 x hx,contains_push];obtain⟨i,hi⟩:=List.getElem?_of_mem hx;obtain⟨j,hj⟩:=List.getElem?_of_mem hem
      have hiff:x.key=e.key↔x.born=e.born:=by
        constructor
        · intro hk
          have:=Ents.unique F.apart hi hj hk;subst this;rw[hi] at hj;cases hj;rfl
        · intro hbn
          have:=aEH F.stamps hi;have h2:=aEH F.stamps hj;rw[hbn] at this;rw[this] at h2;cases h2;rw[hi] at hj;cases hj;rfl
      rw[ne_eq,hiff]
      by_cases hb2:x.born=e.born<;>simp[hb2]
    · rcases hal with rfl|rfl<;>exact⟨rfl,rfl,rfl,by simp[ChangeMaps.setBlock],λi _ hi=>hset.2 i hi⟩
    · rw[List.Nodup,List.pairwise_map];exact F.stamps
end maps2
variable{ds:List Deferred}
variable{R:Ending->World->Prop}{fn:Func}{v0:Value}
theorem aBV {P:Program}{f:FuncId}{c:Code}{n:Nat}{w:World}(hf:P.funcs[f]?=some fn)(hb:fn.body=some c)(hn:fn.ntmps=n)(h2:1<=n)(k:∀a,Env n [(0,v0)] a->c.wp P (bodyPost P fn R) a w):Calls P f #[v0] w R:=by
  refine calls_of_wp hf hb (k _ ⟨?_,?_,rfl⟩)
  · simp[hn];omega
  · intro x hx
    simp only[List.mem_cons,List.not_mem_nil,or_false] at hx;subst hx;show(#[v0]++Array.replicate (fn.ntmps-1) undef).getD 0 undef=v0;rw[Array.getD_eq_getD_getElem?,Array.getElem?_append_left sI];rfl
theorem aDg {P:Program}{f:FuncId}{c:Code}{n:Nat}{w:World}{v1 v2:Value}(hf:P.funcs[f]?=some fn)(hb:fn.body=some c)(hn:fn.ntmps=n)(h2:3<=n)(k:∀a,Env n [(0,v0),(1,v1),(2,v2)] a->c.wp P (bodyPost P fn R) a w):Calls P f #[v0,v1,v2] w R:=by
  refine calls_of_wp hf hb (k _ ⟨?_,?_,rfl⟩)
  · simp[hn];omega
  · intro x hx
    simp only[List.mem_cons,List.not_mem_nil,or_false] at hx;rcases hx with rfl|rfl|rfl
    · show(#[v0,v1,v2]++Array.replicate (fn.ntmps-3) undef).getD 0 undef=v0
      rw[Array.getD_eq_getD_getElem?,Array.getElem?_append_left sI];rfl
    · show(#[v0,v1,v2]++Array.replicate (fn.ntmps-3) undef).getD 1 undef=v1
      rw[Array.getD_eq_getD_getElem?,Array.getElem?_append_left sI];rfl
    · show(#[v0,v1,v2]++Array.replicate (fn.ntmps-3) undef).getD 2 undef=v2
      rw[Array.getD_eq_getD_getElem?,Array.getElem?_append_left sI];rfl
variable{ρ:Operand->Value}{x:Operand}{k:IntKind}
section
variable{P:Program}{w:World}{y:Operand}{m n:Int}{t2:TypeId}
theorem aQq (hx:ρ x=.int k m)(hy:ρ y=.int k n)(ht:P.underlying t=some (.int k))(ho:o.op=.binOp .neq t x y t2):(execOp ρ o).run P w=.ok (.value (.bool (m != n))) w:=by
  simp[execOp,ho,hx,hy,go_sem,ht]
end
theorem aKO {P:Program}{w:World}{t2:TypeId}{y:Operand}{m n:Int}(hx:ρ x=.int k m)(hy:ρ y=.int k n)(ht:P.underlying t=some (.int k))(ho:o.op=.binOp .geq t x y t2):(execOp ρ o).run P w=.ok (.value (.bool (decide (n<=m)))) w:=by
  simp[execOp,ho,hx,hy,go_sem,ht]
section
variable{P:Program}{w:World}
theorem aFq {u:Value}(ho:o.op=.extract x 0)(hx:ρ x=.tuple #[v,u]):(execOp ρ o).run P w=.ok (.value v) w:=by simp[execOp,ho,hx,go_sem]
theorem aFp {u:Value}(ho:o.op=.extract x 1)(hx:ρ x=.tuple #[v,u]):(execOp ρ o).run P w=.ok (.value u) w:=by simp[execOp,ho,hx,go_sem]
end
section
variable{P:Program}{a:Act}{w:World}{n g s:Nat}{b:Bool}{L:List (Nat×Value)}
theorem EnvD.add (E:EnvD ds n L a)(h:a.eval (.tmp s)=v):EnvD ds n ((s,v)::L) a:=⟨E.size,λx hx=>by
  rcases List.mem_cons.1 hx with rfl|hx
  · exact h
  · exact E.at_ x hx,E.df⟩
theorem bA0 (E:EnvD ds n L a)(hgd:o.guard=some (g,b))(hg:(O[g]?).bind (·.dst)=some s)(hs:s<n)(hv:a.eval (.tmp s)=.bool (!b)):Region.wanted o (yielded O a.tmps)=false:=by
  rw[aAM hgd,aBD hg (by rw[E.size];exact hs),hv];cases b<;>rfl
end
variable{rest:List Oper}
theorem aB1 {P:Program}{a:Act}{w:World}{n:Nat}{L:List (Nat×Value)}{f:FuncId}{R:Value->World->Prop}(E:EnvD ds n L a)(hd:o.dst=some d)(hn:d<n)(hf:(L.map (·.1)).contains d=false)(hw:Region.wanted o (yielded O a.tmps)=true)(hr:(execOp a.eval o).run P w=.ok (.enter f args) w)
    (hc:Calls P f args w λe w'=>∃v,e=.returned v/\R v w') (k:∀a' w' v,R v w'->EnvD ds n ((d,v)::L) a'->wpList P O Q rest a' w'):wpList P O Q (o::rest) a w:=by
  refine aNa (R:=R) hw hr hc ?_;intro v w' hR;rw[hd];exact k _ w' v hR (E.put hn hf)
variable{α:Type}
theorem aAz {f:α->List Value}{c:Nat}(hf:∀x,(f x).length=c)(l:List α):(l.flatMap f).length=l.length*c:=by
  induction l with
  | nil=>simp
  | cons y l ih=>rw[List.flatMap_cons,List.length_append,ih,hf,List.length_cons,Nat.succ_mul,Nat.add_comm]
theorem aBR {f:α->List Value}{c:Nat}(hf:∀x,(f x).length=c)(l:List α):∀(i:Nat)(x:α),l[i]?=some x->∀j,j<c->(l.flatMap f)[i*c+j]?=(f x)[j]?:=by
  induction l with
  | nil=>intro i x h;simp at h
  | cons y l ih =>
    intro i x h j hj;rw[List.flatMap_cons]
    cases i with
    | zero=>simp at h;subst h;rw[Nat.zero_mul,Nat.zero_add,List.getElem?_append_left (by rw[hf];exact hj)]
    | succ i =>
      simp at h;rw[List.getElem?_append_right (by rw[hf,Nat.succ_mul];omega),hf,show(i+1)*c+j-c=i*c+j by rw[Nat.succ_mul];omega];exact ih i x h j hj
theorem aCL {f:α->List Value}{c:Nat}(hf:∀x,(f x).length=c)(l:List α):∀i:Nat,(l.flatMap f).take (i*c)=(l.take i).flatMap f:=by
  induction l with
  | nil=>simp
  | cons y l ih =>
    intro i
    cases i with
    | zero=>simp
    | succ i =>
      rw[List.flatMap_cons,List.take_append,hf,show(i+1)*c-c=i*c by rw[Nat.succ_mul];omega,ih,List.take_of_length_le (by rw[hf,Nat.succ_mul];omega),List.take_succ_cons,List.flatMap_cons]
theorem aIC {f:α->List Value}{c:Nat}(hf:∀x,(f x).length=c)(l:List α):∀i:Nat,(l.flatMap f).drop (i*c)=(l.drop i).flatMap f:=by
  induction l with
  | nil=>simp
  | cons y l ih =>
    intro i
    cases i with
    | zero=>simp
    | succ i =>
      rw[List.flatMap_cons,List.drop_append,hf,show(i+1)*c-c=i*c by rw[Nat.succ_mul];omega,ih,List.drop_of_length_le (by rw[hf,Nat.succ_mul];omega),List.nil_append,List.drop_succ_cons]
theorem aNG (w:World)(E c:Nat):(w.alloc (.cells #[] E)).ownsRow w.heap.size E c (.slice (some ⟨w.heap.size,0,none⟩) 0 0) 0 [] :=
  ⟨by simp,.inr ⟨w.heap.size,0,#[],rfl,Nat.le_refl _,aAl _ _,Nat.le_refl _,by unfold maxLen;omega,by simp,by simp⟩⟩
section
variable{P:Program}{w:World}{y:Operand}{m n:Int}
theorem aAQ (ht:P.underlying t=some (.int .i64))(hx:ρ x=.int .i64 m)(hy:ρ y=.int .i64 n)(h1 : -9223372036854775808<=m+n)(h2:m+n<=9223372036854775807)(ho:o.op=.binOp .add t x y t):(execOp ρ o).run P w=.ok (.value (.int .i64 (m+n))) w:=by
  simp[execOp,ho,hx,hy,go_sem,ht,IntWalk.i64_in _ ⟨h1,h2⟩]
theorem aBT (ht:P.underlying t=some (.int .i64))(hx:ρ x=.int .i64 m)(hy:ρ y=.int .i64 n)(h1 : -9223372036854775808<=m-n)(h2:m-n<=9223372036854775807)(ho:o.op=.binOp .sub t x y t):(execOp ρ o).run P w=.ok (.value (.int .i64 (m-n))) w:=by
  simp[execOp,ho,hx,hy,go_sem,ht,IntWalk.i64_in _ ⟨h1,h2⟩]
theorem aD2 (ht:P.underlying t=some (.int .i64))(hx:ρ x=.int .i64 m)(hy:ρ y=.int .i64 n)(h1 : -9223372036854775808<=m*n)(h2:m*n<=9223372036854775807)(ho:o.op=.binOp .mul t x y t):(execOp ρ o).run P w=.ok (.value (.int .i64 (m*n))) w:=by
  simp[execOp,ho,hx,hy,go_sem,ht,IntWalk.i64_in _ ⟨h1,h2⟩]
theorem aPl (a b:ByteArray):(a.toList==b.toList)=decide (a=b):=by
  rw[Bool.eq_iff_iff,beq_iff_eq,decide_eq_true_eq];refine⟨λh=>?_,λh=>by rw[h]⟩;rw[ByteArray.toList_eq,ByteArray.toList_eq] at h;exact ByteArray.ext (Array.toList_inj.1 h)
theorem aQl {s u:ByteArray}(hx:ρ x=.string s)(hy:ρ y=.string u)(ho:o.op=.binOp .eql t x y t):(execOp ρ o).run P w=.ok (.value (.bool (decide (s=u)))) w:=by
  have e:=aPl s u;simp[execOp,ho,hx,hy,go_sem,e]
theorem aQi {s u:ByteArray}(hx:ρ x=.string s)(hy:ρ y=.string u)(ho:o.op=.binOp .neq t x y t):(execOp ρ o).run P w=.ok (.value (.bool (!decide (s=u)))) w:=by
  have e:=aPl s u;simp[execOp,ho,hx,hy,go_sem,e]
theorem aQj {s u:ByteArray}(hx:ρ x=.string s)(hy:ρ y=.string u)(ho:o.op=.binOp .lss t x y t):(execOp ρ o).run P w=.ok (.value (.bool (Op.bytesLess s.toList u.toList))) w:=by
  simp[execOp,ho,hx,hy,go_sem]
theorem aLM {a:Addr}(ho:o.op=.nilCheck x)(hx:ρ x=.pointer (some a)):(execOp ρ o).run P w=.ok (.value (.pointer (some a))) w:=by
  simp[execOp,ho,hx,go_sem]
theorem bx {w:World}{b:Nat}{cs:Array Value}{T:TypeId}(h:w.heap[b]?=some (.cells cs T (0,0)))(k:Nat)(hv:cs[k]?=some v):w.cell? ⟨b,k,none⟩=some v:=by rw[aAj h];exact hv
end
variable{k B G:Nat}
section
variable(f:α->List Value)(c:Nat)
def ow (E:TypeId)(w:World)(B:Nat)(v:Value)(L:List α):Prop:=w.ownsRow B E c v L.length (L.flatMap f)
def aBh (w:World)(G:Nat)(p:Option Addr)(L:List α):Prop:=L=[]\/∃g off,p=some ⟨g,off,none⟩/\g<G/\∀i x,L[i]?=some x->w.rangeAt g (off+i*c) (f x)
variable{f c}
theorem aBh.fr {w:World}{p:Option Addr}{L:List α}(h:aBh f c w G p L)(hf:Fr F w w')(hF:∀r,r<G->¬F r):aBh f c w' G p L:=by
  rcases h with h|⟨g,off,h1,h2,h3⟩
  · exact .inl h
  · exact .inr ⟨g,off,h1,h2,λi x hx j u hu=>hf.cell (h3 i x hx j u hu) (hF g h2)⟩
theorem aBh.mono {w:World}{G':Nat}{p:Option Addr}{L:List α}(h:aBh f c w G p L)(hG:G<=G'):aBh f c w G' p L:=by
  rcases h with h|⟨g,off,h1,h2,h3⟩
  · exact .inl h
  · exact .inr ⟨g,off,h1,Nat.lt_of_lt_of_le h2 hG,h3⟩
theorem aBh.at {w:World}{p:Option Addr}{L:List α}(h:aBh f c w G p L)(hi:i<L.length):∃g off,p=some ⟨g,off,none⟩/\g<G/\∀i x,L[i]?=some x->w.rangeAt g (off+i*c) (f x):=h.resolve_left (by rintro rfl;exact absurd hi (Nat.not_lt_zero _))
theorem ow.lt {w:World}{L:List α}(h:ow f c E w B v L)(hk:v.ownBlock=some k):B<=k/\k<w.heap.size:=by
  rcases h.2 with⟨rfl,_⟩|⟨g,cap,cur,rfl,h1,h2,_⟩
  · cases hk
  · cases hk;exact⟨h1,aAf h2⟩
theorem ow.fr {w:World}{L:List α}(h:ow f c E w B v L)(hf:Fr F w w')(hn:∀k,v.ownBlock=some k->¬F k):ow f c E w' B v L:=by
  refine⟨h.1,?_⟩;rcases h.2 with h1|⟨g,cap,cur,h1,h2,h3,h4⟩
  · exact .inl h1
  · exact .inr ⟨g,cap,cur,h1,h2,hf.obj h3 (hn g (by rw[h1];rfl)),h4⟩
theorem ow.base {w:World}{C:Nat}{L:List α}(h:ow f c E w B v L)(hC:C<=B):ow f c E w C v L:=by
  refine⟨h.1,?_⟩;rcases h.2 with h1|⟨g,cap,cur,h1,h2,h3⟩
  · exact .inl h1
  · exact .inr ⟨g,cap,cur,h1,Nat.le_trans hC h2,h3⟩
theorem ow.src (hf:∀x,(f x).length=c){w:World}{L:List α}(h:ow f c E w B v L):∃p cap,v=.slice p L.length cap/\L.length<=cap/\cap<=9223372036854775807/\aBh f c w w.heap.size p L/\(p=none->cap=0):=by
  have h0:=h;rcases h.2 with⟨h1,h2⟩|⟨g,cap,cur,h1,hB,h3,h4,h5,h6,h7⟩
  · have hl:L=[]:=List.eq_nil_of_length_eq_zero h2
    subst hl;exact⟨none,0,h1,Nat.le_refl _,by omega,.inl rfl,λ_=>rfl⟩
  · refine⟨_,cap,h1,h4,by unfold maxLen at h5;omega,.inr ⟨g,0,rfl,aAf h3,λi x hx j u hu=>?_⟩,λh=>by cases h⟩
    have hi:=(List.getElem?_eq_some_iff.1 hx).1;have hj:j<c:=by rw[<-hf x];exact(List.getElem?_eq_some_iff.1 hu).1
    have:=aBR hf L i x hx j hj
    have hlt:i*c+j<L.length*c:=by
      have:=Nat.mul_le_mul_right c (Nat.succ_le_of_lt hi);rw[Nat.succ_mul] at this;omega
    rw[hu,<-h7,List.getElem?_take_of_lt hlt,Array.getElem?_toList] at this;rw[aAj h3,Nat.zero_add];exact this
theorem aQ6 (w:World)(hB:B<=w.heap.size):ow f c E (w.alloc (.cells #[] E)) B (.slice (some ⟨w.heap.size,0,none⟩) 0 0) ([]:List α):=by
  have h:=aNG w E c;exact ow.base (f:=f) (L:=[]) h hB
theorem aCZ (w:World) :ow f c E w B (.slice none 0 0) ([]:List α):=World.ownsRow_nil _ _ _ _
theorem aCu {w:World}{b:Nat}{x:α}{T:TypeId}(hb:w.heap[b]?=some (.cells (f x).toArray T (0,0)))(hG:b<G):aBh f c w G (some ⟨b,0,none⟩) [x] := .inr ⟨b,0,rfl,hG,λi y hy j u hu=>by
  match i,hy with
  | 0,hy =>
    simp at hy;subst hy;rw[aAj hb];simpa using hu
  | i+1,hy=>simp at hy⟩
end
section
variable{P:Program}{a:Act}{w:World}{n:Nat}{L:List (Nat×Value)}{y:Operand}{b:Nat}
theorem aLt {f:α->List Value}{c:Nat}{T:TypeId}{bytes:Nat}{z:Value}(hf:∀x,(f x).length=c)(hc:0<c)(h1:∀x,∀u∈f x,u.oneCell'=true)(hT:P.underlying T=some (.slice E)){i:TypeInfo}(hi:P.info? E=some i)(hz:i.zero=some z)(hs:i.size=c)(hb:i.bytes=bytes)(hzs:z.cells.size=c)(hby:bytes<=64)
    {A S:List α}{p:Option Addr}{cap:Nat}(En:EnvD ds n L a) (hd:o.dst=some d) (hn:d<n) (hfr:(L.map (·.1)).contains d=false) (hg:o.guard=none) (ho:o.op=.call { callee := .builtin .append,args:=#[x,y],argTypes:=#[T,T] }) (hx:a.eval x=v) (hv:ow f c E w B v A) (hy:a.eval y=.slice p S.length cap) (hsrc:aBh f c w G p S) (hcp:p=none->cap=0) (hl:A.length+S.length<=400000000) (hB:B<=w.heap.size)
    (k:∀a' w' v',ow f c E w' B v' (A++S)->Fr (λk=>v.ownBlock=some k) w w'->(v'.ownBlock=v.ownBlock\/v'.ownBlock=some w.heap.size)->EnvD ds n ((d,v')::L) a'->wpList P O Q rest a' w'):wpList P O Q (o::rest) a w:=by
  rcases p with _|ad
  · have hS:S=[]:=by
      rcases hsrc with h|⟨g,off,h,_⟩
      · exact h
      · cases h
    subst hS;obtain rfl:=hcp rfl;refine wpList_append_own_none hg _ _ T ho B E i c hT hi v A.length _ hx hv hy ?_;rw[hd];refine k _ w v (by rw[List.append_nil];exact hv) (Fr.refl _ _) (.inl rfl) (En.put hn hfr)
  · refine wpList_append_own_at w hg _ _ T ho B E i z c bytes hT hi hz hs hb hzs hc v A.length _ hx hv ad S.length cap (S.flatMap f) hy (aAz hf S) (λj u hu=>?_) (λu hu=>?_) (by unfold maxLen;omega) ?_ hB λv' w' c1 c2 c3 c4=>?_
    · have hj:=(List.getElem?_eq_some_iff.1 hu).1
      rw[aAz hf] at hj;rcases hsrc with rfl|⟨g,off,h2,_,h3⟩
      · simp at hj
      · obtain rfl:=Option.some.inj h2
        have hm:j%c<c:=Nat.mod_lt _ hc;have hdv:j / c<S.length:=(Nat.div_lt_iff_lt_mul hc).2 hj;have e:j / c*c+j%c=j:=by rw[Nat.mul_comm];exact Nat.div_add_mod j c
        obtain⟨s,hs⟩:∃s,S[j / c]?=some s:=⟨_,List.getElem?_eq_getElem hdv⟩;have hfl:=aBR hf S (j / c) s hs (j%c) hm;rw[e,hu] at hfl;have:=h3 _ s hs (j%c) u hfl.symm;rw[Addr.add_mid,<-e,<-Nat.add_assoc];exact this
    · obtain⟨s,_,hs⟩:=List.mem_flatMap.1 hu
      exact h1 s u hs
    · have:=Nat.mul_le_mul (Nat.le_refl (A.length+S.length)) hby
      omega
    · rw[hd]
      refine k _ w' v' ?_ ((Fr.refl _ _).grown c2 λk hk _=>hk) c4 (En.put hn hfr);unfold ow;rw[List.length_append,List.flatMap_append];exact c1
end
theorem aCe {P:Program}{n:Nat}{L:List (Nat×Value)}{a:Act}{w:World}(hr:fn.results=#[])(E:Env n L a)(h:R (.returned (.tuple #[])) w):bodyPost P fn R .normal a w/\bodyPost P fn R .ret a w:=by
  have:bodyPost P fn R .ret a w:=by
    refine⟨E.df,.tuple #[],?_,h⟩;unfold results;rw[hr];simp
  exact⟨this,this⟩
abbrev i_:=@aLM
abbrev FR (r:Nat):Fence:=Fence.wide.inRound r
variable{ds:List Deferred}{P:Program}{ops:Array Oper}{Q:Exit->Act->World->Prop}{a:Act}{w:World}{r n:Nat}
theorem aEt {f:FuncId}(h:Calls P f args w R):CallsIn (FR r) n P f args w R:=callsIn_wide.2 h
theorem aIr {row:String}{R:Value->World->Prop}(h:Rows P row args w R):RowsIn (FR r) n P row args w R:=λc cs _=>by
 obtain⟨v,w',h1,h2⟩:=h c cs;exact⟨v,w',h1,stepsIn_wide.2 h2⟩
theorem aNP {next:Act->World->Prop}(hd:∀c,o.op ≠ .defer c)(h:o.wp P a w next Q):o.wpIn (FR r) n P a w next Q:=by
 refine⟨λ_ _=>trivial,?_⟩;rw[Oper.semAt_eq _ _ _ hd];unfold Oper.wp at h;generalize (execOp a.eval o).run P w=x at *
 cases x with
 | ok n' w' =>
  cases n'<;>simp only[Oper.upon,Oper.uponIn] at h ⊢ <;> first|exact h|exact h.elim|exact⟨λh=>(by cases h),aEt h⟩|exact⟨λh=>(by cases h),aIr h⟩
 | halt x w'=>cases x<;>simp only[Oper.upon,Oper.uponIn] at h ⊢ <;> exact h
def aJF (o:Oper):Bool:=match o.op with|.defer _=>false|_=>true
theorem aKY (h:aJF o=true):∀c,o.op ≠ .defer c:=λc e=>by unfold aJF at h;rw[e] at h;cases h
theorem aDL (hq:¬LetsOut Q):∀(l:List Oper)(a:Act)(w:World),l.all aJF=true->wpList P ops Q l a w->wpListIn (FR r) n P ops Q l a w
 | [],a,w,_,h=>h
 | o::rest,a,w,hd,h=>by
  simp only[List.all_cons,Bool.and_eq_true] at hd;simp only[wpList,wpListIn] at h ⊢
  split
  ·rename_i hw;rw[if_pos hw] at h;rcases h with h|h
   ·exact aNP (aKY hd.1) (Oper.wp_mono (λa w h=>aDL hq rest a w hd.2 h) h)
   ·exact absurd h.2 hq
  ·rename_i hw;rw[if_neg hw] at h;exact⟨λ_ _=>trivial,aDL hq rest _ w hd.2 h⟩
theorem aA7 {id:Nat}{l:List Oper}(hd:l.all aJF=true)(hq:¬LetsOut Q)(h:wpList P l.toArray Q l a w):(Code.region id l.toArray false).wpIn (FR r) n P Q a w :=
 wpIn_region_lit (aDL hq l a w hd h)
theorem aD0 (hd:ops.all aJF=true)(hq:¬LetsOut Q):∀(fuel:Nat)(listed:Array Bool)(a:Act)(w:World),wpAny P .any ops Q fuel listed a w->wpAnyIn (FR r) n P .any ops Q fuel listed a w
 | 0,listed,a,w,h=>h
 | fuel+1,listed,a,w,h=>by
  refine⟨h.1,λi hi=>?_⟩;have h2:=h.2 i hi;unfold wpOp at h2;unfold wpOpIn
  cases ho:ops[i]? with
  | none=>rw[ho] at h2;exact aD0 hd hq fuel _ _ _ h2
  | some o =>
   rw[ho] at h2;simp only at h2 ⊢
   split
   ·rename_i hw;rw[if_pos hw] at h2;rcases h2 with h2|h2
    ·refine aNP (aKY ?_) (Oper.wp_mono (λa w h=>aD0 hd hq fuel _ a w h) h2);rw[Array.all_eq_true'] at hd;exact hd o (Array.mem_of_getElem? ho)
    ·exact absurd h2.2 hq
   ·rename_i hw;rw[if_neg hw] at h2;exact⟨λ_ _=>trivial,aD0 hd hq fuel _ _ _ h2⟩
theorem aGu {id:Nat}(hd:ops.all aJF=true)(hq:¬LetsOut Q)(hm:P.follows .mixedOrders=true)(h:wpAny P .any ops Q ops.size (Array.replicate ops.size false) a w.drew):(Code.region id ops true).wpIn (FR r) n P Q a w :=
 wpIn_region_any hm (aD0 hd hq _ _ _ _ h)
theorem aDh {G:Type}(γ0:G){id:Nat}{base:List (Nat×Value)}{T:G->List (Option (Nat×Value))}{M:G->(Nat->Bool)->World->Prop}(hd:ops.all aJF=true)(hq:¬LetsOut Q)(hm:P.follows .mixedOrders=true)(hord:aBx ops=true)(hT:∀γ,aB3 ops n base U (T γ)=true)
  (E:EnvD ds n base a) (hU:∀x∈U,a.eval (.tmp x.1)=x.2.1) (hM:M γ0 (λ_=>false) w.drew)
  (step:∀(i:Nat)(o:Oper)(γ:G)(lst:Nat->Bool)(a:Act)(w:World),ops[i]?=some o->lst i=false->EnvD ds n base a->(∀(j:Nat)(x:Nat×Value),aAH ops i j=true->(T γ)[j]?=some (some x)->a.eval (.tmp x.1)=x.2)->(∀j,aAH ops i j=true->lst j=true)->(∀j k,aAH ops j k=true->lst j=true->lst k=true)->(∀x∈U,aAH ops x.2.2 i=true->a.eval (.tmp x.1)=x.2.1)->M γ lst w ->
   (Region.wanted o (yielded ops a.tmps)=true->o.wp P a w (aE0 T M i γ lst a) Q)/\(Region.wanted o (yielded ops a.tmps)=false->(∀x,(T γ)[i]?=some (some x)->x.2=undef)/\M γ (λj=>j==i||lst j) w))
  (hend:∀γ a w,EnvD ds n base a->(∀(j:Nat)(x:Nat×Value),(T γ)[j]?=some (some x)->a.eval (.tmp x.1)=x.2)->M γ (λj=>decide (j<ops.size)) w->Q .normal a w) :
  (Code.region id ops true).wpIn (FR r) k P Q a w:=by
 refine aGu hd hq hm (aG4 hord hT step hend _ γ0 _ _ _ sI ?_ ⟨⟨E,?_,?_⟩,λx hx _=>hU x hx,?_⟩)
 ·exact Nat.le_trans (List.length_filter_le _ _) sI
 ·intro j x hj hlj;rw[Array.getD_eq_getD_getElem?,Array.getElem?_replicate] at hlj
  split at hlj<;>simp at hlj
 ·have e:(λj=>(Array.replicate ops.size false).getD j false)=λ_=>false:=by
   funext j;rw[Array.getD_eq_getD_getElem?,Array.getElem?_replicate]
   split<;>rfl
  rw[e];exact hM
 ·intro j k _ hlj;rw[Array.getD_eq_getD_getElem?,Array.getElem?_replicate] at hlj
  split at hlj<;>simp at hlj
def aEO (P:Program)(l:Nat)(args:Array Value)(W:World)(R S:World->Prop):Prop :=
 ∃m,YieldAt Fence.wide m P l args W λe W'=>(e=.returned (.bool true)/\R W')\/(e=.returned (.bool false)/\S W')
end Go.Pl
namespace Go.Pl
open Go.RowKit
variable{P:Program}{Q:Exit->Act->World->Prop}{a:Act}{w:World}
theorem Fr.putObj (W:World)(l:Nat)(o:Obj):Fr (λb=>b=l) W (W.putObj l o) :=
 ⟨rfl,rfl,rfl,by simp,λr _ hr=>World.putObj_heap_other hr⟩
def aZq (R S:World->Prop):Exit->Act->World->Prop
 | .normal,_,W=>R W
 | .ret,_,W=>S W
 | _,_,_=>False
variable{ρ:Operand->Value}{ds:List Deferred}{ts:Array TypeId}{tmps:Array Value}
section
variable{O:Array Oper}{rest:List Oper}{o:Oper}{n d m:Nat}{L:List (Nat×Value)}{v:Value}{w':World}
theorem aBH (E:EnvD ds n L a)(hd:o.dst=some d)(hn:d<n)(hf:(L.map (·.1)).contains d=false)(hw:Region.wanted o (yielded O a.tmps)=true)(hr:(execOp a.eval o).run P w=.ok (.value v) w')(k:∀a',EnvD ds n ((d,v)::L) a'->wpListIn Fence.wide m P O Q rest a' w'):wpListIn Fence.wide m P O Q (o::rest) a w:=by
 simp only[wpListIn,hw,if_true];refine⟨λ_ _=>trivial,?_⟩;show Oper.uponIn _ _ _ _ _ _ _ ((execOp a.eval o).run P w);rw[hr];show wpListIn Fence.wide m P O Q rest (a.put o.dst v) w';rw[hd];exact k _ (E.put hn hf)
theorem aLJ {l fn:Nat}{x y:Operand}{v:Value}{as9 bd:Code}(ho:o.op=.call ⟨.value y,#[x],ts⟩)(hy:ρ y=.func (.yield l) #[] #[])(hx:ρ x=v)(hrun:(Instr.yield l #[v]).run P w=.ok (.round l fn tmps as9 bd) w):(execOp ρ o).run P w=.ok (.round l fn tmps as9 bd) w:=by
 simp[execOp,ho,hy,hx,resolve,Deferred.ofValue,invoke,go_sem,hrun]
theorem aFA {l fn:Nat}{x x2 y:Operand}{v v2:Value}{as9 bd:Code}(ho:o.op=.call ⟨.value y,#[x,x2],ts⟩)(hy:ρ y=.func (.yield l) #[] #[])(hx:ρ x=v)(hx2:ρ x2=v2)(hrun:(Instr.yield l #[v,v2]).run P w=.ok (.round l fn tmps as9 bd) w):(execOp ρ o).run P w=.ok (.round l fn tmps as9 bd) w:=by
 simp[execOp,ho,hy,hx,hx2,resolve,Deferred.ofValue,invoke,go_sem,hrun]
theorem aKe {id:Nat}{l:List Oper}(h:wpListIn Fence.wide 0 P l.toArray Q l a w):(Code.region id l.toArray false).wp P Q a w:=(wpIn_wide (n:=0)).1 (wpIn_region_lit h)
theorem aRw (h:Q .normal a w):wpListIn Fence.wide m P O Q [] a w:=h
end
theorem aLq {n d:Nat}{L:List (Nat×Value)}{x:Value}(E:EnvD ds n L a)(hn:d<n)(hf:(L.map (·.1)).contains d=false):Env n ((d,x)::L) { tmps:=((#[d]:Array Tmp).zip #[x]).foldl (λt (p,v)=>t.setIfInBounds p v) a.tmps,defers:=[] }:=by
 have h:=E.put (v:=x) hn hf;refine⟨?_,?_,rfl⟩
 ·have:=h.size;simpa[Act.put] using this
 ·intro y hy;have:=h.at_ y hy;simpa[Act.put,Act.eval] using this
end Go.Pl
namespace Go.Pl
open Go.RowKit
variable{P:Program}{w w':World}{ds:List Deferred}
abbrev mkD (D:Nat):Deferred:={ target := .collected D,args:=#[] }
def aB0 (ds:List Deferred)(k:Nat):Prop:=mkD k∈ds
def aCY (w:World)(ds:List Deferred):Prop:=ds.Nodup/\∀d∈ds,∃D,d=mkD D/\w.heap[D]?=some (.deferred (some []))
theorem aCY.nil (w:World):aCY w []:=⟨List.nodup_nil,λ_ h=>by cases h⟩
theorem aH2 {a b:Nat}(h:mkD a=mkD b):a=b:=by
 simp only[mkD,Deferred.mk.injEq,Target.collected.injEq] at h;exact h.1
theorem aCY.at (h:aCY w ds){k:Nat}(hk:aB0 ds k):w.heap[k]?=some (.deferred (some [])):=by
 obtain⟨D,h1,h2⟩:=h.2 _ hk;rw[aH2 h1];exact h2
theorem aCY.fr {F:Nat->Prop}(h:aCY w ds)(hf:Fr F w w')(hF:∀k,aB0 ds k->¬F k):aCY w' ds :=
 ⟨h.1,λd hd=>by
  obtain⟨D,h1,h2⟩:=h.2 d hd;exact⟨D,h1,hf.obj h2 (hF D (by unfold aB0;rw[<-h1];exact hd))⟩⟩
variable{D:Nat}
theorem aCY.cons (h:aCY w ds)(hD:w.heap[D]?=some (.deferred (some [])))(hn:¬aB0 ds D):aCY w (mkD D::ds) :=
 ⟨List.nodup_cons.2 ⟨hn,h.1⟩,λd hd=>by
  rcases List.mem_cons.1 hd with rfl|hd
  ·exact⟨D,rfl,hD⟩
  ·exact h.2 d hd⟩
theorem aBP {k:Nat}:aB0 (mkD D::ds) k↔k=D\/aB0 ds k:=by
 unfold aB0;rw[List.mem_cons];constructor
 ·rintro(h|h)
  ·exact .inl (aH2 h)
  ·exact .inr h
 ·rintro(rfl|h)
  ·exact .inl rfl
  ·exact .inr h
variable{R:Ending->World->Prop}{fn:Func}
theorem aJK {tmps:Array Value}:∀(ds:List Deferred)(w:World),aCY w ds ->
  (∀w',Fr (aB0 ds) w w'->∃v,(results fn tmps).run P w'=.ok v w'/\R (.returned v) w')->LeavesInM Fence.wide 0 P fn tmps R ds .returning w:=by
 intro ds
 induction ds with
 | nil=>intro w _ h;exact h w (Fr.refl _ _)
 | cons d ds ih =>
  intro w hm h;obtain⟨D,rfl,hD⟩:=hm.2 d sI;refine⟨by simp,.inl ⟨D,_,rfl,run_takeDeferred hD,ih _ ⟨(List.nodup_cons.1 hm.1).2,λe he=>?_⟩ λw' hf=>h w' ?_⟩⟩
  ·obtain⟨D2,rfl,h2⟩:=hm.2 e (by simp[he]);refine⟨D2,rfl,(World.putObj_heap_other ?_).trans h2⟩;rintro rfl;exact(List.nodup_cons.1 hm.1).1 he
  ·exact((Fr.putObj w D (.deferred none)).mono (λk _ hk=>aBP.2 (.inl hk))).trans' hf (λk _ hk=>aBP.2 (.inr hk))
theorem aL7 {f:FuncId}{c:Code}{n:Nat}{v0:Value}(hf:P.funcs[f]?=some fn)(hb:fn.body=some c)(hn:fn.ntmps=n)(h2:1<=n)(k:∀a,Env n [(0,v0)] a->c.wp P (bodyPostM Fence.wide 0 P fn R) a w):Calls P f #[v0] w R:=by
 refine(callsIn_wide (n:=0)).1 (callsIn_of_wp_marks hf hb trivial ((wpIn_wide (n:=0)).2 (k _ ⟨?_,?_,rfl⟩)))
 ·simp[hn];omega
 ·intro x hx;simp only[List.mem_cons,List.not_mem_nil,or_false] at hx;subst hx;show(#[v0]++Array.replicate (fn.ntmps-1) undef).getD 0 undef=v0;rw[Array.getD_eq_getD_getElem?,Array.getElem?_append_left sI];rfl
variable{a:Act}{v:Value}
theorem aKR {n:Nat}{L:List (Nat×Value)}{t:Tmp}(hr:fn.results=#[.tmp t])(E:EnvD ds n L a)(hv:a.eval (.tmp t)=v)(hm:aCY w ds)(h:∀w',Fr (aB0 ds) w w'->R (.returned v) w'):bodyPostM Fence.wide 0 P fn R .ret a w:=by
 show LeavesInM Fence.wide 0 P fn a.tmps R a.defers .returning w;rw[E.df];refine aJK ds w hm λw' hf=>⟨v,?_,h w' hf⟩;unfold results;rw[hr];have:a.tmps.getD t undef=v:=hv;rw[Array.getD_eq_getD_getElem?] at this;simp[this]
def lenOf:Value->Nat
 | .slice _ n _=>n
 | _=>0
theorem aRv {n:Nat}{L:List (Nat×Value)}(E:EnvD ds n L a):EnvD (mkD D::ds) n L { a with defers:={ target := .collected D,args:=#[] }::a.defers } :=
 ⟨E.size,E.at_,by simp only;rw[E.df]⟩
abbrev fen (rd:Option Nat):Fence:={ Fence.wide with round:=rd }
variable{O:Array Oper}{Q:Exit->Act->World->Prop}{o:Oper}{ρ:Operand->Value}{args:Array Value}{d:Nat}{x:Next}{M:World->Prop}{K:Act->World->Prop}{rd:Option Nat}
section
variable{P:Program}{rest:List Oper}{m:Nat}
theorem aGo {f:FuncId}(h:Calls P f args w R):CallsIn (fen rd) m P f args w R:=callsIn_wide.2 h
theorem aOQ (hr:(execOp ρ o).run P w=.ok x w')(hx:∀d,x ≠ .defer d):∀c,o.op ≠ .defer c:=by
 intro c hc;unfold execOp at hr;rw[hc] at hr;simp only[Sem.run_bind] at hr
 cases hres:(resolve ρ c o.type).run P w with
 | ok d w1 =>
  rw[hres] at hr;simp only[Result.andThen_ok,Sem.run_pure] at hr;cases hr;exact hx d rfl
 | halt s w1=>rw[hres] at hr;cases hr
theorem aHh (hr:(execOp ρ o).run P w=.ok x w')(hx:∀d,x ≠ .defer d):(o.semAt rd ρ).run P w=.ok x w':=by
 rw[Oper.semAt_eq _ _ _ (aOQ hr hx)];exact hr
theorem aF1 (hr:(execOp a.eval o).run P w=.ok (.value v) w')(h:K (a.put o.dst v) w'):o.wpIn (fen rd) 0 P a w K Q:=by
 refine⟨λ_ _=>trivial,?_⟩;show Oper.uponIn _ _ _ _ _ _ _ ((o.semAt rd a.eval).run P w);rw[aHh hr (by intro d h;cases h)];exact h
theorem aMP (hr:(execOp a.eval o).run P w=.ok .skip w')(hd:o.dst=none)(h:K a w'):o.wpIn (fen rd) 0 P a w K Q:=by
 refine⟨λ_ _=>trivial,?_⟩;show Oper.uponIn _ _ _ _ _ _ _ ((o.semAt rd a.eval).run P w);rw[aHh hr (by intro d h;cases h),Oper.uponIn_skip,hd];exact h
theorem aSM {f:FuncId}{R:Value->World->Prop}{Rp:List PanicEntry->World->Prop}(hr:(execOp a.eval o).run P w=.ok (.enter f args) w)(hc:Calls P f args w λe w'=>(∃v,e=.returned v/\R v w')\/∃ch,e=.panicked ch/\Rp ch w')(h:∀v w',R v w'->K (a.put o.dst v) w')(hp:∀ch w',Rp ch w'->Q (.panic ch) a w'):o.wpIn (fen rd) 0 P a w K Q:=by
 refine⟨λ_ _=>trivial,?_⟩;show Oper.uponIn _ _ _ _ _ _ _ ((o.semAt rd a.eval).run P w);rw[aHh hr (by intro d h;cases h),Oper.uponIn_enter];refine⟨λh=>(by cases h),aGo (hc.mono ?_)⟩;rintro e w' (⟨v,rfl,hR⟩|⟨ch,rfl,hR⟩)
 ·exact h v w' hR
 ·exact hp ch w' hR
theorem aCA {f:FuncId}{R:Value->World->Prop}(hr:(execOp a.eval o).run P w=.ok (.enter f args) w)(hc:Calls P f args w λe w'=>∃v,e=.returned v/\R v w')(h:∀v w',R v w'->K (a.put o.dst v) w'):o.wpIn (fen rd) 0 P a w K Q :=
 aSM (Rp:=λ_ _=>False) hr (hc.mono λe w' h =>.inl h) h λ_ _ h=>h.elim
theorem aQb (hw:Region.wanted o (yielded O a.tmps)=true)(h:o.wpIn (fen rd) 0 P a w (wpListIn (fen rd) 0 P O Q rest) Q):wpListIn (fen rd) 0 P O Q (o::rest) a w:=by
 simp only[wpListIn,hw,if_true];exact h
theorem aDH (hw:Region.wanted o (yielded O a.tmps)=true)(hr:(execOp a.eval o).run P w=.ok (.value v) w')(h:wpListIn (fen rd) 0 P O Q rest (a.put o.dst v) w'):wpListIn (fen rd) 0 P O Q (o::rest) a w:=aQb hw (aF1 hr h)
theorem aJt (hw:Region.wanted o (yielded O a.tmps)=true)(hr:(execOp a.eval o).run P w=.ok .skip w')(hd:o.dst=none)(h:wpListIn (fen rd) 0 P O Q rest a w'):wpListIn (fen rd) 0 P O Q (o::rest) a w:=aQb hw (aMP hr hd h)
theorem aNj {f:FuncId}{R:Value->World->Prop}(hw:Region.wanted o (yielded O a.tmps)=true)(hr:(execOp a.eval o).run P w=.ok (.enter f args) w)(hc:Calls P f args w λe w'=>∃v,e=.returned v/\R v w')(h:∀v w',R v w'->wpListIn (fen rd) 0 P O Q rest (a.put o.dst v) w'):wpListIn (fen rd) 0 P O Q (o::rest) a w:=aQb hw (aCA hr hc h)
theorem aX6 (hw:Region.wanted o (yielded O a.tmps)=false)(h:wpListIn (fen rd) 0 P O Q rest (a.put o.dst undef) w):wpListIn (fen rd) 0 P O Q (o::rest) a w:=by
 simp only[wpListIn,hw];exact⟨λ_ _=>trivial,h⟩
theorem aSL (hr:(execOp a.eval o).run P w=.ok (.value v) w)(hd:o.dst=some d)(hM:M w):o.wpIn (fen rd) 0 P a w (λa' w'=>a'=aGr a (some (d,v))/\M w') Q:=aF1 hr ⟨by rw[hd];rfl,hM⟩
theorem aPM {f:FuncId}{F:World->Prop}(hr:(execOp a.eval o).run P w=.ok (.enter f args) w)(hc:Calls P f args w λe w'=>e=.returned v/\F w')(hd:o.dst=some d)(hM:∀w',F w'->M w'):o.wpIn (fen rd) 0 P a w (λa' w'=>a'=aGr a (some (d,v))/\M w') Q :=
 aCA (R:=λu w'=>u=v/\F w') hr (hc.mono λe w' h=>⟨v,h.1,rfl,h.2⟩) λu w' ⟨hu,hF⟩=>⟨by rw[hd,hu];rfl,hM w' hF⟩
def aRH (rd:Option Nat)(P:Program)(c:Code)(Q:Exit->Act->World->Prop)(a:Act)(w:World):Prop :=
 ∀(b:Frame)(k:List Item)(cs:List Frame),b.roundOf=rd->∃e a' w',Q e a' w'/\ArrivesIn (Machine.fenced P (fen rd)) P (lone (b.atR a (.code c :: .inLoop c::k)) cs w) b k cs e a' w'
theorem aHq (rd:Option Nat)(k:Nat):(fen rd).room k:=λd h=>by cases h
theorem aPL {c:Code}(h:aRH rd P c Q a w):(Code.loop c).wpIn (fen rd) 0 P Q a w:=λb k cs hro hb hr =>
 let ⟨e,a',w',q,r⟩:=h b k cs hro
 ⟨e,a',w',q,.of_steps (.one (fenced_calm hb hr rfl) stepR_loop) r⟩
theorem aL2 {c:Code}(h:c.wpIn (fen rd) 0 P (Exit.then (aRH rd P c Q) Q) a w):aRH rd P c Q a w:=by
 intro b k cs hro;obtain⟨e,a₁,w₁,hq,harr⟩:=h b (.inLoop c::k) cs hro trivial (aHq _ _)
 cases e with
 | normal =>
  obtain⟨e₂,a₂,w₂,hq₂,harr₂⟩:=hq b k cs hro;exact⟨e₂,a₂,w₂,hq₂,.of_steps (StepsIn.trans harr (.one (fenced_calm (F:=fen rd) (n:=0) trivial (aHq _ _) rfl) stepR_inLoop)) harr₂⟩
 | exit id=>exact⟨_,a₁,w₁,hq,.pass (x := .inLoop c) rfl (λ_ _ =>.inl sI) harr⟩
 | goto l=>exact⟨_,a₁,w₁,hq,.pass (x := .inLoop c) rfl (λ_ _ =>.inl sI) harr⟩
 | ret=>exact⟨_,a₁,w₁,hq,.pass (x := .inLoop c) rfl (λ_ _ =>.inl sI) harr⟩
 | panic ch=>exact⟨_,a₁,w₁,hq,.pass (x := .inLoop c) rfl (λ_ _ =>.inl sI) harr⟩
 | outgrown=>exact⟨_,a₁,w₁,hq,.pass (x := .inLoop c) rfl (λ_ _ =>.inl sI) harr⟩
theorem aPK {c:Code}(h:c.wpIn (fen rd) 0 P (Exit.noGoto Q) a w):(Code.scope c).wpIn (fen rd) 0 P Q a w:=by
 intro b k cs hro hb hr;obtain⟨e,a₁,w₁,hq,harr⟩:=h b (.inScope c::k) cs hro hb hr;have h0:step P (lone (b.atR a (.code (.scope c)::k)) cs w)=.next (lone (b.atR a (.code c :: .inScope c::k)) cs w):=step_lone_go (by simp[stepG,stepG.exec,Frame.atR]);have h1:∀a w,step P (lone (b.atR a (.inScope c::k)) cs w)=.next (lone (b.atR a k) cs w):=λa w=>step_lone_go (by simp[stepG,stepG.exec,Frame.atR]);have f0:(lone (b.atR a (.code (.scope c)::k)) cs w).fenced P (fen rd):=fenced_calm hb hr rfl
 cases e with
 | normal=>exact⟨.normal,a₁,w₁,hq,.head f0 h0 (StepsIn.trans harr (.one (fenced_calm (F:=fen rd) (n:=0) trivial (aHq _ _) rfl) (h1 _ _)))⟩
 | exit id=>exact⟨.exit id,a₁,w₁,hq,λk' hk =>.head f0 h0 (harr.1 k' (by simp[exitTo,hk])),λhr' hk=>let ⟨k₁,g1,g2⟩:=harr.2 hr' (by simp[exitTo,hk]);⟨k₁,g1,.head f0 h0 g2⟩⟩
 | goto l=>exact hq.elim
 | ret=>exact⟨_,a₁,w₁,hq,.of_steps (.one f0 h0) harr⟩
 | panic ch=>exact⟨_,a₁,w₁,hq,.of_steps (.one f0 h0) harr⟩
 | outgrown=>exact⟨_,a₁,w₁,hq,.of_steps (.one f0 h0) harr⟩
end
variable{G:Type}{U:List (Nat×Value×Nat)}
section
variable{P:Program}{ops:Array Oper}
theorem aHX {n:Nat}{base:List (Nat×Value)}{T:G->List (Option (Nat×Value))}{M:G->(Nat->Bool)->World->Prop}(hord:aBx ops=true)(hT:∀γ,aB3 ops n base U (T γ)=true)
  (step:∀(i:Nat)(o:Oper)(γ:G)(lst:Nat->Bool)(a:Act)(w:World),ops[i]?=some o->lst i=false->EnvD ds n base a->(∀(j:Nat)(x:Nat×Value),aAH ops i j=true->(T γ)[j]?=some (some x)->a.eval (.tmp x.1)=x.2)->(∀j,aAH ops i j=true->lst j=true)->(∀j k,aAH ops j k=true->lst j=true->lst k=true)->(∀x∈U,aAH ops x.2.2 i=true->a.eval (.tmp x.1)=x.2.1)->M γ lst w ->
   (Region.wanted o (yielded ops a.tmps)=true->o.wpIn (fen rd) 0 P a w (aE0 T M i γ lst a) Q)/\(Region.wanted o (yielded ops a.tmps)=false->(∀x,(T γ)[i]?=some (some x)->x.2=undef)/\M γ (λj=>j==i||lst j) w))
  (hend:∀γ a w,EnvD ds n base a->(∀(j:Nat)(x:Nat×Value),(T γ)[j]?=some (some x)->a.eval (.tmp x.1)=x.2)->M γ (λj=>decide (j<ops.size)) w->Q .normal a w) :
  ∀(fuel:Nat)(γ:G)(listed:Array Bool)(a:Act)(w:World),listed.size=ops.size->(listed.toList.filter (!·)).length<=fuel->RInvU ds ops n base U (T γ) (M γ) listed a w->wpAnyIn (fen rd) 0 P .any ops Q fuel listed a w:=by
 have hfin:∀(γ:G)(listed:Array Bool)(a:Act)(w:World),listed.size=ops.size->Region.ready .any ops listed=[]->RInvU ds ops n base U (T γ) (M γ) listed a w->Q .normal a w:=by
  intro γ listed a w hs hr h;have hall:=aDD hord hs hr
  have hlen:(T γ).length=ops.size:=by
   have hT:=aBA (hT γ);unfold aAJ at hT;simp only[Bool.and_eq_true,beq_iff_eq] at hT;exact hT.1
  refine hend γ a w h.inv.env (λj x hj=>h.inv.vals j x hj (hall j (by rw[<-hlen];exact(List.getElem?_eq_some_iff.1 hj).1))) ?_
  have e:(λj=>listed.getD j false)=λj=>decide (j<ops.size):=by
   funext j
   by_cases hj:j<ops.size
   ·rw[hall j hj,decide_eq_true hj]
   ·rw[decide_eq_false hj,Array.getD_eq_getD_getElem?,Array.getElem?_eq_none oM];rfl
  rw[<-e];exact h.inv.mem
 intro fuel
 induction fuel with
 | zero =>
  intro γ listed a w hs hc h
  have hr:Region.ready .any ops listed=[]:=by
   apply List.eq_nil_iff_forall_not_mem.2;intro i hi;obtain⟨h1,h2,_⟩:=aBG.1 hi;have hl:i<listed.size:=by omega
   have:listed[i]?=some false:=by
    rw[Array.getD_eq_getD_getElem?,Array.getElem?_eq_getElem hl] at h2;rw[Array.getElem?_eq_getElem hl];simpa using h2
   have hm:false∈listed.toList.filter (!·):=by
    rw[List.mem_filter];exact⟨Array.mem_toList_iff.2 (Array.mem_of_getElem? this),rfl⟩
   have:=List.length_pos_of_mem hm;omega
  exact⟨hr,hfin γ listed a w hs hr h⟩
 | succ fuel ih =>
  intro γ listed a w hs hc h;refine⟨λhr=>hfin γ listed a w hs hr h,λi hi=>?_⟩;obtain⟨h1,h2,o,ho,hdep⟩:=aBG.1 hi
  have hlenT:∀γ,(T γ).length=ops.size:=λγ=>by
   have hT':=aBA (hT γ);unfold aAJ at hT';simp only[Bool.and_eq_true,beq_iff_eq] at hT';exact hT'.1
  have hl:i<listed.size:=by omega
  have hf:listed.getD i false=false:=by
   rw[Array.getD_eq_getD_getElem?,Array.getElem?_eq_getElem hl] at h2 ⊢;simpa using h2
  have hf':listed[i]?=some false:=by
   rw[Array.getD_eq_getD_getElem?,Array.getElem?_eq_getElem hl] at hf;rw[Array.getElem?_eq_getElem hl];simpa using hf
  have hdl:∀j,aAH ops i j=true->listed.getD j false=true:=by
   intro j hj;unfold aAH at hj;rw[ho] at hj;simp only[Option.map_some,Option.getD_some,List.any_eq_true,Array.mem_toList_iff] at hj;obtain⟨e,he,hb⟩:=hj;simp only[Bool.and_eq_true,beq_iff_eq] at hb;rw[<-hb.2];exact hdep e he hb.1
  have hstep:=step i o γ (λj=>listed.getD j false) a w ho hf h.inv.env (λj x hj hx=>h.inv.vals j x hx (hdl j hj)) hdl h.cl (λx hx hk=>h.old x hx (by
   cases hkl:listed.getD x.2.2 false with
   | false=>rfl
   | true=>have:=h.cl _ _ hk hkl;rw[hf] at this;cases this)) h.inv.mem
  unfold wpOpIn;simp only[ho];have hgo:∀a' w',aE0 T M i γ (λj=>listed.getD j false) a a' w'->wpAnyIn (fen rd) 0 P .any ops Q fuel (listed.setIfInBounds i true) a' w':=?_
  ·cases hw:Region.wanted o (yielded ops a.tmps) with
   | true =>
    simp only[if_true];exact Oper.wpIn_mono hgo (hstep.1 hw)
   | false =>
    obtain⟨h3,h4⟩:=hstep.2 hw;obtain⟨t,ht⟩:∃t,(T γ)[i]?=some t:=⟨_,List.getElem?_eq_getElem (by rw[hlenT];exact h1)⟩;have hT':=aBA (hT γ);unfold aAJ at hT';simp only[Bool.and_eq_true,beq_iff_eq] at hT';obtain⟨hlen,hall⟩:=hT';have hi':=List.all_eq_true.1 hall i (by simpa using h1);rw[ho,ht] at hi';simp only[Option.bind_some,Option.map_some,Option.getD_some,Bool.and_eq_true,beq_iff_eq] at hi';obtain⟨hd,hx⟩:=hi';simp only[Bool.false_eq_true,if_false];refine⟨λ_ _=>trivial,hgo _ _ ⟨γ,t,ht,?_,λ_ _=>rfl,h4⟩⟩
    cases t with
    | none=>rw[show o.dst=none from hd];rfl
    | some x=>rw[show o.dst=some x.1 from hd,<-h3 x ht];rfl
  rintro a' w' ⟨γ',t,ht,rfl,hkeep,hM⟩;have hT':=aBA (hT γ');unfold aAJ at hT';simp only[Bool.and_eq_true,beq_iff_eq] at hT';obtain⟨hlen,hall⟩:=hT';have hi':=List.all_eq_true.1 hall i (by simpa using h1);rw[ho,ht] at hi';simp only[Option.bind_some,Option.map_some,Option.getD_some,Bool.and_eq_true,beq_iff_eq] at hi';obtain⟨hd,hx⟩:=hi'
  have hset:∀j,(listed.setIfInBounds i true).getD j false=(j==i||listed.getD j false):=by
   intro j;rw[Array.getD_eq_getD_getElem?,Array.getElem?_setIfInBounds]
   by_cases e:i=j
   ·subst e;simp[hl]
   ·have e':(j==i)=false:=by simpa using Ne.symm e
    simp[e,e',Array.getD_eq_getD_getElem?]
  refine ih γ' _ _ _ (by simpa using hs) ?_ ⟨⟨?_,?_,?_⟩,?_,?_⟩
  ·have:=aEp (l:=listed.toList) (i:=i) (by simpa using hf');simp only[Array.toList_setIfInBounds];omega
  ·cases t with
   | none=>exact h.inv.env
   | some x =>
    simp only[Bool.and_eq_true,decide_eq_true_eq,Bool.not_eq_true'] at hx;have hp:=h.inv.env.put (v:=x.2) hx.1.1 hx.1.2;exact⟨hp.size,λy hy=>hp.at_ y (List.mem_cons_of_mem _ hy),hp.df⟩
  ·intro j x hj hlj;rw[hset] at hlj;have hltj:=(List.getElem?_eq_some_iff.1 hj).1
   cases t with
   | none =>
    by_cases e:j=i
    ·subst e;rw[ht] at hj;simp at hj
    ·have e':(j==i)=false:=by simpa using e
     rw[e',Bool.false_or] at hlj;rw[hkeep j hlj] at hj;exact h.inv.vals j x hj hlj
   | some y =>
    simp only[Bool.and_eq_true,decide_eq_true_eq,Bool.not_eq_true'] at hx;show(a.put (some y.1) y.2).eval (.tmp x.1)=x.2;rw[aCr (by rw[h.inv.env.size];exact hx.1.1)]
    by_cases e:j=i
    ·subst e;rw[ht] at hj;simp at hj;subst hj;rw[if_pos rfl]
    ·have e':(j==i)=false:=by simpa using e
     rw[e',Bool.false_or] at hlj;have h5:=List.all_eq_true.1 hx.2 j (by simpa using hltj);rw[hj,e',Bool.false_or] at h5;have h6:x.1≠y.1:=by simpa using h5
     rw[if_neg h6];rw[hkeep j hlj] at hj;exact h.inv.vals j x hj hlj
  ·have e:(λj=>(listed.setIfInBounds i true).getD j false)=λj=>j==i||listed.getD j false:=funext hset;rw[e];exact hM
  ·intro x hx2 hlx;rw[hset] at hlx
   have hne:i≠x.2.2:=by
    intro e;rw[<-e] at hlx;simp at hlx
   have hlo:listed.getD x.2.2 false=false:=by
    have e':(x.2.2==i)=false:=by simpa using Ne.symm hne
    rw[e',Bool.false_or] at hlx;exact hlx
   cases t with
   | none=>exact h.old x hx2 hlo
   | some y =>
    have hsl:=aG7 (hT γ') hx2 ht hne;simp only[Bool.and_eq_true,decide_eq_true_eq,Bool.not_eq_true'] at hx;show(a.put (some y.1) y.2).eval (.tmp x.1)=x.2.1;rw[aCr (by rw[h.inv.env.size];exact hx.1.1),if_neg hsl];exact h.old x hx2 hlo
  ·intro j k hjk hj;rw[hset] at hj ⊢
   by_cases e:j=i
   ·subst e;rw[hdl k hjk];simp
   ·have e':(j==i)=false:=by simpa using e
    rw[e',Bool.false_or] at hj;rw[h.cl j k hjk hj];simp
theorem aDi (γ0:G){id n:Nat}{base:List (Nat×Value)}{T:G->List (Option (Nat×Value))}{M:G->(Nat->Bool)->World->Prop}(hm:P.follows .mixedOrders=true)(hord:aBx ops=true)(hT:∀γ,aB3 ops n base U (T γ)=true)
  (E:EnvD ds n base a) (hU:∀x∈U,a.eval (.tmp x.1)=x.2.1) (hM:M γ0 (λ_=>false) w.drew)
  (step:∀(i:Nat)(o:Oper)(γ:G)(lst:Nat->Bool)(a:Act)(w:World),ops[i]?=some o->lst i=false->EnvD ds n base a->(∀(j:Nat)(x:Nat×Value),aAH ops i j=true->(T γ)[j]?=some (some x)->a.eval (.tmp x.1)=x.2)->(∀j,aAH ops i j=true->lst j=true)->(∀j k,aAH ops j k=true->lst j=true->lst k=true)->(∀x∈U,aAH ops x.2.2 i=true->a.eval (.tmp x.1)=x.2.1)->M γ lst w ->
   (Region.wanted o (yielded ops a.tmps)=true->o.wpIn (fen rd) 0 P a w (aE0 T M i γ lst a) Q)/\(Region.wanted o (yielded ops a.tmps)=false->(∀x,(T γ)[i]?=some (some x)->x.2=undef)/\M γ (λj=>j==i||lst j) w))
  (hend:∀γ a w,EnvD ds n base a->(∀(j:Nat)(x:Nat×Value),(T γ)[j]?=some (some x)->a.eval (.tmp x.1)=x.2)->M γ (λj=>decide (j<ops.size)) w->Q .normal a w) :
  (Code.region id ops true).wpIn (fen rd) 0 P Q a w:=by
 refine(wpIn_region_any hm (aHX hord hT step hend _ γ0 _ _ _ sI ?_ ⟨⟨E,?_,?_⟩,λx hx _=>hU x hx,?_⟩))
 ·exact Nat.le_trans (List.length_filter_le _ _) sI
 ·intro j x hj hlj;rw[Array.getD_eq_getD_getElem?,Array.getElem?_replicate] at hlj
  split at hlj<;>simp at hlj
 ·have e:(λj=>(Array.replicate ops.size false).getD j false)=λ_=>false:=by
   funext j;rw[Array.getD_eq_getD_getElem?,Array.getElem?_replicate]
   split<;>rfl
  rw[e];exact hM
 ·intro j k _ hlj;rw[Array.getD_eq_getD_getElem?,Array.getElem?_replicate] at hlj
  split at hlj<;>simp at hlj
theorem aDj {id n:Nat}{base:List (Nat×Value)}{T:List (Option (Nat×Value))}{M:(Nat->Bool)->World->Prop}(hm:P.follows .mixedOrders=true)(hord:aBx ops=true)(hT:aAJ ops n base T=true)
  (E:EnvD ds n base a) (hM:M (λ_=>false) w.drew)
  (step:∀(i:Nat)(o:Oper)(t:Option (Nat×Value))(lst:Nat->Bool)(a:Act)(w:World),ops[i]?=some o->T[i]?=some t->lst i=false->EnvD ds n base a->(∀(j:Nat)(x:Nat×Value),aAH ops i j=true->T[j]?=some (some x)->a.eval (.tmp x.1)=x.2)->(∀j,aAH ops i j=true->lst j=true)->M lst w ->
   (Region.wanted o (yielded ops a.tmps)=true->o.wpIn (fen rd) 0 P a w (λa' w'=>a'=aGr a t/\M (λj=>j==i||lst j) w') Q)/\(Region.wanted o (yielded ops a.tmps)=false->(∀x,t=some x->x.2=undef)/\M (λj=>j==i||lst j) w))
  (hend:∀a w,EnvD ds n base a->(∀(j:Nat)(x:Nat×Value),T[j]?=some (some x)->a.eval (.tmp x.1)=x.2)->M (λj=>decide (j<ops.size)) w->Q .normal a w) :
  (Code.region id ops true).wpIn (fen rd) 0 P Q a w:=by
 refine aDi (G:=Unit) () (U:=[]) (T:=λ_=>T) (M:=λ_=>M) hm hord (λ_=>?_) E (λ_ h=>by cases h) hM (λi o _ lst a w ho hl E1 D DL _ _ hMl=>?_) (λ_=>hend)
 ·unfold aB3;rw[hT];simp
 ·have hlen:T.length=ops.size:=by
   unfold aAJ at hT;simp only[Bool.and_eq_true,beq_iff_eq] at hT;exact hT.1
  have hi:i<ops.size:=(Array.getElem?_eq_some_iff.1 ho).1;obtain⟨t,ht⟩:∃t,T[i]?=some t:=⟨_,List.getElem?_eq_getElem oM⟩;obtain⟨g1,g2⟩:=step i o t lst a w ho ht hl E1 D DL hMl;refine⟨λhw=>Oper.wpIn_mono (λa' w' h=>⟨(),t,ht,h.1,λ_ _=>rfl,h.2⟩) (g1 hw),λhw=>⟨λx hx=>?_,(g2 hw).2⟩⟩;rw[ht] at hx;exact(g2 hw).1 x (Option.some.inj hx)
end
abbrev Ga_:=@Bool.and_eq_true
abbrev Gb_:=@List.getElem?_eq_getElem
abbrev Gc_:=@List.take_of_length_le
abbrev Gd_:=@List.mem_singleton
abbrev Ge_:=@List.mem_of_getElem?
abbrev Gf_:=@List.length_cons
abbrev Gg_:=@Nat.zero_le
abbrev Gh_:=@Option.some.inj
abbrev Gi_:=@List.length_append
abbrev Gj_:=@Nat.le_refl
abbrev Gk_:=@Option.some.injEq
abbrev Gl_:=@List.append_assoc
abbrev Gm_:=@List.length_nil
abbrev Gn_:=@Nat.le_trans
abbrev Go_:=@List.length_drop
abbrev Gp_:=@List.length_map
abbrev Gq_:=@List.length_take
abbrev Gr_:=@List.getElem?_map
abbrev Gs_:=@List.mem_append_left
abbrev Gt_:=@beq_eq_false_iff_ne
abbrev nF_ {α:Type _}:α->Prop:=λ_=>False
inductive Kon where
 | seq (c:Code)
 | block (id:Nat)
 | loop (c:Code)
 | scope
structure Pst where
 q:Exit->Act->World->Prop
 rd:Option Nat
abbrev aAI (q:Exit->Act->World->Prop):Pst:=⟨q,none⟩
def post (P:Program)(R:Pst):List Kon->Exit->Act->World->Prop
 | []=>R.q
 | .seq y::k=>Exit.then (y.wpIn (fen R.rd) 0 P (post P R k)) (post P R k)
 | .block id::k=>Exit.inBlock id (post P R k)
 | .loop c::k=>Exit.then (aRH R.rd P c (post P R k)) (post P R k)
 | .scope::k=>Exit.noGoto (post P R k)
def aEm:Code->Nat
 | .region id _ _=>id
 | .seq x _=>aEm x
 | .cond _ x _=>aEm x
 | .block _ c=>aEm c
 | .loop c=>aEm c
 | .scope c=>aEm c
 | _=>0
def aBe (r:Nat):Code->List Kon->Option (Array Oper×Bool×List Kon)
 | .region id ops dr,k=>bif id==r then some (ops,dr,k) else none
 | .seq x y,k=>match aBe r x (.seq y::k) with|some z=>some z|none=>aBe r y k
 | .cond _ x y,k=>match aBe r x k with|some z=>some z|none=>aBe r y k
 | .block id c,k=>aBe r c (.block id::k)
 | .loop c,k=>aBe r c (.loop c::k)
 | .scope c,k=>aBe r c (.scope::k)
 | .rangeFunc g ps as9 bd,k=>bif Nat.beq r (1000+aEm as9) then some (#[],false,.seq (.rangeFunc g ps as9 bd)::k) else bif Nat.beq r (2000+aEm as9) then some (#[],false,k) else none
 | _,_=>none
abbrev Frm:=List (Nat×Value)
def aAv (fn:Func):Code:=match fn.body with|some c=>c|none =>.skip
def look:Frm->Nat->Option Value
 | [],_=>none
 | x::l,s=>bif x.1==s then some x.2 else look l s
variable{s:Nat}{x:Nat×Value}
theorem aCJ {l:Frm}:look (x::l) s=bif x.1==s then some x.2 else look l s:=rfl
def opv (L:Frm):Operand->Option Value
 | .tmp s=>look L s
 | .const v=>some v
 | .global g=>some (.pointer (some ⟨g,0,none⟩))
 | .func f=>some (.func (.func f) #[] #[])
def rho (L:Frm)(x:Operand):Value:=(opv L x).getD undef
structure EnvS (ds:List Deferred)(n:Nat)(L:Frm)(a:Act):Prop where
 size:a.tmps.size=n
 at_:∀s v,look L s=some v->a.eval (.tmp s)=v
 df:a.defers=ds
theorem EnvS.opv {n:Nat}{L:Frm}(E:EnvS ds n L a){x:Operand}(h:opv L x=some v):a.eval x=v:=by
 cases x with
 | tmp s=>exact E.at_ s v h
 | const v=>cases h;rfl
 | global g=>cases h;rfl
 | func f=>cases h;rfl
theorem EnvS.put {n:Nat}{L:Frm}(E:EnvS ds n L a)(hn:d<n):EnvS ds n ((d,v)::L) (a.put (some d) v):=by
 refine⟨aWP.trans E.size,λs u hs=>?_,E.df⟩;rw[aCr (by rw[E.size];exact hn)];unfold look at hs
 by_cases h:s=d
 ·subst h;rw[if_pos rfl];simpa using hs
 ·rw[if_neg h];have:(d==s)=false:=by simpa using λe=>h e.symm
  rw[this] at hs;exact E.at_ s u hs
theorem EnvS.sub {n:Nat}{L L':Frm}(E:EnvS ds n L a)(h:∀s v,look L' s=some v->look L s=some v):EnvS ds n L' a:=⟨E.size,λs v hs=>E.at_ s v (h s v hs),E.df⟩
def inR (rd:Option Nat)(P:Program)(r:Nat)(ops:Array Oper)(dr:Bool)(Q:Exit->Act->World->Prop)(i:Nat)(a:Act)(w:World):Prop :=
 match dr,i with
 | true,0=>(Code.region r ops true).wpIn (fen rd) 0 P Q a w
 | true,_+1=>Q .normal a w
 | false,i=>wpListIn (fen rd) 0 P ops Q (ops.toList.drop i) a w
def At (P:Program)(B:Code)(R:Pst)(ds:List Deferred)(n:Nat)(r i:Nat)(L:Frm)(w:World):Prop :=
 ∃ops dr k,aBe r B []=some (ops,dr,k)/\∀a,EnvS ds n L a->inR R.rd P r ops dr (post P R k) i a w
inductive Md where
 | code (c:Code) (k:List Kon)
 | kon (k:List Kon)
 | ops (r:Nat) (O:Array Oper) (l:List Oper) (i:Nat) (k:List Kon)
 | drw (r:Nat) (O:Array Oper) (k:List Kon)
 | ret
 | nrm
def Md.wp (P:Program)(R:Pst):Md->Act->World->Prop
 | .code c k,a,w=>c.wpIn (fen R.rd) 0 P (post P R k) a w
 | .kon k,a,w=>post P R k .normal a w
 | .ops _ O l _ k,a,w=>wpListIn (fen R.rd) 0 P O (post P R k) l a w
 | .drw r O k,a,w=>(Code.region r O true).wpIn (fen R.rd) 0 P (post P R k) a w
 | .ret,a,w=>R.q .ret a w
 | .nrm,a,w=>R.q .normal a w
def aDQ (id:Nat):List Kon->Option (List Kon)
 | []=>none
 | .block j::k=>bif j==id then some k else aDQ id k
 | .seq _::k=>aDQ id k
 | .loop _::k=>aDQ id k
 | .scope::k=>aDQ id k
def aS2 (L:Frm)(k:List Kon):Code->Option Md
 | .region id O dr=>some (match dr with|true =>.drw id O k|false =>.ops id O O.toList 0 k)
 | .seq x y=>some (.code x (.seq y::k))
 | .cond c x y=>match opv L c with
  | some (.bool b)=>some (match b with|true =>.code x k|false =>.code y k)
  | _=>none
 | .block id c=>some (.code c (.block id::k))
 | .loop c=>some (.code c (.loop c::k))
 | .scope c=>some (.code c (.scope::k))
 | .skip=>some (.kon k)
 | .label _=>some (.kon k)
 | .exit id=>(aDQ id k).map .kon
 | .ret=>some .ret
 | .rangeFunc g ps as9 bd=>some (.ops (1000+aEm as9) #[] [] 0 (.seq (.rangeFunc g ps as9 bd)::k))
 | _=>none
def aYS:List Kon->Md
 | [] =>.nrm
 | .seq y::k =>.code y k
 | .block _::k =>.kon k
 | .loop c::k =>.code c (.loop c::k)
 | .scope::k =>.kon k
variable{R:Pst}{k:List Kon}{m:Md}
section
variable{P:Program}{n:Nat}{L:Frm}
theorem aCT:∀{k:List Kon},R.q .ret a w->post P R k .ret a w
 | [],h=>h
 | .seq _::k,h=>aCT (k:=k) h
 | .block _::k,h=>aCT (k:=k) h
 | .loop _::k,h=>aCT (k:=k) h
 | .scope::k,h=>aCT (k:=k) h
theorem aCG {id:Nat}:∀{k k':List Kon},aDQ id k=some k'->post P R k' .normal a w->post P R k (.exit id) a w
 | .seq _::k,k',h,q=>aCG (k:=k) h q
 | .loop _::k,k',h,q=>aCG (k:=k) h q
 | .scope::k,k',h,q=>aCG (k:=k) h q
 | .block j::k,k',h,q=>by
  show Exit.inBlock j (post P R k) (.exit id) a w;unfold aDQ at h
  cases hj:(j==id) with
  | true =>
   rw[hj] at h;have:k=k':=Gh_ h;subst this;simp only[Exit.inBlock];rw[if_pos (by simpa using(beq_iff_eq.1 hj).symm)];exact q
  | false =>
   rw[hj] at h;simp only[Exit.inBlock];rw[if_neg (λe=>by rw[e] at hj;simp at hj)];exact aCG (k:=k) h q
theorem aUi (h:(aYS k).wp P R a w):post P R k .normal a w:=by
 cases k with
 | nil=>exact h
 | cons x k =>
  cases x with
  | seq y=>exact h
  | block id=>exact h
  | loop c=>exact aL2 h
  | scope=>exact h
theorem aUj {c:Code}(E:EnvS ds n L a)(hm:aS2 L k c=some m)(h:m.wp P R a w):c.wpIn (fen R.rd) 0 P (post P R k) a w:=by
 cases c with
 | region id O dr=>cases dr<;>(cases hm;first|exact h|exact wpIn_region_list h)
 | seq x y=>cases hm;exact wpIn_seq h
 | cond c x y =>
  cases ho:opv L c with
  | none=>simp[aS2,ho] at hm
  | some v =>
   cases v with
   | bool b =>
    cases b
    ·simp[aS2,ho] at hm;subst hm;exact wpIn_cond_false (E.opv ho) h
    ·simp[aS2,ho] at hm;subst hm;exact wpIn_cond_true (E.opv ho) h
   | _=>simp[aS2,ho] at hm
 | block id c=>cases hm;exact wpIn_block h
 | loop c=>cases hm;exact aPL (aL2 h)
 | scope c=>cases hm;exact aPK h
 | skip=>cases hm;exact wpIn_skip h
 | label l=>cases hm;exact wpIn_label h
 | exit id =>
  cases hk:aDQ id k with
  | none=>simp[aS2,hk] at hm
  | some k'=>simp[aS2,hk] at hm;subst hm;exact wpIn_exit (aCG hk h)
 | ret=>cases hm;exact wpIn_ret (aCT h)
 | rangeFunc g ps as9 bd=>cases hm;exact h
 | _=>cases hm
end
inductive Ft where
 | g1 (f:Operand->Op) (v r:Value)
 | g2 (f:Operand->Operand->Op) (v u r:Value)
 | g3 (f:Operand->Operand->Operand->Op) (v u t r:Value)
 | vl (k:Nat) (v u:Value)
 | cl (f:FuncId) (args:Array Value) (v:Value)
def Ft.ok (P:Program)(w:World):Ft->Prop
 | .g1 f v r=>∀(o:Oper)(ρ:Operand->Value) x,o.op=f x->ρ x=v->(execOp ρ o).run P w=.ok (.value r) w
 | .g2 f v u r=>∀(o:Oper)(ρ:Operand->Value) x y,o.op=f x y->ρ x=v->ρ y=u->(execOp ρ o).run P w=.ok (.value r) w
 | .g3 f v u t r=>∀(o:Oper)(ρ:Operand->Value) x y z,o.op=f x y z->ρ x=v->ρ y=u->ρ z=t->(execOp ρ o).run P w=.ok (.value r) w
 | .vl _ v u=>v=u
 | .cl f args v=>Calls P f args w λe w'=>e=.returned v/\Fr nF_ w w'
def aBg (P:Program)(w:World):List Ft->Prop
 | []=>True
 | f::l=>f.ok P w/\aBg P w l
inductive Eqn where
 | o (a b:Op)
 | v (a b:Option Value)
 | w (a b:World)
def Eqn.l:Eqn->Eqn
 | .o a _ =>.o a a
 | .v a _ =>.v a a
 | .w a _ =>.w a a
def Eqn.r:Eqn->Eqn
 | .o _ b =>.o b b
 | .v _ b =>.v b b
 | .w _ b =>.w b b
def Eqn.ok:Eqn->Prop
 | .o a b=>a=b
 | .v a b=>a=b
 | .w a b=>a=b
theorem Eqn.of {e:Eqn}(h:e.l=e.r):e.ok:=by
 cases e<;>(simp only[Eqn.l,Eqn.r,Eqn.ok] at h ⊢;first|exact(Eqn.o.inj h).1|exact(Eqn.v.inj h).1|exact(Eqn.w.inj h).1)
def aGt:List Eqn->Prop
 | []=>True
 | e::l=>e.ok/\aGt l
theorem aGt.of:∀{l:List Eqn},l.map Eqn.l=l.map Eqn.r->aGt l
 | [],_=>trivial
 | e::l,h=>by
  rw[List.map_cons,List.map_cons] at h;exact⟨Eqn.of (List.cons.inj h).1,aGt.of (List.cons.inj h).2⟩
theorem aGt.app:∀{l m:List Eqn},aGt (l++m)->aGt l/\aGt m
 | [],_,h=>⟨trivial,h⟩
 | e::l,m,h=>⟨⟨h.1,(aGt.app (l:=l) h.2).1⟩,(aGt.app (l:=l) h.2).2⟩
def aDd (O:Array Oper)(L:Frm)(n:Nat)(o:Oper):Option Bool :=
 match o.guard with
 | none=>some true
 | some (j,b)=>match(O[j]?).bind (·.dst) with
  | none=>none
  | some s=>bif Nat.blt s n then(match look L s with
   | some (.bool c)=>some (c==b)
   | some (.tuple _)=>some false
   | _=>none) else none
inductive Kd where
 | plain|told1|told2|told3|stop
def aSo (L:Frm):Op->Kd
 | .move _|.assign _|.pick _ _ _|.nilCheck _|.fieldAddr _ _ _|.extract _ _|.makeFunc _ _ _|.build _ _|.typeAssert _ _ _ _ =>.plain
 | .load _ _ =>.told1
 | .sliceToArrayPointer _ _ =>.told1
 | .convert _ _ _ =>.told1
 | .field _ _ _ =>.plain
 | .makeInterface _ _ =>.plain
 | .unOp op _ _=>match op with|.not =>.plain|_ =>.told1
 | .indexAddr _ _ _ =>.told2
 | .index _ _ _ =>.told2
 | .lookup _ _ _ _ =>.told2
 | .slice _ _ lo hi mx=>match lo,hi,mx with
  | none,none,none =>.told1
  | some _,none,none =>.told2
  | none,some _,none =>.told2
  | some _,some _,none =>.told3
  | _,_,_ =>.stop
 | .binOp op _ x _ _=>match op with
  | .eql|.neq|.lss|.leq|.gtr|.geq=>match opv L x with
   | some (.int _ _) =>.plain
   | some (.bool _) =>.plain
   | _ =>.told2
  | _ =>.told2
 | .call c=>match c.callee with
  | .builtin .len=>(match c.args[0]? with
   | some x=>(match opv L x with|some (.slice _ _ _) =>.plain|_ =>.told1)
   | none =>.stop)
  | .builtin .min =>.told2
  | .builtin .max =>.told2
  | _ =>.stop
 | _ =>.stop
def aDt (L:Frm)(o:Op):Bool:=o.operands.toList.all λx=>(opv L x).isSome
def aXp (d:Nat):List Ft->Option (Value×Value×List Ft)
 | .vl k v u::fs=>bif Nat.beq k d then some (v,u,fs) else none
 | _=>none
def ev1 (P:Program)(w:World)(n:Nat)(O:Array Oper)(o:Oper)(L nw:Frm)(fs:List Ft):Option (Frm×List Ft×List Eqn) :=
 match o.dst with
 | none=>none
 | some d=>bif Nat.blt d n then
  (match aDd O L n o with
  | none=>none
  | some false=>some ((d,undef)::nw,fs,[])
  | some true=>match aSo L o.op with
   | .plain=>bif aDt L o.op then(match(execOp (rho L) o).run P w with
    | .ok (.value v) w'=>(match aXp d fs with
     | some (v0,u,fs)=>some ((d,u)::nw,fs,[.w w' w,.v (some v) (some v0)])
     | none=>some ((d,v)::nw,fs,[.w w' w]))
    | _=>none) else none
   | .told1=>(match fs,o.op.operands[0]? with
    | .g1 f v r::fs,some x=>some ((d,r)::nw,fs,[.o o.op (f x),.v (opv L x) (some v)])
    | _,_=>none)
   | .told2=>(match fs,o.op.operands[0]?,o.op.operands[1]? with
    | .g2 f v u r::fs,some x,some y=>some ((d,r)::nw,fs,[.o o.op (f x y),.v (opv L x) (some v),.v (opv L y) (some u)])
    | _,_,_=>none)
   | .told3=>(match fs,o.op.operands[0]?,o.op.operands[1]?,o.op.operands[2]? with
    | .g3 f v u t r::fs,some x,some y,some z=>some ((d,r)::nw,fs,[.o o.op (f x y z),.v (opv L x) (some v),.v (opv L y) (some u),.v (opv L z) (some t)])
    | _,_,_,_=>none)
   | .stop=>none) else none
variable{u:Value}{fs fs':List Ft}
theorem aJl {P:Program}(h:aXp d fs=some (v,u,fs'))(hF:aBg P w fs):v=u/\aBg P w fs':=by
 unfold aXp at h
 split at h
 ·rename_i k v1 u1 fs1
  cases hk:Nat.beq k d with
  | false=>rw[hk] at h;cases h
  | true=>rw[hk] at h;cases h;exact hF
 ·cases h
theorem aCV {L:Frm}{o:Op}(h:aSo L o=.plain):∀cs b,o ≠ .select cs b:=by
 rintro cs b rfl;cases h
theorem aEV {n:Nat}{L:Frm}(E:EnvS ds n L a)(hk:aDt L o.op=true)(hs:∀cs b,o.op ≠ .select cs b):execOp a.eval o=execOp (rho L) o:=by
 refine execOp_congr o hs λx hx=>?_;unfold aDt at hk;rw[List.all_eq_true] at hk;have h:=hk x (by simpa using hx);obtain⟨v,hv⟩:=Option.isSome_iff_exists.1 h;rw[E.opv hv];unfold rho;rw[hv];rfl
variable{es:List Eqn}{nw L0:Frm}
theorem aWq {P:Program}{n:Nat}{L nw':Frm}{l:List Oper}
  (hL:L=nw++L0) (h:ev1 P w n O o L nw fs=some (nw',fs',es)) (E:EnvS ds n L a) (hF:aBg P w fs) (he:aGt es)
  (k:aBg P w fs'->∀a',EnvS ds n (nw'++L0) a'->wpListIn (fen rd) 0 P O Q l a' w):wpListIn (fen rd) 0 P O Q (o::l) a w:=by
 subst hL;unfold ev1 at h
 split at h
 ·cases h
 ·rename_i d hd
  cases hdn:Nat.blt d n with
  | false=>rw[hdn] at h;cases h
  | true =>
   rw[hdn] at h;have hdn':d<n:=by simpa[Nat.blt_eq] using hdn
   simp only[cond_true] at h;have hput:∀v,EnvS ds n ((d,v)::(nw++L0)) (a.put o.dst v):=λv=>by rw[hd];exact E.put hdn'
   split at h
   ·cases h
   ·rename_i hw;cases h;unfold aDd at hw
    split at hw
    ·cases hw
    ·rename_i j b hg
     split at hw
     ·cases hw
     ·rename_i s hs
      cases hsn:Nat.blt s n with
      | false=>rw[hsn] at hw;cases hw
      | true =>
       rw[hsn] at hw;have hsn':s<n:=by simpa[Nat.blt_eq] using hsn
       simp only[cond_true] at hw;refine aX6 ?_ (k hF _ (hput undef));rw[aAM hg,aBD hs (by rw[E.size];exact hsn')]
       split at hw
       ·rename_i c hc;rw[E.at_ s _ hc];have:(c==b)=false:=Gh_ hw;cases c<;>cases b<;>simp_all
       ·rename_i hc;rw[E.at_ s _ hc];rfl
       ·cases hw
   ·rename_i hw
    have hwant:Region.wanted o (yielded O a.tmps)=true:=by
     unfold aDd at hw
     split at hw
     ·rename_i hg;exact aAb hg _
     ·rename_i j b hg
      split at hw
      ·cases hw
      ·rename_i s hs
       cases hsn:Nat.blt s n with
       | false=>rw[hsn] at hw;cases hw
       | true =>
        rw[hsn] at hw;have hsn':s<n:=by simpa[Nat.blt_eq] using hsn
        simp only[cond_true] at hw;rw[aAM hg,aBD hs (by rw[E.size];exact hsn')]
        split at hw
        ·rename_i c hc;rw[E.at_ s _ hc];have:(c==b)=true:=Gh_ hw;cases c<;>cases b<;>simp_all
        ·cases hw
        ·cases hw
    split at h
    ·rename_i hk
     cases hkn:aDt (nw++L0) o.op with
     | false=>rw[hkn] at h;cases h
     | true =>
      rw[hkn] at h;simp only[cond_true] at h
      split at h
      ·rename_i v w' hr
       split at h
       ·rename_i v0 u fs9 ht;cases h;have hww:w'=w:=he.1;subst hww;obtain⟨e1,e2⟩:=aJl ht hF;have e3:v=v0:=Gh_ he.2.1;exact aDH hwant (by rw[aEV E hkn (aCV hk),hr,e3,e1]) (k e2 _ (hput u))
       ·cases h;have hww:w'=w:=he.1;subst hww;exact aDH hwant (by rw[aEV E hkn (aCV hk)];exact hr) (k hF _ (hput v))
      ·cases h
    ·split at h
     ·rename_i f v r fs9 x hx;cases h;have e1:o.op=f x:=he.1;have e2:opv (nw++L0) x=some v:=he.2.1;exact aDH hwant (hF.1 o _ x e1 (E.opv e2)) (k hF.2 _ (hput r))
     ·cases h
    ·split at h
     ·rename_i f v u r fs9 x y hx hy;cases h;have e1:o.op=f x y:=he.1;have e2:opv (nw++L0) x=some v:=he.2.1;have e3:opv (nw++L0) y=some u:=he.2.2.1;exact aDH hwant (hF.1 o _ x y e1 (E.opv e2) (E.opv e3)) (k hF.2 _ (hput r))
     ·cases h
    ·split at h
     ·rename_i f v u t r fs9 x y z hx hy hz;cases h;have e1:o.op=f x y z:=he.1;have e2:opv (nw++L0) x=some v:=he.2.1;have e3:opv (nw++L0) y=some u:=he.2.2.1;have e4:opv (nw++L0) z=some t:=he.2.2.2.1;exact aDH hwant (hF.1 o _ x y z e1 (E.opv e2) (E.opv e3) (E.opv e4)) (k hF.2 _ (hput r))
     ·cases h
    ·cases h
def run (P:Program)(w:World)(n:Nat)(L0:Frm)(r' i':Nat):Nat->Md->Frm->List Ft->Option (Md×Frm×List Ft×List Eqn)
 | 0,_,_,_=>none
 | f+1,m,nw,fs=>match m with
  | .ops r O l i k=>match Nat.beq r r'&&Nat.beq i i' with
   | true=>some (.ops r O l i k,nw,fs,[])
   | false=>match l with
    | []=>run P w n L0 r' i' f (.kon k) nw fs
    | o::l=>match ev1 P w n O o (nw++L0) nw fs with
     | some (nw,fs,es)=>match run P w n L0 r' i' f (.ops r O l (i+1) k) nw fs with
      | some (m,nw,fs,es')=>some (m,nw,fs,es++es')
      | none=>none
     | none=>none
  | .drw r O k=>match Nat.beq r r'&&Nat.beq i' 0 with
   | true=>some (.drw r O k,nw,fs,[])
   | false=>none
  | .ret=>some (.ret,nw,fs,[])
  | .nrm=>some (.nrm,nw,fs,[])
  | .kon k=>run P w n L0 r' i' f (aYS k) nw fs
  | .code c k=>match aS2 (nw++L0) k c with
   | some m=>run P w n L0 r' i' f m nw fs
   | none=>none
variable{r' i':Nat}
theorem aV2 {P:Program}{n:Nat} :
  ∀(f:Nat){m m':Md}{nw nw':Frm}{fs fs':List Ft}{es:List Eqn},run P w n L0 r' i' f m nw fs=some (m',nw',fs',es)->aBg P w fs->aGt es ->
   (∀a',EnvS ds n (nw'++L0) a'->m'.wp P R a' w)->∀a,EnvS ds n (nw++L0) a->m.wp P R a w:=by
 intro f
 induction f with
 | zero=>intro m m' nw nw' fs fs' es h;cases h
 | succ f ih =>
  intro m m' nw nw' fs fs' es h hF hE k a E
  cases m with
  | ops r O l i kk =>
   unfold run at h;simp only at h
   split at h
   ·cases h;exact k a E
   ·cases l with
    | nil=>exact ih h hF hE k a E
    | cons o l =>
     simp only at h
     split at h
     ·rename_i nw1 fs1 es1 h1
      split at h
      ·rename_i m2 nw2 fs2 es2 h2;cases h;obtain⟨e1,e2⟩:=aGt.app hE;exact aWq rfl h1 E hF e1 λhF1 a1 E1=>ih h2 hF1 e2 k a1 E1
      ·cases h
     ·cases h
  | drw r O kk =>
   unfold run at h;simp only at h
   split at h
   ·cases h;exact k a E
   ·cases h
  | ret=>unfold run at h;cases h;exact k a E
  | nrm=>unfold run at h;cases h;exact k a E
  | kon kk=>exact aUi (ih h hF hE k a E)
  | code c kk =>
   unfold run at h;simp only at h
   split at h
   ·rename_i m1 h1;exact aUj E h1 (ih h hF hE k a E)
   ·cases h
def aRz (ops:Array Oper)(i:Nat)(T:List (Nat×Value)):Nat->Frm
 | 0=>[]
 | j+1=>match aAH ops i j with
  | true=>match T[j]? with
   | some x=>x::aRz ops i T j
   | none=>aRz ops i T j
  | false=>aRz ops i T j
def aJ7 (P:Program)(w:World)(n:Nat)(O:Array Oper)(base:Frm):List Oper->Nat->List (Nat×Value)->List Ft->Option (List (Nat×Value)×List Ft×List Eqn)
 | [],_,T,fs=>some (T,fs,[])
 | o::l,i,T,fs=>match ev1 P w n O o (aRz O i T i++base) [] fs with
  | some ([x],fs,es)=>match aJ7 P w n O base l (i+1) (T++[x]) fs with
   | some (T,fs,es')=>some (T,fs,es++es')
   | none=>none
  | _=>none
def aAX:Frm->List Nat->Frm
 | [],_=>[]
 | x::l,seen=>match seen.contains x.1 with
  | true=>aAX l seen
  | false=>x::aAX l (x.1::seen)
theorem aCM:∀{L:Frm}{seen:List Nat}{x},x∈aAX L seen->look L x.1=some x.2/\x.1∉seen
 | y::l,seen,x,h=>by
  unfold aAX at h
  cases hc:seen.contains y.1 with
  | true =>
   rw[hc] at h;obtain⟨h1,h2⟩:=aCM (L:=l) h;refine⟨?_,h2⟩;unfold look
   have:(y.1==x.1)=false:=by
    rw[Gt_];intro e;rw[e] at hc;exact h2 (by simpa using hc)
   rw[this];exact h1
  | false =>
   rw[hc] at h;rcases List.mem_cons.1 h with rfl|h
   ·refine⟨?_,by simpa using hc⟩;unfold look;simp
   ·obtain⟨h1,h2⟩:=aCM (L:=l) h;rw[List.mem_cons,not_or] at h2;refine⟨?_,h2.2⟩;unfold look;have:(y.1==x.1)=false:=by rw[Gt_];exact λe=>h2.1 e.symm
    rw[this];exact h1
theorem aDu:∀{L:Frm}{seen:List Nat}{s:Nat}{v:Value},look L s=some v->s∉seen->(s,v)∈aAX L seen
 | [],_,s,v,h,_=>by cases h
 | y::l,seen,s,v,h,hn=>by
  unfold look at h;unfold aAX
  cases hy:(y.1==s) with
  | true =>
   rw[hy] at h;have e:y.1=s:=beq_iff_eq.1 hy;have hc:seen.contains y.1=false:=by rw[e];simpa using hn
   rw[hc];have:y.2=v:=Gh_ h;subst this;exact List.mem_cons.2 (.inl (by rw[<-e]))
  | false =>
   rw[hy] at h;have hne:y.1≠s:=beq_eq_false_iff_ne.1 hy
   cases hc:seen.contains y.1 with
   | true=>exact aDu (L:=l) h hn
   | false=>exact List.mem_cons_of_mem _ (aDu (L:=l) h (by rw[List.mem_cons,not_or];exact⟨λe=>hne e.symm,hn⟩))
def aBv (O:Array Oper):List Nat:=O.toList.filterMap (·.dst)
theorem aDv {O:Array Oper}{i:Nat}{T:List (Nat×Value)}:∀{j:Nat}{s:Nat}{v:Value},look (aRz O i T j) s=some v->∃q,q<j/\aAH O i q=true/\T[q]?=some (s,v)
 | 0,s,v,h=>by cases h
 | j+1,s,v,h=>by
  unfold aRz at h
  split at h
  ·rename_i hd
   split at h
   ·rename_i x hx;unfold look at h
    cases hs:(x.1==s) with
    | true =>
     rw[hs] at h;have e:x=(s,v):=Prod.ext (beq_iff_eq.1 hs) (Gh_ h);exact⟨j,Nat.lt_succ_self j,hd,by rw[hx,e]⟩
    | false =>
     rw[hs] at h;obtain⟨q,h1,h2⟩:=aDv (j:=j) h;exact⟨q,Nat.lt_succ_of_lt h1,h2⟩
   ·obtain⟨q,h1,h2⟩:=aDv (j:=j) h;exact⟨q,Nat.lt_succ_of_lt h1,h2⟩
  ·obtain⟨q,h1,h2⟩:=aDv (j:=j) h;exact⟨q,Nat.lt_succ_of_lt h1,h2⟩
theorem aFs {L M:Frm}(h:look (L++M) s=some v):look L s=some v\/look M s=some v:=by
 induction L with
 | nil=>exact .inr h
 | cons x l ih =>
  rw[List.cons_append,aCJ] at h;rw[aCJ]
  cases hx:(x.1==s) with
  | true=>rw[hx] at h;exact .inl h
  | false=>rw[hx] at h;exact ih h
theorem aBo:∀{L:Frm}{s:Nat}{v:Value},look L s=some v->(s,v)∈L
 | x::l,s,v,h=>by
  unfold look at h
  cases hx:(x.1==s) with
  | true =>
   rw[hx] at h;have:x=(s,v):=Prod.ext (beq_iff_eq.1 hx) (Gh_ h);exact List.mem_cons.2 (.inl this.symm)
  | false=>rw[hx] at h;exact List.mem_cons_of_mem _ (aBo (L:=l) h)
theorem look_none:∀{L:Frm}{s:Nat},look L s=none->∀x∈L,x.1≠s
 | y::l,s,h,x,hx=>by
  unfold look at h
  cases hy:(y.1==s) with
  | true=>rw[hy] at h;cases h
  | false =>
   rw[hy] at h;rcases List.mem_cons.1 hx with rfl|hx
   ·exact beq_eq_false_iff_ne.1 hy
   ·exact look_none (L:=l) h x hx
theorem aEh {L M:Frm}(h:look (L++M) s=some v):look L s=some v\/(look L s=none/\look M s=some v):=by
 induction L with
 | nil=>exact .inr ⟨rfl,h⟩
 | cons x l ih =>
  rw[List.cons_append,aCJ] at h;rw[aCJ]
  cases hx:(x.1==s) with
  | true=>rw[hx] at h;exact .inl h
  | false=>rw[hx] at h;exact ih h
theorem aH3 {L M:Frm}(h:look L s=none):look (L++M) s=look M s:=by
 induction L with
 | nil=>rfl
 | cons x l ih =>
  rw[aCJ] at h;rw[List.cons_append,aCJ]
  cases hx:(x.1==s) with
  | true=>rw[hx] at h;cases h
  | false=>rw[hx] at h;exact ih h
theorem aGb {L:Frm}{seen:List Nat}(h:look (aAX L seen) s=some v):(s,v)∈aAX L seen:=aBo h
theorem aOE {P:Program}{n:Nat}{L:Frm}(h:ev1 P w n O o L [] fs=some ([x],fs',es))(hd:o.dst=some s):x.1=s:=by
 unfold ev1 at h;rw[hd] at h;simp only at h
 cases hdn:Nat.blt s n with
 | false=>rw[hdn] at h;cases h
 | true =>
  rw[hdn] at h;simp only[cond_true] at h
  split at h
  ·cases h
  ·cases h;rfl
  ·split at h
   ·cases hkn:aDt L o.op with
    | false=>rw[hkn] at h;cases h
    | true =>
     rw[hkn] at h;simp only[cond_true] at h
     split at h
     ·split at h
      ·cases h;rfl
      ·cases h;rfl
     ·cases h
   ·split at h
    ·cases h;rfl
    ·cases h
   ·split at h
    ·cases h;rfl
    ·cases h
   ·split at h
    ·cases h;rfl
    ·cases h
   ·cases h
theorem aSy {P:Program}{n:Nat}{L nw':Frm}(h:ev1 P w n O o L nw fs=some (nw',fs',es))(hF:aBg P w fs):aBg P w fs':=by
 unfold ev1 at h
 split at h
 ·cases h
 ·rename_i d hd
  cases hdn:Nat.blt d n with
  | false=>rw[hdn] at h;cases h
  | true =>
   rw[hdn] at h;simp only[cond_true] at h
   split at h
   ·cases h
   ·cases h;exact hF
   ·split at h
    ·cases hkn:aDt L o.op with
     | false=>rw[hkn] at h;cases h
     | true =>
      rw[hkn] at h;simp only[cond_true] at h
      split at h
      ·split at h
       ·rename_i ht;cases h;exact(aJl ht hF).2
       ·cases h;exact hF
      ·cases h
    ·split at h
     ·cases h;exact hF.2
     ·cases h
    ·split at h
     ·cases h;exact hF.2
     ·cases h
    ·split at h
     ·cases h;exact hF.2
     ·cases h
    ·cases h
theorem aKS {P:Program}{w:World}{n:Nat}{O:Array Oper}{base:Frm}:∀{l:List Oper}{i:Nat}{T T':List (Nat×Value)}{fs fs':List Ft}{es:List Eqn},aJ7 P w n O base l i T fs=some (T',fs',es)->T.length=i->aBg P w fs->aGt es ->
  T'.length=i+l.length/\(∃M,T'=T++M)/\∀j o,l[j]?=some o->∃x T1 fs1 fs2 es1,(∃M,T'=T1++M)/\T1.length=i+j/\T'[i+j]?=some x/\ev1 P w n O o (aRz O (i+j) T1 (i+j)++base) [] fs1=some ([x],fs2,es1)/\aBg P w fs1/\aGt es1
 | [],i,T,T',fs,fs',es,h,hi,hF,hE=>by
  cases h;exact⟨by simp[hi],⟨[],by simp⟩,λj o hj=>by simp at hj⟩
 | o::l,i,T,T',fs,fs',es,h,hi,hF,hE=>by
  unfold aJ7 at h
  split at h
  ·rename_i x fs1 es1 h1
   split at h
   ·rename_i T2 fs2 es2 h2;cases h;obtain⟨e1,e2⟩:=aGt.app hE;have hF1:=aSy h1 hF;obtain⟨g1,⟨M,g2⟩,g4⟩:=aKS (l:=l) h2 (by simp[hi]) hF1 e2;refine⟨by rw[g1,Gf_];omega,⟨x::M,by rw[g2];simp⟩,λj o' hj=>?_⟩
    cases j with
    | zero =>
     cases hj;refine⟨x,T,fs,fs1,es1,⟨x::M,by rw[g2];simp⟩,by simpa using hi,?_,h1,hF,e1⟩;rw[g2,Nat.add_zero,<-hi];simp
    | succ j =>
     obtain⟨y,T1,f1,f2,s1,q1,q2,q3,q4,q5,q6⟩:=g4 j o' hj;have ea:i+1+j=i+(j+1):=by omega
     rw[ea] at q2 q3 q4;exact⟨y,T1,f1,f2,s1,q1,q2,q3,q4,q5,q6⟩
   ·cases h
  ·cases h
theorem aLp {P:Program}{n:Nat}{L:Frm}
  (h:ev1 P w n O o L [] fs=some ([x],fs',es)) (E:EnvS ds n L a) (hF:aBg P w fs) (he:aGt es) (hM:M w) :
  (Region.wanted o (yielded O a.tmps)=true->o.wpIn (fen rd) 0 P a w (λa' w'=>a'=aGr a (some x)/\M w') Q)/\(Region.wanted o (yielded O a.tmps)=false->(∀y,some x=some y->y.2=undef)/\M w):=by
 unfold ev1 at h
 split at h
 ·cases h
 ·rename_i d hd
  cases hdn:Nat.blt d n with
  | false=>rw[hdn] at h;cases h
  | true =>
   rw[hdn] at h;simp only[cond_true] at h
   have hval:∀v,(execOp a.eval o).run P w=.ok (.value v) w->x=(d,v)->o.wpIn (fen rd) 0 P a w (λa' w'=>a'=aGr a (some x)/\M w') Q:=by
    rintro v hr rfl;exact aSL hr hd hM
   split at h
   ·cases h
   ·rename_i hw;cases h;refine⟨λhq=>?_,λ_=>⟨λy hy=>by cases hy;rfl,hM⟩⟩;exfalso;unfold aDd at hw
    split at hw
    ·cases hw
    ·rename_i j b hg
     split at hw
     ·cases hw
     ·rename_i s hs
      cases hsn:Nat.blt s n with
      | false=>rw[hsn] at hw;cases hw
      | true =>
       rw[hsn] at hw;have hsn':s<n:=by simpa[Nat.blt_eq] using hsn
       simp only[cond_true] at hw;rw[aAM hg,aBD hs (by rw[E.size];exact hsn')] at hq
       split at hw
       ·rename_i c hc;rw[E.at_ s _ hc] at hq;have:(c==b)=false:=Gh_ hw;cases c<;>cases b<;>simp_all
       ·rename_i hc;rw[E.at_ s _ hc] at hq;cases hq
       ·cases hw
   ·rename_i hw
    have hwant:Region.wanted o (yielded O a.tmps)=true:=by
     unfold aDd at hw
     split at hw
     ·rename_i hg;exact aAb hg _
     ·rename_i j b hg
      split at hw
      ·cases hw
      ·rename_i s hs
       cases hsn:Nat.blt s n with
       | false=>rw[hsn] at hw;cases hw
       | true =>
        rw[hsn] at hw;have hsn':s<n:=by simpa[Nat.blt_eq] using hsn
        simp only[cond_true] at hw;rw[aAM hg,aBD hs (by rw[E.size];exact hsn')]
        split at hw
        ·rename_i c hc;rw[E.at_ s _ hc];have:(c==b)=true:=Gh_ hw;cases c<;>cases b<;>simp_all
        ·cases hw
        ·cases hw
    refine⟨λ_=>?_,λhq=>by rw[hwant] at hq;cases hq⟩
    split at h
    ·rename_i hk
     cases hkn:aDt L o.op with
     | false=>rw[hkn] at h;cases h
     | true =>
      rw[hkn] at h;simp only[cond_true] at h
      split at h
      ·rename_i v w' hr
       split at h
       ·rename_i v0 u fs9 ht;cases h;have hww:w'=w:=he.1;subst hww;obtain⟨e1,e2⟩:=aJl ht hF;have e3:v=v0:=Gh_ he.2.1;exact hval u (by rw[aEV E hkn (aCV hk),hr,e3,e1]) rfl
       ·cases h;have hww:w'=w:=he.1;subst hww;exact hval v (by rw[aEV E hkn (aCV hk)];exact hr) rfl
      ·cases h
    ·split at h
     ·rename_i f v r fs9 x hx;cases h;have e1:o.op=f x:=he.1;have e2:opv L x=some v:=he.2.1;exact hval r (hF.1 o _ x e1 (E.opv e2)) rfl
     ·cases h
    ·split at h
     ·rename_i f v u r fs9 x y hx hy;cases h;have e1:o.op=f x y:=he.1;have e2:opv L x=some v:=he.2.1;have e3:opv L y=some u:=he.2.2.1;exact hval r (hF.1 o _ x y e1 (E.opv e2) (E.opv e3)) rfl
     ·cases h
    ·split at h
     ·rename_i f v u t r fs9 x y z hx hy hz;cases h;have e1:o.op=f x y z:=he.1;have e2:opv L x=some v:=he.2.1;have e3:opv L y=some u:=he.2.2.1;have e4:opv L z=some t:=he.2.2.2.1;exact hval r (hF.1 o _ x y z e1 (E.opv e2) (E.opv e3) (E.opv e4)) rfl
     ·cases h
    ·cases h
theorem aQ3 {P:Program}{n r:Nat}{L:Frm}{T:List (Nat×Value)}
  (hm:P.follows .mixedOrders=true) (hord:aBx O=true) (hT:aAJ O n (aAX L (aBv O)) (T.map some)=true)
  (hq:aJ7 P w.drew n O (aAX L (aBv O)) O.toList 0 [] fs=some (T,fs',es)) (hF:aBg P w.drew fs) (he:aGt es) (E:EnvS ds n L a)
  (k:∀a',EnvS ds n (T++L) a'->Q .normal a' w.drew):(Code.region r O true).wpIn (fen rd) 0 P Q a w:=by
 obtain⟨g1,_,g2⟩:=aKS hq rfl hF he;have hbase:EnvD ds n (aAX L (aBv O)) a:=⟨E.size,λx hx=>E.at_ _ _ (aCM hx).1,E.df⟩;refine aDj (n:=n) (base:=aAX L (aBv O)) (T:=T.map some) (M:=λ_ wm=>wm=w.drew) hm hord hT hbase rfl ?_ ?_
 ·intro i o t lst a1 w1 ho hTi hl E1 D DL hM;subst hM;obtain⟨x,T1,fs1,fs2,es1,⟨M,q1⟩,q2,q3,q4,q5,q6⟩:=g2 i o (by simpa using ho);rw[Nat.zero_add] at q2 q3 q4
  have ht:t=some x:=by
   rw[Gr_,q3] at hTi;exact(Gh_ hTi).symm
  subst ht;refine aLp q4 ⟨E1.size,λs v hs=>?_,E1.df⟩ q5 q6 rfl;rcases aFs hs with h|h
  ·obtain⟨q,h1,h2,h3⟩:=aDv h;refine D q (s,v) h2 ?_;rw[Gr_,q1,List.getElem?_append_left (by rw[q2];exact h1),h3];rfl
  ·have:=aGb h;exact E1.at_ (s,v) this
 ·intro a1 w1 E1 V hM;subst hM;refine k a1 ⟨E1.size,λs v hs=>?_,E1.df⟩;rcases aEh hs with h|⟨h0,h⟩
  ·obtain⟨j,hj⟩:=List.getElem?_of_mem (aBo h);exact V j (s,v) (by rw[Gr_,hj];rfl)
  ·refine E1.at_ (s,v) (aDu h λhd=>?_);unfold aBv at hd;rw[List.mem_filterMap] at hd;obtain⟨o,ho,hod⟩:=hd;obtain⟨j,hj⟩:=List.getElem?_of_mem ho;obtain⟨x,T1,fs1,fs2,es1,_,q2,q3,q4,_,_⟩:=g2 j o hj;have hx:x.1=s:=aOE q4 hod;have:=look_none h0 x (Ge_ q3);exact this hx
def aVN:Md->Option (Array Oper×Bool×List Kon×List Oper×Nat)
 | .ops _ O l _ k=>some (O,false,k,l,0)
 | .drw r O k=>some (O,true,k,[],r)
 | _=>none
def aJm (B:Code)(r i:Nat):Option (Array Oper×Bool×List Kon×List Oper×Nat) :=
 match aBe r B [] with
 | some (O,false,k)=>some (O,false,k,O.toList.drop i,0)
 | some (O,true,k)=>match i with
  | 0=>some (O,true,k,[],r)
  | _+1=>none
 | none=>none
def aWW (L:Frm)(s:Nat):Bool:=L.any λx=>Nat.beq x.1 s
def aTw (nw N L0:Frm):Bool:=nw.all λx=>aWW N x.1 || !aWW L0 x.1
abbrev Res:=Option (Md×Frm×List Ft×List Eqn)
def aUt (B:Code):Option (Nat×Nat)->Option Md
 | none=>some (.code B [])
 | some (r,i)=>match aBe r B [] with
  | some (O,false,k)=>some (.ops r O (O.toList.drop i) i k)
  | some (O,true,k)=>match i with
   | 0=>none
   | _+1=>some (.kon k)
  | none=>none
def go (P:Program)(w:World)(n:Nat)(B:Code)(p:Option (Nat×Nat))(L:Frm)(r' i':Nat)(F:List Ft):Res :=
 match aUt B p with
 | some m=>run P w n L r' i' 5000 m [] F
 | none=>none
abbrev Chk:=Option (Option (Array Oper×Bool×List Kon×List Oper×Nat)×List (Option Value)×List Eqn×Bool)
def lhs (x:Res)(N L:Frm):Chk :=
 match x with
 | some (m,nw,_,es)=>match aVN m with
  | some z=>some (some z,N.map (λy=>look (nw++L) y.1),es.map Eqn.l,aTw nw N L)
  | none=>none
 | none=>none
def rhs (x:Res)(N:Frm)(B:Code)(r' i':Nat):Chk :=
 match x with
 | some (_,_,_,es)=>some (aJm B r' i',N.map (λy=>some y.2),es.map Eqn.r,true)
 | none=>some (none,[],[],true)
def AtO (P:Program)(B:Code)(R:Pst)(ds:List Deferred)(n:Nat)(p:Option (Nat×Nat))(L:Frm)(w:World):Prop :=
 match p with
 | none=>∀a,EnvS ds n L a->B.wpIn (fen R.rd) 0 P R.q a w
 | some (r,i)=>At P B R ds n r i L w
variable{i:Nat}{F:List Ft}{B:Code}{K:Value->World->Prop}
section
variable{P:Program}{n:Nat}{p:Option (Nat×Nat)}{L N:Frm}
theorem aEl (hv:N.map (λy=>look (nw++L) y.1)=N.map (λy=>some y.2))(ho:aTw nw N L=true):∀s v,look (N++L) s=some v->look (nw++L) s=some v:=by
 intro s v h;have hall:∀y∈N,look (nw++L) y.1=some y.2:=List.map_inj_left.1 hv;rcases aEh h with h1|⟨h0,h1⟩
 ·exact hall (s,v) (aBo h1)
 ·cases hn:look nw s with
  | none=>rw[aH3 hn];exact h1
  | some u =>
   exfalso;have hm:=aBo hn;unfold aTw at ho;have:=List.all_eq_true.1 ho (s,u) hm;simp only[Bool.or_eq_true,Bool.not_eq_true'] at this;rcases this with h2|h2
   ·unfold aWW at h2;obtain⟨y,hy,he⟩:=List.any_eq_true.1 h2;exact look_none h0 y hy (by simpa using he)
   ·unfold aWW at h2;have h3:(L.any λx=>Nat.beq x.1 s)=true:=List.any_eq_true.2 ⟨(s,v),aBo h1,by simp⟩;rw[h2] at h3;cases h3
theorem aJS (h:go P w n B p L r' i' F=some (m,nw,fs,es))(hF:aBg P w F)(hE:aGt es)(k:∀a,EnvS ds n (nw++L) a->m.wp P R a w):AtO P B R ds n p L w:=by
 unfold go at h
 cases hb:aUt B p with
 | none=>rw[hb] at h;cases h
 | some m0 =>
  rw[hb] at h;have hk:=aV2 (R:=R) (ds:=ds) 5000 h hF hE k
  cases p with
  | none =>
   cases hb;exact hk
  | some q =>
   obtain⟨r,i⟩:=q;unfold aUt at hb;simp only at hb
   cases hf:aBe r B [] with
   | none=>rw[hf] at hb;cases hb
   | some z =>
    obtain⟨O,dr,kk⟩:=z;rw[hf] at hb;refine⟨O,dr,kk,hf,λa E=>?_⟩
    cases dr with
    | false=>cases hb;exact hk a E
    | true =>
     cases i with
     | zero=>cases hb
     | succ i=>cases hb;exact hk a E
theorem aGl {x:Res}(h:lhs x N L=rhs x N B r' i'):∃m nw fs es,x=some (m,nw,fs,es)/\aGt es/\(∃z,aVN m=some z/\aJm B r' i'=some z)/\∀s v,look (N++L) s=some v->look (nw++L) s=some v:=by
 cases x with
 | none=>cases h
 | some z =>
  obtain⟨m,nw,fs,es⟩:=z;unfold lhs at h;simp only at h
  split at h
  ·rename_i z hz;have h:=Gh_ h;obtain⟨h1,h⟩:=Prod.mk.inj h;obtain⟨h2,h⟩:=Prod.mk.inj h;obtain⟨h3,h4⟩:=Prod.mk.inj h;exact⟨m,nw,fs,es,rfl,aGt.of h3,⟨z,hz,h1.symm⟩,aEl h2 h4⟩
  ·cases h
theorem seg (r' i':Nat)(N:Frm)(hF:aBg P w F)(k:AtO P B R ds n (some (r',i')) (N++L) w)(h:lhs (go P w n B p L r' i' F) N L=rhs (go P w n B p L r' i' F) N B r' i':=by kernel_rfl):AtO P B R ds n p L w:=by
 obtain⟨m,nw,fs,es,hx,hE,⟨z,hl,ht⟩,hs⟩:=aGl h;obtain⟨O,dr,kk,hf,hk⟩:=k;refine aJS hx hF hE λa E=>?_;have hk:=hk a (E.sub hs);unfold aJm at ht;rw[hf] at ht
 cases dr with
 | false =>
  cases ht
  cases m with
  | ops r O1 l i k1=>cases hl;exact hk
  | drw r O1 k1=>cases hl
  | _=>cases hl
 | true =>
  cases i' with
  | zero =>
   cases ht
   cases m with
   | ops r O1 l i k1=>cases hl
   | drw r O1 k1=>cases hl;exact hk
   | _=>cases hl
  | succ i'=>cases ht
def aYA (P:Program)(w:World)(n:Nat)(LL:Frm):Md->Option (Nat×Except Unit (Next×World))
 | .ops _ O (o::_) _ _=>match o.dst,aDd O LL n o with
  | some d,some true=>bif Nat.blt d n&&aDt LL o.op&&(match o.op with|.select _ _=>false|_=>true) then(match(execOp (rho LL) o).run P w with
   | .ok x w'=>some (d,.ok (x,w'))
   | _=>none) else none
  | _,_=>none
 | _=>none
def aME (P:Program)(w:World)(n:Nat)(L:Frm)(x:Res):Option (Nat×Except Unit (Next×World)) :=
 match x with
 | some (m,nw,_,_)=>aYA P w n (nw++L) m
 | none=>none
theorem aNQ {x:Next}(hF:aBg P w F)(h:(lhs (go P w n B p L r' i' F) N L,aME P w n L (go P w n B p L r' i' F))=(rhs (go P w n B p L r' i' F) N B r' i',some (d,.ok (x,w'))))
  (k:∀(O:Array Oper)(kk:List Kon)(o:Oper)(l:List Oper)(a:Act),aBe r' B []=some (O,false,kk)->O.toList.drop i'=o::l->EnvS ds n (N++L) a->o.dst=some d->d<n->Region.wanted o (yielded O a.tmps)=true->(execOp a.eval o).run P w=.ok x w'->wpListIn (fen R.rd) 0 P O (post P R kk) (o::l) a w):AtO P B R ds n p L w:=by
 obtain⟨h1,h2⟩:=Prod.mk.inj h;obtain⟨m,nw,fs,es,hx,hE,⟨z,hl,ht⟩,hs⟩:=aGl h1;rw[hx] at h2;refine aJS hx hF hE λa E=>?_;unfold aME aYA at h2
 cases m with
 | ops r O l i k1 =>
  cases l with
  | nil=>cases h2
  | cons o l =>
   simp only at h2
   split at h2
   ·rename_i d1 hd hw
    cases hc:(Nat.blt d1 n&&aDt (nw++L) o.op&&(match o.op with|.select _ _=>false|_=>true)) with
    | false=>rw[hc] at h2;cases h2
    | true =>
     rw[hc] at h2;simp only[cond_true] at h2;simp only[Ga_] at hc;obtain⟨⟨hdn,hkn⟩,hsel⟩:=hc
     split at h2
     ·rename_i y w1 hr;cases h2;unfold aJm at ht
      cases hf:aBe r' B [] with
      | none=>rw[hf] at ht;cases ht
      | some z1 =>
       obtain⟨O1,dr,kk⟩:=z1;rw[hf] at ht
       cases dr with
       | true =>
        cases i' with
        | zero=>cases ht;cases hl
        | succ i'=>cases ht
       | false =>
        cases ht;have hl:(some (O,false,k1,o::l,0):Option (Array Oper×Bool×List Kon×List Oper×Nat))=some (O1,false,kk,O1.toList.drop i',0):=hl;simp only[Gk_,Prod.mk.injEq] at hl;obtain⟨rfl,_,rfl,hl,_⟩:=hl
        have hsel':∀cs b,o.op ≠ .select cs b:=by
         intro cs b e;rw[e] at hsel;cases hsel
        refine k O k1 o l a hf hl.symm (E.sub hs) hd (by simpa[Nat.blt_eq] using hdn) ?_ (by rw[aEV E hkn hsel'];exact hr);unfold aDd at hw
        split at hw
        ·rename_i hg;exact aAb hg _
        ·rename_i j b hg
         split at hw
         ·cases hw
         ·rename_i s hss
          cases hsn:Nat.blt s n with
          | false=>rw[hsn] at hw;cases hw
          | true =>
           rw[hsn] at hw;have hsn':s<n:=by simpa[Nat.blt_eq] using hsn
           simp only[cond_true] at hw;rw[aAM hg,aBD hss (by rw[E.size];exact hsn')]
           split at hw
           ·rename_i c hc;rw[E.at_ s _ hc];have:(c==b)=true:=Gh_ hw;cases c<;>cases b<;>simp_all
           ·cases hw
           ·cases hw
     ·cases h2
   ·cases h2
 | _=>cases h2
theorem cal (r' i' d:Nat)(N:Frm){f:FuncId}(hF:aBg P w F)(hc:Calls P f args w λe w'=>∃v,e=.returned v/\K v w')(k:∀v w',K v w'->AtO P B R ds n (some (r',i'+1)) ((d,v)::(N++L)) w')(h:(lhs (go P w n B p L r' i' F) N L,aME P w n L (go P w n B p L r' i' F))=(rhs (go P w n B p L r' i' F) N B r' i',some (d,.ok (.enter f args,w))):=by kernel_rfl):AtO P B R ds n p L w :=
 aNQ hF h λO kk o l a hf hd1 E hd hdn hw hr=>by
  refine aNj (R:=K) hw hr hc λv w' hK=>?_;obtain⟨O1,dr,k1,hf1,hk⟩:=k v w' hK;rw[hf] at hf1;cases hf1;have:=hk _ (E.put (v:=v) hdn);rw[hd];have hdr:O.toList.drop (i'+1)=l:=by rw[<-List.tail_drop,hd1];rfl
  show wpListIn (fen R.rd) 0 P O (post P R kk) l _ w';rw[<-hdr];exact this
theorem aYT (r' i' d:Nat)(N:Frm){f:FuncId}{K:World->Prop}(hF:aBg P w F)(hc:Calls P f args w λe w'=>e=.returned v/\K w')(k:∀w',K w'->AtO P B R ds n (some (r',i'+1)) ((d,v)::(N++L)) w')(h:(lhs (go P w n B p L r' i' F) N L,aME P w n L (go P w n B p L r' i' F))=(rhs (go P w n B p L r' i' F) N B r' i',some (d,.ok (.enter f args,w))):=by kernel_rfl):AtO P B R ds n p L w :=
 cal r' i' d N (K:=λu w'=>u=v/\K w') hF (hc.mono λe w' h=>⟨v,h.1,rfl,h.2⟩) (λu w' ⟨hu,hK⟩=>by subst hu;exact k w' hK) h
theorem opx (r' i' d:Nat)(N:Frm)(hF:aBg P w F)(k:AtO P B R ds n (some (r',i'+1)) ((d,v)::(N++L)) w')(h:(lhs (go P w n B p L r' i' F) N L,aME P w n L (go P w n B p L r' i' F))=(rhs (go P w n B p L r' i' F) N B r' i',some (d,.ok (.value v,w'))):=by kernel_rfl):AtO P B R ds n p L w :=
 aNQ hF h λO kk o l a hf hd1 E hd hdn hw hr=>by
  refine aDH hw hr ?_;obtain⟨O1,dr,k1,hf1,hk⟩:=k;rw[hf] at hf1;cases hf1;have:=hk _ (E.put (v:=v) hdn);rw[hd];have hdr:O.toList.drop (i'+1)=l:=by rw[<-List.tail_drop,hd1];rfl
  rw[<-hdr];exact this
theorem aAi {r:Nat}(L':Frm)(k:AtO P B R ds n (some (r,i)) L' w)(h:L'.map (λy=>look L y.1)=L'.map (λy=>some y.2):=by kernel_rfl):AtO P B R ds n (some (r,i)) L w:=by
 obtain⟨O,dr,kk,hf,hk⟩:=k;exact⟨O,dr,kk,hf,λa E=>hk a (E.sub λs v hs=>(List.map_inj_left.1 h) (s,v) (aBo hs))⟩
def aPG (x:Res)(N L:Frm):Option (Bool×List (Option Value)×List Eqn) :=
 match x with
 | some (m,nw,_,es)=>some (match m with|.ret=>true|.nrm=>true|_=>false,N.map (λy=>look (nw++L) y.1),es.map Eqn.l)
 | none=>none
def aMw (x:Res)(N:Frm):Option (Bool×List (Option Value)×List Eqn) :=
 match x with
 | some (_,_,_,es)=>some (true,N.map (λy=>some y.2),es.map Eqn.r)
 | none=>some (true,[],[])
theorem aRp (N:Frm)(hF:aBg P w F)(h:aPG (go P w n B p L 1000000 0 F) N L=aMw (go P w n B p L 1000000 0 F) N)(k:∀a,EnvS ds n N a->R.q .ret a w/\R.q .normal a w):AtO P B R ds n p L w:=by
 cases hx:go P w n B p L 1000000 0 F with
 | none=>rw[hx] at h;cases h
 | some z =>
  obtain⟨m,nw,fs,es⟩:=z;rw[hx] at h;have h:=Gh_ h;obtain⟨h1,h⟩:=Prod.mk.inj h;obtain⟨h2,h3⟩:=Prod.mk.inj h;refine aJS hx hF (aGt.of h3) λa E=>?_;have hk:=k a (E.sub λs v hs=>(List.map_inj_left.1 h2) (s,v) (aBo hs))
  cases m with
  | ret=>exact hk.1
  | nrm=>exact hk.2
  | _=>cases h1
end
variable{Φ:Ending->World->Prop}
section
variable{P:Program}{n:Nat}{p:Option (Nat×Nat)}{L:Frm}
theorem EnvS.to {L:Frm}(E:EnvS ds n L a)(h:L.map (λy=>look L y.1)=L.map (λy=>some y.2)):EnvD ds n L a:=⟨E.size,λx hx=>E.at_ _ _ ((List.map_inj_left.1 h) x hx),E.df⟩
theorem rt0 (hr:fn.results=#[])(hF:aBg P w F)(k:Φ (.returned (.tuple #[])) w)(h:aPG (go P w n B p L 1000000 0 F) [] L=aMw (go P w n B p L 1000000 0 F) []:=by kernel_rfl):AtO P B (aAI (bodyPost P fn Φ)) [] n p L w :=
 aRp [] hF h λa E=>by
  have:=aCe (P:=P) (R:=Φ) hr (E.to rfl) k;exact⟨this.2,this.1⟩
theorem rt1 (t:Nat)(v:Value)(hr:fn.results=#[.tmp t])(hF:aBg P w F)(k:Φ (.returned v) w)(h:aPG (go P w n B p L 1000000 0 F) [(t,v)] L=aMw (go P w n B p L 1000000 0 F) [(t,v)]:=by kernel_rfl):AtO P B (aAI (bodyPost P fn Φ)) [] n p L w :=
 aRp [(t,v)] hF h λa E=>by
  have hv:a.eval (.tmp t)=v:=E.at_ t v (by simp[look]);have:=aAs (P:=P) (R:=Φ) hr (L:=[]) ⟨E.size,λx hx=>(by cases hx),E.df⟩ hv k;exact⟨this,this⟩
theorem aLs (hn:fn.ntmps=n){L:Frm}(hL:L=(List.range args.size).zip args.toList)(hs:args.size<=n):EnvS [] n L { tmps:=args++Array.replicate (fn.ntmps-args.size) undef,defers:=[] }:=by
 refine⟨?_,?_,rfl⟩
 ·simp[hn];omega
 ·intro s v h;subst hL;have hm:=aBo h;obtain⟨j,hj⟩:=List.getElem?_of_mem hm;rw[List.getElem?_zip_eq_some] at hj;obtain⟨h1,h2⟩:=hj;have hlt:=(List.getElem?_eq_some_iff.1 h2).1
  have:j=s:=by
   rw[List.getElem?_range (by simpa using hlt)] at h1;exact Gh_ h1
  subst this;show(args++Array.replicate (fn.ntmps-args.size) undef).getD j undef=v;rw[Array.getD_eq_getD_getElem?,Array.getElem?_append_left (by simpa using hlt)];have:args[j]?=some v:=by simpa using h2
  rw[this];rfl
theorem beg {f:FuncId}(hf:P.funcs[f]?=some fn)(hb:fn.body=some B)(hn:fn.ntmps=n)(L:Frm)(hL:L=(List.range args.size).zip args.toList)(hs:Nat.ble args.size n=true)(k:∀Φ':Ending->World->Prop,(∀e w',Φ e w'->Φ' e w')->AtO P B (aAI (bodyPost P fn Φ')) [] n none L w):Calls P f args w Φ:=by
 have hs:args.size<=n:=Nat.le_of_ble_eq_true hs;exact calls_of_wp hf hb (wpIn_wide.1 (k Φ (λ_ _ h=>h) _ (aLs hn hL hs)))
theorem f0:aBg P w []:=trivial
theorem fc {f:Ft}{l:List Ft}(h:f.ok P w)(t:aBg P w l):aBg P w (f::l):=⟨h,t⟩
end
variable{d:Option Nat}
section
variable{P:Program}{n:Nat}{p:Option (Nat×Nat)}{L N:Frm}{r:Nat}
def aYN (P:Program)(w:World)(n:Nat)(B:Code)(r:Nat)(L N:Frm)(F:List Ft):Option (Bool×Bool×Bool×List (Option Value)×List Eqn×Bool) :=
 match aBe r B [] with
 | some (O,true,_)=>match aJ7 P w n O (aAX L (aBv O)) O.toList 0 [] F with
  | some (T,_,es)=>some (P.follows .mixedOrders,aBx O,aAJ O n (aAX L (aBv O)) (T.map some),N.map (λy=>look (T++L) y.1),es.map Eqn.l,aTw T N L)
  | none=>none
 | _=>none
def aYM (P:Program)(w:World)(n:Nat)(B:Code)(r:Nat)(L N:Frm)(F:List Ft):Option (Bool×Bool×Bool×List (Option Value)×List Eqn×Bool) :=
 match aBe r B [] with
 | some (O,true,_)=>match aJ7 P w n O (aAX L (aBv O)) O.toList 0 [] F with
  | some (T,_,es)=>some (true,true,true,N.map (λy=>some y.2),es.map Eqn.r,true)
  | none=>some (true,true,true,[],[],true)
 | _=>some (true,true,true,[],[],true)
theorem drq (N:Frm){w5:World}(hw:w5=w.drew)(hF:aBg P w5 F)(k:AtO P B R ds n (some (r,1)) (N++L) w5)(h:aYN P w5 n B r L N F=aYM P w5 n B r L N F:=by kernel_rfl):AtO P B R ds n (some (r,0)) L w:=by
 subst hw;unfold aYN aYM at h;obtain⟨O1,dr,kk,hf,hk⟩:=k;rw[hf] at h
 cases dr with
 | false=>cases h
 | true =>
  simp only at h;refine⟨O1,true,kk,hf,λa E=>?_⟩
  cases hq:aJ7 P w.drew n O1 (aAX L (aBv O1)) O1.toList 0 [] F with
  | none=>rw[hq] at h;cases h
  | some z =>
   obtain⟨T,fs,es⟩:=z;rw[hq] at h;simp only[Gk_,Prod.mk.injEq] at h;obtain⟨h1,h2,h3,h4,h5,h6⟩:=h;exact aQ3 h1 h2 h3 hq hF (aGt.of h5) E λa' E'=>hk a' (E'.sub (aEl h4 h6))
def aPQ (n:Nat)(LL:Frm)(f:Operand->Operand->Op):Md->Option (Option Nat×Bool×Option Bool×Op×Op×Option Value×Option Value)
 | .ops _ O (o::_) _ _=>match o.op.operands[0]?,o.op.operands[1]? with
  | some x,some y=>some (o.dst,o.guard.isNone,aDd O LL n o,o.op,f x y,opv LL x,opv LL y)
  | _,_=>none
 | _=>none
def aPC (x:Res)(n:Nat)(L:Frm)(f:Operand->Operand->Op):Option (Option Nat×Bool×Option Bool×Op×Option Value×Option Value) :=
 match x with
 | some (m,nw,_,_)=>match aPQ n (nw++L) f m with
  | some (d,g,wt,a,b,u,v)=>some (d,g,wt,a,u,v)
  | none=>none
 | none=>none
def aPB (x:Res)(n:Nat)(L:Frm)(f:Operand->Operand->Op)(d:Option Nat)(g:Bool)(v u:Value):Option (Option Nat×Bool×Option Bool×Op×Option Value×Option Value) :=
 match x with
 | some (m,nw,_,_)=>match aPQ n (nw++L) f m with
  | some (_,g0,_,_,b,_,_)=>some (d,(match g with|true=>true|false=>g0),some true,b,some v,some u)
  | none=>some (none,true,none,f (.tmp 0) (.tmp 0),none,none)
 | none=>some (none,true,none,f (.tmp 0) (.tmp 0),none,none)
theorem aDk (hw:aDd O L n o=some true)(E:EnvS ds n L a):Region.wanted o (yielded O a.tmps)=true:=by
 unfold aDd at hw
 split at hw
 ·rename_i hg;exact aAb hg _
 ·rename_i j b hg
  split at hw
  ·cases hw
  ·rename_i s hss
   cases hsn:Nat.blt s n with
   | false=>rw[hsn] at hw;cases hw
   | true =>
    rw[hsn] at hw;have hsn':s<n:=by simpa[Nat.blt_eq] using hsn
    simp only[cond_true] at hw;rw[aAM hg,aBD hss (by rw[E.size];exact hsn')]
    split at hw
    ·rename_i c hc;rw[E.at_ s _ hc];have:(c==b)=true:=Gh_ hw;cases c<;>cases b<;>simp_all
    ·cases hw
    ·cases hw
theorem aMU {f:Operand->Operand->Op}{g:Bool}(hF:aBg P w F)
  (h:(lhs (go P w n B p L r' i' F) N L,aPC (go P w n B p L r' i' F) n L f)=(rhs (go P w n B p L r' i' F) N B r' i',aPB (go P w n B p L r' i' F) n L f d g v u))
  (k:∀(O:Array Oper)(kk:List Kon)(o:Oper)(l:List Oper)(a:Act) x y,aBe r' B []=some (O,false,kk)->O.toList.drop i'=o::l->EnvS ds n (N++L) a->o.dst=d->(g=true->o.guard=none)->Region.wanted o (yielded O a.tmps)=true->o.op=f x y->a.eval x=v->a.eval y=u->wpListIn (fen R.rd) 0 P O (post P R kk) (o::l) a w):AtO P B R ds n p L w:=by
 obtain⟨h1,h2⟩:=Prod.mk.inj h;obtain⟨m,nw,fs,es,hx,hE,⟨z,hl,ht⟩,hs⟩:=aGl h1;rw[hx] at h2;refine aJS hx hF hE λa E=>?_;unfold aPC aPB at h2;simp only at h2
 cases hta:aPQ n (nw++L) f m with
 | none=>rw[hta] at h2;cases h2
 | some q =>
  obtain⟨d1,g1,wt,oa,ob,u1,v1⟩:=q;rw[hta] at h2;simp only[Gk_,Prod.mk.injEq] at h2;obtain⟨rfl,hg1,rfl,rfl,rfl,rfl⟩:=h2
  cases m with
  | ops r O l i k1 =>
   cases l with
   | nil=>cases hta
   | cons o l =>
    unfold aPQ at hta;simp only at hta
    split at hta
    ·rename_i x y hx0 hy0;simp only[Gk_,Prod.mk.injEq] at hta;obtain⟨q1,q2,q3,q4,q5,q6,q7⟩:=hta;unfold aJm at ht
     cases hf:aBe r' B [] with
     | none=>rw[hf] at ht;cases ht
     | some z1 =>
      obtain⟨O1,dr,kk⟩:=z1;rw[hf] at ht
      cases dr with
      | true =>
       cases i' with
       | zero=>cases ht;cases hl
       | succ i'=>cases ht
      | false =>
       cases ht;have hl:(some (O,false,k1,o::l,0):Option (Array Oper×Bool×List Kon×List Oper×Nat))=some (O1,false,kk,O1.toList.drop i',0):=hl;simp only[Gk_,Prod.mk.injEq] at hl;obtain⟨rfl,_,rfl,hl,_⟩:=hl;refine k O k1 o l a x y hf hl.symm (E.sub hs) q1 (λhg=>?_) (aDk q3 E) (q4.trans q5.symm) (E.opv q6) (E.opv q7);subst hg;have:g1=true:=hg1;rw[this] at q2;simpa using q2
    ·cases hta
  | _=>cases hta
def StF (P:Program)(w:World)(f:Operand->Operand->Op)(v u:Value)(w':World):Prop:=∀(o:Oper)(ρ:Operand->Value) x y,o.op=f x y->ρ x=v->ρ y=u->(execOp ρ o).run P w=.ok .skip w'
theorem sto (r' i':Nat)(N:Frm){f:Operand->Operand->Op}(hF:aBg P w F)(hs:StF P w f v u w')(k:AtO P B R ds n (some (r',i'+1)) (N++L) w')(h:(lhs (go P w n B p L r' i' F) N L,aPC (go P w n B p L r' i' F) n L f)=(rhs (go P w n B p L r' i' F) N B r' i',aPB (go P w n B p L r' i' F) n L f none false v u):=by kernel_rfl):AtO P B R ds n p L w :=
 aMU hF h λO kk o l a x y hf hd1 E hd _ hw ho hx hy=>by
  refine aJt hw (hs o _ x y ho hx hy) hd ?_;obtain⟨O1,dr,k1,hf1,hk⟩:=k;rw[hf] at hf1;cases hf1;have:=hk _ E;have hdr:O.toList.drop (i'+1)=l:=by rw[<-List.tail_drop,hd1];rfl
  rw[<-hdr];exact this
end
section
variable{P:Program}{n:Nat}{p:Option (Nat×Nat)}{L:Frm}
theorem aZs {t t2:Nat}(hr:fn.results=#[.tmp t,.tmp t2])(E:a.defers=[])(hu:a.eval (.tmp t)=u)(hv:a.eval (.tmp t2)=v)(k:Φ (.returned (.tuple #[u,v])) w):bodyPost P fn Φ .ret a w:=by
 refine⟨E,.tuple #[u,v],?_,k⟩;unfold results;rw[hr];have h1:a.tmps.getD t undef=u:=hu;have h2:a.tmps.getD t2 undef=v:=hv;rw[Array.getD_eq_getD_getElem?] at h1 h2;simp[h1,h2]
theorem rt2 (t t2:Nat)(u v:Value)(hr:fn.results=#[.tmp t,.tmp t2])(hn:(t==t2)=false)(hF:aBg P w F)(k:Φ (.returned (.tuple #[u,v])) w)(h:aPG (go P w n B p L 1000000 0 F) [(t,u),(t2,v)] L=aMw (go P w n B p L 1000000 0 F) [(t,u),(t2,v)]:=by kernel_rfl):AtO P B (aAI (bodyPost P fn Φ)) [] n p L w :=
 aRp _ hF h λa E=>by
  have:=aZs (P:=P) (Φ:=Φ) hr E.df (E.at_ t u (by simp[look])) (E.at_ t2 v (by simp[look,hn])) k;exact⟨this,this⟩
end
variable{t:TypeId}
section
variable{P:Program}{m n:Int}
theorem tv (k:Nat){b c:Bool}(h:b=c):Ft.ok P w (.vl k (.bool b) (.bool c)):=congrArg Value.bool h
theorem aAP (m n:Int)(ht:P.underlying t=some (.int .i64))(h : -9223372036854775808<=m+n/\m+n<=9223372036854775807:=by omega):Ft.ok P w (.g2 (λx y =>.binOp .add t x y t) (.int .i64 m) (.int .i64 n) (.int .i64 (m+n))):=λ_ _ _ _ ho hx hy=>aAQ ht hx hy h.1 h.2 ho
theorem aGq (m n:Int)(ht:P.underlying t=some (.int .i64))(h : -9223372036854775808<=m-n/\m-n<=9223372036854775807:=by omega):Ft.ok P w (.g2 (λx y =>.binOp .sub t x y t) (.int .i64 m) (.int .i64 n) (.int .i64 (m-n))):=λ_ _ _ _ ho hx hy=>aBT ht hx hy h.1 h.2 ho
theorem aIe (m n:Int)(ht:P.underlying t=some (.int .i64))(h : -9223372036854775808<=m*n/\m*n<=9223372036854775807:=by omega):Ft.ok P w (.g2 (λx y =>.binOp .mul t x y t) (.int .i64 m) (.int .i64 n) (.int .i64 (m*n))):=λ_ _ _ _ ho hx hy=>aD2 ht hx hy h.1 h.2 ho
end
structure Ent where
 B:Nat->Prop
 H:World->Prop
 lt:∀{w k},H w->B k->k<w.heap.size
 fr:∀{w w' G},H w->Fr G w w'->(∀k,B k->¬G k)->H w'
structure Mm (F:Nat->Prop)(w0 w:World)(M:List Ent):Prop where
 fr:Fr F w0 w
 at_:∀e∈M,e.H w
 own:∀e∈M,∀k,e.B k->k<w0.heap.size->F k
 nd:M.Pairwise λx y=>∀k,x.B k->¬y.B k
variable{M M':List Ent}{G:Nat->Prop}{e:Ent}{w0:World}
section
variable{F:Nat->Prop}
theorem Mm.nil (F:Nat->Prop)(w:World):Mm F w w []:=⟨Fr.refl _ _,λ_ h=>(by cases h),λ_ h=>(by cases h),.nil⟩
theorem Mm.get (h:Mm F w0 w M)(j:Nat)(hj:M[j]?=some e):e.H w:=h.at_ e (Ge_ hj)
theorem Mm.q (h:Mm F w0 w M)(f:Fr nF_ w w'):Mm F w0 w' M :=
 ⟨h.fr.trans' f (λ_ _=>False.elim),λe he=>e.fr (h.at_ e he) f (λ_ _=>id),h.own,h.nd⟩
theorem Mm.add (h:Mm F w0 w M)(f:Fr nF_ w w')(e:Ent)(he:e.H w')(hb:∀k,e.B k->w.heap.size<=k):Mm F w0 w' (M++[e]):=by
 refine⟨h.fr.trans' f (λ_ _=>False.elim),λx hx=>?_,λx hx k hk hl=>?_,?_⟩
 ·rcases List.mem_append.1 hx with hx|hx
  ·exact x.fr (h.at_ x hx) f (λ_ _=>id)
  ·rw[Gd_] at hx;subst hx;exact he
 ·rcases List.mem_append.1 hx with hx|hx
  ·exact h.own x hx k hk hl
  ·rw[Gd_] at hx;subst hx;have:=hb k hk;have:=h.fr.size;omega
 ·refine List.pairwise_append.2 ⟨h.nd,List.pairwise_singleton _ _,λx hx y hy k hk hy'=>?_⟩;rw[Gd_] at hy;subst hy;have:=x.lt (h.at_ x hx) hk;have:=hb k hy';omega
theorem Mm.put (h:Mm F w0 w M)(j:Nat){e':Ent}(hj:M[j]?=some e)(f:Fr G w w')(hG:∀k,k<w.heap.size->G k->e.B k)(he:e'.H w')(hb:∀k,e'.B k->e.B k\/w.heap.size<=k):Mm F w0 w' (M.set j e'):=by
 have hlt:=(List.getElem?_eq_some_iff.1 hj).1;have hje:=(List.getElem?_eq_some_iff.1 hj).2
 have hap:∀i (hi:i<M.length),i≠j->∀k,M[i].B k->¬e.B k:=by
  intro i hi hij k hk hek;rw[<-hje] at hek;rcases Nat.lt_or_ge i j with hl|hl
  ·exact List.pairwise_iff_getElem.1 h.nd i j hi hlt hl k hk hek
  ·exact List.pairwise_iff_getElem.1 h.nd j i hlt hi oM k hek hk
 have hmem:∀x∈M.set j e',x=e'\/∃i,∃hi:i<M.length,i≠j/\x=M[i]:=by
  intro x hx;obtain⟨i,hi,rfl⟩:=List.mem_iff_getElem.1 hx;rw[List.getElem_set]
  by_cases hij:j=i
  ·rw[if_pos hij];exact .inl rfl
  ·rw[if_neg hij];exact .inr ⟨i,by simpa using hi,λe=>hij e.symm,rfl⟩
 have hej:e∈M:=Ge_ hj;refine⟨h.fr.trans' f λr hr hg=>h.own e hej r (hG r (Nat.lt_of_lt_of_le hr h.fr.size) hg) hr,λx hx=>?_,λx hx k hk hl=>?_,?_⟩
 ·rcases hmem x hx with rfl|⟨i,hi,hij,rfl⟩
  ·exact he
  ·exact(M[i]).fr (h.at_ _ (List.getElem_mem hi)) f λk hk hg=>hap i hi hij k hk (hG k ((M[i]).lt (h.at_ _ (List.getElem_mem hi)) hk) hg)
 ·rcases hmem x hx with rfl|⟨i,hi,hij,rfl⟩
  ·rcases hb k hk with hb|hb
   ·exact h.own e hej k hb hl
   ·have:=h.fr.size;omega
  ·exact h.own _ (List.getElem_mem hi) k hk hl
 ·rw[List.pairwise_iff_getElem];intro a b ha hb' hab k hka hkb;rw[List.length_set] at ha hb';rw[List.getElem_set] at hka hkb
  by_cases ea:j=a
  ·rw[if_pos ea] at hka;have eb:j≠b:=by omega
   rw[if_neg eb] at hkb;rcases hb k hka with h1|h1
   ·exact hap b hb' (λz=>eb z.symm) k hkb h1
   ·have:=(M[b]).lt (h.at_ _ (List.getElem_mem hb')) hkb;omega
  ·rw[if_neg ea] at hka
   by_cases eb:j=b
   ·rw[if_pos eb] at hkb;rcases hb k hkb with h1|h1
    ·exact hap a ha (λz=>ea z.symm) k hka h1
    ·have:=(M[a]).lt (h.at_ _ (List.getElem_mem ha)) hka;omega
   ·rw[if_neg eb] at hkb;exact List.pairwise_iff_getElem.1 h.nd a b ha hb' hab k hka hkb
def aCH (M:List Ent):List Nat->List Ent
 | []=>[]
 | j::l=>match M[j]? with
  | some e=>e::aCH M l
  | none=>aCH M l
theorem Mm.sub (h:Mm F w0 w M)(hs:M'.Sublist M):Mm F w0 w M' :=
 ⟨h.fr,λe he=>h.at_ e (hs.subset he),λe he=>h.own e (hs.subset he),h.nd.sublist hs⟩
theorem Mm.cast (h:Mm F w0 w M)(e:M=M'):Mm F w0 w M':=e▸h
theorem aDr {M:List Ent}:∀{l:List Nat}{e},e∈aCH M l->∃j∈l,M[j]?=some e
 | [],e,h=>by cases h
 | j::l,e,h=>by
  unfold aCH at h
  split at h
  ·rename_i x hx;rcases List.mem_cons.1 h with rfl|h
   ·exact⟨j,.head _,hx⟩
   ·obtain⟨i,hi,h⟩:=aDr h;exact⟨i,.tail _ hi,h⟩
  ·obtain⟨i,hi,h⟩:=aDr h;exact⟨i,.tail _ hi,h⟩
theorem Mm.pick (h:Mm F w0 w M)(l:List Nat)(hM:aCH M l=M':=by rfl)(hl:l.Nodup:=by decide):Mm F w0 w M':=by
 subst hM;refine⟨h.fr,λe he=>?_,λe he=>?_,?_⟩
 ·obtain⟨j,_,hj⟩:=aDr he;exact h.at_ e (Ge_ hj)
 ·obtain⟨j,_,hj⟩:=aDr he;exact h.own e (Ge_ hj)
 ·induction l with
  | nil=>exact .nil
  | cons j l ih =>
   unfold aCH;rw[List.nodup_cons] at hl
   split
   ·rename_i e he;refine List.pairwise_cons.2 ⟨λy hy=>?_,ih hl.2⟩;obtain⟨i,hi,hy⟩:=aDr hy;have hij:i≠j:=λe=>hl.1 (e▸hi);obtain⟨h1,rfl⟩:=List.getElem?_eq_some_iff.1 he;obtain⟨h2,rfl⟩:=List.getElem?_eq_some_iff.1 hy;intro k hk hk';rcases Nat.lt_or_ge i j with hl|hl
    ·exact List.pairwise_iff_getElem.1 h.nd i j h2 h1 hl k hk' hk
    ·exact List.pairwise_iff_getElem.1 h.nd j i h1 h2 oM k hk hk'
   ·exact ih hl.2
end
def bk (b:Nat)(cs:Array Value)(T:TypeId):Ent where
 B k:=k=b
 H w:=w.heap[b]?=some (.cells cs T (0,0))
 lt h e:=by subst e;exact aAf h
 fr h f hn:=f.obj h (hn _ rfl)
variable{α:Type}
def rw_ (f:α->List Value)(c:Nat)(E:TypeId)(v:Value)(L:List α):Ent where
 B k:=v.ownBlock=some k
 H w:=ow f c E w 0 v L
 lt h e:=(h.lt e).2
 fr h f' hn:=h.fr f' hn
def mp (P:Program)(K:TypeId)(b n:Nat)(m:Value->Option Value):Ent where
 B k:=k=b
 H w:=aDS P K w b n m
 lt h e:=by subst e;exact h.lt
 fr h f hn:=h.fr f (hn _ rfl)
abbrev vI (n:Int):Value := .int .i64 n
abbrev vB (b:Bool):Value := .bool b
abbrev vP (b k:Nat):Value := .pointer (some ⟨b,k,none⟩)
abbrev vL (p:Option Addr)(n c:Nat):Value := .slice p n c
abbrev vA (l:List Value):Value := .agg l.toArray
variable{cs:Array Value}{F0:Nat->Prop}{T0:TypeId}
section
variable{P:Program}{n:Nat}{p:Option (Nat×Nat)}{L:Frm}
theorem aAw (r' i' d:Nat)(N:Frm){f:FuncId}(hF:aBg P w F)(hM:Mm F0 w0 w M)(hc:Calls P f args w λe w'=>e=.returned v/\Fr nF_ w w')(k:∀w',Mm F0 w0 w' M->AtO P B R ds n (some (r',i'+1)) ((d,v)::(N++L)) w')(h:(lhs (go P w n B p L r' i' F) N L,aME P w n L (go P w n B p L r' i' F))=(rhs (go P w n B p L r' i' F) N B r' i',some (d,.ok (.enter f args,w))):=by kernel_rfl):AtO P B R ds n p L w :=
 aYT r' i' d N hF hc (λw' f=>k w' (hM.q f)) h
theorem aJd (r' i' d:Nat)(N:Frm){f:FuncId}(hF:aBg P w F)(hM:Mm F0 w0 w M)(hc:Calls P f args w λe w'=>(∃v,e=.returned v/\K v w')/\Fr nF_ w w')(k:∀v w',K v w'->Mm F0 w0 w' M->Fr nF_ w w'->AtO P B R ds n (some (r',i'+1)) ((d,v)::(N++L)) w')(h:(lhs (go P w n B p L r' i' F) N L,aME P w n L (go P w n B p L r' i' F))=(rhs (go P w n B p L r' i' F) N B r' i',some (d,.ok (.enter f args,w))):=by kernel_rfl):AtO P B R ds n p L w :=
 cal r' i' d N (K:=λv w'=>K v w'/\Fr nF_ w w') hF (hc.mono λe w' ⟨⟨v,h1,h2⟩,h3⟩=>⟨v,h1,h2,h3⟩) (λv w' ⟨h1,f⟩=>k v w' h1 (hM.q f) f) h
theorem aAu (r' i' d:Nat)(N:Frm){T:TypeId}{v:Nat->Value}(hF:aBg P w F)(hM:Mm F0 w0 w M)(k:∀b w',Mm F0 w0 w' (M++[bk b cs T])->AtO P B R ds n (some (r',i'+1)) ((d,v b)::(N++L)) w')(h:(lhs (go P w n B p L r' i' F) N L,aME P w n L (go P w n B p L r' i' F))=(rhs (go P w n B p L r' i' F) N B r' i',some (d,.ok (.value (v w.heap.size),w.alloc (.cells cs T)))):=by kernel_rfl):AtO P B R ds n p L w :=
 opx r' i' d N hF (k _ _ (hM.add ((Fr.refl _ _).alloc _) _ (aAl _ _) λk e=>by have:k=w.heap.size:=e;omega)) h
theorem aOf (r' i' d:Nat)(N:Frm)(K:TypeId)(hF:aBg P w F)(hM:Mm F0 w0 w M)(k:∀b w',Mm F0 w0 w' (M++[mp P K b 0 λ_=>none])->AtO P B R ds n (some (r',i'+1)) ((d,.map (some b))::(N++L)) w')(h:(lhs (go P w n B p L r' i' F) N L,aME P w n L (go P w n B p L r' i' F))=(rhs (go P w n B p L r' i' F) N B r' i',some (d,.ok (.value (.map (some w.heap.size)),w.alloc (.map #[] 0)))):=by kernel_rfl):AtO P B R ds n p L w :=
 opx r' i' d N hF (k _ _ (hM.add ((Fr.refl _ _).alloc _) _ (aDS.made w) λk e=>by have:k=w.heap.size:=e;omega)) h
def aJ9 (cs:Array Value)(k:Nat):List Value->Array Value
 | []=>cs
 | v::l=>aJ9 (cs.setIfInBounds k v) (k+1) l
theorem aEe {l:List Value}:∀{cs:Array Value}{k:Nat},(aJ9 cs k l).size=cs.size:=by
 induction l with
 | nil=>intro cs k;rfl
 | cons v l ih=>intro cs k;unfold aJ9;rw[ih];simp
theorem aA8 {P:Program}{b:Nat}{T0:TypeId}:∀(l:List Value){cs:Array Value}{k i:Nat}{w:World},w.heap[b]?=some (.cells cs T0 (0,0))->k+i+l.length<=cs.size->l.all (·.oneCell')=true ->
  ∃w',(storeCells ⟨b,k,none⟩ l i).run P w=.ok () w'/\w'.heap[b]?=some (.cells (aJ9 cs (k+i) l) T0 (0,0))/\Fr (λr=>r=b) w w'
 | [],cs,k,i,w,h,_,_=>⟨w,by simp[storeCells],h,Fr.refl _ _⟩
 | v::l,cs,k,i,w,h,hk,ho=>by
  rw[Gf_] at hk;rw[List.all_cons,Ga_] at ho;have hc:w.cell? ⟨b,k+i,none⟩=some cs[k+i]:=by rw[aAj h];exact Array.getElem?_eq_getElem oM
  have hz:=aAm h (k+i);obtain⟨w',h1,h2,h3⟩:=aA8 (P:=P) l (k:=k) (i:=i+1) (aAk (off:=k+i) h v) (by simp;omega) ho.2;refine⟨w',?_,by unfold aJ9;exact h2,((Fr.refl (λr=>r=b) w).setCell (p:=⟨b,k+i,none⟩) (λ_=>rfl) v).trans h3⟩
  have ha:(⟨b,k,none⟩:Addr).add i=⟨b,k+i,none⟩:=by
   unfold Addr.add;split
   ·rename_i h;subst h;rfl
   ·rfl
  unfold storeCells;rw[ha];simp[go_sem,run_store P w _ v _ ho.1,hc,hz,h1]
theorem stm (r' i':Nat)(N:Frm)(T:TypeId)(j k:Nat){b:Nat}(v:Value)(hF:aBg P w F)(hM:Mm F0 w0 w M)(hj:M[j]?=some (bk b cs T0))(kk:∀w',Mm F0 w0 w' (M.set j (bk b (aJ9 cs k v.cells.toList) T0))->AtO P B R ds n (some (r',i'+1)) (N++L) w')(hT:(Nat.ble (k+v.cells.size) cs.size,v.cells.toList.all (·.oneCell'),(P.info? T).map (·.size))=(true,true,some v.cells.size):=by kernel_rfl)(h:(lhs (go P w n B p L r' i' F) N L,aPC (go P w n B p L r' i' F) n L (λx y =>.store T x y))=(rhs (go P w n B p L r' i' F) N B r' i',aPB (go P w n B p L r' i' F) n L (λx y =>.store T x y) none false (vP b k) v):=by kernel_rfl):AtO P B R ds n p L w:=by
 obtain⟨h1,h2⟩:=Prod.mk.inj hT;obtain⟨h3,h2⟩:=Prod.mk.inj h2;have h1:=Nat.le_of_ble_eq_true h1;obtain⟨w',g1,g2,g3⟩:=aA8 (P:=P) v.cells.toList (k:=k) (i:=0) (hM.get j hj) (by simpa using h1) h3;refine sto (w':=w') r' i' N hF (λo ρ x y ho hx hy=>?_) (kk w' (hM.put j hj g3 (λk _ e=>e) g2 λk e =>.inl e)) h;obtain⟨i,hi,hs⟩:=Option.map_eq_some_iff.1 h2;have hs:i.size=v.cells.size:=hs;simp only[execOp,ho,hx,hy,Instr.storeAt,Instr.sureAddr,storeVar,sizeOf,typeInfo];generalize v.cells=c at *;simp[go_sem,hi,hs,g1]
end
variable{off:Nat}
section
variable{P:Program}
def scT (P:Program)(T:TypeId):Bool:=match P.underlying T with|some (.struct _)=>false|some (.array _ _)=>false|some _=>true|none=>false
def agT (P:Program)(T:TypeId)(k:Nat):Bool:=match P.underlying T with|some (.struct _)=>(P.info? T).map (·.size)==some k|some (.array _ _)=>(P.info? T).map (·.size)==some k|_=>false
theorem aFF {T:TypeId}{g:Nat}(hT:scT P T=true)(h:w.cell? ⟨g,off,none⟩=some v):(Instr.loadAt T (vP g off)).run P w=.ok v w:=by
 unfold scT at hT
 cases hu:P.underlying T with
 | none=>rw[hu] at hT;cases hT
 | some d =>
  rw[hu] at hT;cases d<;>first|(cases hT;done)|simp[Instr.loadAt,Instr.sureAddr,loadVar,isAgg,run_underlying hu,go_sem,h]
theorem aFE {T:TypeId}{g:Nat}{l:List Value}(hT:agT P T l.length=true)(h:w.rangeAt g off l):(Instr.loadAt T (vP g off)).run P w=.ok (.agg l.toArray) w:=by
 unfold agT at hT
 cases hu:P.underlying T with
 | none=>rw[hu] at hT;cases hT
 | some d =>
  rw[hu] at hT;cases d<;>first|(cases hT;done)|exact run_loadAt_mid w g off T l _ h hu rfl (by simpa using hT)
theorem aNU {T:TypeId}(h:(Instr.loadAt T u).run P w=.ok v w):Ft.ok P w (.g1 (.load T) u v):=λo ρ x ho hx=>by
 simp only[execOp,ho,hx,Sem.run_bind,h,Result.andThen_ok,Sem.run_pure]
theorem ld (T:TypeId){g:Nat}(h:w.cell? ⟨g,off,none⟩=some v)(hT:scT P T=true:=by kernel_rfl):Ft.ok P w (.g1 (.load T) (vP g off) v):=aNU (aFF hT h)
theorem la (T:TypeId){g:Nat}{l:List Value}(h:w.rangeAt g off l)(hT:agT P T l.length=true:=by kernel_rfl):Ft.ok P w (.g1 (.load T) (vP g off) (vA l)):=aNU (aFE hT h)
theorem ld0 (T:TypeId){g:Nat}(hM:Mm F0 w0 w M)(h:w0.cell? ⟨g,off,none⟩=some v)(hn:¬F0 g:=by exact λh=>h)(hT:scT P T=true:=by kernel_rfl):Ft.ok P w (.g1 (.load T) (vP g off) v):=ld T (hM.fr.cell h hn) hT
theorem Fr.row {g:Nat}{l:List Value}(f:Fr F0 w w')(h:w.rangeAt g off l)(hn:¬F0 g):w'.rangeAt g off l:=λj u hu=>f.cell (h j u hu) hn
theorem la0 (T:TypeId){g:Nat}{l:List Value}(hM:Mm F0 w0 w M)(h:w0.rangeAt g off l)(hn:¬F0 g:=by exact λh=>h)(hT:agT P T l.length=true:=by kernel_rfl):Ft.ok P w (.g1 (.load T) (vP g off) (vA l)):=la T (hM.fr.row h hn) hT
theorem ldm (T:TypeId)(j k:Nat){b:Nat}(hM:Mm F0 w0 w M)(hj:M[j]?=some (bk b cs T0))(hv:cs[k]?=some v)(hT:scT P T=true:=by kernel_rfl):Ft.ok P w (.g1 (.load T) (vP b k) v):=ld T (bx (hM.get j hj) k hv) hT
theorem lam (T:TypeId)(j k n:Nat){b:Nat}(hM:Mm F0 w0 w M)(hj:M[j]?=some (bk b cs T0))(hT:agT P T ((cs.toList.drop k).take n).length=true:=by kernel_rfl):Ft.ok P w (.g1 (.load T) (vP b k) (vA ((cs.toList.drop k).take n))) :=
 la T (λi u hu=>by
  rw[aAj (hM.get j hj)];have hi:=(List.getElem?_eq_some_iff.1 hu).1;rw[Gq_] at hi;rw[List.getElem?_take_of_lt oM,List.getElem?_drop,Array.getElem?_toList] at hu;exact hu) hT
def szE (P:Program)(T:TypeId):Nat:=match P.underlying T with|some (.slice e)=>((P.info? e).map (·.size)).getD 0|some (.array _ e)=>((P.info? e).map (·.size)).getD 0|_=>0
def aYC (P:Program)(T:TypeId):Bool:=match P.underlying T with|some (.slice e)=>(P.info? e).isSome|_=>false
theorem ix (T:TypeId)(cap:Nat){p:Option Addr}{g n:Nat}(hp:p=some ⟨g,off,none⟩)(hi:i<n){z:Int}(hz:z=(i:Int):=by rfl)(hT:aYC P T=true:=by kernel_rfl):Ft.ok P w (.g2 (.indexAddr T) (vL p n cap) (vI z) (vP g (off+i*szE P T))):=λo ρ x y ho hx hy=>by
 subst hp hz;unfold aYC at hT;unfold szE
 cases hu:P.underlying T with
 | none=>rw[hu] at hT;cases hT
 | some d =>
  rw[hu] at hT
  cases d with
  | slice e =>
   obtain⟨q,hq⟩:=Option.isSome_iff_exists.1 hT;simp[execOp,ho,hx,hy,Instr.indexAt,run_underlying hu,go_sem,hi,sizeOf,typeInfo,hq]
  | _=>cases hT
end
theorem aCh {p:Nat->Prop}(h:∀m,(∀k,k<m->p k)->p m)(m:Nat):p m:=Nat.strongRecOn m h
theorem dt {p:Prop}[Decidable p](h:decide p=true):p:=of_decide_eq_true h
theorem df {p:Prop}[Decidable p](h:decide p=false):¬p:=of_decide_eq_false h
theorem et [BEq α][LawfulBEq α]{a b:α}(h:(a==b)=true):a=b:=eq_of_beq h
theorem ef [BEq α][LawfulBEq α]{a b:α}(h:(a==b)=false):a≠b:=λe=>by rw[e,beq_self_eq_true] at h;cases h
theorem gl {l:List α}{x:α}(h:l[i]?=some x):i<l.length:=(List.getElem?_eq_some_iff.1 h).1
theorem geb {l:List α}(h:i<l.length):∃x,l[i]?=some x:=⟨_,Gb_ h⟩
theorem gd {l:List α}{x:α}(h:l[i]?=some x):l.drop i=x::l.drop (i+1):=by
 obtain⟨h1,h2⟩:=List.getElem?_eq_some_iff.1 h;rw[List.drop_eq_getElem_cons h1,h2]
theorem gm {l:List α}{x:α}(h:l[i]?=some x):x∈l:=Ge_ h
theorem gt_ {l:List α}{x:α}(h:l[i]?=some x):l.take (i+1)=l.take i++[x]:=by
 obtain⟨h1,h2⟩:=List.getElem?_eq_some_iff.1 h;rw[List.take_add_one,h];rfl
abbrev Bys:=List UInt8
def ofL (l:Bys):ByteArray:=⟨l.toArray⟩
theorem aJE {a b:Bys}:ofL a=ofL b↔a=b:=by
 unfold ofL;constructor
 ·intro h;have:=congrArg (λx:ByteArray=>x.data.toList) h;simpa using this
 ·rintro rfl;rfl
theorem aAF (a:Bys):(ofL a).toList=a:=by rw[ByteArray.toList_eq];unfold ofL;simp
theorem ofL_of (s:ByteArray):ofL s.toList=s:=by
 rw[ByteArray.toList_eq];unfold ofL;simp
theorem aCU (a:Bys):(ofL a).size=a.length:=by unfold ofL;simp[ByteArray.size]
theorem aEI (s:ByteArray):∃l,s=ofL l:=⟨_,(ofL_of s).symm⟩
theorem aSc (a b:Bys):(decide (ofL a=ofL b))=(a==b):=by
 rw[Bool.eq_iff_iff,beq_iff_eq,decide_eq_true_eq,aJE]
abbrev vS (s:Bys):Value := .string (ofL s)
def blt (a b:Bys):Bool:=Op.bytesLess a b
theorem aLx:∀(x y:List UInt8),(Op.bytesLess x y||x==y)=!Op.bytesLess y x
 | [],[]=>by simp[Op.bytesLess]
 | _::_,[]=>by simp[Op.bytesLess]
 | [],_::_=>by simp[Op.bytesLess]
 | a::x,b::y=>by
  have ih:=aLx x y;simp only[Op.bytesLess]
  rcases(by
   rcases Nat.lt_trichotomy a.toNat b.toNat with h|h|h
   ·exact .inl (UInt8.lt_iff_toNat_lt.2 h)
   ·exact .inr (.inl (UInt8.toNat.inj h))
   ·exact .inr (.inr (UInt8.lt_iff_toNat_lt.2 h)):a<b\/a=b\/b<a) with h|h|h
  ·have h1:¬b<a:=λk=>UInt8.lt_irrefl _ (UInt8.lt_trans h k);have h2:(b==a)=false:=by rw[Gt_];rintro rfl;exact UInt8.lt_irrefl _ h
   simp[h,h1,h2]
  ·subst h;have h1:¬a<a:=UInt8.lt_irrefl a;simp only[h1,decide_false,Bool.false_or,beq_self_eq_true,Bool.true_and];rw[<-ih];simp
  ·have h1:¬a<b:=λk=>UInt8.lt_irrefl _ (UInt8.lt_trans h k);have h2:(a==b)=false:=by rw[Gt_];rintro rfl;exact UInt8.lt_irrefl _ h
   simp[h,h1,h2]
section
variable{f:α->List Value}{c:Nat}
def Src (f:α->List Value)(c:Nat)(w:World)(v:Value)(L:List α):Prop:=∃p cap,v=.slice p L.length cap/\L.length<=cap/\cap<=9223372036854775807/\aBh f c w w.heap.size p L/\(p=none->cap=0)
theorem Src.fr {L:List α}(h:Src f c w v L)(k:Fr nF_ w w'):Src f c w' v L:=by
 obtain⟨p,cap,h1,h2,h3,h4,h5⟩:=h;exact⟨p,cap,h1,h2,h3,(h4.fr k λ_ _ h=>h).mono k.size,h5⟩
structure SrcP (f:α->List Value)(c:Nat)(w:World)(p:Option Addr)(cap:Nat)(L:List α):Prop where
 le:L.length<=cap
 ca:cap<=9223372036854775807
 at_:aBh f c w w.heap.size p L
 nil:p=none->cap=0
theorem Src.op {L:List α}(h:Src f c w v L):∃p cap,v=vL p L.length cap/\SrcP f c w p cap L:=by
 obtain⟨p,cap,h1,h2,h3,h4,h5⟩:=h;exact⟨p,cap,h1,h2,h3,h4,h5⟩
theorem SrcP.src {p:Option Addr}{cap:Nat}{L:List α}(h:SrcP f c w p cap L):Src f c w (vL p L.length cap) L:=⟨p,cap,rfl,h.le,h.ca,h.at_,h.nil⟩
theorem SrcP.fr {p:Option Addr}{cap:Nat}{L:List α}(h:SrcP f c w p cap L)(k:Fr nF_ w w'):SrcP f c w' p cap L:=⟨h.le,h.ca,(h.at_.fr k λ_ _ h=>h).mono k.size,h.nil⟩
theorem Src.p {p:Option Addr}{n cap:Nat}{L:List α}(h:Src f c w (vL p n cap) L):n=L.length/\SrcP f c w p cap L:=by
 obtain⟨p',cap',h1,h2⟩:=h.op;cases h1;exact⟨rfl,h2⟩
theorem SrcP.bnd {p:Option Addr}{cap:Nat}{L:List α}(h:SrcP f c w p cap L):L.length<=9223372036854775807:=Gn_ h.le h.ca
theorem SrcP.el {p:Option Addr}{cap:Nat}{L:List α}(h:SrcP f c w p cap L)(hi:i<L.length):∃y,L[i]?=some y/\∃g off,p=some ⟨g,off,none⟩/\w.rangeAt g (off+i*c) (f y):=by
 obtain⟨g,off,h1,_,h2⟩:=h.at_.at hi;exact⟨_,Gb_ hi,g,off,h1,h2 i _ (Gb_ hi)⟩
structure SrcB (f:α->List Value)(c:Nat)(w:World)(B:Nat)(p:Option Addr)(cap:Nat)(L:List α):Prop where
 le:L.length<=cap
 ca:cap<=9223372036854775807
 at_:aBh f c w B p L
 nil:p=none->cap=0
theorem SrcP.b {p:Option Addr}{cap:Nat}{L:List α}(h:SrcP f c w p cap L)(k:Fr nF_ w w'):SrcB f c w' w.heap.size p cap L:=⟨h.le,h.ca,h.at_.fr k λ_ _ h=>h,h.nil⟩
theorem SrcB.bnd {B:Nat}{p:Option Addr}{cap:Nat}{L:List α}(h:SrcB f c w B p cap L):L.length<=9223372036854775807:=Gn_ h.le h.ca
theorem SrcB.eb {B:Nat}{p:Option Addr}{cap:Nat}{L:List α}(h:SrcB f c w B p cap L)(hG:∀k,G k->B<=k)(hi:i<L.length):∃y,L[i]?=some y/\∃g off,p=some ⟨g,off,none⟩/\w.rangeAt g (off+i*c) (f y)/\¬G g:=by
 obtain⟨g,off,h1,h3,h2⟩:=h.at_.at hi;exact⟨_,Gb_ hi,g,off,h1,h2 i _ (Gb_ hi),λk=>by have:=hG g k;omega⟩
theorem rs {g:Nat}{l:List Value}(h:w.rangeAt g off l)(k n:Nat):w.rangeAt g (off+k) ((l.drop k).take n):=by
 intro j u hu
 have hj:j<n:=by
  have:=(List.getElem?_eq_some_iff.1 hu).1;rw[Gq_] at this;omega
 rw[List.getElem?_take_of_lt hj,List.getElem?_drop] at hu;rw[Nat.add_assoc];exact h _ _ hu
end
section
variable{P:Program}{T:TypeId}
theorem rz {f:Operand->Operand->Op}{b c:Bool}(h:Ft.ok P w (.g2 f v u (.bool b)))(e:b=c):Ft.ok P w (.g2 f v u (.bool c)):=by subst e;exact h
theorem seq (T:TypeId)(a b:Bys):Ft.ok P w (.g2 (λx y =>.binOp .eql T x y T) (vS a) (vS b) (vB (a==b))):=λ_ _ _ _ ho hx hy=>by
 rw[<-aSc];exact aQl hx hy ho
theorem sne (T:TypeId)(a b:Bys):Ft.ok P w (.g2 (λx y =>.binOp .neq T x y T) (vS a) (vS b) (vB (!(a==b)))):=λ_ _ _ _ ho hx hy=>by
 rw[<-aSc];exact aQi hx hy ho
theorem aQk {s u:ByteArray}{x y:Operand}(hx:ρ x=.string s)(hy:ρ y=.string u)(ho:o.op=.binOp .leq t x y t):(execOp ρ o).run P w=.ok (.value (.bool (!Op.bytesLess u.toList s.toList))) w:=by
 simp[execOp,ho,hx,hy,go_sem];exact aLx _ _
theorem sle (T:TypeId)(a b:Bys):Ft.ok P w (.g2 (λx y =>.binOp .leq T x y T) (vS a) (vS b) (vB (!(blt b a)))):=λo ρ x y ho hx hy=>by
 have:=aQk (P:=P) (w:=w) (o:=o) (ρ:=ρ) (t:=T) hx hy ho;rw[aAF,aAF] at this;exact this
theorem aHS (T:TypeId)(s:Bys)(hT:P.underlying T=some .string:=by kernel_rfl):Ft.ok P w (.g1 (λx =>.call ⟨.builtin .len,#[x],#[T]⟩) (vS s) (vI s.length)):=λo ρ x ho hx=>by
 have:=aCU s;simp[execOp,ho,hx,resolve,invoke,go_sem,this,hT]
theorem aQr (hT:P.underlying T=some .string){s:Bys}{b:UInt8}{x y:Operand}(ho:o.op=.index T x y)(hx:ρ x=.string (ofL s))(hy:ρ y=.int .i64 i)(hb:s[i]?=some b):(execOp ρ o).run P w=.ok (.value (.int .u8 b.toNat)) w:=by
 have hi:i<s.length:=(List.getElem?_eq_some_iff.1 hb).1;have h1:(i:Int)<s.length:=by omega
 have h2:=aCU s
 have h3:(ofL s)[i]'(by rw[h2];exact hi)=b:=by
  have:=(List.getElem?_eq_some_iff.1 hb).2;unfold ofL;simpa[ByteArray.getElem_eq_getElem_data] using this
 simp[execOp,ho,hx,hy,go_sem,h1,h2,hi,h3,hT]
theorem byt (T:TypeId){s:Bys}{b:UInt8}(h:s[i]?=some b){z:Int}(hz:z=(i:Int):=by rfl)(hT:P.underlying T=some .string:=by kernel_rfl):Ft.ok P w (.g2 (.index T) (vS s) (vI z) (.int .u8 (b.toNat:Int))):=λ_ _ _ _ ho hx hy=>aQr hT ho hx (by rw[hy,hz]) h
theorem aXo (m n:Int)(ht:P.underlying T=some (.int .i64))(hm:0<=m/\m<=9223372036854775807:=by omega)(hn:0<n/\n<=9223372036854775807:=by omega):Ft.ok P w (.g2 (λx y =>.binOp .rem T x y T) (vI m) (vI n) (vI (m%n))):=λo ρ x y ho hx hy=>by
 have h1:=Int.emod_nonneg m (show n≠0 by omega);have h2:=Int.emod_lt_of_pos m hn.1;have h3:¬n=0:=by omega
 have h4:=IntWalk.i64_in (m%n) ⟨by omega,by omega⟩;have h5:m.tmod n=m%n:=Int.tmod_eq_emod_of_nonneg hm.1;simp[execOp,ho,hx,hy,go_sem,h3,h5,h4,run_underlying ht]
theorem aSW (m n:Int)(ht:P.underlying T=some (.int .i64)):Ft.ok P w (.g2 (λx y =>.binOp .add T x y T) (vI m) (vI n) (vI (IntKind.i64.wrap (m+n)))):=λo ρ x y ho hx hy=>by
 simp[execOp,ho,hx,hy,go_sem,run_underlying ht]
theorem aOj (a b:Int):(if a<b then b else a)=max a b:=by omega
theorem aSk (a b:Int):(if b<a then b else a)=min a b:=by omega
theorem aSS (T:TypeId)(m n:Int):Ft.ok P w (.g2 (λx y =>.call ⟨.builtin .min,#[x,y],#[T,T]⟩) (vI m) (vI n) (vI (min m n))):=λo ρ x y ho hx hy=>by
 simp[execOp,ho,hx,hy,resolve,invoke,go_sem,<-aSk]
theorem aVj (T:TypeId)(m n:Int):Ft.ok P w (.g2 (λx y =>.call ⟨.builtin .max,#[x,y],#[T,T]⟩) (vI m) (vI n) (vI (max m n))):=λo ρ x y ho hx hy=>by
 simp[execOp,ho,hx,hy,resolve,invoke,go_sem,<-aOj]
end
theorem aHu:∀(l:List Value)(pre:List Value)(cs:Array Value),cs.size=pre.length+l.length->cs.toList.take pre.length=pre->aJ9 cs pre.length l=(pre++l).toArray
 | [],pre,cs,hs,hp=>by
  simp only[Gm_,Nat.add_zero] at hs;have:cs.toList=pre:=by rw[<-hp,Gc_ (by simp[hs])]
  simp[aJ9,<-this]
 | v::l,pre,cs,hs,hp=>by
  unfold aJ9;rw[Gf_] at hs
  have:=aHu l (pre++[v]) (cs.setIfInBounds pre.length v) (by simp;omega) (by
   have h1:pre.length<cs.toList.length:=by simp;omega
   simp only[Array.toList_setIfInBounds,Gi_,List.length_singleton];rw[List.take_set,List.take_add_one,hp,Gb_ h1];simp)
  simpa using this
def zT (P:Program)(T:TypeId):Array Value:=match P.info? T with
 | some i=>(match i.zero with|some v=>v.cells|none=>#[])
 | none=>#[]
section
variable{P:Program}{n:Nat}{p:Option (Nat×Nat)}{L:Frm}
theorem aBW (r' i' d:Nat)(N N2:Frm)(T:TypeId)(v:Value)(hF:aBg P w F)(hM:Mm F0 w0 w M)(k:∀b w',Mm F0 w0 w' (M++[bk b v.cells T])->AtO P B R ds n (some (r',i'+2)) (N2++(d,vP b 0)::(N++L)) w')
  (hT:((zT P T).size,v.cells.toList.all (·.oneCell'),(P.info? T).map (·.size))=(v.cells.size,true,some v.cells.size):=by kernel_rfl)
  (h:(lhs (go P w n B p L r' i' F) N L,aME P w n L (go P w n B p L r' i' F))=(rhs (go P w n B p L r' i' F) N B r' i',some (d,.ok (.value (vP w.heap.size 0),w.alloc (.cells (zT P T) T)))):=by kernel_rfl)
  (h2:∀b w',(lhs (go P w' n B (some (r',i'+1)) ((d,vP b 0)::(N++L)) r' (i'+1) []) N2 ((d,vP b 0)::(N++L)),aPC (go P w' n B (some (r',i'+1)) ((d,vP b 0)::(N++L)) r' (i'+1) []) n ((d,vP b 0)::(N++L)) (λx y =>.store T x y))=(rhs (go P w' n B (some (r',i'+1)) ((d,vP b 0)::(N++L)) r' (i'+1) []) N2 B r' (i'+1),aPB (go P w' n B (some (r',i'+1)) ((d,vP b 0)::(N++L)) r' (i'+1) []) n ((d,vP b 0)::(N++L)) (λx y =>.store T x y) none false (vP b 0) v):=by intro b w';kernel_rfl):AtO P B R ds n p L w:=by
 obtain⟨h1,h3⟩:=Prod.mk.inj hT;have h3:=Prod.mk.inj h3;refine aAu r' i' d N (v:=λb=>vP b 0) hF hM (λb w1 hM1=>?_) h;refine stm r' (i'+1) N2 T M.length 0 v f0 hM1 (b:=b) (cs:=zT P T) (T0:=T) sI (λw2 hM2=>?_) ?_ (h2 b w1)
 ·have hs:aJ9 (zT P T) 0 v.cells.toList=v.cells:=by
   have:=aHu v.cells.toList [] (zT P T) (by simp[h1]) sI;simpa using this
  rw[hs] at hM2;have:(M++[bk b (zT P T) T]).set M.length (bk b v.cells T)=M++[bk b v.cells T]:=by simp
  rw[this] at hM2;exact k b w2 hM2
 ·rw[h3.1,h3.2,h1];simp
end
section
variable{P:Program}
end
def TbA (n:Nat)(cs:Array Value)(t:Nat->Value):Prop:=cs.size=n/\∀i,i<n->cs[i]?=some (t i)
variable{t:Nat->Value}{k:Nat}
theorem TbA.set {n:Nat}(h:TbA n cs t)(hk:k<n)(v:Value):TbA n (cs.setIfInBounds k v) (λi=>if i=k then v else t i):=by
 refine⟨by simp[h.1],λi hi=>?_⟩;rw[Array.getElem?_setIfInBounds]
 by_cases e:k=i
 ·subst e;simp[h.1,hk]
 ·rw[if_neg e,h.2 i hi];simp only[if_neg (Ne.symm e)]
theorem TbA.ext {n:Nat}{t':Nat->Value}(h:TbA n cs t)(e:∀i,i<n->t i=t' i):TbA n cs t':=⟨h.1,λi hi=>by rw[h.2 i hi,e i hi]⟩
theorem TbA.one {n:Nat}(h:TbA n cs t)(ht:∀i,(t i).oneCell'=true):cs.all (·.oneCell')=true:=by
 rw[Array.all_eq_true];intro i hi;have:=h.2 i (by rw[<-h.1];exact hi);rw[Array.getElem?_eq_getElem hi] at this;rw[Gh_ this];exact ht i
section
variable{P:Program}
def aYD (P:Program)(T:TypeId)(n:Nat):Bool:=match P.underlying T with|some (.array m e)=>m==n&&(P.info? e).isSome&&Nat.blt 1 n|_=>false
theorem aMk (T:TypeId)(n:Nat)(kd:IntKind)(g off i:Nat)(hi:i<n){z:Int}(hz:z=(i:Int):=by rfl)(hT:aYD P T n=true:=by kernel_rfl):Ft.ok P w (.g2 (.indexAddr T) (vP g off) (.int kd z) (vP g (off+i*szE P T))):=λo ρ x y ho hx hy=>by
 subst hz;unfold aYD at hT;unfold szE
 cases hu:P.underlying T with
 | none=>rw[hu] at hT;cases hT
 | some d =>
  rw[hu] at hT
  cases d with
  | array m e =>
   simp only[Ga_,beq_iff_eq] at hT;obtain⟨⟨rfl,h2⟩,h3⟩:=hT;obtain⟨q,hq⟩:=Option.isSome_iff_exists.1 h2;have h4:¬m<=1:=by rw[Nat.blt_eq] at h3;omega
   simp[execOp,ho,hx,hy,Instr.indexAt,run_underlying hu,go_sem,hi,sizeOf,typeInfo,hq,h4]
  | _=>cases hT
theorem ldt (T:TypeId)(j:Nat){b:Nat}(hM:Mm F0 w0 w M)(hj:M[j]?=some (bk b cs T0))(hv:cs[i]?=some v)(hT:scT P T=true:=by kernel_rfl):Ft.ok P w (.g1 (.load T) (vP b (0+i*1)) v):=by
 have:=ld (P:=P) T (bx (hM.get j hj) i hv) hT;rw[show 0+i*1=i by omega];exact this
theorem lac (T:TypeId)(j:Nat){b n:Nat}(hM:Mm F0 w0 w M)(hj:M[j]?=some (bk b cs T0))(hs:cs.size=n)(hT:agT P T n=true:=by kernel_rfl):Ft.ok P w (.g1 (.load T) (vP b 0) (.agg cs)):=by
 have:=la (P:=P) (w:=w) T (g:=b) (off:=0) (l:=cs.toList) (λi u hu=>by
  rw[aAj (hM.get j hj),Nat.zero_add,<-Array.getElem?_toList];exact hu) (by rw[Array.length_toList,hs];exact hT)
 simpa using this
theorem aBi (T:TypeId)(j:Nat){b n:Nat}(hM:Mm F0 w0 w M)(hj:M[j]?=some (bk b cs T0))(hs:cs.size=n)(hT:agT P T n=true:=by kernel_rfl):(Instr.loadAt T (vP b 0)).run P w=.ok (.agg cs) w:=by
 have:=aFE (P:=P) (w:=w) (T:=T) (g:=b) (off:=0) (l:=cs.toList) (by rw[Array.length_toList,hs];exact hT) (λi u hu=>by
  rw[aAj (hM.get j hj),Nat.zero_add,<-Array.getElem?_toList];exact hu)
 simpa using this
theorem ixv (T:TypeId)(n:Nat){kd:IntKind}(h:cs[i]?=some v)(hs:cs.size=n)(hT:(match P.underlying T with|some (.array m e)=>m==n&&scT P e&&((P.info? e).map (·.size)==some 1)&&Nat.blt 1 n|_=>false)=true:=by kernel_rfl){z:Int}(hz:z=(i:Int):=by rfl):Ft.ok P w (.g2 (.index T) (.agg cs) (.int kd z) v):=λo ρ x y ho hx hy=>by
 subst hz;have hi:=(Array.getElem?_eq_some_iff.1 h).1
 cases hu:P.underlying T with
 | none=>rw[hu] at hT;cases hT
 | some d =>
  rw[hu] at hT
  cases d with
  | array m e =>
   simp only[Ga_,beq_iff_eq] at hT;obtain⟨⟨⟨rfl,h2⟩,h3⟩,h4⟩:=hT;have h5:¬m<=1:=by rw[Nat.blt_eq] at h4;omega
   have hi':i<m:=by omega
   obtain⟨q,hq,hq1⟩:=Option.map_eq_some_iff.1 h3;have hq1:q.size=1:=hq1;unfold scT at h2
   cases he:P.underlying e with
   | none=>rw[he] at h2;cases h2
   | some d2 =>
    rw[he] at h2;have hv:cs[i]=v:=(Array.getElem?_eq_some_iff.1 h).2;cases d2<;>first|(cases h2;done)|simp[execOp,ho,hx,hy,Instr.index,run_underlying hu,run_underlying he,go_sem,hi',sizeOf,typeInfo,hq,hq1,h5,isAgg,part,h,hv]
  | _=>cases hT
end
section
variable{P:Program}{n:Nat}{p:Option (Nat×Nat)}{L:Frm}
theorem aPT (r' i':Nat)(N:Frm)(T:TypeId)(j i:Nat){b:Nat}(v:Value)(hF:aBg P w F)(hM:Mm F0 w0 w M)(hj:M[j]?=some (bk b cs T0))(hi:i<cs.size)(kk:∀w',Mm F0 w0 w' (M.set j (bk b (cs.setIfInBounds i v) T0))->AtO P B R ds n (some (r',i'+1)) (N++L) w')(hT:(v.cells,v.oneCell',(P.info? T).map (·.size))=(#[v],true,some 1):=by kernel_rfl)(h:(lhs (go P w n B p L r' i' F) N L,aPC (go P w n B p L r' i' F) n L (λx y =>.store T x y))=(rhs (go P w n B p L r' i' F) N B r' i',aPB (go P w n B p L r' i' F) n L (λx y =>.store T x y) none false (vP b (0+i*1)) v):=by kernel_rfl):AtO P B R ds n p L w:=by
 obtain⟨h1,h2⟩:=Prod.mk.inj hT;obtain⟨h3,h2⟩:=Prod.mk.inj h2;have hcs:(#[v]:Array Value).size=1:=rfl;obtain⟨w',g1,g2,g3⟩:=aA8 (P:=P) [v] (k:=i) (i:=0) (hM.get j hj) (by simp;omega) (by simp[h3]);refine sto (w':=w') r' i' N hF (λo ρ x y ho hx hy=>?_) (kk w' (hM.put j hj g3 (λk _ e=>e) g2 λk e =>.inl e)) h;obtain⟨q,hi,hs⟩:=Option.map_eq_some_iff.1 h2;have hs:q.size=1:=hs;simp only[execOp,ho,hx,hy,Instr.storeAt,Instr.sureAddr,storeVar,sizeOf,typeInfo];rw[h1];rw[show 0+i*1=i by omega];have g1:(storeCells ⟨b,i,none⟩ (#[v]:Array Value).toList).run P w=.ok () w':=g1;generalize (#[v]:Array Value)=c at *;have hc:c.size=1:=hcs;simp[go_sem,hi,hs,g1,hc]
theorem aY6 (r' i':Nat)(N:Frm)(T:TypeId)(j:Nat){b m:Nat}{cs':Array Value}(hF:aBg P w F)(hM:Mm F0 w0 w M)(hj:M[j]?=some (bk b cs T0))(h1:cs.size=m)(h2:cs'.size=m)(h3:cs'.all (·.oneCell')=true)(kk:∀w',Mm F0 w0 w' (M.set j (bk b cs' T0))->AtO P B R ds n (some (r',i'+1)) (N++L) w')(hT:(P.info? T).map (·.size)=some m:=by kernel_rfl)(h:(lhs (go P w n B p L r' i' F) N L,aPC (go P w n B p L r' i' F) n L (λx y =>.store T x y))=(rhs (go P w n B p L r' i' F) N B r' i',aPB (go P w n B p L r' i' F) n L (λx y =>.store T x y) none false (vP b 0) (.agg cs')):=by kernel_rfl):AtO P B R ds n p L w:=by
 obtain⟨w',g1,g2,g3⟩:=aA8 (P:=P) cs'.toList (k:=0) (i:=0) (hM.get j hj) (by simp;omega) (by rw[List.all_eq_true];rw[Array.all_eq_true'] at h3;intro x hx;exact h3 x (by simpa using hx))
 have hp:aJ9 cs (0+0) cs'.toList=cs':=by
  have:=aHu cs'.toList [] cs (by simp;omega) sI;simpa using this
 rw[hp] at g2;refine sto (w':=w') r' i' N hF (λo ρ x y ho hx hy=>?_) (kk w' (hM.put j hj g3 (λk _ e=>e) g2 λk e =>.inl e)) h;obtain⟨q,hi,hs⟩:=Option.map_eq_some_iff.1 hT;have hs:q.size=m:=hs;simp only[execOp,ho,hx,hy,Instr.storeAt,Instr.sureAddr,storeVar,sizeOf,typeInfo];have e:(Value.agg cs').cells=cs':=rfl;rw[e];simp[go_sem,hi,hs,h2,g1]
end
section
variable{P:Program}{n:Nat}{p:Option (Nat×Nat)}{L:Frm}
theorem rtc (t:Nat)(T:TypeId){g:Nat}(hr:fn.results=#[.cell t T])(hv:(Instr.loadAt T (vP g 0)).run P w=.ok v w)(hF:aBg P w F)(k:Φ (.returned v) w)(h:aPG (go P w n B p L 1000000 0 F) [(t,vP g 0)] L=aMw (go P w n B p L 1000000 0 F) [(t,vP g 0)]:=by kernel_rfl):AtO P B (aAI (bodyPost P fn Φ)) [] n p L w :=
 aRp [(t,vP g 0)] hF h λa E=>by
  have hv':a.eval (.tmp t)=vP g 0:=E.at_ t _ (by simp[look])
  have key:∃u,(results fn a.tmps).run P w=.ok u w/\Φ (.returned u) w:=⟨v,by
   have hl:a.tmps.getD t undef=vP g 0:=hv';simp only[Instr.loadAt,Instr.sureAddr,Sem.run_bind,Sem.run_pure,Result.andThen_ok] at hv;have hl':a.tmps[t]?.getD undef=vP g 0:=by simpa using hl
   simp[results,hr,hl',asAddr,hv],k⟩
  exact⟨⟨E.df,key⟩,⟨E.df,key⟩⟩
end
variable{m:Value->Option Value}{caps:Array Value}
section
variable{P:Program}{n:Nat}{p:Option (Nat×Nat)}{L N:Frm}
abbrev aJe (P:Program)(f:FuncId):Prop:=∀args w,(callFunc f args).run P w=.ok (.enter f args) w
theorem aN1 {x y:Operand}{ts:Array TypeId}{f:FuncId}(eg:aJe P f)(ho:o.op=.call ⟨.value x,#[y],ts⟩)(hf:ρ x=.func (.func f) #[] caps)(hx:ρ y=v):(execOp ρ o).run P w=.ok (.enter f (#[v]++caps)) w:=by
 simp[execOp,ho,hf,hx,eg,resolve,Deferred.ofValue,invoke,go_sem]
theorem aUo (r' i' d:Nat)(N:Frm)(ts:Array TypeId){f:FuncId}(hd:d<n)(hF:aBg P w F)(eg:aJe P f)(hc:Calls P f (#[v]++caps) w λe w'=>∃u,e=.returned u/\K u w')(k:∀u w',K u w'->AtO P B R ds n (some (r',i'+1)) ((d,u)::(N++L)) w')
  (h:(lhs (go P w n B p L r' i' F) N L,aPC (go P w n B p L r' i' F) n L (λx y =>.call ⟨.value x,#[y],ts⟩))=(rhs (go P w n B p L r' i' F) N B r' i',aPB (go P w n B p L r' i' F) n L (λx y =>.call ⟨.value x,#[y],ts⟩) (some d) false (.func (.func f) #[] caps) v):=by kernel_rfl):AtO P B R ds n p L w :=
 aMU hF h λO kk o l a x y hf hd1 E hdd hg hw ho hx hy=>by
  refine aNj hw (aN1 eg ho hx hy) hc λu w' hK=>?_
  ·obtain⟨O1,dr,k1,hf1,hk⟩:=k u w' hK;rw[hf] at hf1;cases hf1;have:=hk _ (E.put (v:=u) hd);rw[hdd];have hdr:O.toList.drop (i'+1)=l:=by rw[<-List.tail_drop,hd1];rfl
   rw[<-hdr];exact this
def aPR (n:Nat)(LL:Frm)(f:Operand->Operand->Operand->Op):Md->Option (Option Nat×Bool×Option Bool×Op×Op×Option Value×Option Value×Option Value)
 | .ops _ O (o::_) _ _=>match o.op.operands[0]?,o.op.operands[1]?,o.op.operands[2]? with
  | some x,some y,some z=>some (o.dst,o.guard.isNone,aDd O LL n o,o.op,f x y z,opv LL x,opv LL y,opv LL z)
  | _,_,_=>none
 | _=>none
def aSU (x:Res)(n:Nat)(L:Frm)(f:Operand->Operand->Operand->Op):Option (Option Nat×Option Bool×Op×Option Value×Option Value×Option Value) :=
 match x with
 | some (m,nw,_,_)=>match aPR n (nw++L) f m with
  | some (d,g,wt,a,b,u,v,t)=>some (d,wt,a,u,v,t)
  | none=>none
 | none=>none
def aST (x:Res)(n:Nat)(L:Frm)(f:Operand->Operand->Operand->Op)(d:Option Nat)(v u t:Value):Option (Option Nat×Option Bool×Op×Option Value×Option Value×Option Value) :=
 match x with
 | some (m,nw,_,_)=>match aPR n (nw++L) f m with
  | some (_,g0,_,_,b,_,_,_)=>some (d,some true,b,some v,some u,some t)
  | none=>some (none,none,f (.tmp 0) (.tmp 0) (.tmp 0),none,none,none)
 | none=>some (none,none,f (.tmp 0) (.tmp 0) (.tmp 0),none,none,none)
theorem aK2 {f:Operand->Operand->Operand->Op}{t:Value}(hF:aBg P w F)
  (h:(lhs (go P w n B p L r' i' F) N L,aSU (go P w n B p L r' i' F) n L f)=(rhs (go P w n B p L r' i' F) N B r' i',aST (go P w n B p L r' i' F) n L f d v u t))
  (k:∀(O:Array Oper)(kk:List Kon)(o:Oper)(l:List Oper)(a:Act) x y z,aBe r' B []=some (O,false,kk)->O.toList.drop i'=o::l->EnvS ds n (N++L) a->o.dst=d->Region.wanted o (yielded O a.tmps)=true->o.op=f x y z->a.eval x=v->a.eval y=u->a.eval z=t->wpListIn (fen R.rd) 0 P O (post P R kk) (o::l) a w):AtO P B R ds n p L w:=by
 obtain⟨h1,h2⟩:=Prod.mk.inj h;obtain⟨m,nw,fs,es,hx,hE,⟨z,hl,ht⟩,hs⟩:=aGl h1;rw[hx] at h2;refine aJS hx hF hE λa E=>?_;unfold aSU aST at h2;simp only at h2
 cases hta:aPR n (nw++L) f m with
 | none=>rw[hta] at h2;cases h2
 | some q =>
  obtain⟨d1,g1,wt,oa,ob,u1,v1,t1⟩:=q;rw[hta] at h2;simp only[Gk_,Prod.mk.injEq] at h2;obtain⟨rfl,rfl,rfl,rfl,rfl,rfl⟩:=h2
  cases m with
  | ops r O l i k1 =>
   cases l with
   | nil=>cases hta
   | cons o l =>
    unfold aPR at hta;simp only at hta
    split at hta
    ·rename_i x y z hx0 hy0 hz0;simp only[Gk_,Prod.mk.injEq] at hta;obtain⟨q1,q2,q3,q4,q5,q6,q7,q8⟩:=hta;unfold aJm at ht
     cases hf:aBe r' B [] with
     | none=>rw[hf] at ht;cases ht
     | some z1 =>
      obtain⟨O1,dr,kk⟩:=z1;rw[hf] at ht
      cases dr with
      | true =>
       cases i' with
       | zero=>cases ht;cases hl
       | succ i'=>cases ht
      | false =>
       cases ht;have hl:(some (O,false,k1,o::l,0):Option (Array Oper×Bool×List Kon×List Oper×Nat))=some (O1,false,kk,O1.toList.drop i',0):=hl;simp only[Gk_,Prod.mk.injEq] at hl;obtain⟨rfl,_,rfl,hl,_⟩:=hl;exact k O k1 o l a x y z hf hl.symm (E.sub hs) q1 (aDk q3 E) (q4.trans q5.symm) (E.opv q6) (E.opv q7) (E.opv q8)
    ·cases hta
  | _=>cases hta
theorem Mm.g (h:Mm G w0 w [])(f:Fr G w w'):Mm G w0 w' []:=⟨h.fr.trans f,λ_ h=>(by cases h),λ_ h=>(by cases h),.nil⟩
def BlM (M:List Ent)(k:Nat):Prop:=∃e∈M,e.B k
theorem Mm.call {A M0 M1:List Ent}(h:Mm F0 w0 w (A++M0))(c:Mm G w w' M1)(hG:∀k,k<w.heap.size->G k->BlM M0 k):Mm F0 w0 w' (A++M1):=by
 have ha:∀x∈A,∀k,x.B k->¬BlM M0 k:=λx hx k hk ⟨e,he,hek⟩=>(List.pairwise_append.1 h.nd).2.2 x hx e he k hk hek;have hlt:∀x∈A,∀k,x.B k->k<w.heap.size:=λx hx k hk=>x.lt (h.at_ x (Gs_ _ hx)) hk;refine⟨h.fr.trans' c.fr λr hr hg=>?_,λx hx=>?_,λx hx k hk hl=>?_,?_⟩
 ·obtain⟨e,he,hek⟩:=hG r (Nat.lt_of_lt_of_le hr h.fr.size) hg;exact h.own e (List.mem_append_right _ he) r hek hr
 ·rcases List.mem_append.1 hx with hx|hx
  ·exact x.fr (h.at_ x (Gs_ _ hx)) c.fr λk hk hg=>ha x hx k hk (hG k (hlt x hx k hk) hg)
  ·exact c.at_ x hx
 ·rcases List.mem_append.1 hx with hx|hx
  ·exact h.own x (Gs_ _ hx) k hk hl
  ·have hk2:k<w.heap.size:=Nat.lt_of_lt_of_le hl h.fr.size;obtain⟨e,he,hek⟩:=hG k hk2 (c.own x hx k hk hk2);exact h.own e (List.mem_append_right _ he) k hek hl
 ·refine List.pairwise_append.2 ⟨(List.pairwise_append.1 h.nd).1,c.nd,λx hx y hy k hk hy'=>?_⟩;exact ha x hx k hk (hG k (hlt x hx k hk) (c.own y hy k hy' (hlt x hx k hk)))
theorem Mm.ge (h:Mm nF_ w0 w M)(he:e∈M)(hk:e.B k):w0.heap.size<=k:=by
 rcases Nat.lt_or_ge k w0.heap.size with hl|hl
 ·exact(h.own e he k hk hl).elim
 ·exact hl
theorem Mm.re (h:Mm F0 w0 w M)(hG:∀e∈M,∀k,e.B k->G k):Mm G w w M:=⟨Fr.refl _ _,h.at_,λe he k hk _=>hG e he k hk,h.nd⟩
theorem Mm.tr (h:Mm G w0 w M)(c:Mm G w w' M'):Mm G w0 w' M' :=
 ⟨h.fr.trans' c.fr (λ_ _=>id),c.at_,λe he k hk hl=>c.own e he k hk (Nat.lt_of_lt_of_le hl h.fr.size),c.nd⟩
theorem mup (r' i':Nat)(N:Frm)(T:TypeId)(j:Nat){K e:TypeId}{b c:Nat}(key v:Value)(hF:aBg P w F)(hM:Mm F0 w0 w M)(hj:M[j]?=some (mp P K b c m))(LK:Maps.Keyed P K)(ht:P.underlying T=some (.map K e))(hk:∃l,keyOf P K key=some l)(kk:∀w',Mm F0 w0 w' (M.set j (mp P K b (c+1) (upd m key v)))->AtO P B R ds n (some (r',i'+1)) (N++L) w')
  (h:(lhs (go P w n B p L r' i' F) N L,aSU (go P w n B p L r' i' F) n L (λx y z =>.mapUpdate T x y z))=(rhs (go P w n B p L r' i' F) N B r' i',aST (go P w n B p L r' i' F) n L (λx y z =>.mapUpdate T x y z) none (.map (some b)) key v):=by kernel_rfl):AtO P B R ds n p L w:=by
 obtain⟨l,hk⟩:=hk;have hm:aDS P K w b c m:=hM.get j hj;obtain⟨ob,hob⟩:=hm.store LK ht hk v;obtain⟨h1,h2⟩:=hob w rfl;have hM':=hM.put (w':=setBlk w b ob) j (e':=mp P K b (c+1) (upd m key v)) hj ((Fr.refl (λr=>r=b) w).setBlk (λ_=>rfl) ob) (λk _ e=>e) (h2.mono (by split<;>omega)) (λk e =>.inl e);refine aK2 hF h λO k1 o l a x y z hf hd1 E hd hw ho hx hy hz=>aJt hw (w':=setBlk w b ob) (by simp only[execOp,ho,hx,hy,hz,Sem.run_bind,h1,Result.andThen_ok,Sem.run_pure]) hd ?_;obtain⟨O1,dr,k2,hf1,hk⟩:=kk _ hM';rw[hf] at hf1;cases hf1;have:=hk _ E;have hdr:O.toList.drop (i'+1)=l:=by rw[<-List.tail_drop,hd1];rfl
 rw[<-hdr];exact this
end
section
variable{P:Program}
theorem lk (T:TypeId)(j:Nat){K e:TypeId}{b c:Nat}(key z:Value)(hM:Mm F0 w0 w M)(hj:M[j]?=some (mp P K b c m))(LK:Maps.Keyed P K)(ht:P.underlying T=some (.map K e))(hk:∃l,keyOf P K key=some l)(hz:(zeroValue e).run P w=.ok z w):Ft.ok P w (.g2 (λx y =>.lookup T x y false) (.map (some b)) key ((m key).getD z)):=λo ρ x y ho hx hy=>by
 obtain⟨l,hk⟩:=hk;have hm:aDS P K w b c m:=hM.get j hj;have:=hm.at.look LK ht hk hz;simp only[execOp,ho,hx,hy,Sem.run_bind,this,Result.andThen_ok,Sem.run_pure]
theorem lko (T:TypeId)(j:Nat){K e:TypeId}{b c:Nat}(key z:Value)(hM:Mm F0 w0 w M)(hj:M[j]?=some (mp P K b c m))(LK:Maps.Keyed P K)(ht:P.underlying T=some (.map K e))(hk:∃l,keyOf P K key=some l)(hz:(zeroValue e).run P w=.ok z w):Ft.ok P w (.g2 (λx y =>.lookup T x y true) (.map (some b)) key (.tuple #[(m key).getD z,.bool (m key).isSome])):=λo ρ x y ho hx hy=>by
 obtain⟨l,hk⟩:=hk;have hm:aDS P K w b c m:=hM.get j hj;have:=hm.at.look_ok LK ht hk hz;simp only[execOp,ho,hx,hy,Sem.run_bind,this,Result.andThen_ok,Sem.run_pure]
theorem rz2 {f:Operand->Operand->Op}{r r2:Value}(h:Ft.ok P w (.g2 f v u r))(e:r=r2):Ft.ok P w (.g2 f v u r2):=by subst e;exact h
end
variable{E:TypeId}
section
variable{P:Program}{n:Nat}{p:Option (Nat×Nat)}{L N:Frm}
variable{f:α->List Value}{c:Nat}
structure ElT (P:Program)(f:α->List Value)(c:Nat)(T E:TypeId):Prop where
 len:∀x,(f x).length=c
 pos:0<c
 one:∀x,∀u∈f x,u.oneCell'=true
 hT:P.underlying T=some (.slice E)
 info:∃i z,P.info? E=some i/\i.zero=some z/\i.size=c/\z.cells.size=c/\i.bytes<=93
theorem aSF {α:Type}{f:α->List Value}{c:Nat}{x y:Operand}{T:TypeId}{B' G:Nat}{A S:List α}{q:Option Addr}{cap:Nat}(X:ElT P f c T E)(ho:o.op=.call { callee := .builtin .append,args:=#[x,y],argTypes:=#[T,T] })(hx:a.eval x=v)(hv:ow f c E w B' v A)(hy:a.eval y=.slice q S.length cap)(hsrc:aBh f c w G q S)(hq:q≠none)(hl:A.length+S.length<=1500000000000)(hB:B'<=w.heap.size) :
  ∃w' v',(execOp a.eval o).run P w=.ok (.value v') w'/\ow f c E w' B' v' (A++S)/\Fr (λk=>v.ownBlock=some k) w w'/\(v'.ownBlock=v.ownBlock\/v'.ownBlock=some w.heap.size):=by
 obtain⟨i,z,hi,hz,hs,hzs,hby⟩:=X.info;obtain⟨ad,rfl⟩:=Option.ne_none_iff_exists'.1 hq
 obtain⟨v',w',hr,c1,c2,_,c4⟩:=run_append_own_at (P:=P) w B' T o.type E i z c _ X.hT hi hz hs rfl hzs X.pos v A.length _ hv ad S.length cap (S.flatMap f) (aAz X.len S) (λj u hu=>by
  have hj:=(List.getElem?_eq_some_iff.1 hu).1;rw[aAz X.len] at hj;rcases hsrc with rfl|⟨g,off,h2,_,h3⟩
  ·simp at hj
  ·obtain rfl:=Gh_ h2;have hm:j%c<c:=Nat.mod_lt _ X.pos;have hdv:j / c<S.length:=(Nat.div_lt_iff_lt_mul X.pos).2 hj;have e:j / c*c+j%c=j:=by rw[Nat.mul_comm];exact Nat.div_add_mod j c
   obtain⟨s,hs⟩:∃s,S[j / c]?=some s:=⟨_,Gb_ hdv⟩;have hfl:=aBR X.len S (j / c) s hs (j%c) hm;rw[e,hu] at hfl;have:=h3 _ s hs (j%c) u hfl.symm;rw[Addr.add_mid,<-e,<-Nat.add_assoc];exact this) (λu hu=>by
  obtain⟨s,_,hs⟩:=List.mem_flatMap.1 hu;exact X.one s u hs) (by unfold maxLen;omega) (by
  have:=Nat.mul_le_mul (Gj_ (A.length+S.length)) hby
  omega) hB
 refine⟨w',v',?_,?_,(Fr.refl _ _).grown c2 λk hk _=>hk,c4⟩
 ·simp only[execOp,ho,resolve,invoke,builtin,Sem.run_bind,Sem.run_pure,Result.andThen_ok,List.map_toArray,List.map_cons,List.map_nil,hx,hy,hr]
 ·unfold ow;rw[Gi_,List.flatMap_append];exact c1
theorem bAf {x y:Operand}{T:TypeId}{B' G:Nat}{A S:List α}{q:Option Addr}{cap:Nat}(X:ElT P f c T E)(ho:o.op=.call { callee := .builtin .append,args:=#[x,y],argTypes:=#[T,T] })(hx:a.eval x=v)(hv:ow f c E w B' v A)(hy:a.eval y=.slice q S.length cap)(hsrc:aBh f c w G q S)(hcp:q=none->cap=0)(hl:A.length+S.length<=1500000000000)(hB:B'<=w.heap.size) :
  ∃w' v',(execOp a.eval o).run P w=.ok (.value v') w'/\ow f c E w' B' v' (A++S)/\Fr (λk=>v.ownBlock=some k) w w'/\(v'.ownBlock=v.ownBlock\/v'.ownBlock=some w.heap.size):=by
 cases q with
 | some ad=>exact aSF X ho hx hv hy hsrc sI hl hB
 | none =>
  have hS:S=[]:=by
   rcases hsrc with h|⟨g,off,h,_⟩
   ·exact h
   ·cases h
  subst hS;obtain rfl:=hcp rfl;obtain⟨i,z,hi,hz,hs,hzs,hby⟩:=X.info;have hr:=run_append_owned_none (P:=P) (w:=w) B' T o.type E i c X.hT hi v A.length _ hv;refine⟨w,v,?_,by rw[List.append_nil];exact hv,Fr.refl _ _,.inl rfl⟩;simp only[execOp,ho,resolve,invoke,builtin,Sem.run_bind,Sem.run_pure,Result.andThen_ok,List.map_toArray,List.map_cons,List.map_nil,hx,hy,hr,Gm_]
theorem aU6 (r' i' d:Nat)(N:Frm){T:TypeId}{j G:Nat}{A S:List α}{pp:Option Addr}{cap:Nat}(hd:d<n)(X:ElT P f c T E)(hF:aBg P w F)(hM:Mm F0 w0 w M)(hj:M[j]?=some (rw_ f c E v A))(hs:aBh f c w G pp S)(hcp:pp=none->cap=0)(hl:A.length+S.length<=1500000000000)(k:∀v' w',Mm F0 w0 w' (M.set j (rw_ f c E v' (A++S)))->AtO P B R ds n (some (r',i'+1)) ((d,v')::(N++L)) w')
  (h:(lhs (go P w n B p L r' i' F) N L,aPC (go P w n B p L r' i' F) n L (λx y =>.call { callee := .builtin .append,args:=#[x,y],argTypes:=#[T,T] }))=(rhs (go P w n B p L r' i' F) N B r' i',aPB (go P w n B p L r' i' F) n L (λx y =>.call { callee := .builtin .append,args:=#[x,y],argTypes:=#[T,T] }) (some d) true v (.slice pp S.length cap)):=by kernel_rfl):AtO P B R ds n p L w:=by
 have hrow:ow f c E w 0 v A:=hM.get j hj;refine aMU hF h λO k1 o l a x y hf hd1 En hdd hg hw ho hx hy=>?_;obtain⟨w',v',hr,h1,h2,h3⟩:=bAf X ho hx hrow hy hs hcp hl (Gg_ _);refine aDH hw hr ?_;rw[hdd]
 have hM':=hM.put (w':=w') j (e':=rw_ f c E v' (A++S)) hj h2 (λk _ e=>e) h1 (λk e=>by
  have e:v'.ownBlock=some k:=e;rcases h3 with h3|h3
  ·exact .inl (by rw[h3] at e;exact e)
  ·rw[h3] at e;cases e;exact .inr (Gj_ _))
 obtain⟨O1,dr,k2,hf1,hk⟩:=k v' w' hM';rw[hf] at hf1;cases hf1;have hdr:O.toList.drop (i'+1)=l:=by rw[<-List.tail_drop,hd1];rfl
 rw[<-hdr];exact hk _ (En.put hd)
theorem Mm.row (h:Mm F0 w0 w M):Mm F0 w0 w (M++[rw_ f c E (.slice none 0 0) []]):=h.add (Fr.refl _ _) _ (aCZ w) λk e=>by cases e
theorem Mm.src {j:Nat}{A:List α}(h:Mm F0 w0 w M)(hj:M[j]?=some (rw_ f c E v A))(hf:∀x,(f x).length=c):Src f c w v A:=by
 have:ow f c E w 0 v A:=h.get j hj;exact this.src hf
end
def aSq:Op->Bool
 | .call c=>match c.callee with
  | .value _=>true
  | _=>false
 | _=>false
def evc (P:Program)(w:World)(n:Nat)(O:Array Oper)(o:Oper)(L:Frm)(fs:List Ft):Option ((Nat×Value)×List Ft×List Eqn) :=
 match aSq o.op with
 | false=>match ev1 P w n O o L [] fs with
  | some ([x],fs,es)=>some (x,fs,es)
  | _=>none
 | true=>match o.dst with
  | none=>none
  | some d=>bif Nat.blt d n then
   (match aDd O L n o with
   | none=>none
   | some false=>some ((d,undef),fs,[])
   | some true=>bif aDt L o.op then(match(execOp (rho L) o).run P w,fs with
    | .ok (.enter f args) w',.cl f' args' v::fs=>some ((d,v),fs,[.w w' w,.v (some (.int .i64 f)) (some (.int .i64 f')),.v (some (.tuple args)) (some (.tuple args'))])
    | _,_=>none) else none) else none
theorem aH9 {o:Op}(h:aSq o=true):∀cs b,o ≠ .select cs b:=by
 rintro cs b rfl;cases h
theorem aOD {P:Program}{n:Nat}{L:Frm}(h:evc P w n O o L fs=some (x,fs',es))(hd:o.dst=some s):x.1=s:=by
 unfold evc at h
 split at h
 ·split at h
  ·rename_i h1;cases h;exact aOE h1 hd
  ·cases h
 ·rw[hd] at h;simp only at h
  cases hdn:Nat.blt s n with
  | false=>rw[hdn] at h;cases h
  | true =>
   rw[hdn] at h;simp only[cond_true] at h
   split at h
   ·cases h
   ·cases h;rfl
   ·cases hkn:aDt L o.op with
    | false=>rw[hkn] at h;cases h
    | true =>
     rw[hkn] at h;simp only[cond_true] at h
     split at h
     ·cases h;rfl
     ·cases h
theorem aSx {P:Program}{n:Nat}{L:Frm}(h:evc P w n O o L fs=some (x,fs',es))(hF:aBg P w fs):aBg P w fs':=by
 unfold evc at h
 split at h
 ·split at h
  ·rename_i h1;cases h;exact aSy h1 hF
  ·cases h
 ·split at h
  ·cases h
  ·rename_i d hd
   cases hdn:Nat.blt d n with
   | false=>rw[hdn] at h;cases h
   | true =>
    rw[hdn] at h;simp only[cond_true] at h
    split at h
    ·cases h
    ·cases h;exact hF
    ·cases hkn:aDt L o.op with
     | false=>rw[hkn] at h;cases h
     | true =>
      rw[hkn] at h;simp only[cond_true] at h
      split at h
      ·cases h;exact hF.2
      ·cases h
def aEW (P:Program)(w:World)(n:Nat)(O:Array Oper)(base:Frm):List Oper->Nat->List (Nat×Value)->List Ft->Option (List (Nat×Value)×List Ft×List Eqn)
 | [],_,T,fs=>some (T,fs,[])
 | o::l,i,T,fs=>match evc P w n O o (aRz O i T i++base) fs with
  | some (x,fs,es)=>match aEW P w n O base l (i+1) (T++[x]) fs with
   | some (T,fs,es')=>some (T,fs,es++es')
   | none=>none
  | _=>none
theorem aEd {P:Program}{w:World}{n:Nat}{O:Array Oper}{base:Frm}:∀{l:List Oper}{i:Nat}{T T':List (Nat×Value)}{fs fs':List Ft}{es:List Eqn},aEW P w n O base l i T fs=some (T',fs',es)->T.length=i->aBg P w fs->aGt es ->
  T'.length=i+l.length/\(∃M,T'=T++M)/\∀j o,l[j]?=some o->∃x T1 fs1 fs2 es1,(∃M,T'=T1++M)/\T1.length=i+j/\T'[i+j]?=some x/\evc P w n O o (aRz O (i+j) T1 (i+j)++base) fs1=some (x,fs2,es1)/\aBg P w fs1/\aGt es1
 | [],i,T,T',fs,fs',es,h,hi,hF,hE=>by
  cases h;exact⟨by simp[hi],⟨[],by simp⟩,λj o hj=>by simp at hj⟩
 | o::l,i,T,T',fs,fs',es,h,hi,hF,hE=>by
  unfold aEW at h
  split at h
  ·rename_i x fs1 es1 h1
   split at h
   ·rename_i T2 fs2 es2 h2;cases h;obtain⟨e1,e2⟩:=aGt.app hE;have hF1:=aSx h1 hF;obtain⟨g1,⟨M,g2⟩,g4⟩:=aEd (l:=l) h2 (by simp[hi]) hF1 e2;refine⟨by rw[g1,Gf_];omega,⟨x::M,by rw[g2];simp⟩,λj o' hj=>?_⟩
    cases j with
    | zero =>
     cases hj;refine⟨x,T,fs,fs1,es1,⟨x::M,by rw[g2];simp⟩,by simpa using hi,?_,h1,hF,e1⟩;rw[g2,Nat.add_zero,<-hi];simp
    | succ j =>
     obtain⟨y,T1,f1,f2,s1,q1,q2,q3,q4,q5,q6⟩:=g4 j o' hj;have ea:i+1+j=i+(j+1):=by omega
     rw[ea] at q2 q3 q4;exact⟨y,T1,f1,f2,s1,q1,q2,q3,q4,q5,q6⟩
   ·cases h
  ·cases h
theorem aLo {P:Program}{n:Nat}{L:Frm}{M:World->Prop}
  (h:evc P w n O o L fs=some (x,fs',es)) (E:EnvS ds n L a) (hF:aBg P w fs) (he:aGt es) (hM:M w) (hq:∀w',Fr nF_ w w'->M w') :
  (Region.wanted o (yielded O a.tmps)=true->o.wpIn (fen rd) 0 P a w (λa' w'=>a'=aGr a (some x)/\M w') Q)/\(Region.wanted o (yielded O a.tmps)=false->(∀y,some x=some y->y.2=undef)/\M w):=by
 unfold evc at h
 split at h
 ·split at h
  ·rename_i h1;cases h;exact aLp h1 E hF he hM
  ·cases h
 ·rename_i hcl
  split at h
  ·cases h
  ·rename_i d hd
   cases hdn:Nat.blt d n with
   | false=>rw[hdn] at h;cases h
   | true =>
    rw[hdn] at h;simp only[cond_true] at h
    split at h
    ·cases h
    ·rename_i hw;cases h;refine⟨λhqq=>?_,λ_=>⟨λy hy=>by cases hy;rfl,hM⟩⟩;exfalso;unfold aDd at hw
     split at hw
     ·cases hw
     ·rename_i j b hg
      split at hw
      ·cases hw
      ·rename_i s hs
       cases hsn:Nat.blt s n with
       | false=>rw[hsn] at hw;cases hw
       | true =>
        rw[hsn] at hw;have hsn':s<n:=by simpa[Nat.blt_eq] using hsn
        simp only[cond_true] at hw;rw[aAM hg,aBD hs (by rw[E.size];exact hsn')] at hqq
        split at hw
        ·rename_i c hc;rw[E.at_ s _ hc] at hqq;have:(c==b)=false:=Gh_ hw;cases c<;>cases b<;>simp_all
        ·rename_i hc;rw[E.at_ s _ hc] at hqq;cases hqq
        ·cases hw
    ·rename_i hw;have hwant:=aDk hw E;refine⟨λ_=>?_,λhqq=>by rw[hwant] at hqq;cases hqq⟩
     cases hkn:aDt L o.op with
     | false=>rw[hkn] at h;cases h
     | true =>
      rw[hkn] at h;simp only[cond_true] at h
      split at h
      ·rename_i f args w' f' args' v fs9 hr;cases h;have hww:w'=w:=he.1;subst hww
       have e1:f=f':=by
        have:=he.2.1;simp only[Eqn.ok,Gk_,Value.int.injEq,Int.natCast_inj,true_and] at this;exact this
       have e2:args=args':=by
        have:=he.2.2.1;simp only[Eqn.ok,Gk_,Value.tuple.injEq] at this;exact this
       subst e1 e2;exact aPM (by rw[aEV E hkn (aH9 hcl)];exact hr) hF.1 hd λw1 f1=>hq w1 f1
      ·cases h
def aYO (P:Program)(w:World)(n:Nat)(B:Code)(r:Nat)(L:Frm)(F:List Ft):List (Nat×Value) :=
 match aBe r B [] with
 | some (O,true,_)=>match aEW P w n O (aAX L (aBv O)) O.toList 0 [] F with
  | some (T,_,_)=>T
  | none=>[]
 | _=>[]
def aYQ (P:Program)(w w0:World)(n:Nat)(B:Code)(r:Nat)(L N:Frm)(F:List Ft):Option (Bool×Bool×Bool×List (Option Value)×List Eqn×Bool×List (Nat×Value)) :=
 match aBe r B [] with
 | some (O,true,_)=>match aEW P w n O (aAX L (aBv O)) O.toList 0 [] F with
  | some (T,_,es)=>some (P.follows .mixedOrders,aBx O,aAJ O n (aAX L (aBv O)) (T.map some),N.map (λy=>look (T++L) y.1),es.map Eqn.l,aTw T N L,T)
  | none=>none
 | _=>none
def aYP (P:Program)(w w0:World)(n:Nat)(B:Code)(r:Nat)(L N:Frm)(F:List Ft):Option (Bool×Bool×Bool×List (Option Value)×List Eqn×Bool×List (Nat×Value)) :=
 match aBe r B [] with
 | some (O,true,_)=>match aEW P w n O (aAX L (aBv O)) O.toList 0 [] F with
  | some (T,_,es)=>some (true,true,true,N.map (λy=>some y.2),es.map Eqn.r,true,aYO P w0 n B r L F)
  | none=>some (true,true,true,[],[],true,[])
 | _=>some (true,true,true,[],[],true,[])
section
variable{P:Program}{n:Nat}{L:Frm}{r:Nat}
theorem drc (N:Frm)(hM:Mm F0 w0 w M)(hF:∀w5,Mm F0 w0 w5 M->aBg P w5 F)(k:∀w5,Mm F0 w0 w5 M->AtO P B R ds n (some (r,1)) (N++L) w5)(h:∀w5,aYQ P w5 w.drew n B r L N F=aYP P w5 w.drew n B r L N F:=by intro w5;kernel_rfl):AtO P B R ds n (some (r,0)) L w:=by
 have hM0:=hM.q ((Fr.refl nF_ w).drew);obtain⟨O1,dr,kk,hf,hk⟩:=k w.drew hM0;have h0:=h w.drew;unfold aYQ aYP at h h0;unfold aYO at h h0;rw[hf] at h h0
 cases dr with
 | false=>cases h0
 | true =>
  simp only at h h0;refine⟨O1,true,kk,hf,λa E=>?_⟩
  cases hq:aEW P w.drew n O1 (aAX L (aBv O1)) O1.toList 0 [] F with
  | none=>rw[hq] at h0;cases h0
  | some z =>
   obtain⟨T,fs,es⟩:=z;rw[hq] at h0;simp only[Gk_,Prod.mk.injEq] at h0;obtain⟨h1,h2,h3,h4,h5,h6,_⟩:=h0;have hlen:=(aEd hq rfl (hF _ hM0) (aGt.of h5)).1;refine aDj (n:=n) (base:=aAX L (aBv O1)) (T:=T.map some) (M:=λ_ wm=>Mm F0 w0 wm M) h1 h2 h3 ⟨E.size,λx hx=>E.at_ _ _ (aCM hx).1,E.df⟩ hM0 ?_ ?_
   ·intro i o t lst a1 w1 ho hTi hl E1 D DL hM1;have hw1:=h w1
    cases hq1:aEW P w1 n O1 (aAX L (aBv O1)) O1.toList 0 [] F with
    | none=>rw[hq1] at hw1;cases hw1
    | some z1 =>
     obtain⟨T1,fs1,es1⟩:=z1;rw[hq1,hq] at hw1;simp only[Gk_,Prod.mk.injEq] at hw1;obtain⟨_,_,_,_,g5,_,g7⟩:=hw1;subst g7;obtain⟨x,T2,fs2,fs3,es3,⟨M2,q1⟩,q2,q3,q4,q5,q6⟩:=(aEd hq1 rfl (hF _ hM1) (aGt.of g5)).2.2 i o (by simpa using ho);rw[Nat.zero_add] at q2 q3 q4
     have ht:t=some x:=by
      rw[Gr_,q3] at hTi;exact(Gh_ hTi).symm
     subst ht;refine aLo q4 ⟨E1.size,λs v hs=>?_,E1.df⟩ q5 q6 hM1 (λw' f=>hM1.q f);rcases aFs hs with h|h
     ·obtain⟨q,p1,p2,p3⟩:=aDv h;refine D q (s,v) p2 ?_;rw[Gr_,q1,List.getElem?_append_left (by rw[q2];exact p1),p3];rfl
     ·have:=aGb h;exact E1.at_ (s,v) this
   ·intro a1 w1 E1 V hM1;obtain⟨O2,dr2,kk2,hf2,hk2⟩:=k w1 hM1;rw[hf] at hf2;cases hf2;have hg2:=(aEd hq rfl (hF _ hM0) (aGt.of h5)).2.2
    have hE:EnvS ds n (T++L) a1:=by
     refine⟨E1.size,λs v hs=>?_,E1.df⟩;rcases aEh hs with h|⟨h0,h⟩
     ·obtain⟨j,hj⟩:=List.getElem?_of_mem (aBo h);exact V j (s,v) (by rw[Gr_,hj];rfl)
     ·refine E1.at_ (s,v) (aDu h λhd=>?_);unfold aBv at hd;rw[List.mem_filterMap] at hd;obtain⟨o,ho,hod⟩:=hd;obtain⟨j,hj⟩:=List.getElem?_of_mem ho;obtain⟨x,T1,fs1,fs2,es1,_,q2,q3,q4,_,_⟩:=hg2 j o hj;exact look_none h0 x (Ge_ q3) (aOD q4 hod)
    exact hk2 a1 (hE.sub (aEl h4 h6))
theorem tcl {f:FuncId}(h:Calls P f args w λe w'=>e=.returned v/\Fr nF_ w w'):Ft.ok P w (.cl f args v):=h
theorem rzc {f:FuncId}{b c:Bool}(h:Ft.ok P w (.cl f args (.bool b)))(e:b=c):Ft.ok P w (.cl f args (.bool c)):=by subst e;exact h
end
structure Lts where
  v:Nat->Value
  e:Nat->Ent
instance:CoeFun Lts λ_=>Nat->Value:=⟨Lts.v⟩
def aBK (γ:Lts)(p:Nat)(v:Value):Lts:=⟨λq=>bif Nat.beq q p then v else γ.v q,γ.e⟩
def aFl (γ:Lts)(p:Nat)(e:Ent):Lts:=⟨γ.v,λq=>bif Nat.beq q p then e else γ.e q⟩
theorem aTf (γ:Lts)(p:Nat):aFl γ p (γ.e p)=γ:=by
  unfold aFl;congr 1;funext q
  cases h:Nat.beq q p with
  | true=>rw[Nat.eq_of_beq_eq_true h];rfl
  | false=>rfl
def aEB:Ent where
  B:=λ_=>False
  H:=λ_=>True
  lt:=λ_ h=>h.elim
  fr:=λ_ _ _=>trivial
def bn:Value->Nat
  | .int _ z=>z.toNat
  | _=>0
def aFf (i:Nat):List Nat->Nat->Option Nat
  | [],_=>none
  | j::l,p=>bif Nat.beq j i then some p else aFf i l (p+1)
theorem aGG {i:Nat}:∀{l:List Nat}{p q:Nat},aFf i l p=some q->p<=q/\l[q-p]?=some i
  | j::l,p,q,h=>by
    unfold aFf at h
    cases hb:Nat.beq j i with
    | true=>rw[hb] at h;cases h;exact⟨Gj_ _,by simp[Nat.eq_of_beq_eq_true hb]⟩
    | false =>
      rw[hb] at h;obtain⟨h1,h2⟩:=aGG (l:=l) h;refine⟨by omega,?_⟩;rw[show q-p=(q-(p+1))+1 by omega,List.getElem?_cons_succ];exact h2
theorem aGH {i:Nat}:∀{l:List Nat}{p:Nat},aFf i l p=none->i∉l
  | [],_,_=>by simp
  | j::l,p,h=>by
    unfold aFf at h
    cases hb:Nat.beq j i with
    | true=>rw[hb] at h;cases h
    | false =>
      rw[hb] at h;have:=aGH (l:=l) h;have hne:i≠j:=λe=>by subst e;simp at hb
      simp[hne,this]
def aCP (ops:Array Oper)(i:Nat)(T:List (Option (Nat×Value))):Nat->Frm
  | 0=>[]
  | j+1=>match aAH ops i j with
    | true=>match T[j]? with
      | some (some x)=>x::aCP ops i T j
      | _=>aCP ops i T j
    | false=>aCP ops i T j
def usL (O:Array Oper)(L:Frm):List (Nat×Value×Nat):=(List.range O.size).filterMap λj=>match O[j]? with
  | some o=>match o.dst with
    | some s=>(look L s).map λv=>(s,v,j)
    | none=>none
  | none=>none
def aXL (O:Array Oper)(U:List (Nat×Value×Nat))(i:Nat):Frm:=U.filterMap λx=>bif aAH O x.2.2 i then some (x.1,x.2.1) else none
theorem aSP {L:Frm}{x:Nat×Value×Nat}(h:x∈usL O L):look L x.1=some x.2.1:=by
  unfold usL at h;rw[List.mem_filterMap] at h;obtain⟨j,_,h⟩:=h
  split at h
  · split at h
    · obtain⟨v,h1,rfl⟩:=Option.map_eq_some_iff.1 h
      exact h1
    · cases h
  · cases h
theorem aQH {y:Nat×Value}(h:y∈aXL O U i):∃x∈U,aAH O x.2.2 i=true/\y=(x.1,x.2.1):=by
  unfold aXL at h;rw[List.mem_filterMap] at h;obtain⟨x,hx,h⟩:=h
  cases hd:aAH O x.2.2 i with
  | false=>rw[hd] at h;cases h
  | true=>rw[hd] at h;cases h;exact⟨x,hx,hd,rfl⟩
def bsU (O:Array Oper)(L:Frm)(i:Nat):Frm:=aXL O (usL O L) i++aAX L (aBv O)
def aDq (P:Program)(w:World)(n:Nat)(O:Array Oper)(base:Nat->Frm)(ef:List Nat)(V:List (Option Value)):List Oper->Nat->List (Option (Nat×Value))->List Ft->Option (List (Option (Nat×Value))×List Ft×List Eqn)
  | [],_,T,fs=>some (T,fs,[])
  | o::l,i,T,fs =>
    match aFf i ef 0 with
    | some p=>match V[p]?,aDd O (aCP O i T i++base i) n o with
      | some u,some true=>match o.dst,u with
        | some d,some v=>bif Nat.blt d n then aDq P w n O base ef V l (i+1) (T++[some (d,v)]) fs else none
        | none,none=>aDq P w n O base ef V l (i+1) (T++[none]) fs
        | _,_=>none
      | _,_=>none
    | none=>match evc P w n O o (aCP O i T i++base i) fs with
      | some (x,fs,es)=>match aDq P w n O base ef V l (i+1) (T++[some x]) fs with
        | some (T,fs,es')=>some (T,fs,es++es')
        | none=>none
      | none=>none
theorem aDp {P:Program}{w:World}{n:Nat}{O:Array Oper}{base:Nat->Frm}{ef:List Nat}{V:List (Option Value)}:∀{l:List Oper}{i:Nat}{T T':List (Option (Nat×Value))}{fs fs':List Ft}{es:List Eqn},aDq P w n O base ef V l i T fs=some (T',fs',es)->T.length=i->aBg P w fs->aGt es ->
    T'.length=i+l.length/\(∃M,T'=T++M)/\∀j o,l[j]?=some o->∃t T1,(∃M,T'=T1++M)/\T1.length=i+j/\T'[i+j]?=some t/\
      ((aFf (i+j) ef 0=none/\∃x fs1 fs2 es1,t=some x/\evc P w n O o (aCP O (i+j) T1 (i+j)++base (i+j)) fs1=some (x,fs2,es1)/\aBg P w fs1/\aGt es1)\/
       (∃p u,aFf (i+j) ef 0=some p/\V[p]?=some u/\aDd O (aCP O (i+j) T1 (i+j)++base (i+j)) n o=some true/\((∃d v,o.dst=some d/\u=some v/\t=some (d,v)/\d<n)\/(o.dst=none/\u=none/\t=none))))
  | [],i,T,T',fs,fs',es,h,hi,hF,hE=>by
    cases h;exact⟨by simp[hi],⟨[],by simp⟩,λj o hj=>by simp at hj⟩
  | o::l,i,T,T',fs,fs',es,h,hi,hF,hE=>by
    have fin:∀(t:Option (Nat×Value)){fs1:List Ft}{es2:List Eqn},aDq P w n O base ef V l (i+1) (T++[t]) fs1=some (T',fs',es2)->aBg P w fs1->aGt es2 ->
        ((aFf i ef 0=none/\∃x fs1 fs2 es1,t=some x/\evc P w n O o (aCP O i T i++base i) fs1=some (x,fs2,es1)/\aBg P w fs1/\aGt es1)\/
          (∃p u,aFf i ef 0=some p/\V[p]?=some u/\aDd O (aCP O i T i++base i) n o=some true/\((∃d v,o.dst=some d/\u=some v/\t=some (d,v)/\d<n)\/(o.dst=none/\u=none/\t=none)))) ->
        T'.length=i+(o::l).length/\(∃M,T'=T++M)/\∀j o',(o::l)[j]?=some o'->∃t T1,(∃M,T'=T1++M)/\T1.length=i+j/\T'[i+j]?=some t/\
          ((aFf (i+j) ef 0=none/\∃x fs1 fs2 es1,t=some x/\evc P w n O o' (aCP O (i+j) T1 (i+j)++base (i+j)) fs1=some (x,fs2,es1)/\aBg P w fs1/\aGt es1)\/
           (∃p u,aFf (i+j) ef 0=some p/\V[p]?=some u/\aDd O (aCP O (i+j) T1 (i+j)++base (i+j)) n o'=some true/\((∃d v,o'.dst=some d/\u=some v/\t=some (d,v)/\d<n)\/(o'.dst=none/\u=none/\t=none)))):=by
      intro t fs1 es2 h2 hF1 hE2 hh;obtain⟨g1,⟨M,g2⟩,g4⟩:=aDp (l:=l) h2 (by simp[hi]) hF1 hE2;refine⟨by rw[g1,Gf_];omega,⟨t::M,by rw[g2];simp⟩,λj o' hj=>?_⟩
      cases j with
      | zero =>
        cases hj;refine⟨t,T,⟨t::M,by rw[g2];simp⟩,by simpa using hi,?_,hh⟩;rw[g2,Nat.add_zero,<-hi];simp
      | succ j =>
        obtain⟨y,T1,q1,q2,q3,q4⟩:=g4 j o' hj;have ea:i+1+j=i+(j+1):=by omega
        rw[ea] at q2 q3 q4;exact⟨y,T1,q1,q2,q3,q4⟩
    unfold aDq at h
    split at h
    · rename_i p hp
      split at h
      · rename_i u hV hw
        split at h
        · rename_i d v hd
          cases hdn:Nat.blt d n with
          | false=>rw[hdn] at h;cases h
          | true =>
            rw[hdn] at h;exact fin _ h hF hE (.inr ⟨p,_,hp,hV,hw,.inl ⟨d,v,hd,rfl,rfl,by simpa[Nat.blt_eq] using hdn⟩⟩)
        · rename_i hd
          exact fin _ h hF hE (.inr ⟨p,_,hp,hV,hw,.inr ⟨hd,rfl,rfl⟩⟩)
        · cases h
      · cases h
    · rename_i hp
      split at h
      · rename_i x fs1 es1 h1
        split at h
        · rename_i T2 fs2 es2 h2
          cases h;obtain⟨e1,e2⟩:=aGt.app hE;exact fin _ h2 (aSx h1 hF) e2 (.inl ⟨hp,x,fs,fs1,es1,rfl,h1,hF,e1⟩)
        · cases h
      · cases h
theorem aDA {O:Array Oper}{i:Nat}{T:List (Option (Nat×Value))}:∀{j:Nat}{s:Nat}{v:Value},look (aCP O i T j) s=some v->∃q,q<j/\aAH O i q=true/\T[q]?=some (some (s,v))
  | 0,s,v,h=>by cases h
  | j+1,s,v,h=>by
    unfold aCP at h
    split at h
    · rename_i hd
      split at h
      · rename_i x hx
        unfold look at h
        cases hs:(x.1==s) with
        | true =>
          rw[hs] at h;have e:x=(s,v):=Prod.ext (beq_iff_eq.1 hs) (Gh_ h);exact⟨j,Nat.lt_succ_self j,hd,by rw[hx,e]⟩
        | false =>
          rw[hs] at h;obtain⟨q,h1,h2⟩:=aDA (j:=j) h;exact⟨q,Nat.lt_succ_of_lt h1,h2⟩
      · obtain⟨q,h1,h2⟩:=aDA (j:=j) h
        exact⟨q,Nat.lt_succ_of_lt h1,h2⟩
    · obtain⟨q,h1,h2⟩:=aDA (j:=j) h
      exact⟨q,Nat.lt_succ_of_lt h1,h2⟩
theorem aFa {O:Array Oper}{i:Nat}{T M:List (Option (Nat×Value))}:∀{j:Nat},j<=T.length->aCP O i (T++M) j=aCP O i T j
  | 0,_=>rfl
  | j+1,h=>by
    unfold aCP;rw[aFa (j:=j) oM,List.getElem?_append_left oM]
def aFz (O:Array Oper):Nat->List (List Nat)
  | 0=>[]
  | i + 1 => let A := aFz O i; A ++ [(List.range i).foldr (λj r => match aAH O i j with
      | true=>j::(A.getD j []++r)
      | false=>r) []]
theorem aEx (O:Array Oper):∀n,(aFz O n).length=n
  | 0=>rfl
  | n+1=>by unfold aFz;simp[aEx O n]
theorem aKp {O:Array Oper}{lst:Nat->Bool}(hc:∀j k,aAH O j k=true->lst j=true->lst k=true):∀n i l j,(aFz O n)[i]?=some l->j∈l->lst i=true->lst j=true
  | 0,i,l,j,h,_,_=>by simp[aFz] at h
  | n+1,i,l,j,h,hj,hi=>by
    have ih:=aKp hc n;unfold aFz at h;simp only at h;rcases Nat.lt_or_ge i n with hlt|hge
    · rw[List.getElem?_append_left (by rw[aEx];exact hlt)] at h
      exact ih i l j h hj hi
    · have he:i=n:=by
        have:=(List.getElem?_eq_some_iff.1 h).1;simp[aEx] at this;omega
      subst he;rw[List.getElem?_append_right (by rw[aEx];exact Gj_ _),aEx,Nat.sub_self] at h;have h:=Gh_ h;subst h
      have key:∀(L:List Nat),j∈L.foldr (λj r=>match aAH O i j with
          | true=>j::((aFz O i).getD j []++r)
          | false=>r) []->lst j=true:=by
        intro L
        induction L with
        | nil=>intro h;simp at h
        | cons k L ihL =>
          intro h;rw[List.foldr_cons] at h
          split at h
          · rename_i hd
            have hk:=hc i k hd hi;rcases List.mem_cons.1 h with rfl|h
            · exact hk
            · rcases List.mem_append.1 h with h|h
              · cases hq:(aFz O i)[k]? with
                | none=>rw[List.getD_eq_getElem?_getD,hq] at h;simp at h
                | some l2 =>
                  rw[List.getD_eq_getElem?_getD,hq] at h;exact ih k l2 j hq h hk
              · exact ihL h
          · exact ihL h
      exact key _ hj
def aLZ (A:List (List Nat))(ef:List Nat)(i:Nat):List (Option Bool):=ef.map λj=>bif Nat.beq j i then some false else bif (A.getD i []).contains j then some true else bif (A.getD j []).contains i then some false else none
def aRq:List (Option Bool)->(Nat->Bool)->Nat->List Bool
  | [],_,_=>[]
  | some b::l,fr,q=>b::aRq l fr (q+1)
  | none::l,fr,q=>fr q::aRq l fr (q+1)
theorem aO8:∀(pat:List (Option Bool))(l:List Bool)(fr:Nat->Bool)(q:Nat),l.length=pat.length->(∀(k:Nat)(b:Bool),pat[k]?=some (some b)->l[k]?=some b)->(∀(k:Nat),k<l.length->l[k]?=some (fr (q+k)))->l=aRq pat fr q
  | [],l,fr,q,h,_,_=>by
    have:=List.eq_nil_of_length_eq_zero h;subst this;rfl
  | x::pat,l,fr,q,h,h1,h2=>by
    cases l with
    | nil=>simp at h
    | cons b l =>
      have ht:=aO8 pat l fr (q+1) (by simpa using h) (λ(k:Nat)(b:Bool) hk=>by have:=h1 (k+1) b (by simpa using hk);simpa using this) (λ(k:Nat) hk=>by
        have:=h2 (k+1) (by simp;omega);rw[show q+1+k=q+(k+1) by omega];simpa using this)
      cases x with
      | some c =>
        have:=h1 0 c rfl;simp at this;subst this;unfold aRq;rw[<-ht]
      | none =>
        have:=h2 0 sI;simp at this;unfold aRq;rw[<-ht,<-this]
def aA9 (B:Code)(r:Nat):Array Oper:=match aBe r B [] with
  | some (O,_,_)=>O
  | none=>#[]
section
variable{P:Program}{n:Nat}{L:Frm}{r:Nat}
def aIH (P:Program)(w:World)(n:Nat)(B:Code)(r:Nat)(L:Frm)(ef:List Nat)(V:Lts->List (Option Value))(F:Lts->List Ft)(γ:Lts):List (Option (Nat×Value)) :=
  match aDq P w n (aA9 B r) (bsU (aA9 B r) L) ef (V γ) (aA9 B r).toList 0 [] (F γ) with
  | some (T,_,_)=>T
  | none=>[]
def aYL (P:Program)(w:World)(n:Nat)(B:Code)(r:Nat)(L:Frm)(ef:List Nat)(V:List (Option Value))(F:List Ft)(N:Frm)(T0:List (Option (Nat×Value))):Option (Bool×Bool×Bool×List (Option Value)×List Eqn×Bool×List (Option (Nat×Value))×Bool) :=
  match aDq P w n (aA9 B r) (bsU (aA9 B r) L) ef V (aA9 B r).toList 0 [] F with
  | some (T,_,es)=>some (P.follows .mixedOrders,aBx (aA9 B r),aB3 (aA9 B r) n (aAX L (aBv (aA9 B r))) (usL (aA9 B r) L) T,N.map (λy=>look (T.filterMap id++L) y.1),es.map Eqn.l,aTw (T.filterMap id) N L,T,match aBe r B [] with|some (_,d,_)=>d|none=>false)
  | none=>none
def aYK (P:Program)(w:World)(n:Nat)(B:Code)(r:Nat)(L:Frm)(ef:List Nat)(V:List (Option Value))(F:List Ft)(N:Frm)(T0:List (Option (Nat×Value))):Option (Bool×Bool×Bool×List (Option Value)×List Eqn×Bool×List (Option (Nat×Value))×Bool) :=
  match aDq P w n (aA9 B r) (bsU (aA9 B r) L) ef V (aA9 B r).toList 0 [] F with
  | some (T,_,es)=>some (true,true,true,N.map (λy=>some y.2),es.map Eqn.r,true,T0,true)
  | none=>some (true,true,true,[],[],true,[],true)
def aSh (A:List (List Nat))(i:Nat):Nat->List (Option (Nat×Value))->List (Option (Nat×Value))
  | _,[]=>[]
  | k,x::T=>(bif Nat.beq k i||(A.getD k []).contains i then none else x)::aSh A i (k+1) T
theorem aLa {A:List (List Nat)}{i:Nat}:∀{T:List (Option (Nat×Value))}{k m:Nat},(aSh A i k T)[m]?=(T[m]?).map λx=>bif Nat.beq (k+m) i||(A.getD (k+m) []).contains i then none else x
  | [],k,m=>by simp[aSh]
  | x::T,k,0=>by simp[aSh]
  | x::T,k,m+1=>by
    have:=aLa (A:=A) (i:=i) (T:=T) (k:=k+1) (m:=m);unfold aSh;rw[List.getElem?_cons_succ,List.getElem?_cons_succ,this,show k+1+m=k+(m+1) by omega]
def aSg (A:List (List Nat))(i:Nat):Nat->List (Option (Nat×Value))->List (Option (Nat×Value))
  | _,[]=>[]
  | k,x::T=>(bif Nat.beq k i||(A.getD k []).contains i then none else x)::aSg A i (k+1) T
theorem aKZ {A:List (List Nat)}{i:Nat}:∀{T:List (Option (Nat×Value))}{k m:Nat},(aSg A i k T)[m]?=(T[m]?).map λx=>bif Nat.beq (k+m) i||(A.getD (k+m) []).contains i then none else x
  | [],k,m=>by simp[aSg]
  | x::T,k,0=>by simp[aSg]
  | x::T,k,m+1=>by
    have:=aKZ (A:=A) (i:=i) (T:=T) (k:=k+1) (m:=m);unfold aSg;rw[List.getElem?_cons_succ,List.getElem?_cons_succ,this,show k+1+m=k+(m+1) by omega]
def frX (P:Program)(w:World)(n:Nat)(B:Code)(r:Nat)(L:Frm)(ef:List Nat)(V:Lts->List (Option Value))(F:Lts->List Ft)(i:Nat)(γ:Lts):Frm:=aCP (aA9 B r) i (aIH P w n B r L ef V F γ) i++bsU (aA9 B r) L i
def Arm (rd:Option Nat)(P:Program)(w:World)(n:Nat)(B:Code)(r:Nat)(L:Frm)(ef:List Nat)(V:Lts->List (Option Value))(F:Lts->List Ft)(ds:List Deferred)(F0:Nat->Prop)(w0:World)(Mf:Lts->List Bool->List Ent)(p i:Nat):Prop :=
  ∀(γ:Lts)(fr:Nat->Bool)(a:Act)(wm:World)(Q:Exit->Act->World->Prop)(o:Oper),(aA9 B r)[i]?=some o->EnvS ds n (frX P w n B r L ef V F i γ) a->Region.wanted o (yielded (aA9 B r) a.tmps)=true ->
    Mm F0 w0 wm (Mf γ (aRq (aLZ (aFz (aA9 B r) (aA9 B r).size) ef i) fr 0)) ->
    o.wpIn (fen rd) 0 P a wm (λa' w'=>∃v e,a'=aGr a (((V (aFl (aBK γ p v) p e))[p]?).getD none |>.bind λv=>o.dst.map λd=>(d,v))/\Mm F0 w0 w' (Mf (aFl (aBK γ p v) p e) ((aRq (aLZ (aFz (aA9 B r) (aA9 B r).size) ef i) fr 0).set p true))) Q
def aYw (rd:Option Nat)(P:Program)(w:World)(n:Nat)(B:Code)(r:Nat)(L:Frm)(ef:List Nat)(V:Lts->List (Option Value))(F:Lts->List Ft)(ds:List Deferred)(F0:Nat->Prop)(w0:World)(Mf:Lts->List Bool->List Ent):List Nat->Nat->Prop
  | [],_=>True
  | i::l,p=>Arm rd P w n B r L ef V F ds F0 w0 Mf p i/\aYw rd P w n B r L ef V F ds F0 w0 Mf l (p+1)
theorem aYw.at_ {rd:Option Nat}{ef:List Nat}{V:Lts->List (Option Value)}{F:Lts->List Ft}{Mf:Lts->List Bool->List Ent}:∀{l:List Nat}{p q i:Nat},aYw rd P w n B r L ef V F ds F0 w0 Mf l p->l[q]?=some i->Arm rd P w n B r L ef V F ds F0 w0 Mf (p+q) i
  | j::l,p,0,i,h,hq=>by cases hq;exact h.1
  | j::l,p,q+1,i,h,hq=>by
    have:=aYw.at_ (q:=q) h.2 (by simpa using hq);rw[show p+(q+1)=p+1+q by omega];exact this
def ndL (P:Program)(w:World)(n:Nat)(B:Code)(r:Nat)(L:Frm)(ef:List Nat)(V:Lts->List (Option Value))(F:Lts->List Ft)(γ γ':Lts)(v:Value)(e:Ent):List Nat->Nat->List (List (Option (Nat×Value)))
  | [],_=>[]
  | i::l,p=>aSh (aFz (aA9 B r) (aA9 B r).size) i 0 (aIH P w n B r L ef V F (aFl (aBK γ p v) p e))::ndL P w n B r L ef V F γ γ' v e l (p+1)
def ndR (P:Program)(w:World)(n:Nat)(B:Code)(r:Nat)(L:Frm)(ef:List Nat)(V:Lts->List (Option Value))(F:Lts->List Ft)(γ:Lts):List Nat->List (List (Option (Nat×Value)))
  | []=>[]
  | i::l=>aSg (aFz (aA9 B r) (aA9 B r).size) i 0 (aIH P w n B r L ef V F γ)::ndR P w n B r L ef V F γ l
theorem aVG {ef:List Nat}{V:Lts->List (Option Value)}{F:Lts->List Ft}{γ γ':Lts}{v:Value}{e:Ent}:∀{l:List Nat}{p q i:Nat},ndL P w n B r L ef V F γ γ' v e l p=ndR P w n B r L ef V F γ l->l[q]?=some i->aSh (aFz (aA9 B r) (aA9 B r).size) i 0 (aIH P w n B r L ef V F (aFl (aBK γ (p+q) v) (p+q) e))=aSg (aFz (aA9 B r) (aA9 B r).size) i 0 (aIH P w n B r L ef V F γ)
  | j::l,p,0,i,h,hq=>by cases hq;exact(List.cons.inj h).1
  | j::l,p,q+1,i,h,hq=>by
    have:=aVG (q:=q) (List.cons.inj h).2 (by simpa using hq);rw[show p+(q+1)=p+1+q by omega];exact this
theorem drx (ef:List Nat)(V:Lts->List (Option Value))(F:Lts->List Ft)(Mf:Lts->List Bool->List Ent)(N:Lts->Frm)(hM:Mm F0 w0 w M)(h0:∀γ,Mf γ (ef.map λ_=>false)=M)(hF:∀γ l w5,Mm F0 w0 w5 (Mf γ l)->aBg P w5 (F γ))(hA:aYw R.rd P w.drew n B r L ef V F ds F0 w0 Mf ef 0)
    (k:∀γ w5,Mm F0 w0 w5 (Mf γ (ef.map λ_=>true))->AtO P B R ds n (some (r,1)) (N γ++L) w5)
    (h:∀γ w5,aYL P w5 n B r L ef (V γ) (F γ) (N γ) (aIH P w.drew n B r L ef V F γ)=aYK P w5 n B r L ef (V γ) (F γ) (N γ) (aIH P w.drew n B r L ef V F γ):=by intro γ w5;kernel_rfl)
    (hn:∀γ v e,ndL P w.drew n B r L ef V F γ γ v e ef 0=ndR P w.drew n B r L ef V F γ ef:=by intro γ v e;kernel_rfl)
    (hs:(ef.all (λi=>Nat.blt i (aA9 B r).size)&&(List.range ef.length).all (λp=>(List.range ef.length).all λq=>Nat.beq p q || !Nat.beq (ef.getD p 0) (ef.getD q 0)))=true:=by kernel_rfl):AtO P B R ds n (some (r,0)) L w:=by
  have hM0:=hM.q ((Fr.refl nF_ w).drew);have hMi:∀γ,Mm F0 w0 w.drew (Mf γ (ef.map λ_=>false)):=λγ=>by rw[h0];exact hM0
  have key:∀γ w5 l,Mm F0 w0 w5 (Mf γ l)->∃fs es,aDq P w5 n (aA9 B r) (bsU (aA9 B r) L) ef (V γ) (aA9 B r).toList 0 [] (F γ)=some (aIH P w.drew n B r L ef V F γ,fs,es)/\aBg P w5 (F γ)/\aGt es/\P.follows .mixedOrders=true/\aBx (aA9 B r)=true/\aB3 (aA9 B r) n (aAX L (aBv (aA9 B r))) (usL (aA9 B r) L) (aIH P w.drew n B r L ef V F γ)=true/\(N γ).map (λy=>look ((aIH P w.drew n B r L ef V F γ).filterMap id++L) y.1)=(N γ).map (λy=>some y.2)/\aTw ((aIH P w.drew n B r L ef V F γ).filterMap id) (N γ) L=true/\(match aBe r B [] with|some (_,d,_)=>d|none=>false)=true:=by
    intro γ w5 l hl;have hw:=h γ w5;unfold aYL aYK at hw
    cases hq:aDq P w5 n (aA9 B r) (bsU (aA9 B r) L) ef (V γ) (aA9 B r).toList 0 [] (F γ) with
    | none=>rw[hq] at hw;cases hw
    | some z =>
      obtain⟨T,fs,es⟩:=z;rw[hq] at hw;simp only[Gk_,Prod.mk.injEq] at hw;obtain⟨g1,g2,g3,g4,g5,g6,g7,g8⟩:=hw;subst g7;exact⟨fs,es,rfl,hF γ l w5 hl,aGt.of g5,g1,g2,g3,g4,g6,g8⟩
  rw[Ga_] at hs;obtain⟨hs1,hs2⟩:=hs
  have hlt:∀i∈ef,i<(aA9 B r).size:=λi hi=>by
    have:=List.all_eq_true.1 hs1 i hi;simpa[Nat.blt_eq] using this
  have hnd:∀p q i,ef[p]?=some i->ef[q]?=some i->p=q:=λp q i hp hq=>by
    have h1:=(List.getElem?_eq_some_iff.1 hp).1;have h2:=(List.getElem?_eq_some_iff.1 hq).1;have:=List.all_eq_true.1 (List.all_eq_true.1 hs2 p (List.mem_range.2 h1)) q (List.mem_range.2 h2);rw[List.getD_eq_getElem?_getD,List.getD_eq_getElem?_getD,hp,hq] at this;simpa using this
  obtain⟨fs00,es00,hq00,_,_,hm,hord,_,_,_,hdr⟩:=key ⟨λ_=>undef,λ_=>aEB⟩ w.drew _ (hMi _)
  cases hf:aBe r B [] with
  | none=>rw[hf] at hdr;cases hdr
  | some z =>
    obtain⟨O,dr,kk⟩:=z;rw[hf] at hdr;have hdr:dr=true:=hdr;subst hdr;have hO:aA9 B r=O:=by unfold aA9;rw[hf]
    refine⟨O,true,kk,hf,λa E=>?_⟩;show(Code.region r O true).wpIn (fen R.rd) 0 P _ a w
    have hlen:∀γ,(aIH P w.drew n B r L ef V F γ).length=(aA9 B r).size:=λγ=>by
      obtain⟨fs,es,hq,hFF,hE,_⟩:=key γ w.drew _ (hMi γ);have:=(aDp hq rfl hFF hE).1;simpa using this
    rw[<-hO];refine aDi (G:=Lts) ⟨λ_=>undef,λ_=>aEB⟩ (n:=n) (base:=aAX L (aBv (aA9 B r))) (U:=usL (aA9 B r) L) (T:=λγ=>aIH P w.drew n B r L ef V F γ) (M:=λγ lst wm=>Mm F0 w0 wm (Mf γ (ef.map lst))) hm hord (λγ=>?_) ⟨E.size,λx hx=>E.at_ _ _ (aCM hx).1,E.df⟩ (λx hx=>E.at_ _ _ (aSP hx)) (hMi _) ?_ ?_
    · obtain⟨fs,es,hq,_,_,_,_,g3,_⟩:=key γ w.drew _ (hMi γ)
      exact g3
    · intro i o γ lst a1 w1 ho hl E1 D DL DL2 hU hM1
      have hi:i<(aA9 B r).size:=(Array.getElem?_eq_some_iff.1 ho).1;obtain⟨fs,es,hq,hFF,hEE,_⟩:=key γ w1 _ hM1;obtain⟨t,T1,⟨Mx,q1⟩,q2,q3,q4⟩:=(aDp hq rfl hFF hEE).2.2 i o (by simpa using ho);rw[Nat.zero_add] at q2 q3 q4
      have hpre:aCP (aA9 B r) i T1 i=aCP (aA9 B r) i (aIH P w.drew n B r L ef V F γ) i:=by
        rw[q1,aFa oM]
      have hES:EnvS ds n (aCP (aA9 B r) i T1 i++bsU (aA9 B r) L i) a1:=by
        refine⟨E1.size,λs v hs=>?_,E1.df⟩;rcases aFs hs with h|h
        · rw[hpre] at h
          obtain⟨q,p1,p2,p3⟩:=aDA h;exact D q (s,v) p2 p3
        · rcases aFs h with h|h
          · obtain⟨z,hz,hd,e⟩:=aQH (aBo h)
            cases e;exact hU z hz hd
          · exact E1.at_ (s,v) (aGb h)
      rcases q4 with⟨hp,x,fs1,fs2,es1,rfl,hev,hF1,hE1⟩|⟨p,u,hp,hV,hw,hd⟩
      · have hni:=aGH hp
        have hmap:(ef.map λj=>j==i||lst j)=ef.map lst:=by
          apply List.map_congr_left;intro j hj;have:(j==i)=false:=by rw[Gt_];rintro rfl;exact hni hj
          rw[this,Bool.false_or]
        have hst:=aLo (rd:=R.rd) (Q:=post P R kk) (M:=λwm=>Mm F0 w0 wm (Mf γ (ef.map lst))) hev hES hF1 hE1 hM1 (λw' f=>hM1.q f);refine⟨λhwt=>Oper.wpIn_mono (λa' w' hh=>?_) (hst.1 hwt),λhwt=>?_⟩
        · exact⟨γ,some x,q3,hh.1,λ_ _=>rfl,by show Mm F0 w0 w' (Mf γ (ef.map λj=>j==i||lst j));rw[hmap];exact hh.2⟩
        · obtain⟨g1,g2⟩:=hst.2 hwt
          refine⟨λy hy=>?_,by show Mm F0 w0 w1 (Mf γ (ef.map λj=>j==i||lst j));rw[hmap];exact g2⟩;rw[q3] at hy;exact g1 y (Gh_ hy)
      · obtain⟨_,hpi⟩:=aGG hp
        rw[Nat.sub_zero] at hpi;have hwant:=aDk hw hES;refine⟨λ_=>?_,λhwt=>by rw[hwant] at hwt;cases hwt⟩
        have hcl':∀j k',aAH (aA9 B r) j k'=true->(λj=>j==i||lst j) j=true->(λj=>j==i||lst j) k'=true:=by
          intro j k' hjk hj;simp only[Bool.or_eq_true,beq_iff_eq] at hj ⊢;rcases hj with rfl|hj
          · exact .inr (DL k' hjk)
          · exact .inr (DL2 j k' hjk hj)
        have hA1:∀j,(((aFz (aA9 B r) (aA9 B r).size).getD i []).contains j)=true->j≠i->lst j=true:=by
          intro j hj hne;rw[List.contains_iff_mem] at hj;rw[List.getD_eq_getElem?_getD] at hj
          cases hq:(aFz (aA9 B r) (aA9 B r).size)[i]? with
          | none=>rw[hq] at hj;simp at hj
          | some l2 =>
            rw[hq] at hj;have:=aKp hcl' _ i l2 j hq hj sI;simp only[Bool.or_eq_true,beq_iff_eq] at this;exact this.resolve_left hne
        have hA2:∀j,(((aFz (aA9 B r) (aA9 B r).size).getD j []).contains i)=true->lst j=false:=by
          intro j hj;rw[List.contains_iff_mem] at hj;rw[List.getD_eq_getElem?_getD] at hj
          cases hq:(aFz (aA9 B r) (aA9 B r).size)[j]? with
          | none=>rw[hq] at hj;simp at hj
          | some l2 =>
            rw[hq] at hj
            cases hlj:lst j with
            | false=>rfl
            | true =>
              have:=aKp DL2 _ j l2 i hq hj hlj;rw[hl] at this;cases this
        have hfill:ef.map lst=aRq (aLZ (aFz (aA9 B r) (aA9 B r).size) ef i) (λq=>(ef.map lst).getD q false) 0:=by
          refine aO8 _ _ _ 0 (by simp[aLZ]) (λk' b hk=>?_) (λk' hk=>?_)
          · unfold aLZ at hk
            rw[Gr_] at hk
            cases hek:ef[k']? with
            | none=>rw[hek] at hk;cases hk
            | some j =>
              rw[hek] at hk;simp only[Option.map_some,Gk_] at hk;rw[Gr_,hek];show some (lst j)=some b
              cases hb1:Nat.beq j i with
              | true =>
                rw[hb1] at hk;have:=Nat.eq_of_beq_eq_true hb1;subst this;cases hk;rw[hl]
              | false =>
                rw[hb1] at hk;have hne:j≠i:=λe=>by subst e;simp at hb1
                simp only[cond_false] at hk
                cases hb2:((aFz (aA9 B r) (aA9 B r).size).getD i []).contains j with
                | true=>rw[hb2] at hk;cases hk;rw[hA1 j hb2 hne]
                | false =>
                  rw[hb2] at hk;simp only[cond_false] at hk
                  cases hb3:((aFz (aA9 B r) (aA9 B r).size).getD j []).contains i with
                  | true=>rw[hb3] at hk;cases hk;rw[hA2 j hb3]
                  | false=>rw[hb3] at hk;cases hk
          · rw[Nat.zero_add,List.getD_eq_getElem?_getD,Gb_ hk];rfl
        have harm:=hA.at_ hpi γ (λq=>(ef.map lst).getD q false) a1 w1 (post P R kk) o ho (by
          unfold frX;rw[<-hpre];exact hES) hwant (by rw[<-hfill];exact hM1)
        rw[Nat.zero_add] at harm;refine Oper.wpIn_mono (λa' w' hh=>?_) harm;obtain⟨v,e9,ha',hM2⟩:=hh
        have hset:(ef.map λj=>j==i||lst j)=(ef.map lst).set p true:=by
          apply List.ext_getElem?;intro m;rw[Gr_,List.getElem?_set,Gr_]
          cases hem:ef[m]? with
          | none =>
            have hge:¬m<ef.length:=λhh=>by rw[Gb_ hh] at hem;cases hem
            have hpl:=(List.getElem?_eq_some_iff.1 hpi).1;have:p≠m:=by omega
            rw[if_neg this];rfl
          | some j =>
            by_cases hpm:p=m
            · subst hpm
              rw[hpi] at hem;cases hem;have hpl:=(List.getElem?_eq_some_iff.1 hpi).1;simp[hpl]
            · rw[if_neg hpm]
              have:(j==i)=false:=by rw[Gt_];rintro rfl;exact hpm (hnd p m j hpi hem)
              simp[this]
        rw[<-hfill,<-hset] at hM2;obtain⟨fs3,es3,hq3,hFF3,hEE3,_⟩:=key (aFl (aBK γ p v) p e9) w.drew _ (hMi _);obtain⟨t3,T3,⟨Mx3,q13⟩,q23,q33,q43⟩:=(aDp hq3 rfl hFF3 hEE3).2.2 i o (by simpa using ho);rw[Nat.zero_add] at q23 q33 q43;refine⟨aFl (aBK γ p v) p e9,t3,q33,?_,λj hj=>?_,hM2⟩
        · rcases q43 with⟨hp3,_⟩|⟨p3,u3,hp3,hV3,_,hd3⟩
          · rw[hp] at hp3;cases hp3
          · rw[hp] at hp3;cases hp3
            rw[ha',hV3];rcases hd3 with⟨d,v3,hd3,rfl,rfl,_⟩|⟨hd3,rfl,rfl⟩
            · simp[hd3]
            · rfl
        · have hnd2:=aVG (hn γ v e9) hpi
          rw[Nat.zero_add] at hnd2;have hji:j≠i:=λe=>by subst e;rw[hl] at hj;cases hj
          have hjc:((aFz (aA9 B r) (aA9 B r).size).getD j []).contains i=false:=by
            cases hb:((aFz (aA9 B r) (aA9 B r).size).getD j []).contains i with
            | false=>rfl
            | true=>rw[hA2 j hb] at hj;cases hj
          rcases Nat.lt_or_ge j (aA9 B r).size with hjs|hjs
          · have:=congrArg (λl=>l[j]?) hnd2
            have this:(aSh _ i 0 _)[j]?=(aSg _ i 0 _)[j]?:=this;rw[aLa,aKZ] at this
            have hbj:Nat.beq j i=false:=by
              cases hb:Nat.beq j i with
              | false=>rfl
              | true=>exact absurd (Nat.eq_of_beq_eq_true hb) hji
            have e1:=Gb_ (l:=aIH P w.drew n B r L ef V F (aFl (aBK γ p v) p e9)) (i:=j) (by rw[hlen];exact hjs);have e2:=Gb_ (l:=aIH P w.drew n B r L ef V F γ) (i:=j) (by rw[hlen];exact hjs);rw[e1,e2] at this ⊢;simp only[Option.map_some,Nat.zero_add,hbj,hjc,Bool.or_self,cond_false,Gk_] at this;rw[this]
          · rw[List.getElem?_eq_none (by rw[hlen];exact hjs),List.getElem?_eq_none (by rw[hlen];exact hjs)]
    · intro γ a1 w1 E1 Vv hM1
      have hmt:(ef.map λj=>decide (j<(aA9 B r).size))=ef.map λ_=>true:=by
        apply List.map_congr_left;intro j hj;rw[decide_eq_true (hlt j hj)]
      have hM1:Mm F0 w0 w1 (Mf γ (ef.map λj=>decide (j<(aA9 B r).size))):=hM1;rw[hmt] at hM1;obtain⟨fs,es,hq,hFF,hEE,_,_,_,g4,g6,_⟩:=key γ w1 _ hM1;obtain⟨O2,dr2,kk2,hf2,hk2⟩:=k γ w1 hM1;rw[hf] at hf2;cases hf2;have hat:=(aDp hq rfl hFF hEE).2.2
      have hE:EnvS ds n ((aIH P w.drew n B r L ef V F γ).filterMap id++L) a1:=by
        refine⟨E1.size,λs v hs=>?_,E1.df⟩;rcases aEh hs with h|⟨h0,h⟩
        · have hm:=aBo h
          rw[List.mem_filterMap] at hm;obtain⟨t,ht,hte⟩:=hm;obtain⟨j,hj⟩:=List.getElem?_of_mem ht;exact Vv j (s,v) (by rw[hj];exact congrArg some hte)
        · refine E1.at_ (s,v) (aDu h λhd=>?_)
          unfold aBv at hd;rw[List.mem_filterMap] at hd;obtain⟨o,ho,hod⟩:=hd;obtain⟨j,hj⟩:=List.getElem?_of_mem ho;obtain⟨t,T1,_,q2,q3,q4⟩:=hat j o hj;rw[Nat.zero_add] at q3 q4
          have hin:∀x,t=some x->x.1=s->False:=λx hx hxs=>by
            subst hx;exact look_none h0 x (List.mem_filterMap.2 ⟨some x,Ge_ q3,rfl⟩) hxs
          rcases q4 with⟨_,x,fs1,fs2,es1,hx,hev,_⟩|⟨p,u,_,_,_,hd|hd⟩
          · exact hin x hx (aOD hev hod)
          · obtain⟨d,v',hd1,_,ht,_⟩:=hd
            rw[hod] at hd1;exact hin (d,v') ht (Gh_ hd1).symm
          · rw[hod] at hd;cases hd.1
      exact hk2 a1 (hE.sub (aEl g4 g6))
end
theorem aAy (γ:Lts)(p:Nat)(v:Value):aFl (aBK γ p v) p (γ.e p)=aBK γ p v:=aTf (aBK γ p v) p
def aUO (O:Array Oper)(i:Nat)(LL:Frm):Option (Op×Option Value×Option Value×Option Nat) :=
 match O[i]? with
 | some o=>match o.op.operands[0]?,o.op.operands[1]? with
  | some x,some y=>some (o.op,opv LL x,opv LL y,o.dst)
  | _,_=>none
 | none=>none
def aUN (O:Array Oper)(i:Nat)(f:Operand->Operand->Op)(v u:Value)(d:Option Nat):Option (Op×Option Value×Option Value×Option Nat) :=
 match O[i]? with
 | some o=>match o.op.operands[0]?,o.op.operands[1]? with
  | some x,some y=>some (f x y,some v,some u,d)
  | _,_=>some (f (.tmp 0) (.tmp 0),none,none,none)
 | none=>some (f (.tmp 0) (.tmp 0),none,none,none)
variable{LL:Frm}
theorem aK8 {f:Operand->Operand->Op}{n:Nat}(ho:O[i]?=some o)(E:EnvS ds n LL a)(h:aUO O i LL=aUN O i f v u d):∃x y,o.op=f x y/\a.eval x=v/\a.eval y=u/\o.dst=d:=by
 unfold aUO aUN at h;rw[ho] at h;simp only at h
 split at h
 ·rename_i x y hx hy;simp only[Gk_,Prod.mk.injEq] at h;exact⟨x,y,h.1,E.opv h.2.1,E.opv h.2.2.1,h.2.2.2⟩
 ·cases h
def aUM (O:Array Oper)(i:Nat)(LL:Frm):Option (Op×Option Value×Option Value×Option Value×Option Nat) :=
 match O[i]? with
 | some o=>match o.op.operands[0]?,o.op.operands[1]?,o.op.operands[2]? with
  | some x,some y,some z=>some (o.op,opv LL x,opv LL y,opv LL z,o.dst)
  | _,_,_=>none
 | none=>none
def aUL (O:Array Oper)(i:Nat)(f:Operand->Operand->Operand->Op)(v u t:Value)(d:Option Nat):Option (Op×Option Value×Option Value×Option Value×Option Nat) :=
 match O[i]? with
 | some o=>match o.op.operands[0]?,o.op.operands[1]?,o.op.operands[2]? with
  | some x,some y,some z=>some (f x y z,some v,some u,some t,d)
  | _,_,_=>some (f (.tmp 0) (.tmp 0) (.tmp 0),none,none,none,none)
 | none=>some (f (.tmp 0) (.tmp 0) (.tmp 0),none,none,none,none)
theorem aK7 {f:Operand->Operand->Operand->Op}{t:Value}{n:Nat}(ho:O[i]?=some o)(E:EnvS ds n LL a)(h:aUM O i LL=aUL O i f v u t d):∃x y z,o.op=f x y z/\a.eval x=v/\a.eval y=u/\a.eval z=t/\o.dst=d:=by
 unfold aUM aUL at h;rw[ho] at h;simp only at h
 split at h
 ·rename_i x y z hx hy hz;simp only[Gk_,Prod.mk.injEq] at h;exact⟨x,y,z,h.1,E.opv h.2.1,E.opv h.2.2.1,E.opv h.2.2.2.1,h.2.2.2.2⟩
 ·cases h
def aVs (O:Array Oper)(i:Nat)(LL:Frm):Option (Op×Option Value×Option Nat) :=
 match O[i]? with
 | some o=>match o.op.operands[0]? with
  | some x=>some (o.op,opv LL x,o.dst)
  | _=>none
 | none=>none
def aVr (O:Array Oper)(i:Nat)(f:Operand->Op)(v:Value)(d:Option Nat):Option (Op×Option Value×Option Nat) :=
 match O[i]? with
 | some o=>match o.op.operands[0]? with
  | some x=>some (f x,some v,d)
  | _=>some (f (.tmp 0),none,none)
 | none=>some (f (.tmp 0),none,none)
theorem aNb {f:Operand->Op}{n:Nat}(ho:O[i]?=some o)(E:EnvS ds n LL a)(h:aVs O i LL=aVr O i f v d):∃x,o.op=f x/\a.eval x=v/\o.dst=d:=by
 unfold aVs aVr at h;rw[ho] at h;simp only at h
 split at h
 ·rename_i x hx;simp only[Gk_,Prod.mk.injEq] at h;exact⟨x,h.1,E.opv h.2.1,h.2.2⟩
 ·cases h
def opX (P:Program)(w:World)(O:Array Oper)(i:Nat)(LL:Frm):Option (Option Nat×Except Unit (Next×World)) :=
 match O[i]? with
 | some o=>bif aDt LL o.op&&(match o.op with|.select _ _=>false|_=>true) then(match(execOp (rho LL) o).run P w with
  | .ok x w'=>some (o.dst,.ok (x,w'))
  | _=>none) else none
 | none=>none
theorem aRZ {P:Program}{n:Nat}{x:Next}(ho:O[i]?=some o)(E:EnvS ds n LL a)(h:opX P w O i LL=some (d,.ok (x,w'))):o.dst=d/\(execOp a.eval o).run P w=.ok x w':=by
 unfold opX at h;rw[ho] at h;simp only at h
 cases hc:(aDt LL o.op&&(match o.op with|.select _ _=>false|_=>true)) with
 | false=>rw[hc] at h;cases h
 | true =>
  rw[hc] at h;simp only[cond_true] at h;rw[Ga_] at hc
  split at h
  ·rename_i y w1 hr;simp only[Gk_,Prod.mk.injEq,Except.ok.injEq] at h;obtain⟨h1,rfl,rfl⟩:=h;exact⟨h1,by rw[aEV E hc.1 (λcs b e=>by have h2:=hc.2;rw[e] at h2;cases h2)];exact hr⟩
  ·cases h
theorem Mm.nl (h:Mm F0 w0 w M):Mm F0 w0 w (M++[aEB]):=h.add (Fr.refl _ _) _ trivial λk e=>e.elim
variable{K:Act->World->Prop}
section
variable{P:Program}{n:Nat}{L:Frm}{r:Nat}{ef:List Nat}{V:Lts->List (Option Value)}{F:Lts->List Ft}{Mf:Lts->List Bool->List Ent}
abbrev flg (B:Code)(r:Nat)(ef:List Nat)(i:Nat)(fr:Nat->Bool):List Bool:=aRq (aLZ (aFz (aA9 B r) (aA9 B r).size) ef i) fr 0
theorem aGV {w:World}(hr:(execOp a.eval o).run P w=.ok .skip w')(hd:o.dst=none)(hK:K a w'):o.wpIn (fen rd) 0 P a w K Q:=by
 exact aMP hr hd hK
theorem aDz {w:World}(hr:(execOp a.eval o).run P w=.ok (.value v) w')(hK:K (a.put o.dst v) w'):o.wpIn (fen rd) 0 P a w K Q:=by
 exact aF1 hr hK
theorem aC2 (p i:Nat)(T:TypeId)(j k:Nat)(b:Lts->Nat)(cs:Lts->List Bool->Array Value)(T0:TypeId)(v:Lts->Value)
  (hj:∀γ fr,(Mf γ (flg B r ef i fr))[j]?=some (bk (b γ) (cs γ (flg B r ef i fr)) T0):=by intro γ fr;kernel_rfl)
  (hm:∀γ fr,(Mf γ (flg B r ef i fr)).set j (bk (b γ) (aJ9 (cs γ (flg B r ef i fr)) k (v γ).cells.toList) T0)=Mf (aBK γ p undef) ((flg B r ef i fr).set p true):=by intro γ fr;kernel_rfl)
  (hT:∀γ fr,(Nat.ble (k+(v γ).cells.size) (cs γ (flg B r ef i fr)).size,(v γ).cells.toList.all (·.oneCell'),(P.info? T).map (·.size),((V (aBK γ p undef))[p]?).getD none)=(true,true,some (v γ).cells.size,none):=by intro γ fr;kernel_rfl)
  (hs:∀γ,aUO (aA9 B r) i (frX P w n B r L ef V F i γ)=aUN (aA9 B r) i (λx y =>.store T x y) (vP (b γ) k) (v γ) none:=by intro γ;kernel_rfl):Arm rd P w n B r L ef V F ds F0 w0 Mf p i:=by
 intro γ fr a wm Q o ho E hw hM;obtain⟨x,y,h1,h2,h3,h4⟩:=aK8 ho E (hs γ);have ht:=hT γ fr;simp only[Prod.mk.injEq] at ht;obtain⟨t1,t2,t3,t4⟩:=ht;have t1:=Nat.le_of_ble_eq_true t1;obtain⟨w',g1,g2,g3⟩:=aA8 (P:=P) (v γ).cells.toList (k:=k) (i:=0) (hM.get j (hj γ fr)) (by simpa using t1) t2;have hM':=hM.put j (hj γ fr) g3 (λk _ e=>e) (e':=bk (b γ) (aJ9 (cs γ (flg B r ef i fr)) k (v γ).cells.toList) T0) g2 λk e =>.inl e;rw[hm] at hM';refine aGV (w':=w') ?_ h4 ⟨undef,γ.e p,by rw[aAy,t4];rfl,by rw[aAy];exact hM'⟩;obtain⟨q,hi,hs⟩:=Option.map_eq_some_iff.1 t3;have hs:q.size=(v γ).cells.size:=hs;simp only[execOp,h1,h2,h3,Instr.storeAt,Instr.sureAddr,storeVar,sizeOf,typeInfo];generalize (v γ).cells=c at *;simp[go_sem,hi,hs,g1]
theorem aDb (p i j d:Nat)(cs:Lts->Array Value)(T0:TypeId)(vf:Nat->Value)
  (hj:∀γ fr,(Mf γ (flg B r ef i fr))[j]?=some aEB:=by intro γ fr;kernel_rfl)
  (hm:∀γ fr (b:Nat),(Mf γ (flg B r ef i fr)).set j (bk b (cs γ) T0)=Mf (aBK γ p (vI (b:Int))) ((flg B r ef i fr).set p true):=by intro γ fr b;kernel_rfl)
  (hV:∀γ (b:Nat),((V (aBK γ p (vI (b:Int))))[p]?).getD none=some (vf b):=by intro γ b;rfl)
  (hs:∀γ wm,opX P wm (aA9 B r) i (frX P w n B r L ef V F i γ)=some (some d,.ok (.value (vf wm.heap.size),wm.alloc (.cells (cs γ) T0))):=by intro γ wm;kernel_rfl):Arm rd P w n B r L ef V F ds F0 w0 Mf p i:=by
 intro γ fr a wm Q o ho E hw hM;obtain⟨h1,h2⟩:=aRZ ho E (hs γ wm);have hM':=hM.put j (hj γ fr) ((Fr.refl nF_ wm).alloc (.cells (cs γ) T0)) (λk _ e=>e.elim) (e':=bk wm.heap.size (cs γ) T0) (aAl _ _) λk e =>.inr (by have:k=wm.heap.size:=e;omega);rw[hm] at hM';exact aDz h2 ⟨_,γ.e p,by rw[aAy,hV,h1];rfl,by rw[aAy];exact hM'⟩
theorem aU0 (p i:Nat)(T:TypeId)(j k d:Nat)(b:Lts->Nat)(cs:Lts->List Bool->Array Value)(T0:TypeId)(v:Lts->Value)
  (hj:∀γ fr,(Mf γ (flg B r ef i fr))[j]?=some (bk (b γ) (cs γ (flg B r ef i fr)) T0):=by intro γ fr;kernel_rfl) (hv:∀γ fr,(cs γ (flg B r ef i fr))[k]?=some (v γ):=by intro γ fr;kernel_rfl)
  (hm:∀γ fr,Mf γ (flg B r ef i fr)=Mf (aBK γ p undef) ((flg B r ef i fr).set p true):=by intro γ fr;kernel_rfl)
  (hV:∀γ,((V (aBK γ p undef))[p]?).getD none=some (v γ):=by intro γ;rfl) (hT:scT P T=true:=by kernel_rfl)
  (hs:∀γ,aVs (aA9 B r) i (frX P w n B r L ef V F i γ)=aVr (aA9 B r) i (.load T) (vP (b γ) k) (some d):=by intro γ;kernel_rfl):Arm rd P w n B r L ef V F ds F0 w0 Mf p i:=by
 intro γ fr a wm Q o ho E hw hM;obtain⟨x,h1,h2,h3⟩:=aNb ho E (hs γ);have hl:=aFF (P:=P) hT (bx (hM.get j (hj γ fr)) k (hv γ fr));rw[hm] at hM;refine aDz (v:=v γ) (w':=wm) ?_ ⟨undef,γ.e p,by rw[aAy,hV,h3];rfl,by rw[aAy];exact hM⟩;simp only[execOp,h1,h2,Sem.run_bind,hl,Result.andThen_ok,Sem.run_pure]
theorem aPp (p i:Nat)(T:TypeId)(j:Nat){K e:TypeId}(b:Lts->Nat)(c:Nat)(m:Value->Option Value)(key v:Lts->Value)(LK:Maps.Keyed P K)(ht:P.underlying T=some (.map K e))(hk:∀γ,∃l,keyOf P K (key γ)=some l)
  (hj:∀γ fr,(Mf γ (flg B r ef i fr))[j]?=some (mp P K (b γ) c m):=by intro γ fr;kernel_rfl)
  (hm:∀γ fr,(Mf γ (flg B r ef i fr)).set j (mp P K (b γ) (c+1) (upd m (key γ) (v γ)))=Mf (aBK γ p undef) ((flg B r ef i fr).set p true):=by intro γ fr;kernel_rfl)
  (hV:∀γ,((V (aBK γ p undef))[p]?).getD none=none:=by intro γ;rfl)
  (hs:∀γ,aUM (aA9 B r) i (frX P w n B r L ef V F i γ)=aUL (aA9 B r) i (λx y z =>.mapUpdate T x y z) (.map (some (b γ))) (key γ) (v γ) none:=by intro γ;kernel_rfl):Arm rd P w n B r L ef V F ds F0 w0 Mf p i:=by
 intro γ fr a wm Q o ho E hw hM;obtain⟨x,y,z,h1,h2,h3,h4,h5⟩:=aK7 ho E (hs γ);obtain⟨l,hk⟩:=hk γ;have hmm:aDS P K wm (b γ) c m:=hM.get j (hj γ fr);obtain⟨ob,hob⟩:=hmm.store LK ht hk (v γ);obtain⟨g1,g2⟩:=hob wm rfl;have hM':=hM.put (w':=setBlk wm (b γ) ob) j (e':=mp P K (b γ) (c+1) (upd m (key γ) (v γ))) (hj γ fr) ((Fr.refl (λr=>r=b γ) wm).setBlk (λ_=>rfl) ob) (λk _ e=>e) (g2.mono (by split<;>omega)) (λk e =>.inl e);rw[hm] at hM';refine aGV (w':=setBlk wm (b γ) ob) (by simp only[execOp,h1,h2,h3,h4,Sem.run_bind,g1,Result.andThen_ok,Sem.run_pure]) h5 ⟨undef,γ.e p,by rw[aAy,hV];rfl,by rw[aAy];exact hM'⟩
end
end Go.Pl
namespace Go.Proofs.YtngjlnhojicjeaaGreatDoor
open Go.RowKit Go.Pl
abbrev u9_:=Tryz.underlying9
abbrev u3_:=Tryz.underlying3
abbrev u145_:=Tryz.underlying145
abbrev u29_:=Tryz.underlying29
abbrev u164_:=Tryz.underlying164
abbrev u45_:=Tryz.underlying45
abbrev u22_:=Tryz.underlying22
abbrev u46_:=Tryz.underlying46
abbrev u180_:=Tryz.underlying180
abbrev u90_:=Tryz.underlying90
abbrev u97_:=Tryz.underlying97
abbrev u159_:=Tryz.underlying159
abbrev u106_:=Tryz.underlying106
abbrev u95_:=Tryz.underlying95
abbrev u69_:=Tryz.underlying69
abbrev u223_:=Tryz.underlying223
abbrev u222_:=Tryz.underlying222
abbrev Tag:=Bys×Bys
structure Ob where
  id:Bys
  kind:Int
  x:Int
  y:Int
  refs:List Bys
  tags:List Tag
structure ObR where
  o:Ob
  pr:Option Addr
  cr:Nat
  pt:Option Addr
  ct:Nat
def stL (s:Bys):List Value:=[vS s]
def tgL (t:Tag):List Value:=[vS t.1,vS t.2]
def obL (b:ObR):List Value:=[vS b.o.id,vI b.o.kind,vI b.o.x,vI b.o.y,vL b.pr b.o.refs.length b.cr,vL b.pt b.o.tags.length b.ct]
abbrev StV:=Src stL 1
abbrev TgV:=Src tgL 2
def B63 (s:Bys):Prop:=s.length<=9223372036854775807
structure ObB (o:Ob):Prop where
  id:B63 o.id
  refs:∀s∈o.refs,B63 s
  tags:∀t∈o.tags,B63 t.1/\B63 t.2
structure ObIn (w:World)(b:ObR):Prop where
  refs:SrcP stL 1 w b.pr b.cr b.o.refs
  tags:SrcP tgL 2 w b.pt b.ct b.o.tags
  bnd:ObB b.o
variable{w:World}
theorem ObIn.fr {w':World}{b:ObR}(h:ObIn w b)(f:Fr nF_ w w'):ObIn w' b:=⟨h.refs.fr f,h.tags.fr f,h.bnd⟩
theorem aE2 {s:Bys}(h:B63 s):∃l,keyOf Tryz.prog 9 (vS s)=some l:=⟨_,WideMaps.keyOf_string_mk u9_ (by rw[aCU];exact h)⟩
theorem aEi:Maps.Keyed Tryz.prog 9:=Maps.string_keyed u9_
def aCt (w:World)(v:Value)(l:List ObR):Prop:=Src obL 6 w v l/\∀b∈l,ObIn w b
variable{v:Value}
theorem aCt.fr {w':World}{l:List ObR}(h:aCt w v l)(f:Fr nF_ w w'):aCt w' v l:=⟨h.1.fr f,λb hb=>(h.2 b hb).fr f⟩
def aAa (l:List ObR):List Ob:=l.map (·.o)
theorem aAK {l:List ObR}{i:Nat}{y:ObR}(h:l[i]?=some y):(aAa l)[i]?=some y.o:=by unfold aAa;rw[Gr_,h];rfl
theorem aAT (l:List ObR):(aAa l).length=l.length:=by unfold aAa;simp
def aAE (l:List Tag)(k:Bys):Bys×Bool:=match l with
  | []=>([],false)
  | t::l=>bif t.1==k then(t.2,true) else aAE l k
abbrev A57 (Z:Ending->World->Prop):=AtO Tryz.prog (aAv Tryz.f17) (aAI (bodyPost Tryz.prog Tryz.f17 Z)) [] 21
theorem aEk {l:List Tag}(hl:TgV w v l)(k:Bys):Calls Tryz.prog 17 #[v,vS k] w λe w'=>e=.returned (.tuple #[vS (aAE l k).1,vB (aAE l k).2])/\Fr nF_ w w':=by
  obtain⟨p0,cp0,hp0,sp0⟩:=hl.op;subst hp0;have bp0:=sp0.bnd;refine beg Tryz.func17 rfl rfl [(0,vL p0 l.length cp0),(1,vS k)] rfl rfl λZ hZ=>?_;have hM:=Mm.nil nF_ w;refine seg 2 0 [(8,vL p0 l.length cp0),(9,vI (l.length:Int)),(10,vI 0)] f0 ?_
  have lp1:∀(m3:Nat)(i:Nat)(w2:World),i<=l.length->aAE l k=aAE (l.drop i) k->Mm nF_ w w2 []->m3=l.length-i->A57 Z (some (2,0)) [(10,vI (i:Int)),(9,vI (l.length:Int)),(8,vL p0 l.length cp0),(1,vS k)] w2:=by
   refine aCh λm3 ih2 i w2 hi hv hM hm3=>seg 2 1 [(11,vB (decide ((i:Int)<(l.length:Int))))] f0 ?_;cases h4:(decide ((i:Int)<(l.length:Int)))
   ·have rh4:=df h4;exact rt2 4 5 (vS []) (vB false) rfl rfl f0 (hZ _ _ ⟨by rw[hv,List.drop_of_length_le oM];rfl,hM.fr⟩)
   have rh4:=dt h4;obtain⟨y,hy,g5,o5,q5,r5⟩:=sp0.el (i:=i) oM;refine aBW 3 2 7 [(13,.agg #[vS y.1,vS y.2])] [] 72 (.agg #[vS y.1,vS y.2]) (fc (ix 46 cp0 q5 (gl hy)) (fc (la0 72 hM r5) f0)) hM λb6 w1 hM=>seg 4 4 [(17,vB (y.1==k))] (fc (ldm 9 0 0 hM rfl rfl) (fc (seq 9 y.1 k) f0)) ?_;cases h7:(y.1==k)
   ·refine seg 2 0 [(10,vI ((i:Int)+1))] (fc (aAP (i:Int) 1 u3_) f0) (aAi _ (ih2 _ oM (i+1) _ (gl hy) (by rw[hv,gd hy,aAE,h7];rfl) (hM.pick []) rfl))
   exact rt2 4 5 (vS y.2) (vB true) rfl rfl (fc (ldm 9 0 1 hM rfl rfl) f0) (hZ _ _ ⟨by rw[hv,gd hy,aAE,h7];rfl,hM.fr⟩)
  exact aAi _ (lp1 _ 0 _ (Gg_ _) rfl hM rfl)
end Go.Proofs.YtngjlnhojicjeaaGreatDoor
