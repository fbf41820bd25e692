/- Part 3 of the proof. -/
import Derived.Test.YtbflfefahheidaaGreatDoorM2
import Derived.Shelf.Strconv.AtoiAll
set_option linter.unusedVariables false
set_option linter.unusedSimpArgs false
namespace Go.Proofs.YtbflfefahheidaaGreatDoor
open Go.RowKit Go.Pl Go.Sort Go.Shelf
abbrev spA (s:Sp):Array Value:=#[.int .i64 s.1,.int .i64 s.2]
theorem aTs (s:Sp):∀ u∈spL s,u.oneCell'=true:=by unfold spL;simp [Value.oneCell']
theorem aUd:(Tryz.prog.info? 141).map (·.size)=some 2:=by kernel_rfl
abbrev oSp:=ow spL 2 141
section
variable {w:World}{b k:Nat}{cs:Array Value}{T:TypeId}
theorem aWV (h:w.heap[b]?=some (.cells cs T (0,0))) (k:Nat) {p:Sp}(h0:cs[k]?=some (.int .i64 p.1)) (h1:cs[k+1]?=some (.int .i64 p.2)):w.rangeAt b k (spL p):=by
  intro j v hv
  rw [aA0 h]
  match j,hv with
  | 0,hv=>rw [←Option.some.inj hv];exact h0
  | 1,hv=>rw [←Option.some.inj hv];exact h1
  | j+2,hv=>simp [spL] at hv
end
section
variable {o:Oper}{w:World}{ρ:Operand→Value}{x y z:Operand}{g off k n cap i:Nat}{p:Option Addr}{v u:Value}{m b:Nat}
theorem aV7 (ho:o.op = .fieldAddr 141 x 0) (hx:ρ x = .pointer (some ⟨g,off,none⟩)):(execOp ρ o).run Tryz.prog w = .ok (.value (.pointer (some ⟨g,off+0,none⟩))) w:=by simp [execOp,ho,hx,go_sem]
theorem aLH {s:Sp}(ho:o.op = .load 141 x) (hx:ρ x = .pointer (some ⟨g,off,none⟩)) (h:w.rangeAt g off (spL s)):(execOp ρ o).run Tryz.prog w = .ok (.value (.agg (spA s))) w:=by
  have:=run_loadAt_mid (P:=Tryz.prog) w g off 141 (spA s).toList _ h Tryz.underlying141 rfl aUd
  simp only [execOp,ho,hx,Sem.run_bind,this,Result.andThen_ok,Sem.run_pure]
theorem aGt {s:Sp}(ho:o.op = .box 141 x) (hx:ρ x = .agg (spA s)):(execOp ρ o).run Tryz.prog w = .ok (.value (.pointer (some ⟨w.heap.size,0,none⟩))) (w.alloc (.cells (spA s) 141)):=by
  simp [execOp,ho,hx,go_sem]
theorem aTy {n:Int}(ho:o.op = .load 3 x) (hx:ρ x = .pointer (some ⟨g,off,none⟩)) (hc:w.cell? ⟨g,off,none⟩=some (.int .i64 n)):(execOp ρ o).run Tryz.prog w = .ok (.value (.int .i64 n)) w:=by
  simp [execOp,ho,hx,go_sem,hc]
end
section
variable {P:Program}{o:Oper}{w:World}{ρ:Operand→Value}{f:FuncId}{ts:Array TypeId}{x y z:Operand}{u v:Value}{cs bs:Array Value}
theorem aH2 (eg:∀ args w,(callFunc f args).run P w = .ok (.enter f args) w) (ho:o.op = .call ⟨.value z,#[x],ts⟩) (hf:ρ z = .func (.func f) #[] cs) (hx:ρ x=v) (ha:#[v]++cs=bs):(execOp ρ o).run P w = .ok (.enter f bs) w:=by
 subst ha;simp [execOp,ho,hf,hx,eg,resolve,Deferred.ofValue,invoke,go_sem]
end
def Gw (w w':World):Prop:=∃ q os,w'=grow (w.drewN q) os
theorem aRB (w:World):grow w #[]=w:=by simp [grow]
theorem Gw.refl (w:World):Gw w w:=⟨0,#[],by rw [aRB];rfl⟩
theorem Gw.drew {w w':World}(h:Gw w w'):Gw w w'.drew:=by
  obtain ⟨q,os,rfl⟩:=h
  exact ⟨q+1,os,rfl⟩
theorem Gw.alloc {w w':World}(h:Gw w w') (o:Obj):Gw w (w'.alloc o):=by
  obtain ⟨q,os,rfl⟩:=h
  refine ⟨q,os++#[o],?_⟩
  simp [World.alloc,grow]
theorem Gw.trans {a b c:World}(h:Gw a b) (k:Gw b c):Gw a c:=by
  obtain ⟨q,os,rfl⟩:=h
  obtain ⟨q2,os2,rfl⟩:=k
  refine ⟨q+q2,os++os2,?_⟩
  simp [grow,World.drewN,Nat.add_assoc]
theorem Gw.fr {w w':World}(h:Gw w w'):Fr (fun _=>False) w w':=by
  obtain ⟨q,os,rfl⟩:=h
  refine ⟨rfl,rfl,rfl,?_,fun r hr _=>?_⟩
  · simp [grow,World.drewN]
  · simp only [grow,World.drewN]
    rw [Array.getElem?_append_left hr]
set_option maxHeartbeats 1000000 in
section
variable {α:Type}[Inhabited α] {c:Nat}{f:α→List Value}{T:TypeId}
def aWD (f:α→List Value) (c:Nat) (cur:Array Value) (L:List α):Prop:=∀ t x,L[t]?=some x→∀ j u,(f x)[j]?=some u→cur[t*c+j]?=some u
theorem aP4 {l:List Value}{j:Nat}{u:Value}(h:l[j]?=some u):l[j]! = u:=by rw [List.getElem!_eq_getElem?_getD,h];rfl
theorem aNp (hc:0<c) (hf:∀ x,(f x).length=c) {w:World}{g:Nat}{cur:Array Value}{L:List α}(hb:w.heap[g]?=some (.cells cur T (0,0))) (h:aWD f c cur L):HoldsK f c w g 0 L.toArray:=by
  intro t ht
  rw [size_flatK] at ht
  simp only [List.size_toArray] at ht
  have hq:t / c<L.length:=by rw [Nat.div_lt_iff_lt_mul hc];exact ht
  have hm:t%c<c:=Nat.mod_lt _ hc
  obtain ⟨x,hx⟩:∃ x,L[t / c]?=some x:=⟨_,List.getElem?_eq_getElem hq⟩
  obtain ⟨u,hu⟩:∃ u,(f x)[t%c]?=some u:=⟨_,List.getElem?_eq_getElem (by rw [hf];exact hm)⟩
  refine ⟨?_,aGH hb _⟩
  rw [get_flatK f c L.toArray t (by simpa using ht)]
  have e1:L.toArray[t / c]! = x:=by
    rw [Array.getElem!_eq_getD,Array.getD_eq_getD_getElem?]
    simp [hx]
  rw [e1,aP4 hu,Nat.zero_add,aA0 hb]
  have:=h (t / c) x hx (t%c) u hu
  rw [Nat.mul_comm,Nat.div_add_mod] at this
  exact this
theorem aGB (hf:∀ x,(f x).length=c) {w:World}{g:Nat}{cur:Array Value}{L:List α}(hb:w.heap[g]?=some (.cells cur T (0,0))) (hsz:L.length*c≤cur.size) (m:Nat) (os:Array Obj) :
    ∃ cur',(sortWorldK f c w g 0 m L.toArray os).heap[g]?=some (.cells cur' T (0,0))∧cur'.size=cur.size∧aWD f c cur' L∧Fr (fun k=>k=g) w (sortWorldK f c w g 0 m L.toArray os):=by
  have hlt:=aAj hb
  have hmod:(mapBlock (Sort.ahead w m) g (putCells id 0 (flatK f c L.toArray))).heap[g]?=some (.cells (putCells id 0 (flatK f c L.toArray) cur) T (0,0)):=by
    unfold mapBlock
    simp only [Array.getElem?_modify,if_true]
    show Option.map _ w.heap[g]?=_
    rw [hb];rfl
  have hsize:(mapBlock (Sort.ahead w m) g (putCells id 0 (flatK f c L.toArray))).heap.size=w.heap.size:=by
    unfold mapBlock Sort.ahead;simp
  refine ⟨putCells id 0 (flatK f c L.toArray) cur,?_,?_,?_,?_⟩
  · unfold sortWorldK putRowK putRow grow
    simp only
    rw [Array.getElem?_append_left (by rw [hsize];exact hlt)]
    exact hmod
  · unfold putCells;simp
  · intro t x hx j u hu
    have hj:j<c:=by rw [←hf x];exact (List.getElem?_eq_some_iff.1 hu).1
    have ht:=(List.getElem?_eq_some_iff.1 hx).1
    have hlt2:t*c+j<L.length*c:=by
      have:t*c+c≤L.length*c:=by rw [←Nat.succ_mul];exact Nat.mul_le_mul_right c ht
      omega
    unfold putCells
    rw [Array.getElem?_mapIdx,Array.getElem?_eq_getElem (by omega)]
    simp only [Option.map_some,size_flatK,List.size_toArray,Nat.zero_add,Nat.zero_le,true_and,Nat.sub_zero,if_pos hlt2,id]
    rw [get_flatK f c L.toArray _ (by simpa using hlt2)]
    have e1:(t*c+j) / c=t:=by
      rw [Nat.mul_comm,Nat.mul_add_div (by omega),Nat.div_eq_of_lt hj,Nat.add_zero]
    have e2:(t*c+j)%c=j:=by rw [Nat.mul_comm,Nat.mul_add_mod,Nat.mod_eq_of_lt hj]
    rw [e1,e2]
    have e3:L.toArray[t]! = x:=by
      rw [Array.getElem!_eq_getD,Array.getD_eq_getD_getElem?]
      simp [hx]
    rw [e3,aP4 hu]
  · unfold sortWorldK putRowK putRow grow
    refine ⟨rfl,rfl,rfl,?_,fun r hr hne=>?_⟩
    · simp only [Array.size_append];rw [hsize];omega
    · simp only
      rw [Array.getElem?_append_left (by rw [hsize];exact hr)]
      unfold mapBlock
      simp only [Array.getElem?_modify]
      rw [if_neg (fun e=>hne e.symm)];rfl
end
theorem aUU {α:Type}{lt:α→α→Bool}(a b:α→Int) (h:∀ x y,lt x y=true↔a x<a y∨a x=a y∧b x<b y):SWO lt:=by
  have h':∀ x y,lt x y=false↔¬ (a x<a y∨a x=a y∧b x<b y):=fun x y=>by rw [←h,Bool.not_eq_true]
  refine ⟨fun x=>?_,fun x y z h1 h2=>?_,fun x y z h1 h2=>?_⟩
  · rw [h'];omega
  · rw [h] at *;omega
  · rw [h'] at *;omega
section
variable {α:Type}[Inhabited α]
theorem aRh {d d':Array α}(h:PermIn 0 d.size d d'):d'.toList.Perm d.toList:=by
  have h1:=h.2.2
  have e1:d.extract 0 d.size=d:=by simp
  have e2:d'.extract 0 d.size=d':=by rw [←h.1];simp
  rwa [e1,e2] at h1
theorem aMJ {lt:α→α→Bool}{d':Array α}{n:Nat}(hn:d'.size=n) (h:SortedIn lt 0 n d'):d'.toList.Pairwise fun x y=>lt y x=false:=by
  rw [List.pairwise_iff_getElem]
  intro i j hi hj hij
  have:=h i j (Nat.zero_le _) hij (by rw [←hn];simpa using hj)
  rw [getElem!_pos d' i (by simpa using hi),getElem!_pos d' j (by simpa using hj)] at this
  simpa using this
end
section
variable {P:Program}{O:Array Oper}{Q:Exit→Act→World→Prop}{rest:List Oper}{o:Oper}{a:Act}{w:World}{n d:Nat}{L:List (Nat×Value)}{x y:Operand}{b:Nat}{ds:List Deferred}
theorem aIG {T:TypeId}{cs:Array Value}(E:EnvD ds n L a) (hd:o.dst=some d) (hn:d<n) (hf:(L.map (·.1)).contains d=false) (hw:Region.wanted o (yielded O a.tmps)=true) (hr:(execOp a.eval o).run P w = .ok (.value (.pointer (some ⟨w.heap.size,0,none⟩))) (w.alloc (.cells cs T)))
    (k:∀ a' w' b,w.heap.size=b→w'.heap[b]?=some (.cells cs T (0,0))→Gw w w'→EnvD ds n ((d,.pointer (some ⟨b,0,none⟩))::L) a'→wpList P O Q rest a' w'):wpList P O Q (o::rest) a w :=
  aLh E hd hn hf hw hr fun a' E'=>k a' _ _ rfl (aBd _ _) ((Gw.refl _).alloc _) E'
end
theorem aLG {o:Oper}{w:World}{ρ:Operand→Value}{x:Operand}{g off:Nat}{v:Value}(ho:o.op = .load 209 x) (hx:ρ x = .pointer (some ⟨g,off,none⟩)) (hc:w.cell? ⟨g,off,none⟩=some v):(execOp ρ o).run Tryz.prog w = .ok (.value v) w:=by
  simp [execOp,ho,hx,go_sem,hc]
theorem aVI (x y:Int) (w:World):Calls Tryz.prog 133 #[.int .i64 x,.int .i64 y] w fun e w'=>e = .returned (.int .i64 (Lib.compareInt x y))∧Gw w w':=(Tryz.cmp_Compare_int x y w).mono fun e w' h=>⟨h.1,by rw [h.2];exact Gw.refl _⟩
set_option maxRecDepth 100000 in
set_option maxHeartbeats 4000000 in
theorem aJJ (s:Sp) (w:World):Calls Tryz.prog 126 #[.agg (spA s)] w fun e w'=>e = .returned (.int .i64 s.1)∧Gw w w':=by
  refine aNM Tryz.func126 rfl rfl (n:=5) (by decide) fun a E=>?_
  have hf:Gw w w:=Gw.refl _
  refine s_ (r_ (aIG (d:=1) E rfl (by decide) rfl (aAL rfl _) (aGt rfl E.g0) fun a w1 b1 eb1 hb1 f1 E=>?_))
  have hnb1:w.heap.size≤b1:=by have:=hf.fr.size;omega
  have hf:=hf.trans f1
  clear f1
  refine ep (v := .int .i64 0) E rfl (a_ rfl rfl) fun a E=>n_ (t_ (s_ (r_ (ep (v := .pointer (some ⟨b1,0,none⟩)) E rfl (aV7 rfl E.g1) fun a E=>ep (v := .int .i64 s.1) E rfl (aTy rfl E.g0 (bx hb1 0 rfl)) fun a E=>es_ E rfl (a_ rfl E.g0) fun a E=>n_ (t_ (wr_ (aKF (t:=2) rfl E E.g0 ⟨rfl,hf⟩)))))))
set_option maxRecDepth 100000 in
set_option maxHeartbeats 4000000 in
theorem aLk {c3:Nat}(s t:Sp) {w:World}(hc3:w.heap[c3]?=some (.cells #[.func (.func 126) #[] #[]] 209 (0,0))):Calls Tryz.prog 161 #[.agg (spA s),.agg (spA t),.pointer (some ⟨c3,0,none⟩)] w fun e w'=>e = .returned (.int .i64 (Lib.compareInt s.1 t.1))∧Gw w w':=by
  refine aNL Tryz.func161 rfl rfl (n:=13) (by decide) fun a E=>?_
  have hf:Gw w w:=Gw.refl _
  refine s_ (r_ (aIG (d:=3) E rfl (by decide) rfl (aAL rfl _) (aGt rfl E.g0) fun a w1 b2 eb2 hb2 f1 E=>?_))
  have hnb2:w.heap.size≤b2:=by have:=hf.fr.size;omega
  have hc3:=f1.fr.obj hc3 id
  have hf:=hf.trans f1
  clear f1
  refine aIG (d:=4) E rfl (by decide) rfl (aAL rfl _) (aGt rfl E.g2) fun a w1 b3 eb3 hb3 f1 E=>?_
  have hnb3:w.heap.size≤b3:=by have:=hf.fr.size;omega
  have hlb2b3:b2<b3:=by have:=aAj hb2;omega
  have hc3:=f1.fr.obj hc3 id
  have hb2:=f1.fr.obj hb2 id
  have hf:=hf.trans f1
  clear f1
  refine ep (v := .int .i64 0) E rfl (a_ rfl rfl) fun a E=>n_ (t_ (s_ (aHf (G:=Unit) () (n:=13) (base:=[(4,.pointer (some ⟨b3,0,none⟩)),(3,.pointer (some ⟨b2,0,none⟩)),(0,.agg (spA s)),(1,.agg (spA t)),(2,.pointer (some ⟨c3,0,none⟩))]) (U:=[(5,.int .i64 0,7)]) (T:=fun γ=>[some (6,.func (.func 126) #[] #[]),some (7,.agg (spA s)),some (8,.int .i64 s.1),some (9,.func (.func 126) #[] #[]),some (10,.agg (spA t)),some (11,.int .i64 t.1),some (12,.int .i64 (Lib.compareInt s.1 t.1)),some (5,.int .i64 (Lib.compareInt s.1 t.1))]) (M:=fun γ ls9 wm=>Gw w1 wm) (by kernel_rfl) (by kernel_rfl) (fun _=>by kernel_rfl) (E.of ⟨E.g1,E.g2,E.g3,E.g4,E.g5,trivial⟩) (fun x hx=>by simp only [List.mem_cons,List.not_mem_nil,or_false] at hx;subst hx;exact E.g0) (Gw.refl _).drew ?_ ?_)))
  · intro j9 o9 γ ls9 a w5 ho hl E D DL DL2 hB hM
    have hc3:=hM.fr.obj hc3 id
    have hb2:=hM.fr.obj hb2 id
    have hb3:=hM.fr.obj hb3 id
    match j9,ho,hl,D,DL,hB with
    | 0,ho,hl,D,DL,hB=>exact z0_ ho (aUN rfl (aLG rfl E.g4 (bx hc3 0 rfl)) rfl hM)
    | 1,ho,hl,D,DL,hB=>exact z0_ ho (aUN rfl (aLH rfl E.g1 (aWV (p:=s) hb2 0 rfl rfl)) rfl hM)
    | 2,ho,hl,D,DL,hB=>exact z0_ ho (aUz rfl (aH2 (enters_of Tryz.func126 (by kernel_rfl) rfl) rfl (D 0 _ rfl rfl) (D 1 _ rfl rfl) rfl) (aJJ s _) rfl fun w9 f1=>hM.trans f1)
    | 3,ho,hl,D,DL,hB=>exact z0_ ho (aUN rfl (aLG rfl E.g4 (bx hc3 0 rfl)) rfl hM)
    | 4,ho,hl,D,DL,hB=>exact z0_ ho (aUN rfl (aLH rfl E.g0 (aWV (p:=t) hb3 0 rfl rfl)) rfl hM)
    | 5,ho,hl,D,DL,hB=>exact z0_ ho (aUz rfl (aH2 (enters_of Tryz.func126 (by kernel_rfl) rfl) rfl (D 3 _ rfl rfl) (D 4 _ rfl rfl) rfl) (aJJ t _) rfl fun w9 f1=>hM.trans f1)
    | 6,ho,hl,D,DL,hB=>exact z0_ ho (aUz rfl (aOB (enters_of Tryz.func133 (by kernel_rfl) rfl) rfl rfl (D 2 _ rfl rfl) (D 5 _ rfl rfl)) (aVI s.1 t.1 _) rfl fun w9 f1=>hM.trans f1)
    | 7,ho,hl,D,DL,hB=>exact z0_ ho (aUN rfl (a_ rfl (D 6 _ rfl rfl)) rfl hM)
    | j9+8,ho,hl,D,DL,hB=>exact absurd ho (by simp)
  · rintro _ a w5 E V hM
    have E:=E.add (v := .int .i64 (Lib.compareInt s.1 t.1)) (V 7 _ rfl)
    clear V
    have hc3:=hM.fr.obj hc3 id
    have hb2:=hM.fr.obj hb2 id
    have hb3:=hM.fr.obj hb3 id
    have hf:=hf.trans hM
    clear hM
    refine t_ (wr_ (aKF (t:=5) rfl E E.g0 ⟨rfl,hf⟩))
theorem aMu (x y:Int):Lib.compareInt x y<0↔x<y:=by
  have:=@aPO x y
  simpa using this
theorem aJu {w:World}{B c3:Nat}{v:Value}{L:List Sp}(hO:oSp w B v L) (hc3:w.heap[c3]?=some (.cells #[.func (.func 126) #[] #[]] 209 (0,0))) (hn:∀ k,v.ownBlock=some k→k≠c3) (hl:L.length≤20000) :
    Calls Tryz.prog 176 #[v,.func (.func 161) #[] #[.pointer (some ⟨c3,0,none⟩)]] w fun e w'=>e = .returned (.tuple #[])∧∃ L',L'.Perm L∧L'.Pairwise (fun x y=>x.1≤y.1)∧oSp w' B v L'∧Fr (fun k=>v.ownBlock=some k) w w':=by
  rcases hO.2 with ⟨rfl,h2⟩ | ⟨g,cap,cur,rfl,hB,h3,h4,h5,h6,h7⟩
  · have hL:L=[]:=List.eq_nil_of_length_eq_zero h2
    subst hL
    refine Calls.mono (AnyF.slices_SortFunc_none Tryz.sortSp none 0 _ w) ?_
    rintro e w' ⟨rfl,rfl⟩
    exact ⟨rfl,[],.refl _,.nil,hO,Fr.refl _ _⟩
  · have hgc:g≠c3:=hn g rfl
    have hO':SWO (ltOf fun x y:Sp=>Lib.compareInt x.1 y.1):=aUU (fun x=>x.1) (fun _=>0) fun x y=>by unfold ltOf;rw [decide_eq_true_iff,aMu];omega
    have hd:aWD spL 2 cur L:=by
      intro t x hx j u hu
      have hj:j<2:=(List.getElem?_eq_some_iff.1 hu).1
      have ht:=(List.getElem?_eq_some_iff.1 hx).1
      have:=aDi aGm L t x hx j hj
      rw [hu,←h7,List.getElem?_take_of_lt (by omega),Array.getElem?_toList] at this
      exact this
    have hsz:L.length*2≤cur.size:=by omega
    have:=AnyQ.slices_SortFunc Tryz.sortSp 2 (fun w=>Tryz.isAgg141 w) (fun w=>Tryz.sizeOf141 w) spL (fun _=>rfl) aTs (fun x y=>Lib.compareInt x.1 y.1) hO' 161 #[.pointer (some ⟨c3,0,none⟩)] g 0 cap L.toArray w (enters_of Tryz.func161 (by kernel_rfl) rfl) (fun m os dk hs x y=>by
      obtain ⟨cur',c1,c2,c3',c4⟩:=aGB (f:=spL) (c:=2) (T:=141) (fun _=>rfl) h3 (L:=dk.toList) (by simp only [Array.length_toList];rw [show dk.size=L.length by simpa using hs];exact hsz) m os
      have hc:=c4.obj hc3 (fun e=>hgc e.symm)
      exact aLk x y (by simpa using hc)) (aNp (f:=spL) (c:=2) (by omega) (fun _=>rfl) h3 hd) (aAj h3) (by simp;omega)
    refine Calls.mono this ?_
    rintro e w' ⟨he,d',m,os,hp,hs,rfl⟩
    have hp':=aRh hp
    have hs':=aMJ (hp.1) hs
    have hlen:d'.toList.length=L.length:=hp'.length_eq
    obtain ⟨cur',c1,c2,c3',c4⟩:=aGB (f:=spL) (c:=2) (T:=141) (fun _=>rfl) h3 (L:=d'.toList) (by rw [hlen];exact hsz) m os
    refine ⟨he,d'.toList,hp',hs'.imp fun {x y} hxy=>?_,⟨aCm aGm _,.inr ⟨g,cap,cur',by rw [hlen],hB,by simpa using c1,by rw [hlen];exact h4,h5,by rw [c2];exact h6,?_⟩⟩,(by simpa using c4:Fr (fun k=>k=g) w _).mono fun r _ hr=>by rw [hr];rfl⟩
    · unfold ltOf at hxy
      rw [decide_eq_false_iff_not,aMu] at hxy
      omega
    · apply List.ext_getElem?
      intro k
      by_cases hk:k<d'.toList.length*2
      · rw [List.getElem?_take_of_lt hk,Array.getElem?_toList]
        obtain ⟨x,hx⟩:∃ x,d'.toList[k / 2]?=some x:=⟨_,List.getElem?_eq_getElem (by omega)⟩
        have e:k=k / 2*2+k%2:=by omega
        have hm:k%2<2:=Nat.mod_lt _ (by omega)
        have:=aDi aGm d'.toList (k / 2) x hx (k%2) hm
        rw [←e] at this
        rw [this]
        obtain ⟨u,hu⟩:∃ u,(spL x)[k%2]?=some u:=⟨_,List.getElem?_eq_getElem (by rw [aGm];exact hm)⟩
        rw [hu]
        have:=c3' (k / 2) x hx (k%2) u hu
        rwa [←e] at this
      · rw [List.getElem?_eq_none (by simp at hk ⊢;omega),List.getElem?_eq_none (by rw [aCm aGm];omega)]
theorem aFH {w:World}{c3:Nat}{gf:Nat}{lb:Array Value}{L:List Sp}{Kp:(Nat→Prop)→World→Prop}(hl:L.length≤20000) (eg:aJb Tryz.prog gf) (hY:aN9 Tryz.prog gf lb (aSj L) Kp) (hK:∀ G W,(∀ k,G k→w.heap.size≤k)→Fr (fun _=>False) w W→Kp G W) (hc3:w.heap[c3]?=some (.cells #[.func (.func 126) #[] #[]] 209 (0,0))):Calls Tryz.prog 159 #[.func (.func gf) #[] lb,.func (.func 161) #[] #[vP c3 0]] w fun e w'=>∃ v L',e = .returned v∧L'.Perm L∧L'.Pairwise (fun x y=>x.1≤y.1)∧aHd spL 2 141 w w' v L'∧Fr (fun _=>False) w w':=by
  have hl2:=hl
  have hl:L.length≤300000000:=by omega
  refine beg Tryz.func159 rfl rfl [(0,.func (.func gf) #[] lb),(1,.func (.func 161) #[] #[vP c3 0])] rfl rfl fun Φ hΦ=>?_
  have hM:=Mm.nil (fun _=>False) w
  refine aMw 1 1 7 [(6,.func (.func gf) #[] lb)] (f:=spL) (c:=2) (E:=141) (A:=L) f0 hM (aIJ hl eg hY fun G W hG f=>hK G W (fun k h=>Nat.le_trans hM.fr.size (hG k h)) (hM.fr.trans' f fun _ _ h=>h)) fun u w1 hM=>?_
  obtain ⟨q40,c40,eq40,sq40⟩:=(hM.src (j:=0) rfl spT.len).op
  subst eq40
  refine cal 2 2 10 [(5,vL q40 L.length c40),(8,vL q40 L.length c40),(9,.func (.func 161) #[] #[vP c3 0])] (K:=fun u w8=>u = .tuple #[]∧∃ L',L'.Perm L∧L'.Pairwise (fun x y=>x.1≤y.1)∧oSp w8 0 (vL q40 L.length c40) L'∧Fr (fun k=>Value.ownBlock (vL q40 L.length c40)=some k) _ w8) f0 ((aJu (hM.get 0 rfl) (hM.fr.obj hc3 id) (fun k hk e=>by have:=hM.ge (List.mem_of_getElem? (show _[0]?=some _ from rfl)) hk;have:=aAj hc3;omega) hl2).mono fun e w9 ⟨h1,h2⟩=>⟨_,h1,rfl,h2⟩) fun u w1 ⟨hu,L',hp,hs,hO,f1⟩=>?_
  subst hu
  have hM:=hM.put 0 (e':=rw_ spL 2 141 (vL q40 L.length c40) L') rfl f1 (fun k _ h=>h) hO fun k h => .inl h
  exact rt1 4 (vL q40 L.length c40) rfl f0 (hΦ _ _ ⟨_,L',rfl,hp,hs,hM.nrow (j:=0) rfl,hM.fr⟩)
theorem aJt {w:World}{v:Value}{l:List Sp}(hl:SpV w v l) (hlen:l.length≤20000):Calls Tryz.prog 125 #[v,.func (.func 126) #[] #[]] w fun e w'=>∃ v L',e = .returned v∧L'.Perm l∧L'.Pairwise (fun x y=>x.1≤y.1)∧aHd spL 2 141 w w' v L'∧Fr (fun _=>False) w w':=by
  obtain ⟨p0,cp0,hp0,sp0⟩:=hl.op
  subst hp0
  refine beg Tryz.func125 rfl rfl [(0,vL p0 l.length cp0),(1,.func (.func 126) #[] #[])] rfl rfl fun Φ hΦ=>?_
  have hM:=Mm.nil (fun _=>False) w
  refine aAq 0 0 3 [] (cs:=#[.func (.func 126) #[] #[]]) (T:=209) (v:=fun b=>vP b 0) f0 hM fun aa w1 hM=>cal 1 1 6 [(5,vL p0 l.length cp0)] (K:=fun u w8=>∃ b,u = .func (.func 177) #[] #[vP b 0]∧w8.heap[b]?=some (.cells #[vL p0 (l.length) cp0] 48 (0,0))∧(World.heap _).size≤b∧Fr (fun _=>False) _ w8) f0 ((aJf p0 (l.length) cp0 _).mono fun e w9 ⟨b,h1,h2⟩=>⟨_,h1,b,rfl,h2⟩) fun u w1 ⟨cb,hu,hcb,hge,f1⟩=>?_
  subst hu
  have hM:=hM.add f1 (bk cb #[vL p0 (l.length) cp0] 48) hcb (fun k h=>by rw [h];exact hge)
  refine cal 1 3 8 [(7,.func (.func 161) #[] #[vP aa 0])] (K:=fun u w8=>∃ L',L'.Perm l∧L'.Pairwise (fun x y=>x.1≤y.1)∧aHd spL 2 141 _ w8 u L'∧Fr (fun _=>False) _ w8) f0 ((aFH (Kp:=aXo cb p0 cp0 l) hlen (enters_of Tryz.func177 (by kernel_rfl) rfl) aHT (fun G W hG f=>⟨f.obj (hM.get 1 rfl) id,fun h=>by have:=hG _ h;have:=aAj (hM.get 1 rfl);omega,_,sp0.b (hM.fr.trans' f fun _ _ h=>h),fun k hk=>Nat.le_trans hM.fr.size (hG k hk)⟩) (hM.get 0 rfl)).mono fun e w9 ⟨v,L',h1,h2⟩=>⟨_,h1,L',h2⟩) fun u w1 ⟨L',hp,hs,hO,f1⟩=>?_
  have hM:=hM.add f1 (rw_ spL 2 141 u L') hO.1 hO.2
  obtain ⟨q42,c42,eq42,-⟩:=(hM.src (j:=2) rfl spT.len).op
  subst eq42
  exact rt1 4 (vL q42 L'.length c42) rfl f0 (hΦ _ _ ⟨_,L',rfl,hp,hs,hM.nrow (j:=2) rfl,hM.fr⟩)
theorem aFl {L:List Sp}{i:Nat}{y:Sp}(hy:L[i]?=some y):aBf (L.take (i+1))=aD0 (aBf (L.take i)) y:=by
  unfold aBf
  rw [List.take_add_one,hy]
  simp [List.foldl_append]
theorem aOb (l:List Sp):(aBf l).length≤l.length:=by
  have h1:∀ (a:List Sp) (s:Sp),(aD0 a s).length≤a.length+1:=by
    intro a s
    unfold aD0
    split
    · split
      · first | (simp;done) | (simp;omega)
      · simp
    · simp
  have h2:∀ (l a:List Sp),(l.foldl aD0 a).length≤a.length+l.length:=by
    intro l
    induction l with
    | nil=>intro a;simp
    | cons s l ih=>intro a;have:=ih (aD0 a s);have:=h1 a s;simp only [List.foldl_cons,List.length_cons];omega
  have:=h2 l []
  simpa [aBf] using this
theorem aNX {A:List Sp}{q s:Sp}(hq:A[A.length-1]?=some q) (h:s.1≤q.2):A.set (A.length-1) (q.1,max q.2 s.2)=aD0 A s:=by
  have hne:A≠[]:=by rintro rfl;simp at hq
  have hl:A.getLast?=some q:=by rw [List.getLast?_eq_getElem?];exact hq
  obtain ⟨B,z,rfl⟩:∃ B z,A=B++[z]:=⟨_,_,(List.dropLast_concat_getLast hne).symm⟩
  rw [List.getLast?_concat] at hl
  obtain rfl:=Option.some.inj hl
  unfold aD0
  rw [List.getLast?_concat,List.dropLast_concat]
  simp only
  rw [if_pos h,List.length_append,List.length_singleton,Nat.add_sub_cancel,List.set_append_right _ _ (Nat.le_refl _),Nat.sub_self]
  rfl
theorem aNZ {A:List Sp}{q s:Sp}(hq:A[A.length-1]?=some q) (h:¬ s.1≤q.2):A++[s]=aD0 A s:=by
  have hl:A.getLast?=some q:=by rw [List.getLast?_eq_getElem?];exact hq
  unfold aD0
  rw [hl]
  simp only
  rw [if_neg h]
theorem aNY {A:List Sp}{s:Sp}(h:¬ 0<(A.length:Int)):A++[s]=aD0 A s:=by
  have:A=[]:=List.eq_nil_of_length_eq_zero (by omega)
  subst this;rfl
abbrev A96 (Φ:Ending→World→Prop):=AtO Tryz.prog (aAf Tryz.f96) (aAo (bodyPost Tryz.prog Tryz.f96 Φ)) [] 50
theorem aJh {w:World}{v:Value}{l:List Sp}(hl:SpV w v l) (hw:wk l) (hlen:l.length≤20000):Calls Tryz.prog 96 #[v] w fun e w'=>∃ u,e = .returned u∧aHd spL 2 141 w w' u (aE3 l)∧Fr (fun _=>False) w w':=by
  obtain ⟨p0,cp0,hp0,sp0⟩:=hl.op
  subst hp0
  refine beg Tryz.func96 rfl rfl [(0,vL p0 l.length cp0)] rfl rfl fun Φ hΦ=>?_
  have hM:=Mm.nil (fun _=>False) w
  refine cal 1 1 8 [(7,vL p0 l.length cp0)] (K:=fun u w8=>∃ L',L'.Perm l∧L'.Pairwise (fun x y=>x.1≤y.1)∧aHd spL 2 141 _ w8 u L'∧Fr (fun _=>False) _ w8) f0 ((aJt (sp0.fr hM.fr).src hlen).mono fun e w9 ⟨v,L',h1,h2⟩=>⟨_,h1,L',h2⟩) fun u w1 ⟨L',hp,hs,hO,f1⟩=>?_
  have hM:=hM.add f1 (rw_ spL 2 141 u L') hO.1 hO.2
  obtain ⟨q43,c43,eq43,-⟩:=(hM.src (j:=0) rfl spT.len).op
  subst eq43
  have hlL:=hp.length_eq
  have hM:=hM.row (f:=spL) (c:=2) (E:=141)
  refine seg 4 0 [(0,vL q43 L'.length c43),(3,vL none 0 0),(9,vL q43 L'.length c43),(10,vI (L'.length:Int)),(11,vI 0)] f0 ?_
  have ai:∀ (ae:Nat) (i:Nat) (q:Option Addr) (c:Nat) (w2:World),i≤L'.length→Mm (fun _=>False) w w2 [rw_ spL 2 141 (vL q43 L'.length c43) L',rw_ spL 2 141 (vL q (aBf (L'.take i)).length c) (aBf (L'.take i))]→ae=L'.length-i→A96 Φ (some (4,0)) [(11,vI (i:Int)),(10,vI (L'.length:Int)),(9,vL q43 L'.length c43),(3,vL q (aBf (L'.take i)).length c)] w2:=by
   refine aAG fun ae ac i q c w2 hi hM ak=>?_
   have hul:=aOb (L'.take i)
   have hul2:(L'.take i).length≤i:=by rw [List.length_take];omega
   refine seg 4 1 [(12,vB (decide ((i:Int)<(L'.length:Int))))] f0 ?_
   cases h47:(decide ((i:Int)<(L'.length:Int)))
   ·have aj:=df h47
    exact rt1 2 (vL q (aBf (L'.take i)).length c) rfl f0 (hΦ _ _ ⟨_,rfl,by have:=hM.nrow (j:=1) rfl;have e8:L'.take i=L':=List.take_of_length_le (by omega);have e9:=aKt hw hp hs;rw [e8,e9] at this ⊢;exact this,hM.fr⟩)
   have aj:=dt h47
   obtain ⟨y,hy⟩:=geb (l:=L') (i:=i) (by omega)
   obtain ⟨al,af,-⟩:=hM.el spT (j:=0) rfl hy
   refine aCh 5 2 5 [(14,.agg #[vI y.1,vI y.2])] [] 141 (.agg #[vI y.1,vI y.2]) (fc (ix 48 c43 af (gl hy)) (fc (lar 141 0 0 2 spT hM rfl af hy) f0)) hM fun ag w1 hM=>seg 7 0 [(6,vI ((aBf (L'.take i)).length:Int))] f0 ?_
   cases h50:(decide (0<((aBf (L'.take i)).length:Int)))
   ·have ah:=df h50
    have hM:=hM.q ((Fr.refl _ _).drew)
    refine drq [(29,vB false)] rfl (fc (tv 18 h50) f0) (aAq 9 2 46 [(44,vL q (aBf (L'.take i)).length c),(45,.agg #[vI y.1,vI y.2])] (cs:=#[vI y.1,vI y.2]) (T:=141) (v:=fun b=>vL (some ⟨b,0,none⟩) 1 1) (fc (lam 141 2 0 2 hM rfl) f0) hM fun am w1 hM=>aJa 9 3 47 [] (cap:=1) (by decide) spT f0 hM (j:=1) rfl (aAD (f:=spL) (x:=y) (hM.get 3 rfl) (Nat.lt_succ_self _)) (fun h=>by cases h) (by simp only [List.length_cons,List.length_nil];omega) fun v52 w1 hM=>?_)
    obtain ⟨q52,c52,e52,-⟩:=(hM.src (j:=1) rfl spT.len).op
    subst e52
    refine seg 4 0 [(3,vL q52 ((aBf (L'.take i))++[y]).length c52),(11,vI ((i:Int)+1))] (fc (aAe (i:Int) 1 u3_) f0) ?_
    have e9:=(aNY (s:=y) ah)
    rw [←aFl hy] at e9
    rw [e9] at hM ⊢
    exact aAb _ (ac _ (by omega) (i+1) q52 c52 _ (gl hy) (hM.pick [0,1]) rfl)
   have ah:=dt h50
   have hM:=hM.q ((Fr.refl _ _).drew)
   obtain ⟨y54,aa⟩:=geb (l:=(aBf (L'.take i))) (i:=((aBf (L'.take i)).length-1)) (by omega)
   obtain ⟨an,ab,-⟩:=hM.el spT (j:=1) rfl aa
   refine drq [(29,vB (decide (y.1≤y54.2)))] rfl (fc (tv 18 h50) (fc (ldm 3 2 0 hM rfl rfl) (fc (aBq ((aBf (L'.take i)).length:Int) 1 u3_) (fc (ix 48 c ab (gl aa) (z:=(((aBf (L'.take i)).length:Int)-1)) (hz:=(by omega))) (fc (ldr 3 1 1 spT hM rfl ab aa rfl) f0))))) ?_
   cases h55:(decide (y.1≤y54.2))
   ·have ad:=df h55
    refine aAq 9 2 46 [(44,vL q (aBf (L'.take i)).length c),(45,.agg #[vI y.1,vI y.2])] (cs:=#[vI y.1,vI y.2]) (T:=141) (v:=fun b=>vL (some ⟨b,0,none⟩) 1 1) (fc (lam 141 2 0 2 hM rfl) f0) hM fun ao w1 hM=>aJa 9 3 47 [] (cap:=1) (by decide) spT f0 hM (j:=1) rfl (aAD (f:=spL) (x:=y) (hM.get 3 rfl) (Nat.lt_succ_self _)) (fun h=>by cases h) (by simp only [List.length_cons,List.length_nil];omega) fun v57 w1 hM=>?_
    obtain ⟨q57,c57,e57,-⟩:=(hM.src (j:=1) rfl spT.len).op
    subst e57
    refine seg 4 0 [(3,vL q57 ((aBf (L'.take i))++[y]).length c57),(11,vI ((i:Int)+1))] (fc (aAe (i:Int) 1 u3_) f0) ?_
    have e9:=(aNZ (s:=y) aa ad)
    rw [←aFl hy] at e9
    rw [e9] at hM ⊢
    exact aAb _ (ac _ (by omega) (i+1) q57 c57 _ (gl hy) (hM.pick [0,1]) rfl)
   have ad:=dt h55
   refine seg 8 0 [] f0 (drx [8,14] (fun γ=>[some (vI y54.2),none]) _ (fun γ l=>[rw_ spL 2 141 (vL q43 L'.length c43) L',rw_ spL 2 141 (vL q (aBf (L'.take i)).length c) (bif l.getD 1 false then ((aBf (L'.take i)).set ((aBf (L'.take i)).length-1) (y54.1,(max y54.2 y.2))) else (aBf (L'.take i))),bk ag #[vI y.1,vI y.2] 141]) (fun γ=>[]) hM (fun γ=>rfl) (fun γ l w5 hM=>(fc (aBq ((aBf (L'.take i)).length:Int) 1 u3_) (fc (aBq ((aBf (L'.take i)).length:Int) 1 u3_) (fc (ix 48 c ab (gl aa) (z:=(((aBf (L'.take i)).length:Int)-1)) (hz:=(by omega))) (fc (ldm 3 2 1 hM rfl rfl) (fc (aUA 3 y54.2 y.2) (fc (ix 48 c ab (gl aa) (z:=(((aBf (L'.take i)).length:Int)-1)) (hz:=(by omega))) f0))))))) ⟨aKh (m:=(aBf (L'.take i)).length) (cap:=c) 0 8 3 1 1 ((aBf (L'.take i)).length-1) 38 (aBf (L'.take i)) (fun γ=>vI y54.2) spT ab aa (fun γ=>rfl),aGZ (m:=(aBf (L'.take i)).length) (cap:=c) 1 14 3 1 1 ((aBf (L'.take i)).length-1) (aBf (L'.take i)) (y54.1,(max y54.2 y.2)) (fun γ=>vI (max y54.2 y.2)) spT ab aa (fun γ=>rfl),trivial⟩ fun ap w1 hM=>?_)
   replace hM:Mm (fun _=>False) w w1 [_,_,bk ag #[vI y.1,vI y.2] 141]:=hM
   refine seg 4 0 [(11,vI ((i:Int)+1))] (fc (aAe (i:Int) 1 u3_) f0) ?_
   have e9:=(aNX (s:=y) aa ad)
   rw [←aFl hy] at e9
   rw [e9] at hM
   rw [show (aBf (L'.take i)).length=(aBf (L'.take (i+1))).length by rw [←e9,List.length_set]] at hM ⊢
   exact aAb _ (ac _ (by omega) (i+1) q c _ (gl hy) (hM.pick [0,1]) rfl)
  exact aAb _ (ai _ 0 none 0 _ (Nat.zero_le _) hM rfl)
def byL (c:UInt8):List Value:=[.int .u8 (c.toNat:Int)]
theorem byT:ElT Tryz.prog byL 1 45 5:=⟨fun _=>rfl,by decide,fun x u hu=>by
  unfold byL at hu
  simp only [List.mem_cons,List.not_mem_nil,or_false] at hu
  subst hu;rfl,Tryz.underlying45,aBL (by kernel_rfl)⟩
section
variable {w:World}
theorem aXC (T:TypeId) (hT:T=249:=by rfl):Ft.ok Tryz.prog w (.g2 (fun x y => .binOp .eql T x y T) (.pointer none) (.pointer none) (vB true)):=fun o ρ x y ho hx hy=>by rw [hT] at ho;simp [execOp,ho,hx,hy,go_sem,u249_]
theorem aXB (T:TypeId) (b k:Nat) (hT:T=249:=by rfl):Ft.ok Tryz.prog w (.g2 (fun x y => .binOp .eql T x y T) (vP b k) (.pointer none) (vB false)):=fun o ρ x y ho hx hy=>by rw [hT] at ho;simp [execOp,ho,hx,hy,go_sem,u249_]
theorem aXA (T:TypeId) (b k:Nat) (hT:T=249:=by rfl):Ft.ok Tryz.prog w (.g2 (fun x y => .binOp .neq T x y T) (vP b k) (vP b k) (vB false)):=fun o ρ x y ho hx hy=>by
  rw [hT] at ho
  have hi:∃ j,Tryz.prog.info? 251=some j:=by
    cases h:Tryz.prog.info? 251 with
    | none=>exact absurd (show (Tryz.prog.info? 251).isSome=true by kernel_rfl) (by rw [h];simp)
    | some j=>exact ⟨j,rfl⟩
  obtain ⟨j,hj⟩:=hi
  have:=Lib.run_neq_ptr_same (P:=Tryz.prog) w (⟨b,k,none⟩:Addr) u249_ hj
  simp [execOp,ho,hx,hy,eqGuard,this]
theorem aX1 {b:Nat}{p v:Value}(h:w.heap[b]?=some (.cells #[p,v] 251 (0,0))):Ft.ok Tryz.prog w (.g1 (.convert 249 283) (vP b 0) (vP b 0)):=fun o ρ x ho hx=>by
  have hsh:w.shape? b=some (251,2):=by simp [World.shape?,h]
  obtain ⟨j,hj,hjs⟩:=Option.map_eq_some_iff.1 (show (Tryz.prog.info? 251).map (·.size)=some 2 by kernel_rfl)
  have:=Lib.run_to_unsafe (P:=Tryz.prog) w (src:=249) (dst:=283) (⟨b,0,none⟩:Addr) u249_ Tryz.underlying283 hj (by rw [hjs];decide) hsh (Nat.zero_lt_succ 1)
  simp only [execOp,ho,hx,Sem.run_bind,this,Result.andThen_ok,Sem.run_pure]
theorem aXF {b:Nat}{p v:Value}(h:w.heap[b]?=some (.cells #[p,v] 251 (0,0))):Ft.ok Tryz.prog w (.g1 (.convert 283 249) (vP b 0) (vP b 0)):=fun o ρ x ho hx=>by
  have hsh:w.shape? b=some (251,2):=by simp [World.shape?,h]
  obtain ⟨j,hj,hjs⟩:=Option.map_eq_some_iff.1 (show (Tryz.prog.info? 251).map (·.size)=some 2 by kernel_rfl)
  have:=Lib.run_from_unsafe (P:=Tryz.prog) w (src:=283) (dst:=249) (⟨b,0,none⟩:Addr) Tryz.underlying283 u249_ hj hsh (by kernel_rfl)
  simp only [execOp,ho,hx,Sem.run_bind,this,Result.andThen_ok,Sem.run_pure]
end
section
variable {P:Program}{B:Code}{R:Pst}{ds:List Deferred}{n:Nat}{p:Option (Nat×Nat)}{L:Frm}{w:World}{F:List Ft}
theorem aXD (r' i' d:Nat) (N:Frm) (v:Value) (hF:aAP P w F) (k:AtO P B R ds n (some (r',i'+1)) ((d,v)::(N++L)) w) (h:(lhs (go P w n B p L r' i' F) N L,aJ8 P w n L (go P w n B p L r' i' F))=(rhs (go P w n B p L r' i' F) N B r' i',some (d,.ok (.value v,w))):=by kernel_rfl):AtO P B R ds n p L w:=opx r' i' d N hF k h
end
theorem Mm.below {F0:Nat→Prop}{w0 w w':World}{M:List Ent}(h:Mm F0 w0 w M) (b:Below w0.heap.size w w'):Mm F0 w0 w' [] :=
  ⟨⟨b.os.trans h.fr.os,b.tape.trans h.fr.tape,b.output.trans h.fr.output,Nat.le_trans h.fr.size b.size,fun r hr hn=>(b.block r hr).trans (h.fr.blk r hr hn)⟩,fun _ h=>(by cases h),fun _ h=>(by cases h),.nil⟩
theorem aLl {w:World}{G:Nat→Prop}{b:Nat}{v:Value}(hM0:Mm G w w [bk b #[.pointer none,v] 251]):Calls Tryz.prog 185 #[vP b 0] w fun e w'=>∃ u Mn,e = .returned u∧(u = .tuple #[]∧Mn=[bk b #[vP b 0,v] 251])∧Mm G w w' Mn:=by
  refine beg Tryz.func185 rfl rfl [(0,vP b 0)] rfl rfl fun Φ hΦ=>?_
  have hM:=hM0
  refine aXD 1 3 10 [(7,vP b 0),(9,vP b 0)] (vP b 0) (fc (ldm 249 0 0 hM rfl rfl) (fc (aXC 249) (fc (aX1 (hM.get 0 rfl)) f0))) (stm 1 7 [(11,vP b 0),(13,vP b 0)] 249 0 0 (vP b 0) (fc (aXF (hM.get 0 rfl)) f0) hM rfl fun w1 hM=>rt0 rfl f0 (hΦ _ _ ⟨_,_,rfl,⟨rfl,rfl⟩,hM⟩))
theorem aN0 {w:World}{G:Nat→Prop}{b:Nat}{v:Value}(hM0:Mm G w w [bk b #[vP b 0,v] 251]):Calls Tryz.prog 185 #[vP b 0] w fun e w'=>∃ u Mn,e = .returned u∧(u = .tuple #[]∧Mn=[bk b #[vP b 0,v] 251])∧Mm G w w' Mn:=by
  refine beg Tryz.func185 rfl rfl [(0,vP b 0)] rfl rfl fun Φ hΦ=>?_
  have hM:=hM0
  exact rt0 rfl (fc (ldm 249 0 0 hM rfl rfl) (fc (aXB 249 b 0) (fc (ldm 249 0 0 hM rfl rfl) (fc (aXA 249 b 0) f0)))) (hΦ _ _ ⟨_,_,rfl,⟨rfl,rfl⟩,hM⟩)
theorem aLm {w:World}{G:Nat→Prop}{b:Nat}{pp:Option Addr}{v:Value}(hp:pp=none∨pp=some ⟨b,0,none⟩) (hM0:Mm G w w [bk b #[.pointer pp,v] 251]):Calls Tryz.prog 185 #[vP b 0] w fun e w'=>∃ u Mn,e = .returned u∧(u = .tuple #[]∧Mn=[bk b #[vP b 0,v] 251])∧Mm G w w' Mn:=by
  rcases hp with rfl | rfl
  · exact aLl hM0
  · exact aN0 hM0
theorem aGf {w:World}{G:Nat→Prop}{b cq:Nat}{pp q:Option Addr}{l:Bys}(hp:pp=none∨pp=some ⟨b,0,none⟩) (c:UInt8) (hl:l.length≤300000000) (hM0:Mm G w w [bk b #[.pointer pp,vL q l.length cq] 251,rw_ byL 1 5 (vL q l.length cq) l]):Calls Tryz.prog 172 #[vP b 0,.int .u8 (c.toNat:Int)] w fun e w'=>∃ u Mn,e = .returned u∧(u = .nilIface∧∃ q2 c2,Mn=[bk b #[vP b 0,vL q2 (l++[c]).length c2] 251,rw_ byL 1 5 (vL q2 (l++[c]).length c2) (l++[c])])∧Mm G w w' Mn:=by
  refine beg Tryz.func172 rfl rfl [(0,vP b 0),(1,.int .u8 (c.toNat:Int))] rfl rfl fun Φ hΦ=>?_
  have hM:=hM0
  refine aAO 1 1 6 [(5,vP b 0)] (K:=fun u Mn=>u = .tuple #[]∧Mn=[bk b #[vP b 0,vL q l.length cq] 251]) [1] [0] f0 hM rfl rfl (by decide) (fun hm=>aLm hp hm) fun u Mn w1 hK hM=>?_
  obtain ⟨rfl,rfl⟩:=hK
  refine aAq 2 6 13 [(7,vP b 0),(11,vL q l.length cq),(12,.int .u8 (c.toNat:Int))] (cs:=#[.int .u8 (c.toNat:Int)]) (T:=5) (v:=fun b=>vL (some ⟨b,0,none⟩) 1 1) (fc (ldm 45 1 1 hM rfl rfl) f0) hM fun b1 w1 hM=>aJa 2 7 14 [] (cap:=1) (by decide) byT f0 hM (j:=0) rfl (aAD (f:=byL) (x:=c) (hM.get 2 rfl) (Nat.lt_succ_self _)) (fun h=>by cases h) (by simp only [List.length_cons,List.length_nil];omega) fun v2 w1 hM=>?_
  obtain ⟨qa2,ca2,e2,-⟩:=(hM.src (j:=0) rfl byT.len).op
  subst e2
  refine stm 2 10 [(16,vP b 1)] 45 1 1 (vL qa2 (l++[c]).length ca2) f0 hM rfl fun w1 hM=>rt1 4 Value.nilIface rfl f0 (hΦ _ _ ⟨_,_,rfl,⟨rfl,_,_,rfl⟩,hM.pick [1,0]⟩)
theorem aHq (l:Bys):l.flatMap byL=Lib.byteCells l:=by
  unfold Lib.byteCells byL
  induction l with
  | nil=>rfl
  | cons c l ih=>simp_all
theorem aN3 {w w0:World}{b cq:Nat}{pp q:Option Addr}{l:Bys}(hp:pp=none∨pp=some ⟨b,0,none⟩) (hM:Mm (fun _=>False) w0 w [bk b #[.pointer pp,vL q l.length cq] 251,rw_ byL 1 5 (vL q l.length cq) l]):Calls Tryz.prog 171 #[vP b 0] w fun e w'=>e = .returned (vS l)∧Below w0.heap.size w w':=by
  have hb:w.heap[b]?=some (.cells #[.pointer pp,vL q l.length cq] 251 (0,0)):=hM.get 0 rfl
  have hr:ow byL 1 5 w 0 (vL q l.length cq) l:=hM.get 1 rfl
  have hbB:w0.heap.size≤b:=hM.ge (.head _) rfl
  have hne:Value.ownBlock (vL q l.length cq)≠some b:=fun e=>by
    have:=List.pairwise_cons.1 hM.nd
    exact this.1 (rw_ byL 1 5 (vL q l.length cq) l) (.head _) b rfl e
  have hown:w.ownsRow w0.heap.size 5 1 (vL q l.length cq) (Lib.byteCells l).length (Lib.byteCells l):=by
    have hl:(Lib.byteCells l).length=l.length:=by simp [Lib.byteCells]
    rw [hl,←aHq]
    refine ⟨hr.1,?_⟩
    rcases hr.2 with h | ⟨g,cap,cur,h1,h2,h3⟩
    · exact .inl h
    · exact .inr ⟨g,cap,cur,h1,hM.ge (.tail _ (.head _)) (by show Value.ownBlock (vL q l.length cq)=some g;rw [h1];rfl),h3⟩
  exact Tryz.Builder_String_any w0.heap.size b l w (hp.elim (fun h => .inl ⟨hbB,_,by rw [←h];exact hb,hown,hne⟩) (fun h => .inr ⟨hbB,_,by rw [←h];exact hb,hown,hne⟩)) hM.fr.size
theorem q34 (c:UInt8):(c==34)=((c.toNat:Int)==34):=by
  have:=aE9 (p:=fun c=>(c==34)==((c.toNat:Int)==34)) (by decide +kernel) c
  exact beq_iff_eq.1 this
theorem q10 (c:UInt8):(c==10)=((c.toNat:Int)==10):=by
  have:=aE9 (p:=fun c=>(c==10)==((c.toNat:Int)==10)) (by decide +kernel) c
  exact beq_iff_eq.1 this
theorem q92 (c:UInt8):(c==92)=((c.toNat:Int)==92):=by
  have:=aE9 (p:=fun c=>(c==92)==((c.toNat:Int)==92)) (by decide +kernel) c
  exact beq_iff_eq.1 this
def esc (d:UInt8):UInt8:=if d==110 then 10 else d
def aLg (d:UInt8):Int:=ixb [92,34,110] d.toNat
theorem aVB (d:UInt8):(d==92||d==34||d==110) = !decide (aLg d<0):=by
  have:=aE9 (p:=fun d=>(d==92||d==34||d==110) == !decide (aLg d<0)) (by decide +kernel) d
  exact beq_iff_eq.1 this
theorem aVC (d:UInt8) (h:¬ aLg d<0):([92,34,10]:Bys)[(aLg d).toNat]?=some (esc d)∧0≤aLg d:=by
  have:=aE9 (p:=fun d=>decide (aLg d<0)||(([92,34,10]:Bys)[(aLg d).toNat]?==some (esc d))&&decide (0≤aLg d)) (by decide +kernel) d
  rw [decide_eq_false h,Bool.false_or,Bool.and_eq_true] at this
  exact ⟨eq_of_beq this.1,of_decide_eq_true this.2⟩
def aHy (acc:Bys) (k:Nat) (r:Bys):Option (Bys×Nat):=(aBS r).map fun x=>(acc++x.1,x.2+k)
theorem aUZ (l:Bys):aBS l=aHy [] 0 l:=by
  unfold aHy
  cases aBS l with
  | none=>rfl
  | some x=>simp
theorem aQE (acc:Bys) (k:Nat):aHy acc k []=none:=rfl
theorem aUW {acc r:Bys}{k:Nat}{c:UInt8}(h:(c==34)=true):aHy acc k (c::r)=some (acc,1+k):=by
  unfold aHy aBS;rw [if_pos h];simp
theorem aUX {acc r:Bys}{k:Nat}{c:UInt8}(h0:(c==34)=false) (h:(c==10)=true):aHy acc k (c::r)=none:=by
  unfold aHy aBS;rw [if_neg (by rw [h0];simp),if_pos h];rfl
theorem aTo {acc:Bys}{k:Nat}{c:UInt8}(h0:(c==34)=false) (h1:(c==10)=false) (h:(c==92)=true):aHy acc k [c]=none:=by
  unfold aHy aBS;rw [if_neg (by rw [h0];simp),if_neg (by rw [h1];simp),if_pos h];rfl
theorem aTn {acc r:Bys}{k:Nat}{c d:UInt8}(h0:(c==34)=false) (h1:(c==10)=false) (h:(c==92)=true) (h2:aLg d<0):aHy acc k (c::d::r)=none:=by
  unfold aHy aBS;rw [if_neg (by rw [h0];simp),if_neg (by rw [h1];simp),if_pos h]
  simp only
  rw [aVB,decide_eq_true h2];rfl
theorem aTm {acc r:Bys}{k:Nat}{c d:UInt8}(h0:(c==34)=false) (h1:(c==10)=false) (h:(c==92)=true) (h2:¬ aLg d<0):aHy acc k (c::d::r)=aHy (acc++[esc d]) (k+2) r:=by
  unfold aHy
  rw [aBS]
  rw [if_neg (by rw [h0];simp),if_neg (by rw [h1];simp),if_pos h]
  try simp only
  rw [aVB,decide_eq_false h2]
  simp only [Bool.not_false,if_true,Option.map_map]
  congr 1
  funext x
  simp only [Function.comp,List.append_assoc,List.singleton_append,esc]
  rw [show x.2+2+k=x.2+(k+2) by omega]
theorem aUY {acc r:Bys}{k:Nat}{c:UInt8}(h0:(c==34)=false) (h1:(c==10)=false) (h:(c==92)=false):aHy acc k (c::r)=aHy (acc++[c]) (k+1) r:=by
  have e:aBS (c::r)=(aBS r).map fun x=>(c::x.1,x.2+1):=by
    rw [aBS.eq_def (c::r)]
    try simp only
    rw [if_neg (by rw [h0];simp),if_neg (by rw [h1];simp),if_neg (by rw [h];simp)]
  unfold aHy
  rw [e]
  simp only [Option.map_map]
  congr 1
  funext x
  simp only [Function.comp,List.append_assoc,List.singleton_append]
  rw [show x.2+1+k=x.2+(k+1) by omega]
def aIW (l:Bys):Bys×Int:=match aBS l with | some (s,k)=>(s,(k:Int)+1) | none=>([],0)
theorem aJg {l:Bys}(h:aBS l=none):aIW l=([],0):=by unfold aIW;rw [h]
theorem aSk {l s:Bys}{k:Nat}(h:aBS l=some (s,k)):aIW l=(s,(k:Int)+1):=by unfold aIW;rw [h]
abbrev aXV (Φ:Ending→World→Prop):=AtO Tryz.prog (aAf Tryz.f154) (aAo (bodyPost Tryz.prog Tryz.f154 Φ)) [] 44
theorem aOa {t l:Bys}(ht:t=34::l) (hl:l.length≤200000000) (w:World):Calls Tryz.prog 154 #[vS t] w fun e w'=>e = .returned (.tuple #[vS (aIW l).1,vI (aIW l).2])∧Fr (fun _=>False) w w':=by
  refine beg Tryz.func154 rfl rfl [(0,vS t)] rfl rfl fun Φ hΦ=>?_
  have hM:=Mm.nil (fun _=>False) w
  have htl:t.length=l.length+1:=by rw [ht];rfl
  have hta:∀ {k:Nat}{e:UInt8},l[k]?=some e→t[k+1]?=some e:=fun h=>by rw [ht];exact h
  refine aAq 1 0 4 [] (cs:=#[.pointer none,vL none 0 0]) (T:=251) (v:=fun b=>vP b 0) f0 hM fun b w1 hM=>?_
  have hM:=hM.row (f:=byL) (c:=1) (E:=5)
  refine seg 3 0 [(5,vI 1)] f0 ?_
  have lp3:∀ (m5:Nat) (j:Nat) (acc:Bys) (q:Option Addr) (cq:Nat) (pp:Option Addr) (w2:World),j≤l.length→aBS l=aHy acc j (l.drop j)→acc.length≤j→(pp=none∨pp=some ⟨b,0,none⟩)→Mm (fun _=>False) w w2 [bk b #[.pointer pp,vL q acc.length cq] 251,rw_ byL 1 5 (vL q acc.length cq) acc]→m5=l.length+1-j→aXV Φ (some (3,0)) [(5,vI ((j:Int)+1)),(4,vP b 0),(0,vS t)] w2:=by
   refine aAG fun m5 ih4 j acc q cq pp w2 hj hi hal hp hM hm5=>seg 3 4 [(11,vB (decide (((j:Int)+1)<(t.length:Int))))] (fc (aC1 9 t) f0) ?_
   cases h6:(decide (((j:Int)+1)<(t.length:Int)))
   ·have rh6:=df h6
    exact rt2 2 3 (vS []) (vI 0) rfl rfl f0 (hΦ _ _ ⟨by rw [aJg (by rw [hi,List.drop_of_length_le (by omega),aQE])],hM.fr⟩)
   have rh6:=dt h6
   obtain ⟨c,hc⟩:=geb (l:=l) (i:=j) (by omega)
   refine seg 8 2 [(6,.int .u8 (c.toNat:Int)),(17,.int .u8 (c.toNat:Int)),(20,vB ((c.toNat:Int)==34))] (fc (byt 9 (i:=j+1) (hta hc) (z:=((j:Int)+1)) (by omega)) f0) ?_
   cases h7:((c.toNat:Int)==34)
   rotate_left
   ·have rh7:=et h7
    refine cal 9 0 22 [] (K:=fun u w8=>u=vS acc∧Below w.heap.size _ w8) f0 ((aN3 hp hM).mono fun e w9 h=>⟨_,h.1,rfl,h.2⟩) fun u w1 ⟨hu,hb⟩=>?_
    subst hu
    have hM:=Mm.below hM hb
    exact rt2 2 3 (vS acc) (vI (((j:Int)+1)+1)) rfl rfl (fc (aAe ((j:Int)+1) 1 u3_) f0) (hΦ _ _ ⟨by rw [aSk (by rw [hi,gd hc,aUW (by rw [q34];exact h7)])];exact congrArg (fun z=>Ending.returned (.tuple #[vS acc,vI z])) (by omega),hM.fr⟩)
   have rh7:=ef h7
   refine seg 10 2 [(25,vB ((c.toNat:Int)==10))] f0 ?_
   cases h8:((c.toNat:Int)==10)
   rotate_left
   ·have rh8:=et h8
    exact rt2 2 3 (vS []) (vI 0) rfl rfl f0 (hΦ _ _ ⟨by rw [aJg (by rw [hi,gd hc,aUX (by rw [q34];exact h7) (by rw [q10];exact h8)])],hM.fr⟩)
   have rh8:=ef h8
   refine seg 12 2 [(27,vB ((c.toNat:Int)==92))] f0 ?_
   cases h9:((c.toNat:Int)==92)
   ·have rh9:=ef h9
    refine aAO 7 1 19 [(18,.int .u8 (c.toNat:Int))] (K:=fun u Mn=>u = .nilIface∧∃ q2 c2,Mn=[bk b #[vP b 0,vL q2 (acc++[c]).length c2] 251,rw_ byL 1 5 (vL q2 (acc++[c]).length c2) (acc++[c])]) [] [0,1] f0 hM rfl rfl (by decide) (fun hm=>aGf hp c (by omega) hm) fun u Mn w1 hK hM=>?_
    obtain ⟨rfl,ab,ac,rfl⟩:=hK
    refine seg 3 0 [(5,vI (((j:Int)+1)+1))] (fc (aAe ((j:Int)+1) 1 u3_) f0) ?_
    have hin:aBS l=aHy (acc++[c]) (j+1) (l.drop (j+1)):=by rw [hi,gd hc,aUY (by rw [q34];exact h7) (by rw [q10];exact h8) (by rw [q92];exact h9)]
    exact aAb _ (ih4 _ (by omega) (j+1) (acc++[c]) ab ac (some ⟨b,0,none⟩) _ (by omega) hin (by simp only [List.length_append,List.length_singleton];omega) (.inr rfl) hM rfl)
   have rh9:=et h9
   refine seg 15 4 [(5,vI (((j:Int)+1)+1)),(7,vI (-1)),(34,vB (decide ((((j:Int)+1)+1)<(t.length:Int))))] (fc (aAe ((j:Int)+1) 1 u3_) (fc (aC1 9 t) f0)) ?_
   cases h11:(decide ((((j:Int)+1)+1)<(t.length:Int)))
   ·have ad:=df h11
    exact rt2 2 3 (vS []) (vI 0) rfl rfl f0 (hΦ _ _ ⟨by rw [aJg (by rw [hi,gd hc,List.drop_of_length_le (by omega),aTo (by rw [q34];exact h7) (by rw [q10];exact h8) (by rw [q92];exact h9)])],hM.fr⟩)
   have ad:=dt h11
   obtain ⟨d,hd⟩:=geb (l:=l) (i:=j+1) (by omega)
   refine aAr 16 3 38 [(37,.int .u8 (d.toNat:Int))] (fc (byt 9 (i:=j+2) (hta hd) (z:=(((j:Int)+1)+1)) (by omega)) f0) hM (aA9 [92,34,110] d.toNat (UInt8.toNat_lt _) _) fun w1 hM=>seg 17 2 [(7,vI (aLg d)),(40,vB (decide ((aLg d)<0)))] f0 ?_
   cases h12:(decide ((aLg d)<0))
   rotate_left
   ·have aa:=dt h12
    exact rt2 2 3 (vS []) (vI 0) rfl rfl f0 (hΦ _ _ ⟨by rw [aJg (by rw [hi,gd hc,gd hd,aTn (by rw [q34];exact h7) (by rw [q10];exact h8) (by rw [q92];exact h9) aa])],hM.fr⟩)
   have aa:=df h12
   refine aAO 19 2 43 [(42,.int .u8 ((esc d).toNat:Int))] (K:=fun u Mn=>u = .nilIface∧∃ q2 c2,Mn=[bk b #[vP b 0,vL q2 (acc++[esc d]).length c2] 251,rw_ byL 1 5 (vL q2 (acc++[esc d]).length c2) (acc++[esc d])]) [] [0,1] (fc (byt 9 (i:=(aLg d).toNat) (aVC d aa).1 (z:=(aLg d)) (by have:=(aVC d aa).2;omega)) f0) hM rfl rfl (by decide) (fun hm=>aGf hp (esc d) (by omega) hm) fun u Mn w1 hK hM=>?_
   obtain ⟨rfl,ae,af,rfl⟩:=hK
   refine seg 3 0 [(5,vI ((((j:Int)+1)+1)+1))] (fc (aAe (((j:Int)+1)+1) 1 u3_) f0) ?_
   have hin:aBS l=aHy (acc++[esc d]) (j+2) (l.drop (j+2)):=by rw [hi,gd hc,gd hd,aTm (by rw [q34];exact h7) (by rw [q10];exact h8) (by rw [q92];exact h9) aa]
   exact aAb _ (ih4 _ (by omega) (j+2) (acc++[esc d]) ae af (some ⟨b,0,none⟩) _ (by omega) hin (by simp only [List.length_append,List.length_singleton];omega) (.inr rfl) hM rfl)
  exact aAb _ (lp3 _ 0 [] none 0 none _ (Nat.zero_le _) (aUZ l) (Nat.le_refl _) (.inl rfl) hM rfl)
def aAp (s:Bys) (i:Nat):Nat:=match s[i]? with | some b=>cl8 b | none=>0
theorem aDl {l:Bys}{j:Nat}{c:UInt8}(h:l[j]?=some c):l.drop j=c::l.drop (j+1):=by
  have hj:=(List.getElem?_eq_some_iff.1 h).1
  rw [List.drop_eq_getElem_cons hj,(List.getElem?_eq_some_iff.1 h).2]
theorem aGS {s:Bys}{i:Nat}(h:s.length≤i):aAp s i=0:=by unfold aAp;rw [List.getElem?_eq_none h]
theorem aBc {s:Bys}{i:Nat}{c:UInt8}(h:s[i]?=some c):aAp s i=cl8 c:=by unfold aAp;rw [h]
theorem aWI (c:UInt8):(((cl8 c==1)==aB6 c)&&((cl8 c==2)==(c==35))&&((cl8 c==3)==aBg c)&&((cl8 c==4)==aAu c)&&((cl8 c==7)==(c==34))&&((cl8 c==6)==aDt c)&&((cl8 c==3||cl8 c==4||cl8 c==5)==aAF c))=true :=
  aE9 (p:=fun c=>((cl8 c==1)==aB6 c)&&((cl8 c==2)==(c==35))&&((cl8 c==3)==aBg c)&&((cl8 c==4)==aAu c)&&((cl8 c==7)==(c==34))&&((cl8 c==6)==aDt c)&&((cl8 c==3||cl8 c==4||cl8 c==5)==aAF c)) (by decide +kernel) c
theorem aCA (c:UInt8):(cl8 c==1)=aB6 c∧(cl8 c==2)=(c==35)∧(cl8 c==3)=aBg c∧(cl8 c==4)=aAu c∧(cl8 c==7)=(c==34)∧(cl8 c==6)=aDt c∧(cl8 c==3||cl8 c==4||cl8 c==5)=aAF c:=by
  have:=aWI c
  simp only [Bool.and_eq_true,beq_iff_eq] at this
  obtain ⟨⟨⟨⟨⟨⟨h1,h2⟩,h3⟩,h4⟩,h5⟩,h6⟩,h7⟩:=this
  exact ⟨h1,h2,h3,h4,h5,h6,h7⟩
theorem aFV (a:Nat) (b:Nat):(((a:Nat):Int)==(b:Int))=(a==b):=by
  by_cases h:a=b
  · subst h;simp
  · rw [beq_eq_false_iff_ne.2 h,beq_eq_false_iff_ne.2 (by omega)]
def aCE (s:Bys) (i:Nat):Bool:=aAp s i==3||aAp s i==4||aAp s i==5
theorem aC7 {s:Bys}{i:Nat}{c:UInt8}(h:s[i]?=some c):aCE s i=aAF c:=by
  unfold aCE;rw [aBc h];exact (aCA c).2.2.2.2.2.2
theorem aDR {s:Bys}{i:Nat}(h:s.length≤i):aCE s i=false:=by unfold aCE;rw [aGS h];rfl
def aFK (s:Bys) (i:Nat):Bool:=aAp s i==4
theorem aII {s:Bys}{i:Nat}{c:UInt8}(h:s[i]?=some c):aFK s i=aAu c:=by
  unfold aFK;rw [aBc h];exact (aCA c).2.2.2.1
theorem aMq {s:Bys}{i:Nat}(h:s.length≤i):aFK s i=false:=by unfold aFK;rw [aGS h];rfl
structure RunTo (p:UInt8→Bool) (s:Bys) (f j:Nat):Prop where
  le:f≤j
  hi:j≤s.length
  all:(s.drop f).takeWhile p=(s.drop f).take (j-f)++(s.drop j).takeWhile p
theorem RunTo.start {p:UInt8→Bool}{s:Bys}{f:Nat}(h:f≤s.length):RunTo p s f f:=⟨Nat.le_refl _,h,by simp⟩
theorem RunTo.step {p:UInt8→Bool}{s:Bys}{f j:Nat}{c:UInt8}(h:RunTo p s f j) (hc:s[j]?=some c) (hp:p c=true):RunTo p s f (j+1):=by
  have hj:=(List.getElem?_eq_some_iff.1 hc).1
  refine ⟨by have:=h.le;omega,by omega,?_⟩
  rw [h.all,aDl hc,List.takeWhile_cons,if_pos hp]
  have hle:=h.le
  have:(s.drop f).take (j+1-f)=(s.drop f).take (j-f)++[c]:=by
    rw [show j+1-f=(j-f)+1 by omega,List.take_add_one,List.getElem?_drop,show f+(j-f)=j by omega,hc];rfl
  rw [this,List.append_assoc];rfl
theorem RunTo.stop {p:UInt8→Bool}{s:Bys}{f j:Nat}(h:RunTo p s f j) (hs:∀ c,s[j]?=some c→p c=false):(s.drop f).takeWhile p=(s.drop f).take (j-f)∧((s.drop f).takeWhile p).length=j-f:=by
  have e:(s.drop j).takeWhile p=[]:=by
    cases hq:s.drop j with
    | nil=>rfl
    | cons c r =>
      have:s[j]?=some c:=by
        have:=congrArg (fun l=>l[0]?) hq
        simpa [List.getElem?_drop] using this
      rw [List.takeWhile_cons,hs c this];rfl
  have:=h.all
  rw [e,List.append_nil] at this
  refine ⟨this,?_⟩
  rw [this,List.length_take,List.length_drop]
  have:=h.le;have:=h.hi;omega
theorem aDc {s:Bys}{i j:Nat}{c:UInt8}(hc:s[i]?=some c) (h:i+1≤j):(s.take j).drop i=c::(s.drop (i+1)).take (j-(i+1)):=by
  rw [List.drop_take,aDl hc,show j-i=(j-(i+1))+1 by omega,List.take_succ_cons]
def aCI (s:Bys) (k i:Nat):Prop:=i≤s.length∧k≤(aBC s 0).length∧(aBC s 0).drop k=aBC (s.drop i) i
theorem aCI.zero (s:Bys):aCI s 0 0:=⟨Nat.zero_le _,Nat.zero_le _,rfl⟩
theorem aCI.done {s:Bys}{k:Nat}(h:aCI s k s.length):k=(aBC s 0).length:=by
  obtain ⟨_,h1,h2⟩:=h
  rw [List.drop_length,aI6] at h2
  have:=congrArg List.length h2
  simp at this;omega
theorem aCI.gap {s:Bys}{k i:Nat}{c:UInt8}(h:aCI s k i) (hc:s[i]?=some c) {m:Nat}(ho:one c (s.drop (i+1))=(0,[],m,0)) (hm:i+1+m≤s.length):aCI s k (i+1+m):=by
  obtain ⟨_,h1,h2⟩:=h
  refine ⟨hm,h1,?_⟩
  rw [h2,aDl hc,aCS,ho]
  simp only [bne_self_eq_false,Bool.false_eq_true,if_false,beq_self_eq_true,if_true,List.drop_drop]
  rw [show (i:Int)+1+(m:Int)=((i+1+m:Nat):Int) by omega]
theorem aCI.tok {s:Bys}{k i:Nat}{c:UInt8}{kd:Int}{tx:Bys}{m:Nat}(h:aCI s k i) (hc:s[i]?=some c) (ho:one c (s.drop (i+1))=(kd,tx,m,0)) (hk:kd≠0) (hm:i+1+m≤s.length):(aBC s 0)[k]?=some ((kd,tx,(i:Int)),0)∧aCI s (k+1) (i+1+m):=by
  obtain ⟨_,h1,h2⟩:=h
  rw [aDl hc,aCS,ho] at h2
  simp only [bne_self_eq_false,Bool.false_eq_true,if_false,List.drop_drop] at h2
  rw [if_neg (by simpa using hk)] at h2
  have h3:(aBC s 0)[k]?=some ((kd,tx,(i:Int)),0):=by
    have:=congrArg (fun l=>l[0]?) h2
    simpa [List.getElem?_drop] using this
  refine ⟨h3,hm,(List.getElem?_eq_some_iff.1 h3).1,?_⟩
  have:=congrArg (List.drop 1) h2
  rw [List.drop_drop] at this
  rw [this]
  simp only [List.drop_succ_cons,List.drop_zero]
  rw [show (i:Int)+1+(m:Int)=((i+1+m:Nat):Int) by omega]
theorem aCI.err {s:Bys}{k i:Nat}{c:UInt8}{kd:Int}{tx:Bys}{m:Nat}{e:Int}(h:aCI s k i) (hc:s[i]?=some c) (ho:one c (s.drop (i+1))=(kd,tx,m,e)) (he:e≠0):(aBC s 0)[k]?=some ((kd,tx,(i:Int)),e)∧k+1=(aBC s 0).length:=by
  obtain ⟨_,h1,h2⟩:=h
  rw [aDl hc,aCS,ho] at h2
  simp only at h2
  rw [if_pos (by simpa using he)] at h2
  have h3:(aBC s 0)[k]?=some ((kd,tx,(i:Int)),e):=by
    have:=congrArg (fun l=>l[0]?) h2
    simpa [List.getElem?_drop] using this
  refine ⟨h3,?_⟩
  have:=congrArg List.length h2
  rw [List.length_drop] at this
  simp at this
  have:=(List.getElem?_eq_some_iff.1 h3).1
  omega
theorem aRt {c:UInt8}{l:Bys}(hb:aB6 c=false) (h:(c==35)=true):one c l=(0,[],(l.takeWhile (· != 10)).length,0):=by
  unfold one;simp only [hb,h,Bool.false_eq_true,if_false,if_true]
theorem aRs {c:UInt8}{l:Bys}(h:aBg c=true):one c l=(1,c::l.takeWhile aAF,(l.takeWhile aAF).length,if (l.takeWhile aAF).length+1>24 then 2 else 0):=by
  obtain ⟨h1,h2,_,_⟩:=aGF h
  unfold one;simp only [h1,h2,h,Bool.false_eq_true,if_false,if_true]
def hdW:Bys→Bool
  | d::_=>aAF d
  | []=>false
theorem aRu {c:UInt8}{l:Bys}(h:aAu c=true):one c l=((2:Int),c::l.takeWhile aAu,(l.takeWhile aAu).length,if ((l.takeWhile aAu).length+1>7||hdW (l.dropWhile aAu))=true then (4:Int) else 0):=by
  obtain ⟨h1,h2,h3,_⟩:=aPy h
  unfold one;simp only [h1,h2,h3,h,Bool.false_eq_true,if_false,if_true]
  cases l.dropWhile aAu<;>rfl
theorem aTE {c:UInt8}(h:(c==34)=true):aB6 c=false∧(c==35)=false∧aBg c=false∧aAu c=false:=by
  rw [beq_iff_eq] at h;subst h;decide
theorem aIt {c:UInt8}{l:Bys}(h:(c==34)=true):one c l=(match aBS l with | some (s,k)=>(3,s,k,0) | none=>(0,[],0,3)):=by
  obtain ⟨h1,h2,h3,h4⟩:=aTE h
  unfold one;simp only [h1,h2,h3,h4,h,Bool.false_eq_true,if_false,if_true]
  cases aBS l<;>rfl
theorem aOW {c:UInt8}{l:Bys}(h1:aB6 c=false) (h2:(c==35)=false) (h3:aBg c=false) (h4:aAu c=false) (h5:(c==34)=false) (h6:aDt c=false):one c l=(0,[],0,3):=by
  unfold one;simp only [h1,h2,h3,h4,h5,h6,Bool.false_eq_true,if_false]
theorem aHo {p:UInt8→Bool}(l:Bys):l.dropWhile p=l.drop (l.takeWhile p).length:=by
  induction l with
  | nil=>rfl
  | cons c l ih =>
    rw [List.dropWhile_cons,List.takeWhile_cons]
    split
    · simp [ih]
    · rfl
theorem aL7:∀ (n:Nat) (l:Bys),l.length≤n→∀ {s:Bys}{k:Nat},aBS l=some (s,k)→k≤l.length:=fun n l h s k hs=>(aQD n l [] h hs).2
theorem aIf {p:UInt8→Bool}{s:Bys}{i j:Nat}{c:UInt8}(hc:s[i]?=some c) (hp:p c=true) (hr:RunTo p s i j) (hs:∀ c,s[j]?=some c→p c=false):i+1≤j∧c::(s.drop (i+1)).takeWhile p=(s.take j).drop i∧((s.drop (i+1)).takeWhile p).length=j-(i+1):=by
  obtain ⟨h1,h2⟩:=hr.stop hs
  rw [aDl hc,List.takeWhile_cons,if_pos hp] at h1 h2
  have h4:=hr.le
  simp only [List.length_cons] at h2
  refine ⟨by omega,?_,by omega⟩
  rw [h1,←aDl hc,List.drop_take]
theorem aKU {s:Bys}{i j:Nat}{c:UInt8}(hc:s[i]?=some c) (h:aBg c=true) (hr:RunTo aAF s i j) (hs:aCE s j=false):one c (s.drop (i+1))=(1,(s.take j).drop i,j-(i+1),if (24:Int)<(j:Int)-(i:Int) then 2 else 0)∧i+1≤j:=by
  obtain ⟨h1,h2,h3⟩:=aIf hc (aGF h).2.2.2 hr (fun c hc=>by rw [←aC7 hc];exact hs)
  refine ⟨?_,h1⟩
  rw [aRs h,h2,h3]
  have:(j-(i+1)+1>24)↔((24:Int)<(j:Int)-(i:Int)):=by omega
  simp only [this]
theorem aV6 {s:Bys}{j:Nat}:hdW (s.drop j)=aCE s j:=by
  cases hq:s[j]? with
  | none =>
    have hj:s.length≤j:=List.getElem?_eq_none_iff.1 hq
    rw [List.drop_of_length_le hj,aDR hj];rfl
  | some c=>rw [aDl hq,aC7 hq];rfl
theorem aLj {s:Bys}{i j:Nat}{c:UInt8}(hc:s[i]?=some c) (h:aAu c=true) (hr:RunTo aAu s i j) (hs:aFK s j=false):one c (s.drop (i+1))=(2,(s.take j).drop i,j-(i+1),if (decide ((7:Int)<(j:Int)-(i:Int))||aCE s j)=true then 4 else 0)∧i+1≤j:=by
  obtain ⟨h1,h2,h3⟩:=aIf hc h hr (fun c hc=>by rw [←aII hc];exact hs)
  refine ⟨?_,h1⟩
  have hdd:(s.drop (i+1)).dropWhile aAu=s.drop j:=by
    rw [aHo,h3,List.drop_drop,show i+1+(j-(i+1))=j by omega]
  rw [aRu h,h2,h3,hdd,aV6]
  have:decide (j-(i+1)+1>7)=decide ((7:Int)<(j:Int)-(i:Int)):=by rw [decide_eq_decide];omega
  rw [this]
theorem aGa {s:Bys}{i j:Nat}{c:UInt8}(hc:s[i]?=some c) (hb:aB6 c=false) (h:(c==35)=true) (hr:RunTo (· != 10) s i j) (hs:∀ c,s[j]?=some c→(c != 10)=false):one c (s.drop (i+1))=(0,[],j-(i+1),0)∧i+1≤j:=by
  have hp:(c != 10)=true:=by rw [beq_iff_eq] at h;subst h;decide
  obtain ⟨h1,h2,h3⟩:=aIf hc hp hr hs
  exact ⟨by rw [aRt hb h,h3],h1⟩
theorem aK1 {s:Bys}{i:Nat}{c:UInt8}(hc:s[i]?=some c) (h:(c==34)=true):s.drop i=34::s.drop (i+1)∧((∃ st m,aIW (s.drop (i+1))=(st,((m+1:Nat):Int))∧one c (s.drop (i+1))=(3,st,m,0)∧i+1+m≤s.length)∨(aIW (s.drop (i+1))=([],0)∧one c (s.drop (i+1))=(0,[],0,3))):=by
  refine ⟨by rw [aDl hc];rw [beq_iff_eq] at h;rw [h],?_⟩
  have hi:=(List.getElem?_eq_some_iff.1 hc).1
  rw [aIt h]
  cases hq:aBS (s.drop (i+1)) with
  | none=>exact .inr ⟨aJg hq,rfl⟩
  | some x =>
    obtain ⟨st,m⟩:=x
    have:=aL7 _ _ (Nat.le_refl _) hq
    rw [List.length_drop] at this
    exact .inl ⟨st,m,by rw [aSk hq];rfl,rfl,by omega⟩
theorem aNK {s:Bys}{j:Nat}(h:aFK s j=false):aCE s j=(aAp s j==3||aAp s j==5):=by
  unfold aFK at h
  unfold aCE
  rw [h];simp
theorem u10 (c:UInt8):(c != 10)=((c.toNat:Int) != 10):=by
  have:=q10 c
  unfold bne
  rw [this]
def aNE (s:Bys):List (Array Value):=(aBC s 0).map fun x=>#[.agg #[vI x.1.1,vS x.1.2.1,vI x.1.2.2,vI x.2]]
structure TokK (bt bf bc:Nat) (s:Bys) (G:Nat→Prop) (W:World):Prop where
  t:W.heap[bt]?=some (.cells #[vS s] 9 (0,0))
  f:W.heap[bf]?=some (.cells #[.func (.func 152) #[] #[vP bt 0,vP bc 0]] 228 (0,0))
  c:∃ cs,W.heap[bc]?=some (.cells cs 153 (0,0))∧T8 cs aIZ
  nt:¬ G bt
  nf:¬ G bf
  nc:¬ G bc
theorem aDm {w:World}{bt bc:Nat}{s:Bys}{cs:Array Value}(hbt:w.heap[bt]?=some (.cells #[vS s] 9 (0,0))) (hbc:w.heap[bc]?=some (.cells cs 153 (0,0))) (hT:T8 cs aIZ) (i:Nat):Calls Tryz.prog 152 #[vI (i:Int),vP bt 0,vP bc 0] w fun e w'=>e = .returned (.int .u8 ((aAp s i:Nat):Int))∧Fr (fun _=>False) w w':=by
  refine beg Tryz.func152 rfl rfl [(0,vI (i:Int)),(1,vP bt 0),(2,vP bc 0)] rfl rfl fun Φ hΦ=>?_
  have hM:=Mm.nil (fun _=>False) w
  refine seg 1 4 [(8,vB (decide ((s.length:Int)≤(i:Int))))] (fc (ld0 9 hM (bx hbt 0 rfl)) (fc (aC1 9 s) f0)) ?_
  cases h1:(decide ((s.length:Int)≤(i:Int)))
  ·have rh1:=df h1
   obtain ⟨e2,he2⟩:=geb (l:=s) (i:=i) (by omega)
   exact rt1 4 (.int .u8 ((aIZ e2.toNat:Nat):Int)) rfl (fc (ld0 9 hM (bx hbt 0 rfl)) (fc (byt 9 he2) (fc (aDJ 153 256 .u8 bc 0 e2.toNat e2.toNat_lt) (fc (ld0 5 hM (bx hbc (0+e2.toNat*1) (by rw [Nat.zero_add,Nat.mul_one];exact hT.2 _ e2.toNat_lt))) f0)))) (hΦ _ _ ⟨by rw [aBc he2,←aCX],hM.fr⟩)
  have rh1:=dt h1
  exact rt1 4 (.int .u8 0) rfl f0 (hΦ _ _ ⟨by rw [aGS (by omega)];rfl,hM.fr⟩)
abbrev aWg (Φ:Ending→World→Prop):=AtO Tryz.prog (aAf Tryz.f153) (aAo (bodyPost Tryz.prog Tryz.f153 Φ)) [] 149
theorem aHW {bt bf bc:Nat}{s:Bys}(hl:s.length≤20000):aN9 Tryz.prog 153 #[vP bt 0,vP bf 0] (aNE s) (TokK bt bf bc s):=by
  intro l J S w e0 hJ0 he hKp hSq hround
  obtain ⟨hbt,hbf,⟨cs,hbc,hT⟩,hnt,hnf,hnc⟩:=hKp
  refine beg Tryz.func153 rfl rfl [(0,.func (.yield l) #[] #[]),(1,vP bt 0),(2,vP bf 0)] rfl rfl fun Φ hΦ=>?_
  have hM:=Mm.one he
  refine seg 1 0 [(4,vI 0)] f0 ?_
  have lp3:∀ (m5:Nat) (k:Nat) (i:Nat) (ek:Ent) (w2:World),aCI s k i→J k ek→Mm e0.B w w2 [ek]→m5=s.length-i→aWg Φ (some (1,0)) [(4,vI (i:Int)),(0,.func (.yield l) #[] #[]),(1,vP bt 0),(2,vP bf 0)] w2:=by
   refine aAG fun m5 ih4 k i ek w2 hL hJ hM hm5=>?_
   have hil:=hL.1
   refine seg 1 4 [(14,vB (decide ((i:Int)<(s.length:Int))))] (fc (ld0 9 hM (bx hbt 0 rfl) hnt) (fc (aC1 9 s) f0)) ?_
   cases h6:(decide ((i:Int)<(s.length:Int)))
   ·have rh6:=df h6
    have hie:i=s.length:=by omega
    have hL9:aCI s k s.length:=by rw [←hie];exact hL
    have hd9:=hL9.done
    exact rt0 rfl f0 (hΦ _ _ ⟨⟨_,rfl⟩,.inl ⟨_,by unfold aNE;rw [List.length_map,←hd9];exact hJ,hM.get 0 rfl,hM.fr⟩⟩)
   have rh6:=dt h6
   obtain ⟨c,hc⟩:=geb (l:=s) (i:=i) (by omega)
   refine aCh 3 3 6 [(5,vI (i:Int)),(18,.agg #[vI 0,vS [],vI (i:Int),vI 3])] [] 205 (.agg #[vI 0,vS [],vI (i:Int),vI 3]) f0 hM fun b7 w1 hM=>aAr 4 2 21 [(19,.func (.func 152) #[] #[vP bt 0,vP bc 0]),(20,vI (i:Int))] (fc (ld0 228 hM (bx hbf 0 rfl) hnf) f0) hM (aDm (hM.fr.obj hbt hnt) (hM.fr.obj hbc hnc) hT i) fun w1 hM=>seg 5 2 [(22,vB (((aAp s i:Nat):Int)==1))] f0 ?_
   cases h8:(((aAp s i:Nat):Int)==1)
   rotate_left
   ·have rh8:=et h8
    have hblk:aB6 c=true:=by rw [←(aCA c).1,←aBc hc];exact (aFV (aAp s i) 1).symm.trans h8
    refine seg 1 0 [(4,vI ((i:Int)+1))] (fc (aAe (i:Int) 1 u3_) f0) ?_
    have hL9:aCI s k (i+1):=(by have:=hL.gap hc (aOX hblk) (m:=0) (by omega);simpa using this)
    have hl9:=hL9.1
    exact aAb _ (ih4 _ (by omega) k (i+1) ek _ hL9 hJ (hM.pick [0]) rfl)
   have rh8:=ef h8
   have hblk:aB6 c=false:=by rw [←(aCA c).1,←aBc hc];exact (aFV (aAp s i) 1).symm.trans h8
   refine seg 7 2 [(26,vB (((aAp s i:Nat):Int)==2))] f0 ?_
   cases h9:(((aAp s i:Nat):Int)==2)
   rotate_left
   ·have rh9:=et h9
    have hhash:(c==35)=true:=by rw [←(aCA c).2.1,←aBc hc];exact (aFV (aAp s i) 2).symm.trans h9
    refine seg 8 0 [] f0 ?_
    have ah:∀ (ae:Nat) (j:Nat) (w2:World),RunTo (· != 10) s i j→Mm e0.B w w2 [ek,bk b7 #[vI 0,vS [],vI (i:Int),vI 3] 205]→ae=s.length-j→aWg Φ (some (8,0)) [(4,vI (j:Int)),(0,.func (.yield l) #[] #[]),(1,vP bt 0),(2,vP bf 0)] w2:=by
     refine aAG fun ae ai j w2 hr hM a0=>?_
     have hjl:=hr.hi
     refine seg 8 5 [(32,vB (decide ((j:Int)<(s.length:Int))))] (fc (ld0 9 hM (bx hbt 0 rfl) hnt) (fc (aC1 9 s) f0)) ?_
     cases h35:(decide ((j:Int)<(s.length:Int)))
     ·have aj:=df h35
      have hjn:s[j]?=none:=List.getElem?_eq_none (by omega)
      refine seg 1 0 [] f0 ?_
      obtain ⟨hon,hij⟩:=aGa hc hblk hhash hr (fun c hc9=>by rw [hjn] at hc9;cases hc9)
      have hjl:=hr.hi
      have hL9:aCI s k j:=(by have:=hL.gap hc hon (by have:=hr.hi;omega);rwa [show i+1+(j-(i+1))=j by omega] at this)
      have hl9:=hL9.1
      exact aAb _ (ih4 _ (by omega) k j ek _ hL9 hJ (hM.pick [0]) rfl)
     have aj:=dt h35
     obtain ⟨e,he⟩:=geb (l:=s) (i:=j) (by omega)
     refine seg 8 10 [(37,vB (!((e.toNat:Int)==10)))] (fc (ld0 9 hM (bx hbt 0 rfl) hnt) (fc (byt 9 he) f0)) ?_
     cases h36:((e.toNat:Int)==10)
     ·have ak:=ef h36
      have hen:(e != 10)=true:=by rw [u10];show (!((e.toNat:Int)==10))=_;rw [h36];rfl
      refine seg 8 0 [(4,vI ((j:Int)+1))] (fc (aAe (j:Int) 1 u3_) f0) (aAb _ (ai _ (by omega) (j+1) _ (hr.step he hen) hM rfl))
     have ak:=et h36
     have hen:(e != 10)=false:=by rw [u10];show (!((e.toNat:Int)==10))=_;rw [h36];rfl
     refine seg 1 0 [] f0 ?_
     obtain ⟨hon,hij⟩:=aGa hc hblk hhash hr (fun c hc9=>by rw [he] at hc9;cases hc9;exact hen)
     have hjl:=hr.hi
     have hL9:aCI s k j:=(by have:=hL.gap hc hon (by have:=hr.hi;omega);rwa [show i+1+(j-(i+1))=j by omega] at this)
     have hl9:=hL9.1
     exact aAb _ (ih4 _ (by omega) k j ek _ hL9 hJ (hM.pick [0]) rfl)
    exact aAb _ (ah _ i _ (RunTo.start hL.1) hM rfl)
   have rh9:=ef h9
   have hhash:(c==35)=false:=by rw [←(aCA c).2.1,←aBc hc];exact (aFV (aAp s i) 2).symm.trans h9
   refine seg 10 2 [(40,vB (((aAp s i:Nat):Int)==3))] f0 ?_
   cases h10:(((aAp s i:Nat):Int)==3)
   rotate_left
   ·have al:=et h10
    have hlet:aBg c=true:=by rw [←(aCA c).2.2.1,←aBc hc];exact (aFV (aAp s i) 3).symm.trans h10
    refine aAr 11 2 44 [(42,.func (.func 152) #[] #[vP bt 0,vP bc 0]),(43,vI (i:Int))] (fc (ld0 228 hM (bx hbf 0 rfl) hnf) f0) hM (aDm (hM.fr.obj hbt hnt) (hM.fr.obj hbc hnc) hT i) fun w1 hM=>seg 12 0 [(7,.int .u8 ((aAp s i:Nat):Int))] f0 ?_
    have am:∀ (af:Nat) (j:Nat) (w2:World),RunTo aAF s i j→Mm e0.B w w2 [ek,bk b7 #[vI 0,vS [],vI (i:Int),vI 3] 205]→af=s.length-j→aWg Φ (some (12,0)) [(7,.int .u8 ((aAp s j:Nat):Int)),(6,vP b7 0),(5,vI (i:Int)),(4,vI (j:Int)),(0,.func (.yield l) #[] #[]),(1,vP bt 0),(2,vP bf 0)] w2:=by
     refine aAG fun af ac j w2 hr hM a1=>?_
     have hjl:=hr.hi
     refine seg 12 3 [(47,vB (((aAp s j:Nat):Int)==3))] f0 ?_
     cases h27:(((aAp s j:Nat):Int)==3)
     rotate_left
     ·have an:=et h27
      have hj3:(aAp s j==3)=true:=(aFV (aAp s j) 3).symm.trans h27
      refine aAr 13 2 57 [(4,vI ((j:Int)+1)),(55,.func (.func 152) #[] #[vP bt 0,vP bc 0]),(56,vI ((j:Int)+1))] (fc (aAe (j:Int) 1 u3_) (fc (ld0 228 hM (bx hbf 0 rfl) hnf) f0)) hM (aDm (hM.fr.obj hbt hnt) (hM.fr.obj hbc hnc) hT (j+1)) fun w1 hM=>seg 12 0 [(7,.int .u8 ((aAp s (j+1):Nat):Int))] f0 ?_
      have hwj:aCE s j=true:=by unfold aCE;first | (rw [hj3];done) | (rw [hj3];rfl)
      have hltj:j<s.length:=Nat.lt_of_not_le fun h9=>by rw [aDR h9] at hwj;cases hwj
      obtain ⟨e,he⟩:=geb (l:=s) (i:=j) hltj
      have hen:aAF e=true:=by rw [←aC7 he];exact hwj
      exact aAb _ (ac _ (by omega) (j+1) _ (hr.step he hen) hM rfl)
     have an:=ef h27
     have hj3:(aAp s j==3)=false:=(aFV (aAp s j) 3).symm.trans h27
     refine seg 12 7 [(51,vB (((aAp s j:Nat):Int)==4))] f0 ?_
     cases h28:(((aAp s j:Nat):Int)==4)
     rotate_left
     ·have ao:=et h28
      have hj4:(aAp s j==4)=true:=(aFV (aAp s j) 4).symm.trans h28
      refine aAr 13 2 57 [(4,vI ((j:Int)+1)),(55,.func (.func 152) #[] #[vP bt 0,vP bc 0]),(56,vI ((j:Int)+1))] (fc (aAe (j:Int) 1 u3_) (fc (ld0 228 hM (bx hbf 0 rfl) hnf) f0)) hM (aDm (hM.fr.obj hbt hnt) (hM.fr.obj hbc hnc) hT (j+1)) fun w1 hM=>seg 12 0 [(7,.int .u8 ((aAp s (j+1):Nat):Int))] f0 ?_
      have hwj:aCE s j=true:=by unfold aCE;first | (rw [hj3,hj4];done) | (rw [hj3,hj4];rfl)
      have hltj:j<s.length:=Nat.lt_of_not_le fun h9=>by rw [aDR h9] at hwj;cases hwj
      obtain ⟨e,he⟩:=geb (l:=s) (i:=j) hltj
      have hen:aAF e=true:=by rw [←aC7 he];exact hwj
      exact aAb _ (ac _ (by omega) (j+1) _ (hr.step he hen) hM rfl)
     have ao:=ef h28
     have hj4:(aAp s j==4)=false:=(aFV (aAp s j) 4).symm.trans h28
     refine seg 12 10 [(54,vB (((aAp s j:Nat):Int)==5))] f0 ?_
     cases h29:(((aAp s j:Nat):Int)==5)
     rotate_left
     ·have ap:=et h29
      have hj5:(aAp s j==5)=true:=(aFV (aAp s j) 5).symm.trans h29
      refine aAr 13 2 57 [(4,vI ((j:Int)+1)),(55,.func (.func 152) #[] #[vP bt 0,vP bc 0]),(56,vI ((j:Int)+1))] (fc (aAe (j:Int) 1 u3_) (fc (ld0 228 hM (bx hbf 0 rfl) hnf) f0)) hM (aDm (hM.fr.obj hbt hnt) (hM.fr.obj hbc hnc) hT (j+1)) fun w1 hM=>seg 12 0 [(7,.int .u8 ((aAp s (j+1):Nat):Int))] f0 ?_
      have hwj:aCE s j=true:=by unfold aCE;first | (rw [hj3,hj4,hj5];done) | (rw [hj3,hj4,hj5];rfl)
      have hltj:j<s.length:=Nat.lt_of_not_le fun h9=>by rw [aDR h9] at hwj;cases hwj
      obtain ⟨e,he⟩:=geb (l:=s) (i:=j) hltj
      have hen:aAF e=true:=by rw [←aC7 he];exact hwj
      exact aAb _ (ac _ (by omega) (j+1) _ (hr.step he hen) hM rfl)
     have ap:=ef h29
     have hj5:(aAp s j==5)=false:=(aFV (aAp s j) 5).symm.trans h29
     have hws:aCE s j=false:=by unfold aCE;rw [hj3,hj4,hj5];rfl
     obtain ⟨hon,hij⟩:=aKU hc hlet hr hws
     refine seg 15 0 [] f0 (drx [6,9,11] (fun γ=>[none,none,none]) _ (fun γ l=>[ek,bk b7 #[(bif l.getD 0 false then vI 1 else vI 0),(bif l.getD 1 false then vS ((s.take j).drop i) else vS []),vI (i:Int),(bif l.getD 2 false then vI 0 else vI 3)] 205]) (fun γ=>[]) hM (fun γ=>rfl) (fun γ l w5 hM=>(fc (ld0 9 hM (bx hbt 0 rfl) hnt) (fc (aQk 9 s i j (by omega) (by omega) (y:=(i:Int)) (z:=(j:Int)) (by omega) (by omega)) f0))) ⟨aB7 0 6 3 1 0 (fun γ=>b7) (fun γ l=>#[(bif l.getD 0 false then vI 1 else vI 0),(bif l.getD 1 false then vS ((s.take j).drop i) else vS []),vI (i:Int),(bif l.getD 2 false then vI 0 else vI 3)]) 205 (fun γ=>vI 1),aB7 1 9 9 1 1 (fun γ=>b7) (fun γ l=>#[(bif l.getD 0 false then vI 1 else vI 0),(bif l.getD 1 false then vS ((s.take j).drop i) else vS []),vI (i:Int),(bif l.getD 2 false then vI 0 else vI 3)]) 205 (fun γ=>vS ((s.take j).drop i)),aB7 2 11 32 1 3 (fun γ=>b7) (fun γ l=>#[(bif l.getD 0 false then vI 1 else vI 0),(bif l.getD 1 false then vS ((s.take j).drop i) else vS []),vI (i:Int),(bif l.getD 2 false then vI 0 else vI 3)]) 205 (fun γ=>vI 0),trivial⟩ fun a2 w1 hM=>?_)
     replace hM:Mm e0.B w w1 [ek,bk b7 #[vI 1,vS ((s.take j).drop i),vI (i:Int),vI 0] 205]:=hM
     refine seg 16 4 [(72,vB (decide (24<((j:Int)-(i:Int)))))] (fc (aBq (j:Int) (i:Int) u3_) f0) ?_
     cases h31:(decide (24<((j:Int)-(i:Int))))
     ·have ad:=df h31
      rw [if_neg ad] at hon
      obtain ⟨hx,hLn⟩:=hL.tok hc hon (by decide) (by omega)
      refine yld 33 2 142 [(140,.func (.yield l) #[] #[]),(141,.agg #[vI 1,vS ((s.take j).drop i),vI (i:Int),vI 0])] #[205] (by decide) (fc (lam 205 1 0 4 hM rfl) f0) hM (j:=0) rfl (hround _ _ _ _ hJ (hM.get 0 rfl) hM.fr (aFi hx)) (fun ec w1 hJ hM=>?_) (fun w1 hS=>?_)
      · skip
        refine seg 1 0 [] (fc (ldm 32 1 3 hM rfl rfl) f0) ?_
        have hL9:aCI s (k+1) j:=(by rwa [show i+1+(j-(i+1))=j by omega] at hLn)
        have hl9:=hL9.1
        exact aAb _ (ih4 _ (by omega) (k+1) j ec _ hL9 hJ (hM.pick [0]) rfl)
      · skip
        exact rt0 rfl f0 (hΦ _ _ ⟨⟨_,rfl⟩,.inr hS⟩)
     have ad:=dt h31
     refine stm 17 1 [(73,vP b7 3)] 32 1 3 (vI 2) f0 hM rfl fun w1 hM=>?_
     rw [if_pos ad] at hon
     obtain ⟨hx,hend⟩:=hL.err hc hon (by decide)
     refine yld 33 2 142 [(140,.func (.yield l) #[] #[]),(141,.agg #[vI 1,vS ((s.take j).drop i),vI (i:Int),vI 2])] #[205] (by decide) (fc (lam 205 1 0 4 hM rfl) f0) hM (j:=0) rfl (hround _ _ _ _ hJ (hM.get 0 rfl) hM.fr (aFi hx)) (fun ec w1 hJ hM=>?_) (fun w1 hS=>?_)
     · skip
       exact rt0 rfl (fc (ldm 32 1 3 hM rfl rfl) f0) (hΦ _ _ ⟨⟨_,rfl⟩,.inl ⟨_,by unfold aNE;rw [List.length_map,←hend];exact hJ,hM.get 0 rfl,hM.fr⟩⟩)
     · skip
       exact rt0 rfl f0 (hΦ _ _ ⟨⟨_,rfl⟩,.inr hS⟩)
    exact aAb _ (am _ i _ (RunTo.start hL.1) hM rfl)
   have al:=ef h10
   have hlet:aBg c=false:=by rw [←(aCA c).2.2.1,←aBc hc];exact (aFV (aAp s i) 3).symm.trans h10
   refine seg 18 2 [(74,vB (((aAp s i:Nat):Int)==4))] f0 ?_
   cases h11:(((aAp s i:Nat):Int)==4)
   ·have aq:=ef h11
    have hdig:aAu c=false:=by rw [←(aCA c).2.2.2.1,←aBc hc];exact (aFV (aAp s i) 4).symm.trans h11
    refine seg 25 2 [(107,vB (((aAp s i:Nat):Int)==7))] f0 ?_
    cases h12:(((aAp s i:Nat):Int)==7)
    ·have ar:=ef h12
     have hquo:(c==34)=false:=by rw [←(aCA c).2.2.2.2.1,←aBc hc];exact (aFV (aAp s i) 7).symm.trans h12
     refine seg 30 2 [(127,vB (((aAp s i:Nat):Int)==6))] f0 ?_
     cases h13:(((aAp s i:Nat):Int)==6)
     ·have au:=ef h13
      have hsym:aDt c=false:=by rw [←(aCA c).2.2.2.2.2.1,←aBc hc];exact (aFV (aAp s i) 6).symm.trans h13
      have hon:=aOW (l:=s.drop (i+1)) hblk hhash hlet hdig hquo hsym
      obtain ⟨hx,hend⟩:=hL.err hc hon (by decide)
      refine yld 33 2 142 [(140,.func (.yield l) #[] #[]),(141,.agg #[vI 0,vS [],vI (i:Int),vI 3])] #[205] (by decide) (fc (lam 205 1 0 4 hM rfl) f0) hM (j:=0) rfl (hround _ _ _ _ hJ (hM.get 0 rfl) hM.fr (aFi hx)) (fun ec w1 hJ hM=>?_) (fun w1 hS=>?_)
      · skip
        exact rt0 rfl (fc (ldm 32 1 3 hM rfl rfl) f0) (hΦ _ _ ⟨⟨_,rfl⟩,.inl ⟨_,by unfold aNE;rw [List.length_map,←hend];exact hJ,hM.get 0 rfl,hM.fr⟩⟩)
      · skip
        exact rt0 rfl f0 (hΦ _ _ ⟨⟨_,rfl⟩,.inr hS⟩)
     have au:=et h13
     have hsym:aDt c=true:=by rw [←(aCA c).2.2.2.2.2.1,←aBc hc];exact (aFV (aAp s i) 6).symm.trans h13
     have hon:one c (s.drop (i+1))=(4,(s.take (i+1)).drop i,0,0):=by rw [aOV hsym,aDc hc (Nat.le_refl _)];simp
     refine seg 32 0 [(4,vI ((i:Int)+1))] (fc (aAe (i:Int) 1 u3_) f0) (drx [6,9,11] (fun γ=>[none,none,none]) _ (fun γ l=>[ek,bk b7 #[(bif l.getD 0 false then vI 4 else vI 0),(bif l.getD 1 false then vS ((s.take (i+1)).drop i) else vS []),vI (i:Int),(bif l.getD 2 false then vI 0 else vI 3)] 205]) (fun γ=>[]) hM (fun γ=>rfl) (fun γ l w5 hM=>(fc (ld0 9 hM (bx hbt 0 rfl) hnt) (fc (aQk 9 s i (i+1) (by omega) (by omega) (y:=(i:Int)) (z:=((i:Int)+1)) (by omega) (by omega)) f0))) ⟨aB7 0 6 3 1 0 (fun γ=>b7) (fun γ l=>#[(bif l.getD 0 false then vI 4 else vI 0),(bif l.getD 1 false then vS ((s.take (i+1)).drop i) else vS []),vI (i:Int),(bif l.getD 2 false then vI 0 else vI 3)]) 205 (fun γ=>vI 4),aB7 1 9 9 1 1 (fun γ=>b7) (fun γ l=>#[(bif l.getD 0 false then vI 4 else vI 0),(bif l.getD 1 false then vS ((s.take (i+1)).drop i) else vS []),vI (i:Int),(bif l.getD 2 false then vI 0 else vI 3)]) 205 (fun γ=>vS ((s.take (i+1)).drop i)),aB7 2 11 32 1 3 (fun γ=>b7) (fun γ l=>#[(bif l.getD 0 false then vI 4 else vI 0),(bif l.getD 1 false then vS ((s.take (i+1)).drop i) else vS []),vI (i:Int),(bif l.getD 2 false then vI 0 else vI 3)]) 205 (fun γ=>vI 0),trivial⟩ fun a3 w1 hM=>?_)
     replace hM:Mm e0.B w w1 [ek,bk b7 #[vI 4,vS ((s.take (i+1)).drop i),vI (i:Int),vI 0] 205]:=hM
     obtain ⟨hx,hLn⟩:=hL.tok hc hon (by decide) (by omega)
     refine yld 33 2 142 [(140,.func (.yield l) #[] #[]),(141,.agg #[vI 4,vS ((s.take (i+1)).drop i),vI (i:Int),vI 0])] #[205] (by decide) (fc (lam 205 1 0 4 hM rfl) f0) hM (j:=0) rfl (hround _ _ _ _ hJ (hM.get 0 rfl) hM.fr (aFi hx)) (fun ec w1 hJ hM=>?_) (fun w1 hS=>?_)
     · skip
       refine seg 1 0 [] (fc (ldm 32 1 3 hM rfl rfl) f0) ?_
       have hL9:aCI s (k+1) (i+1):=(by simpa using hLn)
       have hl9:=hL9.1
       exact aAb _ (ih4 _ (by omega) (k+1) (i+1) ec _ hL9 hJ (hM.pick [0]) rfl)
     · skip
       exact rt0 rfl f0 (hΦ _ _ ⟨⟨_,rfl⟩,.inr hS⟩)
    have ar:=et h12
    have hquo:(c==34)=true:=by rw [←(aCA c).2.2.2.2.1,←aBc hc];exact (aFV (aAp s i) 7).symm.trans h12
    obtain ⟨hsd,-⟩:=aK1 hc hquo
    refine aAr 26 3 113 [(112,vS (34::s.drop (i+1)))] (fc (ld0 9 hM (bx hbt 0 rfl) hnt) (fc (rz2 (aX0 9 s i (by omega) (y:=(i:Int)) (by omega)) (congrArg vS hsd)) f0)) hM (aOa (t:=34::s.drop (i+1)) (l:=s.drop (i+1)) rfl (by rw [List.length_drop];omega) _) fun w1 hM=>seg 27 2 [(9,vS ((aIW (s.drop (i+1))).1)),(10,vI (aIW (s.drop (i+1))).2),(117,vB (decide (0<(aIW (s.drop (i+1))).2)))] f0 ?_
    cases h15:(decide (0<(aIW (s.drop (i+1))).2))
    ·have aa:=df h15
     obtain ⟨-,hso⟩:=aK1 hc hquo
     obtain ⟨hun,hon⟩:aIW (s.drop (i+1))=([],0)∧one c (s.drop (i+1))=(0,[],0,3):=hso.resolve_left (fun ⟨st,m,hx,_⟩=>by rw [hx] at aa;simp only at aa;omega)
     clear hso
     have hu1:(aIW (s.drop (i+1))).1=[]:=by rw [hun]
     have hu2:(aIW (s.drop (i+1))).2=0:=by rw [hun]
     rw [hu1,hu2]
     obtain ⟨hx,hend⟩:=hL.err hc hon (by decide)
     refine yld 33 2 142 [(4,vI ((i:Int)+0)),(140,.func (.yield l) #[] #[]),(141,.agg #[vI 0,vS [],vI (i:Int),vI 3])] #[205] (by decide) (fc (aAe (i:Int) 0 u3_) (fc (lam 205 1 0 4 hM rfl) f0)) hM (j:=0) rfl (hround _ _ _ _ hJ (hM.get 0 rfl) hM.fr (aFi hx)) (fun ec w1 hJ hM=>?_) (fun w1 hS=>?_)
     · skip
       exact rt0 rfl (fc (ldm 32 1 3 hM rfl rfl) f0) (hΦ _ _ ⟨⟨_,rfl⟩,.inl ⟨_,by unfold aNE;rw [List.length_map,←hend];exact hJ,hM.get 0 rfl,hM.fr⟩⟩)
     · skip
       exact rt0 rfl f0 (hΦ _ _ ⟨⟨_,rfl⟩,.inr hS⟩)
    have aa:=dt h15
    obtain ⟨-,hso⟩:=aK1 hc hquo
    obtain ⟨st,m,hun,hon,hmm⟩:∃ st m,aIW (s.drop (i+1))=(st,((m+1:Nat):Int))∧one c (s.drop (i+1))=(3,st,m,0)∧i+1+m≤s.length:=hso.resolve_right (fun hx=>by rw [hx.1] at aa;simp at aa)
    clear hso
    have hu1:(aIW (s.drop (i+1))).1=st:=by rw [hun]
    have hu2:(aIW (s.drop (i+1))).2=((m+1:Nat):Int):=by rw [hun]
    rw [hu1,hu2]
    refine stm 28 3 [(118,vS st),(120,vP b7 0)] 3 1 0 (vI 3) f0 hM rfl fun w1 hM=>stm 28 6 [(122,vP b7 1)] 9 1 1 (vS st) f0 hM rfl fun w1 hM=>stm 28 8 [(123,vP b7 3)] 32 1 3 (vI 0) f0 hM rfl fun w1 hM=>?_
    obtain ⟨hx,hLn⟩:=hL.tok hc hon (by decide) (by omega)
    refine yld 33 2 142 [(4,vI ((i:Int)+((m+1:Nat):Int))),(140,.func (.yield l) #[] #[]),(141,.agg #[vI 3,vS st,vI (i:Int),vI 0])] #[205] (by decide) (fc (aAe (i:Int) ((m+1:Nat):Int) u3_) (fc (lam 205 1 0 4 hM rfl) f0)) hM (j:=0) rfl (hround _ _ _ _ hJ (hM.get 0 rfl) hM.fr (aFi hx)) (fun ec w1 hJ hM=>?_) (fun w1 hS=>?_)
    · skip
      refine seg 1 0 [] (fc (ldm 32 1 3 hM rfl rfl) f0) ?_
      have hL9:aCI s (k+1) (i+(m+1)):=(by rwa [show i+1+m=i+(m+1) by omega] at hLn)
      have hl9:=hL9.1
      exact aAb _ (ih4 _ (by omega) (k+1) (i+(m+1)) ec _ hL9 hJ (hM.pick [0]) rfl)
    · skip
      exact rt0 rfl f0 (hΦ _ _ ⟨⟨_,rfl⟩,.inr hS⟩)
   have aq:=et h11
   have hdig:aAu c=true:=by rw [←(aCA c).2.2.2.1,←aBc hc];exact (aFV (aAp s i) 4).symm.trans h11
   refine seg 19 0 [] f0 ?_
   have av:∀ (ag:Nat) (j:Nat) (w2:World),RunTo aAu s i j→Mm e0.B w w2 [ek,bk b7 #[vI 0,vS [],vI (i:Int),vI 3] 205]→ag=s.length-j→aWg Φ (some (19,0)) [(6,vP b7 0),(5,vI (i:Int)),(4,vI (j:Int)),(0,.func (.yield l) #[] #[]),(1,vP bt 0),(2,vP bf 0)] w2:=by
    refine aAG fun ag aw j w2 hr hM a4=>?_
    have hjl:=hr.hi
    refine aAr 19 2 78 [(76,.func (.func 152) #[] #[vP bt 0,vP bc 0]),(77,vI (j:Int))] (fc (ld0 228 hM (bx hbf 0 rfl) hnf) f0) hM (aDm (hM.fr.obj hbt hnt) (hM.fr.obj hbc hnc) hT j) fun w1 hM=>seg 19 4 [(79,vB (((aAp s j:Nat):Int)==4))] f0 ?_
    cases h19:(((aAp s j:Nat):Int)==4)
    rotate_left
    ·have ax:=et h19
     have hj4:(aAp s j==4)=true:=(aFV (aAp s j) 4).symm.trans h19
     refine seg 19 0 [(4,vI ((j:Int)+1))] (fc (aAe (j:Int) 1 u3_) f0) ?_
     have hwj:aFK s j=true:=by unfold aFK;first | (rw [hj4];done) | (rw [hj4];rfl)
     have hltj:j<s.length:=Nat.lt_of_not_le fun h9=>by rw [aMq h9] at hwj;cases hwj
     obtain ⟨e,he⟩:=geb (l:=s) (i:=j) hltj
     have hen:aAu e=true:=by rw [←aII he];exact hwj
     exact aAb _ (aw _ (by omega) (j+1) _ (hr.step he hen) hM rfl)
    have ax:=ef h19
    have hj4:(aAp s j==4)=false:=(aFV (aAp s j) 4).symm.trans h19
    have hds:aFK s j=false:=by unfold aFK;exact hj4
    obtain ⟨hon,hij⟩:=aLj hc hdig hr hds
    refine seg 21 0 [] f0 (drx [6,9,11] (fun γ=>[none,none,none]) _ (fun γ l=>[ek,bk b7 #[(bif l.getD 0 false then vI 2 else vI 0),(bif l.getD 1 false then vS ((s.take j).drop i) else vS []),vI (i:Int),(bif l.getD 2 false then vI 0 else vI 3)] 205]) (fun γ=>[]) hM (fun γ=>rfl) (fun γ l w5 hM=>(fc (ld0 9 hM (bx hbt 0 rfl) hnt) (fc (aQk 9 s i j (by omega) (by omega) (y:=(i:Int)) (z:=(j:Int)) (by omega) (by omega)) f0))) ⟨aB7 0 6 3 1 0 (fun γ=>b7) (fun γ l=>#[(bif l.getD 0 false then vI 2 else vI 0),(bif l.getD 1 false then vS ((s.take j).drop i) else vS []),vI (i:Int),(bif l.getD 2 false then vI 0 else vI 3)]) 205 (fun γ=>vI 2),aB7 1 9 9 1 1 (fun γ=>b7) (fun γ l=>#[(bif l.getD 0 false then vI 2 else vI 0),(bif l.getD 1 false then vS ((s.take j).drop i) else vS []),vI (i:Int),(bif l.getD 2 false then vI 0 else vI 3)]) 205 (fun γ=>vS ((s.take j).drop i)),aB7 2 11 32 1 3 (fun γ=>b7) (fun γ l=>#[(bif l.getD 0 false then vI 2 else vI 0),(bif l.getD 1 false then vS ((s.take j).drop i) else vS []),vI (i:Int),(bif l.getD 2 false then vI 0 else vI 3)]) 205 (fun γ=>vI 0),trivial⟩ fun a5 w1 hM=>?_)
    replace hM:Mm e0.B w w1 [ek,bk b7 #[vI 2,vS ((s.take j).drop i),vI (i:Int),vI 0] 205]:=hM
    refine aAr 22 2 93 [(91,.func (.func 152) #[] #[vP bt 0,vP bc 0]),(92,vI (j:Int))] (fc (ld0 228 hM (bx hbf 0 rfl) hnf) f0) hM (aDm (hM.fr.obj hbt hnt) (hM.fr.obj hbc hnc) hT j) fun w1 hM=>seg 23 5 [(8,.int .u8 ((aAp s j:Nat):Int)),(98,vB (decide (7<((j:Int)-(i:Int)))))] (fc (aBq (j:Int) (i:Int) u3_) f0) ?_
    cases h21:(decide (7<((j:Int)-(i:Int))))
    rotate_left
    ·have ab:=dt h21
     refine stm 24 1 [(106,vP b7 3)] 32 1 3 (vI 4) f0 hM rfl fun w1 hM=>?_
     rw [decide_eq_true ab,Bool.true_or,if_pos rfl] at hon
     obtain ⟨hx,hend⟩:=hL.err hc hon (by decide)
     refine yld 33 2 142 [(140,.func (.yield l) #[] #[]),(141,.agg #[vI 2,vS ((s.take j).drop i),vI (i:Int),vI 4])] #[205] (by decide) (fc (lam 205 1 0 4 hM rfl) f0) hM (j:=0) rfl (hround _ _ _ _ hJ (hM.get 0 rfl) hM.fr (aFi hx)) (fun ec w1 hJ hM=>?_) (fun w1 hS=>?_)
     · skip
       exact rt0 rfl (fc (ldm 32 1 3 hM rfl rfl) f0) (hΦ _ _ ⟨⟨_,rfl⟩,.inl ⟨_,by unfold aNE;rw [List.length_map,←hend];exact hJ,hM.get 0 rfl,hM.fr⟩⟩)
     · skip
       exact rt0 rfl f0 (hΦ _ _ ⟨⟨_,rfl⟩,.inr hS⟩)
    have ab:=df h21
    refine seg 23 9 [(102,vB (((aAp s j:Nat):Int)==3))] f0 ?_
    cases h22:(((aAp s j:Nat):Int)==3)
    rotate_left
    ·have ay:=et h22
     have hj3:(aAp s j==3)=true:=(aFV (aAp s j) 3).symm.trans h22
     refine stm 24 1 [(106,vP b7 3)] 32 1 3 (vI 4) f0 hM rfl fun w1 hM=>?_
     have hwq:aCE s j=true:=by rw [aNK hds,hj3];simp
     rw [hwq,decide_eq_false ab] at hon
     simp only [Bool.or_true,Bool.or_false,Bool.false_eq_true,if_true,if_false] at hon
     obtain ⟨hx,hend⟩:=hL.err hc hon (by decide)
     refine yld 33 2 142 [(140,.func (.yield l) #[] #[]),(141,.agg #[vI 2,vS ((s.take j).drop i),vI (i:Int),vI 4])] #[205] (by decide) (fc (lam 205 1 0 4 hM rfl) f0) hM (j:=0) rfl (hround _ _ _ _ hJ (hM.get 0 rfl) hM.fr (aFi hx)) (fun ec w1 hJ hM=>?_) (fun w1 hS=>?_)
     · skip
       exact rt0 rfl (fc (ldm 32 1 3 hM rfl rfl) f0) (hΦ _ _ ⟨⟨_,rfl⟩,.inl ⟨_,by unfold aNE;rw [List.length_map,←hend];exact hJ,hM.get 0 rfl,hM.fr⟩⟩)
     · skip
       exact rt0 rfl f0 (hΦ _ _ ⟨⟨_,rfl⟩,.inr hS⟩)
    have ay:=ef h22
    have hj3:(aAp s j==3)=false:=(aFV (aAp s j) 3).symm.trans h22
    refine seg 23 12 [(105,vB (((aAp s j:Nat):Int)==5))] f0 ?_
    cases h23:(((aAp s j:Nat):Int)==5)
    ·have az:=ef h23
     have hj5:(aAp s j==5)=false:=(aFV (aAp s j) 5).symm.trans h23
     have hwq:aCE s j=false:=by rw [aNK hds,hj3,hj5];rfl
     rw [hwq,decide_eq_false ab] at hon
     simp only [Bool.or_true,Bool.or_false,Bool.false_eq_true,if_true,if_false] at hon
     obtain ⟨hx,hLn⟩:=hL.tok hc hon (by decide) (by omega)
     refine yld 33 2 142 [(140,.func (.yield l) #[] #[]),(141,.agg #[vI 2,vS ((s.take j).drop i),vI (i:Int),vI 0])] #[205] (by decide) (fc (lam 205 1 0 4 hM rfl) f0) hM (j:=0) rfl (hround _ _ _ _ hJ (hM.get 0 rfl) hM.fr (aFi hx)) (fun ec w1 hJ hM=>?_) (fun w1 hS=>?_)
     · skip
       refine seg 1 0 [] (fc (ldm 32 1 3 hM rfl rfl) f0) ?_
       have hL9:aCI s (k+1) j:=(by rwa [show i+1+(j-(i+1))=j by omega] at hLn)
       have hl9:=hL9.1
       exact aAb _ (ih4 _ (by omega) (k+1) j ec _ hL9 hJ (hM.pick [0]) rfl)
     · skip
       exact rt0 rfl f0 (hΦ _ _ ⟨⟨_,rfl⟩,.inr hS⟩)
    have az:=et h23
    have hj5:(aAp s j==5)=true:=(aFV (aAp s j) 5).symm.trans h23
    refine stm 24 1 [(106,vP b7 3)] 32 1 3 (vI 4) f0 hM rfl fun w1 hM=>?_
    have hwq:aCE s j=true:=by rw [aNK hds,hj3,hj5];rfl
    rw [hwq,decide_eq_false ab] at hon
    simp only [Bool.or_true,Bool.or_false,Bool.false_eq_true,if_true,if_false] at hon
    obtain ⟨hx,hend⟩:=hL.err hc hon (by decide)
    refine yld 33 2 142 [(140,.func (.yield l) #[] #[]),(141,.agg #[vI 2,vS ((s.take j).drop i),vI (i:Int),vI 4])] #[205] (by decide) (fc (lam 205 1 0 4 hM rfl) f0) hM (j:=0) rfl (hround _ _ _ _ hJ (hM.get 0 rfl) hM.fr (aFi hx)) (fun ec w1 hJ hM=>?_) (fun w1 hS=>?_)
    · skip
      exact rt0 rfl (fc (ldm 32 1 3 hM rfl rfl) f0) (hΦ _ _ ⟨⟨_,rfl⟩,.inl ⟨_,by unfold aNE;rw [List.length_map,←hend];exact hJ,hM.get 0 rfl,hM.fr⟩⟩)
    · skip
      exact rt0 rfl f0 (hΦ _ _ ⟨⟨_,rfl⟩,.inr hS⟩)
   exact aAb _ (av _ i _ (RunTo.start hL.1) hM rfl)
  exact aAb _ (lp3 _ 0 0 e0 _ (aCI.zero s) hJ0 hM rfl)
theorem aFZ {s:Bys}:(aBC s 0).length≤s.length:=aLZ _ s 0 (Nat.le_refl _)
def aKk (s:Bys):List (Tok Int):=(aBC s 0).map (·.1)
theorem aSE {l:List (Tok Int×Int)}(h:∀ x∈l,x.2=0):aF2 l=none:=(aF1 _).2 h
theorem aSF:∀ {l:List (Tok Int×Int)}{k:Nat}{x:Tok Int×Int},l[k]?=some x→(∀ y∈l.take k,y.2=0)→x.2≠0→aF2 l=some (x.2,x.1.2.2):=by
  intro l
  induction l with
  | nil=>intro k x h;simp at h
  | cons y l ih =>
    intro k x h h0 hx
    cases k with
    | zero=>simp at h;subst h;unfold aF2;rw [if_pos (by simpa using hx)]
    | succ k =>
      have hy:=h0 y (by simp)
      unfold aF2
      rw [if_neg (by simp [hy])]
      exact ih (by simpa using h) (fun z hz=>h0 z (by simp [hz])) hx
def tkL (t:Tok Int):List Value:=[vI t.1,vS t.2.1,vI t.2.2]
theorem tkT:ElT Tryz.prog tkL 3 130 186:=⟨fun _=>rfl,by decide,fun x u hu=>by
  unfold tkL at hu
  simp only [List.mem_cons,List.not_mem_nil,or_false] at hu
  rcases hu with rfl | rfl | rfl<;>rfl,Tryz.underlying130,aBL (by kernel_rfl)⟩
structure TokH (bt bf bc:Nat) (s:Bys) (w w':World):Prop where
  t:w'.heap[bt]?=some (.cells #[vS s] 9 (0,0))
  f:w'.heap[bf]?=some (.cells #[.func (.func 152) #[] #[vP bt 0,vP bc 0]] 228 (0,0))
  c:∃ cs,w'.heap[bc]?=some (.cells cs 153 (0,0))∧T8 cs aIZ
  nt:w.heap.size≤bt
  nf:w.heap.size≤bf
  nc:w.heap.size≤bc
theorem aJj (s:Bys) (w:World):Calls Tryz.prog 120 #[vS s] w fun e w'=>∃ bt bf bc,e = .returned (.func (.func 153) #[] #[vP bt 0,vP bf 0])∧TokH bt bf bc s w w'∧Fr (fun _=>False) w w':=by
  refine beg Tryz.func120 rfl rfl [(0,vS s)] rfl rfl fun Φ hΦ=>?_
  have hM:=Mm.nil (fun _=>False) w
  refine aAq 0 0 1 [] (cs:=#[vS s]) (T:=9) (v:=fun b=>vP b 0) f0 hM fun b1 w1 hM=>aN1 1 0 5 [] (K:=fun v w8=>∃ cs,v = .agg cs∧T8 cs aIZ) f0 hM ((aEZ _).mono fun e w8 ⟨cs,h1,h2,h3⟩=>⟨⟨_,h1,cs,rfl,h2⟩,h3⟩) fun _ w1 ⟨cs,hv9,hT⟩ hM f1=>?_
  subst hv9
  refine aAq 1 1 3 [] (cs:=zT Tryz.prog 153) (T:=153) (v:=fun b=>vP b 0) f0 hM fun b2 w1 hM=>aWs 1 2 [] 153 1 f0 hM rfl aQp.1 hT.1 (T8.one hT) fun w1 hM=>aCh 2 1 4 [(6,.func (.func 152) #[] #[vP b1 0,vP b2 0])] [] 228 (.func (.func 152) #[] #[vP b1 0,vP b2 0]) f0 hM fun b3 w1 hM=>rt1 2 (.func (.func 153) #[] #[vP b1 0,vP b3 0]) rfl f0 (hΦ _ _ ⟨_,_,_,rfl,⟨hM.get 0 rfl,hM.get 2 rfl,⟨_,hM.get 1 rfl,hT⟩,hM.ge (.head _) rfl,hM.ge (.tail _ (.tail _ (.head _))) rfl,hM.ge (.tail _ (.head _)) rfl⟩,hM.fr⟩)
def aQm (s:Bys) (w w':World) (e:Ending):Prop:=match aLY s with
  | .error (c,x)=>∃ v,e = .returned (.tuple #[vL none 0 0,vI c,v])∧v=vI x
  | .ok ts=>∃ v,e = .returned (.tuple #[v,vI 0,vI 0])∧aHd tkL 3 186 w w' v ts
theorem aJD {s:Bys}(hl:s.length≤4999) (w:World):Calls Tryz.prog 93 #[vS s] w fun e w'=>aQm s w w' e∧Fr (fun _=>False) w w':=by
  refine aWL Tryz.func93 rfl rfl [(0,vS s)] rfl rfl fun Φ hΦ=>?_
  have hM:=Mm.nil (fun _=>False) w
  refine aAq 0 0 2 [] (cs:=#[vL none 0 0]) (T:=130) (v:=fun b=>vP b 0) f0 hM fun b4 w1 hM=>aAq 0 1 3 [] (cs:=#[vI 0]) (T:=32) (v:=fun b=>vP b 0) f0 hM fun b5 w1 hM=>aAq 0 2 4 [] (cs:=#[vI 0]) (T:=3) (v:=fun b=>vP b 0) f0 hM fun b6 w1 hM=>seg 1 3 [(9,vB (decide (20000<(s.length:Int))))] (fc (aC1 9 s) f0) ?_
  cases h7:(decide (20000<(s.length:Int)))
  rotate_left
  ·have rh7:=dt h7
   exfalso
   omega
  have rh7:=df h7
  refine aAq 3 0 5 [] (cs:=#[vL none 0 0]) (T:=130) (v:=fun b=>vP b 0) f0 hM fun b8 w1 hM=>?_
  skip
  refine cal 4 1 11 [(10,vS s)] (K:=fun u w8=>∃ bt bf bc,u = .func (.func 153) #[] #[vP bt 0,vP bf 0]∧TokH bt bf bc s _ w8∧Fr (fun _=>False) _ w8) f0 ((aJj s _).mono fun e w9 ⟨bt,bf,bc,h1,h2⟩=>⟨_,h1,bt,bf,bc,rfl,h2⟩) fun u w1 ⟨bt,bf,bc,hu,hT,f1⟩=>?_
  subst hu
  have nap:∀ k,(World.heap _).size≤k→¬ BlM _ k:=fun k hk ⟨e,he,hb⟩=>Nat.lt_irrefl _ (Nat.lt_of_lt_of_le (e.lt (hM.at_ e he) hb) hk)
  have hnt:=nap _ hT.nt
  have hnf:=nap _ hT.nf
  have hnc:=nap _ hT.nc
  have hM:=hM.q f1
  have hM:=hM.row (f:=tkL) (c:=3) (E:=186)
  have hnt9:¬ BlM [bk b4 #[vL none 0 0] 130,bk b5 #[vI 0] 32,bk b6 #[vI 0] 3,bk b8 #[vL none 0 0] 130,rw_ tkL 3 186 (vL none 0 0) []] bt:=fun h=>hnt (by obtain ⟨e,he,hb⟩:=h;simp only [List.mem_cons,List.not_mem_nil,or_false] at he;rcases he with rfl | rfl | rfl | rfl | rfl;exact ⟨_,.head _,hb⟩;exact ⟨_,.tail _ (.head _),hb⟩;exact ⟨_,.tail _ (.tail _ (.head _)),hb⟩;exact ⟨_,.tail _ (.tail _ (.tail _ (.head _))),hb⟩;cases hb)
  have hnf9:¬ BlM [bk b4 #[vL none 0 0] 130,bk b5 #[vI 0] 32,bk b6 #[vI 0] 3,bk b8 #[vL none 0 0] 130,rw_ tkL 3 186 (vL none 0 0) []] bf:=fun h=>hnf (by obtain ⟨e,he,hb⟩:=h;simp only [List.mem_cons,List.not_mem_nil,or_false] at he;rcases he with rfl | rfl | rfl | rfl | rfl;exact ⟨_,.head _,hb⟩;exact ⟨_,.tail _ (.head _),hb⟩;exact ⟨_,.tail _ (.tail _ (.head _)),hb⟩;exact ⟨_,.tail _ (.tail _ (.tail _ (.head _))),hb⟩;cases hb)
  have hnc9:¬ BlM [bk b4 #[vL none 0 0] 130,bk b5 #[vI 0] 32,bk b6 #[vI 0] 3,bk b8 #[vL none 0 0] 130,rw_ tkL 3 186 (vL none 0 0) []] bc:=fun h=>hnc (by obtain ⟨e,he,hb⟩:=h;simp only [List.mem_cons,List.not_mem_nil,or_false] at he;rcases he with rfl | rfl | rfl | rfl | rfl;exact ⟨_,.head _,hb⟩;exact ⟨_,.tail _ (.head _),hb⟩;exact ⟨_,.tail _ (.tail _ (.head _)),hb⟩;exact ⟨_,.tail _ (.tail _ (.tail _ (.head _))),hb⟩;cases hb)
  refine seg 1005 0 [] f0 (aWU 5 (g := .tmp 11) (ps:=#[12]) (vs:=aNE s) (fun k Mk=>∃ q c,Mk=[bk b4 #[vL none 0 0] 130,bk b5 #[vI 0] 32,bk b6 #[vI 0] 3,bk b8 #[vL q (((aBC s 0).take k).map (·.1)).length c] 130,rw_ tkL 3 186 (vL q (((aBC s 0).take k).map (·.1)).length c) (((aBC s 0).take k).map (·.1))]∧∀ x∈(aBC s 0).take k,x.2=0) (fun Mk=>∃ c x,Mk=[bk b4 #[vL none 0 0] 130,bk b5 #[vI c] 32,bk b6 #[vI x] 3]∧aF2 (aBC s 0)=some (c,x)) hM ⟨none,0,rfl,fun x h=>by cases h⟩ (enters_of Tryz.func153 (by kernel_rfl) rfl) (aHW (by omega)) (fun G W hG f=>⟨f.obj hT.t id,f.obj hT.f id,hT.c.imp fun cs h=>⟨f.obj h.1 id,h.2⟩,fun h=>(hG _ h).elim hnt9 (fun h=>Nat.lt_irrefl _ (Nat.lt_of_lt_of_le (aAj hT.t) h)),fun h=>(hG _ h).elim hnf9 (fun h=>Nat.lt_irrefl _ (Nat.lt_of_lt_of_le (aAj hT.f) h)),fun h=>(hG _ h).elim hnc9 (fun h=>Nat.lt_irrefl _ (Nat.lt_of_lt_of_le (aAj hT.c.choose_spec.1) h))⟩) (vsz (ps:=#[12]) rfl) ?_ ?_ ?_)
  · skip
    intro k v Mk W l hv hI hfW hM
    obtain ⟨q,c,rfl,hz⟩:=hI
    obtain ⟨y,hy,rfl⟩:=aSZ hv
    refine aCh 5 0 6 [] [] 205 (.agg #[vI y.1.1,vS y.1.2.1,vI y.1.2.2,vI y.2]) f0 hM fun aa w1 hM=>aTN [(6,vP aa 0),(5,vP b8 0),(4,vP b6 0),(3,vP b5 0),(2,vP b4 0)] f0 fun a E=>⟨_,_,E,hM,fun W2 l2 R2 hf2 hM hE=>?_⟩
    refine seg 6 4 [(13,vB (!(y.2==0)))] (fc (ldm 32 5 3 hM rfl rfl) f0) ?_
    cases h11:(y.2==0)
    ·have ab:=ef h11
     refine seg 7 0 [] f0 (drx [5,6,7] (fun γ=>[none,none,none]) _ (fun γ l=>[bk b4 #[(bif l.getD 0 false then vL none 0 0 else vL none 0 0)] 130,bk b5 #[(bif l.getD 1 false then vI y.2 else vI 0)] 32,bk b6 #[(bif l.getD 2 false then vI y.1.2.2 else vI 0)] 3,bk b8 #[vL q (((aBC s 0).take k).map (·.1)).length c] 130,rw_ tkL 3 186 (vL q (((aBC s 0).take k).map (·.1)).length c) (((aBC s 0).take k).map (·.1)),bk aa #[vI y.1.1,vS y.1.2.1,vI y.1.2.2,vI y.2] 205]) (fun γ=>[]) hM (fun γ=>rfl) (fun γ l w5 hM=>(fc (ldm 32 5 3 hM rfl rfl) (fc (ldm 3 5 2 hM rfl rfl) f0))) ⟨aB7 0 5 130 0 0 (fun γ=>b4) (fun γ l=>#[(bif l.getD 0 false then vL none 0 0 else vL none 0 0)]) 130 (fun γ=>vL none 0 0),aB7 1 6 32 1 0 (fun γ=>b5) (fun γ l=>#[(bif l.getD 1 false then vI y.2 else vI 0)]) 32 (fun γ=>vI y.2),aB7 2 7 3 2 0 (fun γ=>b6) (fun γ l=>#[(bif l.getD 2 false then vI y.1.2.2 else vI 0)]) 3 (fun γ=>vI y.1.2.2),trivial⟩ fun af w1 hM=>?_)
     replace hM:Mm (BlM [bk b4 #[vL none 0 0] 130,bk b5 #[vI 0] 32,bk b6 #[vI 0] 3,bk b8 #[vL q (((aBC s 0).take k).map (·.1)).length c] 130,rw_ tkL 3 186 (vL q (((aBC s 0).take k).map (·.1)).length c) (((aBC s 0).take k).map (·.1)),bk aa #[vI y.1.1,vS y.1.2.1,vI y.1.2.2,vI y.2] 205]) W2 w1 [bk b4 #[vL none 0 0] 130,bk b5 #[vI y.2] 32,bk b6 #[vI y.1.2.2] 3,bk b8 #[vL q (((aBC s 0).take k).map (·.1)).length c] 130,_,bk aa #[vI y.1.1,vS y.1.2.1,vI y.1.2.2,vI y.2] 205]:=hM
     exact aX6 [] f0 fun a E=>hE.ret a _ _ ⟨y.2,y.1.2.2,rfl,aSF hy hz ab⟩ (hM.pick [0,1,2])
    have ab:=et h11
    refine seg 8 4 [(22,vB (((((aBC s 0).take k).map (·.1)).length:Int)==5000))] (fc (ldm 130 3 0 hM rfl rfl) f0) ?_
    cases h13:(((((aBC s 0).take k).map (·.1)).length:Int)==5000)
    ·have ac:=ef h13
     refine aAq 10 3 32 [(29,vL q (((aBC s 0).take k).map (·.1)).length c),(31,.agg #[vI y.1.1,vS y.1.2.1,vI y.1.2.2])] (cs:=#[vI y.1.1,vS y.1.2.1,vI y.1.2.2]) (T:=186) (v:=fun b=>vL (some ⟨b,0,none⟩) 1 1) (fc (ldm 130 3 0 hM rfl rfl) (fc (lam 186 5 0 3 hM rfl) f0)) hM fun ag w1 hM=>aJa 10 4 33 [] (cap:=1) (by decide) tkT f0 hM (j:=4) rfl (aAD (f:=tkL) (x:=y.1) (hM.get 6 rfl) (Nat.lt_succ_self _)) (fun h=>by cases h) (by simp only [List.length_map,List.length_take,List.length_cons,List.length_nil];have:=aFZ (s:=s);omega) fun v15 w1 hM=>?_
     obtain ⟨ad,ae,e15,-⟩:=(hM.src (j:=4) rfl tkT.len).op
     subst e15
     refine stm 10 5 [] 130 3 0 (vL ad ((((aBC s 0).take k).map (·.1))++[y.1]).length ae) f0 hM rfl fun w1 hM=>?_
     have hAk:((aBC s 0).take k).map (·.1)++[y.1]=((aBC s 0).take (k+1)).map (·.1):=by rw [gt_ hy,List.map_append];rfl
     rw [hAk] at hM
     exact aTN [] f0 fun a E=>hE.nrm a _ _ ⟨_,_,rfl,fun x hx=>by rw [gt_ hy] at hx;rcases List.mem_append.1 hx with h | h;exact hz x h;rw [List.mem_singleton] at h;subst h;exact ab⟩ (hM.pick [0,1,2,3,4])
    have ac:=et h13
    exfalso
    have:=gl hy
    have:=aFZ (s:=s)
    rw [List.length_map,List.length_take] at ac
    omega
  · skip
    intro Mk w1 hI hM
    obtain ⟨k,hk⟩:∃ k,k=(aNE s).length:=⟨_,rfl⟩
    rw [←hk] at hI
    obtain ⟨q,c,rfl,hz⟩:=hI
    refine stm 11 1 [(34,vL q (((aBC s 0).take k).map (·.1)).length c)] 130 0 0 (vL q (((aBC s 0).take k).map (·.1)).length c) (fc (ldm 130 3 0 hM rfl rfl) f0) hM rfl fun w1 hM=>stm 11 2 [] 32 1 0 (vI 0) f0 hM rfl fun w1 hM=>stm 11 3 [] 3 2 0 (vI 0) f0 hM rfl fun w1 hM=>?_
    have hM:Mm (fun _=>False) w _ ([bk b4 #[vL q (((aBC s 0).take k).map (·.1)).length c] 130,bk b5 #[vI 0] 32,bk b6 #[vI 0] 3,bk b8 #[vL q (((aBC s 0).take k).map (·.1)).length c] 130,rw_ tkL 3 186 (vL q (((aBC s 0).take k).map (·.1)).length c) (((aBC s 0).take k).map (·.1))]++[dfE _]):=hM
    exact aWz 0 1 2 rfl f0 hM rfl rfl rfl (fun w9 hM=>hΦ _ _ ⟨by unfold aQm aLY;rw [aSE (fun x hx=>hz x (by rw [List.take_of_length_le (by rw [hk];unfold aNE;rw [List.length_map];exact Nat.le_refl _)];exact hx))];exact ⟨_,rfl,by have:=hM.nrow (j:=4) rfl;have e9:(aBC s 0).take k=aBC s 0:=List.take_of_length_le (by rw [hk];unfold aNE;rw [List.length_map];exact Nat.le_refl _);rw [e9] at this ⊢;exact this⟩,hM.fr⟩)
  · skip
    intro a Mk w1 hT hM E
    obtain ⟨c,x,rfl,hex⟩:=hT
    exact (aPw (u:=true) E.df hM fun w9 hM=>⟨_,aRa rfl (E.at_ 2 (vP b4 0) rfl) (E.at_ 3 (vP b5 0) rfl) (E.at_ 4 (vP b6 0) rfl) 0 1 2 rfl rfl rfl (by kernel_rfl) hM,hΦ _ _ ⟨by unfold aQm aLY;rw [hex];exact ⟨_,rfl,rfl⟩,hM.fr⟩⟩).1
theorem aKb (w:World) (e:TypeId) (s:ByteArray):Fr (fun _=>False) w (Lib.bytesWorld w e s):=by
  refine ⟨rfl,rfl,rfl,?_,fun r hr _=>?_⟩
  · simp [Lib.bytesWorld,World.freeze]
  · have hne:w.heap.size≠r:=by omega
    show ((w.drew.alloc _).heap.modify w.heap.size _)[r]?=_
    rw [Array.getElem?_modify,if_neg hne]
    exact (aGU (by simpa using hr) _)
theorem aV5:∀ (xs:List Bys) (y:Bys) (i:Nat),Lib.idxFromS (xs.map ofL) (ofL y) i=if xs.contains y then ((i+xs.findIdx (· == y):Nat):Int) else -1:=by
  intro xs y
  induction xs with
  | nil=>intro i;rfl
  | cons x xs ih =>
    intro i
    simp only [List.map_cons,Lib.idxFromS,aOZ,List.contains_cons,List.findIdx_cons]
    by_cases h:x=y
    · subst h;simp
    · rw [if_neg h,ih]
      have e:(y==x)=false:=by simpa using fun e=>h e.symm
      have e2:(x==y)=false:=by simpa using h
      rw [e,e2]
      simp only [Bool.false_or,cond_false]
      split
      · omega
      · rfl
theorem aP3 (xs:List Bys) (y:Bys):Lib.idxOfS (xs.map ofL) (ofL y)=if xs.contains y then ((xs.findIdx (· == y):Nat):Int) else -1:=by
  have:=aV5 xs y 0
  rwa [Nat.zero_add] at this
theorem aJW (xs:List Bys) (y:Bys):Lib.containsS (xs.map ofL) (ofL y)=xs.contains y:=by
  unfold Lib.containsS
  rw [aP3]
  cases h:xs.contains y
  · simp
  · rw [if_pos rfl,decide_eq_true (by omega)]
theorem aJp {w:World}{G:Nat}{p:Option Addr}{g off:Nat}{xs:List Bys}(h:aDd stL 1 w G p xs) (hp:p=some ⟨g,off,none⟩):∀ j,j<(xs.map ofL).length→w.cell? ⟨g,off+j,none⟩=some (.string ((xs.map ofL).getD j ByteArray.empty)):=by
  intro j hj
  rw [List.length_map] at hj
  obtain ⟨g',off',he,_,hs⟩:=h.at hj
  rw [hp] at he
  cases he
  have:=hs j xs[j] (List.getElem?_eq_getElem hj) 0 _ rfl
  rw [Nat.mul_one,Nat.add_zero] at this
  rw [this]
  simp [List.getD,List.getElem?_eq_getElem hj]
def Tb (w:World):Prop:=Lib.TabIs Tryz.prog w "internal/strconv.uint64pow10" .u64 Lib.pow10Tab∧Lib.TabIs Tryz.prog w "strings.asciiSpace" .u8 Lib.asciiSpaceTab
theorem aVH:∀ (l:Bys) (acc:Nat),(∀ b∈l,aAu b=true)→∃ n:Nat,Lib.decFrom acc l=some n∧(n:Int)=l.foldl (fun n b=>10*n+((b.toNat:Int)-48)) (acc:Int):=by
  intro l
  induction l with
  | nil=>intro acc _;exact ⟨acc,rfl,rfl⟩
  | cons c l ih =>
    intro acc h
    have hc:=h c List.mem_cons_self
    have h1:48≤c.toNat∧c.toNat≤57:=by
      unfold aAu at hc
      rw [Bool.and_eq_true] at hc
      exact ⟨UInt8.le_iff_toNat_le.1 (of_decide_eq_true hc.1),UInt8.le_iff_toNat_le.1 (of_decide_eq_true hc.2)⟩
    obtain ⟨n,h2,h3⟩:=ih (acc*10+(c.toNat-48)) fun b hb=>h b (List.mem_cons_of_mem _ hb)
    refine ⟨n,?_,?_⟩
    · simp only [Lib.decFrom,Lib.digitVal,h1,and_self,if_true];exact h2
    · rw [h3,List.foldl_cons]
      congr 1
      omega
theorem aRY {l:Bys}(h0:l≠[]) (h:∀ b∈l,aAu b=true):Lib.atoi l=some (aAC l):=by
  obtain ⟨c,r,rfl⟩:=List.exists_cons_of_ne_nil h0
  have hc:=h c List.mem_cons_self
  have h1:48≤c.toNat∧c.toNat≤57:=by
    unfold aAu at hc
    rw [Bool.and_eq_true] at hc
    exact ⟨UInt8.le_iff_toNat_le.1 (of_decide_eq_true hc.1),UInt8.le_iff_toNat_le.1 (of_decide_eq_true hc.2)⟩
  have e1:(c==45)=false:=by
    rw [beq_eq_false_iff_ne];rintro rfl;simp at h1
  have e2:(c==43)=false:=by
    rw [beq_eq_false_iff_ne];rintro rfl;simp at h1
  obtain ⟨n,h2,h3⟩:=aVH (c::r) 0 h
  unfold Lib.atoi
  simp only [e1,e2,Bool.false_eq_true,if_false]
  unfold Lib.decNat
  simp only [List.isEmpty_cons,Bool.false_eq_true,if_false,h2,Option.map_some,Option.some.injEq]
  rw [h3]
  rfl
theorem aVo {l:Bys}(h:∀ b∈l,aAu b=true) (hl:l.length≤7):aAC l≤9999999:=by
  have:∀ (l:Bys) (n:Int),0≤n→(∀ b∈l,aAu b=true)→l.foldl (fun n b=>10*n+((b.toNat:Int)-48)) n≤(n+1)*10 ^ l.length-1:=by
    intro l
    induction l with
    | nil=>intro n _ _;simp
    | cons c l ih =>
      intro n hn hd
      have hc:=hd c List.mem_cons_self
      have h1:48≤c.toNat∧c.toNat≤57:=by
        unfold aAu at hc
        rw [Bool.and_eq_true] at hc
        exact ⟨UInt8.le_iff_toNat_le.1 (of_decide_eq_true hc.1),UInt8.le_iff_toNat_le.1 (of_decide_eq_true hc.2)⟩
      have:=ih (10*n+((c.toNat:Int)-48)) (by omega) fun b hb=>hd b (List.mem_cons_of_mem _ hb)
      rw [List.foldl_cons]
      refine Int.le_trans this ?_
      rw [List.length_cons,Int.pow_succ]
      have hp:(0:Int)<10 ^ l.length:=Int.pow_pos (by omega)
      have:(10*n+((c.toNat:Int)-48)+1)*10 ^ l.length≤((n+1)*10)*10 ^ l.length:=Int.mul_le_mul_of_nonneg_right (by omega) (Int.le_of_lt hp)
      have e:(n+1)*(10 ^ l.length*10)=((n+1)*10)*10 ^ l.length:=by rw [Int.mul_comm (10 ^ l.length),Int.mul_assoc]
      omega
  have h1:=this l 0 (Int.le_refl _) h
  have h2:(10:Int) ^ l.length≤10 ^ 7:=by
    have:(10:Nat) ^ l.length≤10 ^ 7:=Nat.pow_le_pow_right (by omega) hl
    exact_mod_cast this
  simp only [Int.zero_add,Int.one_mul] at h1
  have e:(10:Int) ^ 7=10000000:=by decide
  unfold aAC
  omega
def aM7 (w:World) (b:Nat):Prop:=w.heap[b]?=some (.cells (aDu.map fun l=>Value.string (ofL l)).toArray 9 (0,0))
theorem aM7.st {w:World}{b:Nat}(h:aM7 w b):StV w (.slice (some ⟨b,0,none⟩) 7 7) aDu:=⟨_,7,rfl,Nat.le_refl _,by omega,.inr ⟨b,0,rfl,aAj h,fun i z hz j u hu=>by
  rw [aA0 h]
  have hj:j=0:=by
    have:=(List.getElem?_eq_some_iff.1 hu).1
    simp [stL] at this;exact this
  subst hj
  simp only [stL,List.getElem?_cons_zero,Option.some.injEq] at hu
  subst hu
  simp [hz]⟩,fun h=>by cases h⟩
theorem aE0 {α:Type}(l:List α):l.isEmpty=((l.length:Int)==0):=by
  cases l with
  | nil=>rfl
  | cons x l =>
    have h:¬ (((x::l).length:Int)=0):=by simp only [List.length_cons];omega
    rw [beq_eq_false_iff_ne.2 h];rfl
theorem aPf {t:Tok Int}(h:aKw t) (hk:t.1=2):t.2.1≠[]∧(∀ b∈t.2.1,aAu b=true)∧t.2.1.length≤7∧0≤aAC t.2.1∧aAC t.2.1≤9999999:=by
  rcases h with ⟨h,_⟩ | ⟨h,h0,h1,h2⟩ | h | ⟨h,_⟩
  · omega
  · exact ⟨h0,h2,h1,aPh _ 0 (Int.le_refl _) h2,aVo h2 h1⟩
  · omega
  · omega
theorem aG9 (l:Bys):(l.length != 2)=((l.length:Int) != 2):=by
  by_cases h:l.length=2
  · rw [h];rfl
  · rw [bne_iff_ne.2 h,bne_iff_ne.2 (by omega)]
theorem aHp {w:World}{v:Value}{xs:List Bys}{y:Bys}(h:StV w v xs):Calls Tryz.prog 155 #[v,vS y] w fun e w'=>e = .returned (vB (xs.contains y))∧Fr (fun _=>False) w w':=by
  obtain ⟨p,c,rfl,h1,h2,h3,h4⟩:=h
  by_cases hx:xs=[]
  · subst hx
    exact (Tryz.slices_Contains_string_empty p c (ofL y) w).mono fun e w' h=>⟨h.1,by rw [h.2];exact Fr.refl _ _⟩
  · obtain ⟨g,off,rfl,_,_⟩:=h3.resolve_left hx
    refine (Tryz.slices_Contains_string g off xs.length c (xs.map ofL) (ofL y) w (by simp) (by omega) (aJp h3 rfl)).mono fun e w' h=>⟨?_,by rw [h.2];exact Fr.refl _ _⟩
    rw [h.1,List.take_of_length_le (by simp),aJW]
theorem aGG {w:World}{v:Value}{xs:List Bys}{y:Bys}(h:StV w v xs) (hy:y∈xs):Calls Tryz.prog 157 #[v,vS y] w fun e w'=>e = .returned (vI ((xs.findIdx (· == y):Nat):Int))∧Fr (fun _=>False) w w':=by
  obtain ⟨p,c,rfl,h1,h2,h3,h4⟩:=h
  have hx:xs≠[]:=List.ne_nil_of_mem hy
  obtain ⟨g,off,rfl,_,_⟩:=h3.resolve_left hx
  refine (Tryz.slices_Index_string g off xs.length c (xs.map ofL) (ofL y) w (by simp) (by omega) (aJp h3 rfl)).mono fun e w' h=>⟨?_,by rw [h.2];exact Fr.refl _ _⟩
  rw [h.1,List.take_of_length_le (by simp),aP3,if_pos (by simpa using hy)]
abbrev aIX (c x:Int):Value := .iface 165 (.agg #[vI c,vI x])
abbrev pn (c x:Int):List PanicEntry:=[{ v:=aIX c x,recovered:=false }]
theorem aTg {B cap:Nat}{p:Option Addr}{t:Tok Int}{l:List (Tok Int)}{w:World}(hs:SrcB tkL 3 w B p cap (t::l)):∃ p',(∀ w1,SrcB tkL 3 w1 B p cap (t::l)→SrcB tkL 3 w1 B p' (cap-1) l)∧∀ w2,Ft.ok Tryz.prog w2 (.g2 (fun x a => .slice 130 x (some a) none none) (vL p (t::l).length cap) (vI 1) (vL p' l.length (cap-1))):=by
  have hle:l.length+1≤cap:=hs.le
  obtain ⟨g,off,rfl⟩:∃ g off,p=some ⟨g,off,none⟩:=by
    rcases hs.at_ with h | ⟨g,off,h,_⟩
    · cases h
    · exact ⟨g,off,h⟩
  have h1:(1:Int)≤((l.length+1:Nat):Int):=by omega
  have h2:((l.length+1:Nat):Int)≤cap:=by omega
  by_cases h3:cap=1
  · subst h3
    obtain rfl:l=[]:=List.eq_nil_of_length_eq_zero (by omega)
    refine ⟨some ⟨g,off,none⟩,fun w1 h=>⟨Nat.zero_le _,by omega,.inl rfl,fun h=>by cases h⟩,fun w2 o ρ x a ho hx ha=>by simp [execOp,ho,hx,ha,go_sem,Addr.add]⟩
  · refine ⟨some ⟨g,off+3,none⟩,fun w1 h=>⟨by have:l.length+1≤cap:=h.le;omega,Nat.le_trans (Nat.sub_le _ _) h.ca,?_,fun h=>by cases h⟩,fun w2 o ρ x a ho hx ha=>?_⟩
    · rcases h.at_ with h | ⟨g',off',he,hg,hs⟩
      · cases h
      · cases he
        refine .inr ⟨g,off+3,rfl,hg,fun i t ht=>?_⟩
        have:=hs (i+1) t ht
        rwa [show off+(i+1)*3=off+3+i*3 by omega] at this
    · have h1':(1:Int)≤(l.length:Int)+1:=by omega
      have h2':(l.length:Int)+1≤cap:=by omega
      simp [execOp,ho,hx,ha,go_sem,h1',h2',h3,Addr.add]
def aAs (B:Nat) (p:Option Addr) (c:Nat) (ts:List (Tok Int)) (p':Option Addr) (c':Nat) (l:List (Tok Int)):Prop:=∀ w1,SrcB tkL 3 w1 B p c ts→SrcB tkL 3 w1 B p' c' l
def aBv (β:Type) (w:World) (G:Nat→Prop) (B rb:Nat) (en:Int) (sv:Value) (p:Option Addr) (c:Nat) (ts:List (Tok Int)) (val:β→Value) (r:Res Int (β×List (Tok Int))) (e:Ending) (w':World):Prop:=match r with
  | .error (cc,x)=>e = .panicked (pn cc x)∧Fr G w w'
  | .ok (b,l)=>e = .returned (val b)∧∃ p' c',aAs B p c ts p' c' l∧Mm G w w' [bk rb #[vL p' l.length c',vI en,sv] 170]
theorem aO3 {w:World}{B rb c:Nat}{p:Option Addr}{en k:Int}{t:Tok Int}{l:List (Tok Int)}{sv xv:Value}{xs:List Bys}(hrb:w.heap[rb]?=some (.cells #[vL p (t::l).length c,vI en,sv] 170 (0,0))) (hs:SrcB tkL 3 w B p c (t::l)) (hx:StV w xv xs):Calls Tryz.prog 121 #[vP rb 0,vI k,xv] w fun e w'=>e = .returned (vB (aBA k xs (t::l)))∧Fr (fun _=>False) w w':=by
  have hx0:=hx
  obtain ⟨px,cpx,hpx,spx⟩:=hx.op
  subst hpx
  refine beg Tryz.func121 rfl rfl [(0,vP rb 0),(1,vI k),(2,vL px xs.length cpx)] rfl rfl fun Φ hΦ=>?_
  have hM:=Mm.nil (fun _=>False) w
  refine seg 1 7 [(13,vB (decide (0<((t::l).length:Int))))] (fc (ld0 130 hM (bx hrb 0 rfl)) f0) ?_
  cases h1:(decide (0<((t::l).length:Int)))
  ·have rh1:=df h1
   exfalso
   have:0<(t::l).length:=Nat.zero_lt_succ _
   omega
  have rh1:=dt h1
  obtain ⟨t9,ht9,g2,o2,q2,r2,n2⟩:=(hs).eb (fun k (h:False)=>h.elim) (i:=0) (by omega)
  have e9:t=t9:=Option.some.inj ht9
  subst e9
  refine seg 1 18 [(24,vB (t.1==k))] (fc (ld0 130 hM (bx hrb 0 rfl)) (fc (ix 130 c q2 (gl ht9)) (fc (ld0 3 hM (r2 0 _ rfl) n2) f0))) ?_
  cases h3:(t.1==k)
  ·exact rt1 6 (vB false) rfl f0 (hΦ _ _ ⟨by unfold aBA;rw [aE0];simp only [h3]<;>rfl,hM.fr⟩)
  refine seg 1 22 [(28,vB ((xs.length:Int)==0))] f0 ?_
  cases h4:((xs.length:Int)==0)
  ·refine aAr 1 30 37 [(29,vL px xs.length cpx),(36,vS t.2.1)] (fc (ld0 130 hM (bx hrb 0 rfl)) (fc (ix 130 c q2 (gl ht9)) (fc (ld0 9 hM (r2 1 _ rfl) n2) f0))) hM (aHp (y:=t.2.1) (hx0.fr hM.fr)) fun w1 hM=>rt1 6 (vB (xs.contains t.2.1)) rfl f0 (hΦ _ _ ⟨by unfold aBA;rw [aE0];simp only [h3,h4]<;>rfl,hM.fr⟩)
  exact rt1 6 (vB true) rfl f0 (hΦ _ _ ⟨by unfold aBA;rw [aE0];simp only [h3,h4]<;>rfl,hM.fr⟩)
theorem aQM {w:World}{rb c:Nat}{p:Option Addr}{en k:Int}{sv xv:Value}{xs:List Bys}(hrb:w.heap[rb]?=some (.cells #[vL p 0 c,vI en,sv] 170 (0,0))) (hx:StV w xv xs):Calls Tryz.prog 121 #[vP rb 0,vI k,xv] w fun e w'=>e = .returned (vB (aBA k xs ([]:List (Tok Int))))∧Fr (fun _=>False) w w':=by
  obtain ⟨px,cpx,hpx,spx⟩:=hx.op
  subst hpx
  refine beg Tryz.func121 rfl rfl [(0,vP rb 0),(1,vI k),(2,vL px xs.length cpx)] rfl rfl fun Φ hΦ=>?_
  have hM:=Mm.nil (fun _=>False) w
  exact rt1 6 (vB false) rfl (fc (ld0 130 hM (bx hrb 0 rfl)) f0) (hΦ _ _ ⟨rfl,hM.fr⟩)
theorem aBs {w:World}{B rb c:Nat}{p:Option Addr}{en:Int}{ts:List (Tok Int)}{sv xv:Value}{xs:List Bys}(hrb:w.heap[rb]?=some (.cells #[vL p ts.length c,vI en,sv] 170 (0,0))) (hs:SrcB tkL 3 w B p c ts) (hx:StV w xv xs) (k:Int):Calls Tryz.prog 121 #[vP rb 0,vI k,xv] w fun e w'=>e = .returned (vB (aBA k xs ts))∧Fr (fun _=>False) w w':=by
  cases ts with
  | nil=>exact aQM hrb hx
  | cons t l=>exact aO3 hrb hs hx
theorem aQ9 {w:World}{G:Nat→Prop}{B rb c:Nat}{p:Option Addr}{en k:Int}{sv xv:Value}{xs:List Bys}(hM0:Mm G w w [bk rb #[vL p 0 c,vI en,sv] 170]) (hx:StV w xv xs):Calls Tryz.prog 122 #[vP rb 0,vI k,xv] w fun e w'=>aBv (Tok Int) w G B rb en sv p c [] (fun t=>vA (tkL t)) (take en k xs []) e w':=by
  have hx0:=hx
  obtain ⟨px,cpx,hpx,spx⟩:=hx.op
  subst hpx
  refine beg Tryz.func122 rfl rfl [(0,vP rb 0),(1,vI k),(2,vL px xs.length cpx)] rfl rfl fun Φ hΦ=>?_
  have hM:=hM0
  refine aAq 0 0 6 [] (cs:=#[vI 0,vS [],vI 0]) (T:=186) (v:=fun b=>vP b 0) f0 hM fun b5 w1 hM=>pan 2 6 [(19,aIX 6 en)] 165 (.agg #[vI 6,vI en]) (fc (ldm 130 0 0 hM rfl rfl) (fc (ldm 3 0 1 hM rfl rfl) f0)) hM (fun a f9 hd=>pn_ (P:=Tryz.prog) (fn:=Tryz.f122) hd (hΦ _ _ (⟨rfl,f9⟩)))
theorem aOn {w:World}{G:Nat→Prop}{B rb c:Nat}{p:Option Addr}{en k:Int}{sv xv:Value}{xs:List Bys}{t:Tok Int}{l:List (Tok Int)}(hM0:Mm G w w [bk rb #[vL p (t::l).length c,vI en,sv] 170]) (hs:SrcB tkL 3 w B p c (t::l)) (hG:∀ k,G k→B≤k) (hx:Apt stL 1 G w xv xs):Calls Tryz.prog 122 #[vP rb 0,vI k,xv] w fun e w'=>aBv (Tok Int) w G B rb en sv p c (t::l) (fun t=>vA (tkL t)) (take en k xs (t::l)) e w':=by
  have hx0:=hx
  have hx:=hx w (Fr.refl _ _)
  obtain ⟨px,cpx,hpx,spx⟩:=hx.op
  subst hpx
  refine beg Tryz.func122 rfl rfl [(0,vP rb 0),(1,vI k),(2,vL px xs.length cpx)] rfl rfl fun Φ hΦ=>?_
  have hM:=hM0
  obtain ⟨pq,htl,hft⟩:=aTg hs
  refine aAq 0 0 6 [] (cs:=#[vI 0,vS [],vI 0]) (T:=186) (v:=fun b=>vP b 0) f0 hM fun b6 w1 hM=>seg 1 6 [(13,vB (((t::l).length:Int)==0))] (fc (ldm 130 0 0 hM rfl rfl) f0) ?_
  cases h7:(((t::l).length:Int)==0)
  rotate_left
  ·have rh7:=et h7
   exfalso
   have:0<(t::l).length:=Nat.zero_lt_succ _
   omega
  have rh7:=ef h7
  obtain ⟨t9,ht9,g8,o8,q8,r8,n8⟩:=(hs).eb hG (i:=0) (by omega)
  have e9:t=t9:=Option.some.inj ht9
  subst e9
  refine aCh 3 6 7 [(25,.agg #[vI t.1,vS t.2.1,vI t.2.2])] [] 186 (.agg #[vI t.1,vS t.2.1,vI t.2.2]) (fc (ldm 130 0 0 hM rfl rfl) (fc (ix 130 c q8 (gl ht9)) (fc (la0 186 hM r8 n8) f0))) hM fun b9 w1 hM=>aAr 4 3 29 [(26,vP rb 0),(27,vI k),(28,vL px xs.length cpx)] f0 hM (aBs (hM.get 0 rfl) (aAK hs hM.fr hG) (hx0 _ hM.fr) k) fun w1 hM=>seg 4 5 [(30,vB (!(aBA k xs (t::l))))] f0 ?_
  cases h10:(aBA k xs (t::l))
  ·exact pan 5 4 [(34,aIX 5 t.2.2)] 165 (.agg #[vI 5,vI t.2.2]) (fc (ldm 3 2 2 hM rfl rfl) f0) hM (fun a f9 hd=>pn_ (P:=Tryz.prog) (fn:=Tryz.f122) hd (hΦ _ _ (by unfold take;simp only;rw [if_neg (by rw [h10];simp)];exact ⟨rfl,f9⟩)))
  refine stm 6 8 [(40,vL pq l.length (c-1)),(42,vP rb 0)] 130 0 0 (vL pq l.length (c-1)) (fc (ldm 130 0 0 hM rfl rfl) (fc (hft _) f0)) hM rfl fun w1 hM=>stm 7 1 [(43,.agg #[vI t.1,vS t.2.1,vI t.2.2])] 186 1 0 (.agg #[vI t.1,vS t.2.1,vI t.2.2]) (fc (lam 186 2 0 3 hM rfl) f0) hM rfl fun w1 hM=>?_
  have hM:Mm G w w1 [bk rb #[vL pq l.length (c-1),vI en,sv] 170,bk b6 #[vI t.1,vS t.2.1,vI t.2.2] 186,bk b9 #[vI t.1,vS t.2.1,vI t.2.2] 186]:=hM
  exact rtc 6 186 rfl (aEG (T:=186) (l:=tkL t) (by kernel_rfl) (fun j u hu=>bx (hM.get 1 rfl) (0+j) (by rw [Nat.zero_add];simpa [tkL] using hu))) f0 (hΦ _ _ (by unfold take;simp only;rw [if_pos h10];exact ⟨rfl,_,_,htl,hM.pick [0]⟩))
theorem aAn {w:World}{G:Nat→Prop}{B rb c:Nat}{p:Option Addr}{en:Int}{ts:List (Tok Int)}{sv xv:Value}{xs:List Bys}(hM0:Mm G w w [bk rb #[vL p ts.length c,vI en,sv] 170]) (hs:SrcB tkL 3 w B p c ts) (hG:∀ k,G k→B≤k) (hx:Apt stL 1 G w xv xs) (k:Int):Calls Tryz.prog 122 #[vP rb 0,vI k,xv] w (aBv (Tok Int) w G B rb en sv p c ts (fun t=>vA (tkL t)) (take en k xs ts)):=by
  cases ts with
  | nil=>exact aQ9 hM0 (hx w (Fr.refl _ _))
  | cons t l=>exact aOn hM0 hs hG hx
theorem StV.one {w:World}{b:Nat}{s:Bys}(h:w.heap[b]?=some (.cells #[vS s] 9 (0,0))):StV w (vL (some ⟨b,0,none⟩) 1 1) [s]:=⟨_,1,rfl,Nat.le_refl _,by omega,aAD (f:=stL) h (aAj h),fun h=>by cases h⟩
theorem aKQ {w:World}(hT:Tb w):Calls Tryz.prog 156 #[] w fun e w'=>∃ b,e = .returned (vL (some ⟨b,0,none⟩) 7 7)∧aM7 w' b∧w.heap.size≤b∧Fr (fun _=>False) w w':=by
  have hfe:Lib.fields (ofL [109,111,32,116,117,32,119,101,32,116,104,32,102,114,32,115,97,32,115,117]).data.toList=aDu:=by decide +kernel
  have hF:=Tryz.strings_Fields (ofL [109,111,32,116,117,32,119,101,32,116,104,32,102,114,32,115,97,32,115,117]) w (by decide +kernel) (by
    intro j b hb
    have:∀ b∈(ofL [109,111,32,116,117,32,119,101,32,116,104,32,102,114,32,115,97,32,115,117]).data.toList,b.toNat<128:=by decide +kernel
    exact this b (List.mem_of_getElem? hb)) hT.2
  rw [hfe] at hF
  refine beg Tryz.func156 rfl rfl [] rfl rfl fun Φ hΦ=>?_
  have hM:=Mm.nil (fun _=>False) w
  refine cal 1 0 1 [] (K:=fun u w8=>∃ b,u=vL (some ⟨b,0,none⟩) 7 7∧aM7 w8 b∧w.heap.size≤b∧Fr (fun _=>False) w w8) f0 (hF.mono fun e w8 h=>by obtain ⟨rfl,rfl⟩:=h;exact ⟨_,rfl,_,rfl,aBd _ _,Nat.le_refl _,(Fr.refl _ _).alloc _⟩) fun u w1 ⟨bd,hu,hbd,hbn,f1⟩=>?_
  subst hu
  have hM:=hM.q f1
  exact rt1 0 (vL (some ⟨bd,0,none⟩) 7 7) rfl f0 (hΦ _ _ ⟨_,rfl,hbd,hbn,hM.fr⟩)
theorem aAU (t:Tok Int) (h0:t.2.1≠[]) (hd:∀ b∈t.2.1,aAu b=true) (hl:t.2.1.length≤7) (w:World):Calls Tryz.prog 174 #[vA (tkL t)] w fun e w'=>e = .returned (vI (aAC t.2.1))∧Fr (fun _=>False) w w':=by
  refine beg Tryz.func174 rfl rfl [(0,.agg #[vI t.1,vS t.2.1,vI t.2.2])] rfl rfl fun Φ hΦ=>?_
  have hM:=Mm.nil (fun _=>False) w
  refine aAq 0 0 1 [] (cs:=#[vI t.1,vS t.2.1,vI t.2.2]) (T:=186) (v:=fun b=>vP b 0) f0 hM fun b1 w1 hM=>aAr 1 2 8 [(7,vS t.2.1)] (fc (ldm 9 0 1 hM rfl rfl) f0) hM ((Tryz.strconv_Atoi (ofL t.2.1) (aAC t.2.1) (by rw [aBk];omega) (by rw [show (ofL t.2.1).data.toList=t.2.1 from by simp [ofL]];exact aRY h0 hd) _).mono fun e w8 h=>by obtain ⟨rfl,t9,rfl⟩:=h;exact ⟨rfl,aKb _ _ _⟩) fun w1 hM=>rt1 2 (vI (aAC t.2.1)) rfl f0 (hΦ _ _ ⟨rfl,hM.fr⟩)
theorem aBo {w:World}{G:Nat→Prop}{B rb c:Nat}{p:Option Addr}{en:Int}{ts:List (Tok Int)}{sv:Value}{most:Int}(hM0:Mm G w w [bk rb #[vL p ts.length c,vI en,sv] 170]) (hs:SrcB tkL 3 w B p c ts) (hG:∀ k,G k→B≤k) (hk:Tk ts):Calls Tryz.prog 158 #[vP rb 0,vI most] w fun e w'=>aBv (Int×Int) w G B rb en sv p c ts (fun r => .tuple #[vI r.1,vI r.2]) (clock en most ts) e w':=by
  refine beg Tryz.func158 rfl rfl [(0,vP rb 0),(1,vI most)] rfl rfl fun Φ hΦ=>?_
  have hM:=hM0
  have hrB:B≤rb:=hG rb (hM0.own _ (.head _) rb rfl (aAj (hM0.get 0 rfl)))
  have hB0:aAs B p c ts p c ts:=fun _ h=>h
  rcases htk2:take en 2 ([]:List Bys) ts with ⟨c2,x2⟩ | ⟨t2,l2⟩
  · exact aN2 1 3 11 [(10,vP rb 0)] [0] f0 hM rfl (by decide) (fun hm=>(aAn (xs:=([]:List Bys)) hm (aAK hs hM.fr hG) (fun k h=>by rw [aE5 (b:=rb) rfl h];exact hrB) aCg 2).mono fun e w8 h=>by unfold aBv at h;rw [htk2] at h;exact h) (fun a w9 f9 hd=>pn_ (P:=Tryz.prog) (fn:=Tryz.f158) hd (hΦ _ _ ((by unfold clock;rw [htk2];(try simp only);exact ⟨rfl,f9⟩))))
  refine aAO 1 3 11 [(10,vP rb 0)] (K:=fun u Mn=>u=vA (tkL t2)∧∃ p' c',aAs B p c ts p' c' l2∧Mn=[bk rb #[vL p' l2.length c',vI en,sv] 170]) [] [0] f0 hM rfl rfl (by decide) (fun hm=>(aAn (xs:=([]:List Bys)) hm (aAK hs hM.fr hG) (fun k h=>by rw [aE5 (b:=rb) rfl h];exact hrB) aCg 2).mono fun e w8 h=>by unfold aBv at h;rw [htk2] at h;obtain ⟨h1,p',c',h2,h3⟩:=h;exact ⟨_,_,h1,⟨rfl,p',c',h2,rfl⟩,h3⟩) fun u Mn w1 hK hM=>?_
  obtain ⟨rfl,p2,cc2,hb2,rfl⟩:=hK
  have hs2:=hb2 _ hs
  have hB2:aAs B p c ts p2 cc2 l2:=fun w1 h=>hb2 w1 (hB0 w1 h)
  obtain ⟨hto2,hkd2,hk⟩:=aAH hk htk2
  have hnt2:=aPf hto2 hkd2
  refine aCh 1 4 6 [] [] 186 (.agg #[vI t2.1,vS t2.2.1,vI t2.2.2]) f0 hM fun b3 w1 hM=>aAr 2 1 13 [(12,.agg #[vI t2.1,vS t2.2.1,vI t2.2.2])] (fc (lam 186 1 0 3 hM rfl) f0) hM (aAU t2 hnt2.1 hnt2.2.1 hnt2.2.2.1 _) fun w1 hM=>seg 2 4 [(15,vB (decide (most<(aAC t2.2.1))))] f0 ?_
  cases h4:(decide (most<(aAC t2.2.1)))
  rotate_left
  ·exact pan 3 4 [(19,aIX 10 t2.2.2)] 165 (.agg #[vI 10,vI t2.2.2]) (fc (ldm 3 1 2 hM rfl rfl) f0) hM (fun a f9 hd=>pn_ (P:=Tryz.prog) (fn:=Tryz.f158) hd (hΦ _ _ ((by unfold clock;rw [htk2];(try simp only);rw [if_pos (of_decide_eq_true h4)];(try simp only);exact ⟨rfl,f9⟩))))
  refine aAq 4 3 23 [(22,vP rb 0)] (cs:=#[vS [58]]) (T:=9) (v:=fun b=>vL (some ⟨b,0,none⟩) 1 1) f0 hM fun b5 w1 hM=>?_
  rcases htk6:take en 4 [aHL] l2 with ⟨c6,x6⟩ | ⟨t6,l6⟩
  · exact aN2 4 4 24 [] [0] f0 hM rfl (by decide) (fun hm=>(aAn (xs:=[aHL]) hm (aAK hs2 hM.fr hG) (fun k h=>by rw [aE5 (b:=rb) rfl h];exact hrB) (aEn (hM.get 2 rfl) (hM.notin (i:=2) (js:=[0]) rfl rfl (by decide)) fun w9 h=>StV.one h) 4).mono fun e w8 h=>by unfold aBv at h;rw [htk6] at h;exact h) (fun a w9 f9 hd=>pn_ (P:=Tryz.prog) (fn:=Tryz.f158) hd (hΦ _ _ ((by unfold clock;rw [htk2];(try simp only);rw [if_neg (of_decide_eq_false h4)];(try simp only);rw [htk6];(try simp only);exact ⟨rfl,f9⟩))))
  refine aAO 4 4 24 [] (K:=fun u Mn=>u=vA (tkL t6)∧∃ p' c',aAs B p2 cc2 l2 p' c' l6∧Mn=[bk rb #[vL p' l6.length c',vI en,sv] 170]) [1,2] [0] f0 hM rfl rfl (by decide) (fun hm=>(aAn (xs:=[aHL]) hm (aAK hs2 hM.fr hG) (fun k h=>by rw [aE5 (b:=rb) rfl h];exact hrB) (aEn (hM.get 2 rfl) (hM.notin (i:=2) (js:=[0]) rfl rfl (by decide)) fun w9 h=>StV.one h) 4).mono fun e w8 h=>by unfold aBv at h;rw [htk6] at h;obtain ⟨h1,p',c',h2,h3⟩:=h;exact ⟨_,_,h1,⟨rfl,p',c',h2,rfl⟩,h3⟩) fun u Mn w1 hK hM=>?_
  obtain ⟨rfl,p6,cc6,hb6,rfl⟩:=hK
  have hs6:=hb6 _ hs2
  have hB6:aAs B p c ts p6 cc6 l6:=fun w1 h=>hb6 w1 (hB2 w1 h)
  obtain ⟨hto6,hkd6,hk⟩:=aAH hk htk6
  rcases htk7:take en 2 ([]:List Bys) l6 with ⟨c7,x7⟩ | ⟨t7,l7⟩
  · exact aN2 5 3 28 [(27,vP rb 0)] [2] f0 hM rfl (by decide) (fun hm=>(aAn (xs:=([]:List Bys)) hm (aAK hs6 hM.fr hG) (fun k h=>by rw [aE5 (b:=rb) rfl h];exact hrB) aCg 2).mono fun e w8 h=>by unfold aBv at h;rw [htk7] at h;exact h) (fun a w9 f9 hd=>pn_ (P:=Tryz.prog) (fn:=Tryz.f158) hd (hΦ _ _ ((by unfold clock;rw [htk2];(try simp only);rw [if_neg (of_decide_eq_false h4)];(try simp only);rw [htk6];(try simp only);rw [htk7];(try simp only);exact ⟨rfl,f9⟩))))
  refine aAO 5 3 28 [(27,vP rb 0)] (K:=fun u Mn=>u=vA (tkL t7)∧∃ p' c',aAs B p6 cc6 l6 p' c' l7∧Mn=[bk rb #[vL p' l7.length c',vI en,sv] 170]) [0,1] [2] f0 hM rfl rfl (by decide) (fun hm=>(aAn (xs:=([]:List Bys)) hm (aAK hs6 hM.fr hG) (fun k h=>by rw [aE5 (b:=rb) rfl h];exact hrB) aCg 2).mono fun e w8 h=>by unfold aBv at h;rw [htk7] at h;obtain ⟨h1,p',c',h2,h3⟩:=h;exact ⟨_,_,h1,⟨rfl,p',c',h2,rfl⟩,h3⟩) fun u Mn w1 hK hM=>?_
  obtain ⟨rfl,p7,cc7,hb7,rfl⟩:=hK
  have hB7:aAs B p c ts p7 cc7 l7:=fun w1 h=>hb7 w1 (hB6 w1 h)
  obtain ⟨hto7,hkd7,hk⟩:=aAH hk htk7
  have hnt7:=aPf hto7 hkd7
  refine aCh 5 4 7 [] [] 186 (.agg #[vI t7.1,vS t7.2.1,vI t7.2.2]) f0 hM fun b8 w1 hM=>seg 6 5 [(33,vB (!((t7.2.1.length:Int)==2)))] (fc (ldm 9 3 1 hM rfl rfl) (fc (aC1 9 t7.2.1) f0)) ?_
  cases h9:((t7.2.1.length:Int)==2)
  ·exact pan 7 4 [(51,aIX 10 t7.2.2)] 165 (.agg #[vI 10,vI t7.2.2]) (fc (ldm 3 3 2 hM rfl rfl) f0) hM (fun a f9 hd=>pn_ (P:=Tryz.prog) (fn:=Tryz.f158) hd (hΦ _ _ ((by unfold clock;rw [htk2];(try simp only);rw [if_neg (of_decide_eq_false h4)];(try simp only);rw [htk6];(try simp only);rw [htk7];(try simp only);have hbb:(t7.2.1.length != 2||decide (aAC t7.2.1>59)||(aAC t2.2.1==24&&decide (aAC t7.2.1>0)))=true:=(by rw [aG9];simp only [gt_iff_lt,bne,h9]<;>rfl);rw [hbb];simp only [Bool.false_eq_true,if_true,if_false];exact ⟨rfl,f9⟩))))
  refine aAr 6 6 35 [(34,.agg #[vI t7.1,vS t7.2.1,vI t7.2.2])] (fc (lam 186 3 0 3 hM rfl) f0) hM (aAU t7 hnt7.1 hnt7.2.1 hnt7.2.2.1 _) fun w1 hM=>seg 6 10 [(38,vB (decide (59<(aAC t7.2.1))))] f0 ?_
  cases h10:(decide (59<(aAC t7.2.1)))
  rotate_left
  ·have aa:=dt h10
   exact pan 7 4 [(51,aIX 10 t7.2.2)] 165 (.agg #[vI 10,vI t7.2.2]) (fc (ldm 3 3 2 hM rfl rfl) f0) hM (fun a f9 hd=>pn_ (P:=Tryz.prog) (fn:=Tryz.f158) hd (hΦ _ _ ((by unfold clock;rw [htk2];(try simp only);rw [if_neg (of_decide_eq_false h4)];(try simp only);rw [htk6];(try simp only);rw [htk7];(try simp only);have hbb:(t7.2.1.length != 2||decide (aAC t7.2.1>59)||(aAC t2.2.1==24&&decide (aAC t7.2.1>0)))=true:=(by rw [aG9];simp only [gt_iff_lt,bne,h9,h10]<;>rfl);rw [hbb];simp only [Bool.false_eq_true,if_true,if_false];exact ⟨rfl,f9⟩))))
  have aa:=df h10
  refine aAr 6 11 40 [(39,.agg #[vI t2.1,vS t2.2.1,vI t2.2.2])] (fc (lam 186 0 0 3 hM rfl) f0) hM (aAU t2 hnt2.1 hnt2.2.1 hnt2.2.2.1 _) fun w1 hM=>seg 6 14 [(42,vB ((aAC t2.2.1)==24))] f0 ?_
  cases h11:((aAC t2.2.1)==24)
  ·have ab:=ef h11
   refine seg 8 0 [] f0 (drc [(4,vI ((60*(aAC t2.2.1))+(aAC t7.2.1))),(5,vI t2.2.2)] hM (fun w5 hM=>(fc (lam 186 0 0 3 hM rfl) (fc (tcl (aAU t2 hnt2.1 hnt2.2.1 hnt2.2.2.1 _)) (fc (aHX 60 (aAC t2.2.1) u3_) (fc (lam 186 3 0 3 hM rfl) (fc (tcl (aAU t7 hnt7.1 hnt7.2.1 hnt7.2.2.1 _)) (fc (aAe (60*(aAC t2.2.1)) (aAC t7.2.1) u3_) (fc (ldm 3 0 2 hM rfl rfl) f0)))))))) fun w5 hM=>rt2 4 5 (vI ((60*(aAC t2.2.1))+(aAC t7.2.1))) (vI t2.2.2) rfl rfl f0 (hΦ _ _ (by unfold clock;rw [htk2];(try simp only);rw [if_neg (of_decide_eq_false h4)];(try simp only);rw [htk6];(try simp only);rw [htk7];(try simp only);have hbb:(t7.2.1.length != 2||decide (aAC t7.2.1>59)||(aAC t2.2.1==24&&decide (aAC t7.2.1>0)))=false:=(by rw [aG9];simp only [gt_iff_lt,bne,h9,h10,h11]<;>rfl);rw [hbb];simp only [Bool.false_eq_true,if_true,if_false];exact ⟨rfl,_,_,hB7,hM.pick [2]⟩)))
  have ab:=et h11
  refine aAr 6 15 44 [(43,.agg #[vI t7.1,vS t7.2.1,vI t7.2.2])] (fc (lam 186 3 0 3 hM rfl) f0) hM (aAU t7 hnt7.1 hnt7.2.1 hnt7.2.2.1 _) fun w1 hM=>seg 6 19 [(47,vB (decide (0<(aAC t7.2.1))))] f0 ?_
  cases h12:(decide (0<(aAC t7.2.1)))
  ·have ac:=df h12
   refine seg 8 0 [] f0 (drc [(4,vI ((60*(aAC t2.2.1))+(aAC t7.2.1))),(5,vI t2.2.2)] hM (fun w5 hM=>(fc (lam 186 0 0 3 hM rfl) (fc (tcl (aAU t2 hnt2.1 hnt2.2.1 hnt2.2.2.1 _)) (fc (aHX 60 (aAC t2.2.1) u3_) (fc (lam 186 3 0 3 hM rfl) (fc (tcl (aAU t7 hnt7.1 hnt7.2.1 hnt7.2.2.1 _)) (fc (aAe (60*(aAC t2.2.1)) (aAC t7.2.1) u3_) (fc (ldm 3 0 2 hM rfl rfl) f0)))))))) fun w5 hM=>rt2 4 5 (vI ((60*(aAC t2.2.1))+(aAC t7.2.1))) (vI t2.2.2) rfl rfl f0 (hΦ _ _ (by unfold clock;rw [htk2];(try simp only);rw [if_neg (of_decide_eq_false h4)];(try simp only);rw [htk6];(try simp only);rw [htk7];(try simp only);have hbb:(t7.2.1.length != 2||decide (aAC t7.2.1>59)||(aAC t2.2.1==24&&decide (aAC t7.2.1>0)))=false:=(by rw [aG9];simp only [gt_iff_lt,bne,h9,h10,h11,h12]<;>rfl);rw [hbb];simp only [Bool.false_eq_true,if_true,if_false];exact ⟨rfl,_,_,hB7,hM.pick [2]⟩)))
  have ac:=dt h12
  exact pan 7 4 [(51,aIX 10 t7.2.2)] 165 (.agg #[vI 10,vI t7.2.2]) (fc (ldm 3 3 2 hM rfl rfl) f0) hM (fun a f9 hd=>pn_ (P:=Tryz.prog) (fn:=Tryz.f158) hd (hΦ _ _ ((by unfold clock;rw [htk2];(try simp only);rw [if_neg (of_decide_eq_false h4)];(try simp only);rw [htk6];(try simp only);rw [htk7];(try simp only);have hbb:(t7.2.1.length != 2||decide (aAC t7.2.1>59)||(aAC t2.2.1==24&&decide (aAC t7.2.1>0)))=true:=(by rw [aG9];simp only [gt_iff_lt,bne,h9,h10,h11,h12]<;>rfl);rw [hbb];simp only [Bool.false_eq_true,if_true,if_false];exact ⟨rfl,f9⟩))))
def aKj (w:World) (G:Nat→Prop) (B rb:Nat) (en:Int) (ss:List Sp) (p:Option Addr) (c:Nat) (ts:List (Tok Int)) (r:Res Int (List Sp×List (Tok Int))) (e:Ending) (w':World):Prop:=match r with
  | .error (cc,x)=>e = .panicked (pn cc x)∧Fr G w w'
  | .ok (s,l)=>e = .returned (.tuple #[])∧∃ p' c' q cq,aAs B p c ts p' c' l∧Mm G w w' [bk rb #[vL p' l.length c',vI en,vL q (ss++s).length cq] 170,rw_ spL 2 141 (vL q (ss++s).length cq) (ss++s)]
theorem aDQ {w:World}{G:Nat→Prop}{rb cq:Nat}{q:Option Addr}{lv:Value}{en f t:Int}{ss:List Sp}(ht:0≤t) (ht2:t≤30000) (hl:ss.length≤300000000) (hM0:Mm G w w [bk rb #[lv,vI en,vL q ss.length cq] 170,rw_ spL 2 141 (vL q ss.length cq) ss]):Calls Tryz.prog 123 #[vP rb 0,vI f,vI t] w fun e w'=>∃ u Mn,e = .returned u∧(u = .tuple #[]∧∃ q2 c2,Mn=[bk rb #[lv,vI en,vL q2 (ss++aCZ f t).length c2] 170,rw_ spL 2 141 (vL q2 (ss++aCZ f t).length c2) (ss++aCZ f t)])∧Mm G w w' Mn:=by
  refine beg Tryz.func123 rfl rfl [(0,vP rb 0),(1,vI f),(2,vI t)] rfl rfl fun Φ hΦ=>?_
  have hM:=hM0
  refine aAq 0 9 15 [(6,vP rb 0),(10,vL q ss.length cq),(14,.agg #[vI f,vI (min t 10080)])] (cs:=#[vI f,vI (min t 10080)]) (T:=141) (v:=fun b=>vL (some ⟨b,0,none⟩) 1 1) (fc (ldm 48 0 2 hM rfl rfl) (fc (aWS 3 t 10080) f0)) hM fun af w1 hM=>aJa 0 10 16 [] (cap:=1) (by decide) spT f0 hM (j:=1) rfl (aAD (f:=spL) (x:=(f,(min t 10080))) (hM.get 2 rfl) (Nat.lt_succ_self _)) (fun h=>by cases h) (by simp only [List.length_append,List.length_cons,List.length_nil];omega) fun v14 w1 hM=>?_
  obtain ⟨aa,ab,e14,-⟩:=(hM.src (j:=1) rfl spT.len).op
  subst e14
  refine stm 0 13 [(18,vP rb 2)] 48 0 2 (vL aa (ss++[(f,(min t 10080))]).length ab) f0 hM rfl fun w1 hM=>seg 1 2 [(20,vB (decide (10080<t)))] f0 ?_
  cases h15:(decide (10080<t))
  ·have ac:=df h15
   have hal:(ss++[(f,(min t 10080))])=ss++aCZ f t:=by unfold aCZ;rw [if_neg (of_decide_eq_false h15)]<;>(try simp)
   rw [hal] at hM
   exact rt0 rfl f0 (hΦ _ _ ⟨_,_,rfl,⟨rfl,_,_,rfl⟩,hM.pick [0,1]⟩)
  have ac:=dt h15
  refine aAq 2 8 29 [(21,vP rb 0),(25,vL aa (ss++[(f,(min t 10080))]).length ab),(28,.agg #[vI 0,vI (t-10080)])] (cs:=#[vI 0,vI (t-10080)]) (T:=141) (v:=fun b=>vL (some ⟨b,0,none⟩) 1 1) (fc (ldm 48 0 2 hM rfl rfl) (fc (aBq t 10080 u3_) f0)) hM fun ag w1 hM=>aJa 2 9 30 [] (cap:=1) (by decide) spT f0 hM (j:=1) rfl (aAD (f:=spL) (x:=(0,(t-10080))) (hM.get 3 rfl) (Nat.lt_succ_self _)) (fun h=>by cases h) (by simp only [List.length_append,List.length_cons,List.length_nil];omega) fun v17 w1 hM=>?_
  obtain ⟨ad,ae,e17,-⟩:=(hM.src (j:=1) rfl spT.len).op
  subst e17
  refine stm 2 12 [(32,vP rb 2)] 48 0 2 (vL ad ((ss++[(f,(min t 10080))])++[(0,(t-10080))]).length ae) f0 hM rfl fun w1 hM=>?_
  have hal:((ss++[(f,(min t 10080))])++[(0,(t-10080))])=ss++aCZ f t:=by unfold aCZ;rw [if_pos (of_decide_eq_true h15)]<;>(try simp)
  rw [hal] at hM
  exact rt0 rfl f0 (hΦ _ _ ⟨_,_,rfl,⟨rfl,_,_,rfl⟩,hM.pick [0,1]⟩)
section
variable {α:Type}{en:α}
def pre (acc:List Sp):Res α (List Sp×List (Tok α))→Res α (List Sp×List (Tok α))
  | .error e => .error e
  | .ok (s,l) => .ok (acc++s,l)
theorem aTH (r:Res α (List Sp×List (Tok α))):pre [] r=r:=by cases r<;>rfl
def aBZ (en:α) (f t:Int) (l:List (Tok α)):Res α (List Sp×List (Tok α)):=aCl en f t (l.length+1) l
theorem aB8 {f t:Int}{l:List (Tok α)}{e:Int×α}(h:aDv en f t l = .error e):aBZ en f t l = .error e:=by
  unfold aBZ aCl;rw [h]
theorem aAJ {f t:Int}{l l2:List (Tok α)}{s:List Sp}(h:aDv en f t l = .ok (s,l2)) (hm:more l2=false):aBZ en f t l = .ok (s,l2):=by
  unfold aBZ aCl;rw [h];simp [hm]
theorem aDa {f t:Int}{l l2:List (Tok α)}{s acc:List Sp}(h:aDv en f t l = .ok (s,l2)) (hm:more l2=true):pre acc (aBZ en f t l)=pre (acc++s) (aBZ en f t (l2.drop 1)):=by
  have hl:=aCF h
  have:aBZ en f t l=pre s (aBZ en f t (l2.drop 1)):=by
    unfold aBZ
    rw [aCl,h]
    simp only
    rw [if_pos hm,aHu l.length ((l2.drop 1).length+1) (l2.drop 1) (by simp;omega) (by simp)]
    cases aCl en f t ((l2.drop 1).length+1) (l2.drop 1)<;>rfl
  rw [this]
  cases aBZ en f t (l2.drop 1) with
  | error e=>rfl
  | ok r=>simp [pre,List.append_assoc]
theorem aOP {ts l:List (Tok α)}{f t:Int}(h:dys en ts = .ok ((f,t),l)):part en ts=pre [] (aBZ en f t l):=by
  unfold part;rw [h,aTH];rfl
theorem aOO {ts:List (Tok α)}{e:Int×α}(h:dys en ts = .error e):part en ts = .error e:=by
  unfold part;rw [h]
theorem aC8 {k:Int}{xs:List Bys}{l:List (Tok α)}(h:aBA k xs l=true):∃ t l',take en k [] l = .ok (t,l')∧l=t::l':=by
  cases l with
  | nil=>cases h
  | cons t l =>
    refine ⟨t,l,?_,rfl⟩
    unfold aBA at h
    unfold take aBA
    rw [Bool.and_eq_true] at h
    simp [h.1]
theorem aPo {l:List (Tok α)}{t u:Tok α}{r:List (Tok α)}(h:l=t::u::r):more l=(aBA 4 [aAV] l&&u.1==2):=by subst h;rfl
end
theorem aDZ {l:List (Tok Int)}(h:l.length<2):more l=false:=by
  rcases l with _ | ⟨t,_ | ⟨u,l⟩⟩
  · rfl
  · rfl
  · simp only [List.length_cons] at h;omega
theorem aFX {l:List (Tok Int)}(h:aBA 4 [aAV] l=false):more l=false:=by
  rcases l with _ | ⟨t,_ | ⟨u,r⟩⟩
  · rfl
  · rfl
  · rw [aPo rfl,h];rfl
theorem aDG {l:List (Tok Int)}{u:Tok Int}(h:l[1]?=some u):more l=(aBA 4 [aAV] l&&u.1==2):=by
  rcases l with _ | ⟨t,_ | ⟨v,r⟩⟩
  · simp at h
  · simp at h
  · simp at h;subst h;exact aPo rfl
def aBB (f a b:Int) (n:Nat):List Sp:=(List.range n).flatMap fun (i:Nat)=>aCZ ((f+(i:Int)).tmod 7*1440+a) ((f+(i:Int)).tmod 7*1440+b)
theorem aDO (f a b:Int) (n:Nat):aBB f a b (n+1)=aBB f a b n++aCZ ((f+(n:Int)).tmod 7*1440+a) ((f+(n:Int)).tmod 7*1440+b):=by
  unfold aBB;rw [List.range_succ];simp
theorem aSg (f t:Int):(aCZ f t).length≤2:=by unfold aCZ;split<;>simp
theorem aCn (f a b:Int) (n:Nat):(aBB f a b n).length≤2*n:=by
  induction n with
  | zero=>simp [aBB]
  | succ n ih=>rw [aDO,List.length_append];have:=aSg ((f+(n:Int)).tmod 7*1440+a) ((f+(n:Int)).tmod 7*1440+b);omega
theorem aNw {f t:Int}(hf:0≤f) (hf7:f<7) (ht:0≤t) (ht7:t<7):(t-f+7).tmod 7=(t-f+7)%7:=Int.tmod_eq_emod_of_nonneg (by omega)
theorem tm7 {f:Int}(hf:0≤f) (n:Nat):(f+(n:Int)).tmod 7=(f+(n:Int))%7:=Int.tmod_eq_emod_of_nonneg (by omega)
theorem aP2 {d:Bys}(h:d∈aDu):0≤idx d∧idx d<7:=by
  have hidx:∀ d∈aDu,0≤idx d∧idx d<7:=by decide +kernel
  exact hidx d h
abbrev aUI (Φ:Ending→World→Prop):=AtO Tryz.prog (aAf Tryz.f124) (aAo (bodyPost Tryz.prog Tryz.f124 Φ)) [] 119
theorem aDW {w:World}{G:Nat→Prop}{B rb c cq:Nat}{p q:Option Addr}{en:Int}{ts:List (Tok Int)}{ss:List Sp}(hM0:Mm G w w [bk rb #[vL p ts.length c,vI en,vL q ss.length cq] 170,rw_ spL 2 141 (vL q ss.length cq) ss]) (hs:SrcB tkL 3 w B p c ts) (hG:∀ k,G k→B≤k) (hk:Tk ts) (hT:Tb w) (hlen:ss.length+14*ts.length≤200000000):Calls Tryz.prog 124 #[vP rb 0] w fun e w'=>aKj w G B rb en ss p c ts (part en ts) e w':=by
  refine beg Tryz.func124 rfl rfl [(0,vP rb 0)] rfl rfl fun Φ hΦ=>?_
  have hM:=hM0
  have hrB:B≤rb:=hG rb (hM0.own _ (.head _) rb rfl (aAj (hM0.get 0 rfl)))
  have hB0:aAs B p c ts p c ts:=fun _ h=>h
  refine cal 0 0 11 [] (K:=fun u w8=>∃ b,u=vL (some ⟨b,0,none⟩) 7 7∧aM7 w8 b∧w.heap.size≤b∧Fr (fun _=>False) w w8) f0 ((aKQ hT).mono fun e w8 ⟨b,h1,h2⟩=>⟨_,h1,b,rfl,h2⟩) fun u w1 ⟨bd,hu,hbd,hbn,f1⟩=>?_
  subst hu
  have hM:=hM.add f1 (bk bd (aDu.map fun l=>Value.string (ofL l)).toArray 9) hbd (fun k h=>by rw [(h:k=bd)];exact hbn)
  rcases htk18:take en 1 aDu ts with ⟨c18,x18⟩ | ⟨t18,l18⟩
  · exact aN2 1 5 17 [(2,vL (some ⟨bd,0,none⟩) 7 7),(12,vL (some ⟨bd,0,none⟩) 7 7),(15,vP rb 0),(16,vL (some ⟨bd,0,none⟩) 7 7)] [0] f0 hM rfl (by decide) (fun hm=>(aAn (xs:=aDu) hm (aAK hs hM.fr hG) (fun k h=>by rw [aE5 (b:=rb) rfl h];exact hrB) (aEn (hM.get 2 rfl) (hM.notin (i:=2) (js:=[0]) rfl rfl (by decide)) fun w9 h=>aM7.st h) 1).mono fun e w8 h=>by unfold aBv at h;rw [htk18] at h;exact h) (fun a w9 f9 hd=>pn_ (P:=Tryz.prog) (fn:=Tryz.f124) hd (hΦ _ _ ((by rw [aOO (by unfold dys;rw [htk18];(try simp only);(try rfl))];exact ⟨rfl,f9⟩))))
  refine aAO 1 5 17 [(2,vL (some ⟨bd,0,none⟩) 7 7),(12,vL (some ⟨bd,0,none⟩) 7 7),(15,vP rb 0),(16,vL (some ⟨bd,0,none⟩) 7 7)] (K:=fun u Mn=>u=vA (tkL t18)∧∃ p' c',aAs B p c ts p' c' l18∧Mn=[bk rb #[vL p' l18.length c',vI en,vL q ss.length cq] 170]) [1,2] [0] f0 hM rfl rfl (by decide) (fun hm=>(aAn (xs:=aDu) hm (aAK hs hM.fr hG) (fun k h=>by rw [aE5 (b:=rb) rfl h];exact hrB) (aEn (hM.get 2 rfl) (hM.notin (i:=2) (js:=[0]) rfl rfl (by decide)) fun w9 h=>aM7.st h) 1).mono fun e w8 h=>by unfold aBv at h;rw [htk18] at h;obtain ⟨h1,p',c',h2,h3⟩:=h;exact ⟨_,_,h1,⟨rfl,p',c',h2,rfl⟩,h3⟩) fun u Mn w1 hK hM=>?_
  obtain ⟨rfl,p18,cc18,hb18,rfl⟩:=hK
  have hs18:=hb18 _ hs
  have hB18:aAs B p c ts p18 cc18 l18:=fun w1 h=>hb18 w1 (hB0 w1 h)
  obtain ⟨hto18,hkd18,hk⟩:=aAH hk htk18
  have hin18:=(aAY htk18).2.2
  have hid18:t18.2.1∈aDu:=hin18.resolve_left (by decide)
  have hir18:=aP2 hid18
  refine aAr 1 7 19 [(18,vS t18.2.1)] f0 hM (aGG (aM7.st (hM.get 1 rfl)) hid18) fun w1 hM=>aAq 3 3 24 [(3,vI (idx t18.2.1)),(4,vI (idx t18.2.1)),(23,vP rb 0)] (cs:=#[vS [45]]) (T:=9) (v:=fun b=>vL (some ⟨b,0,none⟩) 1 1) f0 hM fun br w1 hM=>aAr 3 4 25 [] f0 hM (aBs (xs:=[aFb]) (hM.get 2 rfl) (aAK hs18 hM.fr hG) (StV.one (hM.get 3 rfl)) 4) fun w1 hM=>?_
  cases h20:(aBA 4 [aFb] l18)
  ·refine seg 6 0 [] f0 ?_
   have hdy:dys en ts = .ok (((idx t18.2.1),(idx t18.2.1)),l18):=(by unfold dys;rw [htk18];simp only;rw [if_neg (by rw [h20];simp)])
   obtain ⟨f,hfe⟩:∃ f,f=(idx t18.2.1):=⟨_,rfl⟩
   have hf0:0≤f∧f<7:=by rw [hfe];omega
   rw [←hfe]
   rw [←hfe] at hdy
   have hP:=aOP hdy
   have hlen0:l18.length≤ts.length:=by have:=aGN hdy;omega
   have hM:Mm G w _ [bk bd (aDu.map fun l=>Value.string (ofL l)).toArray 9,rw_ spL 2 141 (vL q ss.length cq) ss,bk rb #[vL p18 l18.length cc18,vI en,vL q ss.length cq] 170]:=(hM.pick [1,0,2])
   have aq:∀ (ai:Nat) (l:List (Tok Int)) (acc:List Sp) (pl:Option Addr) (cl:Nat) (q:Option Addr) (cq:Nat) (w2:World),SrcB tkL 3 w B pl cl l→aAs B p c ts pl cl l→Tk l→part en ts=pre acc (aBZ en f f l)→acc.length+14*l.length≤14*ts.length→Mm G w w2 [bk bd (aDu.map fun l=>Value.string (ofL l)).toArray 9,rw_ spL 2 141 (vL q (ss++acc).length cq) (ss++acc),bk rb #[vL pl l.length cl,vI en,vL q (ss++acc).length cq] 170]→ai=l.length→aUI Φ (some (6,0)) [(4,vI f),(3,vI f),(0,vP rb 0)] w2:=by
    refine aAG fun ai aj l acc pl cl q cq w2 hs2 hB2 hk hP hal hM bs=>?_
    rcases hck24:clock en 23 l with ⟨c24,x24⟩ | ⟨⟨ac,y24⟩,l24⟩
    · exact aN2 6 1 40 [(39,vP rb 0)] [2] f0 hM rfl (by decide) (fun hm=>(aBo (most:=23) hm (aAK hs2 hM.fr hG) (fun k h=>by rw [aE5 (b:=rb) rfl h];exact hrB) hk).mono fun e w8 h=>by unfold aBv at h;rw [hck24] at h;exact h) (fun a w9 f9 hd=>pn_ (P:=Tryz.prog) (fn:=Tryz.f124) hd (hΦ _ _ ((by rw [hP,aB8 (by unfold aDv;rw [hck24];(try simp only))];exact ⟨rfl,f9⟩))))
    refine aAO 6 1 40 [(39,vP rb 0)] (K:=fun u Mn=>u = .tuple #[vI ac,vI y24]∧∃ p' c',aAs B pl cl l p' c' l24∧Mn=[bk rb #[vL p' l24.length c',vI en,vL q (ss++acc).length cq] 170]) [0,1] [2] f0 hM rfl rfl (by decide) (fun hm=>(aBo (most:=23) hm (aAK hs2 hM.fr hG) (fun k h=>by rw [aE5 (b:=rb) rfl h];exact hrB) hk).mono fun e w8 h=>by unfold aBv at h;rw [hck24] at h;obtain ⟨h1,p',c',h2,h3⟩:=h;exact ⟨_,_,h1,⟨rfl,p',c',h2,rfl⟩,h3⟩) fun u Mn w1 hK hM=>?_
    obtain ⟨rfl,p24,cc24,hb24,rfl⟩:=hK
    have hs24:=hb24 _ hs2
    have hB24:aAs B p c ts p24 cc24 l24:=fun w1 h=>hb24 w1 (hB2 w1 h)
    obtain ⟨bt,bu,bv,hk⟩:=aCd hk hck24
    refine aAq 7 3 46 [(5,vI ac),(45,vP rb 0)] (cs:=#[vS [45]]) (T:=9) (v:=fun b=>vL (some ⟨b,0,none⟩) 1 1) f0 hM fun bw w1 hM=>?_
    rcases htk26:take en 4 [aFb] l24 with ⟨c26,x26⟩ | ⟨t26,l26⟩
    · exact aN2 7 4 47 [] [2] f0 hM rfl (by decide) (fun hm=>(aAn (xs:=[aFb]) hm (aAK hs24 hM.fr hG) (fun k h=>by rw [aE5 (b:=rb) rfl h];exact hrB) (aEn (hM.get 3 rfl) (hM.notin (i:=3) (js:=[2]) rfl rfl (by decide)) fun w9 h=>StV.one h) 4).mono fun e w8 h=>by unfold aBv at h;rw [htk26] at h;exact h) (fun a w9 f9 hd=>pn_ (P:=Tryz.prog) (fn:=Tryz.f124) hd (hΦ _ _ ((by rw [hP,aB8 (by unfold aDv;rw [hck24];(try simp only);rw [htk26];(try simp only))];exact ⟨rfl,f9⟩))))
    refine aAO 7 4 47 [] (K:=fun u Mn=>u=vA (tkL t26)∧∃ p' c',aAs B p24 cc24 l24 p' c' l26∧Mn=[bk rb #[vL p' l26.length c',vI en,vL q (ss++acc).length cq] 170]) [0,1,3] [2] f0 hM rfl rfl (by decide) (fun hm=>(aAn (xs:=[aFb]) hm (aAK hs24 hM.fr hG) (fun k h=>by rw [aE5 (b:=rb) rfl h];exact hrB) (aEn (hM.get 3 rfl) (hM.notin (i:=3) (js:=[2]) rfl rfl (by decide)) fun w9 h=>StV.one h) 4).mono fun e w8 h=>by unfold aBv at h;rw [htk26] at h;obtain ⟨h1,p',c',h2,h3⟩:=h;exact ⟨_,_,h1,⟨rfl,p',c',h2,rfl⟩,h3⟩) fun u Mn w1 hK hM=>?_
    obtain ⟨rfl,p26,cc26,hb26,rfl⟩:=hK
    have hs26:=hb26 _ hs24
    have hB26:aAs B p c ts p26 cc26 l26:=fun w1 h=>hb26 w1 (hB24 w1 h)
    obtain ⟨hto26,hkd26,hk⟩:=aAH hk htk26
    rcases hck27:clock en 24 l26 with ⟨c27,x27⟩ | ⟨⟨aa,y27⟩,l27⟩
    · exact aN2 8 1 50 [(49,vP rb 0)] [3] f0 hM rfl (by decide) (fun hm=>(aBo (most:=24) hm (aAK hs26 hM.fr hG) (fun k h=>by rw [aE5 (b:=rb) rfl h];exact hrB) hk).mono fun e w8 h=>by unfold aBv at h;rw [hck27] at h;exact h) (fun a w9 f9 hd=>pn_ (P:=Tryz.prog) (fn:=Tryz.f124) hd (hΦ _ _ ((by rw [hP,aB8 (by unfold aDv;rw [hck24];(try simp only);rw [htk26];(try simp only);rw [hck27];(try simp only))];exact ⟨rfl,f9⟩))))
    refine aAO 8 1 50 [(49,vP rb 0)] (K:=fun u Mn=>u = .tuple #[vI aa,vI y27]∧∃ p' c',aAs B p26 cc26 l26 p' c' l27∧Mn=[bk rb #[vL p' l27.length c',vI en,vL q (ss++acc).length cq] 170]) [0,1,2] [3] f0 hM rfl rfl (by decide) (fun hm=>(aBo (most:=24) hm (aAK hs26 hM.fr hG) (fun k h=>by rw [aE5 (b:=rb) rfl h];exact hrB) hk).mono fun e w8 h=>by unfold aBv at h;rw [hck27] at h;obtain ⟨h1,p',c',h2,h3⟩:=h;exact ⟨_,_,h1,⟨rfl,p',c',h2,rfl⟩,h3⟩) fun u Mn w1 hK hM=>?_
    obtain ⟨rfl,p27,cc27,hb27,rfl⟩:=hK
    have hs27:=hb27 _ hs26
    have hB27:aAs B p c ts p27 cc27 l27:=fun w1 h=>hb27 w1 (hB26 w1 h)
    obtain ⟨bz,b0,b1,hk⟩:=aCd hk hck27
    refine seg 9 4 [(7,vI aa),(8,vI y27),(53,vB (ac==aa))] f0 ?_
    cases h28:(ac==aa)
    rotate_left
    ·exact pan 10 3 [(59,aIX 10 y27)] 165 (.agg #[vI 10,vI y27]) f0 hM (fun a f9 hd=>pn_ (P:=Tryz.prog) (fn:=Tryz.f124) hd (hΦ _ _ ((by rw [hP,aB8 (by unfold aDv;rw [hck24];(try simp only);rw [htk26];(try simp only);rw [hck27];(try simp only);rw [if_pos h28])];exact ⟨rfl,f9⟩))))
    refine seg 11 4 [(60,vB (decide (aa<ac)))] f0 ?_
    cases h29:(decide (aa<ac))
    ·have ar:=df h29
     refine seg 14 0 [(71,vI ((((f-f)+7)%7)+1)),(72,vI 0)] (fc (aBq f f u3_) (fc (aAe (f-f) 7 u3_) (fc (aNB ((f-f)+7) 7 u3_) (fc (aAe (((f-f)+7)%7) 1 u3_) f0)))) ?_
     obtain ⟨n,hn⟩:∃ n:Nat,n=((f-f+7)%7+1).toNat:=⟨_,rfl⟩
     have hnn:((((f-f)+7)%7)+1)=(n:Int):=by omega
     have hn7:n≤7:=by omega
     rw [hnn]
     have hM:Mm G w _ [bk bd (aDu.map fun l=>Value.string (ofL l)).toArray 9,rw_ spL 2 141 (vL q (ss++acc).length cq) (ss++acc),bk rb #[vL p27 l27.length cc27,vI en,vL q (ss++acc).length cq] 170]:=(hM.pick [0,1,3])
     have au:∀ (ak:Nat) (i:Nat) (q2:Option Addr) (cq2:Nat) (w2:World),i≤n→Mm G w w2 [bk bd (aDu.map fun l=>Value.string (ofL l)).toArray 9,rw_ spL 2 141 (vL q2 (ss++acc++aBB f ac aa i).length cq2) (ss++acc++aBB f ac aa i),bk rb #[vL p27 l27.length cc27,vI en,vL q2 (ss++acc++aBB f ac aa i).length cq2] 170]→ak=n-i→aUI Φ (some (14,0)) [(72,vI (i:Int)),(71,vI (n:Int)),(7,vI aa),(5,vI ac),(4,vI f),(3,vI f),(0,vP rb 0)] w2:=by
      refine aAG fun ak av i q2 cq2 w2 hi hM b2=>seg 14 1 [(73,vB (decide ((i:Int)<(n:Int))))] f0 ?_
      cases h33:(decide ((i:Int)<(n:Int)))
      rotate_left
      ·have aw:=dt h33
       refine aAO 17 7 87 [(80,vP rb 0),(83,vI ((((f+(i:Int))%7)*1440)+ac)),(86,vI ((((f+(i:Int))%7)*1440)+aa))] (K:=fun u Mn=>u = .tuple #[]∧∃ q2 c2,Mn=[bk rb #[vL p27 l27.length cc27,vI en,vL q2 ((ss++acc++aBB f ac aa i)++aCZ ((((f+(i:Int))%7)*1440)+ac) ((((f+(i:Int))%7)*1440)+aa)).length c2] 170,rw_ spL 2 141 (vL q2 ((ss++acc++aBB f ac aa i)++aCZ ((((f+(i:Int))%7)*1440)+ac) ((((f+(i:Int))%7)*1440)+aa)).length c2) ((ss++acc++aBB f ac aa i)++aCZ ((((f+(i:Int))%7)*1440)+ac) ((((f+(i:Int))%7)*1440)+aa))]) [0] [2,1] (fc (aAe f (i:Int) u3_) (fc (aNB (f+(i:Int)) 7 u3_) (fc (aHX ((f+(i:Int))%7) 1440 u3_) (fc (aAe (((f+(i:Int))%7)*1440) ac u3_) (fc (aAe (((f+(i:Int))%7)*1440) aa u3_) f0))))) hM rfl rfl (by decide) (fun hm=>aDQ (by omega) (by omega) (by have:=aCn f ac aa i;simp only [List.length_append];omega) hm) fun u Mn w1 hK hM=>?_
       obtain ⟨rfl,ax,ay,rfl⟩:=hK
       refine seg 14 0 [(72,vI ((i:Int)+1))] (fc (aAe (i:Int) 1 u3_) f0) ?_
       have e9:((ss++acc++aBB f ac aa i)++aCZ ((((f+(i:Int))%7)*1440)+ac) ((((f+(i:Int))%7)*1440)+aa))=ss++acc++aBB f ac aa (i+1):=by rw [aDO,tm7 hf0.1,←List.append_assoc]
       rw [e9] at hM
       exact aAb _ (av _ (by omega) (i+1) ax ay _ (by omega) (hM.pick [0,2,1]) rfl)
      have aw:=df h33
      have hti:aDv en f f l = .ok ((aBB f ac aa n),l27):=(by unfold aDv;rw [hck24];simp only;rw [htk26];simp only;rw [hck27];simp only;rw [if_neg (by rw [h28];simp),if_neg (of_decide_eq_false h29),aNw hf0.1 hf0.2 hf0.1 hf0.2,show (f-f+7)%7+1=(n:Int) from hnn];rfl)
      have hie:i=n:=by omega
      rw [hie] at hM
      replace hM:Mm G w _ [bk bd (aDu.map fun l=>Value.string (ofL l)).toArray 9,_,bk rb #[vL p27 l27.length cc27,vI en,vL q2 (ss++acc++(aBB f ac aa n)).length cq2] 170]:=hM
      refine aAq 19 3 92 [(91,vP rb 0)] (cs:=#[vS [44]]) (T:=9) (v:=fun b=>vL (some ⟨b,0,none⟩) 1 1) f0 hM fun b3 w1 hM=>aAr 19 4 93 [] f0 hM (aBs (xs:=[aAV]) (hM.get 2 rfl) (aAK hs27 hM.fr hG) (StV.one (hM.get 3 rfl)) 4) fun w1 hM=>seg 19 7 [(95,vB (!(aBA 4 [aAV] l27)))] f0 ?_
      cases h35:(aBA 4 [aAV] l27)
      ·rw [List.append_assoc] at hM
       exact rt0 rfl f0 (hΦ _ _ (by rw [hP,aAJ hti (aFX h35)];exact ⟨rfl,_,_,_,_,hB27,hM.pick [2,1]⟩))
      refine seg 19 16 [(104,vB (decide ((l27.length:Int)<2)))] (fc (ldm 130 2 0 hM rfl rfl) f0) ?_
      cases h36:(decide ((l27.length:Int)<2))
      rotate_left
      ·have az:=dt h36
       rw [List.append_assoc] at hM
       exact rt0 rfl f0 (hΦ _ _ (by rw [hP,aAJ hti (aDZ (by omega))];exact ⟨rfl,_,_,_,_,hB27,hM.pick [2,1]⟩))
      have az:=df h36
      obtain ⟨y37,ae,b4,b5,q37,a0,n37⟩:=(hs27).eb hG (i:=1) (by omega)
      refine seg 19 26 [(114,vB (!(y37.1==2)))] (fc (ldm 130 2 0 hM rfl rfl) (fc (ix 130 cc27 q37 (gl ae)) (fc (ld0 3 hM (a0 0 _ rfl) n37) f0))) ?_
      cases h38:(y37.1==2)
      ·rw [List.append_assoc] at hM
       exact rt0 rfl f0 (hΦ _ _ (by rw [hP,aAJ hti ((by rw [aDG ae,h38,Bool.and_false]))];exact ⟨rfl,_,_,_,_,hB27,hM.pick [2,1]⟩))
      have hmo:more l27=true:=by rw [aDG ae,h35,h38];rfl
      rcases htk39:take en 4 ([]:List Bys) l27 with ⟨c39,x39⟩ | ⟨t39,l39⟩
      · exfalso;obtain ⟨t9,l9,h9,_⟩:=aC8 (en:=en) h35;rw [h9] at htk39;cases htk39
      refine aAO 20 3 118 [(117,vP rb 0)] (K:=fun u Mn=>u=vA (tkL t39)∧∃ p' c',aAs B p27 cc27 l27 p' c' l39∧Mn=[bk rb #[vL p' l39.length c',vI en,vL q2 (ss++acc++(aBB f ac aa n)).length cq2] 170]) [0,1,3] [2] f0 hM rfl rfl (by decide) (fun hm=>(aAn (xs:=([]:List Bys)) hm (aAK hs27 hM.fr hG) (fun k h=>by rw [aE5 (b:=rb) rfl h];exact hrB) aCg 4).mono fun e w8 h=>by unfold aBv at h;rw [htk39] at h;obtain ⟨h1,p',c',h2,h3⟩:=h;exact ⟨_,_,h1,⟨rfl,p',c',h2,rfl⟩,h3⟩) fun u Mn w1 hK hM=>?_
      obtain ⟨rfl,p39,cc39,hb39,rfl⟩:=hK
      have hs39:=hb39 _ hs27
      have hB39:aAs B p c ts p39 cc39 l39:=fun w1 h=>hb39 w1 (hB27 w1 h)
      obtain ⟨hto39,hkd39,hk⟩:=aAH hk htk39
      have htl39:l27=t39::l39:=(aAY htk39).1
      refine seg 6 0 [] f0 ?_
      have hPn:part en ts=pre (acc++(aBB f ac aa n)) (aBZ en f f l39):=by rw [hP,aDa hti hmo,htl39];rfl
      have hl9:=aCF hti
      have hl8:l27.length=l39.length+1:=by rw [htl39];rfl
      have hdn:=aCn f ac aa n
      rw [List.append_assoc] at hM
      exact aAb _ (aj _ (by omega) l39 (acc++(aBB f ac aa n)) p39 cc39 q2 cq2 _ (hs39) (hB39) hk hPn (by simp only [List.length_append];omega) (hM.pick [0,1,3]) rfl)
     exact aAb _ (au _ 0 q cq _ (Nat.zero_le _) (hM.cast (by simp only [show aBB f ac aa 0=[] from rfl,List.append_nil])) rfl)
    have ar:=dt h29
    refine seg 14 0 [(7,vI (aa+1440)),(71,vI ((((f-f)+7)%7)+1)),(72,vI 0)] (fc (aAe aa 1440 u3_) (fc (aBq f f u3_) (fc (aAe (f-f) 7 u3_) (fc (aNB ((f-f)+7) 7 u3_) (fc (aAe (((f-f)+7)%7) 1 u3_) f0))))) ?_
    obtain ⟨n,hn⟩:∃ n:Nat,n=((f-f+7)%7+1).toNat:=⟨_,rfl⟩
    have hnn:((((f-f)+7)%7)+1)=(n:Int):=by omega
    have hn7:n≤7:=by omega
    rw [hnn]
    have hM:Mm G w _ [bk bd (aDu.map fun l=>Value.string (ofL l)).toArray 9,rw_ spL 2 141 (vL q (ss++acc).length cq) (ss++acc),bk rb #[vL p27 l27.length cc27,vI en,vL q (ss++acc).length cq] 170]:=(hM.pick [0,1,3])
    have a1:∀ (al:Nat) (i:Nat) (q2:Option Addr) (cq2:Nat) (w2:World),i≤n→Mm G w w2 [bk bd (aDu.map fun l=>Value.string (ofL l)).toArray 9,rw_ spL 2 141 (vL q2 (ss++acc++aBB f ac (aa+1440) i).length cq2) (ss++acc++aBB f ac (aa+1440) i),bk rb #[vL p27 l27.length cc27,vI en,vL q2 (ss++acc++aBB f ac (aa+1440) i).length cq2] 170]→al=n-i→aUI Φ (some (14,0)) [(72,vI (i:Int)),(71,vI (n:Int)),(7,vI (aa+1440)),(5,vI ac),(4,vI f),(3,vI f),(0,vP rb 0)] w2:=by
     refine aAG fun al a2 i q2 cq2 w2 hi hM b6=>seg 14 1 [(73,vB (decide ((i:Int)<(n:Int))))] f0 ?_
     cases h44:(decide ((i:Int)<(n:Int)))
     rotate_left
     ·have a3:=dt h44
      refine aAO 17 7 87 [(80,vP rb 0),(83,vI ((((f+(i:Int))%7)*1440)+ac)),(86,vI ((((f+(i:Int))%7)*1440)+(aa+1440)))] (K:=fun u Mn=>u = .tuple #[]∧∃ q2 c2,Mn=[bk rb #[vL p27 l27.length cc27,vI en,vL q2 ((ss++acc++aBB f ac (aa+1440) i)++aCZ ((((f+(i:Int))%7)*1440)+ac) ((((f+(i:Int))%7)*1440)+(aa+1440))).length c2] 170,rw_ spL 2 141 (vL q2 ((ss++acc++aBB f ac (aa+1440) i)++aCZ ((((f+(i:Int))%7)*1440)+ac) ((((f+(i:Int))%7)*1440)+(aa+1440))).length c2) ((ss++acc++aBB f ac (aa+1440) i)++aCZ ((((f+(i:Int))%7)*1440)+ac) ((((f+(i:Int))%7)*1440)+(aa+1440)))]) [0] [2,1] (fc (aAe f (i:Int) u3_) (fc (aNB (f+(i:Int)) 7 u3_) (fc (aHX ((f+(i:Int))%7) 1440 u3_) (fc (aAe (((f+(i:Int))%7)*1440) ac u3_) (fc (aAe (((f+(i:Int))%7)*1440) (aa+1440) u3_) f0))))) hM rfl rfl (by decide) (fun hm=>aDQ (by omega) (by omega) (by have:=aCn f ac (aa+1440) i;simp only [List.length_append];omega) hm) fun u Mn w1 hK hM=>?_
      obtain ⟨rfl,a4,a5,rfl⟩:=hK
      refine seg 14 0 [(72,vI ((i:Int)+1))] (fc (aAe (i:Int) 1 u3_) f0) ?_
      have e9:((ss++acc++aBB f ac (aa+1440) i)++aCZ ((((f+(i:Int))%7)*1440)+ac) ((((f+(i:Int))%7)*1440)+(aa+1440)))=ss++acc++aBB f ac (aa+1440) (i+1):=by rw [aDO,tm7 hf0.1,←List.append_assoc]
      rw [e9] at hM
      exact aAb _ (a2 _ (by omega) (i+1) a4 a5 _ (by omega) (hM.pick [0,2,1]) rfl)
     have a3:=df h44
     have hti:aDv en f f l = .ok ((aBB f ac (aa+1440) n),l27):=(by unfold aDv;rw [hck24];simp only;rw [htk26];simp only;rw [hck27];simp only;rw [if_neg (by rw [h28];simp),if_pos (of_decide_eq_true h29),aNw hf0.1 hf0.2 hf0.1 hf0.2,show (f-f+7)%7+1=(n:Int) from hnn];rfl)
     have hie:i=n:=by omega
     rw [hie] at hM
     replace hM:Mm G w _ [bk bd (aDu.map fun l=>Value.string (ofL l)).toArray 9,_,bk rb #[vL p27 l27.length cc27,vI en,vL q2 (ss++acc++(aBB f ac (aa+1440) n)).length cq2] 170]:=hM
     refine aAq 19 3 92 [(91,vP rb 0)] (cs:=#[vS [44]]) (T:=9) (v:=fun b=>vL (some ⟨b,0,none⟩) 1 1) f0 hM fun b7 w1 hM=>aAr 19 4 93 [] f0 hM (aBs (xs:=[aAV]) (hM.get 2 rfl) (aAK hs27 hM.fr hG) (StV.one (hM.get 3 rfl)) 4) fun w1 hM=>seg 19 7 [(95,vB (!(aBA 4 [aAV] l27)))] f0 ?_
     cases h46:(aBA 4 [aAV] l27)
     ·rw [List.append_assoc] at hM
      exact rt0 rfl f0 (hΦ _ _ (by rw [hP,aAJ hti (aFX h46)];exact ⟨rfl,_,_,_,_,hB27,hM.pick [2,1]⟩))
     refine seg 19 16 [(104,vB (decide ((l27.length:Int)<2)))] (fc (ldm 130 2 0 hM rfl rfl) f0) ?_
     cases h47:(decide ((l27.length:Int)<2))
     rotate_left
     ·have a6:=dt h47
      rw [List.append_assoc] at hM
      exact rt0 rfl f0 (hΦ _ _ (by rw [hP,aAJ hti (aDZ (by omega))];exact ⟨rfl,_,_,_,_,hB27,hM.pick [2,1]⟩))
     have a6:=df h47
     obtain ⟨y48,af,b8,b9,q48,a7,n48⟩:=(hs27).eb hG (i:=1) (by omega)
     refine seg 19 26 [(114,vB (!(y48.1==2)))] (fc (ldm 130 2 0 hM rfl rfl) (fc (ix 130 cc27 q48 (gl af)) (fc (ld0 3 hM (a7 0 _ rfl) n48) f0))) ?_
     cases h49:(y48.1==2)
     ·rw [List.append_assoc] at hM
      exact rt0 rfl f0 (hΦ _ _ (by rw [hP,aAJ hti ((by rw [aDG af,h49,Bool.and_false]))];exact ⟨rfl,_,_,_,_,hB27,hM.pick [2,1]⟩))
     have hmo:more l27=true:=by rw [aDG af,h46,h49];rfl
     rcases htk50:take en 4 ([]:List Bys) l27 with ⟨c50,x50⟩ | ⟨t50,l50⟩
     · exfalso;obtain ⟨t9,l9,h9,_⟩:=aC8 (en:=en) h46;rw [h9] at htk50;cases htk50
     refine aAO 20 3 118 [(117,vP rb 0)] (K:=fun u Mn=>u=vA (tkL t50)∧∃ p' c',aAs B p27 cc27 l27 p' c' l50∧Mn=[bk rb #[vL p' l50.length c',vI en,vL q2 (ss++acc++(aBB f ac (aa+1440) n)).length cq2] 170]) [0,1,3] [2] f0 hM rfl rfl (by decide) (fun hm=>(aAn (xs:=([]:List Bys)) hm (aAK hs27 hM.fr hG) (fun k h=>by rw [aE5 (b:=rb) rfl h];exact hrB) aCg 4).mono fun e w8 h=>by unfold aBv at h;rw [htk50] at h;obtain ⟨h1,p',c',h2,h3⟩:=h;exact ⟨_,_,h1,⟨rfl,p',c',h2,rfl⟩,h3⟩) fun u Mn w1 hK hM=>?_
     obtain ⟨rfl,p50,cc50,hb50,rfl⟩:=hK
     have hs50:=hb50 _ hs27
     have hB50:aAs B p c ts p50 cc50 l50:=fun w1 h=>hb50 w1 (hB27 w1 h)
     obtain ⟨hto50,hkd50,hk⟩:=aAH hk htk50
     have htl50:l27=t50::l50:=(aAY htk50).1
     refine seg 6 0 [] f0 ?_
     have hPn:part en ts=pre (acc++(aBB f ac (aa+1440) n)) (aBZ en f f l50):=by rw [hP,aDa hti hmo,htl50];rfl
     have hl9:=aCF hti
     have hl8:l27.length=l50.length+1:=by rw [htl50];rfl
     have hdn:=aCn f ac (aa+1440) n
     rw [List.append_assoc] at hM
     exact aAb _ (aj _ (by omega) l50 (acc++(aBB f ac (aa+1440) n)) p50 cc50 q2 cq2 _ (hs50) (hB50) hk hPn (by simp only [List.length_append];omega) (hM.pick [0,1,3]) rfl)
    exact aAb _ (a1 _ 0 q cq _ (Nat.zero_le _) (hM.cast (by simp only [show aBB f ac (aa+1440) 0=[] from rfl,List.append_nil])) rfl)
   exact aAb _ (aq _ l18 [] p18 cc18 q cq _ (hs18) (hB18) hk hP (by simp only [List.length_nil];omega) (hM.cast (by simp only [List.append_nil])) rfl)
  rcases htk52:take en 4 ([]:List Bys) l18 with ⟨c52,x52⟩ | ⟨t52,l52⟩
  · exfalso;obtain ⟨t9,l9,h9,_⟩:=aC8 (en:=en) h20;rw [h9] at htk52;cases htk52
  refine aAO 4 3 29 [(28,vP rb 0)] (K:=fun u Mn=>u=vA (tkL t52)∧∃ p' c',aAs B p18 cc18 l18 p' c' l52∧Mn=[bk rb #[vL p' l52.length c',vI en,vL q ss.length cq] 170]) [0,1,3] [2] f0 hM rfl rfl (by decide) (fun hm=>(aAn (xs:=([]:List Bys)) hm (aAK hs18 hM.fr hG) (fun k h=>by rw [aE5 (b:=rb) rfl h];exact hrB) aCg 4).mono fun e w8 h=>by unfold aBv at h;rw [htk52] at h;obtain ⟨h1,p',c',h2,h3⟩:=h;exact ⟨_,_,h1,⟨rfl,p',c',h2,rfl⟩,h3⟩) fun u Mn w1 hK hM=>?_
  obtain ⟨rfl,p52,cc52,hb52,rfl⟩:=hK
  have hs52:=hb52 _ hs18
  have hB52:aAs B p c ts p52 cc52 l52:=fun w1 h=>hb52 w1 (hB18 w1 h)
  obtain ⟨hto52,hkd52,hk⟩:=aAH hk htk52
  have htl52:l18=t52::l52:=(aAY htk52).1
  rcases htk53:take en 1 aDu l52 with ⟨c53,x53⟩ | ⟨t53,l53⟩
  · exact aN2 5 5 35 [(30,vL (some ⟨bd,0,none⟩) 7 7),(33,vP rb 0),(34,vL (some ⟨bd,0,none⟩) 7 7)] [3] f0 hM rfl (by decide) (fun hm=>(aAn (xs:=aDu) hm (aAK hs52 hM.fr hG) (fun k h=>by rw [aE5 (b:=rb) rfl h];exact hrB) (aEn (hM.get 1 rfl) (hM.notin (i:=1) (js:=[3]) rfl rfl (by decide)) fun w9 h=>aM7.st h) 1).mono fun e w8 h=>by unfold aBv at h;rw [htk53] at h;exact h) (fun a w9 f9 hd=>pn_ (P:=Tryz.prog) (fn:=Tryz.f124) hd (hΦ _ _ ((by rw [aOO (by unfold dys;rw [htk18];(try simp only);rw [if_pos h20,htl52];simp only [List.drop_succ_cons,List.drop_zero];rw [htk53];(try simp only);(try rfl))];exact ⟨rfl,f9⟩))))
  refine aAO 5 5 35 [(30,vL (some ⟨bd,0,none⟩) 7 7),(33,vP rb 0),(34,vL (some ⟨bd,0,none⟩) 7 7)] (K:=fun u Mn=>u=vA (tkL t53)∧∃ p' c',aAs B p52 cc52 l52 p' c' l53∧Mn=[bk rb #[vL p' l53.length c',vI en,vL q ss.length cq] 170]) [0,1,2] [3] f0 hM rfl rfl (by decide) (fun hm=>(aAn (xs:=aDu) hm (aAK hs52 hM.fr hG) (fun k h=>by rw [aE5 (b:=rb) rfl h];exact hrB) (aEn (hM.get 1 rfl) (hM.notin (i:=1) (js:=[3]) rfl rfl (by decide)) fun w9 h=>aM7.st h) 1).mono fun e w8 h=>by unfold aBv at h;rw [htk53] at h;obtain ⟨h1,p',c',h2,h3⟩:=h;exact ⟨_,_,h1,⟨rfl,p',c',h2,rfl⟩,h3⟩) fun u Mn w1 hK hM=>?_
  obtain ⟨rfl,p53,cc53,hb53,rfl⟩:=hK
  have hs53:=hb53 _ hs52
  have hB53:aAs B p c ts p53 cc53 l53:=fun w1 h=>hb53 w1 (hB52 w1 h)
  obtain ⟨hto53,hkd53,hk⟩:=aAH hk htk53
  have hin53:=(aAY htk53).2.2
  have hid53:t53.2.1∈aDu:=hin53.resolve_left (by decide)
  have hir53:=aP2 hid53
  refine aAr 5 7 37 [(36,vS t53.2.1)] f0 hM (aGG (aM7.st (hM.get 1 rfl)) hid53) fun w1 hM=>seg 6 0 [(4,vI (idx t53.2.1))] f0 ?_
  have hdy:dys en ts = .ok (((idx t18.2.1),(idx t53.2.1)),l53):=(by unfold dys;rw [htk18];simp only;rw [if_pos h20,htl52];simp only [List.drop_succ_cons,List.drop_zero];rw [htk53])
  obtain ⟨f,hfe⟩:∃ f,f=(idx t18.2.1):=⟨_,rfl⟩
  have hf0:0≤f∧f<7:=by rw [hfe];omega
  rw [←hfe]
  rw [←hfe] at hdy
  obtain ⟨t,hte⟩:∃ t,t=(idx t53.2.1):=⟨_,rfl⟩
  have ht0:0≤t∧t<7:=by rw [hte];omega
  rw [←hte]
  rw [←hte] at hdy
  have hP:=aOP hdy
  have hlen0:l53.length≤ts.length:=by have:=aGN hdy;omega
  have hM:Mm G w _ [bk bd (aDu.map fun l=>Value.string (ofL l)).toArray 9,rw_ spL 2 141 (vL q ss.length cq) ss,bk rb #[vL p53 l53.length cc53,vI en,vL q ss.length cq] 170]:=(hM.pick [1,0,3])
  have a8:∀ (am:Nat) (l:List (Tok Int)) (acc:List Sp) (pl:Option Addr) (cl:Nat) (q:Option Addr) (cq:Nat) (w2:World),SrcB tkL 3 w B pl cl l→aAs B p c ts pl cl l→Tk l→part en ts=pre acc (aBZ en f t l)→acc.length+14*l.length≤14*ts.length→Mm G w w2 [bk bd (aDu.map fun l=>Value.string (ofL l)).toArray 9,rw_ spL 2 141 (vL q (ss++acc).length cq) (ss++acc),bk rb #[vL pl l.length cl,vI en,vL q (ss++acc).length cq] 170]→am=l.length→aUI Φ (some (6,0)) [(4,vI t),(3,vI f),(0,vP rb 0)] w2:=by
   refine aAG fun am an l acc pl cl q cq w2 hs2 hB2 hk hP hal hM ca=>?_
   rcases hck57:clock en 23 l with ⟨c57,x57⟩ | ⟨⟨ad,y57⟩,l57⟩
   · exact aN2 6 1 40 [(39,vP rb 0)] [2] f0 hM rfl (by decide) (fun hm=>(aBo (most:=23) hm (aAK hs2 hM.fr hG) (fun k h=>by rw [aE5 (b:=rb) rfl h];exact hrB) hk).mono fun e w8 h=>by unfold aBv at h;rw [hck57] at h;exact h) (fun a w9 f9 hd=>pn_ (P:=Tryz.prog) (fn:=Tryz.f124) hd (hΦ _ _ ((by rw [hP,aB8 (by unfold aDv;rw [hck57];(try simp only))];exact ⟨rfl,f9⟩))))
   refine aAO 6 1 40 [(39,vP rb 0)] (K:=fun u Mn=>u = .tuple #[vI ad,vI y57]∧∃ p' c',aAs B pl cl l p' c' l57∧Mn=[bk rb #[vL p' l57.length c',vI en,vL q (ss++acc).length cq] 170]) [0,1] [2] f0 hM rfl rfl (by decide) (fun hm=>(aBo (most:=23) hm (aAK hs2 hM.fr hG) (fun k h=>by rw [aE5 (b:=rb) rfl h];exact hrB) hk).mono fun e w8 h=>by unfold aBv at h;rw [hck57] at h;obtain ⟨h1,p',c',h2,h3⟩:=h;exact ⟨_,_,h1,⟨rfl,p',c',h2,rfl⟩,h3⟩) fun u Mn w1 hK hM=>?_
   obtain ⟨rfl,p57,cc57,hb57,rfl⟩:=hK
   have hs57:=hb57 _ hs2
   have hB57:aAs B p c ts p57 cc57 l57:=fun w1 h=>hb57 w1 (hB2 w1 h)
   obtain ⟨cb,cc,cd,hk⟩:=aCd hk hck57
   refine aAq 7 3 46 [(5,vI ad),(45,vP rb 0)] (cs:=#[vS [45]]) (T:=9) (v:=fun b=>vL (some ⟨b,0,none⟩) 1 1) f0 hM fun ce w1 hM=>?_
   rcases htk59:take en 4 [aFb] l57 with ⟨c59,x59⟩ | ⟨t59,l59⟩
   · exact aN2 7 4 47 [] [2] f0 hM rfl (by decide) (fun hm=>(aAn (xs:=[aFb]) hm (aAK hs57 hM.fr hG) (fun k h=>by rw [aE5 (b:=rb) rfl h];exact hrB) (aEn (hM.get 3 rfl) (hM.notin (i:=3) (js:=[2]) rfl rfl (by decide)) fun w9 h=>StV.one h) 4).mono fun e w8 h=>by unfold aBv at h;rw [htk59] at h;exact h) (fun a w9 f9 hd=>pn_ (P:=Tryz.prog) (fn:=Tryz.f124) hd (hΦ _ _ ((by rw [hP,aB8 (by unfold aDv;rw [hck57];(try simp only);rw [htk59];(try simp only))];exact ⟨rfl,f9⟩))))
   refine aAO 7 4 47 [] (K:=fun u Mn=>u=vA (tkL t59)∧∃ p' c',aAs B p57 cc57 l57 p' c' l59∧Mn=[bk rb #[vL p' l59.length c',vI en,vL q (ss++acc).length cq] 170]) [0,1,3] [2] f0 hM rfl rfl (by decide) (fun hm=>(aAn (xs:=[aFb]) hm (aAK hs57 hM.fr hG) (fun k h=>by rw [aE5 (b:=rb) rfl h];exact hrB) (aEn (hM.get 3 rfl) (hM.notin (i:=3) (js:=[2]) rfl rfl (by decide)) fun w9 h=>StV.one h) 4).mono fun e w8 h=>by unfold aBv at h;rw [htk59] at h;obtain ⟨h1,p',c',h2,h3⟩:=h;exact ⟨_,_,h1,⟨rfl,p',c',h2,rfl⟩,h3⟩) fun u Mn w1 hK hM=>?_
   obtain ⟨rfl,p59,cc59,hb59,rfl⟩:=hK
   have hs59:=hb59 _ hs57
   have hB59:aAs B p c ts p59 cc59 l59:=fun w1 h=>hb59 w1 (hB57 w1 h)
   obtain ⟨hto59,hkd59,hk⟩:=aAH hk htk59
   rcases hck60:clock en 24 l59 with ⟨c60,x60⟩ | ⟨⟨ab,y60⟩,l60⟩
   · exact aN2 8 1 50 [(49,vP rb 0)] [3] f0 hM rfl (by decide) (fun hm=>(aBo (most:=24) hm (aAK hs59 hM.fr hG) (fun k h=>by rw [aE5 (b:=rb) rfl h];exact hrB) hk).mono fun e w8 h=>by unfold aBv at h;rw [hck60] at h;exact h) (fun a w9 f9 hd=>pn_ (P:=Tryz.prog) (fn:=Tryz.f124) hd (hΦ _ _ ((by rw [hP,aB8 (by unfold aDv;rw [hck57];(try simp only);rw [htk59];(try simp only);rw [hck60];(try simp only))];exact ⟨rfl,f9⟩))))
   refine aAO 8 1 50 [(49,vP rb 0)] (K:=fun u Mn=>u = .tuple #[vI ab,vI y60]∧∃ p' c',aAs B p59 cc59 l59 p' c' l60∧Mn=[bk rb #[vL p' l60.length c',vI en,vL q (ss++acc).length cq] 170]) [0,1,2] [3] f0 hM rfl rfl (by decide) (fun hm=>(aBo (most:=24) hm (aAK hs59 hM.fr hG) (fun k h=>by rw [aE5 (b:=rb) rfl h];exact hrB) hk).mono fun e w8 h=>by unfold aBv at h;rw [hck60] at h;obtain ⟨h1,p',c',h2,h3⟩:=h;exact ⟨_,_,h1,⟨rfl,p',c',h2,rfl⟩,h3⟩) fun u Mn w1 hK hM=>?_
   obtain ⟨rfl,p60,cc60,hb60,rfl⟩:=hK
   have hs60:=hb60 _ hs59
   have hB60:aAs B p c ts p60 cc60 l60:=fun w1 h=>hb60 w1 (hB59 w1 h)
   obtain ⟨cf,cg,ch,hk⟩:=aCd hk hck60
   refine seg 9 4 [(7,vI ab),(8,vI y60),(53,vB (ad==ab))] f0 ?_
   cases h61:(ad==ab)
   rotate_left
   ·exact pan 10 3 [(59,aIX 10 y60)] 165 (.agg #[vI 10,vI y60]) f0 hM (fun a f9 hd=>pn_ (P:=Tryz.prog) (fn:=Tryz.f124) hd (hΦ _ _ ((by rw [hP,aB8 (by unfold aDv;rw [hck57];(try simp only);rw [htk59];(try simp only);rw [hck60];(try simp only);rw [if_pos h61])];exact ⟨rfl,f9⟩))))
   refine seg 11 4 [(60,vB (decide (ab<ad)))] f0 ?_
   cases h62:(decide (ab<ad))
   ·have a9:=df h62
    refine seg 14 0 [(71,vI ((((t-f)+7)%7)+1)),(72,vI 0)] (fc (aBq t f u3_) (fc (aAe (t-f) 7 u3_) (fc (aNB ((t-f)+7) 7 u3_) (fc (aAe (((t-f)+7)%7) 1 u3_) f0)))) ?_
    obtain ⟨n,hn⟩:∃ n:Nat,n=((t-f+7)%7+1).toNat:=⟨_,rfl⟩
    have hnn:((((t-f)+7)%7)+1)=(n:Int):=by omega
    have hn7:n≤7:=by omega
    rw [hnn]
    have hM:Mm G w _ [bk bd (aDu.map fun l=>Value.string (ofL l)).toArray 9,rw_ spL 2 141 (vL q (ss++acc).length cq) (ss++acc),bk rb #[vL p60 l60.length cc60,vI en,vL q (ss++acc).length cq] 170]:=(hM.pick [0,1,3])
    have ba:∀ (ao:Nat) (i:Nat) (q2:Option Addr) (cq2:Nat) (w2:World),i≤n→Mm G w w2 [bk bd (aDu.map fun l=>Value.string (ofL l)).toArray 9,rw_ spL 2 141 (vL q2 (ss++acc++aBB f ad ab i).length cq2) (ss++acc++aBB f ad ab i),bk rb #[vL p60 l60.length cc60,vI en,vL q2 (ss++acc++aBB f ad ab i).length cq2] 170]→ao=n-i→aUI Φ (some (14,0)) [(72,vI (i:Int)),(71,vI (n:Int)),(7,vI ab),(5,vI ad),(4,vI t),(3,vI f),(0,vP rb 0)] w2:=by
     refine aAG fun ao bb i q2 cq2 w2 hi hM ci=>seg 14 1 [(73,vB (decide ((i:Int)<(n:Int))))] f0 ?_
     cases h66:(decide ((i:Int)<(n:Int)))
     rotate_left
     ·have bc:=dt h66
      refine aAO 17 7 87 [(80,vP rb 0),(83,vI ((((f+(i:Int))%7)*1440)+ad)),(86,vI ((((f+(i:Int))%7)*1440)+ab))] (K:=fun u Mn=>u = .tuple #[]∧∃ q2 c2,Mn=[bk rb #[vL p60 l60.length cc60,vI en,vL q2 ((ss++acc++aBB f ad ab i)++aCZ ((((f+(i:Int))%7)*1440)+ad) ((((f+(i:Int))%7)*1440)+ab)).length c2] 170,rw_ spL 2 141 (vL q2 ((ss++acc++aBB f ad ab i)++aCZ ((((f+(i:Int))%7)*1440)+ad) ((((f+(i:Int))%7)*1440)+ab)).length c2) ((ss++acc++aBB f ad ab i)++aCZ ((((f+(i:Int))%7)*1440)+ad) ((((f+(i:Int))%7)*1440)+ab))]) [0] [2,1] (fc (aAe f (i:Int) u3_) (fc (aNB (f+(i:Int)) 7 u3_) (fc (aHX ((f+(i:Int))%7) 1440 u3_) (fc (aAe (((f+(i:Int))%7)*1440) ad u3_) (fc (aAe (((f+(i:Int))%7)*1440) ab u3_) f0))))) hM rfl rfl (by decide) (fun hm=>aDQ (by omega) (by omega) (by have:=aCn f ad ab i;simp only [List.length_append];omega) hm) fun u Mn w1 hK hM=>?_
      obtain ⟨rfl,be,bf,rfl⟩:=hK
      refine seg 14 0 [(72,vI ((i:Int)+1))] (fc (aAe (i:Int) 1 u3_) f0) ?_
      have e9:((ss++acc++aBB f ad ab i)++aCZ ((((f+(i:Int))%7)*1440)+ad) ((((f+(i:Int))%7)*1440)+ab))=ss++acc++aBB f ad ab (i+1):=by rw [aDO,tm7 hf0.1,←List.append_assoc]
      rw [e9] at hM
      exact aAb _ (bb _ (by omega) (i+1) be bf _ (by omega) (hM.pick [0,2,1]) rfl)
     have bc:=df h66
     have hti:aDv en f t l = .ok ((aBB f ad ab n),l60):=(by unfold aDv;rw [hck57];simp only;rw [htk59];simp only;rw [hck60];simp only;rw [if_neg (by rw [h61];simp),if_neg (of_decide_eq_false h62),aNw hf0.1 hf0.2 ht0.1 ht0.2,show (t-f+7)%7+1=(n:Int) from hnn];rfl)
     have hie:i=n:=by omega
     rw [hie] at hM
     replace hM:Mm G w _ [bk bd (aDu.map fun l=>Value.string (ofL l)).toArray 9,_,bk rb #[vL p60 l60.length cc60,vI en,vL q2 (ss++acc++(aBB f ad ab n)).length cq2] 170]:=hM
     refine aAq 19 3 92 [(91,vP rb 0)] (cs:=#[vS [44]]) (T:=9) (v:=fun b=>vL (some ⟨b,0,none⟩) 1 1) f0 hM fun cj w1 hM=>aAr 19 4 93 [] f0 hM (aBs (xs:=[aAV]) (hM.get 2 rfl) (aAK hs60 hM.fr hG) (StV.one (hM.get 3 rfl)) 4) fun w1 hM=>seg 19 7 [(95,vB (!(aBA 4 [aAV] l60)))] f0 ?_
     cases h68:(aBA 4 [aAV] l60)
     ·rw [List.append_assoc] at hM
      exact rt0 rfl f0 (hΦ _ _ (by rw [hP,aAJ hti (aFX h68)];exact ⟨rfl,_,_,_,_,hB60,hM.pick [2,1]⟩))
     refine seg 19 16 [(104,vB (decide ((l60.length:Int)<2)))] (fc (ldm 130 2 0 hM rfl rfl) f0) ?_
     cases h69:(decide ((l60.length:Int)<2))
     rotate_left
     ·have bg:=dt h69
      rw [List.append_assoc] at hM
      exact rt0 rfl f0 (hΦ _ _ (by rw [hP,aAJ hti (aDZ (by omega))];exact ⟨rfl,_,_,_,_,hB60,hM.pick [2,1]⟩))
     have bg:=df h69
     obtain ⟨y70,ag,ck,cm,q70,bh,n70⟩:=(hs60).eb hG (i:=1) (by omega)
     refine seg 19 26 [(114,vB (!(y70.1==2)))] (fc (ldm 130 2 0 hM rfl rfl) (fc (ix 130 cc60 q70 (gl ag)) (fc (ld0 3 hM (bh 0 _ rfl) n70) f0))) ?_
     cases h71:(y70.1==2)
     ·rw [List.append_assoc] at hM
      exact rt0 rfl f0 (hΦ _ _ (by rw [hP,aAJ hti ((by rw [aDG ag,h71,Bool.and_false]))];exact ⟨rfl,_,_,_,_,hB60,hM.pick [2,1]⟩))
     have hmo:more l60=true:=by rw [aDG ag,h68,h71];rfl
     rcases htk72:take en 4 ([]:List Bys) l60 with ⟨c72,x72⟩ | ⟨t72,l72⟩
     · exfalso;obtain ⟨t9,l9,h9,_⟩:=aC8 (en:=en) h68;rw [h9] at htk72;cases htk72
     refine aAO 20 3 118 [(117,vP rb 0)] (K:=fun u Mn=>u=vA (tkL t72)∧∃ p' c',aAs B p60 cc60 l60 p' c' l72∧Mn=[bk rb #[vL p' l72.length c',vI en,vL q2 (ss++acc++(aBB f ad ab n)).length cq2] 170]) [0,1,3] [2] f0 hM rfl rfl (by decide) (fun hm=>(aAn (xs:=([]:List Bys)) hm (aAK hs60 hM.fr hG) (fun k h=>by rw [aE5 (b:=rb) rfl h];exact hrB) aCg 4).mono fun e w8 h=>by unfold aBv at h;rw [htk72] at h;obtain ⟨h1,p',c',h2,h3⟩:=h;exact ⟨_,_,h1,⟨rfl,p',c',h2,rfl⟩,h3⟩) fun u Mn w1 hK hM=>?_
     obtain ⟨rfl,p72,cc72,hb72,rfl⟩:=hK
     have hs72:=hb72 _ hs60
     have hB72:aAs B p c ts p72 cc72 l72:=fun w1 h=>hb72 w1 (hB60 w1 h)
     obtain ⟨hto72,hkd72,hk⟩:=aAH hk htk72
     have htl72:l60=t72::l72:=(aAY htk72).1
     refine seg 6 0 [] f0 ?_
     have hPn:part en ts=pre (acc++(aBB f ad ab n)) (aBZ en f t l72):=by rw [hP,aDa hti hmo,htl72];rfl
     have hl9:=aCF hti
     have hl8:l60.length=l72.length+1:=by rw [htl72];rfl
     have hdn:=aCn f ad ab n
     rw [List.append_assoc] at hM
     exact aAb _ (an _ (by omega) l72 (acc++(aBB f ad ab n)) p72 cc72 q2 cq2 _ (hs72) (hB72) hk hPn (by simp only [List.length_append];omega) (hM.pick [0,1,3]) rfl)
    exact aAb _ (ba _ 0 q cq _ (Nat.zero_le _) (hM.cast (by simp only [show aBB f ad ab 0=[] from rfl,List.append_nil])) rfl)
   have a9:=dt h62
   refine seg 14 0 [(7,vI (ab+1440)),(71,vI ((((t-f)+7)%7)+1)),(72,vI 0)] (fc (aAe ab 1440 u3_) (fc (aBq t f u3_) (fc (aAe (t-f) 7 u3_) (fc (aNB ((t-f)+7) 7 u3_) (fc (aAe (((t-f)+7)%7) 1 u3_) f0))))) ?_
   obtain ⟨n,hn⟩:∃ n:Nat,n=((t-f+7)%7+1).toNat:=⟨_,rfl⟩
   have hnn:((((t-f)+7)%7)+1)=(n:Int):=by omega
   have hn7:n≤7:=by omega
   rw [hnn]
   have hM:Mm G w _ [bk bd (aDu.map fun l=>Value.string (ofL l)).toArray 9,rw_ spL 2 141 (vL q (ss++acc).length cq) (ss++acc),bk rb #[vL p60 l60.length cc60,vI en,vL q (ss++acc).length cq] 170]:=(hM.pick [0,1,3])
   have bi:∀ (ap:Nat) (i:Nat) (q2:Option Addr) (cq2:Nat) (w2:World),i≤n→Mm G w w2 [bk bd (aDu.map fun l=>Value.string (ofL l)).toArray 9,rw_ spL 2 141 (vL q2 (ss++acc++aBB f ad (ab+1440) i).length cq2) (ss++acc++aBB f ad (ab+1440) i),bk rb #[vL p60 l60.length cc60,vI en,vL q2 (ss++acc++aBB f ad (ab+1440) i).length cq2] 170]→ap=n-i→aUI Φ (some (14,0)) [(72,vI (i:Int)),(71,vI (n:Int)),(7,vI (ab+1440)),(5,vI ad),(4,vI t),(3,vI f),(0,vP rb 0)] w2:=by
    refine aAG fun ap bj i q2 cq2 w2 hi hM co=>seg 14 1 [(73,vB (decide ((i:Int)<(n:Int))))] f0 ?_
    cases h77:(decide ((i:Int)<(n:Int)))
    rotate_left
    ·have bl:=dt h77
     refine aAO 17 7 87 [(80,vP rb 0),(83,vI ((((f+(i:Int))%7)*1440)+ad)),(86,vI ((((f+(i:Int))%7)*1440)+(ab+1440)))] (K:=fun u Mn=>u = .tuple #[]∧∃ q2 c2,Mn=[bk rb #[vL p60 l60.length cc60,vI en,vL q2 ((ss++acc++aBB f ad (ab+1440) i)++aCZ ((((f+(i:Int))%7)*1440)+ad) ((((f+(i:Int))%7)*1440)+(ab+1440))).length c2] 170,rw_ spL 2 141 (vL q2 ((ss++acc++aBB f ad (ab+1440) i)++aCZ ((((f+(i:Int))%7)*1440)+ad) ((((f+(i:Int))%7)*1440)+(ab+1440))).length c2) ((ss++acc++aBB f ad (ab+1440) i)++aCZ ((((f+(i:Int))%7)*1440)+ad) ((((f+(i:Int))%7)*1440)+(ab+1440)))]) [0] [2,1] (fc (aAe f (i:Int) u3_) (fc (aNB (f+(i:Int)) 7 u3_) (fc (aHX ((f+(i:Int))%7) 1440 u3_) (fc (aAe (((f+(i:Int))%7)*1440) ad u3_) (fc (aAe (((f+(i:Int))%7)*1440) (ab+1440) u3_) f0))))) hM rfl rfl (by decide) (fun hm=>aDQ (by omega) (by omega) (by have:=aCn f ad (ab+1440) i;simp only [List.length_append];omega) hm) fun u Mn w1 hK hM=>?_
     obtain ⟨rfl,bm,bo,rfl⟩:=hK
     refine seg 14 0 [(72,vI ((i:Int)+1))] (fc (aAe (i:Int) 1 u3_) f0) ?_
     have e9:((ss++acc++aBB f ad (ab+1440) i)++aCZ ((((f+(i:Int))%7)*1440)+ad) ((((f+(i:Int))%7)*1440)+(ab+1440)))=ss++acc++aBB f ad (ab+1440) (i+1):=by rw [aDO,tm7 hf0.1,←List.append_assoc]
     rw [e9] at hM
     exact aAb _ (bj _ (by omega) (i+1) bm bo _ (by omega) (hM.pick [0,2,1]) rfl)
    have bl:=df h77
    have hti:aDv en f t l = .ok ((aBB f ad (ab+1440) n),l60):=(by unfold aDv;rw [hck57];simp only;rw [htk59];simp only;rw [hck60];simp only;rw [if_neg (by rw [h61];simp),if_pos (of_decide_eq_true h62),aNw hf0.1 hf0.2 ht0.1 ht0.2,show (t-f+7)%7+1=(n:Int) from hnn];rfl)
    have hie:i=n:=by omega
    rw [hie] at hM
    replace hM:Mm G w _ [bk bd (aDu.map fun l=>Value.string (ofL l)).toArray 9,_,bk rb #[vL p60 l60.length cc60,vI en,vL q2 (ss++acc++(aBB f ad (ab+1440) n)).length cq2] 170]:=hM
    refine aAq 19 3 92 [(91,vP rb 0)] (cs:=#[vS [44]]) (T:=9) (v:=fun b=>vL (some ⟨b,0,none⟩) 1 1) f0 hM fun cp w1 hM=>aAr 19 4 93 [] f0 hM (aBs (xs:=[aAV]) (hM.get 2 rfl) (aAK hs60 hM.fr hG) (StV.one (hM.get 3 rfl)) 4) fun w1 hM=>seg 19 7 [(95,vB (!(aBA 4 [aAV] l60)))] f0 ?_
    cases h79:(aBA 4 [aAV] l60)
    ·rw [List.append_assoc] at hM
     exact rt0 rfl f0 (hΦ _ _ (by rw [hP,aAJ hti (aFX h79)];exact ⟨rfl,_,_,_,_,hB60,hM.pick [2,1]⟩))
    refine seg 19 16 [(104,vB (decide ((l60.length:Int)<2)))] (fc (ldm 130 2 0 hM rfl rfl) f0) ?_
    cases h80:(decide ((l60.length:Int)<2))
    rotate_left
    ·have bp:=dt h80
     rw [List.append_assoc] at hM
     exact rt0 rfl f0 (hΦ _ _ (by rw [hP,aAJ hti (aDZ (by omega))];exact ⟨rfl,_,_,_,_,hB60,hM.pick [2,1]⟩))
    have bp:=df h80
    obtain ⟨y81,ah,cr,ct,q81,bq,n81⟩:=(hs60).eb hG (i:=1) (by omega)
    refine seg 19 26 [(114,vB (!(y81.1==2)))] (fc (ldm 130 2 0 hM rfl rfl) (fc (ix 130 cc60 q81 (gl ah)) (fc (ld0 3 hM (bq 0 _ rfl) n81) f0))) ?_
    cases h82:(y81.1==2)
    ·rw [List.append_assoc] at hM
     exact rt0 rfl f0 (hΦ _ _ (by rw [hP,aAJ hti ((by rw [aDG ah,h82,Bool.and_false]))];exact ⟨rfl,_,_,_,_,hB60,hM.pick [2,1]⟩))
    have hmo:more l60=true:=by rw [aDG ah,h79,h82];rfl
    rcases htk83:take en 4 ([]:List Bys) l60 with ⟨c83,x83⟩ | ⟨t83,l83⟩
    · exfalso;obtain ⟨t9,l9,h9,_⟩:=aC8 (en:=en) h79;rw [h9] at htk83;cases htk83
    refine aAO 20 3 118 [(117,vP rb 0)] (K:=fun u Mn=>u=vA (tkL t83)∧∃ p' c',aAs B p60 cc60 l60 p' c' l83∧Mn=[bk rb #[vL p' l83.length c',vI en,vL q2 (ss++acc++(aBB f ad (ab+1440) n)).length cq2] 170]) [0,1,3] [2] f0 hM rfl rfl (by decide) (fun hm=>(aAn (xs:=([]:List Bys)) hm (aAK hs60 hM.fr hG) (fun k h=>by rw [aE5 (b:=rb) rfl h];exact hrB) aCg 4).mono fun e w8 h=>by unfold aBv at h;rw [htk83] at h;obtain ⟨h1,p',c',h2,h3⟩:=h;exact ⟨_,_,h1,⟨rfl,p',c',h2,rfl⟩,h3⟩) fun u Mn w1 hK hM=>?_
    obtain ⟨rfl,p83,cc83,hb83,rfl⟩:=hK
    have hs83:=hb83 _ hs60
    have hB83:aAs B p c ts p83 cc83 l83:=fun w1 h=>hb83 w1 (hB60 w1 h)
    obtain ⟨hto83,hkd83,hk⟩:=aAH hk htk83
    have htl83:l60=t83::l83:=(aAY htk83).1
    refine seg 6 0 [] f0 ?_
    have hPn:part en ts=pre (acc++(aBB f ad (ab+1440) n)) (aBZ en f t l83):=by rw [hP,aDa hti hmo,htl83];rfl
    have hl9:=aCF hti
    have hl8:l60.length=l83.length+1:=by rw [htl83];rfl
    have hdn:=aCn f ad (ab+1440) n
    rw [List.append_assoc] at hM
    exact aAb _ (an _ (by omega) l83 (acc++(aBB f ad (ab+1440) n)) p83 cc83 q2 cq2 _ (hs83) (hB83) hk hPn (by simp only [List.length_append];omega) (hM.pick [0,1,3]) rfl)
   exact aAb _ (bi _ 0 q cq _ (Nat.zero_le _) (hM.cast (by simp only [show aBB f ad (ab+1440) 0=[] from rfl,List.append_nil])) rfl)
  exact aAb _ (a8 _ l53 [] p53 cc53 q cq _ (hs53) (hB53) hk hP (by simp only [List.length_nil];omega) (hM.cast (by simp only [List.append_nil])) rfl)
section
variable {α:Type}{en:α}
def aEM (en:α) (l:List (Tok α)):Res α (List Sp×List (Tok α)):=aC4 en (l.length+1) l
def aNx (en:α) (acc:List Sp) (l:List (Tok α)):Res α (List Sp×List (Tok α)):=if aBA 4 [aAV] l=true then pre acc (aEM en (l.drop 1)) else .ok (acc,l)
theorem aHA {l:List (Tok α)}{e:Int×α}(h:part en l = .error e):aEM en l = .error e:=by
  unfold aEM aC4;rw [h]
theorem aJ7 {l l2:List (Tok α)}{s:List Sp}(h:part en l = .ok (s,l2)):aEM en l=aNx en s l2:=by
  have hl:=aFP h
  unfold aEM aC4 aNx
  rw [h]
  simp only
  split
  · rename_i hs
    have hne:l2≠[]:=by rintro rfl;cases hs
    have hl2:0<l2.length:=List.length_pos_iff.2 hne
    unfold aEM
    rw [aH9 l.length ((l2.drop 1).length+1) (l2.drop 1) (by simp;omega) (by simp)]
    cases aC4 en ((l2.drop 1).length+1) (l2.drop 1)<;>rfl
  · rfl
theorem aRO {acc:List Sp}{l:List (Tok α)}{e:Int×α}(hs:aBA 4 [aAV] l=true) (h:part en (l.drop 1) = .error e):aNx en acc l = .error e:=by
  unfold aNx;rw [if_pos hs,aHA h];rfl
theorem aUw {acc s:List Sp}{l l2:List (Tok α)}(hs:aBA 4 [aAV] l=true) (h:part en (l.drop 1) = .ok (s,l2)):aNx en acc l=aNx en (acc++s) l2:=by
  unfold aNx
  rw [if_pos hs,aJ7 h]
  unfold aNx
  split
  · cases aEM en (l2.drop 1) with
    | error e=>rfl
    | ok r=>simp [pre,List.append_assoc]
  · rfl
theorem aRP {acc:List Sp}{l:List (Tok α)}(hs:aBA 4 [aAV] l=false):aNx en acc l = .ok (acc,l):=by
  unfold aNx;rw [if_neg (by rw [hs];simp)]
def aWE:Res α (List Sp×List (Tok α))→Res α (List Sp×List (Tok α))
  | .error e => .error e
  | .ok (s,[]) => .ok (s,[])
  | .ok (_,t::_) => .error (5,t.2.2)
def aEC (en:α) (ts:List (Tok α)):Res α (List Sp×List (Tok α)):=aWE (aBx en ts)
theorem aHY (ts:List (Tok α)):aED en ts=match aEC en ts with | .error e => .error e | .ok (s,_) => .ok s:=by
  unfold aED aEC
  cases aBx en ts with
  | error e=>rfl
  | ok r =>
    obtain ⟨s,l⟩:=r
    cases l<;>rfl
theorem aGk {ts:List (Tok α)}(h1:aBA 1 [aEo] ts=false) (h2:aBA 1 [aI1] ts=false):aBx en ts=aEM en ts:=by
  unfold aBx;rw [h1,h2];simp [aEM]
end
theorem aSi {w w':World}{F:Nat→Prop}{n:String}{cs:Array Value}{g:Nat}(hg:Tryz.prog.globalNamed n=some g) (h:w.var? Tryz.prog n=some cs) (f:Fr F w w') (hF:¬ F g):w'.var? Tryz.prog n=some cs:=by
  unfold World.var? at h ⊢
  rw [hg] at h ⊢
  simp only [Option.bind_some] at h ⊢
  cases hb:w.heap[g]? with
  | none=>rw [hb] at h;cases h
  | some ob=>rw [f.obj hb hF,←hb];exact h
theorem Tb.fr {w w':World}{F:Nat→Prop}(h:Tb w) (f:Fr F w w') (hF:∀ r,r<5→¬ F r):Tb w' :=
  ⟨aSi (g:=4) (by kernel_rfl) h.1 f (hF _ (by decide)),aSi (g:=3) (by kernel_rfl) h.2 f (hF _ (by decide))⟩
theorem aMt {f n a b:Int}(h:n≤7):(aJU f n a b).length≤14:=by
  have h6:=aCn f a b n.toNat
  have h7:aJU f n a b=aBB f a b n.toNat:=rfl
  rw [h7];omega
theorem aLQ {en:Int}{ts l:List (Tok Int)}{s:List Sp}(hk:Tk ts) (h:part en ts = .ok (s,l)):s.length+14*l.length≤14*ts.length∧l.length<ts.length:=by
  have ht:∀ {f t:Int}{ts l:List (Tok Int)}{s:List Sp},0≤f→f<7→0≤t→t<7→aDv en f t ts = .ok (s,l)→s.length+14*l.length≤14*ts.length:=by
    intro f t ts l s h1 h2 h3 h4 h
    have hl:=aCF h
    have:s.length≤14:=by
      unfold aDv at h
      split at h
      · cases h
      · split at h
        · cases h
        · split at h
          · cases h
          · split at h
            · cases h
            · cases h
              exact aMt (by rw [aNw h1 h2 h3 h4];omega)
    omega
  have hts:∀ {f t:Int},0≤f→f<7→0≤t→t<7→∀ (n:Nat) {ts l:List (Tok Int)}{s:List Sp},aCl en f t n ts = .ok (s,l)→s.length+14*l.length≤14*ts.length:=by
    intro f t h1 h2 h3 h4 n
    induction n with
    | zero=>intro ts l s h;cases h
    | succ n ih =>
      intro ts l s h
      unfold aCl at h
      split at h
      · cases h
      · rename_i s1 ts1 he
        have:=ht h1 h2 h3 h4 he
        split at h
        · split at h
          · cases h
          · rename_i s2 ts2 he2
            have h5:=ih he2
            cases h
            simp only [List.length_append,List.length_drop] at h5 ⊢
            omega
        · cases h;exact this
  refine ⟨?_,aFP h⟩
  unfold part at h
  split at h
  · cases h
  · rename_i a b ts1 he
    obtain ⟨h1,h2,h3,h4,_⟩:=aPH hk he
    have:=aGN he
    have:=hts h1 h2 h3 h4 _ h
    omega
theorem Tb.lt {w:World}(h:Tb w):5≤w.heap.size:=by
  have h1:=h.1
  unfold Lib.TabIs World.var? at h1
  have hg:Tryz.prog.globalNamed "internal/strconv.uint64pow10" = some 4:=by kernel_rfl
  rw [hg] at h1
  simp only [Option.bind_some] at h1
  cases hb:w.heap[4]? with
  | none=>rw [hb] at h1;cases h1
  | some ob=>exact aAj hb
theorem _root_.Go.Pl.Mm.low {F0:Nat→Prop}{w0 w:World}{M Ms:List Ent}(h:Mm F0 w0 w M) {B:Nat}(hG:∀ k,F0 k→B≤k) (hB:B≤w0.heap.size) {js:List Nat}(hs:aBH M js=Ms) (hn:js.Nodup):∀ k,BlM Ms k→B≤k:=fun k ⟨e,he,hb⟩=>by
  rcases Nat.lt_or_ge k w0.heap.size with h9 | h9
  · exact hG k ((h.pick js hs hn).own e he k hb h9)
  · omega
theorem aLb {α:Type}{s:List Sp}{l:List (Tok α)}{t:Tok α}(h:l[0]?=some t):aWE (.ok (s,l)) = .error (5,t.2.2):=by
  cases l with
  | nil=>cases h
  | cons a l=>cases h;rfl
theorem aLa {α:Type}{s:List Sp}{l:List (Tok α)}(h:l=[]):aWE (.ok (s,l)) = .ok (s,l):=by subst h;rfl
abbrev A95 (Φ:Ending→World→Prop):=AtO Tryz.prog (aAf Tryz.f95) (aAo (bodyPost Tryz.prog Tryz.f95 Φ)) [] 54
theorem aHv {w:World}{G:Nat→Prop}{B rb c cq:Nat}{p q:Option Addr}{en:Int}{ts:List (Tok Int)}{ss:List Sp}(hM0:Mm G w w [bk rb #[vL p ts.length c,vI en,vL q ss.length cq] 170,rw_ spL 2 141 (vL q ss.length cq) ss]) (hs:SrcB tkL 3 w B p c ts) (hG:∀ k,G k→B≤k) (hr4:5≤B) (hk:Tk ts) (hT:Tb w) (hlen:ss.length+14*ts.length≤100000000):Calls Tryz.prog 95 #[vP rb 0] w fun e w'=>aKj w G B rb en ss p c ts (aEC en ts) e w':=by
  refine beg Tryz.func95 rfl rfl [(0,vP rb 0)] rfl rfl fun Φ hΦ=>?_
  have hM:=hM0
  have hrB:B≤rb:=hG rb (hM0.own _ (.head _) rb rfl (aAj (hM0.get 0 rfl)))
  have hB0:aAs B p c ts p c ts:=fun _ h=>h
  have hBw:B≤w.heap.size:=by have:=aAj (hM0.get 0 rfl);omega
  refine aAq 4 3 19 [(18,vP rb 0)] (cs:=#[vS [97,108,119,97,121,115]]) (T:=9) (v:=fun b=>vL (some ⟨b,0,none⟩) 1 1) f0 hM fun aq w1 hM=>aAr 4 4 20 [] f0 hM (aBs (xs:=[aEo]) (hM.get 0 rfl) (aAK hs hM.fr hG) (StV.one (hM.get 2 rfl)) 1) fun w1 hM=>seg 4 6 [(15,vB (aBA 1 [aEo] ts))] f0 ?_
  cases h19:(aBA 1 [aEo] ts)
  rotate_left
  ·rcases htk35:take en 1 ([]:List Bys) ts with ⟨c35,x35⟩ | ⟨t35,l35⟩
   · exfalso;obtain ⟨t9,l9,h9,_⟩:=aC8 (en:=en) h19;rw [h9] at htk35;cases htk35
   refine aAO 5 3 24 [(23,vP rb 0)] (K:=fun u Mn=>u=vA (tkL t35)∧∃ p' c',aAs B p c ts p' c' l35∧Mn=[bk rb #[vL p' l35.length c',vI en,vL q ss.length cq] 170]) [1,2] [0] f0 hM rfl rfl (by decide) (fun hm=>(aAn (xs:=([]:List Bys)) hm (aAK hs hM.fr hG) (fun k h=>by rw [aE5 (b:=rb) rfl h];exact hrB) aCg 1).mono fun e w8 h=>by unfold aBv at h;rw [htk35] at h;obtain ⟨h1,p',c',h2,h3⟩:=h;exact ⟨_,_,h1,⟨rfl,p',c',h2,rfl⟩,h3⟩) fun u Mn w1 hK hM=>?_
   obtain ⟨rfl,p35,cc35,hb35,rfl⟩:=hK
   have hs35:=hb35 _ hs
   have hB35:aAs B p c ts p35 cc35 l35:=fun w1 h=>hb35 w1 (hB0 w1 h)
   obtain ⟨hto35,hkd35,hk⟩:=aAH hk htk35
   have htl35:ts=t35::l35:=(aAY htk35).1
   refine aAO 6 1 26 [(25,vP rb 0)] (K:=fun u Mn=>u = .tuple #[]∧∃ q2 c2,Mn=[bk rb #[vL p35 l35.length cc35,vI en,vL q2 (ss++aCZ 0 10080).length c2] 170,rw_ spL 2 141 (vL q2 (ss++aCZ 0 10080).length c2) (ss++aCZ 0 10080)]) [1] [2,0] f0 hM rfl rfl (by decide) (fun hm=>aDQ (by omega) (by omega) (by omega) hm) fun u Mn w1 hK hM=>?_
   obtain ⟨rfl,ar,au,rfl⟩:=hK
   have hQ9:aBx en ts = .ok (aCZ 0 10080,l35):=by unfold aBx;rw [if_pos h19,htl35];rfl
   refine seg 9 7 [(43,vB (decide (0<(l35.length:Int))))] (fc (ldm 130 1 0 hM rfl rfl) f0) ?_
   cases h37:(decide (0<(l35.length:Int)))
   ·have ag:=df h37
    have hnil:l35=[]:=List.eq_nil_of_length_eq_zero (by omega)
    exact rt0 rfl f0 (hΦ _ _ (by unfold aEC;rw [hQ9,aLa hnil];exact ⟨rfl,_,_,_,_,hB35,hM.pick [1,2]⟩))
   have ag:=dt h37
   obtain ⟨y38,ac,av,aw,q38,ah,n38⟩:=(hs35).eb hG (i:=0) (by omega)
   exact pan 10 10 [(53,aIX 5 y38.2.2)] 165 (.agg #[vI 5,vI y38.2.2]) (fc (ldm 130 1 0 hM rfl rfl) (fc (ix 130 cc35 q38 (gl ac)) (fc (ld0 3 hM (ah 2 _ rfl) n38) f0))) hM (fun a f9 hd=>pn_ (P:=Tryz.prog) (fn:=Tryz.f95) hd (hΦ _ _ ((by unfold aEC;rw [hQ9,aLb ac];exact ⟨rfl,f9⟩))))
  refine aAq 7 3 31 [(30,vP rb 0)] (cs:=#[vS [110,101,118,101,114]]) (T:=9) (v:=fun b=>vL (some ⟨b,0,none⟩) 1 1) f0 hM fun ax w1 hM=>aAr 7 4 32 [] f0 hM (aBs (xs:=[aI1]) (hM.get 0 rfl) (aAK hs hM.fr hG) (StV.one (hM.get 3 rfl)) 1) fun w1 hM=>seg 7 6 [(27,vB (aBA 1 [aI1] ts))] f0 ?_
  cases h21:(aBA 1 [aI1] ts)
  rotate_left
  ·rcases htk32:take en 1 ([]:List Bys) ts with ⟨c32,x32⟩ | ⟨t32,l32⟩
   · exfalso;obtain ⟨t9,l9,h9,_⟩:=aC8 (en:=en) h21;rw [h9] at htk32;cases htk32
   refine aAO 8 3 36 [(35,vP rb 0)] (K:=fun u Mn=>u=vA (tkL t32)∧∃ p' c',aAs B p c ts p' c' l32∧Mn=[bk rb #[vL p' l32.length c',vI en,vL q ss.length cq] 170]) [1,2,3] [0] f0 hM rfl rfl (by decide) (fun hm=>(aAn (xs:=([]:List Bys)) hm (aAK hs hM.fr hG) (fun k h=>by rw [aE5 (b:=rb) rfl h];exact hrB) aCg 1).mono fun e w8 h=>by unfold aBv at h;rw [htk32] at h;obtain ⟨h1,p',c',h2,h3⟩:=h;exact ⟨_,_,h1,⟨rfl,p',c',h2,rfl⟩,h3⟩) fun u Mn w1 hK hM=>?_
   obtain ⟨rfl,p32,cc32,hb32,rfl⟩:=hK
   have hs32:=hb32 _ hs
   have hB32:aAs B p c ts p32 cc32 l32:=fun w1 h=>hb32 w1 (hB0 w1 h)
   obtain ⟨hto32,hkd32,hk⟩:=aAH hk htk32
   have htl32:ts=t32::l32:=(aAY htk32).1
   have hQ9:aBx en ts = .ok (([]:List Sp),l32):=by unfold aBx;rw [if_neg (by rw [h19];simp),if_pos h21,htl32];rfl
   refine seg 9 7 [(43,vB (decide (0<(l32.length:Int))))] (fc (ldm 130 3 0 hM rfl rfl) f0) ?_
   cases h33:(decide (0<(l32.length:Int)))
   ·have ai:=df h33
    have hnil:l32=[]:=List.eq_nil_of_length_eq_zero (by omega)
    exact rt0 rfl f0 (hΦ _ _ (by unfold aEC;rw [hQ9,aLa hnil];exact ⟨rfl,_,_,_,_,hB32,(by rw [List.append_nil];exact hM.pick [3,0])⟩))
   have ai:=dt h33
   obtain ⟨y34,ad,ay,az,q34,aj,n34⟩:=(hs32).eb hG (i:=0) (by omega)
   exact pan 10 10 [(53,aIX 5 y34.2.2)] 165 (.agg #[vI 5,vI y34.2.2]) (fc (ldm 130 3 0 hM rfl rfl) (fc (ix 130 cc32 q34 (gl ad)) (fc (ld0 3 hM (aj 2 _ rfl) n34) f0))) hM (fun a f9 hd=>pn_ (P:=Tryz.prog) (fn:=Tryz.f95) hd (hΦ _ _ ((by unfold aEC;rw [hQ9,aLb ad];exact ⟨rfl,f9⟩))))
  have hTn22:Tb _:=hT.fr hM.fr fun k hk e=>by have:=hG k e;omega
  rcases hpt22:part en ts with ⟨c22,x22⟩ | ⟨s22,l22⟩
  · exact aN2 0 1 3 [(2,vP rb 0)] [0,1] f0 hM rfl (by decide) (fun hm=>(aDW (ss:=ss) hm (aAK hs hM.fr hG) (hM.low hG hBw (js:=[0,1]) rfl (by decide)) hk hTn22 (by omega)).mono fun e w8 h=>by unfold aKj at h;rw [hpt22] at h;exact h) (fun a w9 f9 hd=>pn_ (P:=Tryz.prog) (fn:=Tryz.f95) hd (hΦ _ _ ((by unfold aEC;rw [aGk h19 h21,aHA hpt22];exact ⟨rfl,f9⟩))))
  refine aAO 0 1 3 [(2,vP rb 0)] (K:=fun u Mn=>u = .tuple #[]∧∃ p' c' q' cq',aAs B p c ts p' c' l22∧Mn=[bk rb #[vL p' l22.length c',vI en,vL q' (ss++s22).length cq'] 170,rw_ spL 2 141 (vL q' (ss++s22).length cq') (ss++s22)]) [2,3] [0,1] f0 hM rfl rfl (by decide) (fun hm=>(aDW (ss:=ss) hm (aAK hs hM.fr hG) (hM.low hG hBw (js:=[0,1]) rfl (by decide)) hk hTn22 (by omega)).mono fun e w8 h=>by unfold aKj at h;rw [hpt22] at h;obtain ⟨h1,p',c',q',cq',h2,h3⟩:=h;exact ⟨_,_,h1,⟨rfl,p',c',q',cq',h2,rfl⟩,h3⟩) fun u Mn w1 hK hM=>?_
  obtain ⟨rfl,p22,cc22,aa,ab,hb22,rfl⟩:=hK
  have hs22:=hb22 _ hs
  have hB22:aAs B p c ts p22 cc22 l22:=fun w1 h=>hb22 w1 (hB0 w1 h)
  have hpc22:=aLQ hk hpt22
  have hk:=(aIp hk hpt22).2
  have hQ:aBx en ts=aNx en s22 l22:=by rw [aGk h19 h21,aJ7 hpt22]
  have hM:Mm G w _ [rw_ spL 2 141 (vL aa (ss++s22).length ab) (ss++s22),bk rb #[vL p22 l22.length cc22,vI en,vL aa (ss++s22).length ab] 170]:=(hM.pick [3,2])
  refine seg 1 0 [] f0 ?_
  have ak:∀ (ae:Nat) (l:List (Tok Int)) (acc:List Sp) (pl:Option Addr) (cl:Nat) (q:Option Addr) (cq:Nat) (w2:World),SrcB tkL 3 w B pl cl l→aAs B p c ts pl cl l→Tk l→aBx en ts=aNx en acc l→acc.length+14*l.length≤14*ts.length→Mm G w w2 [rw_ spL 2 141 (vL q (ss++acc).length cq) (ss++acc),bk rb #[vL pl l.length cl,vI en,vL q (ss++acc).length cq] 170]→ae=l.length→A95 Φ (some (1,0)) [(0,vP rb 0)] w2:=by
   refine aAG fun ae al l acc pl cl q cq w2 hs2 hB2 hk hQ hal hM a0=>aAq 1 3 7 [(6,vP rb 0)] (cs:=#[vS [44]]) (T:=9) (v:=fun b=>vL (some ⟨b,0,none⟩) 1 1) f0 hM fun a1 w1 hM=>aAr 1 4 8 [] f0 hM (aBs (xs:=[aAV]) (hM.get 1 rfl) (aAK hs2 hM.fr hG) (StV.one (hM.get 2 rfl)) 4) fun w1 hM=>?_
   cases h27:(aBA 4 [aAV] l)
   ·have hQ9:aBx en ts = .ok (acc,l):=by rw [hQ];exact aRP h27
    refine seg 9 7 [(43,vB (decide (0<(l.length:Int))))] (fc (ldm 130 1 0 hM rfl rfl) f0) ?_
    cases h28:(decide (0<(l.length:Int)))
    ·have am:=df h28
     have hnil:l=[]:=List.eq_nil_of_length_eq_zero (by omega)
     exact rt0 rfl f0 (hΦ _ _ (by unfold aEC;rw [hQ9,aLa hnil];exact ⟨rfl,_,_,_,_,hB2,hM.pick [1,0]⟩))
    have am:=dt h28
    obtain ⟨y29,af,a2,a3,q29,an,n29⟩:=(hs2).eb hG (i:=0) (by omega)
    exact pan 10 10 [(53,aIX 5 y29.2.2)] 165 (.agg #[vI 5,vI y29.2.2]) (fc (ldm 130 1 0 hM rfl rfl) (fc (ix 130 cl q29 (gl af)) (fc (ld0 3 hM (an 2 _ rfl) n29) f0))) hM (fun a f9 hd=>pn_ (P:=Tryz.prog) (fn:=Tryz.f95) hd (hΦ _ _ ((by unfold aEC;rw [hQ9,aLb af];exact ⟨rfl,f9⟩))))
   rcases htk30:take en 4 ([]:List Bys) l with ⟨c30,x30⟩ | ⟨t30,l30⟩
   · exfalso;obtain ⟨t9,l9,h9,_⟩:=aC8 (en:=en) h27;rw [h9] at htk30;cases htk30
   refine aAO 2 3 12 [(11,vP rb 0)] (K:=fun u Mn=>u=vA (tkL t30)∧∃ p' c',aAs B pl cl l p' c' l30∧Mn=[bk rb #[vL p' l30.length c',vI en,vL q (ss++acc).length cq] 170]) [0,2] [1] f0 hM rfl rfl (by decide) (fun hm=>(aAn (xs:=([]:List Bys)) hm (aAK hs2 hM.fr hG) (fun k h=>by rw [aE5 (b:=rb) rfl h];exact hrB) aCg 4).mono fun e w8 h=>by unfold aBv at h;rw [htk30] at h;obtain ⟨h1,p',c',h2,h3⟩:=h;exact ⟨_,_,h1,⟨rfl,p',c',h2,rfl⟩,h3⟩) fun u Mn w1 hK hM=>?_
   obtain ⟨rfl,p30,cc30,hb30,rfl⟩:=hK
   have hs30:=hb30 _ hs2
   have hB30:aAs B p c ts p30 cc30 l30:=fun w1 h=>hb30 w1 (hB2 w1 h)
   obtain ⟨hto30,hkd30,hk⟩:=aAH hk htk30
   have htl30:l=t30::l30:=(aAY htk30).1
   have hl6:l.length=l30.length+1:=by rw [htl30];rfl
   have hTn31:Tb _:=hT.fr hM.fr fun k hk e=>by have:=hG k e;omega
   rcases hpt31:part en l30 with ⟨c31,x31⟩ | ⟨s31,l31⟩
   · exact aN2 3 1 14 [(13,vP rb 0)] [2,0] f0 hM rfl (by decide) (fun hm=>(aDW (ss:=(ss++acc)) hm (aAK hs30 hM.fr hG) (hM.low hG hBw (js:=[2,0]) rfl (by decide)) hk hTn31 (by simp only [List.length_append];omega)).mono fun e w8 h=>by unfold aKj at h;rw [hpt31] at h;exact h) (fun a w9 f9 hd=>pn_ (P:=Tryz.prog) (fn:=Tryz.f95) hd (hΦ _ _ ((by unfold aEC;rw [hQ,aRO h27 (by rw [htl30];exact hpt31)];exact ⟨rfl,f9⟩))))
   refine aAO 3 1 14 [(13,vP rb 0)] (K:=fun u Mn=>u = .tuple #[]∧∃ p' c' q' cq',aAs B p30 cc30 l30 p' c' l31∧Mn=[bk rb #[vL p' l31.length c',vI en,vL q' ((ss++acc)++s31).length cq'] 170,rw_ spL 2 141 (vL q' ((ss++acc)++s31).length cq') ((ss++acc)++s31)]) [1] [2,0] f0 hM rfl rfl (by decide) (fun hm=>(aDW (ss:=(ss++acc)) hm (aAK hs30 hM.fr hG) (hM.low hG hBw (js:=[2,0]) rfl (by decide)) hk hTn31 (by simp only [List.length_append];omega)).mono fun e w8 h=>by unfold aKj at h;rw [hpt31] at h;obtain ⟨h1,p',c',q',cq',h2,h3⟩:=h;exact ⟨_,_,h1,⟨rfl,p',c',q',cq',h2,rfl⟩,h3⟩) fun u Mn w1 hK hM=>?_
   obtain ⟨rfl,p31,cc31,ao,ap,hb31,rfl⟩:=hK
   have hs31:=hb31 _ hs30
   have hB31:aAs B p c ts p31 cc31 l31:=fun w1 h=>hb31 w1 (hB30 w1 h)
   have hpc31:=aLQ hk hpt31
   have hk:=(aIp hk hpt31).2
   refine seg 1 0 [] f0 ?_
   have hQn:aBx en ts=aNx en (acc++s31) l31:=by rw [hQ];exact aUw h27 (by rw [htl30];exact hpt31)
   have hl7:l.length=l30.length+1:=by rw [htl30];rfl
   rw [List.append_assoc ss acc] at hM
   exact aAb _ (al _ (by omega) l31 (acc++s31) p31 cc31 ao ap _ (hs31) (hB31) hk hQn (by simp only [List.length_append];omega) (hM.pick [2,1]) rfl)
  exact aAb _ (ak _ l22 s22 p22 cc22 aa ab _ (hs22) (hB22) hk hQ (by omega) hM rfl)
theorem aQ7 {en:Int}{ts l:List (Tok Int)}{s:List Sp}(hk:Tk ts) (h:aEC en ts = .ok (s,l)):s.length≤2*ts.length+2:=by
  have ht:∀ {f t:Int}{ts l:List (Tok Int)}{s:List Sp},0≤f→f<7→0≤t→t<7→aDv en f t ts = .ok (s,l)→s.length+2*l.length≤2*ts.length:=by
    intro f t ts l s h1 h2 h3 h4 h
    have hl:=aCF h
    have:s.length≤14:=by
      unfold aDv at h
      split at h
      · cases h
      · split at h
        · cases h
        · split at h
          · cases h
          · split at h
            · cases h
            · cases h
              exact aMt (by rw [aNw h1 h2 h3 h4];omega)
    omega
  have hts:∀ {f t:Int},0≤f→f<7→0≤t→t<7→∀ (n:Nat) {ts l:List (Tok Int)}{s:List Sp},aCl en f t n ts = .ok (s,l)→s.length+2*l.length≤2*ts.length:=by
    intro f t h1 h2 h3 h4 n
    induction n with
    | zero=>intro ts l s h;cases h
    | succ n ih =>
      intro ts l s h
      unfold aCl at h
      split at h
      · cases h
      · rename_i s1 ts1 he
        have:=ht h1 h2 h3 h4 he
        split at h
        · split at h
          · cases h
          · rename_i s2 ts2 he2
            have h5:=ih he2
            cases h
            simp only [List.length_append,List.length_drop] at h5 ⊢
            omega
        · cases h;exact this
  have hp:∀ {ts l:List (Tok Int)}{s:List Sp},Tk ts→part en ts = .ok (s,l)→s.length+2*l.length≤2*ts.length:=by
    intro ts l s hk h
    unfold part at h
    split at h
    · cases h
    · rename_i a b ts1 he
      obtain ⟨h1,h2,h3,h4,_⟩:=aPH hk he
      have:=aGN he
      have:=hts h1 h2 h3 h4 _ h
      omega
  have hps:∀ (n:Nat) {ts l:List (Tok Int)}{s:List Sp},Tk ts→aC4 en n ts = .ok (s,l)→s.length+2*l.length≤2*ts.length:=by
    intro n
    induction n with
    | zero=>intro ts l s _ h;cases h
    | succ n ih =>
      intro ts l s hk h
      unfold aC4 at h
      split at h
      · cases h
      · rename_i s1 ts1 he
        have h1:=hp hk he
        have k1:=(aIp hk he).2
        split at h
        · split at h
          · cases h
          · rename_i s2 ts2 he2
            have h5:=ih (k1.drop 1) he2
            cases h
            simp only [List.length_append,List.length_drop] at h5 ⊢
            omega
        · cases h;exact h1
  have hq:∀ {l:List (Tok Int)}{s:List Sp},aBx en ts = .ok (s,l)→s.length≤2*ts.length+2:=by
    intro l s h
    unfold aBx at h
    split at h
    · cases h;unfold aCZ;split<;>simp
    · split at h
      · cases h;simp
      · have:=hps _ hk h;omega
  unfold aEC at h
  cases hqq:aBx en ts with
  | error e=>rw [hqq] at h;cases h
  | ok r =>
    obtain ⟨s1,l1⟩:=r
    rw [hqq] at h
    have:=hq hqq
    cases l1 with
    | nil=>cases h;exact this
    | cons t l1=>cases h
abbrev aW3 (fn:Func):Code:=match fn.body with | some (.seq _ y)=>y | _ => .skip
theorem aRR {w:World}{G:Nat→Prop}{b2 b3 b4 m k:Nat}{p:Option Addr}{e0 x0 c x:Int}{Q:Exit→Act→World→Prop}(hM0:Mm G w w [bk b2 #[vL p m k] 48,bk b3 #[vI e0] 32,bk b4 #[vI x0] 3]) (hQ:∀ a w',a.defers=[]→Mm G w w' [bk b2 #[vL none 0 0] 48,bk b3 #[vI c] 32,bk b4 #[vI x] 3]→Q .ret a w'∧Q .normal a w'):AtO Tryz.prog (aW3 Tryz.f94) (aAo Q) [] 14 none [(0,vP b2 0),(1,vP b3 0),(2,vP b4 0),(3,aIX c x)] w:=by
  have hM:=hM0
  refine opp 1 1 7 [(6,aIX c x)] (v:=vB true) f0 (opp 2 1 9 [(8,aIX c x)] (v := .agg #[vI c,vI x]) f0 (aCh 2 2 4 [] [] 165 (.agg #[vI c,vI x]) f0 hM fun aa w1 hM=>seg 3 0 [] f0 (drx [4,5,6] (fun γ=>[none,none,none]) _ (fun γ l=>[bk b2 #[(bif l.getD 0 false then vL none 0 0 else vL p m k)] 48,bk b3 #[(bif l.getD 1 false then vI c else vI e0)] 32,bk b4 #[(bif l.getD 2 false then vI x else vI x0)] 3,bk aa #[vI c,vI x] 165]) (fun γ=>[]) hM (fun γ=>rfl) (fun γ l w5 hM=>(fc (ldm 32 3 0 hM rfl rfl) (fc (ldm 3 3 1 hM rfl rfl) f0))) ⟨aB7 0 4 48 0 0 (fun γ=>b2) (fun γ l=>#[(bif l.getD 0 false then vL none 0 0 else vL p m k)]) 48 (fun γ=>vL none 0 0),aB7 1 5 32 1 0 (fun γ=>b3) (fun γ l=>#[(bif l.getD 1 false then vI c else vI e0)]) 32 (fun γ=>vI c),aB7 2 6 3 2 0 (fun γ=>b4) (fun γ l=>#[(bif l.getD 2 false then vI x else vI x0)]) 3 (fun γ=>vI x),trivial⟩ fun ab w1 hM=>?_)))
  replace hM:Mm G w w1 [bk b2 #[vL none 0 0] 48,bk b3 #[vI c] 32,bk b4 #[vI x] 3,bk aa #[vI c,vI x] 165]:=hM
  exact aNF [] f0 (by kernel_rfl) fun a E=>hQ a _ E.df (hM.pick [0,1,2])
theorem aLn {w:World}{G:Nat→Prop}{b2 b3 b4 m k:Nat}{p:Option Addr}{e0 x0:Int}(c x:Int) (hM0:Mm G w w [bk b2 #[vL p m k] 48,bk b3 #[vI e0] 32,bk b4 #[vI x0] 3]):CallsD Tryz.prog 94 #[vP b2 0,vP b3 0,vP b4 0] (.panicking (pn c x)) w fun e u w'=>e = .returned (.tuple #[])∧u = .panicking [{ v:=aIX c x,recovered:=true }]∧Mm G w w' [bk b2 #[vL none 0 0] 48,bk b3 #[vI c] 32,bk b4 #[vI x] 3]:=by
  refine callsD_of_wpS Tryz.func94 rfl fun c₀ cs hu=>?_
  apply wpS_seq
  apply wpS_region
  simp [wpOpsS,go_sem,recoverD,hu,Tryz.ntmps94,Exit.thenS]
  refine wpS_of_wp ((fun (H:∀ a,EnvS [] 14 [(0,vP b2 0),(1,vP b3 0),(2,vP b4 0),(3,aIX c x)] a→Code.wp Tryz.prog _ _ a w)=>H _ ⟨by rfl,fun s v hs=>by (have hz:=aBl hs;simp at hz;rcases hz with ⟨rfl,rfl⟩ | ⟨rfl,rfl⟩ | ⟨rfl,rfl⟩ | ⟨rfl,rfl⟩<;>rfl),rfl⟩) fun a E=>?_)
  exact wpIn_wide.1 (aRR (Q:=_) hM0 (fun a w' hd h=>by
    have hr:(results Tryz.f94 a.tmps).run Tryz.prog w' = .ok (.tuple #[]) w':=by simp [results,Tryz.results94]
    exact ⟨⟨hd,_,rfl,.tuple #[],hr,rfl,rfl,h⟩,⟨hd,_,rfl,.tuple #[],hr,rfl,rfl,h⟩⟩) a E)
theorem aHK (b2 b3 b4:Nat) (w:World):CallsD Tryz.prog 94 #[vP b2 0,vP b3 0,vP b4 0] .returning w fun e u w'=>e = .returned (.tuple #[])∧u = .returning∧w'=w:=by
  refine callsD_of_wpS Tryz.func94 rfl fun c₀ cs hu=>?_
  apply wpS_seq
  apply wpS_region
  simp [wpOpsS,go_sem,recoverD,hu,Tryz.ntmps94,Exit.thenS]
  apply wpS_seq
  apply wpS_region
  simp [wpOpsS,go_sem,Exit.thenS]
  refine wpS_cond (t:=false) (by simp [Act.eval,Array.replicate]) ?_
  simp only [Bool.false_eq_true,if_false]
  refine wpS_of_wp (k_ ?_)
  cases c₀
  simp_all [bodyPostS,results,Tryz.results94]
def aDE (s:Bys) (w w':World) (e:Ending):Prop:=match aBI s with
  | .error (c,x)=>e = .returned (.tuple #[vL none 0 0,vI c,vI x])
  | .ok l=>∃ v,e = .returned (.tuple #[v,vI 0,vI 0])∧aHd spL 2 141 w w' v l
theorem aKM {s:Bys}(hl:s.length≤4900) {w:World}(hT:Tb w):Calls Tryz.prog 58 #[vS s] w fun e w'=>aDE s w w' e∧Fr (fun _=>False) w w':=by
  rcases hlx:aLY s with ⟨c,x⟩ | ts
  · rcases aEa s with ⟨c9,x9,h9,hc8,-⟩ | ⟨h9,-⟩
    · rw [hlx] at h9
      have hc9:c≠0:=by cases h9;exact hc8
      clear h9 hc8 c9 x9
      refine aXn Tryz.func58 rfl rfl [(0,vS s)] rfl rfl fun Φ hΦ=>?_
      have hM:=Mm.nil (fun _=>False) w
      refine aAq 0 0 2 [] (cs:=#[vL none 0 0]) (T:=48) (v:=fun b=>vP b 0) f0 hM fun ac w1 hM=>aAq 0 1 3 [] (cs:=#[vI 0]) (T:=32) (v:=fun b=>vP b 0) f0 hM fun ad w1 hM=>aAq 0 2 4 [] (cs:=#[vI 0]) (T:=3) (v:=fun b=>vP b 0) f0 hM fun ab w1 hM=>aWJ 1 1 10 [(9,vS s)] (v := .tuple #[vL none 0 0,vI c,vI x]) (K:=fun w8=>Fr (fun _=>False) _ w8) f0 ((aJD (s:=s) (by omega) _).mono fun e w8 h=>by unfold aQm at h;rw [hlx] at h;obtain ⟨⟨v,h1,h2⟩,h3⟩:=h;subst h2;exact ⟨h1,h3⟩) fun w1 f1=>?_
      have hM:=hM.q f1
      refine stm 1 8 [(13,vI x),(5,vL none 0 0),(6,vI c)] 3 2 0 (vI x) f0 hM rfl fun w1 hM=>seg 2 2 [(15,vB (!(c==0)))] f0 ?_
      cases h44:(c==0)
      rotate_left
      ·have aj:=et h44
       exact absurd aj hc9
      have aj:=ef h44
      refine seg 3 0 [] f0 (drx [1,2,3,4] (fun γ=>[some (vI x),none,none,none]) _ (fun γ l=>[bk ac #[(bif l.getD 1 false then vL none 0 0 else vL none 0 0)] 48,bk ad #[(bif l.getD 2 false then vI c else vI 0)] 32,bk ab #[(bif l.getD 3 false then vI x else vI x)] 3]) (fun γ=>[]) hM (fun γ=>rfl) (fun γ l w5 hM=>f0) ⟨aN7 0 1 3 2 0 17 (fun γ=>ab) (fun γ l=>#[(bif l.getD 3 false then vI x else vI x)]) 3 (fun γ=>vI x),aB7 1 2 48 0 0 (fun γ=>ac) (fun γ l=>#[(bif l.getD 1 false then vL none 0 0 else vL none 0 0)]) 48 (fun γ=>vL none 0 0),aB7 2 3 32 1 0 (fun γ=>ad) (fun γ l=>#[(bif l.getD 2 false then vI c else vI 0)]) 32 (fun γ=>vI c),aB7 3 4 3 2 0 (fun γ=>ab) (fun γ l=>#[(bif l.getD 3 false then vI x else vI x)]) 3 (fun γ=>vI x),trivial⟩ fun al w1 hM=>?_)
      replace hM:Mm (fun _=>False) w w1 [bk ac #[vL none 0 0] 48,bk ad #[vI c] 32,bk ab #[vI x] 3]:=hM
      replace hM:Mm (fun _=>False) w _ [bk ac #[vL none 0 0] 48,bk ad #[vI c] 32,bk ab #[vI x] 3]:=hM
      exact aW1 0 1 2 rfl f0 hM rfl rfl rfl (hΦ _ _ ⟨by unfold aDE aBI;rw [hlx],hM.fr⟩)
    · rw [hlx] at h9;cases h9
  · obtain ⟨-,-,hk,-,hlt⟩:=aKT hlx
    refine aXn Tryz.func58 rfl rfl [(0,vS s)] rfl rfl fun Φ hΦ=>?_
    have hM:=Mm.nil (fun _=>False) w
    refine aAq 0 0 2 [] (cs:=#[vL none 0 0]) (T:=48) (v:=fun b=>vP b 0) f0 hM fun ae w1 hM=>aAq 0 1 3 [] (cs:=#[vI 0]) (T:=32) (v:=fun b=>vP b 0) f0 hM fun af w1 hM=>aAq 0 2 4 [] (cs:=#[vI 0]) (T:=3) (v:=fun b=>vP b 0) f0 hM fun ag w1 hM=>cal 1 1 10 [(9,vS s)] (K:=fun u w8=>∃ v,u = .tuple #[v,vI 0,vI 0]∧aHd tkL 3 186 w1 w8 v ts∧Fr (fun _=>False) w1 w8) f0 ((aJD (s:=s) (by omega) _).mono fun e w8 h=>by unfold aQm at h;rw [hlx] at h;obtain ⟨⟨v,h1,h2⟩,h3⟩:=h;exact ⟨_,h1,v,rfl,h2,h3⟩) fun u w1 ⟨v,hu,hO,f1⟩=>?_
    subst hu
    have hM:=hM.add f1 (rw_ tkL 3 186 v ts) hO.1 hO.2
    obtain ⟨pt,ct,rfl,-⟩:=hO.op tkT.len
    refine stm 1 8 [(13,vI 0),(5,vL pt ts.length ct),(6,vI 0)] 3 2 0 (vI 0) f0 hM rfl fun w1 hM=>dfr 4 1 [(18,.func (.func 94) #[] #[vP ae 0,vP af 0,vP ag 0])] 94 #[vP ae 0,vP af 0,vP ag 0] f0 ?_ rfl
    obtain ⟨B,hB⟩:∃ B,B=w1.heap.size:=⟨_,rfl⟩
    have hst:SrcB tkL 3 w1 B pt ct ts:=by rw [hB];obtain ⟨pt9,ct9,h9,h8⟩:=(hM.src (j:=3) rfl tkT.len).op;cases h9;exact h8.b (Fr.refl _ _)
    have hB5:5≤B:=by have:=hM.fr.size;have:=hT.lt;omega
    refine aWA 5 5 24 [(23,.agg #[vL pt ts.length ct,vI (s.length:Int),vL none 0 0])] (cs:=#[vL pt ts.length ct,vI (s.length:Int),vL none 0 0]) (T:=170) (v:=fun b=>vP b 0) (fc (aC1 9 s) f0) hM fun aa w1 f170 hrb hM=>?_
    have hrb:=hB▸hrb
    have hst:=aAK hst f170 fun _ h=>h.elim
    have hM:=hM.row (f:=spL) (c:=2) (E:=141)
    have hTn:Tb _:=hT.fr hM.fr fun _ _ h=>h
    skip
    rcases hqt:aEC (s.length:Int) ts with ⟨c,x⟩ | ⟨sp,l9⟩
    · refine aWK 6 1 26 [(7,vP aa 0),(25,vP aa 0)] (ch:=pn c x) [0,1,2] [4,5] f0 hM rfl rfl (by decide) (fun hm=>(aHv (ss:=[]) (en:=(s.length:Int)) hm hst (fun k h=>(aXl rfl h).elim (fun h=>by rw [h];exact hrb) fun h=>by cases h) hB5 hk hTn (by simp only [List.length_nil];omega)).mono fun e w8 h=>by unfold aKj at h;rw [hqt] at h;exact h) fun a w9 hM9 E=>?_
      refine aW6 (v2:=vL none 0 0) (v3:=vI c) (v4:=vI x) (ch':=[{ v:=aIX c x,recovered:=true }]) (fun _=>by simp [go_sem]) rfl E rfl rfl rfl (by kernel_rfl) rfl ((aLn c x (hM9.re (G:=BlM _) fun e he k hk=>⟨e,he,hk⟩)).mono ?_)
      rintro e u w8 ⟨rfl,rfl,h9⟩
      have hM8:=hM9.call (A:=[]) h9 fun _ _ h=>h
      refine ⟨rfl,rfl,h9.get 0 rfl,h9.get 1 rfl,h9.get 2 rfl,hΦ _ _ ⟨?_,hM8.fr⟩⟩
      unfold aDE aBI;rw [hlx];simp only;rw [aHY,hqt]
    refine aAO 6 1 26 [(7,vP aa 0),(25,vP aa 0)] (K:=fun u Mn=>u = .tuple #[]∧∃ p' c' q' cq',Mn=[bk aa #[vL p' l9.length c',vI (s.length:Int),vL q' sp.length cq'] 170,rw_ spL 2 141 (vL q' sp.length cq') sp]) [0,1,2,3] [4,5] f0 hM rfl rfl (by decide) (fun hm=>(aHv (ss:=[]) (en:=(s.length:Int)) hm hst (fun k h=>(aXl rfl h).elim (fun h=>by rw [h];exact hrb) fun h=>by cases h) hB5 hk hTn (by simp only [List.length_nil];omega)).mono fun e w8 h=>by unfold aKj at h;rw [hqt] at h;obtain ⟨h1,p',c',q',cq',h2,h3⟩:=h;exact ⟨_,_,h1,⟨rfl,p',c',q',cq',rfl⟩,h3⟩) fun u Mn w1 hK hM=>?_
    obtain ⟨rfl,p9,c9,q9,cq9,rfl⟩:=hK
    have hcn:=aQ7 hk hqt
    have hwk:wk sp:=aL2 hk (by rw [aHY,hqt])
    refine aMw 7 4 31 [(30,vL q9 sp.length cq9)] (f:=spL) (c:=2) (E:=141) (A:=(aE3 sp)) (fc (ldm 48 4 2 hM rfl rfl) f0) hM (aJh (hM.src (j:=5) rfl spT.len) hwk (by omega)) fun u w1 hM=>?_
    obtain ⟨ah,ai,eqa50,sqa50⟩:=(hM.src (j:=6) rfl spT.len).op
    subst eqa50
    refine stm 7 5 [] 48 0 0 (vL ah (aE3 sp).length ai) f0 hM rfl fun w1 hM=>seg 8 3 [(34,vB (decide (60<((aE3 sp).length:Int))))] (fc (ldm 48 0 0 hM rfl rfl) f0) ?_
    cases h51:(decide (60<((aE3 sp).length:Int)))
    ·have ak:=df h51
     refine stm 10 1 [(37,vL ah (aE3 sp).length ai)] 48 0 0 (vL ah (aE3 sp).length ai) (fc (ldm 48 0 0 hM rfl rfl) f0) hM rfl fun w1 hM=>stm 10 2 [] 32 1 0 (vI 0) f0 hM rfl fun w1 hM=>stm 10 3 [] 3 2 0 (vI 0) f0 hM rfl fun w1 hM=>?_
     replace hM:Mm (fun _=>False) w _ [bk ae #[vL ah (aE3 sp).length ai] 48,bk af #[vI 0] 32,bk ag #[vI 0] 3,_,bk aa #[vL p9 l9.length c9,vI (s.length:Int),vL q9 sp.length cq9] 170,_,_]:=hM
     have hP:aBI s = .ok (aE3 sp):=by
       unfold aBI;rw [hlx];simp only;rw [aHY,hqt];simp only
       rw [if_neg (by have:=of_decide_eq_false h51;omega)]
     exact aVg (fun _=>by simp [go_sem]) 0 1 2 rfl (aHK _ _ _ _) f0 hM rfl rfl rfl (hΦ _ _ ⟨by unfold aDE;rw [hP];exact ⟨_,rfl,hM.nrow (j:=6) rfl⟩,hM.fr⟩)
    have ak:=dt h51
    refine stm 9 2 [(36,vI (s.length:Int))] 48 0 0 (vL none 0 0) (fc (aC1 9 s) f0) hM rfl fun w1 hM=>stm 9 3 [] 32 1 0 (vI 2) f0 hM rfl fun w1 hM=>stm 9 4 [] 3 2 0 (vI (s.length:Int)) f0 hM rfl fun w1 hM=>?_
    replace hM:Mm (fun _=>False) w _ [bk ae #[vL none 0 0] 48,bk af #[vI 2] 32,bk ag #[vI (s.length:Int)] 3,_,bk aa #[vL p9 l9.length c9,vI (s.length:Int),vL q9 sp.length cq9] 170,_,_]:=hM
    have hP:aBI s = .error (2,(s.length:Int)):=by
      unfold aBI;rw [hlx];simp only;rw [aHY,hqt];simp only
      rw [if_pos (by have:=of_decide_eq_true h51;omega)]
    exact aVg (fun _=>by simp [go_sem]) 0 1 2 rfl (aHK _ _ _ _) f0 hM rfl rfl rfl (hΦ _ _ ⟨by unfold aDE;rw [hP],hM.fr⟩)
def aWP (w:World) (g:Nat):Prop:=∃ ev,w.cell? ⟨g,0,none⟩=some ev∧(ev = .nilIface∨∃ te pe,ev = .iface te pe)
structure Te (w:World):Prop where
  tb:Tb w
  e0:aWP w 0
  e1:aWP w 1
theorem Te.fr {w w':World}(h:Te w) (f:Fr (fun _=>False) w w'):Te w' :=
  ⟨h.tb.fr f fun _ _ h=>h,let ⟨ev,h1,h2⟩:=h.e0;⟨ev,f.cell h1 id,h2⟩,let ⟨ev,h1,h2⟩:=h.e1;⟨ev,f.cell h1 id,h2⟩⟩
theorem aPa (s:Bys):(ofL s).data.toList=s:=by unfold ofL;simp
def aGW (s:Bys):Option Int:=match Lib.atoiAll s with
  | .ok v=>some v
  | _=>none
theorem aHM {w:World}{s:Bys}(hs:s.length≤281474976710656) (hT:Te w):Calls Tryz.prog 97 #[vS s] w fun e w'=>(∃ n ev,e = .returned (.tuple #[vI n,ev])∧((aGW s=some n∧ev = .nilIface ∧ -9223372036854775808≤n∧n≤9223372036854775807)∨(aGW s=none∧∃ T v,ev = .iface T v)))∧Fr (fun _=>False) w w':=by
  have hsz:(ofL s).size=s.length:=aBk s
  cases h:Lib.atoiAll s
  · rename_i v
    have h1:=h
    rw [←aPa s] at h1
    refine (Go.Proofs.Any.strconv_Atoi_ok Tryz.laysC172 (ofL s) (by omega) v h1 w).mono ?_
    rintro e w' ⟨rfl,hw⟩
    obtain ⟨b1,b2⟩:=Lib.atoiAll_bounds h
    refine ⟨⟨v,.nilIface,rfl,.inl ⟨by unfold aGW;rw [h],rfl,b1,b2⟩⟩,?_⟩
    rcases hw with rfl | ⟨t,rfl⟩
    · exact Fr.refl _ _
    · exact aKb _ _ _
  · have h1:=h
    rw [←aPa s] at h1
    obtain ⟨ev,hv,hev⟩:=hT.e0
    refine (Go.Proofs.Any.strconv_Atoi_syntax Tryz.laysC172 (ofL s) (by omega) h1 ev w hv hev).mono ?_
    rintro e w' ⟨N,rfl,_,_,hb⟩
    exact ⟨⟨_,_,rfl,.inr ⟨by unfold aGW;rw [h],_,_,rfl⟩⟩,Fr.of_below hb⟩
  · have h1:=h
    rw [←aPa s] at h1
    obtain ⟨ev,hv,hev⟩:=hT.e1
    refine (Go.Proofs.Any.strconv_Atoi_range Tryz.laysC172 (ofL s) (by omega) h1 ev w hv hev).mono ?_
    rintro e w' ⟨N,rfl,_,_,hb⟩
    exact ⟨⟨_,_,rfl,.inr ⟨by unfold aGW;rw [h],_,_,rfl⟩⟩,Fr.of_below hb⟩
theorem Fr.grow_ (w:World) (k:Nat) (os:Array Obj):Fr (fun _=>False) w (Go.Sort.grow (w.drewN k) os) :=
  ⟨rfl,rfl,rfl,by show _≤(w.heap++os).size;simp,fun r hr _=>by show (w.heap++os)[r]?=_;rw [Array.getElem?_append_left hr]⟩
theorem aNl {w:World}(n:Int) (h0 : -9223372036854775808≤n) (h1:n≤9223372036854775807) (hT:Te w):Calls Tryz.prog 98 #[vI n] w fun e w'=>e = .returned (vS (Lib.itoa n))∧Fr (fun _=>False) w w' :=
  (Tryz.strconv_Itoa n h0 h1 w hT.tb.1).mono fun e w' ⟨h2,k,os,h3⟩=>⟨h2,h3▸Fr.grow_ w k os⟩
def aA6 (s:Bys):Int:=match aGW s with
  | some n=>bif decide (n<1)||decide (9999999<n) || !(Lib.itoa n==s) then 100 else n
  | none=>100
theorem aDe {w:World}{s:Bys}(hs:s.length≤281474976710656) (hT:Te w):Calls Tryz.prog 59 #[vS s] w fun e w'=>e = .returned (vI (aA6 s))∧Fr (fun _=>False) w w':=by
  cases hat:aGW s with
  | none =>
    refine beg Tryz.func59 rfl rfl [(0,vS s)] rfl rfl fun Φ hΦ=>?_
    have hM:=Mm.nil (fun _=>False) w
    refine cal 1 1 7 [(6,vS s)] (K:=fun u w8=>∃ n T v,u = .tuple #[vI n,.iface T v]∧Fr (fun _=>False) w w8) f0 ((aHM hs (hT.fr hM.fr)).mono fun e w8 ⟨⟨n1,ev,h1,h2⟩,h3⟩=>by rcases h2 with ⟨h4,_⟩ | ⟨h4,T,v,rfl⟩<;>rw [hat] at h4<;>cases h4;exact ⟨_,h1,n1,T,v,rfl,h3⟩) fun u w1 ⟨n,T,v,hu,f1⟩=>?_
    subst hu
    have hM:=hM.q f1
    refine opp 2 1 11 [(3,vI n),(10,.iface T v)] (v:=vB true) f0 (rt1 2 (vI 100) rfl f0 (hΦ _ _ ⟨by unfold aA6;rw [hat],hM.fr⟩))
  | some n =>
    refine beg Tryz.func59 rfl rfl [(0,vS s)] rfl rfl fun Φ hΦ=>?_
    have hM:=Mm.nil (fun _=>False) w
    refine aWJ 1 1 7 [(6,vS s)] (v := .tuple #[vI n,.nilIface]) (K:=fun w8=>Fr (fun _=>False) _ w8) f0 ((aHM hs (hT.fr hM.fr)).mono fun e w8 ⟨⟨n1,ev,h1,h2⟩,h3⟩=>by rcases h2 with ⟨h4,rfl,_⟩ | ⟨h4,_⟩<;>rw [hat] at h4<;>cases h4;exact ⟨h1,h3⟩) fun w1 f1=>?_
    have hM:=hM.q f1
    refine opp 2 1 11 [(3,vI n),(10,.nilIface)] (v:=vB false) f0 (seg 2 7 [(16,vB (decide (n<1)))] f0 ?_)
    cases h78:(decide (n<1))
    rotate_left
    ·have aa:=dt h78
     exact rt1 2 (vI 100) rfl f0 (hΦ _ _ ⟨by unfold aA6;rw [hat];simp only [h78]<;>rfl,hM.fr⟩)
    have aa:=df h78
    refine seg 2 11 [(20,vB (decide (9999999<n)))] f0 ?_
    cases h79:(decide (9999999<n))
    rotate_left
    ·have ab:=dt h79
     exact rt1 2 (vI 100) rfl f0 (hΦ _ _ ⟨by unfold aA6;rw [hat];simp only [h78,h79]<;>rfl,hM.fr⟩)
    have ab:=df h79
    refine aAr 2 12 22 [(21,vI n)] f0 hM (aNl n (by omega) (by omega) (hT.fr hM.fr)) fun w1 hM=>seg 2 16 [(25,vB (!((Lib.itoa n)==s)))] (fc (sne 9 (Lib.itoa n) s) f0) ?_
    cases h80:((Lib.itoa n)==s)
    ·exact rt1 2 (vI 100) rfl f0 (hΦ _ _ ⟨by unfold aA6;rw [hat];simp only [h78,h79,h80]<;>rfl,hM.fr⟩)
    exact rt1 2 (vI n) rfl f0 (hΦ _ _ ⟨by unfold aA6;rw [hat];simp only [h78,h79,h80]<;>rfl,hM.fr⟩)
def aAB {α:Type}(f:α→List Value) (c E:Nat) (L:List (Value×List α)):Ent where
  B:=fun k=>∃ x∈L,x.1.ownBlock=some k
  H:=fun w=>(∀ x∈L,ow f c E w 0 x.1 x.2)∧L.Pairwise fun x y=>∀ k,x.1.ownBlock=some k→y.1.ownBlock≠some k
  lt:=fun h ⟨x,hx,hk⟩=>(rw_ f c E x.1 x.2).lt (h.1 x hx) hk
  fr:=fun h k hd=>⟨fun x hx=>(rw_ f c E x.1 x.2).fr (h.1 x hx) k fun b hb=>hd b ⟨x,hx,hb⟩,h.2⟩
theorem aIL {α:Type}{f:α→List Value}{c E:Nat}{F0:Nat→Prop}{w0 w:World}{M:List Ent}(h:Mm F0 w0 w M):Mm F0 w0 w (M++[aAB f c E ([]:List (Value×List α))]) :=
  h.add (Fr.refl _ _) _ ⟨fun x hx=>(by cases hx),.nil⟩ fun k ⟨x,hx,_⟩=>(by cases hx)
theorem aGV {α:Type}{f:α→List Value}{c E:Nat}{F0:Nat→Prop}{w0 w:World}{A:List Ent}{L L':List (Value×List α)}{v:Value}{r:List α}(h:Mm F0 w0 w (A++[aAB f c E L,rw_ f c E v r])) (hL:L'.Perm ((v,r)::L)):Mm F0 w0 w (A++[aAB f c E L']):=by
  have hb:=h.at_ (aAB f c E L) (by simp)
  have hr:=h.at_ (rw_ f c E v r) (by simp)
  have hnd:=List.pairwise_append.1 h.nd
  have hmem:∀ {k},(aAB f c E L').B k→(aAB f c E L).B k∨(rw_ f c E v r).B k:=fun ⟨x,hx,hk⟩=>by
    rcases List.mem_cons.1 (hL.mem_iff.1 hx) with rfl | hx
    · exact .inr hk
    · exact .inl ⟨x,hx,hk⟩
  have hdis:∀ k,(aAB f c E L).B k→¬ (rw_ f c E v r).B k:=(List.pairwise_cons.1 hnd.2.1).1 _ (by simp)
  refine ⟨h.fr,fun x hx=>?_,fun x hx k hk hl=>?_,?_⟩
  · rcases List.mem_append.1 hx with hx | hx
    · exact h.at_ x (List.mem_append_left _ hx)
    · rw [List.mem_singleton] at hx
      subst hx
      refine ⟨fun x hx=>?_,(hL.pairwise_iff (fun {x y} hxy k hy hx=>hxy k hx hy)).2 (List.pairwise_cons.2 ⟨fun y hy k hk hy2=>hdis k ⟨y,hy,hy2⟩ hk,hb.2⟩)⟩
      rcases List.mem_cons.1 (hL.mem_iff.1 hx) with rfl | hx
      · exact hr
      · exact hb.1 x hx
  · rcases List.mem_append.1 hx with hx | hx
    · exact h.own x (List.mem_append_left _ hx) k hk hl
    · rw [List.mem_singleton] at hx
      subst hx
      rcases hmem hk with h1 | h1
      · exact h.own _ (by simp) k h1 hl
      · exact h.own (rw_ f c E v r) (by simp) k h1 hl
  · refine List.pairwise_append.2 ⟨hnd.1,List.pairwise_singleton _ _,fun x hx y hy k hxk hyk=>?_⟩
    rw [List.mem_singleton] at hy
    subst hy
    rcases hmem hyk with h1 | h1
    · exact hnd.2.2 x hx _ (by simp) k hxk h1
    · exact hnd.2.2 x hx (rw_ f c E v r) (by simp) k hxk h1
theorem aU3 {α:Type}{f:α→List Value}{c E:Nat}{F0:Nat→Prop}{w0 w:World}{A:List Ent}{L L':List (Value×List α)}{v:Value}{r:List α}(h:Mm F0 w0 w (A++[aAB f c E L'])) (hL:L'.Perm ((v,r)::L)):Mm F0 w0 w (A++[aAB f c E L,rw_ f c E v r]):=by
  have hb:=h.at_ (aAB f c E L') (by simp)
  have hnd:=List.pairwise_append.1 h.nd
  have hp:=List.pairwise_cons.1 ((hL.pairwise_iff (fun {x y} hxy k hy hx=>hxy k hx hy)).1 hb.2)
  have m1:∀ {k},(aAB f c E L).B k→(aAB f c E L').B k:=fun ⟨x,hx,hk⟩=>⟨x,hL.mem_iff.2 (.tail _ hx),hk⟩
  have m2:∀ {k},(rw_ f c E v r).B k→(aAB f c E L').B k:=fun hk=>⟨(v,r),hL.mem_iff.2 (.head _),hk⟩
  refine ⟨h.fr,fun x hx=>?_,fun x hx k hk hl=>?_,?_⟩
  · rcases List.mem_append.1 hx with hx | hx
    · exact h.at_ x (List.mem_append_left _ hx)
    · simp only [List.mem_cons,List.not_mem_nil,or_false] at hx
      rcases hx with rfl | rfl
      · exact ⟨fun x hx=>hb.1 x (hL.mem_iff.2 (.tail _ hx)),hp.2⟩
      · exact hb.1 (v,r) (hL.mem_iff.2 (.head _))
  · rcases List.mem_append.1 hx with hx | hx
    · exact h.own x (List.mem_append_left _ hx) k hk hl
    · simp only [List.mem_cons,List.not_mem_nil,or_false] at hx
      rcases hx with rfl | rfl
      · exact h.own _ (by simp) k (m1 hk) hl
      · exact h.own (aAB f c E L') (by simp) k (m2 hk) hl
  · refine List.pairwise_append.2 ⟨hnd.1,List.pairwise_cons.2 ⟨fun y hy k hk hy2=>?_,List.pairwise_singleton _ _⟩,fun x hx y hy k hxk hyk=>?_⟩
    · rw [List.mem_singleton] at hy
      subst hy
      obtain ⟨x,hx,hk⟩:=hk
      exact hp.1 x hx k hy2 hk
    · simp only [List.mem_cons,List.not_mem_nil,or_false] at hy
      rcases hy with rfl | rfl
      · exact hnd.2.2 x hx _ (by simp) k hxk (m1 hyk)
      · exact hnd.2.2 x hx (aAB f c E L') (by simp) k hxk (m2 hyk)
def inL (n:Int):List Value:=[vI n]
theorem inT:ElT Tryz.prog inL 1 29 3:=⟨fun _=>rfl,by decide,fun x u hu=>by
  unfold inL at hu
  rw [List.mem_singleton] at hu
  subst hu;rfl,Tryz.underlying29,aBL (by kernel_rfl)⟩
abbrev aE7:=List (Bys×Value×List Int)
def aC9 (T:aE7):Value→Option Value
  | .string s=>(T.find? fun x=>x.1==s.toList).map (·.2.1)
  | _=>none
theorem aKN (T:aE7) (s:Bys):aC9 T (vS s)=(T.find? fun x=>x.1==s).map (·.2.1):=by
  show (T.find? fun x=>x.1==(ofL s).toList).map _=_
  rw [aA4]
def aEr (T:aE7) (s:Bys):List Int:=match T.find? fun x=>x.1==s with
  | some x=>x.2.2
  | none=>[]
def aCt (T:aE7) (s:Bys):aE7:=T.filter fun x => !(x.1==s)
theorem aJ5 {T:aE7}{s t:Bys}(h:¬ t=s):(aCt T s).find? (fun x=>x.1==t)=T.find? fun x=>x.1==t:=by
  unfold aCt
  rw [List.find?_filter]
  congr 1
  funext x
  by_cases e:x.1=t
  · have h1:(x.1==t)=true:=by simpa using e
    have h2:(x.1==s)=false:=by simpa using fun e2:x.1=s=>h (e.symm.trans e2)
    rw [h1,h2];rfl
  · have h1:(x.1==t)=false:=by simpa using e
    rw [h1];simp
theorem aRo:aC9 []=fun _=>none:=by funext v;cases v<;>rfl
theorem aRn (T:aE7) (s:Bys) (v:Value) (r:List Int):upd (aC9 T) (vS s) v=aC9 ((s,v,r)::aCt T s):=by
  funext z
  by_cases e:z=vS s
  · subst e;rw [aCk,aKN];simp
  · rw [aBE _ e]
    cases z with
    | string b =>
      have hne:¬ b.toList=s:=aNW e
      show (T.find? fun x=>x.1==b.toList).map _=(List.find? _ ((s,v,r)::aCt T s)).map _
      rw [List.find?_cons,show (s==b.toList)=false by simpa using fun h:s=b.toList=>hne h.symm]
      simp only
      rw [aJ5 hne]
    | _=>rfl
theorem aMV (T:aE7) (s t:Bys) (v:Value) (r:List Int):aEr ((s,v,r)::aCt T s) t=bif s==t then r else aEr T t:=by
  unfold aEr
  rw [List.find?_cons]
  cases h:s==t with
  | true=>rfl
  | false =>
    simp only
    rw [aJ5 (by simpa using fun e:t=s=>(by simp [e] at h))]
    rfl
theorem aNa {T:aE7}(h:(T.map (·.1)).Nodup) (s:Bys) (v:Value) (r:List Int):(((s,v,r)::aCt T s).map (·.1)).Nodup:=by
  rw [List.map_cons,List.nodup_cons]
  refine ⟨fun hm=>?_,?_⟩
  · obtain ⟨x,hx,e⟩:=List.mem_map.1 hm
    have:=(List.mem_filter.1 hx).2
    simp [e] at this
  · exact (List.Sublist.map _ List.filter_sublist).nodup h
theorem aJ4:∀ {T:aE7},(T.map (·.1)).Nodup→∀ {x:Bys×Value×List Int}{s:Bys},T.find? (fun y=>y.1==s)=some x→x.1=s∧T.Perm (x::aCt T s)
  | [],_,x,s,h=>by cases h
  | y::T,hn,x,s,h=>by
    rw [List.map_cons,List.nodup_cons] at hn
    rw [List.find?_cons] at h
    cases hy:y.1==s with
    | true =>
      rw [hy] at h
      cases h
      have hys:y.1=s:=by simpa using hy
      refine ⟨hys,?_⟩
      have:aCt (y::T) s=T:=by
        unfold aCt
        rw [List.filter_cons,hy]
        simp only [Bool.not_true,Bool.false_eq_true,if_false]
        rw [List.filter_eq_self]
        intro z hz
        have:¬ z.1=s:=fun e=>hn.1 (by rw [hys,←e];exact List.mem_map.2 ⟨z,hz,rfl⟩)
        simpa using this
      rw [this]
    | false =>
      rw [hy] at h
      obtain ⟨h1,h2⟩:=aJ4 hn.2 h
      refine ⟨h1,?_⟩
      have:aCt (y::T) s=y::aCt T s:=by unfold aCt;rw [List.filter_cons,hy];rfl
      rw [this]
      exact (h2.cons y).trans (List.Perm.swap x y _)
theorem aOG {T:aE7}{s:Bys}(h:T.find? (fun y=>y.1==s)=none):aCt T s=T:=by
  unfold aCt
  rw [List.filter_eq_self]
  intro z hz
  have:=List.find?_eq_none.1 h z hz
  simpa using this
theorem aRl {F0:Nat→Prop}{w0 w:World}{A:List Ent}{T:aE7}(s:Bys) (hn:(T.map (·.1)).Nodup) (h:Mm F0 w0 w (A++[aAB inL 1 3 (T.map (·.2))])):∃ v r,(aC9 T (vS s)).getD (vL none 0 0)=v∧r=aEr T s∧Mm F0 w0 w (A++[aAB inL 1 3 ((aCt T s).map (·.2)),rw_ inL 1 3 v r]):=by
  rw [aKN]
  unfold aEr
  cases hf:T.find? (fun y=>y.1==s) with
  | none =>
    refine ⟨vL none 0 0,[],rfl,rfl,?_⟩
    rw [aOG hf]
    have:=h.row (f:=inL) (c:=1) (E:=3)
    rwa [List.append_assoc] at this
  | some x =>
    obtain ⟨h1,h2⟩:=aJ4 hn hf
    exact ⟨x.2.1,x.2.2,rfl,rfl,aU3 h (h2.map (·.2))⟩
def aC0 (l:List Arc) (s:Bys):List Int:=(l.zipIdx.filter fun x=>x.1.1==s).map fun x=>(x.2:Int)
theorem aP0 (l:List Arc) (a:Arc) (s:Bys):aC0 (l++[a]) s=bif a.1==s then aC0 l s++[(l.length:Int)] else aC0 l s:=by
  unfold aC0
  rw [List.zipIdx_append,List.filter_append,List.map_append]
  cases h:a.1==s<;>simp [h]
theorem aRm {T:aE7}{l:List Arc}{a:Arc}{i:Nat}{v:Value}(hT:∀ s,aEr T s=aC0 (l.take i) s) (ha:l[i]?=some a):∀ s,aEr ((a.1,v,aEr T a.1++[(i:Int)])::aCt T a.1) s=aC0 (l.take (i+1)) s:=by
  intro s
  rw [aMV,gt_ ha,aP0,List.length_take,Nat.min_eq_left (Nat.le_of_lt (gl ha)),hT,hT]
  cases h:a.1==s with
  | true =>
    have:a.1=s:=by simpa using h
    rw [this]
  | false=>rfl
structure Road where
  closed:Bool
  oneway:Bool
  limited:Bool
  speed:Int
  hours:List Sp
  refs:List Bys
def aEW:Bys:=[102,111,111,116]
def aDL (o:Ob):Except (Int×Int) (List Sp):=aBI (aAw o.tags [104,111,117,114,115]).1
def aAc (o:Ob):List Sp:=match aDL o with
  | .ok l=>l
  | .error _=>[]
def aDr (o:Ob):Bool:=match aDL o with
  | .ok _=>true
  | .error _=>false
def aAt (prof:Bys) (o:Ob):Road :=
  { closed:=(aAw o.tags prof).1==[110,111]
    oneway:=((aAw o.tags [111,110,101,119,97,121]).1==[121,101,115]) && !(prof==aEW)
    limited:=(aAw o.tags [104,111,117,114,115]).2&&aDr o
    speed:=aA6 (aAw o.tags [115,112,101,101,100]).1
    hours:=aAc o
    refs:=o.refs }
abbrev aFI (prof:Bys) (b:ObR) (hv:Value):Value := .agg #[vB (aAt prof b.o).closed,vB (aAt prof b.o).oneway,vB (aAt prof b.o).limited,vI (aAt prof b.o).speed,hv,rfV b]
abbrev RdT:=List (ObR×Value)
def rdF (prof:Bys) (T:RdT):Value→Option Value
  | .string s=>(T.find? fun x=>x.1.o.id==s.toList).map fun x=>aFI prof x.1 x.2
  | _=>none
theorem aSw (prof:Bys) (T:RdT) (s:Bys):rdF prof T (vS s)=(T.find? fun x=>x.1.o.id==s).map fun x=>aFI prof x.1 x.2:=by
  show (T.find? fun x=>x.1.o.id==(ofL s).toList).map _=_
  rw [aA4]
theorem aTC (prof:Bys):rdF prof []=fun _=>none:=by funext v;cases v<;>rfl
theorem aIn (prof:Bys) (T:RdT) (b:ObR) (hv:Value):upd (rdF prof T) (vS b.o.id) (aFI prof b hv)=rdF prof ((b,hv)::T):=by
  funext z
  by_cases e:z=vS b.o.id
  · subst e;rw [aCk,aSw];simp
  · rw [aBE _ e]
    cases z with
    | string s =>
      have hne:¬ s.toList=b.o.id:=aNW e
      show (T.find? _).map _=(List.find? _ ((b,hv)::T)).map _
      rw [List.find?_cons,show (b.o.id==s.toList)=false by simpa using fun h:b.o.id=s.toList=>hne h.symm]
    | _=>rfl
def hrB (T:RdT):List (Value×List Sp):=T.map fun x=>(x.2,aAc x.1.o)
def aBN (os:List ObR):List ObR:=(os.filter fun b=>b.o.kind==2).reverse
theorem aE8 {os:List ObR}{b:ObR}(h:(b.o.kind==2)=true):aBN (os++[b])=b::aBN os:=by unfold aBN;rw [List.filter_append];simp [h]
theorem aHQ {os:List ObR}{b:ObR}(h:(b.o.kind==2)=false):aBN (os++[b])=aBN os:=by unfold aBN;rw [List.filter_append];simp [h]
abbrev Tri:=Bys×Bys×Bys
abbrev aSl (t:Tri):Value := .agg #[vS t.1,vS t.2.1,vS t.2.2]
open Classical in
noncomputable def setT (S:List Tri):Value→Option Value:=fun v=>if ∃ a∈S,v=aSl a then some (vB true) else none
theorem aQ1 {a b:Tri}(h:aSl a=aSl b):a=b:=by
  obtain ⟨a1,a2,a3⟩:=a
  obtain ⟨b1,b2,b3⟩:=b
  have h:Value.agg #[vS a1,vS a2,vS a3] = .agg #[vS b1,vS b2,vS b3]:=h
  simp only [Value.agg.injEq,Array.mk.injEq,List.cons.injEq,and_true] at h
  obtain ⟨h1,h2,h3⟩:=h
  rw [aHs h1,aHs h2,aHs h3]
theorem aOz (S:List Tri) (x:Tri):((setT S) (aSl x)).getD (vB false)=vB (S.contains x):=by
  unfold setT
  by_cases h:x∈S
  · rw [if_pos ⟨x,h,rfl⟩,show S.contains x=true by simpa using h];rfl
  · rw [if_neg (fun ⟨a,ha,e⟩=>h (by rw [aQ1 e];exact ha)),show S.contains x=false by simpa using h];rfl
theorem aQI (S:List Tri) (x:Tri):upd (setT S) (aSl x) (vB true)=setT (S++[x]):=by
  funext v
  unfold setT
  by_cases e:v=aSl x
  · subst e;rw [aCk,if_pos ⟨x,by simp,rfl⟩]
  · rw [aBE _ e]
    by_cases h:∃ a∈S,v=aSl a
    · obtain ⟨a,ha,rfl⟩:=h
      rw [if_pos ⟨a,ha,rfl⟩,if_pos ⟨a,List.mem_append_left _ ha,rfl⟩]
    · rw [if_neg h,if_neg]
      rintro ⟨a,ha,rfl⟩
      rw [List.mem_append,List.mem_singleton] at ha
      rcases ha with ha | rfl
      · exact h ⟨a,ha,rfl⟩
      · exact e rfl
theorem aQJ:setT []=fun _=>none:=by funext v;unfold setT;rw [if_neg (by rintro ⟨a,ha,-⟩;cases ha)]
def aTe (o:Ob):Tri:=(o.refs.getD 0 [],o.refs.getD 1 [],o.refs.getD 2 [])
def aBY (prof:Bys) (os:List ObR):List Tri:=bif prof==aEW then [] else (os.filter fun b=>b.o.kind==5).map fun b=>aTe b.o
theorem aCy (prof:Bys) (os:List ObR) (b:ObR):aBY prof (os++[b])=bif !(prof==aEW)&&(b.o.kind==5) then aBY prof os++[aTe b.o] else aBY prof os:=by
  unfold aBY
  rw [List.filter_append,List.map_append]
  cases h1:prof==aEW<;>cases h2:b.o.kind==5<;>simp [h2]
theorem aS6:Maps.Keyed Tryz.prog 114:=Maps.Keyed.of_law (deep_law (m:=2) (by decide) (by kernel_rfl) (by kernel_rfl) (by kernel_rfl))
theorem aS9 {a:Tri}(h1:B63 a.1) (h2:B63 a.2.1) (h3:B63 a.2.2):∃ l,keyOf Tryz.prog 114 (aSl a)=some l:=by
  obtain ⟨m,hm⟩:=tsz
  unfold keyOf
  rw [u114_]
  simp only
  rw [if_pos (by kernel_rfl),hm]
  refine ⟨.string (keyBytes [.string (ofL a.1).data.toList,.string (ofL a.2.1).data.toList,.string (ofL a.2.2).data.toList]),?_⟩
  have hk:Tryz.prog.keyLits (m+1+1) 114 [vS a.1,vS a.2.1,vS a.2.2]=some [.string (ofL a.1).data.toList,.string (ofL a.2.1).data.toList,.string (ofL a.2.2).data.toList]:=by
    unfold Program.keyLits
    simp only [u114_]
    rw [if_pos (by kernel_rfl)]
    simp [List.range_succ,co9,kl9 h1,kl9 h2,kl9 h3]
  show (Tryz.prog.keyLits (m+1+1) 114 [vS a.1,vS a.2.1,vS a.2.2]).map _=_
  rw [hk];rfl
theorem aDF {l:List Arc}{a:Arc}(h:a∈aCe l):a∈l:=by
  have key:∀ (l r:List Arc),a∈l.foldl (fun r a=>bif r.contains a then r else r++[a]) r→a∈r∨a∈l:=by
    intro l
    induction l with
    | nil=>intro r h;exact .inl h
    | cons b l ih =>
      intro r h
      rw [List.foldl_cons] at h
      rcases ih _ h with h | h
      · cases hb:r.contains b with
        | true=>rw [hb] at h;exact .inl h
        | false =>
          rw [hb] at h
          rcases List.mem_append.1 h with h | h
          · exact .inl h
          · rw [List.mem_singleton] at h;exact .inr (h ▸ .head _)
      · exact .inr (.tail _ h)
  rcases key l [] h with h | h
  · cases h
  · exact h
theorem aR9 (l:List Arc) (s:Bys):(aC0 l s).length≤l.length:=by
  unfold aC0
  rw [List.length_map]
  exact Nat.le_trans (List.length_filter_le _ _) (by rw [List.length_zipIdx];exact Nat.le_refl _)
theorem aNJ (w:World):(zeroValue 29).run Tryz.prog w = .ok (vL none 0 0) w:=by kernel_rfl
abbrev AS (os:List ObR):List Arc:=aCe (aAv os)
theorem aRW (prof:Bys):aBY prof []=[]:=by unfold aBY;cases prof==aEW<;>rfl
theorem aXS {w:World}{p:Option Addr}{cap:Nat}{a b c:Bys}(h:SrcP stL 1 w p cap [a,b,c]):∃ g off,p=some ⟨g,off,none⟩∧w.rangeAt g off [vS a,vS b,vS c]:=by
  rcases h.at_ with h | ⟨g,off,h1,h2,h3⟩
  · cases h
  · refine ⟨g,off,h1,fun j u hu=>?_⟩
    have h0:=h3 0 a rfl 0 (vS a) rfl
    have h1:=h3 1 b rfl 0 (vS b) rfl
    have h2:=h3 2 c rfl 0 (vS c) rfl
    match j,hu with
    | 0,hu=>cases hu;exact h0
    | 1,hu=>cases hu;exact h1
    | 2,hu=>cases hu;exact h2
theorem aX3 {P:Program}{w:World}{T e:TypeId}{p:Option Addr}{n c g off:Nat}(hT:P.underlying T=some (.array 3 e)) (hp:p=some ⟨g,off,none⟩) (hn:3≤n):Ft.ok P w (.g1 (fun x => .sliceToArrayPointer T x) (vL p n c) (vP g off)):=fun o ρ x ho hx=>by
  subst hp
  have:=run_arrayAt (P:=P) (w:=w) T e 3 (some ⟨g,off,none⟩) n c hT hn
  simp only [execOp,ho,hx,Sem.run_bind,this,Result.andThen_ok,Sem.run_pure]
theorem aOQ {w:World}{o:Ob}(hT:Tb w) (hl:(aAw o.tags [104,111,117,114,115]).1.length≤4900):Calls Tryz.prog 58 #[vS (aAw o.tags [104,111,117,114,115]).1] w fun e w'=>∃ v c x,e = .returned (.tuple #[v,vI c,vI x])∧(c==0)=aDr o∧aHd spL 2 141 w w' v (aAc o)∧Fr (fun _=>False) w w':=by
  refine (aKM hl hT).mono ?_
  rintro e w' ⟨h1,h2⟩
  unfold aDE at h1
  rcases aEu (aAw o.tags [104,111,117,114,115]).1 with ⟨c,x,hp,hc,-⟩ | ⟨l,hp,-⟩
  · rw [hp] at h1
    refine ⟨_,c,x,h1,?_,?_,h2⟩
    · unfold aDr aDL;rw [hp];simpa using hc
    · unfold aAc aDL;rw [hp];exact ⟨aOS _,fun k h=>by cases h⟩
  · rw [hp] at h1
    obtain ⟨v,h1,h3⟩:=h1
    refine ⟨v,0,0,h1,?_,?_,h2⟩
    · unfold aDr aDL;rw [hp];rfl
    · unfold aAc aDL;rw [hp];exact h3
theorem aHU {k:Bys}:∀ {l:List Ob},aI4 k l=true→∀ o∈l,aA5 o=true
  | [],_,o,h=>by cases h
  | b::l,hm,o,h=>by
    unfold aI4 at hm
    simp only [Bool.and_eq_true] at hm
    rcases List.mem_cons.1 h with rfl | h
    · exact hm.1.1
    · exact aHU hm.2 o h
theorem aL4 {k:Bys}:∀ {l:List Tag},aIb k l=true→∀ t∈l,t.2.length≤200
  | [],_,t,h=>by cases h
  | b::l,hm,t,h=>by
    unfold aIb at hm
    simp only [Bool.and_eq_true,decide_eq_true_eq] at hm
    rcases List.mem_cons.1 h with rfl | h
    · have:=hm.1.2;omega
    · exact aL4 hm.2 t h
theorem aRC {l:List Tag}(h:∀ t∈l,t.2.length≤200) (k:Bys):(aAw l k).1.length≤200:=by
  induction l with
  | nil=>simp [aAw]
  | cons t l ih =>
    unfold aAw
    cases t.1==k with
    | true=>exact h t (.head _)
    | false=>exact ih fun t ht=>h t (.tail _ ht)
theorem aBQ {o:Ob}(h:aA5 o=true) (k:Bys):(aAw o.tags k).1.length≤200:=by
  unfold aA5 at h
  simp only [Bool.and_eq_true] at h
  have h1:=h.1.1.1.1.2
  unfold aBr at h1
  rw [Bool.and_eq_true] at h1
  exact aRC (aL4 h1.1) k
theorem aMA {o:Ob}(h:aA5 o=true) (hk:o.kind=5):o.refs.length=3:=by
  unfold aA5 at h
  rw [hk] at h
  simp only [Bool.and_eq_true] at h
  have:=h.2
  simp at this
  omega
noncomputable abbrev stM (bs ca bo br bb no nr nb:Nat) (qa:Option Addr) (prof:Bys) (os:List ObR) (T:aE7) (T2:RdT):List Ent :=
  [bk bs #[vS prof,vL qa (AS os).length ca,.map (some bo),.map (some br),.map (some bb)] 80,rw_ arL 4 47 (vL qa (AS os).length ca) (AS os),mp Tryz.prog 9 bo no (aC9 T),aAB inL 1 3 (T.map (·.2)),mp Tryz.prog 9 br nr (rdF prof T2),aAB spL 2 141 (hrB T2),mp Tryz.prog 114 bb nb (setT (aBY prof os))]
abbrev A29 (Φ:Ending→World→Prop):=AtO Tryz.prog (aAf Tryz.f29) (aAo (bodyPost Tryz.prog Tryz.f29 Φ)) [] 137
theorem aF9 {w:World}{v:Value}{os:List ObR}{prof:Bys}(hm:aCp w v os) (hvm:aAd (aAa os)=true) (hlen:(aAv os).length≤300000000) (hTe:Te w):Calls Tryz.prog 29 #[.agg #[v],vS prof] w fun e w'=>∃ bs ca bo br bb no nr nb qa T T2,e = .returned (vP bs 0)∧(T.map (·.1)).Nodup∧(∀ s,aEr T s=aC0 (AS os) s)∧T2.map (·.1)=aBN os∧Mm (fun _=>False) w w' (stM bs ca bo br bb no nr nb qa prof os T T2):=by
  have hm0:=hm;obtain ⟨hs0,hob⟩:=hm0
  have hll:(AS os).length≤300000000:=Nat.le_trans (aG2 _) hlen
  obtain ⟨p0,cp0,hp0,sp0⟩:=hs0.op
  subst hp0;have bp0:=sp0.bnd
  refine beg Tryz.func29 rfl rfl [(0,.agg #[vL p0 os.length cp0]),(1,vS prof)] rfl rfl fun Φ hΦ=>?_
  have hM:=Mm.nil (fun _=>False) w
  refine aAq 0 0 2 [] (cs:=#[vL p0 os.length cp0]) (T:=24) (v:=fun b=>vP b 0) f0 hM fun ag w1 hM=>aMw 1 2 23 [(21,vS prof),(22,.agg #[vL p0 os.length cp0])] (f:=arL) (c:=4) (E:=47) (A:=(AS os)) (fc (lam 24 0 0 1 hM rfl) f0) hM (aN5 (hm.fr hM.fr) hvm hlen) fun u w1 hM=>?_
  obtain ⟨ad,ab,eqa79,sqa79⟩:=(hM.src (j:=1) rfl arT.len).op
  subst eqa79
  refine aHl 1 3 24 [] 9 f0 hM fun ac w1 hM=>aHl 1 4 25 [] 9 f0 hM fun aa w1 hM=>aHl 1 5 26 [] 114 f0 hM fun ae w1 hM=>aAq 1 7 28 [(27,.agg #[vS prof,vL ad (AS os).length ab,.map (some ac),.map (some aa),.map (some ae)])] (cs:=#[vS prof,vL ad (AS os).length ab,.map (some ac),.map (some aa),.map (some ae)]) (T:=80) (v:=fun b=>vP b 0) f0 hM fun af w1 hM=>seg 3 0 [(5,vP af 0),(32,vL ad (AS os).length ab),(33,vI ((AS os).length:Int)),(34,vI 0)] (fc (ldm 75 5 1 hM rfl rfl) f0) ?_
  have hM:=aIL (f:=inL) (c:=1) (E:=3) hM
  have hM:Mm (fun _=>False) w _ [bk ag #[vL p0 os.length cp0] 24,rw_ arL 4 47 (vL ad (AS os).length ab) (AS os),mp Tryz.prog 9 aa 0 (fun _=>none),mp Tryz.prog 114 ae 0 (fun _=>none),bk af #[vS prof,vL ad (AS os).length ab,.map (some ac),.map (some aa),.map (some ae)] 80,mp Tryz.prog 9 ac 0 (fun _=>none),aAB inL 1 3 (([]:aE7).map (·.2))]:=hM.pick [0,1,3,4,5,2,6]
  have hM:=hM.cast (M':=[bk ag #[vL p0 os.length cp0] 24,rw_ arL 4 47 (vL ad (AS os).length ab) (AS os),mp Tryz.prog 9 aa 0 (fun _=>none),mp Tryz.prog 114 ae 0 (fun _=>none),bk af #[vS prof,vL ad (AS os).length ab,.map (some ac),.map (some aa),.map (some ae)] 80,mp Tryz.prog 9 ac 0 (aC9 []),aAB inL 1 3 (([]:aE7).map (·.2))]) (by rw [aRo])
  have ap:∀ (al:Nat) (i:Nat) (n:Nat) (T:aE7) (w2:World),i≤(AS os).length→(T.map (·.1)).Nodup→(∀ s,aEr T s=aC0 ((AS os).take i) s)→Mm (fun _=>False) w w2 [bk ag #[vL p0 os.length cp0] 24,rw_ arL 4 47 (vL ad (AS os).length ab) (AS os),mp Tryz.prog 9 aa 0 (fun _=>none),mp Tryz.prog 114 ae 0 (fun _=>none),bk af #[vS prof,vL ad (AS os).length ab,.map (some ac),.map (some aa),.map (some ae)] 80,mp Tryz.prog 9 ac n (aC9 T),aAB inL 1 3 (T.map (·.2))]→al=(AS os).length-i→A29 Φ (some (3,0)) [(34,vI (i:Int)),(33,vI ((AS os).length:Int)),(32,vL ad (AS os).length ab),(5,vP af 0),(2,vP ag 0),(1,vS prof)] w2:=by
   refine aAG fun al aq i n T w2 hi hnd hT hM az=>seg 3 1 [(35,vB (decide ((i:Int)<((AS os).length:Int))))] f0 ?_
   cases h87:(decide ((i:Int)<((AS os).length:Int)))
   rotate_left
   ·have ar:=dt h87
    obtain ⟨y,hy⟩:=geb (l:=AS os) (i:=i) (by omega)
    obtain ⟨a0,am,-⟩:=hM.el arT (j:=1) rfl hy
    refine aAq 4 3 7 [(36,vI (i:Int)),(38,.agg #[vS y.1,vS y.2.1,vS y.2.2.1,vI y.2.2.2])] (cs:=#[vS [],vS [],vS [],vI 0]) (T:=47) (v:=fun b=>vP b 0) (fc (ix 75 ab am (gl hy)) (fc (lar 47 1 0 4 arT hM rfl am hy) f0)) hM fun ak w1 hM=>stm 4 5 [(6,vI (i:Int))] 47 7 0 (.agg #[vS y.1,vS y.2.1,vS y.2.2.1,vI y.2.2.2]) f0 hM rfl fun w1 hM=>?_
    have hM:Mm (fun _=>False) w _ ([bk ag #[vL p0 os.length cp0] 24,rw_ arL 4 47 (vL ad (AS os).length ab) (AS os),mp Tryz.prog 9 aa 0 (fun _=>none),mp Tryz.prog 114 ae 0 (fun _=>none),bk af #[vS prof,vL ad (AS os).length ab,.map (some ac),.map (some aa),.map (some ae)] 80,bk ak #[vS y.1,vS y.2.1,vS y.2.2.1,vI y.2.2.2] 47,mp Tryz.prog 9 ac n (aC9 T)]++[aAB inL 1 3 (T.map (·.2))]):=hM.pick [0,1,2,3,4,7,5,6]
    obtain ⟨v9,ro,hov,hro,hM⟩:=aRl y.1 hnd hM
    obtain ⟨qo,co,rfl,-⟩:=(hM.src (j:=8) rfl inT.len).op
    have hab:=aGX (fun b hb=>(hob b hb).bnd) y (aDF (gm hy))
    have hrl:ro.length≤300000000:=by rw [hro,hT];exact Nat.le_trans (aR9 _ _) (Nat.le_trans (by rw [List.length_take];exact Nat.min_le_right _ _) hll)
    replace hM:Mm (fun _=>False) w _ [bk ag #[vL p0 os.length cp0] 24,_,_,_,bk af #[vS prof,vL ad (AS os).length ab,.map (some ac),.map (some aa),.map (some ae)] 80,bk ak #[vS y.1,vS y.2.1,vS y.2.2.1,vI y.2.2.2] 47,_,_,_]:=hM
    refine seg 5 0 [] f0 ?_
    have hM:=hM.nl
    refine drx [12,14,15,16] (fun γ=>[some (vL qo ro.length co),some (vL (some ⟨(bn (γ 1)),0,none⟩) 1 1),some ((γ 2)),none]) _ (fun γ l=>[bk ag #[vL p0 os.length cp0] 24,rw_ arL 4 47 (vL ad (AS os).length ab) (AS os),mp Tryz.prog 9 aa 0 (fun _=>none),mp Tryz.prog 114 ae 0 (fun _=>none),bk af #[vS prof,vL ad (AS os).length ab,.map (some ac),.map (some aa),.map (some ae)] 80,bk ak #[vS y.1,vS y.2.1,vS y.2.2.1,vI y.2.2.2] 47,(bif l.getD 3 false then mp Tryz.prog 9 ac (n+1) (upd (aC9 T) (vS y.1) ((γ 2))) else mp Tryz.prog 9 ac n (aC9 T)),aAB inL 1 3 ((aCt T y.1).map (·.2)),(bif l.getD 2 false then rw_ inL 1 3 (γ 2) (ro++[(i:Int)]) else rw_ inL 1 3 (vL qo ro.length co) ro),(bif l.getD 1 false then bk (bn (γ 1)) #[vI (i:Int)] 3 else aIY)]) (fun γ=>[]) hM (fun γ=>rfl) (fun γ l w5 hM=>(fc (ldm 76 4 2 hM rfl rfl) (fc (ldm 9 5 0 hM rfl rfl) (fc (ldm 76 4 2 hM rfl rfl) (fc (ldm 9 5 0 hM rfl rfl) f0))))) ⟨aWM 0 12 76 6 51 n ac (aC9 T) (vS y.1) (vL none 0 0) (vL qo ro.length co) aDw u76_ (aDx hab.f1) aNJ hov,aCB 1 14 9 53 (fun γ=>#[vI (i:Int)]) 3 (fun b=>vL (some ⟨b,0,none⟩) 1 1),aVT 2 15 8 54 29 3 0 (fun γ=>vL qo ro.length co) ro [(i:Int)] (fun γ=>(bn (γ 1))) 1 inT (by simp only [List.length_cons,List.length_nil];omega) (fun γ fr wm hM=>aAD (f:=inL) (x:=(i:Int)) (hM.get 9 (e:=bk ((bn (γ 1))) (inL (i:Int)).toArray 3) (by kernel_rfl)) (Nat.lt_succ_self _)),aFE 3 16 76 6 (fun γ=>ac) n (aC9 T) (fun γ=>vS y.1) (fun γ=>(γ 2)) aDw u76_ (fun γ=>(aDx hab.f1)),trivial⟩ fun ai w1 hM=>?_
    replace hM:Mm (fun _=>False) w w1 [bk ag #[vL p0 os.length cp0] 24,_,_,_,bk af #[vS prof,vL ad (AS os).length ab,.map (some ac),.map (some aa),.map (some ae)] 80,bk ak #[vS y.1,vS y.2.1,vS y.2.2.1,vI y.2.2.2] 47,_,_,_,bk (bn (ai 1)) #[vI (i:Int)] 3]:=hM
    have hM:Mm (fun _=>False) w _ ([bk ag #[vL p0 os.length cp0] 24,rw_ arL 4 47 (vL ad (AS os).length ab) (AS os),mp Tryz.prog 9 aa 0 (fun _=>none),mp Tryz.prog 114 ae 0 (fun _=>none),bk af #[vS prof,vL ad (AS os).length ab,.map (some ac),.map (some aa),.map (some ae)] 80,mp Tryz.prog 9 ac (n+1) (upd (aC9 T) (vS y.1) ((ai 2)))]++[aAB inL 1 3 ((aCt T y.1).map (·.2)),rw_ inL 1 3 (ai 2) (ro++[(i:Int)])]):=hM.pick [0,1,2,3,4,6,7,8]
    have hM:=aGV (L':=((y.1,(ai 2),ro++[(i:Int)])::aCt T y.1).map (·.2)) hM (.refl _)
    have e9:(upd (aC9 T) (vS y.1) ((ai 2)))=aC9 ((y.1,(ai 2),ro++[(i:Int)])::aCt T y.1):=aRn T y.1 _ _
    have hM:=hM.cast (M':=[bk ag #[vL p0 os.length cp0] 24,rw_ arL 4 47 (vL ad (AS os).length ab) (AS os),mp Tryz.prog 9 aa 0 (fun _=>none),mp Tryz.prog 114 ae 0 (fun _=>none),bk af #[vS prof,vL ad (AS os).length ab,.map (some ac),.map (some aa),.map (some ae)] 80,mp Tryz.prog 9 ac (n+1) (aC9 ((y.1,(ai 2),ro++[(i:Int)])::aCt T y.1)),aAB inL 1 3 (((y.1,(ai 2),ro++[(i:Int)])::aCt T y.1).map (·.2))]) (by rw [e9];rfl)
    refine seg 3 0 [(34,vI ((i:Int)+1))] (fc (aAe (i:Int) 1 u3_) f0) (aAb _ (aq _ (by omega) (i+1) (n+1) ((y.1,(ai 2),ro++[(i:Int)])::aCt T y.1) _ (gl hy) (aNa hnd _ _ _) (hro▸aRm hT hy) hM rfl))
   have ar:=df h87
   refine seg 8 0 [(57,vL p0 os.length cp0),(58,vI (os.length:Int)),(59,vI 0)] (fc (ldm 22 0 0 hM rfl rfl) f0) ?_
   have hM:=aIL (f:=spL) (c:=2) (E:=141) hM
   have et9:(AS os).take i=AS os:=List.take_of_length_le (by omega)
   rw [et9] at hT
   clear et9
   have hM:Mm (fun _=>False) w _ [bk ag #[vL p0 os.length cp0] 24,rw_ arL 4 47 (vL ad (AS os).length ab) (AS os),bk af #[vS prof,vL ad (AS os).length ab,.map (some ac),.map (some aa),.map (some ae)] 80,mp Tryz.prog 9 ac n (aC9 T),aAB inL 1 3 (T.map (·.2)),mp Tryz.prog 9 aa 0 (fun _=>none),mp Tryz.prog 114 ae 0 (fun _=>none),aAB spL 2 141 ([]:List (Value×List Sp))]:=hM.pick [0,1,4,5,6,2,3,7]
   have hM:=hM.cast (M':=[bk ag #[vL p0 os.length cp0] 24,rw_ arL 4 47 (vL ad (AS os).length ab) (AS os),bk af #[vS prof,vL ad (AS os).length ab,.map (some ac),.map (some aa),.map (some ae)] 80,mp Tryz.prog 9 ac n (aC9 T),aAB inL 1 3 (T.map (·.2)),mp Tryz.prog 9 aa 0 (rdF prof []),mp Tryz.prog 114 ae 0 (setT (aBY prof (os.take 0))),aAB spL 2 141 (hrB [])]) (by rw [aTC,List.take_zero,aRW,aQJ];rfl)
   have au:∀ (an:Nat) (i2:Nat) (n3:Nat) (n4:Nat) (T2:RdT) (w2:World),i2≤os.length→T2.map (·.1)=aBN (os.take i2)→Mm (fun _=>False) w w2 [bk ag #[vL p0 os.length cp0] 24,rw_ arL 4 47 (vL ad (AS os).length ab) (AS os),bk af #[vS prof,vL ad (AS os).length ab,.map (some ac),.map (some aa),.map (some ae)] 80,mp Tryz.prog 9 ac n (aC9 T),aAB inL 1 3 (T.map (·.2)),mp Tryz.prog 9 aa n3 (rdF prof T2),mp Tryz.prog 114 ae n4 (setT (aBY prof (os.take i2))),aAB spL 2 141 (hrB T2)]→an=os.length-i2→A29 Φ (some (8,0)) [(59,vI (i2:Int)),(58,vI (os.length:Int)),(57,vL p0 os.length cp0),(5,vP af 0),(1,vS prof)] w2:=by
    refine aAG fun an aj i2 n3 n4 T2 w2 hi2 hT2 hM a1=>seg 8 1 [(60,vB (decide ((i2:Int)<(os.length:Int))))] f0 ?_
    cases h91:(decide ((i2:Int)<(os.length:Int)))
    ·have av:=df h91
     have e9:os.take i2=os:=List.take_of_length_le (by omega)
     rw [e9] at hT2 hM
     exact rt1 4 (vP af 0) rfl f0 (hΦ _ _ ⟨_,_,_,_,_,_,_,_,_,T,T2,rfl,hnd,hT,hT2,hM.pick [2,1,3,4,5,7,6]⟩)
    have av:=dt h91
    obtain ⟨y2,hy2,a2,a3,q92,aw⟩:=sp0.el (i:=i2) (by omega)
    refine aCh 9 2 9 [(62,.agg #[vS y2.o.id,vI y2.o.kind,vI y2.o.x,vI y2.o.y,vL y2.pr y2.o.refs.length y2.cr,vL y2.pt y2.o.tags.length y2.ct])] [] 64 (.agg #[vS y2.o.id,vI y2.o.kind,vI y2.o.x,vI y2.o.y,vL y2.pr y2.o.refs.length y2.cr,vL y2.pt y2.o.tags.length y2.ct]) (fc (ix 22 cp0 q92 (gl hy2)) (fc (la0 64 hM aw) f0)) hM fun ah w1 hM=>?_
    have hvo:aA5 y2.o=true:=by unfold aAd at hvm;rw [Bool.and_eq_true] at hvm;exact aHU hvm.1 _ (List.mem_map.2 ⟨y2,gm hy2,rfl⟩)
    refine seg 11 2 [(64,vI y2.o.kind),(65,vB (y2.o.kind==2))] (fc (ldm 3 8 1 hM rfl rfl) f0) ?_
    cases h94:(y2.o.kind==2)
    ·have ax:=ef h94
     refine seg 18 2 [(123,vB (y2.o.kind==5))] f0 ?_
     cases h95:(y2.o.kind==5)
     ·have ay:=ef h95
      refine seg 8 0 [(59,vI ((i2:Int)+1))] (fc (aAe (i2:Int) 1 u3_) f0) ?_
      have hM:Mm (fun _=>False) w _ [bk ag #[vL p0 os.length cp0] 24,rw_ arL 4 47 (vL ad (AS os).length ab) (AS os),bk af #[vS prof,vL ad (AS os).length ab,.map (some ac),.map (some aa),.map (some ae)] 80,mp Tryz.prog 9 ac n (aC9 T),aAB inL 1 3 (T.map (·.2)),mp Tryz.prog 9 aa n3 (rdF prof T2),mp Tryz.prog 114 ae n4 (setT (aBY prof (os.take i2))),aAB spL 2 141 (hrB T2)]:=hM.pick [0,1,2,3,4,5,6,7]
      have e9:(rdF prof T2)=rdF prof T2:=rfl
      have e8:(setT (aBY prof (os.take i2)))=(setT (aBY prof (os.take (i2+1)))):=by rw [gt_ hy2,aCy,h95,Bool.and_false];(try rfl)
      have hM:=hM.cast (M':=[bk ag #[vL p0 os.length cp0] 24,rw_ arL 4 47 (vL ad (AS os).length ab) (AS os),bk af #[vS prof,vL ad (AS os).length ab,.map (some ac),.map (some aa),.map (some ae)] 80,mp Tryz.prog 9 ac n (aC9 T),aAB inL 1 3 (T.map (·.2)),mp Tryz.prog 9 aa n3 (rdF prof T2),mp Tryz.prog 114 ae n4 (setT (aBY prof (os.take (i2+1)))),aAB spL 2 141 (hrB T2)]) (by rw [e9,e8];(try rfl))
      exact aAb _ (aj _ (by omega) (i2+1) n3 n4 T2 _ (gl hy2) (by rw [gt_ hy2,aHQ h94,←hT2]) hM rfl)
     have ay:=et h95
     refine seg 19 2 [(126,vB (!(prof==[102,111,111,116])))] (fc (sne 9 prof [102,111,111,116]) f0) ?_
     cases h96:(prof==[102,111,111,116])
     rotate_left
     ·refine seg 8 0 [(59,vI ((i2:Int)+1))] (fc (aAe (i2:Int) 1 u3_) f0) ?_
      have hM:Mm (fun _=>False) w _ [bk ag #[vL p0 os.length cp0] 24,rw_ arL 4 47 (vL ad (AS os).length ab) (AS os),bk af #[vS prof,vL ad (AS os).length ab,.map (some ac),.map (some aa),.map (some ae)] 80,mp Tryz.prog 9 ac n (aC9 T),aAB inL 1 3 (T.map (·.2)),mp Tryz.prog 9 aa n3 (rdF prof T2),mp Tryz.prog 114 ae n4 (setT (aBY prof (os.take i2))),aAB spL 2 141 (hrB T2)]:=hM.pick [0,1,2,3,4,5,6,7]
      have e9:(rdF prof T2)=rdF prof T2:=rfl
      have e8:(setT (aBY prof (os.take i2)))=(setT (aBY prof (os.take (i2+1)))):=by rw [gt_ hy2,aCy,show (prof==aEW)=true from h96];(try rfl)
      have hM:=hM.cast (M':=[bk ag #[vL p0 os.length cp0] 24,rw_ arL 4 47 (vL ad (AS os).length ab) (AS os),bk af #[vS prof,vL ad (AS os).length ab,.map (some ac),.map (some aa),.map (some ae)] 80,mp Tryz.prog 9 ac n (aC9 T),aAB inL 1 3 (T.map (·.2)),mp Tryz.prog 9 aa n3 (rdF prof T2),mp Tryz.prog 114 ae n4 (setT (aBY prof (os.take (i2+1)))),aAB spL 2 141 (hrB T2)]) (by rw [e9,e8];(try rfl))
      exact aAb _ (aj _ (by omega) (i2+1) n3 n4 T2 _ (gl hy2) (by rw [gt_ hy2,aHQ h94,←hT2]) hM rfl)
     have hl3:=aMA hvo (et h95)
     obtain ⟨t0,t1,t2,hr3⟩:∃ t0 t1 t2,y2.o.refs=[t0,t1,t2]:=by
                match h:y2.o.refs,hl3 with
                | [a,b,c],_=>exact ⟨a,b,c,rfl⟩
     obtain ⟨ga,oa,hqa,hra⟩:=aXS (hr3▸(hob _ (gm hy2)).refs)
     have hb3:=(hob _ (gm hy2)).bnd.refs;rw [hr3] at hb3
     refine seg 20 0 [] f0 (drx [8] (fun γ=>[none]) _ (fun γ l=>[bk ag #[vL p0 os.length cp0] 24,rw_ arL 4 47 (vL ad (AS os).length ab) (AS os),bk af #[vS prof,vL ad (AS os).length ab,.map (some ac),.map (some aa),.map (some ae)] 80,mp Tryz.prog 9 ac n (aC9 T),aAB inL 1 3 (T.map (·.2)),mp Tryz.prog 9 aa n3 (rdF prof T2),(bif l.getD 0 false then mp Tryz.prog 114 ae (n4+1) (upd (setT (aBY prof (os.take i2))) (.agg #[vS t0,vS t1,vS t2]) (vB true)) else mp Tryz.prog 114 ae n4 (setT (aBY prof (os.take i2)))),aAB spL 2 141 (hrB T2),bk ah #[vS y2.o.id,vI y2.o.kind,vI y2.o.x,vI y2.o.y,vL y2.pr y2.o.refs.length y2.cr,vL y2.pt y2.o.tags.length y2.ct] 64]) (fun γ=>[]) hM (fun γ=>rfl) (fun γ l w5 hM=>(fc (ldm 78 2 4 hM rfl rfl) (fc (ldm 28 8 4 hM rfl rfl) (fc (aX3 (n:=y2.o.refs.length) (c:=y2.cr) u114_ hqa (by omega)) (fc (la0 114 hM hra) f0))))) ⟨aFE 0 8 78 6 (fun γ=>ae) n4 (setT (aBY prof (os.take i2))) (fun γ => .agg #[vS t0,vS t1,vS t2]) (fun γ=>vB true) aS6 Tryz.underlying78 (fun γ=>(aS9 (a:=(t0,t1,t2)) (hb3 t0 (by simp)) (hb3 t1 (by simp)) (hb3 t2 (by simp)))),trivial⟩ fun a4 w1 hM=>?_)
     replace hM:Mm (fun _=>False) w w1 [bk ag #[vL p0 os.length cp0] 24,_,bk af #[vS prof,vL ad (AS os).length ab,.map (some ac),.map (some aa),.map (some ae)] 80,_,_,_,_,_,bk ah #[vS y2.o.id,vI y2.o.kind,vI y2.o.x,vI y2.o.y,vL y2.pr y2.o.refs.length y2.cr,vL y2.pt y2.o.tags.length y2.ct] 64]:=hM
     refine seg 8 0 [(59,vI ((i2:Int)+1))] (fc (aAe (i2:Int) 1 u3_) f0) ?_
     have hM:Mm (fun _=>False) w _ [bk ag #[vL p0 os.length cp0] 24,rw_ arL 4 47 (vL ad (AS os).length ab) (AS os),bk af #[vS prof,vL ad (AS os).length ab,.map (some ac),.map (some aa),.map (some ae)] 80,mp Tryz.prog 9 ac n (aC9 T),aAB inL 1 3 (T.map (·.2)),mp Tryz.prog 9 aa n3 (rdF prof T2),mp Tryz.prog 114 ae (n4+1) (upd (setT (aBY prof (os.take i2))) (.agg #[vS t0,vS t1,vS t2]) (vB true)),aAB spL 2 141 (hrB T2)]:=hM.pick [0,1,2,3,4,5,6,7]
     have e9:(rdF prof T2)=rdF prof T2:=rfl
     have e8:(upd (setT (aBY prof (os.take i2))) (.agg #[vS t0,vS t1,vS t2]) (vB true))=(setT (aBY prof (os.take (i2+1)))):=by rw [gt_ hy2,aCy,show (prof==aEW)=false from h96,h95,show aTe y2.o=(t0,t1,t2) by unfold aTe;rw [hr3];rfl];exact aQI _ (t0,t1,t2)
     have hM:=hM.cast (M':=[bk ag #[vL p0 os.length cp0] 24,rw_ arL 4 47 (vL ad (AS os).length ab) (AS os),bk af #[vS prof,vL ad (AS os).length ab,.map (some ac),.map (some aa),.map (some ae)] 80,mp Tryz.prog 9 ac n (aC9 T),aAB inL 1 3 (T.map (·.2)),mp Tryz.prog 9 aa n3 (rdF prof T2),mp Tryz.prog 114 ae (n4+1) (setT (aBY prof (os.take (i2+1)))),aAB spL 2 141 (hrB T2)]) (by rw [e9,e8];(try rfl))
     exact aAb _ (aj _ (by omega) (i2+1) n3 (n4+1) T2 _ (gl hy2) (by rw [gt_ hy2,aHQ h94,←hT2]) hM rfl)
    have ax:=et h94
    refine aAr 12 3 71 [(69,vL y2.pt y2.o.tags.length y2.ct),(70,vS prof)] (fc (ldm 62 8 5 hM rfl rfl) f0) hM (aEU ((hob _ (gm hy2)).tags.src.fr hM.fr) prof) fun w1 hM=>aAr 13 2 77 [(10,vS ((aAw y2.o.tags prof).1)),(76,vL y2.pt y2.o.tags.length y2.ct)] (fc (ldm 62 8 5 hM rfl rfl) f0) hM (aEU ((hob _ (gm hy2)).tags.src.fr hM.fr) [111,110,101,119,97,121]) fun w1 hM=>aAr 14 2 83 [(12,vS ((aAw y2.o.tags [111,110,101,119,97,121]).1)),(82,vL y2.pt y2.o.tags.length y2.ct)] (fc (ldm 62 8 5 hM rfl rfl) f0) hM (aEU ((hob _ (gm hy2)).tags.src.fr hM.fr) [115,112,101,101,100]) fun w1 hM=>aAr 15 2 89 [(14,vS ((aAw y2.o.tags [115,112,101,101,100]).1)),(88,vL y2.pt y2.o.tags.length y2.ct)] (fc (ldm 62 8 5 hM rfl rfl) f0) hM (aEU ((hob _ (gm hy2)).tags.src.fr hM.fr) [104,111,117,114,115]) fun w1 hM=>cal 16 1 94 [(17,vB (aAw y2.o.tags [104,111,117,114,115]).2),(93,vS ((aAw y2.o.tags [104,111,117,114,115]).1))] (K:=fun u w8=>∃ v c x,u = .tuple #[v,vI c,vI x]∧(c==0)=aDr y2.o∧aHd spL 2 141 w1 w8 v (aAc y2.o)∧Fr (fun _=>False) w1 w8) f0 ((aOQ (hTe.fr hM.fr).tb (Nat.le_trans (aBQ hvo _) (by decide))).mono fun e w8 ⟨v,c,x,h1,h2⟩=>⟨_,h1,v,c,x,rfl,h2⟩) fun u w1 ⟨v,c,x,hu,hco,hO,f1⟩=>?_
    subst hu
    have hM:=hM.add f1 (rw_ spL 2 141 v (aAc y2.o)) hO.1 hO.2
    obtain ⟨qh,ch,rfl,-⟩:=hO.op spT.len
    refine seg 17 0 [(18,vL qh (aAc y2.o).length ch),(19,vI c)] f0 ?_
    cases h98:((aAw y2.o.tags [111,110,101,119,97,121]).1==[121,101,115])
    ·cases h99:(aAw y2.o.tags [104,111,117,114,115]).2 with
     | false =>
      refine drx [25] (fun γ=>[none]) _ (fun γ l=>[bk ag #[vL p0 os.length cp0] 24,rw_ arL 4 47 (vL ad (AS os).length ab) (AS os),bk af #[vS prof,vL ad (AS os).length ab,.map (some ac),.map (some aa),.map (some ae)] 80,mp Tryz.prog 9 ac n (aC9 T),aAB inL 1 3 (T.map (·.2)),(bif l.getD 0 false then mp Tryz.prog 9 aa (n3+1) (upd (rdF prof T2) (vS y2.o.id) (.agg #[vB ((aAw y2.o.tags prof).1==[110,111]),vB false,vB false,vI (aA6 (aAw y2.o.tags [115,112,101,101,100]).1),vL qh (aAc y2.o).length ch,vL y2.pr y2.o.refs.length y2.cr])) else mp Tryz.prog 9 aa n3 (rdF prof T2)),mp Tryz.prog 114 ae n4 (setT (aBY prof (os.take i2))),aAB spL 2 141 (hrB T2),bk ah #[vS y2.o.id,vI y2.o.kind,vI y2.o.x,vI y2.o.y,vL y2.pr y2.o.refs.length y2.cr,vL y2.pt y2.o.tags.length y2.ct] 64,rw_ spL 2 141 (vL qh (aAc y2.o).length ch) (aAc y2.o)]) (fun γ=>[]) hM (fun γ=>rfl) (fun γ l w5 hM=>(fc (ldm 77 2 3 hM rfl rfl) (fc (ldm 9 8 0 hM rfl rfl) (fc (seq 9 ((aAw y2.o.tags prof).1) [110,111]) (fc (rz (seq 9 ((aAw y2.o.tags [111,110,101,119,97,121]).1) [121,101,115]) h98) (fc (tcl (aDe (s:=(aAw y2.o.tags [115,112,101,101,100]).1) (Nat.le_trans (aBQ hvo _) (by decide)) (hTe.fr hM.fr))) (fc (ldm 28 8 4 hM rfl rfl) f0))))))) ⟨aFE 0 25 77 5 (fun γ=>aa) n3 (rdF prof T2) (fun γ=>vS y2.o.id) (fun γ => .agg #[vB ((aAw y2.o.tags prof).1==[110,111]),vB false,vB false,vI (aA6 (aAw y2.o.tags [115,112,101,101,100]).1),vL qh (aAc y2.o).length ch,vL y2.pr y2.o.refs.length y2.cr]) aDw u77_ (fun γ=>(aDx (hob _ (gm hy2)).bnd.id)),trivial⟩ fun a5 w1 hM=>?_
      replace hM:Mm (fun _=>False) w w1 [bk ag #[vL p0 os.length cp0] 24,_,bk af #[vS prof,vL ad (AS os).length ab,.map (some ac),.map (some aa),.map (some ae)] 80,_,_,_,_,_,bk ah #[vS y2.o.id,vI y2.o.kind,vI y2.o.x,vI y2.o.y,vL y2.pr y2.o.refs.length y2.cr,vL y2.pt y2.o.tags.length y2.ct] 64,_]:=hM
      refine seg 8 0 [(59,vI ((i2:Int)+1))] (fc (aAe (i2:Int) 1 u3_) f0) ?_
      have hM:Mm (fun _=>False) w _ ([bk ag #[vL p0 os.length cp0] 24,rw_ arL 4 47 (vL ad (AS os).length ab) (AS os),bk af #[vS prof,vL ad (AS os).length ab,.map (some ac),.map (some aa),.map (some ae)] 80,mp Tryz.prog 9 ac n (aC9 T),aAB inL 1 3 (T.map (·.2)),mp Tryz.prog 9 aa (n3+1) (upd (rdF prof T2) (vS y2.o.id) (.agg #[vB ((aAw y2.o.tags prof).1==[110,111]),vB false,vB false,vI (aA6 (aAw y2.o.tags [115,112,101,101,100]).1),vL qh (aAc y2.o).length ch,vL y2.pr y2.o.refs.length y2.cr])),mp Tryz.prog 114 ae n4 (setT (aBY prof (os.take i2)))]++[aAB spL 2 141 (hrB T2),rw_ spL 2 141 (vL qh (aAc y2.o).length ch) (aAc y2.o)]):=hM.pick [0,1,2,3,4,5,6,7,9]
      have hM:=aGV (L':=hrB ((y2,vL qh (aAc y2.o).length ch)::T2)) hM (.refl _)
      have hrv : (.agg #[vB ((aAw y2.o.tags prof).1 == [110, 111]), vB false, vB false, vI (aA6 (aAw y2.o.tags [115, 112, 101, 101, 100]).1), vL qh (aAc y2.o).length ch, vL y2.pr y2.o.refs.length y2.cr]) = aFI prof y2 (vL qh (aAc y2.o).length ch) := by
                 have hf:(prof==aEW)=(prof==[102,111,111,116]):=rfl
                 simp only [aFI,aAt,rfV,hf,←hco,h87,h91,h98,h99]<;>rfl
      have e9:(upd (rdF prof T2) (vS y2.o.id) (.agg #[vB ((aAw y2.o.tags prof).1==[110,111]),vB false,vB false,vI (aA6 (aAw y2.o.tags [115,112,101,101,100]).1),vL qh (aAc y2.o).length ch,vL y2.pr y2.o.refs.length y2.cr]))=rdF prof ((y2,vL qh (aAc y2.o).length ch)::T2):=(congrArg (upd (rdF prof T2) (vS y2.o.id)) hrv).trans (aIn prof T2 y2 _)
      have e8:(setT (aBY prof (os.take i2)))=(setT (aBY prof (os.take (i2+1)))):=by rw [gt_ hy2,aCy,show (y2.o.kind==5)=false by rw [et h94];rfl,Bool.and_false];(try rfl)
      have hM:=hM.cast (M':=[bk ag #[vL p0 os.length cp0] 24,rw_ arL 4 47 (vL ad (AS os).length ab) (AS os),bk af #[vS prof,vL ad (AS os).length ab,.map (some ac),.map (some aa),.map (some ae)] 80,mp Tryz.prog 9 ac n (aC9 T),aAB inL 1 3 (T.map (·.2)),mp Tryz.prog 9 aa (n3+1) (rdF prof ((y2,vL qh (aAc y2.o).length ch)::T2)),mp Tryz.prog 114 ae n4 (setT (aBY prof (os.take (i2+1)))),aAB spL 2 141 (hrB ((y2,vL qh (aAc y2.o).length ch)::T2))]) (by rw [e9,e8];(try rfl))
      exact aAb _ (aj _ (by omega) (i2+1) (n3+1) n4 ((y2,vL qh (aAc y2.o).length ch)::T2) _ (gl hy2) (by rw [gt_ hy2,aE8 h94,←hT2];rfl) hM rfl)
     | true =>
      refine drx [25] (fun γ=>[none]) _ (fun γ l=>[bk ag #[vL p0 os.length cp0] 24,rw_ arL 4 47 (vL ad (AS os).length ab) (AS os),bk af #[vS prof,vL ad (AS os).length ab,.map (some ac),.map (some aa),.map (some ae)] 80,mp Tryz.prog 9 ac n (aC9 T),aAB inL 1 3 (T.map (·.2)),(bif l.getD 0 false then mp Tryz.prog 9 aa (n3+1) (upd (rdF prof T2) (vS y2.o.id) (.agg #[vB ((aAw y2.o.tags prof).1==[110,111]),vB false,vB (c==0),vI (aA6 (aAw y2.o.tags [115,112,101,101,100]).1),vL qh (aAc y2.o).length ch,vL y2.pr y2.o.refs.length y2.cr])) else mp Tryz.prog 9 aa n3 (rdF prof T2)),mp Tryz.prog 114 ae n4 (setT (aBY prof (os.take i2))),aAB spL 2 141 (hrB T2),bk ah #[vS y2.o.id,vI y2.o.kind,vI y2.o.x,vI y2.o.y,vL y2.pr y2.o.refs.length y2.cr,vL y2.pt y2.o.tags.length y2.ct] 64,rw_ spL 2 141 (vL qh (aAc y2.o).length ch) (aAc y2.o)]) (fun γ=>[]) hM (fun γ=>rfl) (fun γ l w5 hM=>(fc (ldm 77 2 3 hM rfl rfl) (fc (ldm 9 8 0 hM rfl rfl) (fc (seq 9 ((aAw y2.o.tags prof).1) [110,111]) (fc (rz (seq 9 ((aAw y2.o.tags [111,110,101,119,97,121]).1) [121,101,115]) h98) (fc (tcl (aDe (s:=(aAw y2.o.tags [115,112,101,101,100]).1) (Nat.le_trans (aBQ hvo _) (by decide)) (hTe.fr hM.fr))) (fc (ldm 28 8 4 hM rfl rfl) f0))))))) ⟨aFE 0 25 77 5 (fun γ=>aa) n3 (rdF prof T2) (fun γ=>vS y2.o.id) (fun γ => .agg #[vB ((aAw y2.o.tags prof).1==[110,111]),vB false,vB (c==0),vI (aA6 (aAw y2.o.tags [115,112,101,101,100]).1),vL qh (aAc y2.o).length ch,vL y2.pr y2.o.refs.length y2.cr]) aDw u77_ (fun γ=>(aDx (hob _ (gm hy2)).bnd.id)),trivial⟩ fun a6 w1 hM=>?_
      replace hM:Mm (fun _=>False) w w1 [bk ag #[vL p0 os.length cp0] 24,_,bk af #[vS prof,vL ad (AS os).length ab,.map (some ac),.map (some aa),.map (some ae)] 80,_,_,_,_,_,bk ah #[vS y2.o.id,vI y2.o.kind,vI y2.o.x,vI y2.o.y,vL y2.pr y2.o.refs.length y2.cr,vL y2.pt y2.o.tags.length y2.ct] 64,_]:=hM
      refine seg 8 0 [(59,vI ((i2:Int)+1))] (fc (aAe (i2:Int) 1 u3_) f0) ?_
      have hM:Mm (fun _=>False) w _ ([bk ag #[vL p0 os.length cp0] 24,rw_ arL 4 47 (vL ad (AS os).length ab) (AS os),bk af #[vS prof,vL ad (AS os).length ab,.map (some ac),.map (some aa),.map (some ae)] 80,mp Tryz.prog 9 ac n (aC9 T),aAB inL 1 3 (T.map (·.2)),mp Tryz.prog 9 aa (n3+1) (upd (rdF prof T2) (vS y2.o.id) (.agg #[vB ((aAw y2.o.tags prof).1==[110,111]),vB false,vB (c==0),vI (aA6 (aAw y2.o.tags [115,112,101,101,100]).1),vL qh (aAc y2.o).length ch,vL y2.pr y2.o.refs.length y2.cr])),mp Tryz.prog 114 ae n4 (setT (aBY prof (os.take i2)))]++[aAB spL 2 141 (hrB T2),rw_ spL 2 141 (vL qh (aAc y2.o).length ch) (aAc y2.o)]):=hM.pick [0,1,2,3,4,5,6,7,9]
      have hM:=aGV (L':=hrB ((y2,vL qh (aAc y2.o).length ch)::T2)) hM (.refl _)
      have hrv : (.agg #[vB ((aAw y2.o.tags prof).1 == [110, 111]), vB false, vB (c == 0), vI (aA6 (aAw y2.o.tags [115, 112, 101, 101, 100]).1), vL qh (aAc y2.o).length ch, vL y2.pr y2.o.refs.length y2.cr]) = aFI prof y2 (vL qh (aAc y2.o).length ch) := by
                 have hf:(prof==aEW)=(prof==[102,111,111,116]):=rfl
                 simp only [aFI,aAt,rfV,hf,←hco,h87,h91,h98,h99]<;>rfl
      have e9:(upd (rdF prof T2) (vS y2.o.id) (.agg #[vB ((aAw y2.o.tags prof).1==[110,111]),vB false,vB (c==0),vI (aA6 (aAw y2.o.tags [115,112,101,101,100]).1),vL qh (aAc y2.o).length ch,vL y2.pr y2.o.refs.length y2.cr]))=rdF prof ((y2,vL qh (aAc y2.o).length ch)::T2):=(congrArg (upd (rdF prof T2) (vS y2.o.id)) hrv).trans (aIn prof T2 y2 _)
      have e8:(setT (aBY prof (os.take i2)))=(setT (aBY prof (os.take (i2+1)))):=by rw [gt_ hy2,aCy,show (y2.o.kind==5)=false by rw [et h94];rfl,Bool.and_false];(try rfl)
      have hM:=hM.cast (M':=[bk ag #[vL p0 os.length cp0] 24,rw_ arL 4 47 (vL ad (AS os).length ab) (AS os),bk af #[vS prof,vL ad (AS os).length ab,.map (some ac),.map (some aa),.map (some ae)] 80,mp Tryz.prog 9 ac n (aC9 T),aAB inL 1 3 (T.map (·.2)),mp Tryz.prog 9 aa (n3+1) (rdF prof ((y2,vL qh (aAc y2.o).length ch)::T2)),mp Tryz.prog 114 ae n4 (setT (aBY prof (os.take (i2+1)))),aAB spL 2 141 (hrB ((y2,vL qh (aAc y2.o).length ch)::T2))]) (by rw [e9,e8];(try rfl))
      exact aAb _ (aj _ (by omega) (i2+1) (n3+1) n4 ((y2,vL qh (aAc y2.o).length ch)::T2) _ (gl hy2) (by rw [gt_ hy2,aE8 h94,←hT2];rfl) hM rfl)
    cases ao:(aAw y2.o.tags [104,111,117,114,115]).2 with
    | false =>
     refine drx [25] (fun γ=>[none]) _ (fun γ l=>[bk ag #[vL p0 os.length cp0] 24,rw_ arL 4 47 (vL ad (AS os).length ab) (AS os),bk af #[vS prof,vL ad (AS os).length ab,.map (some ac),.map (some aa),.map (some ae)] 80,mp Tryz.prog 9 ac n (aC9 T),aAB inL 1 3 (T.map (·.2)),(bif l.getD 0 false then mp Tryz.prog 9 aa (n3+1) (upd (rdF prof T2) (vS y2.o.id) (.agg #[vB ((aAw y2.o.tags prof).1==[110,111]),vB (!(prof==[102,111,111,116])),vB false,vI (aA6 (aAw y2.o.tags [115,112,101,101,100]).1),vL qh (aAc y2.o).length ch,vL y2.pr y2.o.refs.length y2.cr])) else mp Tryz.prog 9 aa n3 (rdF prof T2)),mp Tryz.prog 114 ae n4 (setT (aBY prof (os.take i2))),aAB spL 2 141 (hrB T2),bk ah #[vS y2.o.id,vI y2.o.kind,vI y2.o.x,vI y2.o.y,vL y2.pr y2.o.refs.length y2.cr,vL y2.pt y2.o.tags.length y2.ct] 64,rw_ spL 2 141 (vL qh (aAc y2.o).length ch) (aAc y2.o)]) (fun γ=>[]) hM (fun γ=>rfl) (fun γ l w5 hM=>(fc (ldm 77 2 3 hM rfl rfl) (fc (ldm 9 8 0 hM rfl rfl) (fc (seq 9 ((aAw y2.o.tags prof).1) [110,111]) (fc (rz (seq 9 ((aAw y2.o.tags [111,110,101,119,97,121]).1) [121,101,115]) h98) (fc (sne 9 prof [102,111,111,116]) (fc (tcl (aDe (s:=(aAw y2.o.tags [115,112,101,101,100]).1) (Nat.le_trans (aBQ hvo _) (by decide)) (hTe.fr hM.fr))) (fc (ldm 28 8 4 hM rfl rfl) f0)))))))) ⟨aFE 0 25 77 5 (fun γ=>aa) n3 (rdF prof T2) (fun γ=>vS y2.o.id) (fun γ => .agg #[vB ((aAw y2.o.tags prof).1==[110,111]),vB (!(prof==[102,111,111,116])),vB false,vI (aA6 (aAw y2.o.tags [115,112,101,101,100]).1),vL qh (aAc y2.o).length ch,vL y2.pr y2.o.refs.length y2.cr]) aDw u77_ (fun γ=>(aDx (hob _ (gm hy2)).bnd.id)),trivial⟩ fun a7 w1 hM=>?_
     replace hM:Mm (fun _=>False) w w1 [bk ag #[vL p0 os.length cp0] 24,_,bk af #[vS prof,vL ad (AS os).length ab,.map (some ac),.map (some aa),.map (some ae)] 80,_,_,_,_,_,bk ah #[vS y2.o.id,vI y2.o.kind,vI y2.o.x,vI y2.o.y,vL y2.pr y2.o.refs.length y2.cr,vL y2.pt y2.o.tags.length y2.ct] 64,_]:=hM
     refine seg 8 0 [(59,vI ((i2:Int)+1))] (fc (aAe (i2:Int) 1 u3_) f0) ?_
     have hM:Mm (fun _=>False) w _ ([bk ag #[vL p0 os.length cp0] 24,rw_ arL 4 47 (vL ad (AS os).length ab) (AS os),bk af #[vS prof,vL ad (AS os).length ab,.map (some ac),.map (some aa),.map (some ae)] 80,mp Tryz.prog 9 ac n (aC9 T),aAB inL 1 3 (T.map (·.2)),mp Tryz.prog 9 aa (n3+1) (upd (rdF prof T2) (vS y2.o.id) (.agg #[vB ((aAw y2.o.tags prof).1==[110,111]),vB (!(prof==[102,111,111,116])),vB false,vI (aA6 (aAw y2.o.tags [115,112,101,101,100]).1),vL qh (aAc y2.o).length ch,vL y2.pr y2.o.refs.length y2.cr])),mp Tryz.prog 114 ae n4 (setT (aBY prof (os.take i2)))]++[aAB spL 2 141 (hrB T2),rw_ spL 2 141 (vL qh (aAc y2.o).length ch) (aAc y2.o)]):=hM.pick [0,1,2,3,4,5,6,7,9]
     have hM:=aGV (L':=hrB ((y2,vL qh (aAc y2.o).length ch)::T2)) hM (.refl _)
     have hrv : (.agg #[vB ((aAw y2.o.tags prof).1 == [110, 111]), vB (!(prof == [102, 111, 111, 116])), vB false, vI (aA6 (aAw y2.o.tags [115, 112, 101, 101, 100]).1), vL qh (aAc y2.o).length ch, vL y2.pr y2.o.refs.length y2.cr]) = aFI prof y2 (vL qh (aAc y2.o).length ch) := by
                have hf:(prof==aEW)=(prof==[102,111,111,116]):=rfl
                simp only [aFI,aAt,rfV,hf,←hco,h87,h91,h98,ao]<;>rfl
     have e9:(upd (rdF prof T2) (vS y2.o.id) (.agg #[vB ((aAw y2.o.tags prof).1==[110,111]),vB (!(prof==[102,111,111,116])),vB false,vI (aA6 (aAw y2.o.tags [115,112,101,101,100]).1),vL qh (aAc y2.o).length ch,vL y2.pr y2.o.refs.length y2.cr]))=rdF prof ((y2,vL qh (aAc y2.o).length ch)::T2):=(congrArg (upd (rdF prof T2) (vS y2.o.id)) hrv).trans (aIn prof T2 y2 _)
     have e8:(setT (aBY prof (os.take i2)))=(setT (aBY prof (os.take (i2+1)))):=by rw [gt_ hy2,aCy,show (y2.o.kind==5)=false by rw [et h94];rfl,Bool.and_false];(try rfl)
     have hM:=hM.cast (M':=[bk ag #[vL p0 os.length cp0] 24,rw_ arL 4 47 (vL ad (AS os).length ab) (AS os),bk af #[vS prof,vL ad (AS os).length ab,.map (some ac),.map (some aa),.map (some ae)] 80,mp Tryz.prog 9 ac n (aC9 T),aAB inL 1 3 (T.map (·.2)),mp Tryz.prog 9 aa (n3+1) (rdF prof ((y2,vL qh (aAc y2.o).length ch)::T2)),mp Tryz.prog 114 ae n4 (setT (aBY prof (os.take (i2+1)))),aAB spL 2 141 (hrB ((y2,vL qh (aAc y2.o).length ch)::T2))]) (by rw [e9,e8];(try rfl))
     exact aAb _ (aj _ (by omega) (i2+1) (n3+1) n4 ((y2,vL qh (aAc y2.o).length ch)::T2) _ (gl hy2) (by rw [gt_ hy2,aE8 h94,←hT2];rfl) hM rfl)
    | true =>
     refine drx [25] (fun γ=>[none]) _ (fun γ l=>[bk ag #[vL p0 os.length cp0] 24,rw_ arL 4 47 (vL ad (AS os).length ab) (AS os),bk af #[vS prof,vL ad (AS os).length ab,.map (some ac),.map (some aa),.map (some ae)] 80,mp Tryz.prog 9 ac n (aC9 T),aAB inL 1 3 (T.map (·.2)),(bif l.getD 0 false then mp Tryz.prog 9 aa (n3+1) (upd (rdF prof T2) (vS y2.o.id) (.agg #[vB ((aAw y2.o.tags prof).1==[110,111]),vB (!(prof==[102,111,111,116])),vB (c==0),vI (aA6 (aAw y2.o.tags [115,112,101,101,100]).1),vL qh (aAc y2.o).length ch,vL y2.pr y2.o.refs.length y2.cr])) else mp Tryz.prog 9 aa n3 (rdF prof T2)),mp Tryz.prog 114 ae n4 (setT (aBY prof (os.take i2))),aAB spL 2 141 (hrB T2),bk ah #[vS y2.o.id,vI y2.o.kind,vI y2.o.x,vI y2.o.y,vL y2.pr y2.o.refs.length y2.cr,vL y2.pt y2.o.tags.length y2.ct] 64,rw_ spL 2 141 (vL qh (aAc y2.o).length ch) (aAc y2.o)]) (fun γ=>[]) hM (fun γ=>rfl) (fun γ l w5 hM=>(fc (ldm 77 2 3 hM rfl rfl) (fc (ldm 9 8 0 hM rfl rfl) (fc (seq 9 ((aAw y2.o.tags prof).1) [110,111]) (fc (rz (seq 9 ((aAw y2.o.tags [111,110,101,119,97,121]).1) [121,101,115]) h98) (fc (sne 9 prof [102,111,111,116]) (fc (tcl (aDe (s:=(aAw y2.o.tags [115,112,101,101,100]).1) (Nat.le_trans (aBQ hvo _) (by decide)) (hTe.fr hM.fr))) (fc (ldm 28 8 4 hM rfl rfl) f0)))))))) ⟨aFE 0 25 77 5 (fun γ=>aa) n3 (rdF prof T2) (fun γ=>vS y2.o.id) (fun γ => .agg #[vB ((aAw y2.o.tags prof).1==[110,111]),vB (!(prof==[102,111,111,116])),vB (c==0),vI (aA6 (aAw y2.o.tags [115,112,101,101,100]).1),vL qh (aAc y2.o).length ch,vL y2.pr y2.o.refs.length y2.cr]) aDw u77_ (fun γ=>(aDx (hob _ (gm hy2)).bnd.id)),trivial⟩ fun a8 w1 hM=>?_
     replace hM:Mm (fun _=>False) w w1 [bk ag #[vL p0 os.length cp0] 24,_,bk af #[vS prof,vL ad (AS os).length ab,.map (some ac),.map (some aa),.map (some ae)] 80,_,_,_,_,_,bk ah #[vS y2.o.id,vI y2.o.kind,vI y2.o.x,vI y2.o.y,vL y2.pr y2.o.refs.length y2.cr,vL y2.pt y2.o.tags.length y2.ct] 64,_]:=hM
     refine seg 8 0 [(59,vI ((i2:Int)+1))] (fc (aAe (i2:Int) 1 u3_) f0) ?_
     have hM:Mm (fun _=>False) w _ ([bk ag #[vL p0 os.length cp0] 24,rw_ arL 4 47 (vL ad (AS os).length ab) (AS os),bk af #[vS prof,vL ad (AS os).length ab,.map (some ac),.map (some aa),.map (some ae)] 80,mp Tryz.prog 9 ac n (aC9 T),aAB inL 1 3 (T.map (·.2)),mp Tryz.prog 9 aa (n3+1) (upd (rdF prof T2) (vS y2.o.id) (.agg #[vB ((aAw y2.o.tags prof).1==[110,111]),vB (!(prof==[102,111,111,116])),vB (c==0),vI (aA6 (aAw y2.o.tags [115,112,101,101,100]).1),vL qh (aAc y2.o).length ch,vL y2.pr y2.o.refs.length y2.cr])),mp Tryz.prog 114 ae n4 (setT (aBY prof (os.take i2)))]++[aAB spL 2 141 (hrB T2),rw_ spL 2 141 (vL qh (aAc y2.o).length ch) (aAc y2.o)]):=hM.pick [0,1,2,3,4,5,6,7,9]
     have hM:=aGV (L':=hrB ((y2,vL qh (aAc y2.o).length ch)::T2)) hM (.refl _)
     have hrv : (.agg #[vB ((aAw y2.o.tags prof).1 == [110, 111]), vB (!(prof == [102, 111, 111, 116])), vB (c == 0), vI (aA6 (aAw y2.o.tags [115, 112, 101, 101, 100]).1), vL qh (aAc y2.o).length ch, vL y2.pr y2.o.refs.length y2.cr]) = aFI prof y2 (vL qh (aAc y2.o).length ch) := by
                have hf:(prof==aEW)=(prof==[102,111,111,116]):=rfl
                simp only [aFI,aAt,rfV,hf,←hco,h87,h91,h98,ao]<;>rfl
     have e9:(upd (rdF prof T2) (vS y2.o.id) (.agg #[vB ((aAw y2.o.tags prof).1==[110,111]),vB (!(prof==[102,111,111,116])),vB (c==0),vI (aA6 (aAw y2.o.tags [115,112,101,101,100]).1),vL qh (aAc y2.o).length ch,vL y2.pr y2.o.refs.length y2.cr]))=rdF prof ((y2,vL qh (aAc y2.o).length ch)::T2):=(congrArg (upd (rdF prof T2) (vS y2.o.id)) hrv).trans (aIn prof T2 y2 _)
     have e8:(setT (aBY prof (os.take i2)))=(setT (aBY prof (os.take (i2+1)))):=by rw [gt_ hy2,aCy,show (y2.o.kind==5)=false by rw [et h94];rfl,Bool.and_false];(try rfl)
     have hM:=hM.cast (M':=[bk ag #[vL p0 os.length cp0] 24,rw_ arL 4 47 (vL ad (AS os).length ab) (AS os),bk af #[vS prof,vL ad (AS os).length ab,.map (some ac),.map (some aa),.map (some ae)] 80,mp Tryz.prog 9 ac n (aC9 T),aAB inL 1 3 (T.map (·.2)),mp Tryz.prog 9 aa (n3+1) (rdF prof ((y2,vL qh (aAc y2.o).length ch)::T2)),mp Tryz.prog 114 ae n4 (setT (aBY prof (os.take (i2+1)))),aAB spL 2 141 (hrB ((y2,vL qh (aAc y2.o).length ch)::T2))]) (by rw [e9,e8];(try rfl))
     exact aAb _ (aj _ (by omega) (i2+1) (n3+1) n4 ((y2,vL qh (aAc y2.o).length ch)::T2) _ (gl hy2) (by rw [gt_ hy2,aE8 h94,←hT2];rfl) hM rfl)
   exact aAb _ (au _ 0 0 0 [] _ (Nat.zero_le _) rfl hM rfl)
  exact aAb _ (ap _ 0 0 [] _ (Nat.zero_le _) List.nodup_nil (fun s=>rfl) hM rfl)
def fwd (a b:Bys):List Bys→Bool
  | x::y::t=>((x==a)&&(y==b))||fwd a b (y::t)
  | _=>false
theorem aHF {a b x y:Bys}{rs:List Bys}{m:Nat}(hx:rs[m]?=some x) (hy:rs[m+1]?=some y):fwd a b (rs.drop m)=(((x==a)&&(y==b))||fwd a b (rs.drop (m+1))):=by
  rw [gd hx,gd hy];rfl
theorem aP5 {a b:Bys}{rs:List Bys}{m:Nat}(h:rs.length≤m+1):fwd a b (rs.drop m)=false:=by
  have:(rs.drop m).length≤1:=by rw [List.length_drop];omega
  cases h1:rs.drop m with
  | nil=>rfl
  | cons x t =>
    cases t with
    | nil=>rfl
    | cons y t=>rw [h1] at this;simp at this
abbrev A99 (Φ:Ending→World→Prop):=AtO Tryz.prog (aAf Tryz.f99) (aAo (bodyPost Tryz.prog Tryz.f99 Φ)) [] 32
theorem aIC {w:World}{cl ow li:Bool}{sp:Int}{hv:Value}{pr:Option Addr}{cr:Nat}{rs:List Bys}(hs:SrcP stL 1 w pr cr rs) (a b:Bys):Calls Tryz.prog 99 #[.agg #[vB cl,vB ow,vB li,vI sp,hv,vL pr rs.length cr],vS a,vS b] w fun e w'=>e = .returned (vB (fwd a b rs))∧Fr (fun _=>False) w w':=by
  have bb:=hs.bnd
  refine beg Tryz.func99 rfl rfl [(0,.agg #[vB cl,vB ow,vB li,vI sp,hv,vL pr rs.length cr]),(1,vS a),(2,vS b)] rfl rfl fun Φ hΦ=>?_
  have hM:=Mm.nil (fun _=>False) w
  refine aAq 0 0 3 [] (cs:=#[vB cl,vB ow,vB li,vI sp,hv,vL pr rs.length cr]) (T:=113) (v:=fun b=>vP b 0) f0 hM fun ab w1 hM=>seg 2 0 [(7,vI 1)] f0 ?_
  have ag:∀ (ac:Nat) (m:Nat) (w2:World),m≤rs.length→fwd a b rs=fwd a b (rs.drop m)→Mm (fun _=>False) w w2 [bk ab #[vB cl,vB ow,vB li,vI sp,hv,vL pr rs.length cr] 113]→ac=rs.length-m→A99 Φ (some (2,0)) [(7,vI ((m:Int)+1)),(3,vP ab 0),(1,vS a),(2,vS b)] w2:=by
   refine aAG fun ac ad m w2 hm hf hM am=>seg 2 5 [(12,vB (decide (((m:Int)+1)<(rs.length:Int))))] (fc (ldm 28 0 5 hM rfl rfl) f0) ?_
   cases ae:(decide (((m:Int)+1)<(rs.length:Int)))
   ·have ah:=df ae
    exact rt1 6 (vB false) rfl f0 (hΦ _ _ ⟨by rw [hf,aP5 (by omega)],hM.fr⟩)
   have ah:=dt ae
   obtain ⟨y1,hy1,an,ao,ai,aj⟩:=hs.el (i:=m) (by omega)
   refine seg 4 9 [(23,vB (y1==a))] (fc (ldm 28 0 5 hM rfl rfl) (fc (aBq ((m:Int)+1) 1 u3_) (fc (ix 28 cr ai (gl hy1) (z:=(((m:Int)+1)-1)) (hz:=(by omega))) (fc (ld0 9 hM (aj 0 _ rfl)) (fc (seq 9 y1 a) f0))))) ?_
   cases aa:(y1==a)
   ·refine seg 2 0 [(7,vI (((m:Int)+1)+1))] (fc (aAe ((m:Int)+1) 1 u3_) f0) ?_
    obtain ⟨y2,hy2,ap,aq,ar,au⟩:=hs.el (i:=(m+1)) (by omega)
    exact aAb _ (ad _ (by omega) (m+1) _ (by have:=gl hy2;omega) (by rw [hf,aHF hy1 hy2];simp only [aa]<;>rfl) hM rfl)
   obtain ⟨y2,hy2,av,aw,ak,al⟩:=hs.el (i:=(m+1)) (by omega)
   refine seg 4 17 [(31,vB (y2==b))] (fc (ldm 28 0 5 hM rfl rfl) (fc (ix 28 cr ak (gl hy2)) (fc (ld0 9 hM (al 0 _ rfl)) (fc (seq 9 y2 b) f0)))) ?_
   cases af:(y2==b)
   ·refine seg 2 0 [(7,vI (((m:Int)+1)+1))] (fc (aAe ((m:Int)+1) 1 u3_) f0) (aAb _ (ad _ (by omega) (m+1) _ (by have:=gl hy2;omega) (by rw [hf,aHF hy1 hy2];simp only [aa,af]<;>rfl) hM rfl))
   exact rt1 6 (vB true) rfl f0 (hΦ _ _ ⟨by rw [hf,aHF hy1 hy2];simp only [aa,af]<;>rfl,hM.fr⟩)
  exact aAb _ (ag _ 0 _ (Nat.zero_le _) rfl hM rfl)
structure StF (w:World) (bs ca bo br bb no nr nb:Nat) (qa:Option Addr) (prof:Bys) (os:List ObR) (T:aE7) (T2:RdT):Prop where
  blk:w.heap[bs]?=some (.cells #[vS prof,vL qa (AS os).length ca,.map (some bo),.map (some br),.map (some bb)] 80 (0,0))
  arcs:SrcP arL 4 w qa ca (AS os)
  out:aDs Tryz.prog 9 w bo no (aC9 T)
  rows:∀ x∈T,Src inL 1 w x.2.1 x.2.2
  rds:aDs Tryz.prog 9 w br nr (rdF prof T2)
  hrs:∀ x∈T2,Src spL 2 w x.2 (aAc x.1.o)
  refs:∀ x∈T2,SrcP stL 1 w x.1.pr x.1.cr x.1.o.refs
  ban:aDs Tryz.prog 114 w bb nb (setT (aBY prof os))
  ok:∀ a∈AS os,ArcB a
theorem StF.fr {w w':World}{bs ca bo br bb no nr nb:Nat}{qa:Option Addr}{prof:Bys}{os:List ObR}{T:aE7}{T2:RdT}(h:StF w bs ca bo br bb no nr nb qa prof os T T2) (f:Fr (fun _=>False) w w'):StF w' bs ca bo br bb no nr nb qa prof os T T2 :=
  ⟨f.obj h.blk id,h.arcs.fr f,h.out.fr f id,fun x hx=>(h.rows x hx).fr f,h.rds.fr f id,fun x hx=>(h.hrs x hx).fr f,fun x hx=>(h.refs x hx).fr f,h.ban.fr f id,h.ok⟩
def aEp (prof:Bys) (os:List ObR) (a b:Arc):Bool:=(a.2.1==b.1) && !((aBY prof os).contains (a.2.2.1,a.2.1,b.2.2.1))
theorem aIT {w:World}{bs ca bo br bb no nr nb:Nat}{qa:Option Addr}{prof:Bys}{os:List ObR}{T:aE7}{T2:RdT}(hS:StF w bs ca bo br bb no nr nb qa prof os T T2) {i k:Nat}(hi:i<(AS os).length) (hk:k<(AS os).length):Calls Tryz.prog 66 #[vP bs 0,vI (i:Int),vI (k:Int)] w fun e w'=>(∃ a b,(AS os)[i]?=some a∧(AS os)[k]?=some b∧e = .returned (vB (aEp prof os a b)))∧Fr (fun _=>False) w w':=by
  refine beg Tryz.func66 rfl rfl [(0,vP bs 0),(1,vI (i:Int)),(2,vI (k:Int))] rfl rfl fun Φ hΦ=>?_
  have hM:=Mm.nil (fun _=>False) w
  obtain ⟨a9,ha9⟩:=geb (l:=AS os) (i:=i) hi
  obtain ⟨b9,hb9⟩:=geb (l:=AS os) (i:=k) hk
  refine seg 1 0 [] f0 ?_
  obtain ⟨a,ha,ag,ah,ac,ad⟩:=hS.arcs.el (i:=i) (by omega)
  obtain ⟨b,hb,ai,aj,ae,af⟩:=hS.arcs.el (i:=k) (by omega)
  have hM:=hM.nl
  have hM:=hM.nl
  refine drx [14,15,16,17] (fun γ=>[some (vP (bn (γ 0)) 0),some (vP (bn (γ 1)) 0),none,none]) _ (fun γ l=>[(bif l.getD 2 false then bk (bn (γ 0)) #[vS a.1,vS a.2.1,vS a.2.2.1,vI a.2.2.2] 47 else (bif l.getD 0 false then bk (bn (γ 0)) #[vS [],vS [],vS [],vI 0] 47 else aIY)),(bif l.getD 3 false then bk (bn (γ 1)) #[vS b.1,vS b.2.1,vS b.2.2.1,vI b.2.2.2] 47 else (bif l.getD 1 false then bk (bn (γ 1)) #[vS [],vS [],vS [],vI 0] 47 else aIY))]) (fun γ=>[(7,vP (bn (γ 0)) 0),(8,vP (bn (γ 1)) 0)]) hM (fun γ=>rfl) (fun γ l w5 hM=>(fc (ld0 75 hM (bx hS.blk 1 rfl)) (fc (ix 75 ca ac (gl ha)) (fc (la0 47 hM ad) (fc (ld0 75 hM (bx hS.blk 1 rfl)) (fc (ix 75 ca ae (gl hb)) (fc (la0 47 hM af) f0))))))) ⟨aCB 0 14 0 7 (fun γ=>#[vS [],vS [],vS [],vI 0]) 47 (fun b=>vP b 0),aCB 1 15 1 8 (fun γ=>#[vS [],vS [],vS [],vI 0]) 47 (fun b=>vP b 0),aB7 2 16 47 0 0 (fun γ=>(bn (γ 0))) (fun γ l=>#[vS [],vS [],vS [],vI 0]) 47 (fun γ => .agg #[vS a.1,vS a.2.1,vS a.2.2.1,vI a.2.2.2]),aB7 3 17 47 1 0 (fun γ=>(bn (γ 1))) (fun γ l=>#[vS [],vS [],vS [],vI 0]) 47 (fun γ => .agg #[vS b.1,vS b.2.1,vS b.2.2.1,vI b.2.2.2]),trivial⟩ fun ab w1 hM=>?_
  replace hM:Mm (fun _=>False) w w1 [bk (bn (ab 0)) #[vS a.1,vS a.2.1,vS a.2.2.1,vI a.2.2.2] 47,bk (bn (ab 1)) #[vS b.1,vS b.2.1,vS b.2.2.1,vI b.2.2.2] 47]:=hM
  refine seg 2 0 [] f0 ?_
  cases aa:(a.2.1==b.1)
  ·have hM:=hM.q ((Fr.refl _ _).drew)
   refine drq [(6,vB false)] rfl (fc (ldm 9 0 1 hM rfl rfl) (fc (ldm 9 1 0 hM rfl rfl) (fc (rz (seq 9 a.2.1 b.1) aa) f0))) (rt1 6 (vB false) rfl f0 (hΦ _ _ ⟨⟨a,b,ha,hb,by unfold aEp;simp only [aa]<;>rfl⟩,hM.fr⟩))
  have hM:=hM.q ((Fr.refl _ _).drew)
  refine drq [(6,vB (!((aBY prof os).contains (a.2.2.1,a.2.1,b.2.2.1))))] rfl (fc (ldm 9 0 1 hM rfl rfl) (fc (ldm 9 1 0 hM rfl rfl) (fc (rz (seq 9 a.2.1 b.1) aa) (fc (ld0 78 hM (bx hS.blk 4 rfl)) (fc (ldm 9 0 2 hM rfl rfl) (fc (ldm 9 0 1 hM rfl rfl) (fc (ldm 9 1 2 hM rfl rfl) (fc (rz2 (lkN 78 (.agg #[vS a.2.2.1,vS a.2.1,vS b.2.2.1]) (vB false) (hS.ban.fr hM.fr id) aS6 Tryz.underlying78 (aS9 (a:=(a.2.2.1,a.2.1,b.2.2.1)) (hS.ok a (gm ha)).f3 (hS.ok a (gm ha)).f2 (hS.ok b (gm hb)).f3) (aKn _)) (aOz (aBY prof os) (a.2.2.1,a.2.1,b.2.2.1))) f0)))))))) (rt1 6 (vB (!((aBY prof os).contains (a.2.2.1,a.2.1,b.2.2.1)))) rfl f0 (hΦ _ _ ⟨⟨a,b,ha,hb,by unfold aEp;simp only [aa]<;>rfl⟩,hM.fr⟩))
def aVh:Road:={ closed:=false,oneway:=false,limited:=false,speed:=0,hours:=[],refs:=[] }
def aHj (prof:Bys) (os:List ObR) (id:Bys):Road:=match (aBN os).find? fun b=>b.o.id==id with
  | some b=>aAt prof b.o
  | none=>aVh
theorem aTB {prof:Bys}{os:List ObR}{T2:RdT}(h:T2.map (·.1)=aBN os) (id:Bys):(aBN os).find? (fun b=>b.o.id==id)=(T2.find? fun x=>x.1.o.id==id).map (·.1):=by
  rw [←h,List.find?_map];rfl
theorem aNS {os:List ObR}{a:Arc}(h:a∈AS os):∃ b,(aBN os).find? (fun b=>b.o.id==a.2.2.1)=some b:=by
  have ha:=aDF h
  unfold aAv at ha
  rw [List.mem_flatMap] at ha
  obtain ⟨b,hb,ha⟩:=ha
  unfold aDn at ha
  cases hk:b.o.kind==2 with
  | false=>rw [hk] at ha;cases ha
  | true =>
    rw [hk] at ha
    have hid:a.2.2.1=b.o.id:=by
      have key:∀ (l:List Ob) (rs:List Bys),a∈aFg l b.o.id rs→a.2.2.1=b.o.id:=by
        intro l rs
        induction rs with
        | nil=>intro h;cases h
        | cons x t ih =>
          intro h
          cases t with
          | nil=>cases h
          | cons y t =>
            unfold aFg at h
            rcases List.mem_cons.1 h with rfl | h
            · rfl
            · rcases List.mem_cons.1 h with rfl | h
              · rfl
              · exact ih h
      cases hw:aHR (aAg (aAa os)) os b.o.id with
      | none=>rw [hw] at ha;cases ha
      | some c=>rw [hw] at ha;exact key _ _ ha
    cases hf:(aBN os).find? (fun b=>b.o.id==a.2.2.1) with
    | some c=>exact ⟨c,rfl⟩
    | none =>
      have:=List.find?_eq_none.1 hf b (by unfold aBN;rw [List.mem_reverse,List.mem_filter];exact ⟨hb,hk⟩)
      simp [hid] at this
def aBO (prof:Bys) (os:List ObR) (a:Arc) (minute:Int):Option Int :=
  let r:=aHj prof os a.2.2.1
  bif r.closed||(r.oneway && !fwd a.1 a.2.1 r.refs)||decide (1000000000<minute) then none
  else bif r.limited then
    (bif !((aAy r.hours minute).2)||decide (1000000000<(aAy r.hours minute).1) then none else some ((aAy r.hours minute).1+(a.2.2.2+r.speed-1) / r.speed))
  else some (minute+(a.2.2.2+r.speed-1) / r.speed)
theorem aI0 {l:List Sp}{m:Int}(h:(aAy l m).2=true):m≤(aAy l m).1:=by
  unfold aAy at h ⊢
  split at h
  · rename_i hc
    rw [if_pos hc]
    simp only [Bool.and_eq_true] at hc
    show m≤aDg l m
    unfold aDg
    cases hf:l.find? (fun s=>decide (m%10080<s.2)) with
    | some s=>show m≤m+max 0 (s.1-m%10080);omega
    | none =>
      show m≤m-m%10080+10080+(l.headD (0,0)).1
      cases l with
      | nil=>simp at hc
      | cons s l =>
        have:=(aB2.1 hc.1.1).1
        show m≤m-m%10080+10080+s.1
        omega
  · cases h
theorem aJq (s:Bys):1≤aA6 s∧aA6 s≤9999999:=by
  unfold aA6
  split
  · rename_i n _
    cases h:decide (n<1)||decide (9999999<n) || !(Lib.itoa n==s) with
    | true=>exact ⟨by show (1:Int)≤100;omega,by show (100:Int)≤_;omega⟩
    | false =>
      simp only [Bool.or_eq_false_iff,decide_eq_false_iff_not] at h
      show 1≤n∧n≤9999999
      omega
  · omega
theorem aHE (o:Ob):(aAc o).length≤400000000:=by
  unfold aAc aDL
  rcases aEu (aAw o.tags [104,111,117,114,115]).1 with ⟨c,x,hp,-⟩ | ⟨l,hp,-,hl⟩
  · rw [hp];simp
  · rw [hp];show l.length≤_;omega
theorem aSR (w:World):(zeroValue 113).run Tryz.prog w = .ok (.agg #[vB false,vB false,vB false,vI 0,vL none 0 0,vL none 0 0]) w:=by kernel_rfl
theorem aTA {prof:Bys}{os:List ObR}{T2:RdT}{a:Arc}(hT:T2.map (·.1)=aBN os) (ha:a∈AS os) (z:Value):∃ x∈T2,(rdF prof T2 (vS a.2.2.1)).getD z=aFI prof x.1 x.2∧aHj prof os a.2.2.1=aAt prof x.1.o:=by
  obtain ⟨b,hb⟩:=aNS ha
  have h2:=aTB (prof:=prof) hT a.2.2.1
  rw [hb] at h2
  rw [aSw]
  cases hf:T2.find? (fun x=>x.1.o.id==a.2.2.1) with
  | none=>rw [hf] at h2;cases h2
  | some x =>
    rw [hf] at h2
    refine ⟨x,List.mem_of_find?_eq_some hf,rfl,?_⟩
    unfold aHj
    rw [hb,Option.some.inj h2]
theorem aNe {w:World}{bs ca bo br bb no nr nb:Nat}{qa:Option Addr}{prof:Bys}{os:List ObR}{T:aE7}{T2:RdT}(hS:StF w bs ca bo br bb no nr nb qa prof os T T2) (hT2:T2.map (·.1)=aBN os) {i:Nat}(hi:i<(AS os).length) {mi:Int}(hm0:0≤mi) (hm1:mi≤4000000000000000000):Calls Tryz.prog 62 #[vP bs 0,vI (i:Int),vI mi] w fun e w'=>(∃ a,(AS os)[i]?=some a∧e = .returned (match aBO prof os a mi with | some n => .tuple #[vI n,vB true] | none => .tuple #[vI 0,vB false]))∧Fr (fun _=>False) w w':=by
  refine beg Tryz.func62 rfl rfl [(0,vP bs 0),(1,vI (i:Int)),(2,vI mi)] rfl rfl fun Φ hΦ=>?_
  have hM:=Mm.nil (fun _=>False) w
  obtain ⟨a,ha,av,aw,am,an⟩:=hS.arcs.el (i:=i) (by omega)
  refine aCh 1 7 8 [(18,.agg #[vS a.1,vS a.2.1,vS a.2.2.1,vI a.2.2.2])] [] 47 (.agg #[vS a.1,vS a.2.1,vS a.2.2.1,vI a.2.2.2]) (fc (ld0 75 hM (bx hS.blk 1 rfl)) (fc (ix 75 ca am (gl ha)) (fc (la0 47 hM an) f0))) hM fun al w1 hM=>?_
  have hab:=hS.ok a (gm ha)
  obtain ⟨x,hx,hxv,hxr⟩:=aTA (prof:=prof) hT2 (gm ha) (.agg #[vB false,vB false,vB false,vI 0,vL none 0 0,vL none 0 0])
  have hsp:=aJq (aAw x.1.o.tags [115,112,101,101,100]).1
  have hl1:=hab.pos
  have hl2:=hab.lt
  obtain ⟨spd,hspd⟩:∃ z,z=(aAt prof x.1.o).speed:=⟨_,rfl⟩
  have hs1:1≤spd∧spd≤9999999:=hspd▸hsp
  obtain ⟨qh,ch,hhv,-⟩:=(hS.hrs x hx).op
  have hxw:(rdF prof T2 (vS a.2.2.1)).getD (.agg #[vB false,vB false,vB false,vI 0,vL none 0 0,vL none 0 0]) = .agg #[vB (aAt prof x.1.o).closed,vB (aAt prof x.1.o).oneway,vB (aAt prof x.1.o).limited,vI spd,vL qh (aAc x.1.o).length ch,vL x.1.pr x.1.o.refs.length x.1.cr]:=by rw [hxv,hspd,hhv]
  refine seg 2 0 [] f0 ?_
  have hM:=hM.nl
  refine drx [7,8] (fun γ=>[some (vP (bn (γ 0)) 0),none]) _ (fun γ l=>[bk al #[vS a.1,vS a.2.1,vS a.2.2.1,vI a.2.2.2] 47,(bif l.getD 1 false then bk (bn (γ 0)) #[vB (aAt prof x.1.o).closed,vB (aAt prof x.1.o).oneway,vB (aAt prof x.1.o).limited,vI spd,vL qh (aAc x.1.o).length ch,vL x.1.pr x.1.o.refs.length x.1.cr] 113 else (bif l.getD 0 false then bk (bn (γ 0)) #[vB false,vB false,vB false,vI 0,vL none 0 0,vL none 0 0] 113 else aIY))]) (fun γ=>[(9,vP (bn (γ 0)) 0)]) hM (fun γ=>rfl) (fun γ l w5 hM=>(fc (ld0 77 hM (bx hS.blk 3 rfl)) (fc (ldm 9 0 2 hM rfl rfl) (fc (rz2 (lkN 77 (vS a.2.2.1) (.agg #[vB false,vB false,vB false,vI 0,vL none 0 0,vL none 0 0]) (hS.rds.fr hM.fr id) aDw u77_ (aDx hab.f3) (aSR _)) hxw) f0)))) ⟨aCB 0 7 1 9 (fun γ=>#[vB false,vB false,vB false,vI 0,vL none 0 0,vL none 0 0]) 113 (fun b=>vP b 0),aB7 1 8 113 1 0 (fun γ=>(bn (γ 0))) (fun γ l=>#[vB false,vB false,vB false,vI 0,vL none 0 0,vL none 0 0]) 113 (fun γ => .agg #[vB (aAt prof x.1.o).closed,vB (aAt prof x.1.o).oneway,vB (aAt prof x.1.o).limited,vI spd,vL qh (aAc x.1.o).length ch,vL x.1.pr x.1.o.refs.length x.1.cr]),trivial⟩ fun ao w1 hM=>?_
  replace hM:Mm (fun _=>False) w w1 [bk al #[vS a.1,vS a.2.1,vS a.2.2.1,vI a.2.2.2] 47,bk (bn (ao 0)) #[vB (aAt prof x.1.o).closed,vB (aAt prof x.1.o).oneway,vB (aAt prof x.1.o).limited,vI spd,vL qh (aAc x.1.o).length ch,vL x.1.pr x.1.o.refs.length x.1.cr] 113]:=hM
  refine seg 3 3 [(28,vB (aAt prof x.1.o).closed)] (fc (ldm 4 1 0 hM rfl rfl) f0) ?_
  cases aa:(aAt prof x.1.o).closed with
  | false =>
   refine seg 3 6 [(31,vB (aAt prof x.1.o).oneway)] (fc (ldm 4 1 1 hM rfl rfl) f0) ?_
   cases ab:(aAt prof x.1.o).oneway with
   | false =>
    refine seg 3 19 [(44,vB (decide (1000000000<mi)))] f0 ?_
    cases ac:(decide (1000000000<mi))
    rotate_left
    ·have ap:=dt ac
     exact rt2 6 7 (vI 0) (vB false) rfl rfl f0 (hΦ _ _ ⟨⟨a,ha,by unfold aBO;simp only [hxr,show (aAt prof x.1.o).refs=x.1.o.refs from rfl,show (aAt prof x.1.o).hours=aAc x.1.o from rfl,←hspd,aa,ab,ac]<;>rfl⟩,hM.fr⟩)
    have ap:=df ac
    refine seg 5 2 [(46,vB (aAt prof x.1.o).limited)] (fc (ldm 4 1 2 hM rfl rfl) f0) ?_
    cases af:(aAt prof x.1.o).limited with
    | false =>
     have hq0:0≤((a.2.2.2+spd)-1) / spd:=Int.ediv_nonneg (by omega) (by omega)
     have hq1:((a.2.2.2+spd)-1) / spd≤(a.2.2.2+spd)-1:=Int.ediv_le_self _ (by omega)
     exact rt2 6 7 (vI (mi+(((a.2.2.2+spd)-1) / spd))) (vB true) rfl rfl (fc (ldm 3 0 3 hM rfl rfl) (fc (ldm 3 1 3 hM rfl rfl) (fc (aAe a.2.2.2 spd u3_) (fc (aBq (a.2.2.2+spd) 1 u3_) (fc (ldm 3 1 3 hM rfl rfl) (fc (aQl ((a.2.2.2+spd)-1) spd u3_) (fc (aAe mi (((a.2.2.2+spd)-1) / spd) u3_) f0))))))) (hΦ _ _ ⟨⟨a,ha,by unfold aBO;simp only [hxr,show (aAt prof x.1.o).refs=x.1.o.refs from rfl,show (aAt prof x.1.o).hours=aAc x.1.o from rfl,←hspd,aa,ab,ac,af]<;>rfl⟩,hM.fr⟩)
    | true =>
     refine aAr 6 3 51 [(49,vL qh (aAc x.1.o).length ch),(50,vI mi)] (fc (ldm 48 1 4 hM rfl rfl) f0) hM (aHB (hhv▸(hS.hrs x hx).fr hM.fr) (aHE _) mi) fun w1 hM=>seg 7 3 [(10,vI (aAy (aAc x.1.o) mi).1),(56,vB (!(aAy (aAc x.1.o) mi).2))] f0 ?_
     cases ag:(aAy (aAc x.1.o) mi).2 with
     | false =>
      exact rt2 6 7 (vI 0) (vB false) rfl rfl f0 (hΦ _ _ ⟨⟨a,ha,by unfold aBO;simp only [hxr,show (aAt prof x.1.o).refs=x.1.o.refs from rfl,show (aAt prof x.1.o).hours=aAc x.1.o from rfl,←hspd,aa,ab,ac,af,ag]<;>rfl⟩,hM.fr⟩)
     | true =>
      refine seg 7 6 [(59,vB (decide (1000000000<(aAy (aAc x.1.o) mi).1)))] f0 ?_
      cases ah:(decide (1000000000<(aAy (aAc x.1.o) mi).1))
      rotate_left
      ·have aq:=dt ah
       exact rt2 6 7 (vI 0) (vB false) rfl rfl f0 (hΦ _ _ ⟨⟨a,ha,by unfold aBO;simp only [hxr,show (aAt prof x.1.o).refs=x.1.o.refs from rfl,show (aAt prof x.1.o).hours=aAc x.1.o from rfl,←hspd,aa,ab,ac,af,ag,ah]<;>rfl⟩,hM.fr⟩)
      have aq:=df ah
      have hng:=aI0 ag
      have hq0:0≤((a.2.2.2+spd)-1) / spd:=Int.ediv_nonneg (by omega) (by omega)
      have hq1:((a.2.2.2+spd)-1) / spd≤(a.2.2.2+spd)-1:=Int.ediv_le_self _ (by omega)
      exact rt2 6 7 (vI ((aAy (aAc x.1.o) mi).1+(((a.2.2.2+spd)-1) / spd))) (vB true) rfl rfl (fc (ldm 3 0 3 hM rfl rfl) (fc (ldm 3 1 3 hM rfl rfl) (fc (aAe a.2.2.2 spd u3_) (fc (aBq (a.2.2.2+spd) 1 u3_) (fc (ldm 3 1 3 hM rfl rfl) (fc (aQl ((a.2.2.2+spd)-1) spd u3_) (fc (aAe (aAy (aAc x.1.o) mi).1 (((a.2.2.2+spd)-1) / spd) u3_) f0))))))) (hΦ _ _ ⟨⟨a,ha,by unfold aBO;simp only [hxr,show (aAt prof x.1.o).refs=x.1.o.refs from rfl,show (aAt prof x.1.o).hours=aAc x.1.o from rfl,←hspd,aa,ab,ac,af,ag,ah]<;>rfl⟩,hM.fr⟩)
   | true =>
    refine aAr 3 11 37 [(32,.agg #[vB (aAt prof x.1.o).closed,vB (aAt prof x.1.o).oneway,vB (aAt prof x.1.o).limited,vI spd,vL qh (aAc x.1.o).length ch,vL x.1.pr x.1.o.refs.length x.1.cr]),(34,vS a.1),(36,vS a.2.1)] (fc (lam 113 1 0 6 hM rfl) (fc (ldm 9 0 0 hM rfl rfl) (fc (ldm 9 0 1 hM rfl rfl) f0))) hM (aIC (cl:=(aAt prof x.1.o).closed) (ow:=(aAt prof x.1.o).oneway) (li:=(aAt prof x.1.o).limited) (sp:=spd) (hv:=vL qh (aAc x.1.o).length ch) ((hS.refs x hx).fr hM.fr) a.1 a.2.1) fun w1 hM=>seg 3 16 [(41,vB (!(fwd a.1 a.2.1 x.1.o.refs)))] f0 ?_
    cases ae:(fwd a.1 a.2.1 x.1.o.refs)
    ·exact rt2 6 7 (vI 0) (vB false) rfl rfl f0 (hΦ _ _ ⟨⟨a,ha,by unfold aBO;simp only [hxr,show (aAt prof x.1.o).refs=x.1.o.refs from rfl,show (aAt prof x.1.o).hours=aAc x.1.o from rfl,←hspd,aa,ab,ae]<;>rfl⟩,hM.fr⟩)
    refine seg 3 19 [(44,vB (decide (1000000000<mi)))] f0 ?_
    cases ad:(decide (1000000000<mi))
    rotate_left
    ·have ar:=dt ad
     exact rt2 6 7 (vI 0) (vB false) rfl rfl f0 (hΦ _ _ ⟨⟨a,ha,by unfold aBO;simp only [hxr,show (aAt prof x.1.o).refs=x.1.o.refs from rfl,show (aAt prof x.1.o).hours=aAc x.1.o from rfl,←hspd,aa,ab,ae,ad]<;>rfl⟩,hM.fr⟩)
    have ar:=df ad
    refine seg 5 2 [(46,vB (aAt prof x.1.o).limited)] (fc (ldm 4 1 2 hM rfl rfl) f0) ?_
    cases ai:(aAt prof x.1.o).limited with
    | false =>
     have hq0:0≤((a.2.2.2+spd)-1) / spd:=Int.ediv_nonneg (by omega) (by omega)
     have hq1:((a.2.2.2+spd)-1) / spd≤(a.2.2.2+spd)-1:=Int.ediv_le_self _ (by omega)
     exact rt2 6 7 (vI (mi+(((a.2.2.2+spd)-1) / spd))) (vB true) rfl rfl (fc (ldm 3 0 3 hM rfl rfl) (fc (ldm 3 1 3 hM rfl rfl) (fc (aAe a.2.2.2 spd u3_) (fc (aBq (a.2.2.2+spd) 1 u3_) (fc (ldm 3 1 3 hM rfl rfl) (fc (aQl ((a.2.2.2+spd)-1) spd u3_) (fc (aAe mi (((a.2.2.2+spd)-1) / spd) u3_) f0))))))) (hΦ _ _ ⟨⟨a,ha,by unfold aBO;simp only [hxr,show (aAt prof x.1.o).refs=x.1.o.refs from rfl,show (aAt prof x.1.o).hours=aAc x.1.o from rfl,←hspd,aa,ab,ae,ad,ai]<;>rfl⟩,hM.fr⟩)
    | true =>
     refine aAr 6 3 51 [(49,vL qh (aAc x.1.o).length ch),(50,vI mi)] (fc (ldm 48 1 4 hM rfl rfl) f0) hM (aHB (hhv▸(hS.hrs x hx).fr hM.fr) (aHE _) mi) fun w1 hM=>seg 7 3 [(10,vI (aAy (aAc x.1.o) mi).1),(56,vB (!(aAy (aAc x.1.o) mi).2))] f0 ?_
     cases aj:(aAy (aAc x.1.o) mi).2 with
     | false =>
      exact rt2 6 7 (vI 0) (vB false) rfl rfl f0 (hΦ _ _ ⟨⟨a,ha,by unfold aBO;simp only [hxr,show (aAt prof x.1.o).refs=x.1.o.refs from rfl,show (aAt prof x.1.o).hours=aAc x.1.o from rfl,←hspd,aa,ab,ae,ad,ai,aj]<;>rfl⟩,hM.fr⟩)
     | true =>
      refine seg 7 6 [(59,vB (decide (1000000000<(aAy (aAc x.1.o) mi).1)))] f0 ?_
      cases ak:(decide (1000000000<(aAy (aAc x.1.o) mi).1))
      rotate_left
      ·have au:=dt ak
       exact rt2 6 7 (vI 0) (vB false) rfl rfl f0 (hΦ _ _ ⟨⟨a,ha,by unfold aBO;simp only [hxr,show (aAt prof x.1.o).refs=x.1.o.refs from rfl,show (aAt prof x.1.o).hours=aAc x.1.o from rfl,←hspd,aa,ab,ae,ad,ai,aj,ak]<;>rfl⟩,hM.fr⟩)
      have au:=df ak
      have hng:=aI0 aj
      have hq0:0≤((a.2.2.2+spd)-1) / spd:=Int.ediv_nonneg (by omega) (by omega)
      have hq1:((a.2.2.2+spd)-1) / spd≤(a.2.2.2+spd)-1:=Int.ediv_le_self _ (by omega)
      exact rt2 6 7 (vI ((aAy (aAc x.1.o) mi).1+(((a.2.2.2+spd)-1) / spd))) (vB true) rfl rfl (fc (ldm 3 0 3 hM rfl rfl) (fc (ldm 3 1 3 hM rfl rfl) (fc (aAe a.2.2.2 spd u3_) (fc (aBq (a.2.2.2+spd) 1 u3_) (fc (ldm 3 1 3 hM rfl rfl) (fc (aQl ((a.2.2.2+spd)-1) spd u3_) (fc (aAe (aAy (aAc x.1.o) mi).1 (((a.2.2.2+spd)-1) / spd) u3_) f0))))))) (hΦ _ _ ⟨⟨a,ha,by unfold aBO;simp only [hxr,show (aAt prof x.1.o).refs=x.1.o.refs from rfl,show (aAt prof x.1.o).hours=aAc x.1.o from rfl,←hspd,aa,ab,ae,ad,ai,aj,ak]<;>rfl⟩,hM.fr⟩)
  | true =>
   exact rt2 6 7 (vI 0) (vB false) rfl rfl f0 (hΦ _ _ ⟨⟨a,ha,by unfold aBO;simp only [hxr,show (aAt prof x.1.o).refs=x.1.o.refs from rfl,show (aAt prof x.1.o).hours=aAc x.1.o from rfl,←hspd,aa]<;>rfl⟩,hM.fr⟩)
end Go.Proofs.YtbflfefahheidaaGreatDoor
