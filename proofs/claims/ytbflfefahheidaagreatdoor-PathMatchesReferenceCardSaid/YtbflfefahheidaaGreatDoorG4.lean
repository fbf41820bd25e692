/- Part 4 of the proof. -/
import Derived.Test.YtbflfefahheidaaGreatDoorG3
import Derived.Test.YtbflfefahheidaaGreatDoorProg
set_option linter.unusedVariables false
set_option linter.unusedSimpArgs false
namespace Go.Proofs.YtbflfefahheidaaGreatDoor
open Go.RowKit Go.Pl
def reL (x:Nat×Int):List Value:=[vI (x.1:Int),vI x.2]
theorem reT:ElT Tryz.prog reL 2 117 124:=⟨fun _=>rfl,by decide,fun x u hu=>by
 unfold reL at hu;rcases List.mem_cons.1 hu with rfl | hu
 ·rfl
 ·rw [Gd_] at hu;subst hu;rfl,Tryz.underlying117,aBO (by kernel_rfl)⟩
abbrev QM (q:Nat) (v:Value) (X:List (Nat×Int)):List Ent:=[bk q #[v] 117,rw_ reL 2 124 v X]
section
variable {w:World}{q n c:Nat}{p:Option Addr}
theorem aLw (h:w.heap[q]?=some (.cells #[vL p n c] 117 (0,0))):(Instr.loadAt 117 (vP q 0)).run Tryz.prog w = .ok (vL p n c) w:=aB1 (by kernel_rfl) (bx h 0 rfl)
theorem aUv:Mth Tryz.prog w 115 (vP q 0) "Push" 238 (vP q 0):=by unfold Mth;kernel_rfl
theorem aVJ:Mth Tryz.prog w 115 (vP q 0) "Pop" 237 (vP q 0):=by unfold Mth;kernel_rfl
theorem aPC (h:w.heap[q]?=some (.cells #[vL p n c] 117 (0,0))):Mth Tryz.prog w 115 (vP q 0) "Len" 235 (vL p n c):=by
 have e:(method (Tryz.prog.types.size+100) 115 (vP q 0) "Len").run Tryz.prog w=(do let x←Instr.loadAt 117 (vP q 0);pure (235,x):Sem (FuncId×Value)).run Tryz.prog w:=by kernel_rfl
 show (method (Tryz.prog.types.size+100) 115 (vP q 0) "Len").run Tryz.prog w=_;rw [e];simp [Sem.run_bind,aLw h]
theorem aGZ (h:w.heap[q]?=some (.cells #[vL p n c] 117 (0,0))):Mth Tryz.prog w 115 (vP q 0) "Less" 236 (vL p n c):=by
 have e:(method (Tryz.prog.types.size+100) 115 (vP q 0) "Less").run Tryz.prog w=(do let x←Instr.loadAt 117 (vP q 0);pure (236,x):Sem (FuncId×Value)).run Tryz.prog w:=by kernel_rfl
 show (method (Tryz.prog.types.size+100) 115 (vP q 0) "Less").run Tryz.prog w=_;rw [e];simp [Sem.run_bind,aLw h]
theorem aGY (h:w.heap[q]?=some (.cells #[vL p n c] 117 (0,0))):Mth Tryz.prog w 115 (vP q 0) "Swap" 239 (vL p n c):=by
 have e:(method (Tryz.prog.types.size+100) 115 (vP q 0) "Swap").run Tryz.prog w=(do let x←Instr.loadAt 117 (vP q 0);pure (239,x):Sem (FuncId×Value)).run Tryz.prog w:=by kernel_rfl
 show (method (Tryz.prog.types.size+100) 115 (vP q 0) "Swap").run Tryz.prog w=_;rw [e];simp [Sem.run_bind,aLw h]
theorem aYa (j:Nat) (hj:j<=4000000000000000000):Ft.ok Tryz.prog w (.g2 (fun x y => .binOp .quo 3 x y 3) (vI ((j:Int)-1)) (vI 2) (vI (((j-1) / 2:Nat):Int))):=fun o ρ x y ho hx hy=>by
 have e:Int.tdiv ((j:Int)-1) 2=(((j-1) / 2:Nat):Int):=by
  cases j with
  | zero=>rfl
  | succ k =>
   rw [show ((k+1:Nat):Int)-1=(k:Int) by omega];rfl
 have hw:IntKind.i64.wrap (((j-1:Nat):Int) / 2)=((j-1:Nat):Int) / 2:=IntWalk.i64_in _ ⟨by omega,by omega⟩;simp [execOp,ho,hx,hy,go_sem,u3_,e,hw]
end
theorem aFI {w:World}{p:Option Addr}{n c:Nat}:Calls Tryz.prog 235 #[vL p n c] w fun e w'=>e = .returned (vI (n:Int)) /\ Fr nF_ w w':=by
 refine beg Tryz.func235 rfl rfl [(0,vL p n c)] rfl rfl fun Z hZ=>?_;have hM:=Mm.nil nF_ w;exact rt1 2 (vI (n:Int)) rfl f0 (hZ _ _ ⟨rfl,hM.fr⟩)
theorem aC7 {w:World}{p:Option Addr}{c i j:Nat}{X:List (Nat×Int)}(hs:SrcP reL 2 w p c X) (hi:i<X.length) (hj:j<X.length):Calls Tryz.prog 236 #[vL p X.length c,vI (i:Int),vI (j:Int)] w fun e w'=>(∃ b,e = .returned (vB b)) /\ Fr nF_ w w':=by
 refine beg Tryz.func236 rfl rfl [(0,vL p X.length c),(1,vI (i:Int)),(2,vI (j:Int))] rfl rfl fun Z hZ=>?_;have hM:=Mm.nil nF_ w;refine seg 1 0 [] f0 ?_;have hM:=hM.q ((Fr.refl _ _).drew);obtain ⟨y3,hy3,g3,o3,q3,r3⟩:=hs.el (i:=i) (by omega);obtain ⟨y4,hy4,g4,o4,q4,r4⟩:=hs.el (i:=j) (by omega);refine drq [(6,vB (decide (y3.2<y4.2)))] rfl (fc (ix 117 c q3 (gl hy3)) (fc (ld0 3 hM (r3 1 _ rfl)) (fc (ix 117 c q4 (gl hy4)) (fc (ld0 3 hM (r4 1 _ rfl)) f0)))) (rt1 6 (vB (decide (y3.2<y4.2))) rfl f0 (hZ _ _ ⟨⟨_,rfl⟩,hM.fr⟩))
theorem aC1 {w:World}{G:Nat->Prop}{p:Option Addr}{c i j:Nat}{X:List (Nat×Int)}{x y:Nat×Int}(hM0:Mm G w w [rw_ reL 2 124 (vL p X.length c) X]) (hx:X[i]?=some x) (hy:X[j]?=some y):Calls Tryz.prog 239 #[vL p X.length c,vI (i:Int),vI (j:Int)] w fun e w'=>∃ (u:Value) (Mn:List Ent),e = .returned u /\ (u = .tuple #[] /\ Mn=[rw_ reL 2 124 (vL p X.length c) ((X.set i y).set j x)]) /\ Mm G w w' Mn:=by
 have hj9:=gl hy;refine beg Tryz.func239 rfl rfl [(0,vL p X.length c),(1,vI (i:Int)),(2,vI (j:Int))] rfl rfl fun Y hY=>?_;have hM:=hM0;refine seg 0 0 [] f0 ?_;obtain ⟨ad,aa,-⟩:=hM.el reT (j:=0) rfl hy;obtain ⟨ae,ab,-⟩:=hM.el reT (j:=0) rfl hx;obtain ⟨y13,ac⟩:=geb (l:=(X.set i y)) (i:=j) (by simp only [List.length_set];omega);refine drx [7,11,13,15] (fun Z=>[some (.agg #[vI (y.1:Int),vI y.2]),some (.agg #[vI (x.1:Int),vI x.2]),none,none]) _ (fun Z l=>[rw_ reL 2 124 (vL p X.length c) (bif l.getD 3 false then ((X.set i y).set j x) else (bif l.getD 2 false then (X.set i y) else X))]) (fun Z=>[]) hM (fun Z=>rfl) (fun Z l w5 hM=>(fc (ix 117 c aa (gl hy)) (fc (ix 117 c ab (gl hx)) (fc (ix 117 c ab (gl hx)) (fc (ix 117 c aa (gl hy)) f0))))) ⟨aTp (m:=X.length) (cap:=c) 0 7 124 0 0 2 j 13 X reT aa hy,aTp (m:=X.length) (cap:=c) 1 11 124 0 0 2 i 17 X reT ab hx,aH1 (m:=X.length) (cap:=c) 2 13 124 0 0 i X y (fun Z => .agg #[vI (y.1:Int),vI y.2]) reT ab hx (fun Z=>rfl),aH1 (m:=X.length) (cap:=c) 3 15 124 0 0 j (X.set i y) x (fun Z => .agg #[vI (x.1:Int),vI x.2]) reT aa ac (fun Z=>rfl),trivial⟩ fun af w1 hM=>?_;replace hM:Mm G w w1 [_]:=hM;exact rt0 rfl f0 (hY _ _ ⟨_,_,rfl,⟨rfl,rfl⟩,hM⟩)
theorem aLn {w:World}{G:Nat->Prop}{q:Nat}{p:Option Addr}{c:Nat}{X:List (Nat×Int)}(hM0:Mm G w w (QM q (vL p X.length c) X)) (hl:X.length<1500000000000) (x:Nat×Int):Calls Tryz.prog 238 #[vP q 0,.iface 124 (.agg #[vI (x.1:Int),vI x.2])] w fun e w'=>∃ (u:Value) (Mn:List Ent),e = .returned u /\ (u = .tuple #[] /\ ∃ v,Mn=QM q v (X++[x])) /\ Mm G w w' Mn:=by
 refine beg Tryz.func238 rfl rfl [(0,vP q 0),(1,.iface 124 (.agg #[vI (x.1:Int),vI x.2]))] rfl rfl fun Y hY=>?_;have hM:=hM0;refine seg 0 0 [] f0 ?_;have hM:=hM.nl;refine drx [3,6,7,9] (fun Z=>[some (vL p X.length c),some (vL (some ⟨(bn (Z 1)),0,none⟩) 1 1),some (vL (slp (Z 2)) (X++[x]).length (slc (Z 2))),none]) _ (fun Z l=>[bk q #[(bif l.getD 3 false then vL (slp (Z 2)) (X++[x]).length (slc (Z 2)) else vL p X.length c)] 117,(bif l.getD 2 false then rw_ reL 2 124 (vL (slp (Z 2)) (X++[x]).length (slc (Z 2))) (X++[x]) else rw_ reL 2 124 (vL p X.length c) X),(bif l.getD 1 false then bk (bn (Z 1)) #[vI (x.1:Int),vI x.2] 124 else aJz)]) (fun Z=>[]) hM (fun Z=>rfl) (fun Z l w5 hM=>f0) ⟨aNV 0 3 117 0 0 7 (fun Z=>q) (fun Z l=>#[(bif l.getD 3 false then vL (slp (Z 2)) (X++[x]).length (slc (Z 2)) else vL p X.length c)]) 117 (fun Z=>vL p X.length c),aCJ 1 6 2 10 (fun Z=>#[vI (x.1:Int),vI x.2]) 124 (fun b=>vL (some ⟨b,0,none⟩) 1 1),aH2 2 7 1 11 117 124 0 (fun Z=>vL p X.length c) X [x] (fun Z=>(bn (Z 1))) 1 reT (by simp;omega) (fun Z fr wm hM=>aAG (f:=reL) (x:=x) (hM.get 2 (e:=bk ((bn (Z 1))) (reL x).toArray 124) (by kernel_rfl)) (Gq_ _)),aB8 3 9 117 0 0 (fun Z=>q) (fun Z l=>#[(bif l.getD 3 false then vL (slp (Z 2)) (X++[x]).length (slc (Z 2)) else vL p X.length c)]) 117 (fun Z=>vL (slp (Z 2)) (X++[x]).length (slc (Z 2))),trivial⟩ fun aa w1 hM=>?_;replace hM:Mm G w w1 [bk q #[vL (slp (aa 2)) (X++[x]).length (slc (aa 2))] 117,_,bk (bn (aa 1)) #[vI (x.1:Int),vI x.2] 124]:=hM;exact rt0 rfl f0 (hY _ _ ⟨_,_,rfl,⟨rfl,_,rfl⟩,hM.pick [0,1]⟩)
theorem aN4 {w:World}{G:Nat->Prop}{q n:Nat}{p:Option Addr}{c:Nat}{Y:List (Nat×Int)}{x:Nat×Int}(hn:n=Y.length+1) (hM0:Mm G w w (QM q (vL p n c) (Y++[x]))):Calls Tryz.prog 237 #[vP q 0] w fun e w'=>∃ (u:Value) (Mn:List Ent),e = .returned u /\ (u = .iface 124 (.agg #[vI (x.1:Int),vI x.2]) /\ ∃ v,Mn=QM q v Y) /\ Mm G w w' Mn:=by
 have hn0:(Y++[x]).length=Y.length+1:=by simp
 have hx:(Y++[x])[n-1]?=some x:=by rw [hn];simp
 have hM:=hM0;obtain ⟨g,eg,-⟩:=hM.el reT (j:=1) rfl hx;subst eg;obtain ⟨pc,cc,ec,sc⟩:=(hM.src (j:=1) rfl reT.len).op;have bc:=sc.bnd;have hcc:=sc.le
 injection ec with ec1 ec2 ec3
 subst ec3;clear ec1 ec2 sc;refine beg Tryz.func237 rfl rfl [(0,vP q 0)] rfl rfl fun Z hZ=>?_
 skip
 obtain ⟨ab,aa,-⟩:=hM.el reT (j:=1) rfl hx;refine aCl 2 6 4 [(3,vL (some ⟨g,0,none⟩) n c),(13,.agg #[vI (x.1:Int),vI x.2])] [] 124 (.agg #[vI (x.1:Int),vI x.2]) (fc (ldm 117 0 0 hM rfl rfl) (fc (aBx (n:Int) 1 u3_) (fc (ix 117 c aa (show n-1<n by omega) (z:=((n:Int)-1)) (hz:=(by omega))) (fc (lar 124 1 0 2 reT hM rfl aa hx) f0)))) hM fun ac w1 hM=>stm 3 7 [(19,vL (some ⟨g,0,none⟩) (n-1) c),(20,vP q 0)] 117 0 0 (vL (some ⟨g,0,none⟩) (n-1) c) (fc (aBx (n:Int) 1 u3_) (fc (aXR 117 (z:=((n:Int)-1)) (g:=g) (n:=n) (cap:=c) (i:=n-1) (by omega) (by omega) (by omega) Tryz.underlying117) f0)) hM rfl fun w1 hM=>?_;have hM:=hM.popE (j:=1) reT.len rfl;exact rt1 2 (.iface 124 (.agg #[vI (x.1:Int),vI x.2])) rfl (fc (lam 124 2 0 2 hM rfl) f0) (hZ _ _ ⟨_,_,rfl,⟨rfl,_,rfl⟩,hM.pick [0,1]⟩)
theorem aVr {P:Program}{w:World}{t:TypeId}(m n k:Int) (ht:P.underlying t=some (.int .i64)) (e:m-n=k) (h : -9223372036854775808<=m-n /\ m-n<=9223372036854775807:=by omega):Ft.ok P w (.g2 (fun x y => .binOp .sub t x y t) (vI m) (vI n) (vI k)):=e▸aBx m n ht h
abbrev aYE (Z:Ending->World->Prop):=AtO Tryz.prog (aAf Tryz.f101) (aAo (bodyPost Tryz.prog Tryz.f101 Z)) [] 23
theorem aQS {w:World}{G:Nat->Prop}{q j0:Nat}{v:Value}{X:List (Nat×Int)}(hM0:Mm G w w (QM q v X)) (hl:X.length<=1500000000000) (hj0:j0<X.length):Calls Tryz.prog 101 #[.iface 115 (vP q 0),vI (j0:Int)] w fun e w'=>∃ (u:Value) (Mn:List Ent),e = .returned u /\ (u = .tuple #[] /\ ∃ v' X',X'.Perm X /\ Mn=QM q v' X') /\ Mm G w w' Mn:=by
  refine beg Tryz.func101 rfl rfl [(0,.iface 115 (vP q 0)),(1,vI (j0:Int))] rfl rfl fun Z hZ=>?_;have hM:=hM0;refine seg 0 0 [] f0 ?_
  have af:∀ (aa:Nat) (v1:Value) (X1:List (Nat×Int)) (j:Nat) (w2:World),X1.Perm X->j<X1.length->Mm G w w2 [bk q #[v1] 117,rw_ reL 2 124 v1 X1]->aa=j->aYE Z (some (0,0)) [(0,.iface 115 (vP q 0)),(1,vI (j:Int))] w2:=by
   refine aA8 fun aa ag v1 X1 j w2 hp hj hM ah=>?_;have hle:=hp.length_eq;obtain ⟨ab,ac,e21,s21⟩:=(hM.src (j:=1) rfl reT.len).op;subst e21;refine seg 1 4 [(4,vI (((j-1) / 2:Nat):Int)),(11,vB ((((j-1) / 2:Nat):Int)==(j:Int)))] (fc (aBx (j:Int) 1 u3_) (fc (aYa j (by omega)) f0)) ?_;cases h22:((((j-1) / 2:Nat):Int)==(j:Int))
   rotate_left
   ·exact rt0 rfl f0 (hZ _ _ ⟨_,_,rfl,⟨rfl,_,_,hp,rfl⟩,hM⟩)
   have hj1:1<=j:=by
     have h9:¬ ((((j-1) / 2:Nat):Int)=(j:Int)):=fun e=>by rw [e] at h22;simp at h22
     omega
   refine aQI 1 7 15 [(12,.iface 115 (vP q 0)),(13,vI (j:Int)),(14,vI (((j-1) / 2:Nat):Int))] "Less" #[3,3] (by decide) f0 (aGZ (hM.get 0 rfl)) (enters_of Tryz.func236 (by kernel_rfl) rfl) (K:=fun u w8=>(∃ b,u=vB b) /\ Fr nF_ _ w8) ((aC7 ((hM.src (j:=1) rfl reT.len).p.2) (i:=j) (j:=((j-1) / 2)) (by omega) (by omega)).mono fun e w8 ⟨⟨b,h1⟩,h2⟩=>⟨_,h1,⟨b,rfl⟩,h2⟩) fun u w1 ⟨⟨ad,hu⟩,f1⟩=>?_;have hM:=hM.q f1;subst hu;refine seg 1 10 [(17,vB (!ad))] f0 ?_
   cases h24:ad with
   | false =>
    exact rt0 rfl f0 (hZ _ _ ⟨_,_,rfl,⟨rfl,_,_,hp,rfl⟩,hM⟩)
   | true =>
    obtain ⟨x25,hx25⟩:=geb (l:=X1) (i:=((j-1) / 2)) (by omega);obtain ⟨y25,ae⟩:=geb (l:=X1) (i:=j) (by omega);refine aQI 2 3 21 [(18,.iface 115 (vP q 0)),(19,vI (((j-1) / 2:Nat):Int)),(20,vI (j:Int))] "Swap" #[3,3] (by decide) f0 (aGY (hM.get 0 rfl)) (enters_of Tryz.func239 (by kernel_rfl) rfl) (aUx (K:=fun u Mn=>u = .tuple #[] /\ Mn=[rw_ reL 2 124 (vL ab X1.length ac) ((X1.set ((j-1) / 2) y25).set j x25)]) [0] [1] hM rfl rfl (by decide) (fun hm=>(aC1 hm hx25 ae))) fun u w1 ⟨Mn,hK,hM⟩=>?_;obtain ⟨rfl,rfl⟩:=hK;refine seg 0 0 [(1,vI (((j-1) / 2:Nat):Int))] f0 (aAb _ (ag _ (by omega) (vL ab X1.length ac) ((X1.set ((j-1) / 2) y25).set j x25) ((j-1) / 2) _ ((aEV hx25 ae).trans hp) (by rw [List.length_set,List.length_set];omega) hM rfl))
  exact aAb _ (af _ v X j0 _ (List.Perm.refl _) hj0 hM rfl)
abbrev aYD (Z:Ending->World->Prop):=AtO Tryz.prog (aAf Tryz.f102) (aAo (bodyPost Tryz.prog Tryz.f102 Z)) [] 48
theorem aNJ {w:World}{G:Nat->Prop}{q n:Nat}{v:Value}{X:List (Nat×Int)}(hM0:Mm G w w (QM q v X)) (hl:X.length<=1500000000000) (hn:n<=X.length):Calls Tryz.prog 102 #[.iface 115 (vP q 0),vI 0,vI (n:Int)] w fun e w'=>∃ (u:Value) (Mn:List Ent),e = .returned u /\ ((∃ b,u=vB b) /\ ∃ v' X',X'.Perm X /\ Mn=QM q v' X') /\ Mm G w w' Mn:=by
  refine beg Tryz.func102 rfl rfl [(0,.iface 115 (vP q 0)),(1,vI 0),(2,vI (n:Int))] rfl rfl fun Z hZ=>?_;have hM:=hM0;refine seg 2 0 [(7,vI 0)] f0 ?_
  have al:∀ (ad:Nat) (v1:Value) (X1:List (Nat×Int)) (i:Nat) (w2:World),X1.Perm X->i<=n->Mm G w w2 [bk q #[v1] 117,rw_ reL 2 124 v1 X1]->ad=n-i->aYD Z (some (2,0)) [(7,vI (i:Int)),(0,.iface 115 (vP q 0)),(1,vI 0),(2,vI (n:Int))] w2:=by
   refine aA8 fun ad ac v1 X1 i w2 hp hi hM ap=>?_;have hle:=hp.length_eq;obtain ⟨aa,ab,e29,s29⟩:=(hM.src (j:=1) rfl reT.len).op;subst e29;refine seg 3 4 [(8,vI ((2*(i:Int))+1)),(18,vB (decide ((n:Int)<=((2*(i:Int))+1))))] (fc (aIx 2 (i:Int) u3_) (fc (aAe (2*(i:Int)) 1 u3_) f0)) ?_;cases h30:(decide ((n:Int)<=((2*(i:Int))+1)))
   rotate_left
   ·have am:=dt h30;exact rt1 6 (vB (decide (0<(i:Int)))) rfl f0 (hZ _ _ ⟨_,_,rfl,⟨⟨_,rfl⟩,_,_,hp,rfl⟩,hM⟩)
   have am:=df h30;refine seg 3 7 [(21,vB (decide (((2*(i:Int))+1)<0)))] f0 ?_;cases h31:(decide (((2*(i:Int))+1)<0))
   rotate_left
   ·have an:=dt h31;omega
   have an:=df h31;refine seg 6 4 [(9,vI ((2*(i:Int))+1)),(10,vI (((2*(i:Int))+1)+1)),(28,vB (decide ((((2*(i:Int))+1)+1)<(n:Int))))] (fc (aAe ((2*(i:Int))+1) 1 u3_) f0) ?_;cases h32:(decide ((((2*(i:Int))+1)+1)<(n:Int)))
   ·have ao:=df h32;refine aQI 8 3 38 [(35,.iface 115 (vP q 0)),(36,vI ((2*(i:Int))+1)),(37,vI (i:Int))] "Less" #[3,3] (by decide) f0 (aGZ (hM.get 0 rfl)) (enters_of Tryz.func236 (by kernel_rfl) rfl) (K:=fun u w8=>(∃ b,u=vB b) /\ Fr nF_ _ w8) ((aC7 ((hM.src (j:=1) rfl reT.len).p.2) (i:=(2*i+1)) (j:=i) (by omega) (by omega)).mono fun e w8 ⟨⟨b,h1⟩,h2⟩=>⟨_,h1,⟨b,rfl⟩,h2⟩) fun u w1 ⟨⟨ae,hu⟩,f1⟩=>?_;have hM:=hM.q f1;subst hu;refine seg 8 5 [(39,vB (!ae))] f0 ?_
    cases h34:ae with
    | false =>
     exact rt1 6 (vB (decide (0<(i:Int)))) rfl f0 (hZ _ _ ⟨_,_,rfl,⟨⟨_,rfl⟩,_,_,hp,rfl⟩,hM⟩)
    | true =>
     obtain ⟨x35,hx35⟩:=geb (l:=X1) (i:=i) (by omega);obtain ⟨y35,af⟩:=geb (l:=X1) (i:=(2*i+1)) (by omega);refine aQI 9 3 43 [(40,.iface 115 (vP q 0)),(41,vI (i:Int)),(42,vI ((2*(i:Int))+1))] "Swap" #[3,3] (by decide) f0 (aGY (hM.get 0 rfl)) (enters_of Tryz.func239 (by kernel_rfl) rfl) (aUx (K:=fun u Mn=>u = .tuple #[] /\ Mn=[rw_ reL 2 124 (vL aa X1.length ab) ((X1.set i y35).set (2*i+1) x35)]) [0] [1] hM rfl rfl (by decide) (fun hm=>(aC1 hm hx35 af))) fun u w1 ⟨Mn,hK,hM⟩=>?_;obtain ⟨rfl,rfl⟩:=hK;refine seg 2 0 [(7,vI ((2*(i:Int))+1))] f0 (aAb _ (ac _ (by omega) (vL aa X1.length ab) ((X1.set i y35).set (2*i+1) x35) (2*i+1) _ ((aEV hx35 af).trans hp) (by omega) hM rfl))
   have ao:=dt h32;refine aQI 6 7 32 [(29,.iface 115 (vP q 0)),(30,vI (((2*(i:Int))+1)+1)),(31,vI ((2*(i:Int))+1))] "Less" #[3,3] (by decide) f0 (aGZ (hM.get 0 rfl)) (enters_of Tryz.func236 (by kernel_rfl) rfl) (K:=fun u w8=>(∃ b,u=vB b) /\ Fr nF_ _ w8) ((aC7 ((hM.src (j:=1) rfl reT.len).p.2) (i:=(2*i+1+1)) (j:=(2*i+1)) (by omega) (by omega)).mono fun e w8 ⟨⟨b,h1⟩,h2⟩=>⟨_,h1,⟨b,rfl⟩,h2⟩) fun u w1 ⟨⟨ag,hu⟩,f1⟩=>?_;have hM:=hM.q f1;subst hu;refine seg 6 9 [(33,vB ag)] f0 ?_
   cases h37:ag with
   | false =>
    refine aQI 8 3 38 [(35,.iface 115 (vP q 0)),(36,vI ((2*(i:Int))+1)),(37,vI (i:Int))] "Less" #[3,3] (by decide) f0 (aGZ (hM.get 0 rfl)) (enters_of Tryz.func236 (by kernel_rfl) rfl) (K:=fun u w8=>(∃ b,u=vB b) /\ Fr nF_ _ w8) ((aC7 ((hM.src (j:=1) rfl reT.len).p.2) (i:=(2*i+1)) (j:=i) (by omega) (by omega)).mono fun e w8 ⟨⟨b,h1⟩,h2⟩=>⟨_,h1,⟨b,rfl⟩,h2⟩) fun u w1 ⟨⟨ah,hu⟩,f1⟩=>?_;have hM:=hM.q f1;subst hu;refine seg 8 5 [(39,vB (!ah))] f0 ?_
    cases h39:ah with
    | false =>
     exact rt1 6 (vB (decide (0<(i:Int)))) rfl f0 (hZ _ _ ⟨_,_,rfl,⟨⟨_,rfl⟩,_,_,hp,rfl⟩,hM⟩)
    | true =>
     obtain ⟨x40,hx40⟩:=geb (l:=X1) (i:=i) (by omega);obtain ⟨y40,ai⟩:=geb (l:=X1) (i:=(2*i+1)) (by omega);refine aQI 9 3 43 [(40,.iface 115 (vP q 0)),(41,vI (i:Int)),(42,vI ((2*(i:Int))+1))] "Swap" #[3,3] (by decide) f0 (aGY (hM.get 0 rfl)) (enters_of Tryz.func239 (by kernel_rfl) rfl) (aUx (K:=fun u Mn=>u = .tuple #[] /\ Mn=[rw_ reL 2 124 (vL aa X1.length ab) ((X1.set i y40).set (2*i+1) x40)]) [0] [1] hM rfl rfl (by decide) (fun hm=>(aC1 hm hx40 ai))) fun u w1 ⟨Mn,hK,hM⟩=>?_;obtain ⟨rfl,rfl⟩:=hK;refine seg 2 0 [(7,vI ((2*(i:Int))+1))] f0 (aAb _ (ac _ (by omega) (vL aa X1.length ab) ((X1.set i y40).set (2*i+1) x40) (2*i+1) _ ((aEV hx40 ai).trans hp) (by omega) hM rfl))
   | true =>
    refine aQI 8 3 38 [(9,vI (((2*(i:Int))+1)+1)),(35,.iface 115 (vP q 0)),(36,vI (((2*(i:Int))+1)+1)),(37,vI (i:Int))] "Less" #[3,3] (by decide) f0 (aGZ (hM.get 0 rfl)) (enters_of Tryz.func236 (by kernel_rfl) rfl) (K:=fun u w8=>(∃ b,u=vB b) /\ Fr nF_ _ w8) ((aC7 ((hM.src (j:=1) rfl reT.len).p.2) (i:=(2*i+1+1)) (j:=i) (by omega) (by omega)).mono fun e w8 ⟨⟨b,h1⟩,h2⟩=>⟨_,h1,⟨b,rfl⟩,h2⟩) fun u w1 ⟨⟨aj,hu⟩,f1⟩=>?_;have hM:=hM.q f1;subst hu;refine seg 8 5 [(39,vB (!aj))] f0 ?_
    cases h42:aj with
    | false =>
     exact rt1 6 (vB (decide (0<(i:Int)))) rfl f0 (hZ _ _ ⟨_,_,rfl,⟨⟨_,rfl⟩,_,_,hp,rfl⟩,hM⟩)
    | true =>
     obtain ⟨x43,hx43⟩:=geb (l:=X1) (i:=i) (by omega);obtain ⟨y43,ak⟩:=geb (l:=X1) (i:=(2*i+1+1)) (by omega);refine aQI 9 3 43 [(40,.iface 115 (vP q 0)),(41,vI (i:Int)),(42,vI (((2*(i:Int))+1)+1))] "Swap" #[3,3] (by decide) f0 (aGY (hM.get 0 rfl)) (enters_of Tryz.func239 (by kernel_rfl) rfl) (aUx (K:=fun u Mn=>u = .tuple #[] /\ Mn=[rw_ reL 2 124 (vL aa X1.length ab) ((X1.set i y43).set (2*i+1+1) x43)]) [0] [1] hM rfl rfl (by decide) (fun hm=>(aC1 hm hx43 ak))) fun u w1 ⟨Mn,hK,hM⟩=>?_;obtain ⟨rfl,rfl⟩:=hK;refine seg 2 0 [(7,vI (((2*(i:Int))+1)+1))] f0 (aAb _ (ac _ (by omega) (vL aa X1.length ab) ((X1.set i y43).set (2*i+1+1) x43) (2*i+1+1) _ ((aEV hx43 ak).trans hp) (by omega) hM rfl))
  exact aAb _ (al _ v X 0 _ (List.Perm.refl _) (Gg_ _) hM rfl)
theorem aL1 {w:World}{G:Nat->Prop}{q:Nat}{v:Value}{X:List (Nat×Int)}(hM0:Mm G w w (QM q v X)) (hl:X.length<1500000000000) (x:Nat×Int):Calls Tryz.prog 64 #[.iface 115 (vP q 0),.iface 124 (.agg #[vI (x.1:Int),vI x.2])] w fun e w'=>∃ (u:Value) (Mn:List Ent),e = .returned u /\ (u = .tuple #[] /\ ∃ v' X',X'.Perm (X++[x]) /\ Mn=QM q v' X') /\ Mm G w w' Mn:=by
  refine beg Tryz.func64 rfl rfl [(0,.iface 115 (vP q 0)),(1,.iface 124 (.agg #[vI (x.1:Int),vI x.2]))] rfl rfl fun Z hZ=>?_;have hM:=hM0;obtain ⟨aa,ab,e44,s44⟩:=(hM.src (j:=1) rfl reT.len).op;subst e44;have hlx:(X++[x]).length=X.length+1:=by simp
  refine aYj 0 2 6 [(4,.iface 115 (vP q 0)),(5,.iface 124 (.agg #[vI (x.1:Int),vI x.2]))] "Push" #[20] (by decide) f0 aUv (enters_of Tryz.func238 (by kernel_rfl) rfl) (aUx (K:=fun u Mn=>u = .tuple #[] /\ ∃ v,Mn=QM q v (X++[x])) [] [0,1] hM rfl rfl (by decide) (fun hm=>(aLn hm hl x))) fun u w1 ⟨Mn,hK,hM⟩=>?_;obtain ⟨rfl,v45,rfl⟩:=hK;obtain ⟨ac,ad,e46,s46⟩:=(hM.src (j:=1) rfl reT.len).op;subst e46;refine aW2 1 2 9 [(7,.iface 115 (vP q 0)),(8,.iface 115 (vP q 0))] "Len" #[] (by decide) f0 (aPC (hM.get 0 rfl)) (enters_of Tryz.func235 (by kernel_rfl) rfl) (aW8 aFI) fun u w1 ⟨hu,f1⟩=>?_;subst hu;have hM:=hM.q f1;refine aAM 1 4 11 [(10,vI (X.length:Int))] (K:=fun u Mn=>u = .tuple #[] /\ ∃ v' X',X'.Perm (X++[x]) /\ Mn=QM q v' X') [] [0,1] (fc (aVr ((X++[x]).length:Int) 1 (X.length:Int) u3_ (by omega)) f0) hM rfl rfl (by decide) (fun hm=>(aQS (j0:=X.length) hm (by omega) (by omega))) fun u Mn w1 hK hM=>?_;obtain ⟨rfl,v47,Y48,hY48,rfl⟩:=hK;obtain ⟨ae,af,e49,s49⟩:=(hM.src (j:=1) rfl reT.len).op;subst e49;exact rt0 rfl f0 (hZ _ _ ⟨_,_,rfl,⟨rfl,_,_,hY48,rfl⟩,hM⟩)
theorem aNF {w:World}{G:Nat->Prop}{q:Nat}{v:Value}{X:List (Nat×Int)}(hM0:Mm G w w (QM q v X)) (hl:X.length<=1500000000000) (h0:0<X.length):Calls Tryz.prog 65 #[.iface 115 (vP q 0)] w fun e w'=>∃ (u:Value) (Mn:List Ent),e = .returned u /\ (∃ x v' X',X.Perm (x::X') /\ u = .iface 124 (.agg #[vI (x.1:Int),vI x.2]) /\ Mn=QM q v' X') /\ Mm G w w' Mn:=by
  refine beg Tryz.func65 rfl rfl [(0,.iface 115 (vP q 0))] rfl rfl fun Y hY=>?_;have hM:=hM0;obtain ⟨ab,ac,e50,s50⟩:=(hM.src (j:=1) rfl reT.len).op;subst e50;refine aW2 1 1 5 [(4,.iface 115 (vP q 0))] "Len" #[] (by decide) f0 (aPC (hM.get 0 rfl)) (enters_of Tryz.func235 (by kernel_rfl) rfl) (aW8 aFI) fun u w1 ⟨hu,f1⟩=>?_;subst hu;have hM:=hM.q f1;obtain ⟨x51,hx51⟩:=geb (l:=X) (i:=0) (by omega);obtain ⟨y51,aa⟩:=geb (l:=X) (i:=(X.length-1)) (by omega);refine aQI 2 2 9 [(3,vI ((X.length-1:Nat):Int)),(7,.iface 115 (vP q 0)),(8,vI ((X.length-1:Nat):Int))] "Swap" #[3,3] (by decide) (fc (aVr (X.length:Int) 1 ((X.length-1:Nat):Int) u3_ (by omega)) f0) (aGY (hM.get 0 rfl)) (enters_of Tryz.func239 (by kernel_rfl) rfl) (aUx (K:=fun u Mn=>u = .tuple #[] /\ Mn=[rw_ reL 2 124 (vL ab X.length ac) ((X.set 0 y51).set (X.length-1) x51)]) [0] [1] hM rfl rfl (by decide) (fun hm=>(aC1 hm hx51 aa))) fun u w1 ⟨Mn,hK,hM⟩=>?_;obtain ⟨rfl,rfl⟩:=hK;refine aAM 3 2 12 [(10,.iface 115 (vP q 0)),(11,vI ((X.length-1:Nat):Int))] (K:=fun u Mn=>(∃ b,u=vB b) /\ ∃ v' X',X'.Perm ((X.set 0 y51).set (X.length-1) x51) /\ Mn=QM q v' X') [] [0,1] f0 hM rfl rfl (by decide) (fun hm=>(aNJ (n:=(X.length-1)) hm (by simp only [List.length_set];omega) (by simp only [List.length_set];omega))) fun u Mn w1 hK hM=>?_;obtain ⟨⟨_,rfl⟩,v52,Y53,hY53,rfl⟩:=hK;obtain ⟨ad,ae,e55,s55⟩:=(hM.src (j:=1) rfl reT.len).op;subst e55;have hpm:=hY53.trans (aEV hx51 aa);have hln:=hpm.length_eq;obtain ⟨Z,x,hZ⟩:∃ Z x,Y53=Z++[x]:=⟨_,_,(List.dropLast_concat_getLast (l:=Y53) (by intro e;rw [e] at hln;simp only [List.length_set,Go_] at hln;omega)).symm⟩;subst hZ;refine aW2 4 1 14 [(13,.iface 115 (vP q 0))] "Pop" #[] (by decide) f0 aVJ (enters_of Tryz.func237 (by kernel_rfl) rfl) (aUx (K:=fun u Mn=>u = .iface 124 (.agg #[vI (x.1:Int),vI x.2]) /\ ∃ v,Mn=QM q v Z) [] [0,1] hM rfl rfl (by decide) (fun hm=>(aN4 (by simp) hm))) fun u w1 ⟨Mn,hK,hM⟩=>?_;obtain ⟨rfl,v56,rfl⟩:=hK;exact rt1 2 (.iface 124 (.agg #[vI (x.1:Int),vI x.2])) rfl f0 (hY _ _ ⟨_,_,rfl,⟨x,_,Z,hpm.symm.trans (List.perm_append_comm (l₁:=Z) (l₂:=[x])),rfl,rfl⟩,hM⟩)
end Go.Proofs.YtbflfefahheidaaGreatDoor
namespace Go.Pl
open Go.RowKit
structure NetW where
 n:Nat
 st:Nat->Bool
 ps:Nat->Int->Option Int
 al:Nat->Nat->Bool
structure NetW.Ok (N:NetW) (B:Int):Prop where
 gt:∀ {i:Nat}{m x:Int},i<N.n->0<=m->N.ps i m=some x->m<x
 mono:∀ {i:Nat}{m m' x:Int},0<=m->m<=m'->N.ps i m'=some x->∃ y,y<=x /\ N.ps i m=some y
 le:∀ {i:Nat}{m x:Int},i<N.n->0<=m->N.ps i m=some x->x<=B
inductive Rch (N:NetW) (m0:Int):Nat->Int->Prop
 | base {i:Nat}{x:Int}:i<N.n->N.st i=true->N.ps i m0=some x->Rch N m0 i x
 | step {i k:Nat}{m x:Int}:Rch N m0 i m->k<N.n->N.al i k=true->N.ps k m=some x->Rch N m0 k x
theorem Rch.lt {N:NetW}{m0:Int}{i:Nat}{m:Int}(h:Rch N m0 i m):i<N.n:=by cases h<;>assumption
theorem Rch.ge {N:NetW}{B m0:Int}(hN:N.Ok B) (h0:0<=m0) {i:Nat}{m:Int}(h:Rch N m0 i m):m0<m:=by
 induction h with
 | base h1 h2 h3=>exact hN.gt h1 h0 h3
 | step h1 h2 h3 h4 ih=>have:=hN.gt h2 (by omega) h4;omega
theorem Rch.le {N:NetW}{B m0:Int}(hN:N.Ok B) (h0:0<=m0) {i:Nat}{m:Int}(h:Rch N m0 i m):m<=B:=by
 cases h with
 | base h1 h2 h3=>exact hN.le h1 h0 h3
 | step h1 h2 h3 h4=>exact hN.le h2 (by have:=h1.ge hN h0;omega) h4
def Cl (N:NetW) (t:Nat->Option Int) (i:Nat) (m:Int):Prop:=∀ k,k<N.n->N.al i k=true->∀ x,N.ps k m=some x->∃ y,y<=x /\ t k=some y
structure Tab (N:NetW) (m0:Int) (t:Nat->Option Int):Prop where
 snd:∀ i m,t i=some m->Rch N m0 i m
 bas:∀ i,i<N.n->N.st i=true->∀ x,N.ps i m0=some x->∃ y,y<=x /\ t i=some y
 stp:∀ i m,t i=some m->Cl N t i m
theorem Tab.le {N:NetW}{B m0:Int}(hN:N.Ok B) (h0:0<=m0) {t:Nat->Option Int}(hT:Tab N m0 t) {i:Nat}{m:Int}(h:Rch N m0 i m):∃ y,y<=m /\ t i=some y:=by
 induction h with
 | base a b c=>exact hT.bas _ a b _ c
 | step a b c d ih =>
  obtain ⟨u,hu,ht⟩:=ih;have hg:=(hT.snd _ _ ht).ge hN h0;obtain ⟨z,hz,d⟩:=hN.mono (by omega) hu d;obtain ⟨y,hy,e⟩:=hT.stp _ _ ht _ b c _ d;exact ⟨y,by omega,e⟩
theorem Tab.least {N:NetW}{B m0:Int}(hN:N.Ok B) (h0:0<=m0) {t:Nat->Option Int}(hT:Tab N m0 t) {i:Nat}{m y:Int}(h:Rch N m0 i m) (e:t i=some y):y<=m:=by
 obtain ⟨z,hz,e2⟩:=hT.le hN h0 h;rw [e] at e2;cases e2;exact hz
theorem Tab.uniq {N:NetW}{B m0:Int}(hN:N.Ok B) (h0:0<=m0) {t u:Nat->Option Int}(hT:Tab N m0 t) (hU:Tab N m0 u):t=u:=by
 funext i
 cases ht:t i with
 | none =>
  cases hu:u i with
  | none=>rfl
  | some m =>
   obtain ⟨y,_,e⟩:=hT.le hN h0 (hU.snd _ _ hu);rw [ht] at e;cases e
 | some m =>
  obtain ⟨y,hy,e⟩:=hU.le hN h0 (hT.snd _ _ ht);have:=hT.least hN h0 (hU.snd _ _ e) ht;rw [e];congr 1;omega
def TLe (t' t:Nat->Option Int):Prop:=∀ i m,t i=some m->∃ y,y<=m /\ t' i=some y
theorem TLe.refl (t:Nat->Option Int):TLe t t:=fun i m h=>⟨m,Int.le_refl _,h⟩
theorem TLe.trans {a b c:Nat->Option Int}(h:TLe a b) (k:TLe b c):TLe a c:=fun i m e=>by
 obtain ⟨y,hy,e⟩:=k i m e;obtain ⟨z,hz,e⟩:=h i y e;exact ⟨z,by omega,e⟩
theorem Cl.mono {N:NetW}{t t':Nat->Option Int}{i:Nat}{m:Int}(h:Cl N t i m) (k:TLe t' t):Cl N t' i m:=fun j hj ha x hx=>by
 obtain ⟨y,hy,e⟩:=h j hj ha x hx;obtain ⟨z,hz,e⟩:=k j y e;exact ⟨z,by omega,e⟩
def bet (t:Nat->Option Int) (i:Nat) (x:Int):Bool:=match t i with
 | some o=>decide (x<o)
 | none=>true
def aJx (t:Nat->Option Int) (i:Nat) (x:Int):Nat->Option Int:=fun k=>bif Nat.beq k i then some x else t k
theorem aBH (t:Nat->Option Int) (i:Nat) (x:Int):aJx t i x i=some x:=by unfold aJx;simp
theorem aBW (t:Nat->Option Int) {i k:Nat}(x:Int) (h:k≠i):aJx t i x k=t k:=by
 unfold aJx;rw [show Nat.beq k i=false from by cases e:Nat.beq k i with | false=>rfl | true=>exact absurd (Nat.eq_of_beq_eq_true e) h];rfl
theorem aKM {t:Nat->Option Int}{i:Nat}{x:Int}(h:bet t i x=true):TLe (aJx t i x) t:=fun k m e=>by
 by_cases hk:k=i
 ·subst hk;refine ⟨x,?_,aBH _ _ _⟩;unfold bet at h;rw [e] at h;have:=of_decide_eq_true h;omega
 ·exact ⟨m,Int.le_refl _,by rw [aBW _ _ hk];exact e⟩
theorem aTm {t:Nat->Option Int}{i:Nat}{x:Int}(h:bet t i x=false):∃ y,y<=x /\ t i=some y:=by
 unfold bet at h
 split at h
 ·rename_i o e;have:=of_decide_eq_false h;exact ⟨o,by omega,e⟩
 ·cases h
structure TInv (N:NetW) (m0:Int) (t:Nat->Option Int) (W:List (Nat×Int)) (X:Nat->Int->Prop):Prop where
 snd:∀ i m,t i=some m->Rch N m0 i m
 wait:∀ x∈W,Rch N m0 x.1 x.2 /\ ∃ m,m<=x.2 /\ t x.1=some m
 don:∀ i m,t i=some m->(i,m)∈W∨Cl N t i m∨X i m
theorem TInv.nil (N:NetW) (m0:Int) (X:Nat->Int->Prop):TInv N m0 (fun _=>none) [] X:=⟨fun _ _ h=>(by cases h),fun _ h=>(by cases h),fun _ _ h=>(by cases h)⟩
theorem TInv.put {N:NetW}{m0:Int}{t:Nat->Option Int}{W W':List (Nat×Int)}{X:Nat->Int->Prop}(h:TInv N m0 t W X) {i:Nat}{x:Int}(hb:bet t i x=true) (hr:Rch N m0 i x) (hW:W'.Perm (W++[(i,x)])):TInv N m0 (aJx t i x) W' X:=by
 have hle:=aKM hb;refine ⟨fun k m e=>?_,fun y hy=>?_,fun k m e=>?_⟩
 ·by_cases hk:k=i
  ·subst hk;rw [aBH] at e;cases e;exact hr
  ·rw [aBW _ _ hk] at e;exact h.snd k m e
 ·rcases List.mem_append.1 (hW.mem_iff.1 hy) with hy | hy
  ·obtain ⟨h1,m,hm,e⟩:=h.wait y hy;obtain ⟨z,hz,e⟩:=hle _ _ e;exact ⟨h1,z,by omega,e⟩
  ·rw [Gd_] at hy;subst hy;exact ⟨hr,x,Int.le_refl _,aBH _ _ _⟩
 ·by_cases hk:k=i
  ·subst hk;rw [aBH] at e;cases e;exact .inl (hW.mem_iff.2 (by simp))
  ·rw [aBW _ _ hk] at e;rcases h.don k m e with h1 | h1 | h1
   ·exact .inl (hW.mem_iff.2 (Gv_ _ h1))
   ·exact .inr (.inl (h1.mono hle))
   ·exact .inr (.inr h1)
theorem TInv.stale {N:NetW}{m0:Int}{t:Nat->Option Int}{W W':List (Nat×Int)}{X:Nat->Int->Prop}(h:TInv N m0 t W X) {x:Nat×Int}(hW:W.Perm (x::W')) {m:Int}(e:t x.1=some m) (hm:m<x.2):TInv N m0 t W' X :=
 ⟨h.snd,fun y hy=>h.wait y (hW.mem_iff.2 (.tail _ hy)),fun i k ek=>by
  rcases h.don i k ek with h1 | h1 | h1
  ·rcases List.mem_cons.1 (hW.mem_iff.1 h1) with h2 | h2
   ·subst h2;rw [e] at ek;cases ek;exact absurd hm (Int.lt_irrefl _)
   ·exact .inl h2
  ·exact .inr (.inl h1)
  ·exact .inr (.inr h1)⟩
theorem TInv.pop {N:NetW}{m0:Int}{t:Nat->Option Int}{W W':List (Nat×Int)}(h:TInv N m0 t W fun _ _=>False) {x:Nat×Int}(hW:W.Perm (x::W')):TInv N m0 t W' fun i m=>(i,m)=x :=
 ⟨h.snd,fun y hy=>h.wait y (hW.mem_iff.2 (.tail _ hy)),fun i k ek=>by
  rcases h.don i k ek with h1 | h1 | h1
  ·rcases List.mem_cons.1 (hW.mem_iff.1 h1) with h2 | h2
   ·exact .inr (.inr h2)
   ·exact .inl h2
  ·exact .inr (.inl h1)
  ·exact h1.elim⟩
theorem TInv.close {N:NetW}{m0:Int}{t:Nat->Option Int}{W:List (Nat×Int)}{x:Nat×Int}(h:TInv N m0 t W fun i m=>(i,m)=x) (hc:Cl N t x.1 x.2):TInv N m0 t W fun _ _=>False :=
 ⟨h.snd,h.wait,fun i k ek=>by
  rcases h.don i k ek with h1 | h1 | h1
  ·exact .inl h1
  ·exact .inr (.inl h1)
  ·cases h1;exact .inr (.inl hc)⟩
theorem TInv.tab {N:NetW}{m0:Int}{t:Nat->Option Int}(h:TInv N m0 t [] fun _ _=>False) (hb:∀ i,i<N.n->N.st i=true->∀ x,N.ps i m0=some x->∃ y,y<=x /\ t i=some y):Tab N m0 t :=
 ⟨h.snd,hb,fun i m e=>by
  rcases h.don i m e with h1 | h1 | h1
  ·cases h1
  ·exact h1
  ·exact h1.elim⟩
def ClL (N:NetW) (t:Nat->Option Int) (al:Nat->Bool) (m:Int) (l:List Nat):Prop:=∀ k∈l,al k=true->∀ x,N.ps k m=some x->∃ y,y<=x /\ t k=some y
theorem ClL.nil (N:NetW) (t:Nat->Option Int) (al:Nat->Bool) (m:Int):ClL N t al m []:=fun _ h=>(by cases h)
theorem ClL.mono {N:NetW}{t t':Nat->Option Int}{al:Nat->Bool}{m:Int}{l:List Nat}(h:ClL N t al m l) (k:TLe t' t):ClL N t' al m l:=fun j hj ha x hx=>by
 obtain ⟨y,hy,e⟩:=h j hj ha x hx;obtain ⟨z,hz,e⟩:=k j y e;exact ⟨z,by omega,e⟩
theorem ClL.snoc {N:NetW}{t:Nat->Option Int}{al:Nat->Bool}{m:Int}{l:List Nat}(h:ClL N t al m l) {k:Nat}(hk:al k=true->∀ x,N.ps k m=some x->∃ y,y<=x /\ t k=some y):ClL N t al m (l++[k]):=fun j hj ha x hx=>by
 rcases List.mem_append.1 hj with hj | hj
 ·exact h j hj ha x hx
 ·rw [Gd_] at hj;subst hj;exact hk ha x hx
def aOG (f:Nat->Nat):Nat->Nat
 | 0=>0
 | n+1=>aOG f n+f n
theorem aHP {f g:Nat->Nat}:∀ {n:Nat},(∀ k,k<n->f k=g k)->aOG f n=aOG g n
 | 0,_=>rfl
 | n+1,h=>by unfold aOG;rw [aHP fun k hk=>h k (by omega),h n (by omega)]
theorem aOE {f g:Nat->Nat}{i:Nat}(ho:∀ k,k≠i->f k=g k) (hi:f i<g i):∀ {n:Nat},i<n->aOG f n<aOG g n
 | n+1,h=>by
  unfold aOG
  by_cases e:i=n
  ·subst e;rw [aHP fun k hk=>ho k (by omega)];omega
  ·have:=aOE ho hi (n:=n) (by omega);rw [ho n fun h=>e h.symm];omega
theorem aOF {f:Nat->Nat}{b:Nat}(h:∀ k,f k<=b):∀ n,aOG f n<=n*b
 | 0=>by simp [aOG]
 | n+1=>by
  have:=aOF h n;have:=h n;unfold aOG;rw [Nat.succ_mul];omega
def aVp (B:Nat) (t:Nat->Option Int) (i:Nat):Nat:=match t i with
 | some m=>min m.toNat B
 | none=>B+1
theorem aT3 (B:Nat) (t:Nat->Option Int) (i:Nat):aVp B t i<=B+1:=by unfold aVp;split<;>omega
def wgt (N:NetW) (B:Nat) (t:Nat->Option Int):Nat:=aOG (aVp B t) N.n
theorem aVm (N:NetW) (B:Nat) (t:Nat->Option Int):wgt N B t<=N.n*(B+1):=aOF (aT3 B t) _
theorem aKG {N:NetW}{B:Nat}{t:Nat->Option Int}{i:Nat}{x:Int}(hi:i<N.n) (hb:bet t i x=true) (h0:0<=x) (hB:x<=B) (ht:∀ m,t i=some m->m<=B):wgt N B (aJx t i x)<wgt N B t:=by
 refine aOE (i:=i) (fun k hk=>?_) ?_ hi
 ·unfold aVp;rw [aBW _ _ hk]
 ·unfold aVp;rw [aBH];unfold bet at hb
  split at hb
  ·rename_i o e;have:=of_decide_eq_true hb;have:=ht o e;show min x.toNat B<min o.toNat B;omega
  ·show min x.toNat B<B+1;omega
def aGe (t:Nat->Option Int):Value->Option Value
 | .int .i64 (.ofNat k)=>(t k).map fun m => .int .i64 m
 | _=>none
def aUZ (N:NetW) (i:Nat) (mi:Int) (t:Nat->Option Int) (W:List (Nat×Int)) (t':Nat->Option Int) (W':List (Nat×Int)):Prop :=
 (∃ x,N.ps i mi=some x /\ bet t i x=true /\ t'=aJx t i x /\ W'.Perm (W++[(i,x)]))∨((∀ x,N.ps i mi=some x->bet t i x=false) /\ t'=t /\ W'=W)
section
variable {N:NetW}{i:Nat}{mi m0:Int}{t t':Nat->Option Int}{W W':List (Nat×Int)}{X:Nat->Int->Prop}
theorem aUZ.inv (h:aUZ N i mi t W t' W') (hI:TInv N m0 t W X) (hr:∀ x,N.ps i mi=some x->Rch N m0 i x):TInv N m0 t' W' X:=by
 rcases h with ⟨x,h1,h2,rfl,h3⟩ | ⟨_,rfl,rfl⟩
 ·exact hI.put h2 (hr x h1) h3
 ·exact hI
theorem aUZ.le (h:aUZ N i mi t W t' W'):TLe t' t:=by
 rcases h with ⟨x,h1,h2,rfl,h3⟩ | ⟨_,rfl,rfl⟩
 ·exact aKM h2
 ·exact TLe.refl _
theorem aUZ.done (h:aUZ N i mi t W t' W'):∀ x,N.ps i mi=some x->∃ y,y<=x /\ t' i=some y:=by
 intro x hx;rcases h with ⟨x',h1,h2,rfl,h3⟩ | ⟨h1,rfl,rfl⟩
 ·rw [h1] at hx;cases hx;exact ⟨_,Int.le_refl _,aBH _ _ _⟩
 ·exact aTm (h1 x hx)
theorem aUZ.wgt {B:Nat}(h:aUZ N i mi t W t' W') (hN:N.Ok (B:Int)) (h0:0<=m0) (hI:TInv N m0 t W X) (hr:∀ x,N.ps i mi=some x->Rch N m0 i x):(wgt N B t'=wgt N B t /\ W'.length=W.length)∨(wgt N B t'<wgt N B t /\ W'.length=W.length+1):=by
 rcases h with ⟨x,h1,h2,rfl,h3⟩ | ⟨_,rfl,rfl⟩
 ·have hx:=hr x h1;refine .inr ⟨aKG hx.lt h2 (by have:=hx.ge hN h0;omega) (hx.le hN h0) fun m e=>(hI.snd i m e).le hN h0,?_⟩;rw [h3.length_eq];simp
 ·exact .inl ⟨rfl,rfl⟩
end
theorem aKS (t:Nat->Option Int) (k:Nat):aGe t (.int .i64 (k:Int))=(t k).map fun m => .int .i64 m:=rfl
theorem aRe:aGe (fun _=>none)=fun _=>none:=by
 funext v;unfold aGe
 split<;>rfl
theorem aMb (t:Nat->Option Int) (k:Nat) (x:Int):upd (aGe t) (.int .i64 (k:Int)) (.int .i64 x)=aGe (aJx t k x):=by
 funext v
 by_cases e:v = .int .i64 (k:Int)
 ·subst e;rw [aCt,aKS,aBH];rfl
 ·rw [aBG _ e];unfold aGe
  split
  ·rename_i j;rw [aBW _ _ fun h=>e (by rw [h];rfl)]
  ·rfl
end Go.Pl
namespace Go.Proofs.YtbflfefahheidaaGreatDoor
open Go.RowKit Go.Pl
theorem aW0:Maps.Keyed Tryz.prog 3:=Maps.int_keyed u3_
theorem aW1 {n:Int}(h : -9223372036854775808<=n /\ n<=9223372036854775807):∃ l,keyOf Tryz.prog 3 (vI n)=some l:=⟨_,Maps.keyOf_int_mk u3_ (by
  show (decide (IntKind.i64.min<=n)&&decide (n<=IntKind.i64.max))=true;have h1:IntKind.i64.min = -9223372036854775808:=by rfl
  have h2:IntKind.i64.max=9223372036854775807:=by rfl
  rw [h1,h2];simp only [Ga_,decide_eq_true_eq];exact h)⟩
theorem aQK (w:World):(zeroValue 3).run Tryz.prog w = .ok (vI 0) w:=by kernel_rfl
theorem aSE (t:Nat->Option Int) (i:Nat):(.tuple #[((aGe t) (vI (i:Int))).getD (vI 0),.bool ((aGe t) (vI (i:Int))).isSome]:Value) = .tuple #[vI ((t i).getD 0),vB (t i).isSome]:=by
  rw [aKS];cases t i<;>rfl
abbrev tbE (b n:Nat) (t:Nat->Option Int):Ent:=mp Tryz.prog 3 b n (aGe t)
def aAj (prof:Bys) (os:List ObR) (from_:Bys):NetW where
  n:=(AS os).length
  st i:=match (AS os)[i]? with | some a=>a.1==from_ | none=>false
  ps i m:=match (AS os)[i]? with | some a=>aBR prof os a m | none=>none
  al i k:=match (AS os)[i]?,(AS os)[k]? with | some a,some b=>aE4 prof os a b | _,_=>false
theorem aKg {w:World}(m n:Int):Calls Tryz.prog 60 #[vI m,vI n] w fun e w'=>e = .returned (vB (decide (m<n))) /\ Fr nF_ w w':=by
  refine beg Tryz.func60 rfl rfl [(0,vI m),(1,vI n)] rfl rfl fun Z hZ=>?_;have hM:=Mm.nil nF_ w;exact rt1 4 (vB (decide (m<n))) rfl f0 (hZ _ _ ⟨rfl,hM.fr⟩)
theorem aBX {w:World}{b n:Nat}{t:Nat->Option Int}(hm:aD0 Tryz.prog 3 w b n (aGe t)) {i:Nat}(hi:i<=4000000000000000000):Calls Tryz.prog 31 #[.agg #[.map (some b)],vI (i:Int)] w fun e w'=>e = .returned (.tuple #[vI ((t i).getD 0),vB (t i).isSome]) /\ Fr nF_ w w':=by
  refine beg Tryz.func31 rfl rfl [(0,.agg #[.map (some b)]),(1,vI (i:Int))] rfl rfl fun Z hZ=>?_;have hM:=Mm.nil nF_ w;refine aAp 0 0 2 [] (cs:=#[.map (some b)]) (T:=73) (v:=fun b=>vP b 0) f0 hM fun aa w1 hM=>rt2 4 5 (vI ((t i).getD 0)) (vB (t i).isSome) rfl rfl (fc (ldm 71 0 0 hM rfl rfl) (fc (rz2 (aVQ 71 (vI (i:Int)) (vI 0) (hm.fr hM.fr id) aW0 u71_ (aW1 (by omega)) (aQK _)) (aSE t i)) f0)) (hZ _ _ ⟨rfl,hM.fr⟩)
theorem aK4 {w:World}{G:Nat->Prop}{b n:Nat}{t:Nat->Option Int}(hM0:Mm G w w [tbE b n t]) {i:Nat}(hi:i<=4000000000000000000) (x:Int):Calls Tryz.prog 63 #[.agg #[.map (some b)],vI (i:Int),vI x,.func (.func 60) #[] #[]] w fun e w'=>∃ (u:Value) (Mn:List Ent),e = .returned u /\ (u=vB (bet t i x) /\ ∃ n',Mn=[tbE b n' (bif bet t i x then aJx t i x else t)]) /\ Mm G w w' Mn:=by
  refine beg Tryz.func63 rfl rfl [(0,.agg #[.map (some b)]),(1,vI (i:Int)),(2,vI x),(3,.func (.func 60) #[] #[])] rfl rfl fun Z hZ=>?_;have hM:=hM0;refine aAp 0 0 4 [] (cs:=#[.map (some b)]) (T:=73) (v:=fun b=>vP b 0) f0 hM fun aa w1 hM=>seg 2 2 [(9,vI ((t i).getD 0)),(19,vB (t i).isSome)] (fc (ldm 71 1 0 hM rfl rfl) (fc (rz2 (aVQ 71 (vI (i:Int)) (vI 0) (hM.get 0 rfl) aW0 u71_ (aW1 (by omega)) (aQK _)) (aSE t i)) f0)) ?_
  cases ab:(t i).isSome with
  | false =>
   refine mup 4 4 [(27,.map (some b)),(28,vI (i:Int)),(29,vI x)] 71 0 (vI (i:Int)) (vI x) (fc (ldm 71 1 0 hM rfl rfl) f0) hM rfl aW0 u71_ (aW1 (by omega)) fun w1 hM=>?_
   have hb:bet t i x=true:=by
     unfold bet
     cases e:t i with
     | none=>simp_all
     | some o=>simp_all
   rw [aMb] at hM;exact rt1 8 (vB true) rfl f0 (hZ _ _ ⟨_,[tbE b (n+1) (aJx t i x)],rfl,⟨by rw [hb],_,by rw [hb];rfl⟩,hM.pick [0]⟩)
  | true =>
   refine aAq 2 5 23 [(20,.func (.func 60) #[] #[]),(21,vI x),(22,vI ((t i).getD 0))] f0 hM (aKg x ((t i).getD 0)) fun w1 hM=>seg 2 8 [(25,vB (!(decide (x<((t i).getD 0)))))] f0 ?_;cases ac:(decide (x<((t i).getD 0)))
   ·have hb:bet t i x=false:=by
      unfold bet
      cases e:t i with
      | none=>simp_all
      | some o=>simp_all
    exact rt1 8 (vB false) rfl f0 (hZ _ _ ⟨_,[tbE b n t],rfl,⟨by rw [hb],_,by rw [hb];rfl⟩,hM.pick [0]⟩)
   refine mup 4 4 [(27,.map (some b)),(28,vI (i:Int)),(29,vI x)] 71 0 (vI (i:Int)) (vI x) (fc (ldm 71 1 0 hM rfl rfl) f0) hM rfl aW0 u71_ (aW1 (by omega)) fun w1 hM=>?_
   have hb:bet t i x=true:=by
     unfold bet
     cases e:t i with
     | none=>simp_all
     | some o=>simp_all
   rw [aMb] at hM;exact rt1 8 (vB true) rfl f0 (hZ _ _ ⟨_,[tbE b (n+1) (aJx t i x)],rfl,⟨by rw [hb],_,by rw [hb];rfl⟩,hM.pick [0]⟩)
theorem aU8 {r:Int}:∀ {l:List Sp}{lo:Int},vl lo l=true->match l.find? (fun s=>decide (r<s.2)) with | some s=>s∈l /\ r<s.2 /\ (∀ y,r<=y->y<s.1->¬ mn l y) | none=>∀ y,r<=y->¬ mn l y:=by
  intro l
  induction l with
  | nil=>intro lo _ y _ h;exact aEz y h
  | cons t l ih =>
    intro lo h;obtain ⟨h1,h2,h3,h4⟩:=aB3.1 h
    by_cases hr:r<t.2
    · rw [List.find?_cons_of_pos (by simpa using hr)]
      refine ⟨by simp,hr,fun y hy1 hy2 hm=>?_⟩;rcases aAK.1 hm with h5 | h5
      · omega
      · have:=aF3 h4 h5;omega
    · rw [List.find?_cons_of_neg (by simpa using hr)]
      have:=ih h4
      split at this
      · rename_i s he
        obtain ⟨h5,h6,h7⟩:=this;refine ⟨by simp [h5],h6,fun y hy1 hy2 hm=>?_⟩;rcases aAK.1 hm with h8 | h8
        · omega
        · exact h7 y hy1 hy2 h8
      · intro y hy1 hm
        rcases aAK.1 hm with h8 | h8
        · omega
        · exact this y hy1 h8
theorem aM1 {l:List Sp}{m:Int}(hv:vl (-1) l=true) (h0:0<=m) (hne:l≠[]):m<=aDp l m /\ aDp l m<m+10080 /\ mn l (aDp l m%10080) /\ ∀ x,m<=x->x<aDp l m->¬ mn l (x%10080):=by
  have hf:=aU8 (r:=m%10080) hv;have hw:=aT2 (Int.le_refl _) hv;unfold aDp
  split
  · rename_i s he
    rw [he] at hf;obtain ⟨h1,h2,h3⟩:=hf;obtain ⟨w1,w2,w3⟩:=hw s h1;refine ⟨by omega,by omega,⟨s,h1,by omega,by omega⟩,fun x hx1 hx2=>?_⟩;have:=h3 (x%10080) (by omega) (by omega);exact this
  · rename_i he
    rw [he] at hf;obtain ⟨s,l',rfl⟩:=List.exists_cons_of_ne_nil hne;obtain ⟨w1,w2,w3⟩:=hw s (by simp);have hs:(s::l').headD (0,0)=s:=rfl;rw [hs]
    have hlt:s.1<m%10080:=by
      rcases Int.lt_or_le s.1 (m%10080) with h | h
      · exact h
      · exact absurd ⟨s,by simp,Int.le_refl _,w2⟩ (hf s.1 h)
    refine ⟨by omega,by omega,⟨s,by simp,by omega,by omega⟩,fun x hx1 hx2 hm=>?_⟩;rcases Int.lt_or_le x (m-m%10080+10080) with h | h
    · exact hf _ (by omega) hm
    · obtain ⟨g1,g2,g3,g4⟩:=aB3.1 hv
      rcases aAK.1 hm with h5 | h5
      · omega
      · have:=aF3 g4 h5;omega
theorem aN8 {l:List Sp}{m m':Int}(h0:0<=m) (hm:m<=m') (h:(aAz l m').2=true):(aAz l m).2=true /\ (aAz l m).1<=(aAz l m').1:=by
  unfold aAz at h ⊢
  split at h
  · rename_i hc
    simp only [Ga_,Bool.not_eq_true'] at hc;obtain ⟨⟨h1,h2⟩,h3⟩:=hc
    have hb:aBo m=true:=by
      unfold aBo at h2 ⊢;simp only [Ga_,decide_eq_true_eq] at h2 ⊢;omega
    have hne:l≠[]:=by rintro rfl;cases h3
    rw [h1,h2,hb,h3];refine ⟨rfl,?_⟩;show aDp l m<=aDp l m';obtain ⟨a1,_,_,a4⟩:=aM1 h1 h0 hne;obtain ⟨b1,_,b3,_⟩:=aM1 h1 (show 0<=m' by omega) hne;rcases Int.lt_or_le (aDp l m') (aDp l m) with h | h
    · exact absurd b3 (a4 _ (by omega) h)
    · exact h
  · cases h
theorem aR2 {prof:Bys}{os:List ObR}{a:Arc}(ha:a∈AS os):1<=(aHC prof os a.2.2.1).speed /\ (aHC prof os a.2.2.1).speed<=9999999:=by
  obtain ⟨b,hb⟩:=aOq ha;unfold aHC;rw [hb];exact aJH _
theorem aO9 {len sp:Int}(h1:1<=len) (h2:len<4294967296) (h3:1<=sp) (h4:sp<=9999999):1<=(len+sp-1) / sp /\ (len+sp-1) / sp<=4304967296:=by
  refine ⟨Int.le_ediv_of_mul_le (by omega) (by omega),?_⟩;have:=Int.ediv_le_self (a:=len+sp-1) sp (by omega);omega
theorem aMx {prof:Bys}{os:List ObR}{a:Arc}(ha:a∈AS os) (hb:ArcB a) {m x:Int}(h0:0<=m) (h:aBR prof os a m=some x):m<x /\ x<=6000000000:=by
  have hr:=aR2 (prof:=prof) ha;unfold aBR at h;simp only at h;generalize aHC prof os a.2.2.1=r at h hr;have ht:=aO9 hb.pos hb.lt hr.1 hr.2
  cases h1:(r.closed||(r.oneway && !fwd a.1 a.2.1 r.refs)||decide (1000000000<m)) with
  | true=>rw [h1] at h;cases h
  | false =>
    rw [h1] at h;simp only [Bool.or_eq_false_iff,decide_eq_false_iff_not] at h1
    cases h2:r.limited with
    | false =>
      rw [h2] at h;simp only [cond_false,Gm_] at h;omega
    | true =>
      rw [h2] at h
      cases h3:(!((aAz r.hours m).2)||decide (1000000000<(aAz r.hours m).1)) with
      | true=>rw [h3] at h;cases h
      | false =>
        rw [h3] at h;simp only [cond_true,cond_false,Gm_] at h;simp only [Bool.or_eq_false_iff,decide_eq_false_iff_not,Bool.not_eq_false'] at h3;have:=aIS h3.1;omega
theorem aN7 {prof:Bys}{os:List ObR}{a:Arc}{m m' x:Int}(h0:0<=m) (hm:m<=m') (h:aBR prof os a m'=some x):∃ y,y<=x /\ aBR prof os a m=some y:=by
  unfold aBR at h ⊢;simp only at h ⊢;generalize aHC prof os a.2.2.1=r at h
  cases h1:(r.closed||(r.oneway && !fwd a.1 a.2.1 r.refs)||decide (1000000000<m')) with
  | true=>rw [h1] at h;cases h
  | false =>
    rw [h1] at h
    have h1':(r.closed||(r.oneway && !fwd a.1 a.2.1 r.refs)||decide (1000000000<m))=false:=by
      simp only [Bool.or_eq_false_iff,decide_eq_false_iff_not] at h1 ⊢;exact ⟨h1.1,by omega⟩
    rw [h1']
    cases h2:r.limited with
    | false =>
      rw [h2] at h;simp only [cond_false,Gm_] at h ⊢;exact ⟨_,by omega,rfl⟩
    | true =>
      rw [h2] at h
      cases h3:(!((aAz r.hours m').2)||decide (1000000000<(aAz r.hours m').1)) with
      | true=>rw [h3] at h;cases h
      | false =>
        rw [h3] at h;simp only [Bool.or_eq_false_iff,decide_eq_false_iff_not,Bool.not_eq_false'] at h3;obtain ⟨n1,n2⟩:=aN8 h0 hm h3.1
        have h4:(!((aAz r.hours m).2)||decide (1000000000<(aAz r.hours m).1))=false:=by
          rw [n1];simp only [Bool.not_true,Bool.false_or,decide_eq_false_iff_not];omega
        rw [h4];simp only [cond_true,cond_false,Gm_] at h ⊢;exact ⟨_,by omega,rfl⟩
theorem aGs {prof:Bys}{os:List ObR}(hok:∀ a∈AS os,ArcB a) (f:Bys):(aAj prof os f).Ok 6000000000:=by
  refine ⟨fun {i m x} hi h0 h=>?_,fun {i m m' x} h0 hm h=>?_,fun {i m x} hi h0 h=>?_⟩
  · obtain ⟨a,ha⟩:=geb (l:=AS os) (i:=i) hi
    have h:(match (AS os)[i]? with | some a=>aBR prof os a m | none=>none)=some x:=h;rw [ha] at h;exact (aMx (gm ha) (hok a (gm ha)) h0 h).1
  · have h:(match (AS os)[i]? with | some a=>aBR prof os a m' | none=>none)=some x:=h
    show ∃ y,y<=x /\ (match (AS os)[i]? with | some a=>aBR prof os a m | none=>none)=some y
    cases ha:(AS os)[i]? with
    | none=>rw [ha] at h;cases h
    | some a=>rw [ha] at h;exact aN7 h0 hm h
  · obtain ⟨a,ha⟩:=geb (l:=AS os) (i:=i) hi
    have h:(match (AS os)[i]? with | some a=>aBR prof os a m | none=>none)=some x:=h;rw [ha] at h;exact (aMx (gm ha) (hok a (gm ha)) h0 h).2
theorem aPR {l:List Arc}{s:Bys}{j:Nat}{z:Int}(h:(aC9 l s)[j]?=some z):∃ k a,z=((k:Nat):Int) /\ l[k]?=some a /\ a.1=s:=by
  have h:=Ge_ h;unfold aC9 at h;obtain ⟨⟨a,k⟩,hx,rfl⟩:=List.mem_map.1 h;obtain ⟨h1,h2⟩:=List.mem_filter.1 hx;exact ⟨k,a,rfl,List.mk_mem_zipIdx_iff_getElem?.1 h1,by simpa using h2⟩
theorem aM9 {l:List Arc}{s:Bys}{k:Nat}{a:Arc}(h:l[k]?=some a) (hs:a.1=s):k∈(aC9 l s).map Int.toNat:=by
  unfold aC9;rw [List.map_map,List.mem_map];exact ⟨(a,k),List.mem_filter.2 ⟨List.mk_mem_zipIdx_iff_getElem?.2 h,by simpa using hs⟩,rfl⟩
theorem StF.frB {wS w w':World}{G:Nat->Prop}{bs ca bo br bb no nr nb:Nat}{qa:Option Addr}{prof:Bys}{os:List ObR}{T:aEN}{T2:RdT}(h:StF wS bs ca bo br bb no nr nb qa prof os T T2) (hf:Fr nF_ wS w) (hG:∀ k,G k->wS.heap.size<=k) (f:Fr G w w'):StF w' bs ca bo br bb no nr nb qa prof os T T2 :=
  h.fr (hf.trans' f fun r hr hg=>by have:=hG r hg;omega)
theorem aC5 {w:World}{bs ca bo br bb no nr nb:Nat}{qa:Option Addr}{prof:Bys}{os:List ObR}{T:aEN}{T2:RdT}(hS:StF w bs ca bo br bb no nr nb qa prof os T T2) (hT2:T2.map (·.1)=aBQ os) (f:Bys) {i:Nat}(hi:i<(AS os).length) {mi:Int}(hm0:0<=mi) (hm1:mi<=4000000000000000000):Calls Tryz.prog 62 #[vP bs 0,vI (i:Int),vI mi] w fun e w'=>e = .returned (.tuple #[vI (((aAj prof os f).ps i mi).getD 0),vB ((aAj prof os f).ps i mi).isSome]) /\ Fr nF_ w w' :=
  (aN6 hS hT2 hi hm0 hm1).mono fun e w' ⟨⟨a,ha,he⟩,h⟩=>⟨by
    have e2:(aAj prof os f).ps i mi=aBR prof os a mi:=by
      show (match (AS os)[i]? with | some a=>aBR prof os a mi | none=>none)=_;rw [ha]
    rw [he,e2];exact (match aBR prof os a mi with | none=>rfl | some _=>rfl),h⟩
theorem aCL {w:World}{bs ca bo br bb no nr nb:Nat}{qa:Option Addr}{prof:Bys}{os:List ObR}{T:aEN}{T2:RdT}(hS:StF w bs ca bo br bb no nr nb qa prof os T T2) (f:Bys) {i k:Nat}(hi:i<(AS os).length) (hk:k<(AS os).length):Calls Tryz.prog 66 #[vP bs 0,vI (i:Int),vI (k:Int)] w fun e w'=>e = .returned (vB ((aAj prof os f).al i k)) /\ Fr nF_ w w' :=
  (aJt hS hi hk).mono fun e w' ⟨⟨a,b,ha,hb,he⟩,h⟩=>⟨by
    have e2:(aAj prof os f).al i k=aE4 prof os a b:=by
      show (match (AS os)[i]?,(AS os)[k]? with | some a,some b=>aE4 prof os a b | _,_=>false)=_;rw [ha,hb]
    rw [he,e2],h⟩
abbrev TM (c3 bs c7 b c8 c9 q n:Nat) (t:Nat->Option Int) (v:Value) (X:List (Nat×Int)):List Ent :=
  [bk c3 #[vP bs 0] 69,bk c7 #[.map (some b)] 73,bk c8 #[.func (.func 60) #[] #[]] 92,bk c9 #[.iface 115 (vP q 0)] 119,tbE b n t,bk q #[v] 117,rw_ reL 2 124 v X]
theorem aJ9 {wS w:World}{G:Nat->Prop}{bs ca bo br bb no nr nb:Nat}{qa:Option Addr}{prof:Bys}{os:List ObR}{T:aEN}{T2:RdT}(hS:StF wS bs ca bo br bb no nr nb qa prof os T T2) (hT2:T2.map (·.1)=aBQ os) (f:Bys) (hf:Fr nF_ wS w) (hG:∀ k,G k->wS.heap.size<=k) {c3 c7 b c8 c9 q n:Nat}{t:Nat->Option Int}{v:Value}{X:List (Nat×Int)}(hM0:Mm G w w (TM c3 bs c7 b c8 c9 q n t v X)) (hl:X.length<1500000000000) {i:Nat}(hi:i<(AS os).length) (hi2:(AS os).length<=400000000) {mi:Int}(hm0:0<=mi) (hm1:mi<=4000000000000000000):Calls Tryz.prog 61 #[vI (i:Int),vI mi,vP c3 0,vP c7 0,vP c8 0,vP c9 0] w fun e w'=>∃ (u:Value) (Mn:List Ent),e = .returned u /\ (u = .tuple #[] /\ ∃ n' t' v' X',aUZ (aAj prof os f) i mi t X t' X' /\ Mn=TM c3 bs c7 b c8 c9 q n' t' v' X') /\ Mm G w w' Mn:=by
  obtain ⟨o,ho⟩:∃ o,o=(aAj prof os f).ps i mi:=⟨_,rfl⟩;refine beg Tryz.func61 rfl rfl [(0,vI (i:Int)),(1,vI mi),(2,vP c3 0),(3,vP c7 0),(4,vP c8 0),(5,vP c9 0)] rfl rfl fun Z hZ=>?_;have hM:=hM0;refine aAq 0 3 14 [(11,vP bs 0),(12,vI (i:Int)),(13,vI mi)] (fc (ldm 69 0 0 hM rfl rfl) f0) hM (ho▸aC5 (hS.frB hf hG hM.fr) hT2 f hi hm0 hm1) fun w1 hM=>seg 1 2 [(8,vI (o.getD 0)),(18,vB o.isSome)] f0 ?_
  cases ab:o.isSome with
  | false =>
   have hn:o=none:=by cases o with | none=>rfl | some x=>cases ab
   exact rt0 rfl f0 (hZ _ _ ⟨_,TM c3 bs c7 b c8 c9 q n t v X,rfl,⟨rfl,_,_,_,_,.inr ⟨fun x hx=>(by rw [←ho,hn] at hx;cases hx),rfl,rfl⟩,rfl⟩,hM.pick [0,1,2,3,4,5,6]⟩)
  | true =>
   refine aAM 1 6 23 [(19,.agg #[.map (some b)]),(20,vI (i:Int)),(21,vI (o.getD 0)),(22,.func (.func 60) #[] #[])] (K:=fun u Mn=>u=vB (bet t i (o.getD 0)) /\ ∃ n',Mn=[tbE b n' (bif bet t i (o.getD 0) then aJx t i (o.getD 0) else t)]) [0,1,2,3,5,6] [4] (fc (lam 73 1 0 1 hM rfl) (fc (ldm 92 2 0 hM rfl rfl) f0)) hM rfl rfl (by decide) (fun hm=>(aK4 hm (by omega) (o.getD 0))) fun u Mn w1 hK hM=>?_;obtain ⟨rfl,n199,rfl⟩:=hK;refine seg 1 8 [(24,vB (bet t i (o.getD 0)))] f0 ?_;cases aa:(bet t i (o.getD 0))
   ·obtain ⟨x,hx⟩:=Option.isSome_iff_exists.1 ab;have hx0:o.getD 0=x:=by rw [hx];rfl
    rw [aa] at hM;exact rt0 rfl f0 (hZ _ _ ⟨_,TM c3 bs c7 b c8 c9 q n199 t v X,rfl,⟨rfl,_,_,_,_,.inr ⟨fun y hy=>(by rw [←ho,hx] at hy;cases hy;rw [←hx0];exact aa),rfl,rfl⟩,rfl⟩,hM.pick [0,1,2,3,6,4,5]⟩)
   refine aAM 2 5 30 [(25,.iface 115 (vP q 0)),(29,.iface 124 (.agg #[vI (i:Int),vI (o.getD 0)]))] (K:=fun u Mn=>u = .tuple #[] /\ ∃ v' X',X'.Perm (X++[(i,o.getD 0)]) /\ Mn=QM q v' X') [0,1,2,3,6] [4,5] (fc (ldm 119 3 0 hM rfl rfl) f0) hM rfl rfl (by decide) (fun hm=>(aL1 hm hl (i,o.getD 0))) fun u Mn w1 hK hM=>?_;obtain ⟨rfl,v2,X2,hX2,rfl⟩:=hK;obtain ⟨x,hx⟩:=Option.isSome_iff_exists.1 ab;have hx0:o.getD 0=x:=by rw [hx];rfl
   rw [aa] at hM;exact rt0 rfl f0 (hZ _ _ ⟨_,TM c3 bs c7 b c8 c9 q n199 (aJx t i (o.getD 0)) v2 X2,rfl,⟨rfl,_,_,_,_,.inl ⟨o.getD 0,by rw [←ho,hx0];exact hx,aa,rfl,hX2⟩,rfl⟩,hM.pick [0,1,2,3,4,5,6]⟩)
theorem aXd {α:Type}{f:α->List Value}{c E:Nat}{F0:Nat->Prop}{w0 w:World}{M:List Ent}(h:Mm F0 w0 w M) {j b:Nat}(hj:M[j]?=some (bk b #[] E)):Mm F0 w0 w (M.set j (rw_ f c E (vL (some ⟨b,0,none⟩) 0 0) [])) :=
  h.put j hj (Fr.refl nF_ _) (fun _ _ h=>h.elim) (show ow f c E w 0 _ [] from ⟨by simp,.inr ⟨b,0,#[],rfl,Gg_ _,h.get j hj,Gl_ _,by unfold maxLen;omega,by simp,by simp⟩⟩) fun k e => .inl (by
    have e:some b=some k:=e;exact (Gh_ e).symm)
theorem aPs {w:World}{bs ca bo br bb no nr nb:Nat}{qa:Option Addr}{prof:Bys}{os:List ObR}{T:aEN}{T2:RdT}(hS:StF w bs ca bo br bb no nr nb qa prof os T T2) (hTr:∀ s,aE6 T s=aC9 (AS os) s) (s:Bys):∃ p c,(aCH T (vS s)).getD (vL none 0 0)=vL p (aC9 (AS os) s).length c /\ SrcP inL 1 w p c (aC9 (AS os) s):=by
  have h:=hTr s;unfold aE6 at h;rw [aLq]
  cases hf:T.find? (fun x=>x.1==s) with
  | none =>
    rw [hf] at h;have h:([]:List Int)=aC9 (AS os) s:=h;rw [←h];obtain ⟨p,c,h1,h2⟩:=(Src.nil (f:=inL) (c:=1) w).op;exact ⟨p,c,h1,h2⟩
  | some x =>
    rw [hf] at h;have h:x.2.2=aC9 (AS os) s:=h;rw [←h];exact (hS.rows x (List.mem_of_find?_eq_some hf)).op
theorem aRW {prof:Bys}{os:List ObR}{f:Bys}{k:Nat}{a:Arc}(h:(AS os)[k]?=some a) (hf:a.1=f):(aAj prof os f).st k=true:=by
  show (match (AS os)[k]? with | some a=>a.1==f | none=>false)=true;rw [h];simpa using hf
theorem aPA {prof:Bys}{os:List ObR}{f:Bys}{t:Nat->Option Int}{m0:Int}(h:ClL (aAj prof os f) t (fun _=>true) m0 ((aC9 (AS os) f).map Int.toNat)):∀ i,i<(aAj prof os f).n->(aAj prof os f).st i=true->∀ x,(aAj prof os f).ps i m0=some x->∃ y,y<=x /\ t i=some y:=by
  intro i hi hs x hx;obtain ⟨a,ha⟩:=geb (l:=AS os) (i:=i) hi;have hs:(match (AS os)[i]? with | some a=>a.1==f | none=>false)=true:=hs;rw [ha] at hs;exact h i (aM9 ha (by simpa using hs)) rfl x hx
theorem aRX {prof:Bys}{os:List ObR}{f:Bys}{t:Nat->Option Int}{i:Nat}{m:Int}{a:Arc}(ha:(AS os)[i]?=some a) (h:ClL (aAj prof os f) t ((aAj prof os f).al i) m ((aC9 (AS os) a.2.1).map Int.toNat)):Cl (aAj prof os f) t i m:=by
  intro k hk hal x hx;obtain ⟨b,hb⟩:=geb (l:=AS os) (i:=k) hk;have h2:(match (AS os)[i]?,(AS os)[k]? with | some a,some b=>aE4 prof os a b | _,_=>false)=true:=hal;rw [ha,hb] at h2;unfold aE4 at h2;simp only [Ga_] at h2;exact h k (aM9 hb (et h2.1).symm) hal x hx
abbrev A30 (Z:Ending->World->Prop):=AtO Tryz.prog (aAf Tryz.f30) (aAo (bodyPost Tryz.prog Tryz.f30 Z)) [] 88
theorem aE1 {w:World}{bs ca bo br bb no nr nb:Nat}{qa:Option Addr}{prof:Bys}{os:List ObR}{T:aEN}{T2:RdT}(hS:StF w bs ca bo br bb no nr nb qa prof os T T2) (hT2:T2.map (·.1)=aBQ os) (hTr:∀ s,aE6 T s=aC9 (AS os) s) (hn:(AS os).length<=240) {f:Bys}(hf63:B63 f) {m0:Int}(h0:0<=m0) (h1:m0<=1000000000000):Calls Tryz.prog 30 #[vP bs 0,vS f,vI m0] w fun e w'=>∃ b n t,e = .returned (.agg #[.map (some b)]) /\ Tab (aAj prof os f) m0 t /\ Mm nF_ w w' [tbE b n t]:=by
  have hNo:=aGs (prof:=prof) hS.ok f;obtain ⟨po,co,eo,so⟩:=aPs hS hTr f;have bso:=so.bnd;obtain ⟨W0,hW0⟩:∃ z,z=(AS os).length*6000000001:=⟨_,rfl⟩;refine beg Tryz.func30 rfl rfl [(0,vP bs 0),(1,vS f),(2,vI m0)] rfl rfl fun Z hZ=>?_;have hM:=Mm.nil nF_ w;refine aAp 0 0 3 [] (cs:=#[vP bs 0]) (T:=69) (v:=fun b=>vP b 0) f0 hM fun aa w1 hM=>aAp 0 1 6 [] (cs:=#[.map none]) (T:=73) (v:=fun b=>vP b 0) f0 hM fun ag w1 hM=>aHF 1 0 18 [] 3 f0 hM fun ad w1 hM=>aCl 1 2 7 [(19,.agg #[.map (some ad)])] [] 73 (.agg #[.map (some ad)]) f0 hM fun ab w1 hM=>aCl 2 0 8 [] [] 92 (.func (.func 60) #[] #[]) f0 hM fun af w1 hM=>aAp 3 0 20 [] (cs:=#[]) (T:=124) (v:=fun b=>vL (some ⟨b,0,none⟩) 0 0) f0 hM fun ai w1 hM=>aAp 3 1 21 [] (cs:=#[vL (some ⟨ai,0,none⟩) 0 0]) (T:=117) (v:=fun b=>vP b 0) f0 hM fun ae w1 hM=>aCl 3 3 9 [(22,.iface 115 (vP ae 0))] [] 119 (.iface 115 (vP ae 0)) f0 hM fun ac w1 hM=>?_;have hM:=aXd hM (f:=reL) (c:=2) (j:=5) rfl;refine seg 6 0 [(10,.func (.func 61) #[] #[vP aa 0,vP ab 0,vP af 0,vP ac 0]),(29,vL po (aC9 (AS os) f).length co),(30,vI ((aC9 (AS os) f).length:Int)),(31,vI 0)] (fc (ldm 69 0 0 hM rfl rfl) (fc (ld0 76 hM (bx hS.blk 2 rfl)) (fc (rz2 (lkN 76 (vS f) (vL none 0 0) (hS.out.fr hM.fr id) aD5 u76_ (aD6 hf63) (aOh _)) eo) f0))) ?_
  have aw:∀ (aj:Nat) (n1:Nat) (t1:Nat->Option Int) (v1:Value) (X1:List (Nat×Int)) (j:Nat) (w2:World),TInv (aAj prof os f) m0 t1 X1 (fun _ _=>False)->ClL (aAj prof os f) t1 (fun _=>true) m0 (((aC9 (AS os) f).take j).map Int.toNat)->j<=(aC9 (AS os) f).length->wgt (aAj prof os f) 6000000000 t1+X1.length<=W0->Mm nF_ w w2 [bk ag #[.map none] 73,bk aa #[vP bs 0] 69,bk ab #[.map (some ad)] 73,bk af #[.func (.func 60) #[] #[]] 92,bk ac #[.iface 115 (vP ae 0)] 119,mp Tryz.prog 3 ad n1 (aGe t1),bk ae #[v1] 117,rw_ reL 2 124 v1 X1]->aj=(aC9 (AS os) f).length-j->A30 Z (some (6,0)) [(31,vI (j:Int)),(30,vI ((aC9 (AS os) f).length:Int)),(29,vL po (aC9 (AS os) f).length co),(10,.func (.func 61) #[] #[vP aa 0,vP ab 0,vP af 0,vP ac 0]),(9,vP ac 0),(7,vP ab 0),(6,vP ag 0),(3,vP aa 0),(2,vI m0)] w2:=by
   refine aA8 fun aj ax n1 t1 v1 X1 j w2 hI hC hj hw hM bd=>seg 6 1 [(32,vB (decide ((j:Int)<((aC9 (AS os) f).length:Int))))] f0 ?_;cases ak:(decide ((j:Int)<((aC9 (AS os) f).length:Int)))
   rotate_left
   ·have ay:=dt ak;obtain ⟨z,hz,be,bf,az,a0⟩:=so.el (i:=j) (by omega);obtain ⟨k,b,ek,hk,hb⟩:=aPR hz;subst ek;have hrc:∀ x,(aAj prof os f).ps k m0=some x->Rch (aAj prof os f) m0 k x:=fun x hx => .base (gl hk) (aRW hk hb) hx;have hkl:=gl hk;refine aAM 8 3 38 [(35,.func (.func 61) #[] #[vP aa 0,vP ab 0,vP af 0,vP ac 0]),(36,vI (k:Int)),(37,vI m0)] (K:=fun u Mn=>u = .tuple #[] /\ ∃ n' t' v' X',aUZ (aAj prof os f) k m0 t1 X1 t' X' /\ Mn=TM aa bs ab ad af ac ae n' t' v' X') [0] [1,2,3,4,5,6,7] (fc (ix 29 co az (gl hz)) (fc (ld0 3 hM (a0 0 _ rfl)) f0)) hM rfl rfl (by decide) (fun hm=>(aJ9 hS hT2 f hM.fr (fun k ⟨e,he,hk⟩=>(hM.pick [1,2,3,4,5,6,7]).ge he hk) hm (by omega) (gl hk) (by omega) (by omega) (by omega))) fun u Mn w1 hK hM=>?_;obtain ⟨rfl,n229,t229,a1,X229,hP229,rfl⟩:=hK;refine seg 6 0 [(31,vI ((j:Int)+1))] (fc (aAe (j:Int) 1 u3_) f0) (aAb _ (ax _ (by have:=gl hz;omega) n229 t229 a1 X229 (j+1) _ (hP229.inv hI hrc) (by rw [gt_ hz,List.map_append];exact (hC.mono hP229.le).snoc fun _=>hP229.done) (gl hz) (by rcases hP229.wgt (B:=6000000000) hNo h0 hI hrc with ⟨q1,q2⟩ | ⟨q1,q2⟩<;>omega) hM rfl))
   have ay:=df ak;rw [show (aC9 (AS os) f).take j=aC9 (AS os) f from Gc_ (by omega)] at hC;refine seg 10 0 [] f0 ?_
   have a2:∀ (ah:Nat) (n4:Nat) (t4:Nat->Option Int) (v4:Value) (X4:List (Nat×Int)) (w2:World),TInv (aAj prof os f) m0 t4 X4 (fun _ _=>False)->ClL (aAj prof os f) t4 (fun _=>true) m0 ((aC9 (AS os) f).map Int.toNat)->wgt (aAj prof os f) 6000000000 t4+X4.length<=W0->Mm nF_ w w2 [bk ag #[.map none] 73,bk aa #[vP bs 0] 69,bk ab #[.map (some ad)] 73,bk af #[.func (.func 60) #[] #[]] 92,bk ac #[.iface 115 (vP ae 0)] 119,mp Tryz.prog 3 ad n4 (aGe t4),bk ae #[v4] 117,rw_ reL 2 124 v4 X4]->ah=2*wgt (aAj prof os f) 6000000000 t4+X4.length->A30 Z (some (10,0)) [(10,.func (.func 61) #[] #[vP aa 0,vP ab 0,vP af 0,vP ac 0]),(9,vP ac 0),(7,vP ab 0),(6,vP ag 0),(3,vP aa 0)] w2:=by
    refine aA8 fun ah am n4 t4 v4 X4 w2 hI hC hw hM bg=>?_;obtain ⟨qb216,cb216,a3,bh⟩:=(hM.src (j:=7) rfl reT.len).op;subst a3;refine aW2 10 1 41 [(40,.iface 115 (vP ae 0))] "Len" #[] (by decide) (fc (ldm 119 4 0 hM rfl rfl) f0) (aPC (hM.get 6 rfl)) (enters_of Tryz.func235 (by kernel_rfl) rfl) (aW8 aFI) fun u w1 ⟨hu,f1⟩=>?_;subst hu;have hM:=hM.q f1;refine seg 10 3 [(42,vB (decide (0<(X4.length:Int))))] f0 ?_;cases an:(decide (0<(X4.length:Int)))
    ·have a4:=df an;refine stm 20 1 [(87,.agg #[.map (some ad)])] 73 0 0 (.agg #[.map (some ad)]) (fc (lam 73 2 0 1 hM rfl) f0) hM rfl fun w1 hM=>?_;have hX0:X4=[]:=List.eq_nil_of_length_eq_zero (by omega);rw [hX0] at hI;exact rtc 6 73 rfl (aAi 73 0 hM rfl rfl) f0 (hZ _ _ ⟨_,_,t4,rfl,hI.tab (aPA hC),hM.pick [5]⟩)
    have a4:=dt an;refine aAM 11 1 44 [(43,.iface 115 (vP ae 0))] (K:=fun u Mn=>∃ x v' X',X4.Perm (x::X') /\ u = .iface 124 (.agg #[vI (x.1:Int),vI x.2]) /\ Mn=QM ae v' X') [0,1,2,3,4,5] [6,7] (fc (ldm 119 4 0 hM rfl rfl) f0) hM rfl rfl (by decide) (fun hm=>(aNF hm (by omega) (by omega))) fun u Mn w1 hK hM=>?_;obtain ⟨x,v5,X5,hXp,rfl,rfl⟩:=hK;have hln:=hXp.length_eq;rw [Gf_] at hln;obtain ⟨hrx,m9,hm9,hx9⟩:=hI.wait x (hXp.mem_iff.2 (.head _));have hx1:x.1<(AS os).length:=hrx.lt;have hgx:=hrx.ge hNo h0;have hlx:=hrx.le hNo h0;have hx2:t4 x.1=some m9:=hx9;have hM:=hM.pick [0,1,2,3,4,5,6,7];refine aCl 11 3 13 [(45,.agg #[vI (x.1:Int),vI x.2])] [] 124 (.agg #[vI (x.1:Int),vI x.2]) f0 hM fun ao w1 hM=>aAq 12 3 50 [(47,.agg #[.map (some ad)]),(49,vI (x.1:Int))] (fc (lam 73 2 0 1 hM rfl) (fc (ldm 3 8 0 hM rfl rfl) f0)) hM (aBX (hM.get 5 rfl) (i:=x.1) (by omega)) fun w1 hM=>seg 13 4 [(56,vB (decide (((t4 x.1).getD 0)<x.2)))] (fc (ldm 3 8 1 hM rfl rfl) f0) ?_;cases ap:(decide (((t4 x.1).getD 0)<x.2))
    rotate_left
    ·refine seg 10 0 [] f0 ?_;have hM:=hM.pick [0,1,2,3,4,5,6,7];exact aAb _ (am _ (by omega) n4 t4 v5 X5 _ (hI.stale hXp hx2 (by simpa [hx2] using (dt ap))) hC (by omega) hM rfl)
    have hxe:m9=x.2:=by
      have:=df ap;rw [hx2] at this;have:¬ m9<x.2:=this;omega
    obtain ⟨a,ha,bi,bj,a5,a6⟩:=hS.arcs.el (i:=x.1) (by omega);obtain ⟨po2,co2,eo2,so2⟩:=aPs hS hTr a.2.1;have bso2:=so2.bnd;refine seg 14 0 [] f0 ?_;have hM:=hM.q ((Fr.refl _ _).drew);refine drq [(70,vL po2 (aC9 (AS os) a.2.1).length co2),(71,vI ((aC9 (AS os) a.2.1).length:Int)),(72,vI 0)] rfl (fc (ldm 69 1 0 hM rfl rfl) (fc (ld0 76 hM (bx hS.blk 2 rfl)) (fc (ldm 69 1 0 hM rfl rfl) (fc (ld0 75 hM (bx hS.blk 1 rfl)) (fc (ldm 3 8 0 hM rfl rfl) (fc (ix 75 ca a5 (gl ha)) (fc (ld0 9 hM (a6 1 _ rfl)) (fc (rz2 (lkN 76 (vS a.2.1) (vL none 0 0) (hS.out.fr hM.fr id) aD5 u76_ (aD6 (hS.ok a (gm ha)).f2) (aOh _)) eo2) f0)))))))) (seg 15 0 [] f0 ?_)
    have a7:∀ (aq:Nat) (n3:Nat) (t3:Nat->Option Int) (v3:Value) (X3:List (Nat×Int)) (j3:Nat) (w2:World),TInv (aAj prof os f) m0 t3 X3 (fun i m=>(i,m)=x)->ClL (aAj prof os f) t3 (fun _=>true) m0 ((aC9 (AS os) f).map Int.toNat)->ClL (aAj prof os f) t3 ((aAj prof os f).al x.1) x.2 (((aC9 (AS os) a.2.1).take j3).map Int.toNat)->j3<=(aC9 (AS os) a.2.1).length->wgt (aAj prof os f) 6000000000 t3+X3.length<=W0->2*wgt (aAj prof os f) 6000000000 t3+X3.length<ah->Mm nF_ w w2 [bk ag #[.map none] 73,bk ao #[vI (x.1:Int),vI x.2] 124,bk aa #[vP bs 0] 69,bk ab #[.map (some ad)] 73,bk af #[.func (.func 60) #[] #[]] 92,bk ac #[.iface 115 (vP ae 0)] 119,mp Tryz.prog 3 ad n3 (aGe t3),bk ae #[v3] 117,rw_ reL 2 124 v3 X3]->aq=(aC9 (AS os) a.2.1).length-j3->A30 Z (some (15,0)) [(72,vI (j3:Int)),(71,vI ((aC9 (AS os) a.2.1).length:Int)),(70,vL po2 (aC9 (AS os) a.2.1).length co2),(13,vP ao 0),(10,.func (.func 61) #[] #[vP aa 0,vP ab 0,vP af 0,vP ac 0]),(9,vP ac 0),(7,vP ab 0),(6,vP ag 0),(3,vP aa 0)] w2:=by
     refine aA8 fun aq ar n3 t3 v3 X3 j3 w2 hI3 hC3 hD hj3 hw3 hmu hM bl=>seg 15 1 [(73,vB (decide ((j3:Int)<((aC9 (AS os) a.2.1).length:Int))))] f0 ?_;cases au:(decide ((j3:Int)<((aC9 (AS os) a.2.1).length:Int)))
     ·have a8:=df au;refine seg 10 0 [] f0 ?_;have hM:=hM.pick [0,2,3,4,5,6,7,8];exact aAb _ (am _ (by omega) n3 t3 v3 X3 _ (hI3.close (aRX ha (by rw [Gc_ (by omega)] at hD;exact hD))) hC3 hw3 hM rfl)
     have a8:=dt au;obtain ⟨z,hz,bm,bp,a9,ba⟩:=so2.el (i:=j3) (by omega);obtain ⟨k,b,ek,hk,hb⟩:=aPR hz;subst ek;have hkl:=gl hk;refine aAq 17 4 80 [(17,vI (k:Int)),(76,vP bs 0),(78,vI (x.1:Int)),(79,vI (k:Int))] (fc (ix 29 co2 a9 (gl hz)) (fc (ld0 3 hM (ba 0 _ rfl)) (fc (ldm 69 2 0 hM rfl rfl) (fc (ldm 3 1 0 hM rfl rfl) f0)))) hM (aCL (hS.fr hM.fr) f hx1 hkl) fun w1 hM=>?_;cases av:((aAj prof os f).al x.1 k)
     ·refine seg 15 0 [(72,vI ((j3:Int)+1))] (fc (aAe (j3:Int) 1 u3_) f0) (aAb _ (ar _ (by have:=gl hz;omega) n3 t3 v3 X3 (j3+1) _ hI3 hC3 (by rw [gt_ hz,List.map_append];exact hD.snoc fun q9=>by rw [show Int.toNat (k:Int)=k from rfl,av] at q9;cases q9) (gl hz) hw3 hmu hM rfl))
     have hrc:∀ y,(aAj prof os f).ps k x.2=some y->Rch (aAj prof os f) m0 k y:=fun y hy => .step hrx hkl av hy;refine aAM 18 4 85 [(81,.func (.func 61) #[] #[vP aa 0,vP ab 0,vP af 0,vP ac 0]),(82,vI (k:Int)),(84,vI x.2)] (K:=fun u Mn=>u = .tuple #[] /\ ∃ n' t' v' X',aUZ (aAj prof os f) k x.2 t3 X3 t' X' /\ Mn=TM aa bs ab ad af ac ae n' t' v' X') [0,1] [2,3,4,5,6,7,8] (fc (ldm 3 1 1 hM rfl rfl) f0) hM rfl rfl (by decide) (fun hm=>(aJ9 hS hT2 f hM.fr (fun k ⟨e,he,hk⟩=>(hM.pick [2,3,4,5,6,7,8]).ge he hk) hm (by omega) (gl hk) (by omega) (by omega) (by omega))) fun u Mn w1 hK hM=>?_;obtain ⟨rfl,n227,t227,bc,X227,hP227,rfl⟩:=hK;refine seg 15 0 [(72,vI ((j3:Int)+1))] (fc (aAe (j3:Int) 1 u3_) f0) (aAb _ (ar _ (by have:=gl hz;omega) n227 t227 bc X227 (j3+1) _ (hP227.inv hI3 hrc) (hC3.mono hP227.le) (by rw [gt_ hz,List.map_append];exact (hD.mono hP227.le).snoc fun _=>hP227.done) (gl hz) (by rcases hP227.wgt (B:=6000000000) hNo h0 hI3 hrc with ⟨q1,q2⟩ | ⟨q1,q2⟩<;>omega) (by rcases hP227.wgt (B:=6000000000) hNo h0 hI3 hrc with ⟨q1,q2⟩ | ⟨q1,q2⟩<;>omega) hM rfl))
    exact aAb _ (a7 _ n4 t4 v5 X5 0 _ (hI.pop hXp) hC (ClL.nil _ _ _ _) (Gg_ _) (by omega) (by omega) (hM.pick [0,8,1,2,3,4,5,6,7]) rfl)
   exact aAb _ (a2 _ n1 t1 v1 X1 _ hI hC hw hM rfl)
  exact aAb _ (aw _ 0 (fun _=>none) (vL (some ⟨ai,0,none⟩) 0 0) [] 0 _ (TInv.nil _ _ _) (ClL.nil _ _ _ _) (Gg_ _) (by rw [hW0];exact aVm _ _ _) (aRe▸hM.pick [1,0,3,4,7,2,6,5]) rfl)
def aLL (N:NetW) (m0:Int) (t:Nat->Option Int) (i:Nat):Bool:=(N.ps i m0).isSome&&N.st i&&((N.ps i m0).getD 0==(t i).getD 0)
def aD3 (N:NetW) (t:Nat->Option Int) (i k:Nat):Bool:=(t k).isSome&&N.al k i&&((N.ps i ((t k).getD 0)).isSome&&((N.ps i ((t k).getD 0)).getD 0==(t i).getD 0))
def aBT (N:NetW) (m0:Int) (t:Nat->Option Int) (i:Nat):Option Nat:=bif aLL N m0 t i then none else (List.range N.n).find? (aD3 N t i)
theorem aEm {n k:Nat}{p:Nat->Bool}(h:∀ j,j<k->p j=false) (hk:k<n) (hp:p k=true):(List.range n).find? p=some k:=by
  rw [List.find?_range_eq_some];exact ⟨hp,by simpa using hk,fun j hj=>by rw [h j hj];rfl⟩
theorem aDe {n k:Nat}{p:Nat->Bool}(h:∀ j,j<k->p j=false) (hk:n<=k):(List.range n).find? p=none:=by
  rw [List.find?_eq_none];intro j hj;rw [h j (Nat.lt_of_lt_of_le (List.mem_range.1 hj) hk)];simp
abbrev A32 (Z:Ending->World->Prop):=AtO Tryz.prog (aAf Tryz.f32) (aAo (bodyPost Tryz.prog Tryz.f32 Z)) [] 88
theorem aK5 {w:World}{bs ca bo br bb no nr nb:Nat}{qa:Option Addr}{prof:Bys}{os:List ObR}{T:aEN}{T2:RdT}(hS:StF w bs ca bo br bb no nr nb qa prof os T T2) (hT2:T2.map (·.1)=aBQ os) (hl9:(AS os).length<=400000000) {b n:Nat}{t:Nat->Option Int}(hm:aD0 Tryz.prog 3 w b n (aGe t)) (ht:∀ k m,t k=some m->0<=m /\ m<=6000000000) {f:Bys}{m0:Int}(h0:0<=m0) (h1:m0<=1000000000000) {i:Nat}(hi:i<(AS os).length):Calls Tryz.prog 32 #[vP bs 0,.agg #[.map (some b)],vS f,vI m0,vI (i:Int)] w fun e w'=>e = .returned (.tuple #[vI (((aBT (aAj prof os f) m0 t i).getD 0:Nat):Int),vB (aBT (aAj prof os f) m0 t i).isSome]) /\ Fr nF_ w w':=by
  obtain ⟨a,ha⟩:=geb (l:=AS os) (i:=i) hi
  have hst:(aAj prof os f).st i=(a.1==f):=by
    show (match (AS os)[i]? with | some a=>a.1==f | none=>false)=_;rw [ha]
  have htg:∀ k,0<=(t k).getD 0 /\ (t k).getD 0<=6000000000:=fun k=>by
    cases e:t k with
    | none=>exact ⟨Int.le_refl _,by show (0:Int)<=_;omega⟩
    | some m=>exact ht k m e
  refine beg Tryz.func32 rfl rfl [(0,vP bs 0),(1,.agg #[.map (some b)]),(2,vS f),(3,vI m0),(4,vI (i:Int))] rfl rfl fun Z hZ=>?_;have hM:=Mm.nil nF_ w;refine aAp 0 0 6 [] (cs:=#[.map (some b)]) (T:=73) (v:=fun b=>vP b 0) f0 hM fun aa w1 hM=>aAq 1 2 24 [(22,.agg #[.map (some b)]),(23,vI (i:Int))] (fc (lam 73 0 0 1 hM rfl) f0) hM (aBX (hm.fr hM.fr id) (i:=i) (by omega)) fun w1 hM=>aAq 2 3 31 [(12,vI ((t i).getD 0)),(28,vP bs 0),(29,vI (i:Int)),(30,vI m0)] f0 hM (aC5 (hS.fr hM.fr) hT2 f hi h0 (by omega)) fun w1 hM=>?_;obtain ⟨a9,ha9,ga,oa,qq,ra⟩:=hS.arcs.el (i:=i) hi;rw [ha] at ha9;cases ha9;refine seg 3 2 [(14,vI (((aAj prof os f).ps i m0).getD 0)),(35,vB ((aAj prof os f).ps i m0).isSome)] f0 ?_
  cases ah:((aAj prof os f).ps i m0).isSome with
  | false =>
   have hA:aLL (aAj prof os f) m0 t i=false:=by unfold aLL;simp only [hst,ah]<;>rfl
   refine seg 6 0 [(56,vI ((AS os).length:Int)),(57,vI 0)] (fc (ld0 75 hM (bx hS.blk 1 rfl)) f0) ?_
   have a2:∀ (ay:Nat) (k:Nat) (w2:World),k<=(AS os).length->(∀ j,j<k->aD3 (aAj prof os f) t i j=false)->Mm nF_ w w2 [bk aa #[.map (some b)] 73]->ay=(AS os).length-k->A32 Z (some (6,0)) [(57,vI (k:Int)),(56,vI ((AS os).length:Int)),(12,vI ((t i).getD 0)),(6,vP aa 0),(0,vP bs 0),(4,vI (i:Int))] w2:=by
    refine aA8 fun ay ai k w2 hk hno hM bd=>seg 6 1 [(58,vB (decide ((k:Int)<((AS os).length:Int))))] f0 ?_;cases ab:(decide ((k:Int)<((AS os).length:Int)))
    ·have a3:=df ab
     have hb:aBT (aAj prof os f) m0 t i=none:=by
       unfold aBT;rw [hA];exact aDe hno (by show (AS os).length<=k;omega)
     exact rt2 10 11 (vI 0) (vB false) rfl rfl f0 (hZ _ _ ⟨by rw [hb];rfl,hM.fr⟩)
    have a3:=dt ab;refine aAq 8 2 63 [(16,vI (k:Int)),(61,.agg #[.map (some b)]),(62,vI (k:Int))] (fc (lam 73 0 0 1 hM rfl) f0) hM (aBX (hm.fr hM.fr id) (i:=k) (by omega)) fun w1 hM=>seg 9 2 [(17,vI ((t k).getD 0)),(67,vB (t k).isSome)] f0 ?_
    cases ae:(t k).isSome with
    | false =>
     refine seg 6 0 [(57,vI ((k:Int)+1))] (fc (aAe (k:Int) 1 u3_) f0) (aAb _ (ai _ (by omega) (k+1) _ (by omega) (fun j hj=>by rcases Nat.lt_succ_iff_lt_or_eq.1 hj with hj | rfl;exact hno j hj;unfold aD3;simp only [ab,ae]<;>rfl) hM rfl))
    | true =>
     refine aAq 9 5 71 [(68,vP bs 0),(69,vI (k:Int)),(70,vI (i:Int))] f0 hM (aCL (hS.fr hM.fr) f (i:=k) (k:=i) (by omega) hi) fun w1 hM=>seg 9 7 [(72,vB ((aAj prof os f).al k i))] f0 ?_;cases aj:((aAj prof os f).al k i)
     ·refine seg 6 0 [(57,vI ((k:Int)+1))] (fc (aAe (k:Int) 1 u3_) f0) (aAb _ (ai _ (by omega) (k+1) _ (by omega) (fun j hj=>by rcases Nat.lt_succ_iff_lt_or_eq.1 hj with hj | rfl;exact hno j hj;unfold aD3;simp only [ab,ae,aj]<;>rfl) hM rfl))
     refine aAq 10 3 77 [(74,vP bs 0),(75,vI (i:Int)),(76,vI ((t k).getD 0))] f0 hM (aC5 (hS.fr hM.fr) hT2 f hi (htg k).1 (by have:=(htg k).2;omega)) fun w1 hM=>seg 11 2 [(19,vI (((aAj prof os f).ps i ((t k).getD 0)).getD 0)),(81,vB ((aAj prof os f).ps i ((t k).getD 0)).isSome)] f0 ?_
     cases au:((aAj prof os f).ps i ((t k).getD 0)).isSome with
     | false =>
      refine seg 6 0 [(57,vI ((k:Int)+1))] (fc (aAe (k:Int) 1 u3_) f0) (aAb _ (ai _ (by omega) (k+1) _ (by omega) (fun j hj=>by rcases Nat.lt_succ_iff_lt_or_eq.1 hj with hj | rfl;exact hno j hj;unfold aD3;simp only [ab,ae,aj,au]<;>rfl) hM rfl))
     | true =>
      refine seg 11 6 [(85,vB ((((aAj prof os f).ps i ((t k).getD 0)).getD 0)==((t i).getD 0)))] f0 ?_;cases ak:((((aAj prof os f).ps i ((t k).getD 0)).getD 0)==((t i).getD 0))
      ·have a4:=ef ak;refine seg 6 0 [(57,vI ((k:Int)+1))] (fc (aAe (k:Int) 1 u3_) f0) (aAb _ (ai _ (by omega) (k+1) _ (by omega) (fun j hj=>by rcases Nat.lt_succ_iff_lt_or_eq.1 hj with hj | rfl;exact hno j hj;unfold aD3;simp only [ab,ae,aj,au,ak]<;>rfl) hM rfl))
      have a4:=et ak
      have hb:aBT (aAj prof os f) m0 t i=some k:=by
        unfold aBT;rw [hA];exact aEm hno (by show k<(AS os).length;omega) (by unfold aD3;simp only [ae,aj,au,ak]<;>rfl)
      exact rt2 10 11 (vI (k:Int)) (vB true) rfl rfl f0 (hZ _ _ ⟨by rw [hb];rfl,hM.fr⟩)
   exact aAb _ (a2 _ 0 _ (Gg_ _) (fun j hj=>absurd hj (Nat.not_lt_zero _)) hM rfl)
  | true =>
   refine seg 3 14 [(47,vB (a.1==f))] (fc (ld0 75 hM (bx hS.blk 1 rfl)) (fc (ix 75 ca qq (gl ha)) (fc (ld0 9 hM (ra 0 _ rfl)) (fc (seq 9 a.1 f) f0)))) ?_;cases av:(a.1==f)
   ·have hA:aLL (aAj prof os f) m0 t i=false:=by unfold aLL;simp only [hst,ah,av]<;>rfl
    refine seg 6 0 [(56,vI ((AS os).length:Int)),(57,vI 0)] (fc (ld0 75 hM (bx hS.blk 1 rfl)) f0) ?_
    have a5:∀ (az:Nat) (k:Nat) (w2:World),k<=(AS os).length->(∀ j,j<k->aD3 (aAj prof os f) t i j=false)->Mm nF_ w w2 [bk aa #[.map (some b)] 73]->az=(AS os).length-k->A32 Z (some (6,0)) [(57,vI (k:Int)),(56,vI ((AS os).length:Int)),(12,vI ((t i).getD 0)),(6,vP aa 0),(0,vP bs 0),(4,vI (i:Int))] w2:=by
     refine aA8 fun az am k w2 hk hno hM be=>seg 6 1 [(58,vB (decide ((k:Int)<((AS os).length:Int))))] f0 ?_;cases ac:(decide ((k:Int)<((AS os).length:Int)))
     ·have a6:=df ac
      have hb:aBT (aAj prof os f) m0 t i=none:=by
        unfold aBT;rw [hA];exact aDe hno (by show (AS os).length<=k;omega)
      exact rt2 10 11 (vI 0) (vB false) rfl rfl f0 (hZ _ _ ⟨by rw [hb];rfl,hM.fr⟩)
     have a6:=dt ac;refine aAq 8 2 63 [(16,vI (k:Int)),(61,.agg #[.map (some b)]),(62,vI (k:Int))] (fc (lam 73 0 0 1 hM rfl) f0) hM (aBX (hm.fr hM.fr id) (i:=k) (by omega)) fun w1 hM=>seg 9 2 [(17,vI ((t k).getD 0)),(67,vB (t k).isSome)] f0 ?_
     cases af:(t k).isSome with
     | false =>
      refine seg 6 0 [(57,vI ((k:Int)+1))] (fc (aAe (k:Int) 1 u3_) f0) (aAb _ (am _ (by omega) (k+1) _ (by omega) (fun j hj=>by rcases Nat.lt_succ_iff_lt_or_eq.1 hj with hj | rfl;exact hno j hj;unfold aD3;simp only [ac,af]<;>rfl) hM rfl))
     | true =>
      refine aAq 9 5 71 [(68,vP bs 0),(69,vI (k:Int)),(70,vI (i:Int))] f0 hM (aCL (hS.fr hM.fr) f (i:=k) (k:=i) (by omega) hi) fun w1 hM=>seg 9 7 [(72,vB ((aAj prof os f).al k i))] f0 ?_;cases an:((aAj prof os f).al k i)
      ·refine seg 6 0 [(57,vI ((k:Int)+1))] (fc (aAe (k:Int) 1 u3_) f0) (aAb _ (am _ (by omega) (k+1) _ (by omega) (fun j hj=>by rcases Nat.lt_succ_iff_lt_or_eq.1 hj with hj | rfl;exact hno j hj;unfold aD3;simp only [ac,af,an]<;>rfl) hM rfl))
      refine aAq 10 3 77 [(74,vP bs 0),(75,vI (i:Int)),(76,vI ((t k).getD 0))] f0 hM (aC5 (hS.fr hM.fr) hT2 f hi (htg k).1 (by have:=(htg k).2;omega)) fun w1 hM=>seg 11 2 [(19,vI (((aAj prof os f).ps i ((t k).getD 0)).getD 0)),(81,vB ((aAj prof os f).ps i ((t k).getD 0)).isSome)] f0 ?_
      cases aw:((aAj prof os f).ps i ((t k).getD 0)).isSome with
      | false =>
       refine seg 6 0 [(57,vI ((k:Int)+1))] (fc (aAe (k:Int) 1 u3_) f0) (aAb _ (am _ (by omega) (k+1) _ (by omega) (fun j hj=>by rcases Nat.lt_succ_iff_lt_or_eq.1 hj with hj | rfl;exact hno j hj;unfold aD3;simp only [ac,af,an,aw]<;>rfl) hM rfl))
      | true =>
       refine seg 11 6 [(85,vB ((((aAj prof os f).ps i ((t k).getD 0)).getD 0)==((t i).getD 0)))] f0 ?_;cases ao:((((aAj prof os f).ps i ((t k).getD 0)).getD 0)==((t i).getD 0))
       ·have a7:=ef ao;refine seg 6 0 [(57,vI ((k:Int)+1))] (fc (aAe (k:Int) 1 u3_) f0) (aAb _ (am _ (by omega) (k+1) _ (by omega) (fun j hj=>by rcases Nat.lt_succ_iff_lt_or_eq.1 hj with hj | rfl;exact hno j hj;unfold aD3;simp only [ac,af,an,aw,ao]<;>rfl) hM rfl))
       have a7:=et ao
       have hb:aBT (aAj prof os f) m0 t i=some k:=by
         unfold aBT;rw [hA];exact aEm hno (by show k<(AS os).length;omega) (by unfold aD3;simp only [af,an,aw,ao]<;>rfl)
       exact rt2 10 11 (vI (k:Int)) (vB true) rfl rfl f0 (hZ _ _ ⟨by rw [hb];rfl,hM.fr⟩)
    exact aAb _ (a5 _ 0 _ (Gg_ _) (fun j hj=>absurd hj (Nat.not_lt_zero _)) hM rfl)
   refine seg 3 18 [(51,vB ((((aAj prof os f).ps i m0).getD 0)==((t i).getD 0)))] f0 ?_;cases a0:((((aAj prof os f).ps i m0).getD 0)==((t i).getD 0))
   rotate_left
   ·have hb:aBT (aAj prof os f) m0 t i=none:=by
      unfold aBT aLL;simp only [hst,ah,av,a0]<;>rfl
    exact rt2 10 11 (vI 0) (vB false) rfl rfl f0 (hZ _ _ ⟨by rw [hb];rfl,hM.fr⟩)
   have hA:aLL (aAj prof os f) m0 t i=false:=by unfold aLL;simp only [hst,ah,av,a0]<;>rfl
   refine seg 6 0 [(56,vI ((AS os).length:Int)),(57,vI 0)] (fc (ld0 75 hM (bx hS.blk 1 rfl)) f0) ?_
   have a8:∀ (a1:Nat) (k:Nat) (w2:World),k<=(AS os).length->(∀ j,j<k->aD3 (aAj prof os f) t i j=false)->Mm nF_ w w2 [bk aa #[.map (some b)] 73]->a1=(AS os).length-k->A32 Z (some (6,0)) [(57,vI (k:Int)),(56,vI ((AS os).length:Int)),(12,vI ((t i).getD 0)),(6,vP aa 0),(0,vP bs 0),(4,vI (i:Int))] w2:=by
    refine aA8 fun a1 ap k w2 hk hno hM bf=>seg 6 1 [(58,vB (decide ((k:Int)<((AS os).length:Int))))] f0 ?_;cases ad:(decide ((k:Int)<((AS os).length:Int)))
    ·have ba:=df ad
     have hb:aBT (aAj prof os f) m0 t i=none:=by
       unfold aBT;rw [hA];exact aDe hno (by show (AS os).length<=k;omega)
     exact rt2 10 11 (vI 0) (vB false) rfl rfl f0 (hZ _ _ ⟨by rw [hb];rfl,hM.fr⟩)
    have ba:=dt ad;refine aAq 8 2 63 [(16,vI (k:Int)),(61,.agg #[.map (some b)]),(62,vI (k:Int))] (fc (lam 73 0 0 1 hM rfl) f0) hM (aBX (hm.fr hM.fr id) (i:=k) (by omega)) fun w1 hM=>seg 9 2 [(17,vI ((t k).getD 0)),(67,vB (t k).isSome)] f0 ?_
    cases ag:(t k).isSome with
    | false =>
     refine seg 6 0 [(57,vI ((k:Int)+1))] (fc (aAe (k:Int) 1 u3_) f0) (aAb _ (ap _ (by omega) (k+1) _ (by omega) (fun j hj=>by rcases Nat.lt_succ_iff_lt_or_eq.1 hj with hj | rfl;exact hno j hj;unfold aD3;simp only [ad,ag]<;>rfl) hM rfl))
    | true =>
     refine aAq 9 5 71 [(68,vP bs 0),(69,vI (k:Int)),(70,vI (i:Int))] f0 hM (aCL (hS.fr hM.fr) f (i:=k) (k:=i) (by omega) hi) fun w1 hM=>seg 9 7 [(72,vB ((aAj prof os f).al k i))] f0 ?_;cases aq:((aAj prof os f).al k i)
     ·refine seg 6 0 [(57,vI ((k:Int)+1))] (fc (aAe (k:Int) 1 u3_) f0) (aAb _ (ap _ (by omega) (k+1) _ (by omega) (fun j hj=>by rcases Nat.lt_succ_iff_lt_or_eq.1 hj with hj | rfl;exact hno j hj;unfold aD3;simp only [ad,ag,aq]<;>rfl) hM rfl))
     refine aAq 10 3 77 [(74,vP bs 0),(75,vI (i:Int)),(76,vI ((t k).getD 0))] f0 hM (aC5 (hS.fr hM.fr) hT2 f hi (htg k).1 (by have:=(htg k).2;omega)) fun w1 hM=>seg 11 2 [(19,vI (((aAj prof os f).ps i ((t k).getD 0)).getD 0)),(81,vB ((aAj prof os f).ps i ((t k).getD 0)).isSome)] f0 ?_
     cases ax:((aAj prof os f).ps i ((t k).getD 0)).isSome with
     | false =>
      refine seg 6 0 [(57,vI ((k:Int)+1))] (fc (aAe (k:Int) 1 u3_) f0) (aAb _ (ap _ (by omega) (k+1) _ (by omega) (fun j hj=>by rcases Nat.lt_succ_iff_lt_or_eq.1 hj with hj | rfl;exact hno j hj;unfold aD3;simp only [ad,ag,aq,ax]<;>rfl) hM rfl))
     | true =>
      refine seg 11 6 [(85,vB ((((aAj prof os f).ps i ((t k).getD 0)).getD 0)==((t i).getD 0)))] f0 ?_;cases ar:((((aAj prof os f).ps i ((t k).getD 0)).getD 0)==((t i).getD 0))
      ·have bc:=ef ar;refine seg 6 0 [(57,vI ((k:Int)+1))] (fc (aAe (k:Int) 1 u3_) f0) (aAb _ (ap _ (by omega) (k+1) _ (by omega) (fun j hj=>by rcases Nat.lt_succ_iff_lt_or_eq.1 hj with hj | rfl;exact hno j hj;unfold aD3;simp only [ad,ag,aq,ax,ar]<;>rfl) hM rfl))
      have bc:=et ar
      have hb:aBT (aAj prof os f) m0 t i=some k:=by
        unfold aBT;rw [hA];exact aEm hno (by show k<(AS os).length;omega) (by unfold aD3;simp only [ag,aq,ax,ar]<;>rfl)
      exact rt2 10 11 (vI (k:Int)) (vB true) rfl rfl f0 (hZ _ _ ⟨by rw [hb];rfl,hM.fr⟩)
   exact aAb _ (a8 _ 0 _ (Gg_ _) (fun j hj=>absurd hj (Nat.not_lt_zero _)) hM rfl)
def aSc (os:List ObR) (id:Bys):Int:=match os[(aAm (aAa os) id).toNat]? with
  | some b=>b.o.kind
  | none=>0
def aFf (os:List ObR) (id:Bys):Bool := !(aSc os id==1)
theorem aTX {w:World}{b:Nat}{cs:Array Value}{T:TypeId}(h:w.heap[b]?=some (.cells cs T (0,0))):w.rangeAt b 0 cs.toList:=fun j u hu=>by
  rw [aA1 h,Nat.zero_add];simpa using hu
def aF0 (os:List ObR) (prof:Bys) (m0:Int) (ids:List Bys):Int :=
  bif !(aAc (aAa os))||(!(aA3 prof)||(decide (m0<0)||decide (9999999<m0))) then 1
  else bif ids.any (fun id=>decide (aAm (aAa os) id<0)) then 11
  else bif ids.any (aFf os) then 13 else 0
theorem aDt {l:List Ob}{id:Bys}(h:¬ aAm l id<0):∃ k o,aAm l id=((k:Nat):Int) /\ l[k]?=some o /\ o.id=id:=by
  unfold aAm at h ⊢
  cases e:l.findIdx? (fun o=>o.id==id) with
  | none=>rw [e] at h;exact absurd (by decide) h
  | some k =>
    obtain ⟨h1,h2,h3⟩:=List.findIdx?_eq_some_iff_getElem.1 e;exact ⟨k,l[k],rfl,Gb_ h1,by simpa using h2⟩
theorem aNO {w:World}{c4:Nat}{v:Value}{os:List ObR}(hm:aCq w v os) {id:Bys}(hf:¬ aAm (aAa os) id<0) (hc4:w.heap[c4]?=some (.cells #[v] 24 (0,0))):Calls Tryz.prog 55 #[vS id,vP c4 0] w fun e w'=>e = .returned (vB (aFf os id)) /\ Fr nF_ w w':=by
  have hm0:=hm;obtain ⟨hs0,hob⟩:=hm0;obtain ⟨p0,cp0,hp0,sp0⟩:=hs0.op;subst hp0;obtain ⟨k,o9,hk,hk2,hk3⟩:=aDt hf;have hkl:k<os.length:=by rw [←aA2];exact gl hk2
  refine beg Tryz.func55 rfl rfl [(0,vS id),(1,vP c4 0)] rfl rfl fun Z hZ=>?_;have hM:=Mm.nil nF_ w;refine seg 1 0 [] f0 ?_;obtain ⟨y,hy,ac,ad,aa,ab⟩:=sp0.el (i:=k) (by omega);refine drc [(3,vB (!(y.o.kind==1)))] hM (fun w5 hM=>(fc (ld0 22 hM (bx hc4 0 rfl)) (fc (la0 24 hM (aTX hc4)) (fc (tcl (aIj (hm.fr hM.fr) id)) (fc (ix 22 cp0 aa (gl hy) (z:=(aAm (aAa os) id)) (hz:=hk)) (fc (ld0 3 hM (ab 1 _ rfl)) f0)))))) fun w5 hM=>rt1 3 (vB (!(y.o.kind==1))) rfl f0 (hZ _ _ ⟨by unfold aFf aSc;rw [hk];simp only [Int.toNat_natCast,hy],hM.fr⟩)
abbrev A28 (Z:Ending->World->Prop):=AtO Tryz.prog (aAf Tryz.f28) (aAo (bodyPost Tryz.prog Tryz.f28 Z)) [] 41
theorem aFs {w:World}{v:Value}{os:List ObR}(hm:aCq w v os) {prof:Bys}(hp63:prof.length<=9223372036854775807) (m0:Int) {pi:Option Addr}{ci:Nat}{ids:List Bys}(hids:SrcP stL 1 w pi ci ids):Calls Tryz.prog 28 #[.agg #[v],vS prof,vI m0,vL pi ids.length ci] w fun e w'=>e = .returned (vI (aF0 os prof m0 ids)) /\ Fr nF_ w w':=by
  have hm0:=hm;obtain ⟨hs0,hob⟩:=hm0;obtain ⟨p0,cp0,hp0,sp0⟩:=hs0.op;subst hp0;have bi:=hids.bnd;refine beg Tryz.func28 rfl rfl [(0,.agg #[vL p0 os.length cp0]),(1,vS prof),(2,vI m0),(3,vL pi ids.length ci)] rfl rfl fun Z hZ=>?_;have hM:=Mm.nil nF_ w;refine aAp 0 0 4 [] (cs:=#[vL p0 os.length cp0]) (T:=24) (v:=fun b=>vP b 0) f0 hM fun ae w1 hM=>aAq 1 1 12 [(11,.agg #[vL p0 os.length cp0])] (fc (lam 24 0 0 1 hM rfl) f0) hM (aEu (hm.fr hM.fr)) fun w1 hM=>seg 1 4 [(14,vB (!(aAc (aAa os))))] f0 ?_;cases aa:(aAc (aAa os))
  ·exact rt1 8 (vI 1) rfl f0 (hZ _ _ ⟨by unfold aF0;simp only [aa]<;>rfl,hM.fr⟩)
  refine aAq 1 5 16 [(15,vS prof)] f0 hM (aBk hp63 _) fun w1 hM=>seg 1 9 [(19,vB (!(aA3 prof)))] f0 ?_;cases ab:(aA3 prof)
  ·exact rt1 8 (vI 1) rfl f0 (hZ _ _ ⟨by unfold aF0;simp only [aa,ab]<;>rfl,hM.fr⟩)
  refine seg 1 13 [(23,vB (decide (m0<0)))] f0 ?_;cases ac:(decide (m0<0))
  rotate_left
  ·exact rt1 8 (vI 1) rfl f0 (hZ _ _ ⟨by unfold aF0;simp only [aa,ab,ac]<;>rfl,hM.fr⟩)
  refine seg 1 16 [(26,vB (decide (9999999<m0)))] f0 ?_;cases ad:(decide (9999999<m0))
  rotate_left
  ·exact rt1 8 (vI 1) rfl f0 (hZ _ _ ⟨by unfold aF0;simp only [aa,ab,ac,ad]<;>rfl,hM.fr⟩)
  refine seg 4 0 [(27,vL pi ids.length ci),(28,vI (ids.length:Int)),(29,vI 0)] f0 ?_
  have aj:∀ (af:Nat) (j:Nat) (w2:World),j<=ids.length->(ids.take j).any (fun id=>decide (aAm (aAa os) id<0))=false->Mm nF_ w w2 [bk ae #[vL p0 os.length cp0] 24]->af=ids.length-j->A28 Z (some (4,0)) [(29,vI (j:Int)),(28,vI (ids.length:Int)),(27,vL pi ids.length ci),(4,vP ae 0),(3,vL pi ids.length ci)] w2:=by
   refine aA8 fun af ak j w2 hj hno hM ao=>seg 4 1 [(30,vB (decide ((j:Int)<(ids.length:Int))))] f0 ?_;cases ag:(decide ((j:Int)<(ids.length:Int)))
   ·have al:=df ag;rw [Gc_ (by omega)] at hno;refine aAq 9 2 40 [(38,vL pi ids.length ci),(39,.func (.func 55) #[] #[vP ae 0])] f0 hM (aQr (hids.b hM.fr) (fun _ h=>h.elim) (enters_of Tryz.func55 (by kernel_rfl) rfl) (aFf os) fun z hz w9 f9=>by rw [aUX];exact aNO ((hm.fr hM.fr).fr f9) (fun h9=>by have:=List.any_eq_false.1 hno z hz;simp [h9] at this) (f9.obj (hM.get 0 rfl) fun h=>h)) fun w1 hM=>?_;cases ah:(ids.any (aFf os))
    ·exact rt1 8 (vI 0) rfl f0 (hZ _ _ ⟨by unfold aF0;simp only [aa,ab,ac,ad,ah,hno]<;>rfl,hM.fr⟩)
    exact rt1 8 (vI 13) rfl f0 (hZ _ _ ⟨by unfold aF0;simp only [aa,ab,ac,ad,ah,hno]<;>rfl,hM.fr⟩)
   have al:=dt ag;obtain ⟨s,hs,ap,aq,am,an⟩:=hids.el (i:=j) (by omega);refine aAq 6 2 35 [(33,.agg #[vL p0 os.length cp0]),(34,vS s)] (fc (ix 28 ci am (gl hs)) (fc (ld0 9 hM (an 0 _ rfl)) (fc (lam 24 0 0 1 hM rfl) f0))) hM (aIj (hm.fr hM.fr) s) fun w1 hM=>seg 6 4 [(36,vB (decide ((aAm (aAa os) s)<0)))] f0 ?_;cases ai:(decide ((aAm (aAa os) s)<0))
   ·refine seg 4 0 [(29,vI ((j:Int)+1))] (fc (aAe (j:Int) 1 u3_) f0) (aAb _ (ak _ (by have:=gl hs;omega) (j+1) _ (gl hs) (by rw [gt_ hs,List.any_append,hno];simp only [List.any_cons,List.any_nil,ai];rfl) hM rfl))
   have hAll:ids.any (fun id=>decide (aAm (aAa os) id<0))=true:=List.any_eq_true.2 ⟨s,gm hs,ai⟩;exact rt1 8 (vI 11) rfl f0 (hZ _ _ ⟨by unfold aF0;simp only [aa,ab,ac,ad,hAll]<;>rfl,hM.fr⟩)
  exact aAb _ (aj _ 0 _ (Gg_ _) rfl hM rfl)
theorem stT:ElT Tryz.prog stL 1 28 9:=⟨fun _=>rfl,by decide,fun x u hu=>by
  unfold stL at hu;rw [Gd_] at hu;subst hu;rfl,Tryz.underlying28,aBO (by kernel_rfl)⟩
def aVi {α:Type}(X:List α) (i:Nat) (X':List α):Prop:=X'.length=X.length /\ ∀ p,p<X.length->X'[p]?=if p<i∨X.length-1-i<p then X[X.length-1-p]? else X[p]?
theorem aVi.zero {α:Type}(X:List α):aVi X 0 X:=⟨rfl,fun p hp=>by rw [if_neg (by omega)]⟩
theorem aVi.step {α:Type}{X X':List α}{i:Nat}{x y:α}(h:aVi X i X') (hi:i<X.length-1-i) (hx:X'[i]?=some x) (hy:X'[X.length-1-i]?=some y):aVi X (i+1) ((X'.set i y).set (X.length-1-i) x):=by
  obtain ⟨h1,h2⟩:=h;have e1:=h2 i (by omega);rw [if_neg (by omega),hx] at e1;have e2:=h2 (X.length-1-i) (by omega);rw [if_neg (by omega),hy] at e2;refine ⟨by simp [h1],fun p hp=>?_⟩;rw [List.getElem?_set,List.getElem?_set]
  by_cases hp1:X.length-1-i=p
  · subst hp1
    rw [if_pos rfl,if_pos (by simp [h1];omega),if_pos (by omega),show X.length-1-(X.length-1-i)=i by omega];exact e1
  · rw [if_neg hp1]
    by_cases hp2:i=p
    · subst hp2
      rw [if_pos rfl,if_pos (by omega),if_pos (by omega)];exact e2
    · rw [if_neg hp2,h2 p hp]
      by_cases hc:p<i∨X.length-1-i<p
      · rw [if_pos hc,if_pos (by omega)]
      · rw [if_neg hc,if_neg (by omega)]
theorem aVi.fin {α:Type}{X X':List α}{i:Nat}(h:aVi X i X') (hi:X.length<=2*i+1) (hi2:2*i<=X.length+1):X'=X.reverse:=by
  obtain ⟨h1,h2⟩:=h;refine List.ext_getElem? fun p=>?_;rcases Nat.lt_or_ge p X.length with hp | hp
  · rw [h2 p hp,List.getElem?_reverse hp]
    by_cases hc:p<i∨X.length-1-i<p
    · rw [if_pos hc]
    · rw [if_neg hc]
      congr 1;omega
  · rw [List.getElem?_eq_none (by omega),List.getElem?_eq_none (by simpa using hp)]
abbrev A33 (Z:Ending->World->Prop):=AtO Tryz.prog (aAf Tryz.f33) (aAo (bodyPost Tryz.prog Tryz.f33 Z)) [] 28
theorem aN0 {w:World}{G:Nat->Prop}{p:Option Addr}{c:Nat}{X:List Bys}(hM0:Mm G w w [rw_ stL 1 9 (vL p X.length c) X]):Calls Tryz.prog 33 #[vL p X.length c] w fun e w'=>∃ (u:Value) (Mn:List Ent),e = .returned u /\ (u = .tuple #[] /\ Mn=[rw_ stL 1 9 (vL p X.length c) X.reverse]) /\ Mm G w w' Mn:=by
  have bX:=((hM0.src (j:=0) rfl stT.len).p).2.bnd;refine beg Tryz.func33 rfl rfl [(0,vL p X.length c)] rfl rfl fun Y hY=>?_;have hM:=hM0;refine seg 1 0 [(2,vI 0),(3,vI ((X.length:Int)-1))] (fc (aBx (X.length:Int) 1 u3_) f0) ?_
  have ae:∀ (ac:Nat) (i:Nat) (z:Int) (X1:List Bys) (w2:World),aVi X i X1->z=(X.length:Int)-1-(i:Int)->2*i<=X.length+1->Mm G w w2 [rw_ stL 1 9 (vL p X.length c) X1]->ac=X.length-i->A33 Y (some (1,0)) [(3,vI z),(2,vI (i:Int)),(0,vL p X.length c)] w2:=by
   refine aA8 fun ac af i z X1 w2 hr hz hi hM ai=>seg 1 3 [(9,vB (decide ((i:Int)<z)))] f0 ?_;cases ad:(decide ((i:Int)<z))
   ·have ag:=df ad;have hR:=hr.fin (by omega) hi;subst hR;exact rt0 rfl f0 (hY _ _ ⟨_,_,rfl,⟨rfl,rfl⟩,hM⟩)
   have ag:=dt ad;have hl1:=hr.1;obtain ⟨x,hx⟩:=geb (l:=X1) (i:=i) (by omega);obtain ⟨y,hy⟩:=geb (l:=X1) (i:=X.length-1-i) (by omega);refine seg 3 0 [] f0 ?_;obtain ⟨aj,aa,-⟩:=hM.el stT (j:=0) rfl hy;obtain ⟨ak,ab,-⟩:=hM.el stT (j:=0) rfl hx;obtain ⟨al,ah⟩:=geb (l:=(X1.set i y)) (i:=(X.length-1-i)) (by simp only [List.length_set];omega);refine drx [7,11,13,15] (fun Z=>[some (vS y),some (vS x),none,none]) _ (fun Z l=>[rw_ stL 1 9 (vL p X.length c) (bif l.getD 3 false then ((X1.set i y).set (X.length-1-i) x) else (bif l.getD 2 false then (X1.set i y) else X1))]) (fun Z=>[]) hM (fun Z=>rfl) (fun Z l w5 hM=>(fc (ix 28 c aa (show (X.length-1-i)<X.length by omega) (z:=z) (hz:=(by omega))) (fc (ix 28 c ab (show i<X.length by omega)) (fc (ix 28 c ab (show i<X.length by omega)) (fc (ix 28 c aa (show (X.length-1-i)<X.length by omega) (z:=z) (hz:=(by omega))) f0))))) ⟨aK8 (m:=X.length) (cap:=c) 0 7 9 0 0 (X.length-1-i) 21 X1 (fun Z=>vS y) stT aa hy (fun Z=>rfl),aK8 (m:=X.length) (cap:=c) 1 11 9 0 0 i 25 X1 (fun Z=>vS x) stT ab hx (fun Z=>rfl),aH1 (m:=X.length) (cap:=c) 2 13 9 0 0 i X1 y (fun Z=>vS y) stT ab hx (fun Z=>rfl),aH1 (m:=X.length) (cap:=c) 3 15 9 0 0 (X.length-1-i) (X1.set i y) x (fun Z=>vS x) stT aa ah (fun Z=>rfl),trivial⟩ fun am w1 hM=>?_;replace hM:Mm G w w1 [_]:=hM;refine seg 1 0 [(2,vI ((i:Int)+1)),(3,vI (z-1))] (fc (aAe (i:Int) 1 u3_) (fc (aBx z 1 u3_) f0)) (aAb _ (af _ (by omega) (i+1) (z-1) ((X1.set i y).set (X.length-1-i) x) _ (hr.step (by omega) hx hy) (by omega) (by omega) hM rfl))
  exact aAb _ (ae _ 0 ((X.length:Int)-1) X _ (aVi.zero X) (by omega) (Gg_ _) hM rfl)
abbrev A34 (Z:Ending->World->Prop):=AtO Tryz.prog (aAf Tryz.f34) (aAo (bodyPost Tryz.prog Tryz.f34 Z)) [] 28
theorem aN1 {w:World}{G:Nat->Prop}{p:Option Addr}{c:Nat}{X:List Int}(hM0:Mm G w w [rw_ inL 1 3 (vL p X.length c) X]):Calls Tryz.prog 34 #[vL p X.length c] w fun e w'=>∃ (u:Value) (Mn:List Ent),e = .returned u /\ (u = .tuple #[] /\ Mn=[rw_ inL 1 3 (vL p X.length c) X.reverse]) /\ Mm G w w' Mn:=by
  have bX:=((hM0.src (j:=0) rfl inT.len).p).2.bnd;refine beg Tryz.func34 rfl rfl [(0,vL p X.length c)] rfl rfl fun Y hY=>?_;have hM:=hM0;refine seg 1 0 [(2,vI 0),(3,vI ((X.length:Int)-1))] (fc (aBx (X.length:Int) 1 u3_) f0) ?_
  have ae:∀ (ac:Nat) (i:Nat) (z:Int) (X1:List Int) (w2:World),aVi X i X1->z=(X.length:Int)-1-(i:Int)->2*i<=X.length+1->Mm G w w2 [rw_ inL 1 3 (vL p X.length c) X1]->ac=X.length-i->A34 Y (some (1,0)) [(3,vI z),(2,vI (i:Int)),(0,vL p X.length c)] w2:=by
   refine aA8 fun ac af i z X1 w2 hr hz hi hM ai=>seg 1 3 [(9,vB (decide ((i:Int)<z)))] f0 ?_;cases ad:(decide ((i:Int)<z))
   ·have ag:=df ad;have hR:=hr.fin (by omega) hi;subst hR;exact rt0 rfl f0 (hY _ _ ⟨_,_,rfl,⟨rfl,rfl⟩,hM⟩)
   have ag:=dt ad;have hl1:=hr.1;obtain ⟨x,hx⟩:=geb (l:=X1) (i:=i) (by omega);obtain ⟨y,hy⟩:=geb (l:=X1) (i:=X.length-1-i) (by omega);refine seg 3 0 [] f0 ?_;obtain ⟨aj,aa,-⟩:=hM.el inT (j:=0) rfl hy;obtain ⟨ak,ab,-⟩:=hM.el inT (j:=0) rfl hx;obtain ⟨al,ah⟩:=geb (l:=(X1.set i y)) (i:=(X.length-1-i)) (by simp only [List.length_set];omega);refine drx [7,11,13,15] (fun Z=>[some (vI y),some (vI x),none,none]) _ (fun Z l=>[rw_ inL 1 3 (vL p X.length c) (bif l.getD 3 false then ((X1.set i y).set (X.length-1-i) x) else (bif l.getD 2 false then (X1.set i y) else X1))]) (fun Z=>[]) hM (fun Z=>rfl) (fun Z l w5 hM=>(fc (ix 29 c aa (show (X.length-1-i)<X.length by omega) (z:=z) (hz:=(by omega))) (fc (ix 29 c ab (show i<X.length by omega)) (fc (ix 29 c ab (show i<X.length by omega)) (fc (ix 29 c aa (show (X.length-1-i)<X.length by omega) (z:=z) (hz:=(by omega))) f0))))) ⟨aK8 (m:=X.length) (cap:=c) 0 7 3 0 0 (X.length-1-i) 21 X1 (fun Z=>vI y) inT aa hy (fun Z=>rfl),aK8 (m:=X.length) (cap:=c) 1 11 3 0 0 i 25 X1 (fun Z=>vI x) inT ab hx (fun Z=>rfl),aH1 (m:=X.length) (cap:=c) 2 13 3 0 0 i X1 y (fun Z=>vI y) inT ab hx (fun Z=>rfl),aH1 (m:=X.length) (cap:=c) 3 15 3 0 0 (X.length-1-i) (X1.set i y) x (fun Z=>vI x) inT aa ah (fun Z=>rfl),trivial⟩ fun am w1 hM=>?_;replace hM:Mm G w w1 [_]:=hM;refine seg 1 0 [(2,vI ((i:Int)+1)),(3,vI (z-1))] (fc (aAe (i:Int) 1 u3_) (fc (aBx z 1 u3_) f0)) (aAb _ (af _ (by omega) (i+1) (z-1) ((X1.set i y).set (X.length-1-i) x) _ (hr.step (by omega) hx hy) (by omega) (by omega) hM rfl))
  exact aAb _ (ae _ 0 ((X.length:Int)-1) X _ (aVi.zero X) (by omega) (Gg_ _) hM rfl)
theorem aTS {P:Program}{B:Code}{fn:Func}{Z:Ending->World->Prop}{n:Nat}{p:Option (Nat×Nat)}{L:Frm}{w:World}{F:List Ft}(t T t2:Nat) {g:Nat}{v:Value}(u:Value) (hr:fn.results=#[.cell t T,.tmp t2]) (hn:(t==t2)=false) (hv:(Instr.loadAt T (vP g 0)).run P w = .ok v w) (hF:aAQ P w F) (k:Z (.returned (.tuple #[v,u])) w) (h:aOe (go P w n B p L 1000000 0 F) [(t,vP g 0),(t2,u)] L=aL6 (go P w n B p L 1000000 0 F) [(t,vP g 0),(t2,u)]:=by kernel_rfl):AtO P B (aAo (bodyPost P fn Z)) [] n p L w :=
 aOd [(t,vP g 0),(t2,u)] hF h fun a E=>by
  have hv':a.eval (.tmp t)=vP g 0:=E.at_ t _ (by simp [Go.Pl.look]);have hu':a.eval (.tmp t2)=u:=E.at_ t2 _ (by simp [Go.Pl.look,hn])
  have key:∃ u,(results fn a.tmps).run P w = .ok u w /\ Z (.returned u) w:=⟨.tuple #[v,u],by
   have hl:a.tmps.getD t undef=vP g 0:=hv';have hl2:a.tmps.getD t2 undef=u:=hu';simp only [Instr.loadAt,Instr.sureAddr,Sem.run_bind,Sem.run_pure,Result.andThen_ok] at hv;have hl':a.tmps[t]?.getD undef=vP g 0:=by simpa using hl
   have hl2':a.tmps[t2]?.getD undef=u:=by simpa using hl2
   simp [results,hr,hl',hl2',asAddr,hv],k⟩
  exact ⟨⟨E.df,key⟩,⟨E.df,key⟩⟩
theorem aDq {α:Type}{f:α->List Value}{c E b:Nat}{cs:Array Value}{F0:Nat->Prop}{w0 w:World}{M:List Ent}(h:Mm F0 w0 w M) {j:Nat}(hj:M[j]?=some (bk b cs E)) (L:List α) (n:Nat) (hL:L.flatMap f=cs.toList) (hn:L.length=n) (hc:cs.size=n*c) (hm:n<=9223372036854775807:=by decide):Mm F0 w0 w (M.set j (rw_ f c E (vL (some ⟨b,0,none⟩) n n) L)) :=
 h.put j hj (Fr.refl nF_ _) (fun _ _ h=>h.elim) (show ow f c E w 0 _ L from by
  refine ⟨by rw [hL,hn];simpa using hc,.inr ⟨b,n,cs,by rw [hn],Gg_ _,h.get j hj,by omega,by unfold maxLen;omega,hc,?_⟩⟩;rw [hL,hn,←hc];exact Gc_ (by simp)) fun k e => .inl (by
  have e:some b=some k:=e;exact (Gh_ e).symm)
theorem aB4 {α:Type}{f:α->List Value}{c:Nat}{w:World}{b:Nat}{cs:Array Value}{T:TypeId}(hb:w.heap[b]?=some (.cells cs T (0,0))) (L:List α) (n:Nat) (hf:∀ x,(f x).length=c) (hL:L.flatMap f=cs.toList) (hn:L.length=n) (hm:n<=9223372036854775807:=by decide):SrcP f c w (some ⟨b,0,none⟩) n L :=
 ⟨by omega,hm,.inr ⟨b,0,rfl,aAl hb,fun i y hy j u hu=>by
  have hi:=(List.getElem?_eq_some_iff.1 hu).1;rw [hf] at hi;rw [aA1 hb,Nat.zero_add];have:=aDs hf L i y hy j hi;rw [hL,hu,Array.getElem?_toList] at this;exact this⟩,fun h=>by cases h⟩
def aSe (Ms:List Ent):Ent where
 B:=BlM Ms
 H:=fun w=>(∀ e∈Ms,e.H w) /\ Ms.Pairwise fun x y=>∀ k,x.B k->¬ y.B k
 lt:=fun h ⟨e,he,hk⟩=>e.lt (h.1 e he) hk
 fr:=fun h f hn=>⟨fun e he=>e.fr (h.1 e he) f fun k hk=>hn k ⟨e,he,hk⟩,h.2⟩
theorem aTr {F0:Nat->Prop}{w0 w:World}{A Ms:List Ent}(h:Mm F0 w0 w (A++Ms)):Mm F0 w0 w (A++[aSe Ms]):=by
 have hnd:=List.pairwise_append.1 h.nd;refine ⟨h.fr,fun x hx=>?_,fun x hx k hk hl=>?_,?_⟩
 ·rcases List.mem_append.1 hx with hx | hx
  ·exact h.at_ x (Gv_ _ hx)
  ·rw [Gd_] at hx;subst hx;exact ⟨fun e he=>h.at_ e (List.mem_append_right _ he),hnd.2.1⟩
 ·rcases List.mem_append.1 hx with hx | hx
  ·exact h.own x (Gv_ _ hx) k hk hl
  ·rw [Gd_] at hx;subst hx;obtain ⟨e,he,hk⟩:=hk;exact h.own e (List.mem_append_right _ he) k hk hl
 ·refine List.pairwise_append.2 ⟨hnd.1,List.pairwise_singleton _ _,fun x hx y hy k hxk hyk=>?_⟩;rw [Gd_] at hy;subst hy;obtain ⟨e,he,hk⟩:=hyk;exact hnd.2.2 x hx e he k hxk hk
theorem aCy {F0 G:Nat->Prop}{w0 w:World}{M:List Ent}(h:Mm F0 w0 w M) (hG:∀ k,F0 k->G k):Mm G w0 w M:=⟨h.fr.mono fun r _ h=>hG r h,h.at_,fun e he k hk hl=>hG k (h.own e he k hk hl),h.nd⟩
noncomputable abbrev stR (bo br bb no nr nb:Nat) (prof:Bys) (os:List ObR) (T:aEN) (T2:RdT):List Ent :=
 [mp Tryz.prog 9 bo no (aCH T),aAD inL 1 3 (T.map (·.2)),mp Tryz.prog 9 br nr (rdF prof T2),aAD spL 2 141 (hrB T2),mp Tryz.prog 114 bb nb (setT (aCe prof os))]
theorem aOJ {F0:Nat->Prop}{w0 w wV:World}{M:List Ent}{bs ca bo br bb no nr nb:Nat}{qa:Option Addr}{prof:Bys}{v:Value}{os:List ObR}{T:aEN}{T2:RdT}(h:Mm F0 w0 w M) {i j k:Nat}(hi:M[i]?=some (bk bs #[vS prof,vL qa (AS os).length ca,.map (some bo),.map (some br),.map (some bb)] 80)) (hj:M[j]?=some (rw_ arL 4 47 (vL qa (AS os).length ca) (AS os))) (hk:M[k]?=some (aSe (stR bo br bb no nr nb prof os T T2))) (hm:aCq wV v os) (hf:Fr nF_ wV w) (hT2:T2.map (·.1)=aBQ os):StF w bs ca bo br bb no nr nb qa prof os T T2:=by
 obtain ⟨hg,-⟩:=h.get k hk;have g0:aD0 Tryz.prog 9 w bo no (aCH T):=hg (mp Tryz.prog 9 bo no (aCH T)) (by simp);have g1:=(hg (aAD inL 1 3 (T.map (·.2))) (by simp)).1;have g2:aD0 Tryz.prog 9 w br nr (rdF prof T2):=hg (mp Tryz.prog 9 br nr (rdF prof T2)) (by simp);have g3:=(hg (aAD spL 2 141 (hrB T2)) (by simp)).1;have g4:aD0 Tryz.prog 114 w bb nb (setT (aCe prof os)):=hg (mp Tryz.prog 114 bb nb (setT (aCe prof os))) (by simp);refine ⟨h.get i hi,((h.src hj arT.len).p).2,g0,fun x hx=>?_,g2,fun x hx=>?_,fun x hx=>?_,g4,fun a ha=>aFv (fun b hb=>(hm.2 b hb).bnd) a (aCP ha)⟩
 ·have:=g1 x.2 (List.mem_map.2 ⟨x,hx,rfl⟩);exact ow.src inT.len this
 ·have:=g3 (x.2,aAd x.1.o) (List.mem_map.2 ⟨x,hx,rfl⟩);exact ow.src (f:=spL) (c:=2) (fun _=>rfl) this
 ·have h1:x.1∈aBQ os:=hT2▸List.mem_map.2 ⟨x,hx,rfl⟩;unfold aBQ at h1;rw [List.mem_reverse,List.mem_filter] at h1;exact ((hm.fr hf).2 x.1 h1.1).refs
def aHc (t:Nat->Option Int) (l:Option Nat) (k:Nat):Bool:=match l with
 | none=>true
 | some j=>decide ((t k).getD 0<(t j).getD 0)
def aAE (A:List Arc) (t:Nat->Option Int) (g:Bys):Nat->Option Nat
 | 0=>none
 | k+1=>match A[k]? with
  | some a=>bif (t k).isSome&&(a.2.1==g)&&aHc t (aAE A t g k) k then some k else aAE A t g k
  | none=>aAE A t g k
theorem aBC {A:List Arc}{t:Nat->Option Int}{g:Bys}{k:Nat}{a:Arc}(h:A[k]?=some a):aAE A t g (k+1)=bif (t k).isSome&&(a.2.1==g)&&aHc t (aAE A t g k) k then some k else aAE A t g k:=by
 show (match A[k]? with | some a=>bif (t k).isSome&&(a.2.1==g)&&aHc t (aAE A t g k) k then some k else aAE A t g k | none=>aAE A t g k)=_;rw [h]
theorem aFl {A:List Arc}{t:Nat->Option Int}{g:Bys}:∀ {n j:Nat},aAE A t g n=some j->j<n /\ j<A.length /\ (t j).isSome=true
 | 0,j,h=>by cases h
 | n+1,j,h=>by
  cases ha:A[n]? with
  | none =>
   unfold aAE at h;rw [ha] at h;have:=aFl h;exact ⟨by omega,this.2⟩
  | some a =>
   rw [aBC ha] at h
   cases hc:((t n).isSome&&(a.2.1==g)&&aHc t (aAE A t g n) n) with
   | true =>
    rw [hc] at h;cases h;simp only [Ga_] at hc;exact ⟨Gq_ _,gl ha,hc.1.1⟩
   | false =>
    rw [hc] at h;have:=aFl h;exact ⟨by omega,this.2⟩
def bkF (N:NetW) (m0:Int) (t:Nat->Option Int):Nat->Nat->List Nat
 | 0,i=>[i]
 | F+1,i=>i::match aBT N m0 t i with
  | some k=>bkF N m0 t F k
  | none=>[]
theorem aEr (N:NetW) (m0:Int) (t:Nat->Option Int) (F i:Nat):bkF N m0 t (F+1) i=i::match aBT N m0 t i with | some k=>bkF N m0 t F k | none=>[]:=rfl
def bkP (N:NetW) (m0:Int) (t:Nat->Option Int) (i:Nat):List Nat:=bkF N m0 t ((t i).getD 0).toNat i
def aQD (N:NetW) (m0:Int) (t:Nat->Option Int):Prop:=∀ i k,i<N.n->aBT N m0 t i=some k->k<N.n /\ (t k).isSome=true /\ 0<=(t k).getD 0 /\ (t k).getD 0<(t i).getD 0
theorem aMW {N:NetW}{B m0:Int}{t:Nat->Option Int}(hN:N.Ok B) (h0:0<=m0) (hT:Tab N m0 t):aQD N m0 t:=by
 intro i k hi h;unfold aBT at h
 cases hA:aLL N m0 t i with
 | true=>rw [hA] at h;cases h
 | false =>
  rw [hA] at h;have h:(List.range N.n).find? (aD3 N t i)=some k:=h;have h1:=List.find?_some h;have h2:=List.mem_range.1 (List.mem_of_find?_eq_some h);unfold aD3 at h1;simp only [Ga_] at h1;obtain ⟨⟨h3,h4⟩,h5,h6⟩:=h1;obtain ⟨m,hm⟩:=Option.isSome_iff_exists.1 h3;obtain ⟨x,hx⟩:=Option.isSome_iff_exists.1 h5;have hg:=(hT.snd _ _ hm).ge hN h0;rw [hm] at hx h6 ⊢;have hx:N.ps i m=some x:=hx;have h6:=et h6;have h6:(N.ps i m).getD 0=(t i).getD 0:=h6;rw [hx] at h6;have:=hN.gt hi (by omega) hx;have h7:x=(t i).getD 0:=h6;exact ⟨h2,rfl,by show (0:Int)<=m;omega,by show m<_;omega⟩
theorem aQv {N:NetW}{m0:Int}{t:Nat->Option Int}(hB:aQD N m0 t):∀ (F:Nat) (i:Nat),i<N.n->((t i).getD 0).toNat<=F->bkF N m0 t F i=bkP N m0 t i:=by
 intro F
 induction F using Nat.strongRecOn with
 | _ F ih =>
  intro i hi hF;unfold bkP
  cases F with
  | zero=>rw [show ((t i).getD 0).toNat=0 by omega]
  | succ F =>
   cases hb:aBT N m0 t i with
   | none =>
    rw [aEr,hb]
    cases ((t i).getD 0).toNat with
    | zero=>rfl
    | succ n=>rw [aEr,hb]
   | some k =>
    obtain ⟨h1,_,h2,h3⟩:=hB i k hi hb;obtain ⟨n,hn⟩:∃ n,((t i).getD 0).toNat=n+1:=⟨((t i).getD 0).toNat-1,by omega⟩;rw [hn,aEr,aEr,hb];simp only;rw [ih F (Gq_ _) k h1 (by omega)];rcases Nat.lt_or_ge n (F+1) with h | h
    ·rw [ih n h k h1 (by omega)]
    ·have:n=F:=by omega
     rw [this,ih F (Gq_ _) k h1 (by omega)]
theorem aWn {N:NetW}{m0:Int}{t:Nat->Option Int}(hB:aQD N m0 t) {i:Nat}(hi:i<N.n):bkP N m0 t i=i::match aBT N m0 t i with | some k=>bkP N m0 t k | none=>[]:=by
 rw [←aQv hB (((t i).getD 0).toNat+1) i hi (Nat.le_succ _)];rw [aEr]
 cases hb:aBT N m0 t i with
 | none=>rfl
 | some k =>
  obtain ⟨h1,_,h2,h3⟩:=hB i k hi hb;show i::bkF N m0 t _ k=_;rw [aQv hB _ k h1 (by omega)]
theorem aQu (N:NetW) (m0:Int) (t:Nat->Option Int):∀ (F i:Nat),(bkF N m0 t F i).length<=F+1
 | 0,i=>by simp [bkF]
 | F+1,i=>by
  rw [aEr]
  cases aBT N m0 t i with
  | none=>simp
  | some k=>have:=aQu N m0 t F k;simp only [Gf_];omega
theorem aQt {N:NetW}{m0:Int}{t:Nat->Option Int}{i:Nat}(h:(t i).getD 0<=6000000000):(bkP N m0 t i).length<=6000000001:=by
 have:=aQu N m0 t ((t i).getD 0).toNat i;unfold bkP;omega
def toN (A:List Arc) (j:Nat):Bys:=match A[j]? with
 | some a=>a.2.1
 | none=>[]
theorem aSD {A:List Arc}{j:Nat}{a:Arc}(h:A[j]?=some a):toN A j=a.2.1:=by unfold toN;rw [h]
def aQA (prof:Bys) (os:List ObR) (f g:Bys) (m0 c:Int) (nd:List Bys) (mi:List Int):Prop :=
 (¬ aF0 os prof m0 [f,g]=0 /\ c=aF0 os prof m0 [f,g] /\ nd=[] /\ mi=[])∨(aF0 os prof m0 [f,g]=0 /\ f=g /\ c=0 /\ nd=[f] /\ mi=[m0]) ∨
 (aF0 os prof m0 [f,g]=0 /\ f≠g /\ ∃ t,Tab (aAj prof os f) m0 t /\ ((aAE (AS os) t g (AS os).length=none /\ c=12 /\ nd=[] /\ mi=[]) ∨
  ∃ i,aAE (AS os) t g (AS os).length=some i /\ c=0 /\ nd=((bkP (aAj prof os f) m0 t i).map (toN (AS os))++[f]).reverse /\ mi=((bkP (aAj prof os f) m0 t i).map (fun j=>(t j).getD 0)++[m0]).reverse))
theorem aQq {os:List ObR}{prof:Bys}{m0:Int}{ids:List Bys}(h:aF0 os prof m0 ids=0):aAc (aAa os)=true /\ aA3 prof=true /\ 0<=m0 /\ m0<=9999999 /\ ids.any (fun id=>decide (aAm (aAa os) id<0))=false /\ ids.any (aFf os)=false:=by
 unfold aF0 at h
 cases h1:(!(aAc (aAa os))||(!(aA3 prof)||(decide (m0<0)||decide (9999999<m0)))) with
 | true=>rw [h1] at h;cases h
 | false =>
  rw [h1] at h;simp only [Bool.or_eq_false_iff,Bool.not_eq_false',decide_eq_false_iff_not] at h1
  cases h2:ids.any (fun id=>decide (aAm (aAa os) id<0)) with
  | true=>rw [h2] at h;cases h
  | false =>
   rw [h2] at h
   cases h3:ids.any (aFf os) with
   | true=>rw [h3] at h;cases h
   | false=>exact ⟨h1.1,h1.2.1,by omega,by omega,rfl,rfl⟩
def aU0 (l:Option Nat):Int:=match l with
  | none => -1
  | some j=>j
def aWp (t:Nat->Option Int) (l:Option Nat):Int:=match l with
  | none=>0
  | some j=>(t j).getD 0
theorem aPN {t:Nat->Option Int}{l:Option Nat}{k:Nat}(h:aU0 l<0):aHc t l k=true:=by
  cases l with
  | none=>rfl
  | some j=>have:((j:Nat):Int)<0:=h;omega
theorem aKj {t:Nat->Option Int}{l:Option Nat}{k:Nat}(h:¬ aU0 l<0):aHc t l k=decide ((t k).getD 0<aWp t l):=by
  cases l with
  | none=>exact absurd (by decide) h
  | some j=>rfl
theorem aMV {N:NetW}{m0:Int}{t:Nat->Option Int}(hB:aQD N m0 t) {i:Nat}(hi:i<N.n):[i]++(bif (aBT N m0 t i).isSome then bkP N m0 t ((aBT N m0 t i).getD 0) else [])=bkP N m0 t i:=by
  rw [aWn hB hi];cases aBT N m0 t i<;>rfl
theorem aG3 {N:NetW}{m0:Int}{t:Nat->Option Int}(hB:aQD N m0 t) {i:Nat}(hi:i<N.n):((aBT N m0 t i).isSome=true->(aBT N m0 t i).getD 0<N.n /\ (t ((aBT N m0 t i).getD 0)).isSome=true) /\ (bif (aBT N m0 t i).isSome then ((t ((aBT N m0 t i).getD 0)).getD 0).toNat+1 else 0)<((t i).getD 0).toNat+1:=by
  cases h:aBT N m0 t i with
  | none=>exact ⟨fun h=>(by cases h),by simp⟩
  | some k =>
    obtain ⟨h1,h2,h3,h4⟩:=hB i k hi h;exact ⟨fun _=>⟨h1,h2⟩,by show ((t k).getD 0).toNat+1<_;omega⟩
theorem aMe {α:Type}{f:α->List Value}{c:Nat}{w:World}{b:Nat}{x:α}{T:TypeId}(hb:w.heap[b]?=some (.cells (f x).toArray T (0,0))):SrcP f c w (some ⟨b,0,none⟩) 1 [x] :=
  ⟨Gl_ _,by omega,.inr ⟨b,0,rfl,aAl hb,fun i y hy=>by
    cases i with
    | zero =>
      simp only [List.getElem?_cons_zero,Gm_] at hy;subst hy;intro j u hu;rw [aA1 hb];simpa using hu
    | succ i=>simp at hy⟩,fun h=>by cases h⟩
abbrev A12 (Z:Ending->World->Prop):=AtO Tryz.prog (aAf Tryz.f12) (aAo (bodyPost Tryz.prog Tryz.f12 Z)) [] 143
theorem aCV {w:World}{v:Value}{os:List ObR}(hmv:aCq w v os) {prof f g:Bys}(hp63:prof.length<=9223372036854775807) (hf63:B63 f) (hlen:aAc (aAa os)=true->(aAw os).length<=240) (hTe:Te w) (m0:Int):Calls Tryz.prog 12 #[.agg #[v],vS prof,vS f,vS g,vI m0] w fun e w'=>∃ v1 v2 c nd mi,e = .returned (.tuple #[.agg #[v1,v2],vI c]) /\ aQA prof os f g m0 c nd mi /\ Mm nF_ w w' [rw_ stL 1 9 v1 nd,rw_ inL 1 3 v2 mi]:=by
  have hm0:=hmv;obtain ⟨hs0,hob⟩:=hm0;obtain ⟨p0,cp0,hp0,sp0⟩:=hs0.op;subst hp0;refine beg Tryz.func12 rfl rfl [(0,.agg #[vL p0 os.length cp0]),(1,vS prof),(2,vS f),(3,vS g),(4,vI m0)] rfl rfl fun Y hY=>?_;have hM:=Mm.nil nF_ w;refine aAp 0 0 5 [] (cs:=#[vL p0 os.length cp0]) (T:=24) (v:=fun b=>vP b 0) f0 hM fun af w1 hM=>aAp 0 1 10 [] (cs:=#[vL none 0 0,vL none 0 0]) (T:=31) (v:=fun b=>vP b 0) f0 hM fun ad w1 hM=>aAp 1 5 30 [(25,.agg #[vL p0 os.length cp0]),(26,vS prof),(27,vI m0),(28,vS f),(29,vS g)] (cs:=#[vS f,vS g]) (T:=9) (v:=fun b=>vL (some ⟨b,0,none⟩) 2 2) (fc (lam 24 0 0 1 hM rfl) f0) hM fun ag w1 hM=>aAq 1 6 31 [] f0 hM (aFs (hmv.fr hM.fr) hp63 m0 (ids:=[f,g]) (aKV (f:=stL) (c:=1) (fun _=>rfl) (by decide) (hM.get 2 rfl))) fun w1 hM=>seg 2 2 [(12,vI (aF0 os prof m0 [f,g])),(33,vB (!((aF0 os prof m0 [f,g])==0)))] f0 ?_;cases ah:((aF0 os prof m0 [f,g])==0)
  ·refine stm 3 2 [(34,.agg #[vL none 0 0,vL none 0 0]),(35,vI (aF0 os prof m0 [f,g]))] 31 1 0 (.agg #[vL none 0 0,vL none 0 0]) f0 hM rfl fun w1 hM=>?_;have hl9:=aAi 31 1 (P:=Tryz.prog) (n:=2) hM rfl rfl;exact aTS 10 31 11 (vI (aF0 os prof m0 [f,g])) rfl rfl hl9 f0 (hY _ _ ⟨(vL none 0 0),(vL none 0 0),_,[],[],rfl,.inl ⟨ef ah,rfl,rfl,rfl⟩,(hM.pick (M':=[]) []).row.row⟩)
  refine seg 4 3 [(38,vB (f==g))] (fc (seq 9 f g) f0) ?_;cases am:(f==g)
  rotate_left
  ·refine aAp 5 1 40 [(39,vS f)] (cs:=#[vS f]) (T:=9) (v:=fun b=>vL (some ⟨b,0,none⟩) 1 1) f0 hM fun an w1 hM=>aAp 5 3 42 [(41,vI m0)] (cs:=#[vI m0]) (T:=3) (v:=fun b=>vL (some ⟨b,0,none⟩) 1 1) f0 hM fun ao w1 hM=>stm 5 5 [(43,.agg #[vL (some ⟨an,0,none⟩) 1 1,vL (some ⟨ao,0,none⟩) 1 1])] 31 1 0 (.agg #[vL (some ⟨an,0,none⟩) 1 1,vL (some ⟨ao,0,none⟩) 1 1]) f0 hM rfl fun w1 hM=>?_;have hl9:=aAi 31 1 (P:=Tryz.prog) (n:=2) hM rfl rfl;have hM:=aDq hM (f:=stL) (c:=1) (j:=3) rfl [f] 1 rfl rfl rfl;have hM:=aDq hM (f:=inL) (c:=1) (j:=4) rfl [m0] 1 rfl rfl rfl;exact aTS 10 31 11 (vI 0) rfl rfl hl9 f0 (hY _ _ ⟨(vL (some ⟨an,0,none⟩) 1 1),(vL (some ⟨ao,0,none⟩) 1 1),_,[f],[m0],rfl,.inr (.inl ⟨et ah,et am,rfl,rfl,rfl⟩),hM.pick [3,4]⟩)
  have hchk:=et ah;obtain ⟨hvm,-,h0,h1,hany,hno⟩:=aQq hchk;have hnn:(AS os).length<=240:=Gp_ (aGU _) (hlen hvm);have hNo:=aGs (prof:=prof) (fun a ha=>aFv (fun b hb=>(hmv.2 b hb).bnd) a (aCP ha):∀ a∈AS os,ArcB a) f
  skip
  refine aAM 6 2 46 [(44,.agg #[vL p0 os.length cp0]),(45,vS prof)] (K:=fun u Mn=>∃ bs ca bo br bb no nr nb qa T T2,u=vP bs 0 /\ (∀ s,aE6 T s=aC9 (AS os) s) /\ T2.map (·.1)=aBQ os /\ Mn=stM bs ca bo br bb no nr nb qa prof os T T2) [0,1,2] [] (fc (lam 24 0 0 1 hM rfl) f0) hM rfl rfl (by decide) (fun hm=>((aFV (hmv.fr hM.fr) hvm (by have:=hlen hvm;omega) (hTe.fr hM.fr)).mono fun e w8 ⟨bs,ca,bo,br,bb,no,nr,nb,qa,T,T2,h1,_,h2,h3,h4⟩=>⟨_,_,h1,⟨bs,ca,bo,br,bb,no,nr,nb,qa,T,T2,rfl,h2,h3,rfl⟩,aCy h4 fun _ h=>h.elim⟩)) fun u Mn w1 hK hM=>?_;obtain ⟨bs,ca,bo,br,bb,no,nr,nb,qa,T,T2,rfl,hTr,hT2,rfl⟩:=hK;have hM:=aTr (A:=[bk af #[vL p0 os.length cp0] 24,bk ad #[vL none 0 0,vL none 0 0] 31,bk ag #[vS f,vS g] 9,bk bs #[vS prof,vL qa (AS os).length ca,.map (some bo),.map (some br),.map (some bb)] 80,rw_ arL 4 47 (vL qa (AS os).length ca) (AS os)]) (Ms:=stR bo br bb no nr nb prof os T T2) hM;refine aAM 7 3 50 [(13,vP bs 0),(47,vP bs 0),(48,vS f),(49,vI m0)] (K:=fun u Mn=>∃ b n t,u = .agg #[.map (some b)] /\ Tab (aAj prof os f) m0 t /\ Mn=[tbE b n t]) [0,1,2,3,4,5] [] f0 hM rfl rfl (by decide) (fun hm=>((aE1 (aOJ hM (i:=3) (j:=4) (k:=5) rfl rfl rfl hmv hM.fr hT2) hT2 hTr hnn hf63 h0 (by omega)).mono fun e w8 ⟨b,n,t,h1,h2,h3⟩=>⟨_,_,h1,⟨b,n,t,rfl,h2,rfl⟩,aCy h3 fun _ h=>h.elim⟩)) fun u Mn w1 hK hM=>?_;obtain ⟨b,n,t,rfl,hT,rfl⟩:=hK;have hB:=aMW hNo h0 hT;have htb:∀ k m,t k=some m->0<=m /\ m<=6000000000:=fun k m e=>⟨by have:=(hT.snd k m e).ge hNo h0;omega,(hT.snd k m e).le hNo h0⟩;refine aCl 7 4 14 [] [] 73 (.agg #[.map (some b)]) f0 hM fun ae w1 hM=>seg 10 0 [(15,vI (-1)),(16,vI 0),(54,vL qa (AS os).length ca),(55,vI ((AS os).length:Int)),(56,vI 0)] (fc (ldm 75 3 1 hM rfl rfl) f0) ?_
  have az:∀ (aq:Nat) (k:Nat) (lz:Int) (bz:Int) (w2:World),k<=(AS os).length->lz=aU0 (aAE (AS os) t g k)->bz=aWp t (aAE (AS os) t g k)->Mm nF_ w w2 [bk af #[vL p0 os.length cp0] 24,bk ad #[vL none 0 0,vL none 0 0] 31,bk ag #[vS f,vS g] 9,bk bs #[vS prof,vL qa (AS os).length ca,.map (some bo),.map (some br),.map (some bb)] 80,rw_ arL 4 47 (vL qa (AS os).length ca) (AS os),aSe (stR bo br bb no nr nb prof os T T2),mp Tryz.prog 3 b n (aGe t),bk ae #[.map (some b)] 73]->aq=(AS os).length-k->A12 Y (some (10,0)) [(56,vI (k:Int)),(55,vI ((AS os).length:Int)),(54,vL qa (AS os).length ca),(16,vI bz),(15,vI lz),(14,vP ae 0),(13,vP bs 0),(10,vP ad 0),(2,vS f),(3,vS g),(4,vI m0)] w2:=by
   refine aA8 fun aq ai k lz bz w2 hk hlz hbz hM a5=>seg 10 1 [(57,vB (decide ((k:Int)<((AS os).length:Int))))] f0 ?_;cases ar:(decide ((k:Int)<((AS os).length:Int)))
   rotate_left
   ·have a0:=dt ar;obtain ⟨a,ha⟩:=geb (l:=AS os) (i:=k) (by omega);obtain ⟨a6,au,-⟩:=hM.el arT (j:=4) rfl ha;refine aAp 11 3 18 [(58,vI (k:Int)),(60,.agg #[vS a.1,vS a.2.1,vS a.2.2.1,vI a.2.2.2])] (cs:=#[vS [],vS [],vS [],vI 0]) (T:=47) (v:=fun b=>vP b 0) (fc (ix 75 ca au (gl ha)) (fc (lar 47 4 0 4 arT hM rfl au ha) f0)) hM fun a7 w1 hM=>stm 11 5 [(17,vI (k:Int))] 47 8 0 (.agg #[vS a.1,vS a.2.1,vS a.2.2.1,vI a.2.2.2]) f0 hM rfl fun w1 hM=>aAq 12 2 64 [(62,.agg #[.map (some b)]),(63,vI (k:Int))] (fc (lam 73 7 0 1 hM rfl) f0) hM (aBX (hM.get 6 rfl) (i:=k) (by omega)) fun w1 hM=>seg 13 2 [(19,vI ((t k).getD 0)),(68,vB (t k).isSome)] f0 ?_
    cases aj:(t k).isSome with
    | false =>
     refine seg 10 0 [(56,vI ((k:Int)+1))] (fc (aAe (k:Int) 1 u3_) f0) ?_;have e9:aAE (AS os) t g (k+1)=aAE (AS os) t g k:=by rw [aBC ha];simp only [aj]<;>rfl
     exact aAb _ (ai _ (by have:=gl ha;omega) (k+1) lz bz _ (gl ha) (by rw [e9];exact hlz) (by rw [e9];exact hbz) (hM.pick [0,1,2,3,4,5,6,7]) rfl)
    | true =>
     refine seg 13 8 [(74,vB (a.2.1==g))] (fc (ldm 9 8 1 hM rfl rfl) (fc (seq 9 a.2.1 g) f0)) ?_;cases ak:(a.2.1==g)
     ·refine seg 10 0 [(56,vI ((k:Int)+1))] (fc (aAe (k:Int) 1 u3_) f0) ?_;have e9:aAE (AS os) t g (k+1)=aAE (AS os) t g k:=by rw [aBC ha];simp only [aj,ak]<;>rfl
      exact aAb _ (ai _ (by have:=gl ha;omega) (k+1) lz bz _ (gl ha) (by rw [e9];exact hlz) (by rw [e9];exact hbz) (hM.pick [0,1,2,3,4,5,6,7]) rfl)
     refine seg 13 11 [(77,vB (decide (lz<0)))] f0 ?_;cases ap:(decide (lz<0))
     rotate_left
     ·refine seg 10 0 [(15,vI (k:Int)),(16,vI ((t k).getD 0)),(56,vI ((k:Int)+1))] (fc (aAe (k:Int) 1 u3_) f0) ?_;have hBB:aHc t (aAE (AS os) t g k) k=true:=aPN (by rw [←hlz];exact dt ap);have e9:aAE (AS os) t g (k+1)=some k:=by rw [aBC ha];simp only [aj,ak,hBB]<;>rfl
      exact aAb _ (ai _ (by have:=gl ha;omega) (k+1) (k:Int) ((t k).getD 0) _ (gl ha) (by rw [e9];rfl) (by rw [e9];rfl) (hM.pick [0,1,2,3,4,5,6,7]) rfl)
     refine seg 13 16 [(82,vB (decide (((t k).getD 0)<bz)))] f0 ?_;cases av:(decide (((t k).getD 0)<bz))
     ·refine seg 10 0 [(56,vI ((k:Int)+1))] (fc (aAe (k:Int) 1 u3_) f0) ?_;have hBB:aHc t (aAE (AS os) t g k) k=false:=by rw [aKj (by rw [←hlz];exact df ap),←hbz];exact av
      have e9:aAE (AS os) t g (k+1)=aAE (AS os) t g k:=by rw [aBC ha];simp only [aj,ak,hBB]<;>rfl
      exact aAb _ (ai _ (by have:=gl ha;omega) (k+1) lz bz _ (gl ha) (by rw [e9];exact hlz) (by rw [e9];exact hbz) (hM.pick [0,1,2,3,4,5,6,7]) rfl)
     refine seg 10 0 [(15,vI (k:Int)),(16,vI ((t k).getD 0)),(56,vI ((k:Int)+1))] (fc (aAe (k:Int) 1 u3_) f0) ?_;have hBB:aHc t (aAE (AS os) t g k) k=true:=by rw [aKj (by rw [←hlz];exact df ap),←hbz];exact av
     have e9:aAE (AS os) t g (k+1)=some k:=by rw [aBC ha];simp only [aj,ak,hBB]<;>rfl
     exact aAb _ (ai _ (by have:=gl ha;omega) (k+1) (k:Int) ((t k).getD 0) _ (gl ha) (by rw [e9];rfl) (by rw [e9];rfl) (hM.pick [0,1,2,3,4,5,6,7]) rfl)
   have a0:=df ar;have hkn:k=(AS os).length:=by omega
   subst hkn;refine seg 16 2 [(87,vB (decide (lz<0)))] f0 ?_;cases al:(decide (lz<0))
   rotate_left
   ·have a1:=dt al;refine stm 17 1 [(88,.agg #[vL none 0 0,vL none 0 0])] 31 1 0 (.agg #[vL none 0 0,vL none 0 0]) f0 hM rfl fun w1 hM=>?_;have hl9:=aAi 31 1 (P:=Tryz.prog) (n:=2) hM rfl rfl
    have hnone:aAE (AS os) t g (AS os).length=none:=by
      cases hl:aAE (AS os) t g (AS os).length with
      | none=>rfl
      | some i=>rw [hl] at hlz;have h9:=dt al;have:lz=(i:Int):=hlz;omega
    exact aTS 10 31 11 (vI 12) rfl rfl hl9 f0 (hY _ _ ⟨(vL none 0 0),(vL none 0 0),_,[],[],rfl,.inr (.inr ⟨et ah,ef am,t,hT,.inl ⟨hnone,rfl,rfl,rfl⟩⟩),(hM.pick (M':=[]) []).row.row⟩)
   have a1:=df al;have hlz9:=df al
   obtain ⟨i0,hi0⟩:∃ i,aAE (AS os) t g (AS os).length=some i:=by
     cases hl:aAE (AS os) t g (AS os).length with
     | none=>rw [hl] at hlz;exact absurd (hlz▸(by decide:(-1:Int)<0)) hlz9
     | some i=>exact ⟨i,rfl⟩
   rw [hi0] at hlz;have hlz:lz=(i0:Int):=hlz;subst hlz;obtain ⟨hi1,-,hi2⟩:=aFl hi0;have hbl:=aQt (N:=aAj prof os f) (m0:=m0) (t:=t) (i:=i0) (by cases e:t i0 with | none=>(show (0:Int)<=_;omega) | some m=>exact (htb i0 m e).2);refine aAp 18 0 21 [] (cs:=#[vL none 0 0,vL none 0 0]) (T:=31) (v:=fun b=>vP b 0) f0 hM fun ab w1 hM=>?_;have hM:=hM.row (f:=stL) (c:=1) (E:=9);have hM:=hM.row (f:=inL) (c:=1) (E:=3);refine seg 20 0 [(22,vB true)] f0 ?_
   have a2:∀ (aw:Nat) (i:Nat) (more:Bool) (L:List Nat) (v1:Value) (v2:Value) (w2:World),L++(bif more then bkP (aAj prof os f) m0 t i else [])=bkP (aAj prof os f) m0 t i0->(more=true->i<(AS os).length /\ (t i).isSome=true)->Mm nF_ w w2 [bk af #[vL p0 os.length cp0] 24,bk ad #[vL none 0 0,vL none 0 0] 31,bk ag #[vS f,vS g] 9,bk bs #[vS prof,vL qa (AS os).length ca,.map (some bo),.map (some br),.map (some bb)] 80,rw_ arL 4 47 (vL qa (AS os).length ca) (AS os),aSe (stR bo br bb no nr nb prof os T T2),mp Tryz.prog 3 b n (aGe t),bk ae #[.map (some b)] 73,bk ab #[v1,v2] 31,rw_ stL 1 9 v1 (L.map (toN (AS os))),rw_ inL 1 3 v2 (L.map fun j=>(t j).getD 0)]->aw=(bif more then ((t i).getD 0).toNat+1 else 0)->A12 Y (some (20,0)) [(22,vB more),(21,vP ab 0),(15,vI (i:Int)),(14,vP ae 0),(13,vP bs 0),(10,vP ad 0),(2,vS f),(4,vI m0)] w2:=by
    refine aA8 fun aw a3 i more L v1 v2 w2 hL hmr hM a4=>seg 20 1 [(89,vB more)] f0 ?_
    cases ax:more with
    | false =>
     subst ax;have hL:L=_:=(List.append_nil L).symm.trans hL;have hLl:L.length<=6000000001:=by rw [hL];exact hbl
     refine seg 24 0 [] f0 ?_;have hM:=hM.nl;have hM:=hM.nl;refine drx [1,3,4,6,8,9,11,13] (fun Z=>[some (v1),some (vL (some ⟨(bn (Z 1)),0,none⟩) 1 1),some (vL (slp (Z 2)) ((L.map (toN (AS os)))++[f]).length (slc (Z 2))),some (v2),some (vL (some ⟨(bn (Z 4)),0,none⟩) 1 1),some (vL (slp (Z 5)) ((L.map fun j=>(t j).getD 0)++[m0]).length (slc (Z 5))),none,none]) _ (fun Z l=>[bk af #[vL p0 os.length cp0] 24,bk ad #[vL none 0 0,vL none 0 0] 31,bk ag #[vS f,vS g] 9,bk bs #[vS prof,vL qa (AS os).length ca,.map (some bo),.map (some br),.map (some bb)] 80,rw_ arL 4 47 (vL qa (AS os).length ca) (AS os),aSe (stR bo br bb no nr nb prof os T T2),mp Tryz.prog 3 b n (aGe t),bk ae #[.map (some b)] 73,bk ab #[(bif l.getD 6 false then vL (slp (Z 2)) ((L.map (toN (AS os)))++[f]).length (slc (Z 2)) else v1),(bif l.getD 7 false then vL (slp (Z 5)) ((L.map fun j=>(t j).getD 0)++[m0]).length (slc (Z 5)) else v2)] 31,(bif l.getD 2 false then rw_ stL 1 9 (vL (slp (Z 2)) ((L.map (toN (AS os)))++[f]).length (slc (Z 2))) ((L.map (toN (AS os)))++[f]) else rw_ stL 1 9 v1 (L.map (toN (AS os)))),(bif l.getD 5 false then rw_ inL 1 3 (vL (slp (Z 5)) ((L.map fun j=>(t j).getD 0)++[m0]).length (slc (Z 5))) ((L.map fun j=>(t j).getD 0)++[m0]) else rw_ inL 1 3 v2 (L.map fun j=>(t j).getD 0)),(bif l.getD 1 false then bk (bn (Z 1)) #[vS f] 9 else aJz),(bif l.getD 4 false then bk (bn (Z 4)) #[vI m0] 3 else aJz)]) (fun Z=>[]) hM (fun Z=>rfl) (fun Z l w5 hM=>f0) ⟨aNV 0 1 28 8 0 125 (fun Z=>ab) (fun Z l=>#[(bif l.getD 6 false then vL (slp (Z 2)) ((L.map (toN (AS os)))++[f]).length (slc (Z 2)) else v1),(bif l.getD 7 false then vL (slp (Z 5)) ((L.map fun j=>(t j).getD 0)++[m0]).length (slc (Z 5)) else v2)]) 31 (fun Z=>v1),aCJ 1 3 11 127 (fun Z=>#[vS f]) 9 (fun b=>vL (some ⟨b,0,none⟩) 1 1),aH2 2 4 9 128 28 9 0 (fun Z=>v1) (L.map (toN (AS os))) [f] (fun Z=>(bn (Z 1))) 1 stT (by simp only [Gs_,Gf_,Go_];omega) (fun Z fr wm hM=>aAG (f:=stL) (x:=f) (hM.get 11 (e:=bk ((bn (Z 1))) (stL f).toArray 9) (by kernel_rfl)) (Gq_ _)),aNV 3 6 29 8 1 130 (fun Z=>ab) (fun Z l=>#[(bif l.getD 6 false then vL (slp (Z 2)) ((L.map (toN (AS os)))++[f]).length (slc (Z 2)) else v1),(bif l.getD 7 false then vL (slp (Z 5)) ((L.map fun j=>(t j).getD 0)++[m0]).length (slc (Z 5)) else v2)]) 31 (fun Z=>v2),aCJ 4 8 12 132 (fun Z=>#[vI m0]) 3 (fun b=>vL (some ⟨b,0,none⟩) 1 1),aH2 5 9 10 133 29 3 0 (fun Z=>v2) (L.map fun j=>(t j).getD 0) [m0] (fun Z=>(bn (Z 4))) 1 inT (by simp only [Gs_,Gf_,Go_];omega) (fun Z fr wm hM=>aAG (f:=inL) (x:=m0) (hM.get 12 (e:=bk ((bn (Z 4))) (inL m0).toArray 3) (by kernel_rfl)) (Gq_ _)),aB8 6 11 28 8 0 (fun Z=>ab) (fun Z l=>#[(bif l.getD 6 false then vL (slp (Z 2)) ((L.map (toN (AS os)))++[f]).length (slc (Z 2)) else v1),(bif l.getD 7 false then vL (slp (Z 5)) ((L.map fun j=>(t j).getD 0)++[m0]).length (slc (Z 5)) else v2)]) 31 (fun Z=>vL (slp (Z 2)) ((L.map (toN (AS os)))++[f]).length (slc (Z 2))),aB8 7 13 29 8 1 (fun Z=>ab) (fun Z l=>#[(bif l.getD 6 false then vL (slp (Z 2)) ((L.map (toN (AS os)))++[f]).length (slc (Z 2)) else v1),(bif l.getD 7 false then vL (slp (Z 5)) ((L.map fun j=>(t j).getD 0)++[m0]).length (slc (Z 5)) else v2)]) 31 (fun Z=>vL (slp (Z 5)) ((L.map fun j=>(t j).getD 0)++[m0]).length (slc (Z 5))),trivial⟩ fun aa w1 hM=>?_;replace hM:Mm nF_ w w1 [bk af #[vL p0 os.length cp0] 24,bk ad #[vL none 0 0,vL none 0 0] 31,bk ag #[vS f,vS g] 9,bk bs #[vS prof,vL qa (AS os).length ca,.map (some bo),.map (some br),.map (some bb)] 80,_,_,_,bk ae #[.map (some b)] 73,bk ab #[vL (slp (aa 2)) ((L.map (toN (AS os)))++[f]).length (slc (aa 2)),vL (slp (aa 5)) ((L.map fun j=>(t j).getD 0)++[m0]).length (slc (aa 5))] 31,_,_,bk (bn (aa 1)) #[vS f] 9,bk (bn (aa 4)) #[vI m0] 3]:=hM;refine aAM 25 2 138 [(137,vL (slp (aa 2)) ((L.map (toN (AS os)))++[f]).length (slc (aa 2)))] (K:=fun u Mn=>u = .tuple #[] /\ Mn=[rw_ stL 1 9 (vL (slp (aa 2)) ((L.map (toN (AS os)))++[f]).length (slc (aa 2))) ((L.map (toN (AS os)))++[f]).reverse]) [0,1,2,3,4,5,6,7,8,10,11,12] [9] (fc (ldm 28 8 0 hM rfl rfl) f0) hM rfl rfl (by decide) (fun hm=>(aN0 hm)) fun u Mn w1 hK hM=>?_;obtain ⟨rfl,rfl⟩:=hK;refine aAM 26 2 141 [(140,vL (slp (aa 5)) ((L.map fun j=>(t j).getD 0)++[m0]).length (slc (aa 5)))] (K:=fun u Mn=>u = .tuple #[] /\ Mn=[rw_ inL 1 3 (vL (slp (aa 5)) ((L.map fun j=>(t j).getD 0)++[m0]).length (slc (aa 5))) ((L.map fun j=>(t j).getD 0)++[m0]).reverse]) [0,1,2,3,4,5,6,7,8,10,11,12] [9] (fc (ldm 29 8 1 hM rfl rfl) f0) hM rfl rfl (by decide) (fun hm=>(aN1 hm)) fun u Mn w1 hK hM=>?_;obtain ⟨rfl,rfl⟩:=hK;refine stm 27 1 [(142,.agg #[vL (slp (aa 2)) ((L.map (toN (AS os)))++[f]).length (slc (aa 2)),vL (slp (aa 5)) ((L.map fun j=>(t j).getD 0)++[m0]).length (slc (aa 5))])] 31 1 0 (.agg #[vL (slp (aa 2)) ((L.map (toN (AS os)))++[f]).length (slc (aa 2)),vL (slp (aa 5)) ((L.map fun j=>(t j).getD 0)++[m0]).length (slc (aa 5))]) (fc (lam 31 8 0 2 hM rfl) f0) hM rfl fun w1 hM=>?_;have hl9:=aAi 31 1 (P:=Tryz.prog) (n:=2) hM rfl rfl;exact aTS 10 31 11 (vI 0) rfl rfl hl9 f0 (hY _ _ ⟨(vL (slp (aa 2)) ((L.map (toN (AS os)))++[f]).length (slc (aa 2))),(vL (slp (aa 5)) ((L.map fun j=>(t j).getD 0)++[m0]).length (slc (aa 5))),_,_,_,rfl,.inr (.inr ⟨et ah,ef am,t,hT,.inr ⟨i0,hi0,rfl,by rw [←hL],by rw [←hL]⟩⟩),hM.pick [11,12]⟩)
    | true =>
     subst ax;have hil:i<(AS os).length:=(hmr rfl).1;obtain ⟨a,ha⟩:=geb (l:=AS os) (i:=i) hil;have hLl:L.length+(bkP (aAj prof os f) m0 t i).length<=6000000001:=by rw [←Gk_];exact (congrArg List.length hL:_=_)▸hbl
     refine aAq 22 2 102 [(100,.agg #[.map (some b)]),(101,vI (i:Int))] (fc (lam 73 7 0 1 hM rfl) f0) hM (aBX (hM.get 6 rfl) (i:=i) (by omega)) fun w1 hM=>seg 23 0 [(23,vI ((t i).getD 0))] f0 ?_;obtain ⟨a8,ay,-⟩:=hM.el arT (j:=4) rfl ha;have hM:=hM.nl;have hM:=hM.nl;refine drx [1,10,11,13,15,16,18,20] (fun Z=>[some (v1),some (vL (some ⟨(bn (Z 1)),0,none⟩) 1 1),some (vL (slp (Z 2)) ((L.map (toN (AS os)))++[a.2.1]).length (slc (Z 2))),some (v2),some (vL (some ⟨(bn (Z 4)),0,none⟩) 1 1),some (vL (slp (Z 5)) ((L.map fun j=>(t j).getD 0)++[((t i).getD 0)]).length (slc (Z 5))),none,none]) _ (fun Z l=>[bk af #[vL p0 os.length cp0] 24,bk ad #[vL none 0 0,vL none 0 0] 31,bk ag #[vS f,vS g] 9,bk bs #[vS prof,vL qa (AS os).length ca,.map (some bo),.map (some br),.map (some bb)] 80,rw_ arL 4 47 (vL qa (AS os).length ca) (AS os),aSe (stR bo br bb no nr nb prof os T T2),mp Tryz.prog 3 b n (aGe t),bk ae #[.map (some b)] 73,bk ab #[(bif l.getD 6 false then vL (slp (Z 2)) ((L.map (toN (AS os)))++[a.2.1]).length (slc (Z 2)) else v1),(bif l.getD 7 false then vL (slp (Z 5)) ((L.map fun j=>(t j).getD 0)++[((t i).getD 0)]).length (slc (Z 5)) else v2)] 31,(bif l.getD 2 false then rw_ stL 1 9 (vL (slp (Z 2)) ((L.map (toN (AS os)))++[a.2.1]).length (slc (Z 2))) ((L.map (toN (AS os)))++[a.2.1]) else rw_ stL 1 9 v1 (L.map (toN (AS os)))),(bif l.getD 5 false then rw_ inL 1 3 (vL (slp (Z 5)) ((L.map fun j=>(t j).getD 0)++[((t i).getD 0)]).length (slc (Z 5))) ((L.map fun j=>(t j).getD 0)++[((t i).getD 0)]) else rw_ inL 1 3 v2 (L.map fun j=>(t j).getD 0)),(bif l.getD 1 false then bk (bn (Z 1)) #[vS a.2.1] 9 else aJz),(bif l.getD 4 false then bk (bn (Z 4)) #[vI ((t i).getD 0)] 3 else aJz)]) (fun Z=>[]) hM (fun Z=>rfl) (fun Z l w5 hM=>(fc (ldm 75 3 1 hM rfl rfl) (fc (ix 75 ca ay (gl ha)) (fc (ldr 9 4 1 arT hM rfl ay ha rfl) f0)))) ⟨aNV 0 1 28 8 0 106 (fun Z=>ab) (fun Z l=>#[(bif l.getD 6 false then vL (slp (Z 2)) ((L.map (toN (AS os)))++[a.2.1]).length (slc (Z 2)) else v1),(bif l.getD 7 false then vL (slp (Z 5)) ((L.map fun j=>(t j).getD 0)++[((t i).getD 0)]).length (slc (Z 5)) else v2)]) 31 (fun Z=>v1),aCJ 1 10 11 115 (fun Z=>#[vS a.2.1]) 9 (fun b=>vL (some ⟨b,0,none⟩) 1 1),aH2 2 11 9 116 28 9 0 (fun Z=>v1) (L.map (toN (AS os))) [a.2.1] (fun Z=>(bn (Z 1))) 1 stT (by simp only [Gs_,Gf_,Go_];omega) (fun Z fr wm hM=>aAG (f:=stL) (x:=a.2.1) (hM.get 11 (e:=bk ((bn (Z 1))) (stL a.2.1).toArray 9) (by kernel_rfl)) (Gq_ _)),aNV 3 13 29 8 1 118 (fun Z=>ab) (fun Z l=>#[(bif l.getD 6 false then vL (slp (Z 2)) ((L.map (toN (AS os)))++[a.2.1]).length (slc (Z 2)) else v1),(bif l.getD 7 false then vL (slp (Z 5)) ((L.map fun j=>(t j).getD 0)++[((t i).getD 0)]).length (slc (Z 5)) else v2)]) 31 (fun Z=>v2),aCJ 4 15 12 120 (fun Z=>#[vI ((t i).getD 0)]) 3 (fun b=>vL (some ⟨b,0,none⟩) 1 1),aH2 5 16 10 121 29 3 0 (fun Z=>v2) (L.map fun j=>(t j).getD 0) [((t i).getD 0)] (fun Z=>(bn (Z 4))) 1 inT (by simp only [Gs_,Gf_,Go_];omega) (fun Z fr wm hM=>aAG (f:=inL) (x:=((t i).getD 0)) (hM.get 12 (e:=bk ((bn (Z 4))) (inL ((t i).getD 0)).toArray 3) (by kernel_rfl)) (Gq_ _)),aB8 6 18 28 8 0 (fun Z=>ab) (fun Z l=>#[(bif l.getD 6 false then vL (slp (Z 2)) ((L.map (toN (AS os)))++[a.2.1]).length (slc (Z 2)) else v1),(bif l.getD 7 false then vL (slp (Z 5)) ((L.map fun j=>(t j).getD 0)++[((t i).getD 0)]).length (slc (Z 5)) else v2)]) 31 (fun Z=>vL (slp (Z 2)) ((L.map (toN (AS os)))++[a.2.1]).length (slc (Z 2))),aB8 7 20 29 8 1 (fun Z=>ab) (fun Z l=>#[(bif l.getD 6 false then vL (slp (Z 2)) ((L.map (toN (AS os)))++[a.2.1]).length (slc (Z 2)) else v1),(bif l.getD 7 false then vL (slp (Z 5)) ((L.map fun j=>(t j).getD 0)++[((t i).getD 0)]).length (slc (Z 5)) else v2)]) 31 (fun Z=>vL (slp (Z 5)) ((L.map fun j=>(t j).getD 0)++[((t i).getD 0)]).length (slc (Z 5))),trivial⟩ fun ac w1 hM=>?_;replace hM:Mm nF_ w w1 [bk af #[vL p0 os.length cp0] 24,bk ad #[vL none 0 0,vL none 0 0] 31,bk ag #[vS f,vS g] 9,bk bs #[vS prof,vL qa (AS os).length ca,.map (some bo),.map (some br),.map (some bb)] 80,_,_,_,bk ae #[.map (some b)] 73,bk ab #[vL (slp (ac 2)) ((L.map (toN (AS os)))++[a.2.1]).length (slc (ac 2)),vL (slp (ac 5)) ((L.map fun j=>(t j).getD 0)++[((t i).getD 0)]).length (slc (ac 5))] 31,_,_,bk (bn (ac 1)) #[vS a.2.1] 9,bk (bn (ac 4)) #[vI ((t i).getD 0)] 3]:=hM;refine aAq 21 5 96 [(91,vP bs 0),(92,.agg #[.map (some b)]),(93,vS f),(94,vI m0),(95,vI (i:Int))] (fc (lam 73 7 0 1 hM rfl) f0) hM (aK5 (aOJ hM (i:=3) (j:=4) (k:=5) rfl rfl rfl hmv hM.fr hT2) hT2 (by omega) (hM.get 6 rfl) htb (f:=f) h0 (by omega) hil) fun w1 hM=>seg 20 0 [(15,vI (((aBT (aAj prof os f) m0 t i).getD 0:Nat):Int)),(22,vB (aBT (aAj prof os f) m0 t i).isSome)] f0 ?_;have hM:=hM.pick [0,1,2,3,4,5,6,7,8,9,10];replace hM:Mm nF_ w _ [bk af #[vL p0 os.length cp0] 24,bk ad #[vL none 0 0,vL none 0 0] 31,bk ag #[vS f,vS g] 9,bk bs #[vS prof,vL qa (AS os).length ca,.map (some bo),.map (some br),.map (some bb)] 80,_,_,_,bk ae #[.map (some b)] 73,bk ab #[vL (slp (ac 2)) ((L.map (toN (AS os)))++[a.2.1]).length (slc (ac 2)),vL (slp (ac 5)) ((L.map fun j=>(t j).getD 0)++[((t i).getD 0)]).length (slc (ac 5))] 31,_,_]:=hM;obtain ⟨u1,hu1⟩:∃ z,z=vL (slp (ac 2)) ((L.map (toN (AS os)))++[a.2.1]).length (slc (ac 2)):=⟨_,rfl⟩;obtain ⟨u2,hu2⟩:∃ z,z=vL (slp (ac 5)) ((L.map fun j=>(t j).getD 0)++[((t i).getD 0)]).length (slc (ac 5)):=⟨_,rfl⟩;rw [←hu1,←hu2] at hM;have e1:((L.map (toN (AS os)))++[a.2.1])=((L++[i]).map (toN (AS os))):=by rw [List.map_append];simp [aSD ha]
     have e2:((L.map fun j=>(t j).getD 0)++[((t i).getD 0)])=((L++[i]).map fun j=>(t j).getD 0):=by rw [List.map_append];rfl
     rw [e1,e2] at hM;exact aAb _ (a3 _ (by rw [a4];exact (aG3 hB hil).2) ((aBT (aAj prof os f) m0 t i).getD 0) (aBT (aAj prof os f) m0 t i).isSome (L++[i]) u1 u2 _ (by rw [Gn_,aMV hB hil];exact hL) (aG3 hB hil).1 hM rfl)
   exact aAb _ (a2 _ i0 true [] (vL none 0 0) (vL none 0 0) _ rfl (fun _=>⟨hi1,hi2⟩) hM rfl)
  exact aAb _ (az _ 0 (-1) 0 _ (Gg_ _) rfl rfl hM rfl)
def rwL (x:Bys×Int):List Value:=[vS x.1,vI x.2]
theorem rwT:ElT Tryz.prog rwL 2 35 56:=⟨fun _=>rfl,by decide,fun x u hu=>by
  unfold rwL at hu;rcases List.mem_cons.1 hu with rfl | hu
  · rfl
  · rw [Gd_] at hu
    subst hu;rfl,Tryz.underlying35,aBO (by kernel_rfl)⟩
def aMc (t:Bys->Option Int):Value->Option Value
  | .string s=>(t s.toList).map fun m => .int .i64 m
  | _=>none
theorem aOD (t:Bys->Option Int) (s:Bys):aMc t (vS s)=(t s).map fun m => .int .i64 m:=by
  show (t (ofL s).toList).map _=_;rw [aA5]
def aHY (t:Bys->Option Int) (s:Bys) (x:Int):Bys->Option Int:=fun k=>bif k==s then some x else t k
theorem aDO (t:Bys->Option Int) (s:Bys) (x:Int):aHY t s x s=some x:=by unfold aHY;simp
theorem aCY (t:Bys->Option Int) {s k:Bys}(x:Int) (h:k≠s):aHY t s x k=t k:=by
  unfold aHY;rw [show (k==s)=false by simpa using h];rfl
theorem aI2 (t:Bys->Option Int) (s:Bys) (x:Int):upd (aMc t) (vS s) (vI x)=aMc (aHY t s x):=by
  funext v
  by_cases e:v=vS s
  · subst e;rw [aCt,aOD,aDO];rfl
  · rw [aBG _ e]
    cases v with
    | string b =>
      show (t b.toList).map _=(aHY t s x b.toList).map _;rw [aCY _ _ (aOu e)]
    | _=>rfl
theorem aRg (s:Bys) (x:Int):upd (fun _=>none) (vS s) (vI x)=aMc (aHY (fun _=>none) s x):=by
  rw [←aI2];congr 1;funext v;cases v<;>rfl
def aG2 (o:Option Int) (x:Int):Bool:=match o with
  | some y=>decide (x<y)
  | none=>true
theorem aOC (t:Bys->Option Int) (s:Bys):(.tuple #[((aMc t) (vS s)).getD (vI 0),.bool ((aMc t) (vS s)).isSome]:Value) = .tuple #[vI ((t s).getD 0),vB (t s).isSome]:=by
  rw [aOD];cases t s<;>rfl
abbrev tbS (b n:Nat) (t:Bys->Option Int):Ent:=mp Tryz.prog 9 b n (aMc t)
theorem aRf {t:Nat->Option Int}{key v:Value}(h:aGe t key=some v):∃ k m,key=vI ((k:Nat):Int) /\ t k=some m /\ v=vI m:=by
  unfold aGe at h
  split at h
  · rename_i k
    obtain ⟨m,hm,rfl⟩:=Option.map_eq_some_iff.1 h;exact ⟨k,m,rfl,hm,rfl⟩
  · cases h
theorem aKh {w:World}(m n:Int):Calls Tryz.prog 40 #[vI m,vI n] w fun e w'=>e = .returned (vB (decide (m<n))) /\ Fr nF_ w w':=by
  refine beg Tryz.func40 rfl rfl [(0,vI m),(1,vI n)] rfl rfl fun Z hZ=>?_;have hM:=Mm.nil nF_ w;exact rt1 4 (vB (decide (m<n))) rfl f0 (hZ _ _ ⟨rfl,hM.fr⟩)
theorem aNm {w:World}{b n:Nat}{u:Bys->Option Int}(hm:aD0 Tryz.prog 9 w b n (aMc u)) {s:Bys}(hs:B63 s):Calls Tryz.prog 41 #[.agg #[.map (some b)],vS s] w fun e w'=>e = .returned (.tuple #[vI ((u s).getD 0),vB (u s).isSome]) /\ Fr nF_ w w':=by
  refine beg Tryz.func41 rfl rfl [(0,.agg #[.map (some b)]),(1,vS s)] rfl rfl fun Z hZ=>?_;have hM:=Mm.nil nF_ w;refine aAp 0 0 2 [] (cs:=#[.map (some b)]) (T:=90) (v:=fun b=>vP b 0) f0 hM fun aa w1 hM=>rt2 4 5 (vI ((u s).getD 0)) (vB (u s).isSome) rfl rfl (fc (ldm 88 0 0 hM rfl rfl) (fc (rz2 (aVQ 88 (vS s) (vI 0) (hm.fr hM.fr id) aD5 u88_ (aD6 hs) (aQK _)) (aOC u s)) f0)) (hZ _ _ ⟨rfl,hM.fr⟩)
theorem aHB {w:World}{G:Nat->Prop}{b n:Nat}{u:Bys->Option Int}(hM0:Mm G w w [tbS b n u]) {s:Bys}(hs:B63 s) (x:Int):Calls Tryz.prog 39 #[.agg #[.map (some b)],vS s,vI x,.func (.func 40) #[] #[]] w fun e w'=>e = .returned (vB (aG2 (u s) x)) /\ Mm G w w' [tbS b (bif aG2 (u s) x then n+1 else n) (bif aG2 (u s) x then aHY u s x else u)]:=by
  refine beg Tryz.func39 rfl rfl [(0,.agg #[.map (some b)]),(1,vS s),(2,vI x),(3,.func (.func 40) #[] #[])] rfl rfl fun Z hZ=>?_;have hM:=hM0;refine aAp 0 0 4 [] (cs:=#[.map (some b)]) (T:=90) (v:=fun b=>vP b 0) f0 hM fun aa w1 hM=>seg 2 2 [(9,vI ((u s).getD 0)),(19,vB (u s).isSome)] (fc (ldm 88 1 0 hM rfl rfl) (fc (rz2 (aVQ 88 (vS s) (vI 0) (hM.get 0 rfl) aD5 u88_ (aD6 hs) (aQK _)) (aOC u s)) f0)) ?_
  cases ab:(u s).isSome with
  | false =>
   refine mup 4 4 [(27,.map (some b)),(28,vS s),(29,vI x)] 88 0 (vS s) (vI x) (fc (ldm 88 1 0 hM rfl rfl) f0) hM rfl aD5 u88_ (aD6 hs) fun w1 hM=>?_
   have hb:aG2 (u s) x=true:=by
     unfold aG2
     cases e:u s with
     | none=>simp_all
     | some o=>simp_all
   rw [aI2] at hM;exact rt1 8 (vB true) rfl f0 (hZ _ _ ⟨by rw [hb],by rw [hb];exact hM.pick [0]⟩)
  | true =>
   refine aAq 2 5 23 [(20,.func (.func 40) #[] #[]),(21,vI x),(22,vI ((u s).getD 0))] f0 hM (aKh x ((u s).getD 0)) fun w1 hM=>seg 2 8 [(25,vB (!(decide (x<((u s).getD 0)))))] f0 ?_;cases ac:(decide (x<((u s).getD 0)))
   ·have hb:aG2 (u s) x=false:=by
      unfold aG2
      cases e:u s with
      | none=>simp_all
      | some o=>simp_all
    exact rt1 8 (vB false) rfl f0 (hZ _ _ ⟨by rw [hb],by rw [hb];exact hM.pick [0]⟩)
   refine mup 4 4 [(27,.map (some b)),(28,vS s),(29,vI x)] 88 0 (vS s) (vI x) (fc (ldm 88 1 0 hM rfl rfl) f0) hM rfl aD5 u88_ (aD6 hs) fun w1 hM=>?_
   have hb:aG2 (u s) x=true:=by
     unfold aG2
     cases e:u s with
     | none=>simp_all
     | some o=>simp_all
   rw [aI2] at hM;exact rt1 8 (vB true) rfl f0 (hZ _ _ ⟨by rw [hb],by rw [hb];exact hM.pick [0]⟩)
theorem aI4 {w:World}{b n:Nat}{u:Bys->Option Int}(hm:(tbS b n u).H w) {s:Bys}(hs:B63 s) (x:Int):Calls Tryz.prog 39 #[.agg #[.map (some b)],vS s,vI x,.func (.func 40) #[] #[]] w fun e w'=>e = .returned (vB (aG2 (u s) x)) /\ Fr (tbS b n u).B w w' /\ (tbS b (n+1) (bif aG2 (u s) x then aHY u s x else u)).H w' /\ ∀ k,(tbS b (n+1) (bif aG2 (u s) x then aHY u s x else u)).B k->(tbS b n u).B k∨w.heap.size<=k :=
  (aHB (n:=n) (G:=(tbS b n u).B) ⟨Fr.refl _ _,fun e he=>by rw [Gd_] at he;subst he;exact hm,fun e he k hk _=>by rw [Gd_] at he;subst he;exact hk,List.pairwise_singleton _ _⟩ hs x).mono fun e w' ⟨h1,h2⟩=>⟨h1,h2.fr,aD0.mono (h2.get 0 rfl) (by cases aG2 (u s) x<;>simp),fun k hk => .inl hk⟩
structure FirstOk (A:List Arc) (t:Nat->Option Int) (f:Bys) (m0 wi:Int) (P:Nat->Prop) (u:Bys->Option Int):Prop where
  own:u f=some 0
  snd:∀ s d,s≠f->u s=some d->∃ k m a,t k=some m /\ A[k]?=some a /\ a.2.1=s /\ d=m-m0 /\ d<=wi
  cmp:∀ k m a,P k->t k=some m->A[k]?=some a->m-m0<=wi->∃ d,d<=m-m0 /\ u a.2.1=some d
theorem FirstOk.zero {A:List Arc}{t:Nat->Option Int}{f:Bys}{m0 wi:Int}{P:Nat->Prop}(hP:∀ k m,t k=some m->¬ P k):FirstOk A t f m0 wi P (aHY (fun _=>none) f 0) :=
  ⟨aDO _ _ _,fun s d hs h=>(by rw [aCY _ _ hs] at h;cases h),fun k m a h1 h2=>absurd h1 (hP k m h2)⟩
theorem FirstOk.step {A:List Arc}{t:Nat->Option Int}{f:Bys}{m0 wi:Int}{P Q:Nat->Prop}{u:Bys->Option Int}(h:FirstOk A t f m0 wi P u) {k:Nat}{m:Int}{a:Arc}(ht:t k=some m) (ha:A[k]?=some a) (hm:m0<=m) (hd:m-m0<=wi) (hQ:∀ j,Q j->P j∨j=k):FirstOk A t f m0 wi Q (bif aG2 (u a.2.1) (m-m0) then aHY u a.2.1 (m-m0) else u):=by
  have hcm:∀ (s:Bys) d,u s=some d->∃ d',d'<=d /\ (bif aG2 (u a.2.1) (m-m0) then aHY u a.2.1 (m-m0) else u) s=some d':=by
    intro s d hs
    cases hb:aG2 (u a.2.1) (m-m0) with
    | false=>exact ⟨d,Int.le_refl _,hs⟩
    | true =>
      by_cases e:s=a.2.1
      · subst e
        rw [hs] at hb;have:=of_decide_eq_true hb;exact ⟨m-m0,by omega,aDO _ _ _⟩
      · exact ⟨d,Int.le_refl _,by show aHY u a.2.1 (m-m0) s=_;rw [aCY _ _ e];exact hs⟩
  refine ⟨?_,fun s d hs hu=>?_,fun j m' b hj hj2 hj3 hj4=>?_⟩
  · cases hb:aG2 (u a.2.1) (m-m0) with
    | false=>exact h.own
    | true =>
      show aHY u a.2.1 (m-m0) f=some 0
      by_cases e:f=a.2.1
      · rw [←e,h.own] at hb
        have:=of_decide_eq_true hb;omega
      · rw [aCY _ _ e];exact h.own
  · cases hb:aG2 (u a.2.1) (m-m0) with
    | false=>rw [hb] at hu;exact h.snd s d hs hu
    | true =>
      rw [hb] at hu;have hu:aHY u a.2.1 (m-m0) s=some d:=hu
      by_cases e:s=a.2.1
      · subst e;rw [aDO] at hu;cases hu
        exact ⟨k,m,a,ht,ha,rfl,rfl,hd⟩
      · rw [aCY _ _ e] at hu;exact h.snd s d hs hu
  · rcases hQ j hj with hj | rfl
    · obtain ⟨d,h1,h2⟩:=h.cmp j m' b hj hj2 hj3 hj4
      obtain ⟨d',h3,h4⟩:=hcm _ _ h2;exact ⟨d',by omega,h4⟩
    · rw [ht] at hj2;cases hj2
      rw [ha] at hj3;cases hj3
      cases hb:aG2 (u a.2.1) (m-m0) with
      | true=>exact ⟨m-m0,Int.le_refl _,aDO _ _ _⟩
      | false =>
        cases hu:u a.2.1 with
        | none=>rw [hu] at hb;cases hb
        | some y =>
          rw [hu] at hb;have:=of_decide_eq_false hb;exact ⟨y,by omega,hu⟩
theorem FirstOk.skip {A:List Arc}{t:Nat->Option Int}{f:Bys}{m0 wi:Int}{P Q:Nat->Prop}{u:Bys->Option Int}(h:FirstOk A t f m0 wi P u) {k:Nat}{m:Int}(ht:t k=some m) (hd:¬ m-m0<=wi) (hQ:∀ j,Q j->P j∨j=k):FirstOk A t f m0 wi Q u :=
  ⟨h.own,h.snd,fun j m' b hj hj2 hj3 hj4=>by
    rcases hQ j hj with hj | rfl
    · exact h.cmp j m' b hj hj2 hj3 hj4
    · rw [ht] at hj2;cases hj2;exact absurd hj4 hd⟩
def aCC (os:List ObR) (u:Bys->Option Int):List (Bys×Int):=os.flatMap fun b=>bif (u b.o.id).isSome&&(b.o.kind==1) then [(b.o.id,(u b.o.id).getD 0)] else []
theorem aF8 {os:List ObR}{u:Bys->Option Int}{i:Nat}{y:ObR}(h:os[i]?=some y):aCC (os.take (i+1)) u=aCC (os.take i) u++bif (u y.o.id).isSome&&(y.o.kind==1) then [(y.o.id,(u y.o.id).getD 0)] else []:=by
  rw [gt_ h];unfold aCC;rw [List.flatMap_append];simp
theorem aPb (os:List ObR) (u:Bys->Option Int):(aCC os u).length<=os.length:=by
  induction os with
  | nil=>simp [aCC]
  | cons b os ih =>
    unfold aCC at ih ⊢;rw [List.flatMap_cons,Gk_,Gf_];cases (u b.o.id).isSome&&(b.o.kind==1)<;>simp only [cond_true,cond_false,Go_,List.length_singleton]<;>omega
def aKA (prof:Bys) (os:List ObR) (f:Bys) (wi m0 c:Int) (rows:List (Bys×Int)):Prop :=
  ((wi<0∨10080<wi) /\ c=1 /\ rows=[])∨(¬ (wi<0∨10080<wi) /\ ¬ aF0 os prof m0 [f]=0 /\ c=aF0 os prof m0 [f] /\ rows=[]) ∨
  (¬ (wi<0∨10080<wi) /\ aF0 os prof m0 [f]=0 /\ c=0 /\ ∃ t u,Tab (aAj prof os f) m0 t /\ FirstOk (AS os) t f m0 wi (fun _=>True) u /\ rows=aCC os u)
abbrev A14 (Z:Ending->World->Prop):=AtO Tryz.prog (aAf Tryz.f14) (aAo (bodyPost Tryz.prog Tryz.f14 Z)) [] 102
theorem aGR {w:World}{v:Value}{os:List ObR}(hmv:aCq w v os) {prof f:Bys}(hp63:prof.length<=9223372036854775807) (hf63:B63 f) (hlen:aAc (aAa os)=true->(aAw os).length<=240) (hol:os.length<=1000000) (hTe:Te w) (wi m0:Int):Calls Tryz.prog 14 #[.agg #[v],vS prof,vS f,vI wi,vI m0] w fun e w'=>∃ v1 c rows,e = .returned (.tuple #[v1,vI c]) /\ aKA prof os f wi m0 c rows /\ Mm nF_ w w' [rw_ rwL 2 56 v1 rows]:=by
  have hm0:=hmv;obtain ⟨hs0,hob⟩:=hm0;obtain ⟨p0,cp0,hp0,sp0⟩:=hs0.op;subst hp0;refine beg Tryz.func14 rfl rfl [(0,.agg #[vL p0 os.length cp0]),(1,vS prof),(2,vS f),(3,vI wi),(4,vI m0)] rfl rfl fun Y hY=>?_;have hM:=Mm.nil nF_ w;refine aAp 0 0 5 [] (cs:=#[vL p0 os.length cp0]) (T:=24) (v:=fun b=>vP b 0) f0 hM fun ab w1 hM=>seg 1 3 [(24,vB (decide (wi<0)))] f0 ?_;cases ae:(decide (wi<0))
  rotate_left
  ·have aw:=dt ae;exact rt2 10 11 (vL none 0 0) (vI 1) rfl rfl f0 (hY _ _ ⟨_,_,[],rfl,.inl ⟨.inl (dt ae),rfl,rfl⟩,(hM.pick (M':=[]) []).row⟩)
  have aw:=df ae;refine seg 1 6 [(27,vB (decide (10080<wi)))] f0 ?_;cases af:(decide (10080<wi))
  rotate_left
  ·have ax:=dt af;exact rt2 10 11 (vL none 0 0) (vI 1) rfl rfl f0 (hY _ _ ⟨_,_,[],rfl,.inl ⟨.inr (dt af),rfl,rfl⟩,(hM.pick (M':=[]) []).row⟩)
  have ax:=df af;refine aAp 3 4 32 [(28,.agg #[vL p0 os.length cp0]),(29,vS prof),(30,vI m0),(31,vS f)] (cs:=#[vS f]) (T:=9) (v:=fun b=>vL (some ⟨b,0,none⟩) 1 1) (fc (lam 24 0 0 1 hM rfl) f0) hM fun ad w1 hM=>aAq 3 5 33 [] f0 hM (aFs (hmv.fr hM.fr) hp63 m0 (ids:=[f]) (aMe (f:=stL) (x:=f) (hM.get 1 rfl))) fun w1 hM=>seg 4 2 [(12,vI (aF0 os prof m0 [f])),(35,vB (!((aF0 os prof m0 [f])==0)))] f0 ?_;cases ai:((aF0 os prof m0 [f])==0)
  ·exact rt2 10 11 (vL none 0 0) (vI (aF0 os prof m0 [f])) rfl rfl f0 (hY _ _ ⟨_,_,[],rfl,.inr (.inl ⟨(fun h=>h.elim (df ae) (df af)),ef ai,rfl,rfl⟩),(hM.pick (M':=[]) []).row⟩)
  have hchk:=et ai;obtain ⟨hvm,-,h0,h1,hany,hno⟩:=aQq hchk;have hnn:(AS os).length<=240:=Gp_ (aGU _) (hlen hvm);have hNo:=aGs (prof:=prof) (fun a ha=>aFv (fun b hb=>(hmv.2 b hb).bnd) a (aCP ha):∀ a∈AS os,ArcB a) f
  skip
  refine aAM 6 2 39 [(37,.agg #[vL p0 os.length cp0]),(38,vS prof)] (K:=fun u Mn=>∃ bs ca bo br bb no nr nb qa T T2,u=vP bs 0 /\ (∀ s,aE6 T s=aC9 (AS os) s) /\ T2.map (·.1)=aBQ os /\ Mn=stM bs ca bo br bb no nr nb qa prof os T T2) [0,1] [] (fc (lam 24 0 0 1 hM rfl) f0) hM rfl rfl (by decide) (fun hm=>((aFV (hmv.fr hM.fr) hvm (by have:=hlen hvm;omega) (hTe.fr hM.fr)).mono fun e w8 ⟨bs,ca,bo,br,bb,no,nr,nb,qa,T,T2,h1,_,h2,h3,h4⟩=>⟨_,_,h1,⟨bs,ca,bo,br,bb,no,nr,nb,qa,T,T2,rfl,h2,h3,rfl⟩,aCy h4 fun _ h=>h.elim⟩)) fun u Mn w1 hK hM=>?_;obtain ⟨bs,ca,bo,br,bb,no,nr,nb,qa,T,T2,rfl,hTr,hT2,rfl⟩:=hK;have hM:=aTr (A:=[bk ab #[vL p0 os.length cp0] 24,bk ad #[vS f] 9,bk bs #[vS prof,vL qa (AS os).length ca,.map (some bo),.map (some br),.map (some bb)] 80,rw_ arL 4 47 (vL qa (AS os).length ca) (AS os)]) (Ms:=stR bo br bb no nr nb prof os T T2) hM;refine aHF 7 0 40 [(13,vP bs 0)] 9 f0 hM fun aa w1 hM=>ins 7 2 [(41,vS f)] 88 5 (vS f) (vI 0) f0 hM rfl aD5 u88_ (aD6 hf63) fun w1 hM=>aCl 7 5 14 [(43,.agg #[.map (some aa)])] [] 90 (.agg #[.map (some aa)]) f0 hM fun ac w1 hM=>?_;rw [aRg] at hM;refine aAM 8 3 47 [(44,vP bs 0),(45,vS f),(46,vI m0)] (K:=fun u Mn=>∃ b n t,u = .agg #[.map (some b)] /\ Tab (aAj prof os f) m0 t /\ Mn=[tbE b n t]) [0,1,2,3,4,5,6] [] f0 hM rfl rfl (by decide) (fun hm=>((aE1 (aOJ hM (i:=2) (j:=3) (k:=4) rfl rfl rfl hmv hM.fr hT2) hT2 hTr hnn hf63 h0 (by omega)).mono fun e w8 ⟨b,n,t,h1,h2,h3⟩=>⟨_,_,h1,⟨b,n,t,rfl,h2,rfl⟩,aCy h3 fun _ h=>h.elim⟩)) fun u Mn w1 hK hM=>?_;obtain ⟨b,n,t,rfl,hT,rfl⟩:=hK;have htb:∀ k m,t k=some m->0<=m /\ m<=6000000000:=fun k m e=>⟨by have:=(hT.snd k m e).ge hNo h0;omega,(hT.snd k m e).le hNo h0⟩;refine rgm 8 5 49 [(48,.map (some b))] 71 7 (by decide) f0 hM rfl u71_ fun aj c341 w1 hM=>seg 9 0 [] f0 ?_
  have ay:∀ (ao:Nat) (left:Value->Prop) (cnt:Nat) (u:Bys->Option Int) (nu:Nat) (w2:World),FirstOk (AS os) t f m0 wi (fun k=>¬ left (vI (k:Int))) u->Mm nF_ w w2 [bk ab #[vL p0 os.length cp0] 24,bk ad #[vS f] 9,bk bs #[vS prof,vL qa (AS os).length ca,.map (some bo),.map (some br),.map (some bb)] 80,rw_ arL 4 47 (vL qa (AS os).length ca) (AS os),aSe (stR bo br bb no nr nb prof os T T2),mp Tryz.prog 9 aa nu (aMc u),bk ac #[.map (some aa)] 90,aSN Tryz.prog 3 b aj n (aGe t) left cnt]->ao=cnt->A14 Y (some (9,0)) [(49,vP aj 0),(14,vP ac 0),(13,vP bs 0),(5,vP ab 0),(3,vI wi),(4,vI m0)] w2:=by
   refine aA8 fun ao ap left cnt u nu w2 hF hM aq=>nxm 9 0 50 [] 7 (by decide) f0 hM rfl (fun hno=>?_) (fun key345 val345 cnt345 w1 hleft345 hval345 hkey345 hcnt345 hM hent=>?_)
   · skip
     have hF:=(⟨hF.own,hF.snd,fun k m a _ h2 h3 h4=>hF.cmp k m a (hno _) h2 h3 h4⟩:FirstOk (AS os) t f m0 wi (fun _=>True) u);have hM:=hM.unrng (j:=7) rfl;have hM:=hM.row (f:=rwL) (c:=2) (E:=56);refine seg 15 0 [(17,vL none 0 0),(74,vL p0 os.length cp0),(75,vI (os.length:Int)),(76,vI 0)] (fc (ldm 22 0 0 hM rfl rfl) f0) ?_
     have az:∀ (ar:Nat) (i:Nat) (vo:Value) (w2:World),i<=os.length->Mm nF_ w w2 [bk ab #[vL p0 os.length cp0] 24,bk ad #[vS f] 9,bk bs #[vS prof,vL qa (AS os).length ca,.map (some bo),.map (some br),.map (some bb)] 80,rw_ arL 4 47 (vL qa (AS os).length ca) (AS os),aSe (stR bo br bb no nr nb prof os T T2),mp Tryz.prog 9 aa nu (aMc u),bk ac #[.map (some aa)] 90,mp Tryz.prog 3 b n (aGe t),rw_ rwL 2 56 vo (aCC (os.take i) u)]->ar=os.length-i->A14 Y (some (15,0)) [(76,vI (i:Int)),(75,vI (os.length:Int)),(74,vL p0 os.length cp0),(17,vo),(14,vP ac 0)] w2:=by
      refine aA8 fun ar ak i vo w2 hi hM a6=>seg 15 1 [(77,vB (decide ((i:Int)<(os.length:Int))))] f0 ?_;cases au:(decide ((i:Int)<(os.length:Int)))
      ·have a0:=df au;exact rt2 10 11 vo (vI 0) rfl rfl f0 (hY _ _ ⟨_,_,_,rfl,.inr (.inr ⟨(fun h=>h.elim (df ae) (df af)),et ai,rfl,t,u,hT,hF,rfl⟩),(show aCC (os.take i) u=aCC os u by rw [Gc_ (by omega)])▸hM.pick (M':=[rw_ rwL 2 56 vo (aCC (os.take i) u)]) [8]⟩)
      have a0:=dt au;obtain ⟨y,hy,a7,a8,a1,a2⟩:=sp0.el (i:=i) (by omega);refine aCl 16 2 19 [(79,.agg #[vS y.o.id,vI y.o.kind,vI y.o.x,vI y.o.y,vL y.pr y.o.refs.length y.cr,vL y.pt y.o.tags.length y.ct])] [] 64 (.agg #[vS y.o.id,vI y.o.kind,vI y.o.x,vI y.o.y,vL y.pr y.o.refs.length y.cr,vL y.pt y.o.tags.length y.ct]) (fc (ix 22 cp0 a1 (gl hy)) (fc (la0 64 hM a2) f0)) hM fun a9 w1 hM=>aAq 17 3 84 [(81,.agg #[.map (some aa)]),(83,vS y.o.id)] (fc (lam 90 6 0 1 hM rfl) (fc (ldm 9 9 0 hM rfl rfl) f0)) hM (aNm (hM.get 5 rfl) (hob _ (gm hy)).bnd.id) fun w1 hM=>seg 18 2 [(20,vI ((u y.o.id).getD 0)),(88,vB (u y.o.id).isSome)] f0 ?_
      cases al:(u y.o.id).isSome with
      | false =>
       refine seg 15 0 [(76,vI ((i:Int)+1))] (fc (aAe (i:Int) 1 u3_) f0) ?_;have hM:=hM.pick [0,1,2,3,4,5,6,7,8];replace hM:Mm nF_ w _ [bk ab #[vL p0 os.length cp0] 24,bk ad #[vS f] 9,bk bs #[vS prof,vL qa (AS os).length ca,.map (some bo),.map (some br),.map (some bb)] 80,_,_,_,bk ac #[.map (some aa)] 90,_,_]:=hM;obtain ⟨u1,hu1⟩:∃ z,z=vo:=⟨_,rfl⟩;rw [←hu1] at hM;have e1:(aCC (os.take i) u)=aCC (os.take (i+1)) u:=by rw [aF8 hy];simp only [al,Bool.and_true,Bool.true_and,Bool.false_and,Bool.and_false,cond_true,cond_false,List.append_nil]<;>rfl
       rw [e1,hu1] at hM;exact aAb _ (ak _ (by have:=gl hy;omega) (i+1) vo _ (gl hy) hM rfl)
      | true =>
       refine seg 18 6 [(92,vB (y.o.kind==1))] (fc (ldm 3 9 1 hM rfl rfl) f0) ?_;cases ag:(y.o.kind==1)
       ·have a3:=ef ag;refine seg 15 0 [(76,vI ((i:Int)+1))] (fc (aAe (i:Int) 1 u3_) f0) ?_;have hM:=hM.pick [0,1,2,3,4,5,6,7,8];replace hM:Mm nF_ w _ [bk ab #[vL p0 os.length cp0] 24,bk ad #[vS f] 9,bk bs #[vS prof,vL qa (AS os).length ca,.map (some bo),.map (some br),.map (some bb)] 80,_,_,_,bk ac #[.map (some aa)] 90,_,_]:=hM;obtain ⟨u1,hu1⟩:∃ z,z=vo:=⟨_,rfl⟩;rw [←hu1] at hM;have e1:(aCC (os.take i) u)=aCC (os.take (i+1)) u:=by rw [aF8 hy];simp only [al,ag,Bool.and_true,Bool.true_and,Bool.false_and,Bool.and_false,cond_true,cond_false,List.append_nil]<;>rfl
        rw [e1,hu1] at hM;exact aAb _ (ak _ (by have:=gl hy;omega) (i+1) vo _ (gl hy) hM rfl)
       have a3:=et ag;refine aAp 19 5 98 [(93,vo),(97,.agg #[vS y.o.id,vI ((u y.o.id).getD 0)])] (cs:=#[vS y.o.id,vI ((u y.o.id).getD 0)]) (T:=56) (v:=fun b=>vL (some ⟨b,0,none⟩) 1 1) (fc (ldm 9 9 0 hM rfl rfl) f0) hM fun ba w1 hM=>aH5 19 6 99 [] (cap:=1) (by decide) rwT f0 hM (j:=8) rfl (aAG (f:=rwL) (x:=(y.o.id,((u y.o.id).getD 0))) (hM.get 10 rfl) (Gq_ _)) (fun h=>by cases h) (by have:=aPb (os.take i) u;simp only [Gt_,Gf_,Go_] at this ⊢;omega) fun bc w1 hM=>?_;obtain ⟨am,an,a4,-⟩:=(hM.src (j:=8) rfl rwT.len).op;subst a4;refine seg 15 0 [(17,vL am ((aCC (os.take i) u)++[(y.o.id,((u y.o.id).getD 0))]).length an),(76,vI ((i:Int)+1))] (fc (aAe (i:Int) 1 u3_) f0) ?_;have hM:=hM.pick [0,1,2,3,4,5,6,7,8];replace hM:Mm nF_ w _ [bk ab #[vL p0 os.length cp0] 24,bk ad #[vS f] 9,bk bs #[vS prof,vL qa (AS os).length ca,.map (some bo),.map (some br),.map (some bb)] 80,_,_,_,bk ac #[.map (some aa)] 90,_,_]:=hM;obtain ⟨u1,hu1⟩:∃ z,z=vL am ((aCC (os.take i) u)++[(y.o.id,((u y.o.id).getD 0))]).length an:=⟨_,rfl⟩;rw [←hu1] at hM;have e1:((aCC (os.take i) u)++[(y.o.id,((u y.o.id).getD 0))])=aCC (os.take (i+1)) u:=by rw [aF8 hy];simp only [al,ag,Bool.and_true,Bool.true_and,Bool.false_and,Bool.and_false,cond_true,cond_false,List.append_nil]<;>rfl
       rw [e1,hu1] at hM;exact aAb _ (ak _ (by have:=gl hy;omega) (i+1) (vL am ((aCC (os.take i) u)++[(y.o.id,((u y.o.id).getD 0))]).length an) _ (gl hy) hM rfl)
     exact aAb _ (az _ 0 (vL none 0 0) _ (Gg_ _) hM rfl)
   · skip
     obtain ⟨k,m,ek,hkm,ev⟩:=aRf hval345;subst ek;subst ev;obtain ⟨hkl,hm1⟩:k<(AS os).length /\ 0<=m /\ m<=6000000000:=⟨(hT.snd k m hkm).lt,htb k m hkm⟩;have hmg:=(hT.snd k m hkm).ge hNo h0;obtain ⟨a,ha⟩:=geb (l:=AS os) (i:=k) hkl;refine aYf 10 0 52 [] (by decide) f0 (aRK hent) (seg 11 5 [(15,vI (k:Int)),(16,vI m),(59,vB (decide ((m-m0)<=wi)))] (fc (aBx m m0 u3_) f0) ?_);cases ah:(decide ((m-m0)<=wi))
     ·have a5:=df ah;refine seg 9 0 [] f0 (aAb _ (ap _ (by rw [aq];exact hcnt345) (fun x=>left x /\ x≠(vI (k:Int))) cnt345 u nu _ (hF.skip hkm (df ah) (fun j hj=>by by_cases e:j=k;exact .inr e;exact .inl fun hl=>hj ⟨hl,fun e2=>e (by injection e2 with _ e3;exact Int.ofNat.inj e3)⟩)) hM rfl))
     have a5:=dt ah;refine seg 12 0 [] f0 ?_;obtain ⟨bd,av,-⟩:=hM.el arT (j:=3) rfl ha;refine drx [12] (fun Z=>[some (vB (aG2 (u a.2.1) (m-m0)))]) _ (fun Z l=>[bk ab #[vL p0 os.length cp0] 24,bk ad #[vS f] 9,bk bs #[vS prof,vL qa (AS os).length ca,.map (some bo),.map (some br),.map (some bb)] 80,rw_ arL 4 47 (vL qa (AS os).length ca) (AS os),aSe (stR bo br bb no nr nb prof os T T2),(bif l.getD 0 false then mp Tryz.prog 9 aa (nu+1) (aMc (bif aG2 (u a.2.1) (m-m0) then aHY u a.2.1 (m-m0) else u)) else mp Tryz.prog 9 aa nu (aMc u)),bk ac #[.map (some aa)] 90,aSN Tryz.prog 3 b aj n (aGe t) (fun x=>left x /\ x≠(vI (k:Int))) cnt345]) (fun Z=>[]) hM (fun Z=>rfl) (fun Z l w5 hM=>(fc (lam 90 6 0 1 hM rfl) (fc (ldm 75 2 1 hM rfl rfl) (fc (ix 75 ca av (gl ha)) (fc (ldr 9 3 1 arT hM rfl av ha rfl) (fc (aBx m m0 u3_) f0)))))) ⟨aTq 0 12 5 72 (f:=39) (fun Z=>#[.agg #[.map (some aa)],vS a.2.1,vI (m-m0),.func (.func 40) #[] #[]]) (vB (aG2 (u a.2.1) (m-m0))) (mp Tryz.prog 9 aa nu (aMc u)) (mp Tryz.prog 9 aa (nu+1) (aMc (bif aG2 (u a.2.1) (m-m0) then aHY u a.2.1 (m-m0) else u))) (fun Z wm hH hf=>aI4 hH (aFv (fun b hb=>(hmv.2 b hb).bnd) a (aCP (gm ha))).f2 (m-m0)),trivial⟩ fun be w1 hM=>?_;replace hM:Mm nF_ w w1 [bk ab #[vL p0 os.length cp0] 24,bk ad #[vS f] 9,bk bs #[vS prof,vL qa (AS os).length ca,.map (some bo),.map (some br),.map (some bb)] 80,_,_,_,bk ac #[.map (some aa)] 90,_]:=hM;refine seg 9 0 [] f0 (aAb _ (ap _ (by rw [aq];exact hcnt345) (fun x=>left x /\ x≠(vI (k:Int))) cnt345 (bif aG2 (u a.2.1) (m-m0) then aHY u a.2.1 (m-m0) else u) (nu+1) _ (hF.step hkm ha (by omega) (dt ah) (fun j hj=>by by_cases e:j=k;exact .inr e;exact .inl fun hl=>hj ⟨hl,fun e2=>e (by injection e2 with _ e3;exact Int.ofNat.inj e3)⟩)) hM rfl))
  exact aAb _ (ay _ (fun k=>((aGe t) k).isSome=true) c341 (aHY (fun _=>none) f 0) (0+1) _ (FirstOk.zero fun k m hk h9=>h9 (by show ((aGe t) (vI (k:Int))).isSome=true;rw [aKS,hk];rfl)) hM rfl)
def aQn (l:List ObR):Int:=(l.map fun b=>bif b.o.kind==2 then (b.o.refs.length:Int) else 0).sum
theorem aKy {l:List ObR}{i:Nat}{y:ObR}(h:l[i]?=some y):aQn (l.take (i+1))=aQn (l.take i)+bif y.o.kind==2 then (y.o.refs.length:Int) else 0:=by
  rw [gt_ h];unfold aQn;simp
def aJf (l:List ObR) (m:Nat):Bool:=decide ((l.length:Int)<=(m:Int))&&decide (aQn (l.take (m+1))<=40)
def aL7 (l:List ObR):Bool:=aFL (aAa l) 24&&aJf l 24
theorem aIk {l:List ObR}{n:Int}(h:aFL (aAa l) n=true):∀ b∈l,b.o.refs.length<=12:=by
  intro b hb;unfold aFL at h;rw [Ga_] at h;have:=List.all_eq_true.1 h.2 b.o (List.mem_map.2 ⟨b,hb,rfl⟩);unfold aKD at this;simp only [Ga_,decide_eq_true_eq] at this;exact this.1.1.1.1
abbrev A27 (Z:Ending->World->Prop):=AtO Tryz.prog (aAf Tryz.f27) (aAo (bodyPost Tryz.prog Tryz.f27 Z)) [] 44
theorem aL8 {w:World}{v:Value}{os:List ObR}(hm:aCq w v os) {m:Nat}(hm9:m<=1000000) (hr:∀ b∈os,b.o.refs.length<=12):Calls Tryz.prog 27 #[.agg #[v],vI (m:Int)] w fun e w'=>e = .returned (vB (aJf os m)) /\ Fr nF_ w w':=by
  have hm0:=hm;obtain ⟨hs0,hob⟩:=hm0;obtain ⟨p0,cp0,hp0,sp0⟩:=hs0.op;subst hp0;refine beg Tryz.func27 rfl rfl [(0,.agg #[vL p0 os.length cp0]),(1,vI (m:Int))] rfl rfl fun Z hZ=>?_;have hM:=Mm.nil nF_ w;have hmm:(m:Int)<=1000000:=by omega
  refine aAp 0 0 2 [] (cs:=#[vL p0 os.length cp0]) (T:=24) (v:=fun b=>vP b 0) f0 hM fun ad w1 hM=>seg 3 0 [(5,vI 0),(6,vI 0)] f0 ?_
  have ak:∀ (ae:Nat) (i:Nat) (n:Int) (w2:World),i<=os.length->i<=m+1->n=aQn (os.take i)->0<=n /\ n<=12*(i:Int)->Mm nF_ w w2 [bk ad #[vL p0 os.length cp0] 24]->ae=os.length-i->A27 Z (some (3,0)) [(6,vI (i:Int)),(5,vI n),(2,vP ad 0),(1,vI (m:Int))] w2:=by
   refine aA8 fun ae af i n w2 hi hi2 hn hn2 hM aq=>?_;have hm0:(m:Int)<=1000000:=hmm;refine seg 3 6 [(12,vB (decide ((i:Int)<(os.length:Int))))] (fc (ldm 22 0 0 hM rfl rfl) f0) ?_;cases ag:(decide ((i:Int)<(os.length:Int)))
   ·have al:=df ag;refine seg 7 6 [(40,vB (decide ((os.length:Int)<=(m:Int))))] (fc (ldm 22 0 0 hM rfl rfl) f0) ?_;cases aa:(decide ((os.length:Int)<=(m:Int)))
    ·have am:=df aa
     have e9:n=aQn (os.take (m+1)):=by
       rw [hn];congr 1;rcases Nat.lt_or_ge m i with h | h
       · rw [show i=m+1 by omega]
       · rw [Gc_ (by omega),Gc_ (by omega)]
     exact rt1 4 (vB false) rfl f0 (hZ _ _ ⟨by unfold aJf;rw [←e9];simp only [aa]<;>rfl,hM.fr⟩)
    have am:=dt aa
    have e9:n=aQn (os.take (m+1)):=by
      rw [hn];congr 1;rcases Nat.lt_or_ge m i with h | h
      · rw [show i=m+1 by omega]
      · rw [Gc_ (by omega),Gc_ (by omega)]
    exact rt1 4 (vB (decide (n<=40))) rfl f0 (hZ _ _ ⟨by unfold aJf;rw [←e9];simp only [aa]<;>rfl,hM.fr⟩)
   have al:=dt ag;refine seg 3 10 [(16,vB (decide ((i:Int)<=(m:Int))))] f0 ?_;cases ah:(decide ((i:Int)<=(m:Int)))
   rotate_left
   ·have an:=dt ah;obtain ⟨y,hy,ar,au,ai,aj⟩:=sp0.el (i:=i) (by omega);refine seg 5 7 [(25,vB (y.o.kind==2))] (fc (ldm 22 0 0 hM rfl rfl) (fc (ix 22 cp0 ai (gl hy)) (fc (ld0 3 hM (aj 1 _ rfl)) f0))) ?_;cases ab:(y.o.kind==2)
    ·have ao:=ef ab;refine seg 3 0 [(6,vI ((i:Int)+1))] (fc (aAe (i:Int) 1 u3_) f0) (aAb _ (af _ (by have:=gl hy;omega) (i+1) n _ (gl hy) (by omega) (by rw [aKy hy,ab,hn];simp only [cond_true,cond_false,Int.add_zero]) (by have:=hr y (gm hy);omega) hM rfl))
    have ao:=et ab;have hry:=hr y (gm hy);refine seg 3 0 [(5,vI (n+(y.o.refs.length:Int))),(6,vI ((i:Int)+1))] (fc (ldm 22 0 0 hM rfl rfl) (fc (ix 22 cp0 ai (gl hy)) (fc (ld0 28 hM (aj 4 _ rfl)) (fc (aAe n (y.o.refs.length:Int) u3_) (fc (aAe (i:Int) 1 u3_) f0))))) (aAb _ (af _ (by have:=gl hy;omega) (i+1) (n+(y.o.refs.length:Int)) _ (gl hy) (by omega) (by rw [aKy hy,ab,hn];simp only [cond_true,cond_false,Int.add_zero]) (by have:=hr y (gm hy);omega) hM rfl))
   have an:=df ah;refine seg 7 6 [(40,vB (decide ((os.length:Int)<=(m:Int))))] (fc (ldm 22 0 0 hM rfl rfl) f0) ?_;cases ac:(decide ((os.length:Int)<=(m:Int)))
   ·have ap:=df ac
    have e9:n=aQn (os.take (m+1)):=by
      rw [hn];congr 1;rcases Nat.lt_or_ge m i with h | h
      · rw [show i=m+1 by omega]
      · rw [Gc_ (by omega),Gc_ (by omega)]
    exact rt1 4 (vB false) rfl f0 (hZ _ _ ⟨by unfold aJf;rw [←e9];simp only [ac]<;>rfl,hM.fr⟩)
   have ap:=dt ac
   have e9:n=aQn (os.take (m+1)):=by
     rw [hn];congr 1;rcases Nat.lt_or_ge m i with h | h
     · rw [show i=m+1 by omega]
     · rw [Gc_ (by omega),Gc_ (by omega)]
   exact rt1 4 (vB (decide (n<=40))) rfl f0 (hZ _ _ ⟨by unfold aJf;rw [←e9];simp only [ac]<;>rfl,hM.fr⟩)
  exact aAb _ (ak _ 0 0 _ (Gg_ _) (Gg_ _) rfl (by omega) hM rfl)
theorem aQb {w:World}{v:Value}{os:List ObR}(hm:aCq w v os):Calls Tryz.prog 10 #[.agg #[v]] w fun e w'=>e = .returned (vB (aL7 os)) /\ Fr nF_ w w':=by
  have hm0:=hm;obtain ⟨hs0,hob⟩:=hm0;obtain ⟨p0,cp0,hp0,sp0⟩:=hs0.op;subst hp0;refine beg Tryz.func10 rfl rfl [(0,.agg #[vL p0 os.length cp0])] rfl rfl fun Z hZ=>?_;have hM:=Mm.nil nF_ w;refine aAp 0 0 1 [] (cs:=#[vL p0 os.length cp0]) (T:=24) (v:=fun b=>vP b 0) f0 hM fun ab w1 hM=>aAq 1 1 4 [(3,.agg #[vL p0 os.length cp0])] (fc (lam 24 0 0 1 hM rfl) f0) hM (aL9 (hm.fr hM.fr) 24) fun w1 hM=>seg 1 3 [(5,vB (aFL (aAa os) 24))] f0 ?_;cases aa:(aFL (aAa os) 24)
  ·exact rt1 2 (vB false) rfl f0 (hZ _ _ ⟨by unfold aL7;simp only [aa]<;>rfl,hM.fr⟩)
  refine aAq 1 4 7 [(6,.agg #[vL p0 os.length cp0])] (fc (lam 24 0 0 1 hM rfl) f0) hM (aL8 (m:=24) (hm.fr hM.fr) (by decide) (aIk aa)) fun w1 hM=>rt1 2 (vB (aJf os 24)) rfl f0 (hZ _ _ ⟨by unfold aL7;simp only [aa]<;>rfl,hM.fr⟩)
theorem aIz {α:Type}[BEq α] [LawfulBEq α] {A B:List α}{i:Nat}(h:A.take i=B.take i) (hA:A.length<=i) (hB:B.length<=i):(A==B)=true:=by
  rw [Gc_ hA,Gc_ hB] at h;simpa using h
theorem aDB {α:Type}{A B:List α}{i:Nat}{x y:α}(h:A.take i=B.take i) (hx:A[i]?=some x) (hy:B[i]?=some y) (e:x=y):A.take (i+1)=B.take (i+1):=by
  rw [gt_ hx,gt_ hy,h,e]
theorem aQz {α:Type}[BEq α] [LawfulBEq α] {A B:List α}{i:Nat}{x y:α}(hx:A[i]?=some x) (hy:B[i]?=some y) (e:x≠y):(A==B)=false:=by
  cases h:A==B with
  | false=>rfl
  | true=>rw [et h] at hx;rw [hx] at hy;exact absurd (Gh_ hy) e
theorem aLJ {α:Type}[BEq α] [LawfulBEq α] {A B:List α}(h:¬ (A.length:Int)=(B.length:Int)):(A==B)=false:=by
  cases e:A==B with
  | false=>rfl
  | true=>rw [et e] at h;exact absurd rfl h
def aJO (a1:List Bys) (a2:List Int) (b1:List Bys) (b2:List Int):Bool:=(a1==b1)&&(a2==b2)
abbrev A16 (Z:Ending->World->Prop):=AtO Tryz.prog (aAf Tryz.f16) (aAo (bodyPost Tryz.prog Tryz.f16 Z)) [] 59
theorem aNn {w:World}{p1 p2 p3 p4:Option Addr}{c1 c2 c3 c4:Nat}{A1 B1:List Bys}{A2 B2:List Int}(h1:SrcP stL 1 w p1 c1 A1) (h2:SrcP inL 1 w p2 c2 A2) (h3:SrcP stL 1 w p3 c3 B1) (h4:SrcP inL 1 w p4 c4 B2):Calls Tryz.prog 16 #[.agg #[vL p1 A1.length c1,vL p2 A2.length c2],.agg #[vL p3 B1.length c3,vL p4 B2.length c4]] w fun e w'=>e = .returned (vB (aJO A1 A2 B1 B2)) /\ Fr nF_ w w':=by
  have q1:=h1.bnd;have q2:=h2.bnd;have q3:=h3.bnd;have q4:=h4.bnd;refine beg Tryz.func16 rfl rfl [(0,.agg #[vL p1 A1.length c1,vL p2 A2.length c2]),(1,.agg #[vL p3 B1.length c3,vL p4 B2.length c4])] rfl rfl fun Z hZ=>?_;have hM:=Mm.nil nF_ w;refine aAp 0 0 2 [] (cs:=#[vL p1 A1.length c1,vL p2 A2.length c2]) (T:=31) (v:=fun b=>vP b 0) f0 hM fun aa w1 hM=>aAp 0 1 3 [] (cs:=#[vL p3 B1.length c3,vL p4 B2.length c4]) (T:=31) (v:=fun b=>vP b 0) f0 hM fun ab w1 hM=>seg 1 8 [(14,vB (!((A1.length:Int)==(B1.length:Int))))] (fc (ldm 28 0 0 hM rfl rfl) (fc (ldm 28 1 0 hM rfl rfl) f0)) ?_;cases ac:((A1.length:Int)==(B1.length:Int))
  ·have ak:=ef ac;exact rt1 4 (vB false) rfl f0 (hZ _ _ ⟨by unfold aJO;rw [aLJ (ef ac)];rfl,hM.fr⟩)
  have ak:=et ac;refine seg 1 16 [(22,vB (!((A2.length:Int)==(B2.length:Int))))] (fc (ldm 29 0 1 hM rfl rfl) (fc (ldm 29 1 1 hM rfl rfl) f0)) ?_;cases ad:((A2.length:Int)==(B2.length:Int))
  ·have al:=ef ad;exact rt1 4 (vB false) rfl f0 (hZ _ _ ⟨by unfold aJO;rw [aLJ (ef ad),Bool.and_false],hM.fr⟩)
  have al:=et ad;refine seg 4 0 [(5,vI 0)] f0 ?_
  have am:∀ (ae:Nat) (i:Nat) (w2:World),i<=A1.length->A1.take i=B1.take i->Mm nF_ w w2 [bk aa #[vL p1 A1.length c1,vL p2 A2.length c2] 31,bk ab #[vL p3 B1.length c3,vL p4 B2.length c4] 31]->ae=A1.length-i->A16 Z (some (4,0)) [(5,vI (i:Int)),(3,vP ab 0),(2,vP aa 0)] w2:=by
   refine aA8 fun ae an i w2 hi he hM a2=>seg 4 5 [(27,vB (decide ((i:Int)<(A1.length:Int))))] (fc (ldm 28 0 0 hM rfl rfl) f0) ?_;cases af:(decide ((i:Int)<(A1.length:Int)))
   rotate_left
   ·have ao:=dt af;refine seg 6 0 [] f0 ?_;have hM:=hM.q ((Fr.refl _ _).drew);obtain ⟨x1,hx1,a3,a4,ap,aq⟩:=h1.el (i:=i) (by omega);obtain ⟨y1,hy1,a5,a6,ar,au⟩:=h3.el (i:=i) (by omega);refine drq [(40,vB (!(x1==y1)))] rfl (fc (ldm 28 0 0 hM rfl rfl) (fc (ix 28 c1 ap (gl hx1)) (fc (ld0 9 hM (aq 0 _ rfl)) (fc (ldm 28 1 0 hM rfl rfl) (fc (ix 28 c3 ar (gl hy1)) (fc (ld0 9 hM (au 0 _ rfl)) (fc (sne 9 x1 y1) f0))))))) ?_;cases ag:(x1==y1)
    ·exact rt1 4 (vB false) rfl f0 (hZ _ _ ⟨by unfold aJO;rw [aQz hx1 hy1 (ef ag)];rfl,hM.fr⟩)
    refine seg 4 0 [(5,vI ((i:Int)+1))] (fc (aAe (i:Int) 1 u3_) f0) (aAb _ (an _ (by have:=gl hx1;omega) (i+1) _ (gl hx1) (aDB he hx1 hy1 (et ag)) hM rfl))
   have ao:=df af;refine seg 9 0 [(6,vI 0)] f0 ?_
   have av:∀ (ah:Nat) (j:Nat) (w2:World),j<=A2.length->A2.take j=B2.take j->Mm nF_ w w2 [bk aa #[vL p1 A1.length c1,vL p2 A2.length c2] 31,bk ab #[vL p3 B1.length c3,vL p4 B2.length c4] 31]->ah=A2.length-j->A16 Z (some (9,0)) [(6,vI (j:Int)),(3,vP ab 0),(2,vP aa 0)] w2:=by
    refine aA8 fun ah aw j w2 hj he2 hM a7=>seg 9 5 [(45,vB (decide ((j:Int)<(A2.length:Int))))] (fc (ldm 29 0 1 hM rfl rfl) f0) ?_;cases ai:(decide ((j:Int)<(A2.length:Int)))
    ·have ax:=df ai;exact rt1 4 (vB true) rfl f0 (hZ _ _ ⟨by unfold aJO;rw [aIz he (by omega) (by omega),aIz he2 (by omega) (by omega)];rfl,hM.fr⟩)
    have ax:=dt ai;refine seg 11 0 [] f0 ?_;have hM:=hM.q ((Fr.refl _ _).drew);obtain ⟨x2,hx2,a8,a9,ay,az⟩:=h2.el (i:=j) (by omega);obtain ⟨y2,hy2,ba,bb,a0,a1⟩:=h4.el (i:=j) (by omega);refine drq [(58,vB (!(x2==y2)))] rfl (fc (ldm 29 0 1 hM rfl rfl) (fc (ix 29 c2 ay (gl hx2)) (fc (ld0 3 hM (az 0 _ rfl)) (fc (ldm 29 1 1 hM rfl rfl) (fc (ix 29 c4 a0 (gl hy2)) (fc (ld0 3 hM (a1 0 _ rfl)) f0)))))) ?_;cases aj:(x2==y2)
    ·exact rt1 4 (vB false) rfl f0 (hZ _ _ ⟨by unfold aJO;rw [aQz hx2 hy2 (ef aj),Bool.and_false],hM.fr⟩)
    refine seg 9 0 [(6,vI ((j:Int)+1))] (fc (aAe (j:Int) 1 u3_) f0) (aAb _ (aw _ (by have:=gl hx2;omega) (j+1) _ (gl hx2) (aDB he2 hx2 hy2 (et aj)) hM rfl))
   exact aAb _ (av _ 0 _ (Gg_ _) rfl hM rfl)
  exact aAb _ (am _ 0 _ (Gg_ _) rfl hM rfl)
theorem aWO {w:World}(a b:Bys×Int):Ft.ok Tryz.prog w (.g2 (fun x y => .binOp .neq 56 x y 56) (.agg #[vS a.1,vI a.2]) (.agg #[vS b.1,vI b.2]) (vB (!(a==b)))):=fun o ρ x y ho hx hy=>by
  have e:(a==b)=((a.1==b.1)&&(a.2==b.2)):=rfl
  by_cases q1:a.1=b.1<;>by_cases q2:a.2=b.2<;>simp [execOp,ho,hx,hy,go_sem,Tryz.underlying56,u9_,u3_,e,aA5,q1,q2]
abbrev A17 (Z:Ending->World->Prop):=AtO Tryz.prog (aAf Tryz.f17) (aAo (bodyPost Tryz.prog Tryz.f17 Z)) [] 26
theorem aNw {w:World}{p1 p2:Option Addr}{c1 c2:Nat}{A B:List (Bys×Int)}(h1:SrcP rwL 2 w p1 c1 A) (h2:SrcP rwL 2 w p2 c2 B):Calls Tryz.prog 17 #[vL p1 A.length c1,vL p2 B.length c2] w fun e w'=>e = .returned (vB (A==B)) /\ Fr nF_ w w':=by
  have q1:=h1.bnd;have q2:=h2.bnd;refine beg Tryz.func17 rfl rfl [(0,vL p1 A.length c1),(1,vL p2 B.length c2)] rfl rfl fun Z hZ=>?_;have hM:=Mm.nil nF_ w;refine seg 1 5 [(10,vB (!((A.length:Int)==(B.length:Int))))] f0 ?_;cases aa:((A.length:Int)==(B.length:Int))
  ·have ae:=ef aa;exact rt1 4 (vB false) rfl f0 (hZ _ _ ⟨by rw [aLJ (ef aa)],hM.fr⟩)
  have ae:=et aa;refine seg 4 0 [(5,vI 0)] f0 ?_
  have af:∀ (ab:Nat) (i:Nat) (w2:World),i<=A.length->A.take i=B.take i->Mm nF_ w w2 []->ab=A.length-i->A17 Z (some (4,0)) [(5,vI (i:Int)),(0,vL p1 A.length c1),(1,vL p2 B.length c2)] w2:=by
   refine aA8 fun ab ag i w2 hi he hM am=>seg 4 4 [(14,vB (decide ((i:Int)<(A.length:Int))))] f0 ?_;cases ac:(decide ((i:Int)<(A.length:Int)))
   ·have ah:=df ac;exact rt1 4 (vB true) rfl f0 (hZ _ _ ⟨by rw [aIz he (by omega) (by omega)],hM.fr⟩)
   have ah:=dt ac;refine seg 6 0 [] f0 ?_;have hM:=hM.q ((Fr.refl _ _).drew);obtain ⟨x1,hx1,an,ao,ai,aj⟩:=h1.el (i:=i) (by omega);obtain ⟨y1,hy1,ap,aq,ak,al⟩:=h2.el (i:=i) (by omega);refine drq [(25,vB (!(x1==y1)))] rfl (fc (ix 35 c1 ai (gl hx1)) (fc (la0 56 hM aj) (fc (ix 35 c2 ak (gl hy1)) (fc (la0 56 hM al) (fc (aWO x1 y1) f0))))) ?_;cases ad:(x1==y1)
   ·exact rt1 4 (vB false) rfl f0 (hZ _ _ ⟨by rw [aQz hx1 hy1 (ef ad)],hM.fr⟩)
   refine seg 4 0 [(5,vI ((i:Int)+1))] (fc (aAe (i:Int) 1 u3_) f0) (aAb _ (ag _ (by have:=gl hx1;omega) (i+1) _ (gl hx1) (aDB he hx1 hy1 (et ad)) hM rfl))
  exact aAb _ (af _ 0 _ (Gg_ _) rfl hM rfl)
theorem obT:ElT Tryz.prog obL 6 22 64:=⟨fun _=>rfl,by decide,fun x u hu=>by
 unfold obL at hu;simp only [Gj_,List.not_mem_nil,or_false] at hu;rcases hu with rfl | rfl | rfl | rfl | rfl | rfl<;>rfl,Tryz.underlying22,aBO (by kernel_rfl)⟩
def exO (l:List Ob):List Ob:=([⟨[97],1,0,0,[],[]⟩,⟨[98],1,300,0,[],[]⟩,⟨[99],1,300,400,[],[]⟩]++l)++[⟨[118],2,0,0,[[97],[98]],[([115,112,101,101,100],[49,48,48])]⟩,⟨[119],2,0,0,[[98],[99]],[([104,111,117,114,115],[109,111,32,49,58,48,48,45,50,58,48,48])]⟩]
theorem aXi:ObB ⟨[118],2,0,0,[[97],[98]],[([115,112,101,101,100],[49,48,48])]⟩:=⟨by unfold B63;decide,by unfold B63;decide,by unfold B63;decide⟩
theorem aXh:ObB ⟨[119],2,0,0,[[98],[99]],[([104,111,117,114,115],[109,111,32,49,58,48,48,45,50,58,48,48])]⟩:=⟨by unfold B63;decide,by unfold B63;decide,by unfold B63;decide⟩
theorem aIN (w:World) (id:Bys) (k x y:Int) (hid:B63 id):ObIn w (⟨⟨id,k,x,y,[],[]⟩,none,0,none,0⟩:ObR) :=
 ⟨⟨Gl_ _,Gg_ _,.inl rfl,fun _=>rfl⟩,⟨Gl_ _,Gg_ _,.inl rfl,fun _=>rfl⟩,hid,fun _ h=>(by cases h),fun _ h=>(by cases h)⟩
theorem aHo {w:World}(id:Bys) (x y:Int):Calls Tryz.prog 51 #[vS id,vI x,vI y] w fun e w'=>e = .returned (.agg #[vS id,vI 1,vI x,vI y,vL none 0 0,vL none 0 0]) /\ Fr nF_ w w':=by
 refine beg Tryz.func51 rfl rfl [(0,vS id),(1,vI x),(2,vI y)] rfl rfl fun Z hZ=>?_;have hM:=Mm.nil nF_ w;refine aAp 0 0 6 [] (cs:=#[vS [],vI 0,vI 0,vI 0,vL none 0 0,vL none 0 0]) (T:=64) (v:=fun b=>vP b 0) f0 hM fun aa w1 hM=>stm 1 5 [(11,.agg #[vS id,vI 1,vI x,vI y,vL none 0 0,vL none 0 0])] 64 0 0 (.agg #[vS id,vI 1,vI x,vI y,vL none 0 0,vL none 0 0]) f0 hM rfl fun w1 hM=>rtc 6 64 rfl (aAi 64 0 hM rfl rfl) f0 (hZ _ _ ⟨rfl,hM.fr⟩)
theorem aFX {w:World}(p1 p2:Option Addr) (n1 c1 n2 c2:Nat):Calls Tryz.prog 25 #[vL p1 n1 c1,vL p2 n2 c2] w fun e w'=>e = .returned (.agg #[vL p1 n1 c1,vL p2 n2 c2]) /\ Fr nF_ w w':=by
 refine beg Tryz.func25 rfl rfl [(0,vL p1 n1 c1),(1,vL p2 n2 c2)] rfl rfl fun Z hZ=>?_;have hM:=Mm.nil nF_ w;refine aAp 0 0 4 [] (cs:=#[vL none 0 0,vL none 0 0]) (T:=31) (v:=fun b=>vP b 0) f0 hM fun aa w1 hM=>stm 1 3 [(7,.agg #[vL p1 n1 c1,vL p2 n2 c2])] 31 0 0 (.agg #[vL p1 n1 c1,vL p2 n2 c2]) f0 hM rfl fun w1 hM=>rtc 4 31 rfl (aAi 31 0 hM rfl rfl) f0 (hZ _ _ ⟨rfl,hM.fr⟩)
theorem aBN {w:World}{v:Value}{L:List ObR}(hL:aCq w v L) (hl9:L.length<=1000000):Calls Tryz.prog 24 #[v] w fun e w'=>∃ v os,e = .returned (.agg #[v]) /\ aCq w' v os /\ aAa os=exO (aAa L) /\ Fr nF_ w w':=by
 obtain ⟨hs0,hob0⟩:=hL;obtain ⟨p0,cp0,hp0,sp0⟩:=hs0.op;subst hp0;refine beg Tryz.func24 rfl rfl [(0,vL p0 L.length cp0)] rfl rfl fun Z hZ=>?_;have hM:=Mm.nil nF_ w;refine aAp 0 0 2 [] (cs:=#[vL none 0 0]) (T:=24) (v:=fun b=>vP b 0) f0 hM fun am w1 hM=>aAq 2 1 8 [(3,.func (.func 51) #[] #[]),(7,.func (.func 51) #[] #[])] f0 hM (aHo [97] 0 0) fun w1 hM=>aAq 2 3 10 [(9,.func (.func 51) #[] #[])] f0 hM (aHo [98] 300 0) fun w1 hM=>aAq 2 5 12 [(11,.func (.func 51) #[] #[])] f0 hM (aHo [99] 300 400) fun w1 hM=>aAp 2 6 13 [] (cs:=#[vS [97],vI 1,vI 0,vI 0,vL none 0 0,vL none 0 0,vS [98],vI 1,vI 300,vI 0,vL none 0 0,vL none 0 0,vS [99],vI 1,vI 300,vI 400,vL none 0 0,vL none 0 0]) (T:=64) (v:=fun b=>vL (some ⟨b,0,none⟩) 3 3) f0 hM fun aj w1 hM=>?_;have hM:=aDq hM (f:=obL) (c:=6) (j:=1) rfl [(⟨⟨[97],1,0,0,[],[]⟩,none,0,none,0⟩:ObR),(⟨⟨[98],1,300,0,[],[]⟩,none,0,none,0⟩:ObR),(⟨⟨[99],1,300,400,[],[]⟩,none,0,none,0⟩:ObR)] 3 rfl rfl rfl;refine aH5 3 2 16 [(14,vL (some ⟨aj,0,none⟩) 3 3),(15,vL p0 L.length cp0)] (cap:=cp0) (by decide) obT f0 hM (j:=1) rfl (sp0.fr hM.fr).at_ sp0.nil (by simp only [Gk_,Gf_,Go_];omega) fun an w1 hM=>?_;obtain ⟨ae,af,ak,-⟩:=(hM.src (j:=1) rfl obT.len).op;subst ak;refine aAp 4 0 17 [(4,vL ae ([(⟨⟨[97],1,0,0,[],[]⟩,none,0,none,0⟩:ObR),(⟨⟨[98],1,300,0,[],[]⟩,none,0,none,0⟩:ObR),(⟨⟨[99],1,300,400,[],[]⟩,none,0,none,0⟩:ObR)]++L).length af)] (cs:=#[vS [97],vS [98]]) (T:=9) (v:=fun b=>vL (some ⟨b,0,none⟩) 2 2) f0 hM fun aa w1 hM=>aAp 4 2 19 [(18,.agg #[vS [115,112,101,101,100],vS [49,48,48]])] (cs:=#[vS [115,112,101,101,100],vS [49,48,48]]) (T:=106) (v:=fun b=>vL (some ⟨b,0,none⟩) 1 1) f0 hM fun ab w1 hM=>aCl 4 4 5 [(20,.agg #[vS [118],vI 2,vI 0,vI 0,vL (some ⟨aa,0,none⟩) 2 2,vL (some ⟨ab,0,none⟩) 1 1])] [] 64 (.agg #[vS [118],vI 2,vI 0,vI 0,vL (some ⟨aa,0,none⟩) 2 2,vL (some ⟨ab,0,none⟩) 1 1]) f0 hM fun ao w1 hM=>aAp 5 0 21 [] (cs:=#[vS [98],vS [99]]) (T:=9) (v:=fun b=>vL (some ⟨b,0,none⟩) 2 2) f0 hM fun ac w1 hM=>aAp 5 2 23 [(22,.agg #[vS [104,111,117,114,115],vS [109,111,32,49,58,48,48,45,50,58,48,48]])] (cs:=#[vS [104,111,117,114,115],vS [109,111,32,49,58,48,48,45,50,58,48,48]]) (T:=106) (v:=fun b=>vL (some ⟨b,0,none⟩) 1 1) f0 hM fun ad w1 hM=>aCl 5 4 6 [(24,.agg #[vS [119],vI 2,vI 0,vI 0,vL (some ⟨ac,0,none⟩) 2 2,vL (some ⟨ad,0,none⟩) 1 1])] [] 64 (.agg #[vS [119],vI 2,vI 0,vI 0,vL (some ⟨ac,0,none⟩) 2 2,vL (some ⟨ad,0,none⟩) 1 1]) f0 hM fun ap w1 hM=>aAp 6 3 28 [(25,vL ae ([(⟨⟨[97],1,0,0,[],[]⟩,none,0,none,0⟩:ObR),(⟨⟨[98],1,300,0,[],[]⟩,none,0,none,0⟩:ObR),(⟨⟨[99],1,300,400,[],[]⟩,none,0,none,0⟩:ObR)]++L).length af),(26,.agg #[vS [118],vI 2,vI 0,vI 0,vL (some ⟨aa,0,none⟩) 2 2,vL (some ⟨ab,0,none⟩) 1 1]),(27,.agg #[vS [119],vI 2,vI 0,vI 0,vL (some ⟨ac,0,none⟩) 2 2,vL (some ⟨ad,0,none⟩) 1 1])] (cs:=#[vS [118],vI 2,vI 0,vI 0,vL (some ⟨aa,0,none⟩) 2 2,vL (some ⟨ab,0,none⟩) 1 1,vS [119],vI 2,vI 0,vI 0,vL (some ⟨ac,0,none⟩) 2 2,vL (some ⟨ad,0,none⟩) 1 1]) (T:=64) (v:=fun b=>vL (some ⟨b,0,none⟩) 2 2) (fc (lam 64 4 0 6 hM rfl) (fc (lam 64 7 0 6 hM rfl) f0)) hM fun ag w1 hM=>aH5 6 4 29 [] (cap:=2) (by decide) obT f0 hM (j:=1) rfl (aB4 (f:=obL) (c:=6) (b:=ag) (hM.get 8 (e:=bk ag #[vS [118],vI 2,vI 0,vI 0,vL (some ⟨aa,0,none⟩) 2 2,vL (some ⟨ab,0,none⟩) 1 1,vS [119],vI 2,vI 0,vI 0,vL (some ⟨ac,0,none⟩) 2 2,vL (some ⟨ad,0,none⟩) 1 1] 64) rfl) [(⟨⟨[118],2,0,0,[[97],[98]],[([115,112,101,101,100],[49,48,48])]⟩,(some ⟨aa,0,none⟩),2,(some ⟨ab,0,none⟩),1⟩:ObR),(⟨⟨[119],2,0,0,[[98],[99]],[([104,111,117,114,115],[109,111,32,49,58,48,48,45,50,58,48,48])]⟩,(some ⟨ac,0,none⟩),2,(some ⟨ad,0,none⟩),1⟩:ObR)] 2 (fun _=>rfl) rfl rfl).at_ (fun h=>by cases h) (by simp only [Gk_,Gf_,Go_];omega) fun aq w1 hM=>?_;obtain ⟨ah,ai,al,-⟩:=(hM.src (j:=1) rfl obT.len).op;subst al;refine stm 6 6 [(30,.agg #[vL ah (([(⟨⟨[97],1,0,0,[],[]⟩,none,0,none,0⟩:ObR),(⟨⟨[98],1,300,0,[],[]⟩,none,0,none,0⟩:ObR),(⟨⟨[99],1,300,400,[],[]⟩,none,0,none,0⟩:ObR)]++L)++[(⟨⟨[118],2,0,0,[[97],[98]],[([115,112,101,101,100],[49,48,48])]⟩,(some ⟨aa,0,none⟩),2,(some ⟨ab,0,none⟩),1⟩:ObR),(⟨⟨[119],2,0,0,[[98],[99]],[([104,111,117,114,115],[109,111,32,49,58,48,48,45,50,58,48,48])]⟩,(some ⟨ac,0,none⟩),2,(some ⟨ad,0,none⟩),1⟩:ObR)]).length ai])] 24 0 0 (.agg #[vL ah (([(⟨⟨[97],1,0,0,[],[]⟩,none,0,none,0⟩:ObR),(⟨⟨[98],1,300,0,[],[]⟩,none,0,none,0⟩:ObR),(⟨⟨[99],1,300,400,[],[]⟩,none,0,none,0⟩:ObR)]++L)++[(⟨⟨[118],2,0,0,[[97],[98]],[([115,112,101,101,100],[49,48,48])]⟩,(some ⟨aa,0,none⟩),2,(some ⟨ab,0,none⟩),1⟩:ObR),(⟨⟨[119],2,0,0,[[98],[99]],[([104,111,117,114,115],[109,111,32,49,58,48,48,45,50,58,48,48])]⟩,(some ⟨ac,0,none⟩),2,(some ⟨ad,0,none⟩),1⟩:ObR)]).length ai]) f0 hM rfl fun w1 hM=>?_
 have hOb:∀ b∈(([(⟨⟨[97],1,0,0,[],[]⟩,none,0,none,0⟩:ObR),(⟨⟨[98],1,300,0,[],[]⟩,none,0,none,0⟩:ObR),(⟨⟨[99],1,300,400,[],[]⟩,none,0,none,0⟩:ObR)]++L)++[(⟨⟨[118],2,0,0,[[97],[98]],[([115,112,101,101,100],[49,48,48])]⟩,(some ⟨aa,0,none⟩),2,(some ⟨ab,0,none⟩),1⟩:ObR),(⟨⟨[119],2,0,0,[[98],[99]],[([104,111,117,114,115],[109,111,32,49,58,48,48,45,50,58,48,48])]⟩,(some ⟨ac,0,none⟩),2,(some ⟨ad,0,none⟩),1⟩:ObR)]),ObIn w1 b:=by
  intro b hb;simp only [List.mem_append,Gj_,List.not_mem_nil,or_false] at hb;rcases hb with ((rfl | rfl | rfl) | hb) | (rfl | rfl)
  ·exact aIN _ _ _ _ _ (by unfold B63;decide)
  ·exact aIN _ _ _ _ _ (by unfold B63;decide)
  ·exact aIN _ _ _ _ _ (by unfold B63;decide)
  ·exact (hob0 b hb).fr hM.fr
  ·exact ⟨aB4 (hM.get 2 rfl) _ 2 (fun _=>rfl) rfl rfl,aB4 (hM.get 3 rfl) _ 1 (fun _=>rfl) rfl rfl,aXi⟩
  ·exact ⟨aB4 (hM.get 5 rfl) _ 2 (fun _=>rfl) rfl rfl,aB4 (hM.get 6 rfl) _ 1 (fun _=>rfl) rfl rfl,aXh⟩
 exact rtc 2 24 rfl (aAi 24 0 hM rfl rfl) f0 (hZ _ _ ⟨_,(([(⟨⟨[97],1,0,0,[],[]⟩,none,0,none,0⟩:ObR),(⟨⟨[98],1,300,0,[],[]⟩,none,0,none,0⟩:ObR),(⟨⟨[99],1,300,400,[],[]⟩,none,0,none,0⟩:ObR)]++L)++[(⟨⟨[118],2,0,0,[[97],[98]],[([115,112,101,101,100],[49,48,48])]⟩,(some ⟨aa,0,none⟩),2,(some ⟨ab,0,none⟩),1⟩:ObR),(⟨⟨[119],2,0,0,[[98],[99]],[([104,111,117,114,115],[109,111,32,49,58,48,48,45,50,58,48,48])]⟩,(some ⟨ac,0,none⟩),2,(some ⟨ad,0,none⟩),1⟩:ObR)]),rfl,⟨hM.src (j:=1) rfl obT.len,hOb⟩,by unfold exO aAa;simp only [List.map_append,List.map_cons,List.map_nil],hM.fr⟩)
end Go.Proofs.YtbflfefahheidaaGreatDoor
namespace Go.Pl
open Go.RowKit
section
variable {P:Program}{B:Code}{R:Pst}{ds:List Deferred}{n:Nat}{p:Option (Nat×Nat)}{L N:Frm}{w:World}{r r' i':Nat}{F:List Ft}
end
section
variable {P:Program}{w w0:World}{rd:Option Nat}{B:Code}{r n:Nat}{L:Frm}{ef:List Nat}{V:Lts->List (Option Value)}{F:Lts->List Ft}{ds:List Deferred}{F0:Nat->Prop}{Mf:Lts->List Bool->List Ent}
theorem aFO (p i d:Nat) {f:FuncId}(args:Lts->Array Value) (v:Value)
  (hc:∀ γ fr wm,Mm F0 w0 wm (Mf γ (flg B r ef i fr))->Calls P f (args γ) wm fun x w'=>x = .returned v /\ Fr nF_ wm w')
  (hm:∀ γ fr,Mf γ (flg B r ef i fr)=Mf (aDy γ p v) ((flg B r ef i fr).set p true):=by intro γ fr;kernel_rfl)
  (hV:∀ γ,((V (aDy γ p v))[p]?).getD none=some v:=by intro γ;rfl)
  (hs:∀ γ wm,enL P wm (aAH B r) i (frX P w n B r L ef V F i γ)=some (f,args γ,some d,wm):=by intro γ wm;kernel_rfl):Arm rd P w n B r L ef V F ds F0 w0 Mf p i:=by
 intro γ fr a wm Q o ho En hw hM;obtain ⟨h1,h2⟩:=aUF ho En (hs γ wm);refine aG5 (R:=fun u w'=>u=v /\ Fr nF_ wm w') h1 ((hc γ fr wm hM).mono fun x w' ⟨g1,g2⟩=>⟨v,g1,rfl,g2⟩) fun u w' ⟨hu,g1⟩=>?_;subst hu;have hM':=hM.q g1;rw [hm] at hM';exact ⟨u,γ.e p,by rw [aA9,hV,h2];rfl,by rw [aA9];exact hM'⟩
end
end Go.Pl
namespace Go.Proofs.YtbflfefahheidaaGreatDoor
open Go.RowKit Go.Pl
def aWx (N:Bys->Bool) (l:List Ob) (id:Bys):Option Ob:=l.foldl (fun r o=>bif ((o.kind==2)&&o.refs.all N)&&(o.id==id) then some o else r) none
theorem aVn (N:Bys->Bool) (os:List ObR) (id:Bys):(aIr N os id).map (·.o)=aWx N (aAa os) id:=by
 have key:∀ (os:List ObR) (r:Option ObR),(os.foldl (fun r b=>bif ((b.o.kind==2)&&b.o.refs.all N)&&(b.o.id==id) then some b else r) r).map (·.o)=(aAa os).foldl (fun r o=>bif ((o.kind==2)&&o.refs.all N)&&(o.id==id) then some o else r) (r.map (·.o)):=by
  intro os
  induction os with
  | nil=>intro r;rfl
  | cons b os ih =>
   intro r;rw [List.foldl_cons,ih,show aAa (b::os)=b.o::aAa os from rfl,List.foldl_cons];cases ((b.o.kind==2)&&b.o.refs.all N)&&(b.o.id==id)<;>rfl
 exact key os none
def aNU (l:List Ob) (o:Ob):List Arc:=bif o.kind==2 then (match aWx (aAg l) l o.id with | some c=>aFz l o.id c.refs | none=>[]) else []
def asP (l:List Ob):List Arc:=l.flatMap (aNU l)
def asQ (l:List Ob):List Arc:=aCn (asP l)
theorem aQ2 (os:List ObR):aAw os=asP (aAa os):=by
 unfold aAw asP
 have e:∀ b,aDx os b=aNU (aAa os) b.o:=fun b=>by
  unfold aDx aNU;rw [←aVn];cases aIr (aAg (aAa os)) os b.o.id<;>rfl
 rw [show aDx os=fun b=>aNU (aAa os) b.o from funext e];show os.flatMap _=(os.map _).flatMap _;rw [List.flatMap_map]
theorem aTs (os:List ObR):AS os=asQ (aAa os):=by unfold asQ;rw [←aQ2]
def aHD (prof:Bys) (l:List Ob) (id:Bys):Road:=match ((l.filter fun o=>o.kind==2).reverse).find? fun o=>o.id==id with
 | some o=>aAu prof o
 | none=>aV9
theorem aTW (prof:Bys) (os:List ObR) (id:Bys):aHC prof os id=aHD prof (aAa os) id:=by
 unfold aHC aHD
 have e:(((aAa os).filter fun o=>o.kind==2).reverse).find? (fun o=>o.id==id)=((aBQ os).find? fun b=>b.o.id==id).map (·.o):=by
  unfold aBQ aAa;rw [List.filter_map,←List.map_reverse,List.find?_map];rfl
 rw [e];cases (aBQ os).find? (fun b=>b.o.id==id)<;>rfl
def aSy (prof:Bys) (l:List Ob):List Tri:=bif prof==aFo then [] else (l.filter fun o=>o.kind==5).map aT7
theorem aWr (prof:Bys) (os:List ObR):aCe prof os=aSy prof (aAa os):=by
 unfold aCe aSy aAa;rw [List.filter_map,List.map_map];rfl
def aLo (r:Road) (a:Arc) (minute:Int):Option Int :=
 bif r.closed||(r.oneway && !fwd a.1 a.2.1 r.refs)||decide (1000000000<minute) then none
 else bif r.limited then
  (bif !((aAz r.hours minute).2)||decide (1000000000<(aAz r.hours minute).1) then none else some ((aAz r.hours minute).1+(a.2.2.2+r.speed-1) / r.speed))
 else some (minute+(a.2.2.2+r.speed-1) / r.speed)
def aFx (prof:Bys) (l:List Ob) (a b:Arc):Bool:=(a.2.1==b.1) && !((aSy prof l).contains (a.2.2.1,a.2.1,b.2.2.1))
def aED (prof:Bys) (l:List Ob) (f:Bys):NetW where
 n:=(asQ l).length
 st i:=match (asQ l)[i]? with | some a=>a.1==f | none=>false
 ps i m:=match (asQ l)[i]? with | some a=>aLo (aHD prof l a.2.2.1) a m | none=>none
 al i k:=match (asQ l)[i]?,(asQ l)[k]? with | some a,some b=>aFx prof l a b | _,_=>false
theorem aLt (prof:Bys) (os:List ObR) (f:Bys):aAj prof os f=aED prof (aAa os) f:=by
 unfold aAj aED
 have e1:∀ a m,aBR prof os a m=aLo (aHD prof (aAa os) a.2.2.1) a m:=fun a m=>by
  unfold aBR;rw [aTW];rfl
 have e2:∀ a b,aE4 prof os a b=aFx prof (aAa os) a b:=fun a b=>by
  unfold aE4 aFx;rw [aWr]
 simp only [e1,e2,aTs]<;>rfl
def aGi (l:List Ob) (id:Bys):Int:=match l[(aAm l id).toNat]? with
 | some o=>o.kind
 | none=>0
theorem aU2 (os:List ObR) (id:Bys):aSc os id=aGi (aAa os) id:=by
 unfold aSc aGi;rw [show (aAa os)[(aAm (aAa os) id).toNat]?=(os[(aAm (aAa os) id).toNat]?).map (·.o) from by unfold aAa;rw [Gu_]];cases os[(aAm (aAa os) id).toNat]?<;>rfl
def aEq (l:List Ob) (prof:Bys) (m0:Int) (ids:List Bys):Int :=
 bif !(aAc l)||(!(aA3 prof)||(decide (m0<0)||decide (9999999<m0))) then 1
 else bif ids.any (fun id=>decide (aAm l id<0)) then 11
 else bif ids.any (fun id => !(aGi l id==1)) then 13 else 0
theorem aTl (os:List ObR) (prof:Bys) (m0:Int) (ids:List Bys):aF0 os prof m0 ids=aEq (aAa os) prof m0 ids:=by
 unfold aF0 aEq;rw [show aFf os=fun id => !(aGi (aAa os) id==1) from funext fun id=>by unfold aFf;rw [aU2]]
def aGl (prof:Bys) (l:List Ob) (f g:Bys) (m0 c:Int) (nd:List Bys) (mi:List Int):Prop :=
 (¬ aEq l prof m0 [f,g]=0 /\ c=aEq l prof m0 [f,g] /\ nd=[] /\ mi=[])∨(aEq l prof m0 [f,g]=0 /\ f=g /\ c=0 /\ nd=[f] /\ mi=[m0]) ∨
 (aEq l prof m0 [f,g]=0 /\ f≠g /\ ∃ t,Tab (aED prof l f) m0 t /\ ((aAE (asQ l) t g (asQ l).length=none /\ c=12 /\ nd=[] /\ mi=[]) ∨
  ∃ i,aAE (asQ l) t g (asQ l).length=some i /\ c=0 /\ nd=((bkP (aED prof l f) m0 t i).map (toN (asQ l))++[f]).reverse /\ mi=((bkP (aED prof l f) m0 t i).map (fun j=>(t j).getD 0)++[m0]).reverse))
theorem aO0 {prof:Bys}{os:List ObR}{f g:Bys}{m0 c:Int}{nd:List Bys}{mi:List Int}(h:aQA prof os f g m0 c nd mi):aGl prof (aAa os) f g m0 c nd mi:=by
 unfold aQA at h;rw [aTl,aLt,aTs] at h;exact h
def aPa (l:List Ob) (u:Bys->Option Int):List (Bys×Int):=l.flatMap fun o=>bif (u o.id).isSome&&(o.kind==1) then [(o.id,(u o.id).getD 0)] else []
def aGd (prof:Bys) (l:List Ob) (f:Bys) (wi m0 c:Int) (rows:List (Bys×Int)):Prop :=
 ((wi<0∨10080<wi) /\ c=1 /\ rows=[])∨(¬ (wi<0∨10080<wi) /\ ¬ aEq l prof m0 [f]=0 /\ c=aEq l prof m0 [f] /\ rows=[]) ∨
 (¬ (wi<0∨10080<wi) /\ aEq l prof m0 [f]=0 /\ c=0 /\ ∃ t u,Tab (aED prof l f) m0 t /\ FirstOk (asQ l) t f m0 wi (fun _=>True) u /\ rows=aPa l u)
theorem aMq {prof:Bys}{os:List ObR}{f:Bys}{wi m0 c:Int}{rows:List (Bys×Int)}(h:aKA prof os f wi m0 c rows):aGd prof (aAa os) f wi m0 c rows:=by
 unfold aKA at h;rw [aTl,aLt,aTs] at h
 have e:∀ u,aCC os u=aPa (aAa os) u:=fun u=>by
  unfold aCC aPa aAa;rw [List.flatMap_map]
 simp only [e] at h;exact h
theorem aHv {l:List Ob}{prof:Bys}{m0:Int}{ids:List Bys}(h:aEq l prof m0 ids=0):aAc l=true /\ aA3 prof=true /\ 0<=m0 /\ m0<=9999999 /\ (∀ id∈ids,¬ aAm l id<0) /\ ∀ id∈ids,aGi l id=1:=by
 unfold aEq at h
 cases h1:(!(aAc l)||(!(aA3 prof)||(decide (m0<0)||decide (9999999<m0)))) with
 | true=>rw [h1] at h;cases h
 | false =>
  rw [h1] at h;simp only [Bool.or_eq_false_iff,Bool.not_eq_false',decide_eq_false_iff_not] at h1
  cases h2:ids.any (fun id=>decide (aAm l id<0)) with
  | true=>rw [h2] at h;cases h
  | false =>
   rw [h2] at h
   cases h3:ids.any (fun id => !(aGi l id==1)) with
   | true=>rw [h3] at h;cases h
   | false =>
    rw [List.any_eq_false] at h2 h3;exact ⟨h1.1,h1.2.1,by omega,by omega,fun id hi=>by simpa using h2 id hi,fun id hi=>by simpa using h3 id hi⟩
theorem aEh {l:List Ob}(h:aAc l=true):∀ o∈l,aA6 o=true:=by
 unfold aAc at h;rw [Ga_] at h;exact aIu h.1
def aXb (prof:Bys) (l:List Ob) (A:List Arc) (f:Bys):NetW where
 n:=A.length
 st i:=match A[i]? with | some a=>a.1==f | none=>false
 ps i m:=match A[i]? with | some a=>aLo (aHD prof l a.2.2.1) a m | none=>none
 al i k:=match A[i]?,A[k]? with | some a,some b=>aFx prof l a b | _,_=>false
theorem aM2 (prof:Bys) (l:List Ob) (f:Bys):aED prof l f=aXb prof l (asQ l) f:=rfl
def leB (t:Nat->Option Int) (k:Nat) (o:Option Int):Bool:=match o with
 | none=>true
 | some x=>match t k with
  | some y=>decide (y<=x)
  | none=>false
theorem aSX {t:Nat->Option Int}{k:Nat}{o:Option Int}(h:leB t k o=true):∀ x,o=some x->∃ y,y<=x /\ t k=some y:=by
 rintro x rfl;unfold leB at h
 cases ht:t k with
 | none=>rw [ht] at h;cases h
 | some y=>rw [ht] at h;exact ⟨y,of_decide_eq_true h,rfl⟩
def aYs (N:NetW) (m0:Int) (t:Nat->Option Int) (pr:Nat->Option Nat):Bool :=
 (List.range N.n).all fun i=>(!(N.st i)||leB t i (N.ps i m0))&&(match t i with
  | none=>true
  | some m=>((List.range N.n).all fun k => !(N.al i k)||leB t k (N.ps k m))&&decide (0<=m)&&(match pr i with
   | none=>N.st i&&(N.ps i m0==some m)
   | some j=>match t j with
    | some m'=>N.al j i&&(N.ps i m'==some m)&&decide (m'<m)
    | none=>false))
theorem aKR {N:NetW}{m0:Int}{t:Nat->Option Int}{pr:Nat->Option Nat}(h:aYs N m0 t pr=true) (ho:∀ i,N.n<=i->t i=none):Tab N m0 t:=by
 have h9:∀ i,i<N.n->_:=fun i hi=>List.all_eq_true.1 h i (List.mem_range.2 hi)
 have hlt:∀ i m,t i=some m->i<N.n:=fun i m e=>by
  rcases Nat.lt_or_ge i N.n with q | q
  ·exact q
  ·rw [ho i q] at e;cases e
 have hsnd:∀ (k:Nat) i m,t i=some m->m.toNat<=k->Rch N m0 i m:=by
  intro k
  induction k using Nat.strongRecOn with
  | _ k ih =>
   intro i m e hk;have hi:=hlt i m e;have q:=h9 i hi;rw [Ga_,e] at q;have q:=q.2;simp only [Ga_,decide_eq_true_eq] at q;obtain ⟨⟨_,q2⟩,q3⟩:=q
   cases hp:pr i with
   | none =>
    rw [hp] at q3;simp only [Ga_,beq_iff_eq] at q3;exact .base hi q3.1 q3.2
   | some j =>
    rw [hp] at q3;simp only at q3
    cases hj:t j with
    | none=>rw [hj] at q3;cases q3
    | some m' =>
     rw [hj] at q3;simp only [Ga_,beq_iff_eq,decide_eq_true_eq] at q3;obtain ⟨⟨q4,q5⟩,q6⟩:=q3;have qj:=h9 j (hlt j m' hj);rw [Ga_,hj] at qj;have qj:=qj.2;simp only [Ga_,decide_eq_true_eq] at qj;have:=qj.1.2;exact .step (ih m'.toNat (by omega) j m' hj (Gl_ _)) hi q4 q5
 refine ⟨fun i m e=>hsnd m.toNat i m e (Gl_ _),fun i hi hs x hx=>?_,fun i m e k hk ha x hx=>?_⟩
 ·have q:=h9 i hi;rw [Ga_] at q;have q:=q.1;rw [hs] at q;exact aSX q x hx
 ·have q:=h9 i (hlt i m e);rw [Ga_,e] at q;have q:=q.2;simp only [Ga_] at q;have q:=List.all_eq_true.1 q.1.1 k (List.mem_range.2 hk);rw [ha] at q;exact aSX q x hx
def tbL (l:List (Option Int)):Nat->Option Int:=fun i=>(l[i]?).getD none
theorem aKQ {l:List (Option Int)}{i:Nat}(h:l.length<=i):tbL l i=none:=by unfold tbL;rw [List.getElem?_eq_none h];rfl
def exA:List Arc:=[([97],[98],[118],300),([98],[97],[118],300),([98],[99],[119],400),([99],[98],[119],400)]
def aB2:Ob:=⟨[116],5,0,0,[[118],[98],[119]],[]⟩
theorem aTU:aB6 90000=300:=by
 unfold aB6;rw [show decide ((90000:Int)<0)=false from rfl];show ((aCh 90000:Nat):Int)=300;rw [aEY (r:=300) (by decide) (by decide)];rfl
theorem aTT:aB6 160000=400:=by
 unfold aB6;rw [show decide ((160000:Int)<0)=false from rfl];show ((aCh 160000:Nat):Int)=400;rw [aEY (r:=400) (by decide) (by decide)];rfl
section
variable {l:List Ob}
theorem aVZ (hl:l=[]∨l=[aB2]):aAC (exO l) [97] [98]=300 /\ aAC (exO l) [98] [97]=300 /\ aAC (exO l) [98] [99]=400 /\ aAC (exO l) [99] [98]=400:=by
 have h3:max 1 (aB6 90000)=300:=by rw [aTU];decide
 have h4:max 1 (aB6 160000)=400:=by rw [aTT];decide
 unfold aAC;rcases hl with rfl | rfl
 ·rw [show aAP ((aAA (exO []) [97]).getD (0,0)) ((aAA (exO []) [98]).getD (0,0))=90000 by decide +kernel,show aAP ((aAA (exO []) [98]).getD (0,0)) ((aAA (exO []) [97]).getD (0,0))=90000 by decide +kernel,show aAP ((aAA (exO []) [98]).getD (0,0)) ((aAA (exO []) [99]).getD (0,0))=160000 by decide +kernel,show aAP ((aAA (exO []) [99]).getD (0,0)) ((aAA (exO []) [98]).getD (0,0))=160000 by decide +kernel];exact ⟨h3,h3,h4,h4⟩
 ·rw [show aAP ((aAA (exO [aB2]) [97]).getD (0,0)) ((aAA (exO [aB2]) [98]).getD (0,0))=90000 by decide +kernel,show aAP ((aAA (exO [aB2]) [98]).getD (0,0)) ((aAA (exO [aB2]) [97]).getD (0,0))=90000 by decide +kernel,show aAP ((aAA (exO [aB2]) [98]).getD (0,0)) ((aAA (exO [aB2]) [99]).getD (0,0))=160000 by decide +kernel,show aAP ((aAA (exO [aB2]) [99]).getD (0,0)) ((aAA (exO [aB2]) [98]).getD (0,0))=160000 by decide +kernel];exact ⟨h3,h3,h4,h4⟩
theorem aWa (hl:l=[]∨l=[aB2]):asP (exO l)=exA:=by
 obtain ⟨h1,h2,h3,h4⟩:=aVZ hl
 have e:asP (exO l)=[([97],[98],[118],aAC (exO l) [97] [98]),([98],[97],[118],aAC (exO l) [97] [98]),([98],[99],[119],aAC (exO l) [98] [99]),([99],[98],[119],aAC (exO l) [98] [99])]:=by
  rcases hl with rfl | rfl<;>kernel_rfl
 rw [e,h1,h3];rfl
theorem aHn (hl:l=[]∨l=[aB2]):asQ (exO l)=exA:=by
 unfold asQ;rw [aWa hl];decide +kernel
end
def car:Bys:=[99,97,114]
theorem aLA:Tab (aED car (exO []) [97]) 10 (tbL [some 13,some 16,some 64,some 68]):=by
 rw [aM2,aHn (.inl rfl)];exact aKR (pr:=fun i=>[none,some 0,some 0,some 2].getD i none) (by decide +kernel) fun i hi=>aKQ hi
theorem aUD:Tab (aED car (exO [aB2]) [97]) 10 (tbL [some 13,some 16,none,none]):=by
 rw [aM2,aHn (.inr rfl)];exact aKR (pr:=fun i=>[none,some 0,none,none].getD i none) (by decide +kernel) fun i hi=>aKQ hi
theorem aUC:Tab (aED aFo (exO [aB2]) [97]) 10 (tbL [some 13,some 16,some 64,some 68]):=by
 rw [aM2,aHn (.inr rfl)];exact aKR (pr:=fun i=>[none,some 0,some 0,some 2].getD i none) (by decide +kernel) fun i hi=>aKQ hi
theorem aTd:∀ a∈exA,ArcB a:=by
 intro a ha;unfold exA at ha;simp only [Gj_,List.not_mem_nil,or_false] at ha;rcases ha with rfl | rfl | rfl | rfl<;>exact ⟨by unfold B63;decide,by unfold B63;decide,by unfold B63;decide,by decide,by decide⟩
def cn (l:List Ob):List ObR:=l.map fun o=>⟨o,none,0,none,0⟩
theorem aPj (l:List Ob):aAa (cn l)=l:=by unfold aAa cn;rw [List.map_map];exact List.map_id l
theorem aFF {prof:Bys}{l:List Ob}(h:∀ a∈asQ l,ArcB a) (f:Bys):(aED prof l f).Ok 6000000000:=by
 have:=aGs (prof:=prof) (os:=cn l) (by rw [aTs,aPj];exact h) f;rw [aLt,aPj] at this;exact this
theorem aJg {prof f g:Bys}{l:List Ob}{T:List (Option Int)}(hl:l=[]∨l=[aB2]) (hc:aEq (exO l) prof 10 [f,g]=0) (hfg:f≠g) (hT0:Tab (aED prof (exO l) f) 10 (tbL T)) {c:Int}{nd:List Bys}{mi:List Int}(h:aGl prof (exO l) f g 10 c nd mi) :
  (aAE exA (tbL T) g 4=none /\ c=12 /\ nd=[] /\ mi=[])∨∃ i,aAE exA (tbL T) g 4=some i /\ c=0 /\ nd=((bkP (aXb prof (exO l) exA f) 10 (tbL T) i).map (toN exA)++[f]).reverse /\ mi=((bkP (aXb prof (exO l) exA f) 10 (tbL T) i).map (fun j=>(tbL T j).getD 0)++[10]).reverse:=by
 rcases h with ⟨h1,_⟩ | ⟨_,h2,_⟩ | ⟨_,_,t,hT,h3⟩
 ·exact absurd hc h1
 ·exact absurd h2 hfg
 ·have hok:=aFF (prof:=prof) (l:=exO l) (by rw [aHn hl];exact aTd) f;have e:=hT.uniq hok (by decide) hT0;subst e;rw [aM2,aHn hl] at h3;exact h3
theorem aYp {c:Int}{nd:List Bys}{mi:List Int}(h:aGl car (exO []) [97] [98] 10 c nd mi):c=0 /\ nd=[[97],[98]] /\ mi=[10,13]:=by
 rcases aJg (.inl rfl) (by decide +kernel) (by decide) aLA h with ⟨h1,_⟩ | ⟨i,hi,rfl,rfl,rfl⟩
 ·exact absurd h1 (by decide +kernel)
 ·rw [show aAE exA (tbL [some 13,some 16,some 64,some 68]) [98] 4=some 0 by decide +kernel] at hi;cases hi;exact ⟨rfl,by decide +kernel,by decide +kernel⟩
theorem aYo {c:Int}{nd:List Bys}{mi:List Int}(h:aGl car (exO []) [97] [99] 10 c nd mi):c=0 /\ nd=[[97],[98],[99]] /\ mi=[10,13,64]:=by
 rcases aJg (.inl rfl) (by decide +kernel) (by decide) aLA h with ⟨h1,_⟩ | ⟨i,hi,rfl,rfl,rfl⟩
 ·exact absurd h1 (by decide +kernel)
 ·rw [show aAE exA (tbL [some 13,some 16,some 64,some 68]) [99] 4=some 2 by decide +kernel] at hi;cases hi;exact ⟨rfl,by decide +kernel,by decide +kernel⟩
theorem aYn {c:Int}{nd:List Bys}{mi:List Int}(h:aGl car (exO [aB2]) [97] [99] 10 c nd mi):c=12 /\ nd=[] /\ mi=[]:=by
 rcases aJg (.inr rfl) (by decide +kernel) (by decide) aUD h with ⟨_,h2⟩ | ⟨i,hi,_⟩
 ·exact h2
 ·exact absurd hi (by rw [show aAE exA (tbL [some 13,some 16,none,none]) [99] 4=none by decide +kernel];simp)
theorem aYm {c:Int}{nd:List Bys}{mi:List Int}(h:aGl aFo (exO [aB2]) [97] [99] 10 c nd mi):c=0 /\ nd=[[97],[98],[99]] /\ mi=[10,13,64]:=by
 rcases aJg (.inr rfl) (by decide +kernel) (by decide) aUC h with ⟨h1,_⟩ | ⟨i,hi,rfl,rfl,rfl⟩
 ·exact absurd h1 (by decide +kernel)
 ·rw [show aAE exA (tbL [some 13,some 16,some 64,some 68]) [99] 4=some 2 by decide +kernel] at hi;cases hi;exact ⟨rfl,by decide +kernel,by decide +kernel⟩
theorem exR {c:Int}{rows:List (Bys×Int)}(h:aGd car (exO []) [97] 54 10 c rows):c=0 /\ rows=[([97],0),([98],3),([99],54)]:=by
 rcases h with ⟨h1,_⟩ | ⟨_,h1,_⟩ | ⟨_,_,rfl,t,u,hT,hu,rfl⟩
 ·omega
 ·exact absurd (by decide +kernel:aEq (exO []) car 10 [[97]]=0) h1
 ·have hok:=aFF (prof:=car) (l:=exO []) (by rw [aHn (.inl rfl)];exact aTd) [97];have e:=hT.uniq hok (by decide) aLA;subst e;rw [aHn (.inl rfl)] at hu
  have key:∀ s d,s≠[97]->u s=some d->∃ k,k<4 /\ ∃ m a,tbL [some 13,some 16,some 64,some 68] k=some m /\ exA[k]?=some a /\ a.2.1=s /\ d=m-10 /\ d<=54:=fun s d hs hd=>by
   obtain ⟨k,m,a,h1,h2,h3⟩:=hu.snd s d hs hd;exact ⟨k,gl h2,m,a,h1,h2,h3⟩
  have hb:u [98]=some 3:=by
   obtain ⟨d,h1,h2⟩:=hu.cmp 0 13 ([97],[98],[118],300) trivial rfl rfl (by decide);have h2:u [98]=some d:=h2;obtain ⟨k,hk,m,a,g1,g2,g3,g4,g5⟩:=key _ _ (by decide) h2;rw [h2]
   match k,hk with
   | 0,_=>cases g1;rw [g4];rfl
   | 1,_=>cases g2;cases g3
   | 2,_=>cases g2;cases g3
   | 3,_=>cases g1;omega
  have hc:u [99]=some 54:=by
   obtain ⟨d,h1,h2⟩:=hu.cmp 2 64 ([98],[99],[119],400) trivial rfl rfl (by decide);have h2:u [99]=some d:=h2;obtain ⟨k,hk,m,a,g1,g2,g3,g4,g5⟩:=key _ _ (by decide) h2;rw [h2]
   match k,hk with
   | 0,_=>cases g2;cases g3
   | 1,_=>cases g2;cases g3
   | 2,_=>cases g1;rw [g4];rfl
   | 3,_=>cases g2;cases g3
  refine ⟨rfl,?_⟩;unfold aPa exO;simp only [List.append_nil,List.cons_append,List.nil_append,List.flatMap_cons,List.flatMap_nil,hu.own,hb,hc];cases u [118]<;>cases u [119]<;>rfl
theorem aIv {prof:Bys}{os:List ObR}{l:List Ob}{f g:Bys}{m0 c:Int}{nd:List Bys}{mi:List Int}(hp:aAa os=l) (h:aQA prof os f g m0 c nd mi):aGl prof l f g m0 c nd mi:=by subst hp;exact aO0 h
theorem aR6 {prof:Bys}{os:List ObR}{l:List Ob}{f:Bys}{wi m0 c:Int}{rows:List (Bys×Int)}(hp:aAa os=l) (h:aKA prof os f wi m0 c rows):aGd prof l f wi m0 c rows:=by subst hp;exact aMq h
theorem aNo (a:List Bys) (b:List Int):aJO a b a b=true:=by unfold aJO;simp
theorem aI5 {w:World}{p1 p2 p3 p4:Option Addr}{n1 n2 n3 n4 c1 c2 c3 c4:Nat}{A1:List Bys}{A2:List Int}(e1:n1=A1.length) (e2:n2=A2.length) (e3:n3=A1.length) (e4:n4=A2.length) (h1:SrcP stL 1 w p1 c1 A1) (h2:SrcP inL 1 w p2 c2 A2) (h3:SrcP stL 1 w p3 c3 A1) (h4:SrcP inL 1 w p4 c4 A2):Calls Tryz.prog 16 #[.agg #[vL p1 n1 c1,vL p2 n2 c2],.agg #[vL p3 n3 c3,vL p4 n4 c4]] w fun e w'=>e = .returned (vB true) /\ Fr nF_ w w':=by
 subst e1;subst e2;subst e3;subst e4;exact aNo A1 A2▸aNn h1 h2 h3 h4
theorem aOZ {w:World}{p1 p2:Option Addr}{n1 n2 c1 c2:Nat}{A:List (Bys×Int)}(e1:n1=A.length) (e2:n2=A.length) (h1:SrcP rwL 2 w p1 c1 A) (h2:SrcP rwL 2 w p2 c2 A):Calls Tryz.prog 17 #[vL p1 n1 c1,vL p2 n2 c2] w fun e w'=>e = .returned (vB true) /\ Fr nF_ w w':=by
 subst e1;subst e2;exact (show (A==A)=true by simp)▸aNw h1 h2
theorem aHm {os:List ObR}{l:List Ob}(hl:l=[]∨l=[aB2]) (h:aAa os=exO l):(aAw os).length<=240:=by
 rw [aQ2,h,aWa hl];decide
theorem aSm:ObB aB2:=⟨by unfold B63;decide,by unfold B63;decide,by unfold B63;decide⟩
theorem aQc {w:World}{b1 b2:Nat}{T1 T2:TypeId}(h1:w.heap[b1]?=some (.cells #[vS [118],vS [98],vS [119]] T1 (0,0))) (h2:w.heap[b2]?=some (.cells #[vS [116],vI 5,vI 0,vI 0,vL (some ⟨b1,0,none⟩) 3 3,vL none 0 0] T2 (0,0))):∃ L:List ObR,aCq w (vL (some ⟨b2,0,none⟩) 1 1) L /\ aAa L=[aB2] /\ L.length<=1000000:=by
 refine ⟨[⟨aB2,some ⟨b1,0,none⟩,3,none,0⟩],⟨(aB4 (f:=obL) (c:=6) h2 [⟨aB2,some ⟨b1,0,none⟩,3,none,0⟩] 1 (fun _=>rfl) rfl rfl).src,fun b hb=>?_⟩,rfl,show 1<=1000000 by decide⟩;rw [Gd_] at hb;subst hb;exact ⟨aB4 (f:=stL) (c:=1) h1 _ 3 (fun _=>rfl) rfl rfl,⟨Gl_ _,Gg_ _,.inl rfl,fun _=>rfl⟩,aSm⟩
theorem aNH {w:World}(hTe:Te w):Calls Tryz.prog 9 #[] w fun e w'=>e = .returned (vB true) /\ Fr nF_ w w':=by
 refine beg Tryz.func9 rfl rfl [] rfl rfl fun Y hY=>?_;have hM:=Mm.nil nF_ w;refine aAp 1 0 14 [] (cs:=#[vS [118],vS [98],vS [119]]) (T:=9) (v:=fun b=>vL (some ⟨b,0,none⟩) 3 3) f0 hM fun aa w1 hM=>aCl 1 2 1 [(15,.agg #[vS [116],vI 5,vI 0,vI 0,vL (some ⟨aa,0,none⟩) 3 3,vL none 0 0])] [] 64 (.agg #[vS [116],vI 5,vI 0,vI 0,vL (some ⟨aa,0,none⟩) 3 3,vL none 0 0]) f0 hM fun ac w1 hM=>aNQ 2 0 17 [] (K:=fun u w8=>∃ v os,u = .agg #[v] /\ aCq w8 v os /\ aAa os=exO []) f0 hM ((aBN (L:=[]) ⟨Src.nil _,fun _ h=>by cases h⟩ (by decide)).mono fun e w8 ⟨v,os,h1,h2,h3,h4⟩=>⟨⟨_,h1,v,os,rfl,h2,h3⟩,h4⟩) fun u w1 ⟨an,os486,hu,hO486,hp486⟩ hM f1=>?_;subst hu;replace hM:Mm nF_ w w1 [bk aa #[vS [118],vS [98],vS [119]] 9,bk ac #[vS [116],vI 5,vI 0,vI 0,vL (some ⟨aa,0,none⟩) 3 3,vL none 0 0] 64]:=hM;refine aAM 2 1 18 [] (K:=fun u Mn=>∃ v1 v2,u = .tuple #[.agg #[v1,v2],vI 0] /\ Mn=[rw_ stL 1 9 v1 [[97],[98]],rw_ inL 1 3 v2 [10,13]]) [0,1] [] f0 hM rfl rfl (by decide) (fun hm=>((aCV (prof:=car) (f:=[97]) (g:=[98]) hO486 (by decide) (by unfold B63;decide) (fun _=>aHm (.inl rfl) hp486) (hTe.fr hM.fr) 10).mono fun e w8 ⟨v1,v2,c,nd,mi,h1,h2,h3⟩=>by obtain ⟨rfl,rfl,rfl⟩:=aYp (aIv hp486 h2);exact ⟨_,_,h1,⟨v1,v2,rfl,rfl⟩,aCy h3 fun _ h=>h.elim⟩)) fun u Mn w1 hK hM=>?_;obtain ⟨ao,ap,rfl,rfl⟩:=hK;obtain ⟨qm487,cm487,em487,sm487⟩:=(hM.src (j:=3) rfl inT.len).op;subst em487;obtain ⟨qn487,cn487,en487,sn487⟩:=(hM.src (j:=2) rfl stT.len).op;subst en487;replace hM:Mm nF_ w w1 [bk aa #[vS [118],vS [98],vS [119]] 9,bk ac #[vS [116],vI 5,vI 0,vI 0,vL (some ⟨aa,0,none⟩) 3 3,vL none 0 0] 64,_,_]:=hM;refine aCl 2 5 2 [(19,.agg #[vL qn487 2 cn487,vL qm487 2 cm487]),(20,vI 0)] [] 31 (.agg #[vL qn487 2 cn487,vL qm487 2 cm487]) f0 hM fun ab w1 hM=>aNQ 3 0 22 [(3,vI 0)] (K:=fun u w8=>∃ v os,u = .agg #[v] /\ aCq w8 v os /\ aAa os=exO []) f0 hM ((aBN (L:=[]) ⟨Src.nil _,fun _ h=>by cases h⟩ (by decide)).mono fun e w8 ⟨v,os,h1,h2,h3,h4⟩=>⟨⟨_,h1,v,os,rfl,h2,h3⟩,h4⟩) fun u w1 ⟨aq,os489,hu,hO489,hp489⟩ hM f1=>?_;subst hu;replace hM:Mm nF_ w w1 [bk aa #[vS [118],vS [98],vS [119]] 9,bk ac #[vS [116],vI 5,vI 0,vI 0,vL (some ⟨aa,0,none⟩) 3 3,vL none 0 0] 64,_,_,bk ab #[vL qn487 2 cn487,vL qm487 2 cm487] 31]:=hM;refine aAM 3 1 23 [] (K:=fun u Mn=>∃ v1 v2,u = .tuple #[.agg #[v1,v2],vI 0] /\ Mn=[rw_ stL 1 9 v1 [[97],[98],[99]],rw_ inL 1 3 v2 [10,13,64]]) [0,1,2,3,4] [] f0 hM rfl rfl (by decide) (fun hm=>((aCV (prof:=car) (f:=[97]) (g:=[99]) hO489 (by decide) (by unfold B63;decide) (fun _=>aHm (.inl rfl) hp489) (hTe.fr hM.fr) 10).mono fun e w8 ⟨v1,v2,c,nd,mi,h1,h2,h3⟩=>by obtain ⟨rfl,rfl,rfl⟩:=aYo (aIv hp489 h2);exact ⟨_,_,h1,⟨v1,v2,rfl,rfl⟩,aCy h3 fun _ h=>h.elim⟩)) fun u Mn w1 hK hM=>?_;obtain ⟨ar,au,rfl,rfl⟩:=hK;obtain ⟨qm490,cm490,em490,sm490⟩:=(hM.src (j:=6) rfl inT.len).op;subst em490;obtain ⟨qn490,cn490,en490,sn490⟩:=(hM.src (j:=5) rfl stT.len).op;subst en490;replace hM:Mm nF_ w w1 [bk aa #[vS [118],vS [98],vS [119]] 9,bk ac #[vS [116],vI 5,vI 0,vI 0,vL (some ⟨aa,0,none⟩) 3 3,vL none 0 0] 64,_,_,bk ab #[vL qn487 2 cn487,vL qm487 2 cm487] 31,_,_]:=hM;refine aCl 3 5 4 [(24,.agg #[vL qn490 3 cn490,vL qm490 3 cm490]),(25,vI 0)] [] 31 (.agg #[vL qn490 3 cn490,vL qm490 3 cm490]) f0 hM fun af w1 hM=>aAp 4 1 28 [(5,vI 0),(27,.agg #[vS [116],vI 5,vI 0,vI 0,vL (some ⟨aa,0,none⟩) 3 3,vL none 0 0])] (cs:=#[vS [116],vI 5,vI 0,vI 0,vL (some ⟨aa,0,none⟩) 3 3,vL none 0 0]) (T:=64) (v:=fun b=>vL (some ⟨b,0,none⟩) 1 1) (fc (lam 64 1 0 6 hM rfl) f0) hM fun ag w1 hM=>?_;replace hM:Mm nF_ w w1 [bk aa #[vS [118],vS [98],vS [119]] 9,bk ac #[vS [116],vI 5,vI 0,vI 0,vL (some ⟨aa,0,none⟩) 3 3,vL none 0 0] 64,_,_,bk ab #[vL qn487 2 cn487,vL qm487 2 cm487] 31,_,_,bk af #[vL qn490 3 cn490,vL qm490 3 cm490] 31,bk ag #[vS [116],vI 5,vI 0,vI 0,vL (some ⟨aa,0,none⟩) 3 3,vL none 0 0] 64]:=hM;obtain ⟨L493,hL493,hq493,hn493⟩:=aQc (b1:=aa) (b2:=ag) (hM.get 0 (e:=bk aa #[vS [118],vS [98],vS [119]] 9) rfl) (hM.get 8 (e:=bk ag #[vS [116],vI 5,vI 0,vI 0,vL (some ⟨aa,0,none⟩) 3 3,vL none 0 0] 64) rfl);refine aNQ 4 2 29 [] (K:=fun u w8=>∃ v os,u = .agg #[v] /\ aCq w8 v os /\ aAa os=exO (aAa L493)) f0 hM ((aBN hL493 hn493).mono fun e w8 ⟨v,os,h1,h2,h3,h4⟩=>⟨⟨_,h1,v,os,rfl,h2,h3⟩,h4⟩) fun u w1 ⟨av,os493,hu,hO493,hp493⟩ hM f1=>?_;subst hu;replace hM:Mm nF_ w w1 [bk aa #[vS [118],vS [98],vS [119]] 9,bk ac #[vS [116],vI 5,vI 0,vI 0,vL (some ⟨aa,0,none⟩) 3 3,vL none 0 0] 64,_,_,bk ab #[vL qn487 2 cn487,vL qm487 2 cm487] 31,_,_,bk af #[vL qn490 3 cn490,vL qm490 3 cm490] 31,bk ag #[vS [116],vI 5,vI 0,vI 0,vL (some ⟨aa,0,none⟩) 3 3,vL none 0 0] 64]:=hM;rw [hq493] at hp493;refine aAM 4 3 30 [] (K:=fun u Mn=>∃ v1 v2,u = .tuple #[.agg #[v1,v2],vI 12] /\ Mn=[rw_ stL 1 9 v1 [],rw_ inL 1 3 v2 []]) [0,1,2,3,4,5,6,7,8] [] f0 hM rfl rfl (by decide) (fun hm=>((aCV (prof:=car) (f:=[97]) (g:=[99]) hO493 (by decide) (by unfold B63;decide) (fun _=>aHm (.inr rfl) hp493) (hTe.fr hM.fr) 10).mono fun e w8 ⟨v1,v2,c,nd,mi,h1,h2,h3⟩=>by obtain ⟨rfl,rfl,rfl⟩:=aYn (aIv hp493 h2);exact ⟨_,_,h1,⟨v1,v2,rfl,rfl⟩,aCy h3 fun _ h=>h.elim⟩)) fun u Mn w1 hK hM=>?_;obtain ⟨aw,ax,rfl,rfl⟩:=hK;obtain ⟨qm494,cm494,em494,sm494⟩:=(hM.src (j:=10) rfl inT.len).op;subst em494;obtain ⟨qn494,cn494,en494,sn494⟩:=(hM.src (j:=9) rfl stT.len).op;subst en494;replace hM:Mm nF_ w w1 [bk aa #[vS [118],vS [98],vS [119]] 9,bk ac #[vS [116],vI 5,vI 0,vI 0,vL (some ⟨aa,0,none⟩) 3 3,vL none 0 0] 64,_,_,bk ab #[vL qn487 2 cn487,vL qm487 2 cm487] 31,_,_,bk af #[vL qn490 3 cn490,vL qm490 3 cm490] 31,bk ag #[vS [116],vI 5,vI 0,vI 0,vL (some ⟨aa,0,none⟩) 3 3,vL none 0 0] 64,_,_]:=hM;refine aCl 4 7 6 [(31,.agg #[vL qn494 0 cn494,vL qm494 0 cm494]),(32,vI 12)] [] 31 (.agg #[vL qn494 0 cn494,vL qm494 0 cm494]) f0 hM fun ai w1 hM=>aAp 5 1 35 [(7,vI 12),(34,.agg #[vS [116],vI 5,vI 0,vI 0,vL (some ⟨aa,0,none⟩) 3 3,vL none 0 0])] (cs:=#[vS [116],vI 5,vI 0,vI 0,vL (some ⟨aa,0,none⟩) 3 3,vL none 0 0]) (T:=64) (v:=fun b=>vL (some ⟨b,0,none⟩) 1 1) (fc (lam 64 1 0 6 hM rfl) f0) hM fun ah w1 hM=>?_;replace hM:Mm nF_ w w1 [bk aa #[vS [118],vS [98],vS [119]] 9,bk ac #[vS [116],vI 5,vI 0,vI 0,vL (some ⟨aa,0,none⟩) 3 3,vL none 0 0] 64,_,_,bk ab #[vL qn487 2 cn487,vL qm487 2 cm487] 31,_,_,bk af #[vL qn490 3 cn490,vL qm490 3 cm490] 31,bk ag #[vS [116],vI 5,vI 0,vI 0,vL (some ⟨aa,0,none⟩) 3 3,vL none 0 0] 64,_,_,bk ai #[vL qn494 0 cn494,vL qm494 0 cm494] 31,bk ah #[vS [116],vI 5,vI 0,vI 0,vL (some ⟨aa,0,none⟩) 3 3,vL none 0 0] 64]:=hM;obtain ⟨L497,hL497,hq497,hn497⟩:=aQc (b1:=aa) (b2:=ah) (hM.get 0 (e:=bk aa #[vS [118],vS [98],vS [119]] 9) rfl) (hM.get 12 (e:=bk ah #[vS [116],vI 5,vI 0,vI 0,vL (some ⟨aa,0,none⟩) 3 3,vL none 0 0] 64) rfl);refine aNQ 5 2 36 [] (K:=fun u w8=>∃ v os,u = .agg #[v] /\ aCq w8 v os /\ aAa os=exO (aAa L497)) f0 hM ((aBN hL497 hn497).mono fun e w8 ⟨v,os,h1,h2,h3,h4⟩=>⟨⟨_,h1,v,os,rfl,h2,h3⟩,h4⟩) fun u w1 ⟨ay,os497,hu,hO497,hp497⟩ hM f1=>?_;subst hu;replace hM:Mm nF_ w w1 [bk aa #[vS [118],vS [98],vS [119]] 9,bk ac #[vS [116],vI 5,vI 0,vI 0,vL (some ⟨aa,0,none⟩) 3 3,vL none 0 0] 64,_,_,bk ab #[vL qn487 2 cn487,vL qm487 2 cm487] 31,_,_,bk af #[vL qn490 3 cn490,vL qm490 3 cm490] 31,bk ag #[vS [116],vI 5,vI 0,vI 0,vL (some ⟨aa,0,none⟩) 3 3,vL none 0 0] 64,_,_,bk ai #[vL qn494 0 cn494,vL qm494 0 cm494] 31,bk ah #[vS [116],vI 5,vI 0,vI 0,vL (some ⟨aa,0,none⟩) 3 3,vL none 0 0] 64]:=hM;rw [hq497] at hp497;refine aAM 5 3 37 [] (K:=fun u Mn=>∃ v1 v2,u = .tuple #[.agg #[v1,v2],vI 0] /\ Mn=[rw_ stL 1 9 v1 [[97],[98],[99]],rw_ inL 1 3 v2 [10,13,64]]) [0,1,2,3,4,5,6,7,8,9,10,11,12] [] f0 hM rfl rfl (by decide) (fun hm=>((aCV (prof:=aFo) (f:=[97]) (g:=[99]) hO497 (by decide) (by unfold B63;decide) (fun _=>aHm (.inr rfl) hp497) (hTe.fr hM.fr) 10).mono fun e w8 ⟨v1,v2,c,nd,mi,h1,h2,h3⟩=>by obtain ⟨rfl,rfl,rfl⟩:=aYm (aIv hp497 h2);exact ⟨_,_,h1,⟨v1,v2,rfl,rfl⟩,aCy h3 fun _ h=>h.elim⟩)) fun u Mn w1 hK hM=>?_;obtain ⟨az,a0,rfl,rfl⟩:=hK;obtain ⟨qm498,cm498,em498,sm498⟩:=(hM.src (j:=14) rfl inT.len).op;subst em498;obtain ⟨qn498,cn498,en498,sn498⟩:=(hM.src (j:=13) rfl stT.len).op;subst en498;replace hM:Mm nF_ w w1 [bk aa #[vS [118],vS [98],vS [119]] 9,bk ac #[vS [116],vI 5,vI 0,vI 0,vL (some ⟨aa,0,none⟩) 3 3,vL none 0 0] 64,_,_,bk ab #[vL qn487 2 cn487,vL qm487 2 cm487] 31,_,_,bk af #[vL qn490 3 cn490,vL qm490 3 cm490] 31,bk ag #[vS [116],vI 5,vI 0,vI 0,vL (some ⟨aa,0,none⟩) 3 3,vL none 0 0] 64,_,_,bk ai #[vL qn494 0 cn494,vL qm494 0 cm494] 31,bk ah #[vS [116],vI 5,vI 0,vI 0,vL (some ⟨aa,0,none⟩) 3 3,vL none 0 0] 64,_,_]:=hM;refine aCl 5 7 8 [(38,.agg #[vL qn498 3 cn498,vL qm498 3 cm498]),(39,vI 0)] [] 31 (.agg #[vL qn498 3 cn498,vL qm498 3 cm498]) f0 hM fun aj w1 hM=>aNQ 6 0 41 [(9,vI 0)] (K:=fun u w8=>∃ v os,u = .agg #[v] /\ aCq w8 v os /\ aAa os=exO []) f0 hM ((aBN (L:=[]) ⟨Src.nil _,fun _ h=>by cases h⟩ (by decide)).mono fun e w8 ⟨v,os,h1,h2,h3,h4⟩=>⟨⟨_,h1,v,os,rfl,h2,h3⟩,h4⟩) fun u w1 ⟨a1,os500,hu,hO500,hp500⟩ hM f1=>?_;subst hu;replace hM:Mm nF_ w w1 [bk aa #[vS [118],vS [98],vS [119]] 9,bk ac #[vS [116],vI 5,vI 0,vI 0,vL (some ⟨aa,0,none⟩) 3 3,vL none 0 0] 64,_,_,bk ab #[vL qn487 2 cn487,vL qm487 2 cm487] 31,_,_,bk af #[vL qn490 3 cn490,vL qm490 3 cm490] 31,bk ag #[vS [116],vI 5,vI 0,vI 0,vL (some ⟨aa,0,none⟩) 3 3,vL none 0 0] 64,_,_,bk ai #[vL qn494 0 cn494,vL qm494 0 cm494] 31,bk ah #[vS [116],vI 5,vI 0,vI 0,vL (some ⟨aa,0,none⟩) 3 3,vL none 0 0] 64,_,_,bk aj #[vL qn498 3 cn498,vL qm498 3 cm498] 31]:=hM;refine aAM 6 1 42 [] (K:=fun u Mn=>∃ v1,u = .tuple #[v1,vI 0] /\ Mn=[rw_ rwL 2 56 v1 [([97],0),([98],3),([99],54)]]) [0,1,2,3,4,5,6,7,8,9,10,11,12,13,14,15] [] f0 hM rfl rfl (by decide) (fun hm=>((aGR (prof:=car) (f:=[97]) hO500 (by decide) (by unfold B63;decide) (fun _=>aHm (.inl rfl) hp500) (by have:=congrArg List.length hp500;rw [aA2] at this;rw [this];decide) (hTe.fr hM.fr) 54 10).mono fun e w8 ⟨v1,c,rows,h1,h2,h3⟩=>by obtain ⟨rfl,rfl⟩:=exR (aR6 hp500 h2);exact ⟨_,_,h1,⟨v1,rfl,rfl⟩,aCy h3 fun _ h=>h.elim⟩)) fun u Mn w1 hK hM=>?_;obtain ⟨a2,rfl,rfl⟩:=hK;obtain ⟨qn501,cn501,en501,sn501⟩:=(hM.src (j:=16) rfl rwT.len).op;subst en501;replace hM:Mm nF_ w w1 [bk aa #[vS [118],vS [98],vS [119]] 9,bk ac #[vS [116],vI 5,vI 0,vI 0,vL (some ⟨aa,0,none⟩) 3 3,vL none 0 0] 64,_,_,bk ab #[vL qn487 2 cn487,vL qm487 2 cm487] 31,_,_,bk af #[vL qn490 3 cn490,vL qm490 3 cm490] 31,bk ag #[vS [116],vI 5,vI 0,vI 0,vL (some ⟨aa,0,none⟩) 3 3,vL none 0 0] 64,_,_,bk ai #[vL qn494 0 cn494,vL qm494 0 cm494] 31,bk ah #[vS [116],vI 5,vI 0,vI 0,vL (some ⟨aa,0,none⟩) 3 3,vL none 0 0] 64,_,_,bk aj #[vL qn498 3 cn498,vL qm498 3 cm498] 31,_]:=hM;refine aAp 7 0 45 [(10,vL qn501 3 cn501),(11,vI 0)] (cs:=#[vS [97],vS [98],vS [99]]) (T:=9) (v:=fun b=>vL (some ⟨b,0,none⟩) 3 3) f0 hM fun ad w1 hM=>aAp 7 1 46 [] (cs:=#[vI 10,vI 13,vI 64]) (T:=3) (v:=fun b=>vL (some ⟨b,0,none⟩) 3 3) f0 hM fun ae w1 hM=>aAq 7 2 47 [] f0 hM (aFX (some ⟨ad,0,none⟩) (some ⟨ae,0,none⟩) 3 3 3 3) fun w1 hM=>aCl 7 3 12 [] [] 31 (.agg #[vL (some ⟨ad,0,none⟩) 3 3,vL (some ⟨ae,0,none⟩) 3 3]) f0 hM fun ak w1 hM=>?_;have hM:=hM.pick [2,3,4,5,6,7,13,14,15,16,17,18,19];replace hM:Mm nF_ w w1 [_,_,bk ab #[vL qn487 2 cn487,vL qm487 2 cm487] 31,_,_,bk af #[vL qn490 3 cn490,vL qm490 3 cm490] 31,_,_,bk aj #[vL qn498 3 cn498,vL qm498 3 cm498] 31,_,bk ad #[vS [97],vS [98],vS [99]] 9,bk ae #[vI 10,vI 13,vI 64] 3,bk ak #[vL (some ⟨ad,0,none⟩) 3 3,vL (some ⟨ae,0,none⟩) 3 3] 31]:=hM;refine seg 8 0 [] f0 ?_;have hM:=hM.nl;have hM:=hM.nl;refine drx [4,5,7] (fun Z=>[some (vL (some ⟨(bn (Z 0)),0,none⟩) 2 2),some (vL (some ⟨(bn (Z 1)),0,none⟩) 2 2),some (vB true)]) _ (fun Z l=>[rw_ stL 1 9 (vL qn487 2 cn487) [[97],[98]],rw_ inL 1 3 (vL qm487 2 cm487) [10,13],bk ab #[vL qn487 2 cn487,vL qm487 2 cm487] 31,rw_ stL 1 9 (vL qn490 3 cn490) [[97],[98],[99]],rw_ inL 1 3 (vL qm490 3 cm490) [10,13,64],bk af #[vL qn490 3 cn490,vL qm490 3 cm490] 31,rw_ stL 1 9 (vL qn498 3 cn498) [[97],[98],[99]],rw_ inL 1 3 (vL qm498 3 cm498) [10,13,64],bk aj #[vL qn498 3 cn498,vL qm498 3 cm498] 31,rw_ rwL 2 56 (vL qn501 3 cn501) [([97],0),([98],3),([99],54)],bk ad #[vS [97],vS [98],vS [99]] 9,bk ae #[vI 10,vI 13,vI 64] 3,bk ak #[vL (some ⟨ad,0,none⟩) 3 3,vL (some ⟨ae,0,none⟩) 3 3] 31,(bif l.getD 0 false then bk (bn (Z 0)) #[vS [97],vS [98]] 9 else aJz),(bif l.getD 1 false then bk (bn (Z 1)) #[vI 10,vI 13] 3 else aJz)]) (fun Z=>[(13,vB true)]) hM (fun Z=>rfl) (fun Z l w5 hM=>(fc (lam 31 2 0 2 hM rfl) (fc (tcl (aFX (some ⟨(bn (Z 0)),0,none⟩) (some ⟨(bn (Z 1)),0,none⟩) 2 2 2 2)) (fc (lam 31 5 0 2 hM rfl) (fc (lam 31 12 0 2 hM rfl) (fc (tcl (aI5 rfl rfl rfl rfl ((hM.src (j:=3) rfl stT.len).p).2 ((hM.src (j:=4) rfl inT.len).p).2 (aB4 (f:=stL) (c:=1) (b:=ad) (hM.get 10 (e:=bk ad #[vS [97],vS [98],vS [99]] 9) (by kernel_rfl)) [[97],[98],[99]] 3 (fun _=>rfl) rfl rfl) (aB4 (f:=inL) (c:=1) (b:=ae) (hM.get 11 (e:=bk ae #[vI 10,vI 13,vI 64] 3) (by kernel_rfl)) [10,13,64] 3 (fun _=>rfl) rfl rfl))) (fc (lam 31 8 0 2 hM rfl) (fc (lam 31 12 0 2 hM rfl) (fc (tcl (aI5 rfl rfl rfl rfl ((hM.src (j:=6) rfl stT.len).p).2 ((hM.src (j:=7) rfl inT.len).p).2 (aB4 (f:=stL) (c:=1) (b:=ad) (hM.get 10 (e:=bk ad #[vS [97],vS [98],vS [99]] 9) (by kernel_rfl)) [[97],[98],[99]] 3 (fun _=>rfl) rfl rfl) (aB4 (f:=inL) (c:=1) (b:=ae) (hM.get 11 (e:=bk ae #[vI 10,vI 13,vI 64] 3) (by kernel_rfl)) [10,13,64] 3 (fun _=>rfl) rfl rfl))) f0))))))))) ⟨aCJ 0 4 13 52 (fun Z=>#[vS [97],vS [98]]) 9 (fun b=>vL (some ⟨b,0,none⟩) 2 2),aCJ 1 5 14 53 (fun Z=>#[vI 10,vI 13]) 3 (fun b=>vL (some ⟨b,0,none⟩) 2 2),aFO 2 7 55 (f:=16) (fun Z=>#[.agg #[vL qn487 2 cn487,vL qm487 2 cm487],.agg #[vL (some ⟨(bn (Z 0)),0,none⟩) 2 2,vL (some ⟨(bn (Z 1)),0,none⟩) 2 2]]) (vB true) (fun Z fr wm hM=>(aI5 rfl rfl rfl rfl ((hM.src (j:=0) rfl stT.len).p).2 ((hM.src (j:=1) rfl inT.len).p).2 (aB4 (f:=stL) (c:=1) (b:=(bn (Z 0))) (hM.get 13 (e:=bk (bn (Z 0)) #[vS [97],vS [98]] 9) (by kernel_rfl)) [[97],[98]] 2 (fun _=>rfl) rfl rfl) (aB4 (f:=inL) (c:=1) (b:=(bn (Z 1))) (hM.get 14 (e:=bk (bn (Z 1)) #[vI 10,vI 13] 3) (by kernel_rfl)) [10,13] 2 (fun _=>rfl) rfl rfl))),trivial⟩ fun al w1 hM=>?_;replace hM:Mm nF_ w w1 [_,_,bk ab #[vL qn487 2 cn487,vL qm487 2 cm487] 31,_,_,bk af #[vL qn490 3 cn490,vL qm490 3 cm490] 31,_,_,bk aj #[vL qn498 3 cn498,vL qm498 3 cm498] 31,_,bk ad #[vS [97],vS [98],vS [99]] 9,bk ae #[vI 10,vI 13,vI 64] 3,bk ak #[vL (some ⟨ad,0,none⟩) 3 3,vL (some ⟨ae,0,none⟩) 3 3] 31,bk (bn (al 0)) #[vS [97],vS [98]] 9,bk (bn (al 1)) #[vI 10,vI 13] 3]:=hM;refine aAp 9 10 89 [(84,vB true),(85,vL qn501 3 cn501),(86,.agg #[vS [97],vI 0]),(87,.agg #[vS [98],vI 3]),(88,.agg #[vS [99],vI 54])] (cs:=#[vS [97],vI 0,vS [98],vI 3,vS [99],vI 54]) (T:=56) (v:=fun b=>vL (some ⟨b,0,none⟩) 3 3) f0 hM fun am w1 hM=>aAq 9 11 90 [] f0 hM (aOZ rfl rfl ((hM.src (j:=9) rfl rwT.len).p).2 (aB4 (f:=rwL) (c:=2) (b:=am) (hM.get 15 (e:=bk am #[vS [97],vI 0,vS [98],vI 3,vS [99],vI 54] 56) (by kernel_rfl)) [([97],0),([98],3),([99],54)] 3 (fun _=>rfl) rfl rfl)) fun w1 hM=>rt1 0 (vB true) rfl f0 (hY _ _ ⟨rfl,hM.fr⟩)
theorem aCc (a:Bys):blt a a=false:=by
 have:=aQs a a
 cases h:Op.bytesLess a a with
 | false=>exact h
 | true=>rw [h] at this;simp at this
theorem aMU:∀ {a b c:List UInt8},Op.bytesLess a b=true->Op.bytesLess b c=true->Op.bytesLess a c=true
 | [],_,[],h,k=>by
  rename_i b;cases b<;>simp [Op.bytesLess] at k
 | [],_,_::_,_,_=>by simp [Op.bytesLess]
 | _::_,[],_,h,_=>by simp [Op.bytesLess] at h
 | _::_,_::_,[],_,k=>by simp [Op.bytesLess] at k
 | x::a,y::b,z::c,h,k=>by
  unfold Op.bytesLess at h k ⊢
  by_cases h1:x<y
  ·by_cases k1:y<z
   ·simp [UInt8.lt_trans h1 k1]
   ·by_cases e:y=z
    ·subst e;simp [h1]
    ·simp [k1,e] at k
  ·by_cases e:x=y
   ·subst e;simp at h
    by_cases k1:x<z
    ·simp [k1]
    ·by_cases e2:x=z
     ·subst e2;simp at k;simpa using aMU h k
     ·simp [k1,e2] at k
   ·simp [h1,e] at h
theorem aHw {a b c:Bys}(h:blt a b=true) (k:blt b c=true):blt a c=true:=aMU h k
theorem aPI {k:Bys}:∀ {l:List Ob},aIW k l=true->(∀ o∈l,blt k o.id=true) /\ l.Pairwise fun x y=>blt x.id y.id=true
 | [],_=>⟨fun _ h=>(by cases h),.nil⟩
 | o::l,h=>by
  unfold aIW at h;simp only [Ga_] at h;obtain ⟨h1,h2⟩:=aPI (l:=l) h.2;refine ⟨fun x hx=>?_,List.pairwise_cons.2 ⟨h1,h2⟩⟩;rcases List.mem_cons.1 hx with rfl | hx
  ·exact h.1.2
  ·exact aHw h.1.2 (h1 x hx)
theorem aAY {l:List Ob}(h:aAc l=true):l.Pairwise fun x y=>blt x.id y.id=true:=by
 unfold aAc at h;rw [Ga_] at h;exact (aPI h.1).2
theorem aDN {l:List Ob}(h:l.Pairwise fun x y=>blt x.id y.id=true) {a b:Ob}(ha:a∈l) (hb:b∈l) (e:a.id=b.id):a=b:=by
 obtain ⟨i,hi,rfl⟩:=List.mem_iff_getElem.1 ha;obtain ⟨j,hj,rfl⟩:=List.mem_iff_getElem.1 hb;rcases Nat.lt_trichotomy i j with q | q | q
 ·have:=List.pairwise_iff_getElem.1 h i j hi hj q;rw [e,aCc] at this;cases this
 ·subst q;rfl
 ·have:=List.pairwise_iff_getElem.1 h j i hj hi q;rw [e,aCc] at this;cases this
theorem aMh (l:List Ob) (w:Bys):∀ rs:List Bys,(aFz l w rs).length<=2*rs.length
 | []=>by simp [aFz]
 | [_]=>by simp [aFz]
 | a::b::t=>by
  have:=aMh l w (b::t);unfold aFz;simp only [Gf_] at this ⊢;omega
theorem aNi {l:List ObR}{f:ObR->Nat}(h:∀ b∈l,(f b:Int)<=2*bif b.o.kind==2 then (b.o.refs.length:Int) else 0):((l.map f).sum:Int)<=2*aQn l:=by
 unfold aQn
 induction l with
 | nil=>simp
 | cons b l ih =>
  have h1:=h b (.head _);have h2:=ih fun c hc=>h c (.tail _ hc);rw [List.map_cons,List.map_cons,List.sum_cons,List.sum_cons];rw [Int.natCast_add,Int.mul_add];omega
theorem aHl {os:List ObR}(h:aL7 os=true) (hv:aAc (aAa os)=true):(aAw os).length<=240:=by
 unfold aL7 aJf at h;simp only [Ga_,decide_eq_true_eq] at h;obtain ⟨_,h1,h2⟩:=h;rw [Gc_ (by omega)] at h2;have hp:=aAY hv;unfold aAw;rw [List.length_flatMap]
 have:=aNi (l:=os) (f:=fun b=>(aDx os b).length) fun b hb=>by
  unfold aDx
  cases hk:b.o.kind==2 with
  | false=>simp
  | true =>
   simp only [cond_true]
   cases hw:aIr (aAg (aAa os)) os b.o.id with
   | none=>simp;omega
   | some c =>
    obtain ⟨hc,hid,_,_⟩:=aG8 hw;have e:c.o=b.o:=aDN hp (List.mem_map.2 ⟨c,hc,rfl⟩) (List.mem_map.2 ⟨b,hb,rfl⟩) hid;have:=aMh (aAa os) b.o.id c.o.refs;simp only;rw [e] at this ⊢;omega
 omega
theorem aG1 {os:List ObR}(h:aL7 os=true):os.length<=24:=by
 unfold aL7 aJf at h;simp only [Ga_,decide_eq_true_eq] at h;omega
theorem aFK {A:List Arc}{t:Nat->Option Int}{g:Bys}:∀ {n:Nat},n<=A.length->match aAE A t g n with
  | none=>∀ k a,k<n->A[k]?=some a->a.2.1=g->t k=none
  | some i=>∃ a m,A[i]?=some a /\ a.2.1=g /\ t i=some m /\ ∀ k b m',k<n->A[k]?=some b->b.2.1=g->t k=some m'->m<=m'
 | 0,_=>fun k a hk=>absurd hk (Nat.not_lt_zero _)
 | n+1,hn=>by
  have ih:=aFK (A:=A) (t:=t) (g:=g) (n:=n) (by omega);obtain ⟨a,ha⟩:=geb (l:=A) (i:=n) (by omega);rw [aBC ha]
  cases hc:((t n).isSome&&(a.2.1==g)&&aHc t (aAE A t g n) n) with
  | true =>
   simp only [cond_true];simp only [Ga_] at hc;obtain ⟨⟨h1,h2⟩,h3⟩:=hc;obtain ⟨m,hm⟩:=Option.isSome_iff_exists.1 h1;refine ⟨a,m,ha,et h2,hm,fun k b m' hk hb hg hm'=>?_⟩;rcases Nat.lt_succ_iff_lt_or_eq.1 hk with hk | rfl
   ·cases hl:aAE A t g n with
    | none=>rw [hl] at ih;rw [ih k b hk hb hg] at hm';cases hm'
    | some j =>
     rw [hl] at ih h3;obtain ⟨a2,m2,_,_,h6,h7⟩:=ih;have h8:=h7 k b m' hk hb hg hm';have h9:(t n).getD 0<(t j).getD 0:=of_decide_eq_true h3;rw [hm,h6] at h9;have h9:m<m2:=h9;omega
   ·rw [hm] at hm';cases hm';exact Int.le_refl _
  | false =>
   simp only [cond_false]
   cases hl:aAE A t g n with
   | none =>
    rw [hl] at ih hc;intro k b hk hb hg;rcases Nat.lt_succ_iff_lt_or_eq.1 hk with hk | rfl
    ·exact ih k b hk hb hg
    ·rw [ha] at hb;cases hb;rw [show (a.2.1==g)=true by simpa using hg] at hc
     cases ht:t k with
     | none=>rfl
     | some m=>rw [ht] at hc;cases hc
   | some j =>
    rw [hl] at ih hc;obtain ⟨a2,m2,h4,h5,h6,h7⟩:=ih;refine ⟨a2,m2,h4,h5,h6,fun k b m' hk hb hg hm'=>?_⟩;rcases Nat.lt_succ_iff_lt_or_eq.1 hk with hk | rfl
    ·exact h7 k b m' hk hb hg hm'
    ·rw [ha] at hb;cases hb;rw [show (a.2.1==g)=true by simpa using hg,hm'] at hc;have hc:decide ((t k).getD 0<(t j).getD 0)=false:=hc;have:=of_decide_eq_false hc;rw [hm',h6] at this;have:¬ m'<m2:=this;omega
section
variable {prof f g:Bys}{l:List Ob}{m0 c:Int}{nd:List Bys}{mi:List Int}
end
theorem aDd {l:List Ob}(hp:l.Pairwise fun x y=>blt x.id y.id=true) {o:Ob}(ho:o∈l):¬ aAm l o.id<0 /\ aGi l o.id=o.kind:=by
 have hn:¬ aAm l o.id<0:=by
  unfold aAm
  cases h:l.findIdx? (fun x=>x.id==o.id) with
  | none=>have:=List.findIdx?_eq_none_iff.1 h o ho;simp at this
  | some k=>show ¬ ((k:Nat):Int)<0;omega
 obtain ⟨k,o2,h1,h2,h3⟩:=aDt hn;refine ⟨hn,?_⟩;unfold aGi;rw [h1,Int.toNat_natCast,h2,aDN hp (gm h2) ho h3]
section
variable {prof f g:Bys}{l:List Ob}{n m0 c c2:Int}{rows:List (Bys×Int)}{nd2:List Bys}{mi2:List Int}
end
abbrev A45 (Z:Ending->World->Prop):=AtO Tryz.prog (aAf Tryz.f45) (aAo (bodyPost Tryz.prog Tryz.f45 Z)) [] 25
theorem aEe {w:World}{v:Value}{l:List Tag}(hl:TgV w v l) (k:Bys):Calls Tryz.prog 45 #[v,vS k] w fun e w'=>e = .returned (.tuple #[vS (aAy l k).1,vB (aAy l k).2]) /\ Fr nF_ w w':=by
  obtain ⟨p0,cp0,hp0,sp0⟩:=hl.op;subst hp0;have bp0:=sp0.bnd;refine beg Tryz.func45 rfl rfl [(0,vL p0 l.length cp0),(1,vS k)] rfl rfl fun Z hZ=>?_;have hM:=Mm.nil nF_ w;refine seg 2 0 [(6,vI 0)] f0 ?_
  have ac:∀ (aa:Nat) (i:Nat) (w2:World),i<=l.length->aAy l k=aAy (l.drop i) k->Mm nF_ w w2 []->aa=l.length-i->A45 Z (some (2,0)) [(6,vI (i:Int)),(0,vL p0 l.length cp0),(1,vS k)] w2:=by
   refine aA8 fun aa ad i w2 hi hv hM af=>seg 2 4 [(10,vB (decide ((i:Int)<(l.length:Int))))] f0 ?_;cases h34:(decide ((i:Int)<(l.length:Int)))
   ·have ae:=df h34;exact rt2 4 5 (vS []) (vB false) rfl rfl f0 (hZ _ _ ⟨by rw [hv,Gi_ (by omega)];rfl,hM.fr⟩)
   have ae:=dt h34;obtain ⟨y,hy,ag,ah,q35,ab⟩:=sp0.el (i:=i) (by omega);refine seg 4 7 [(19,vB (y.1==k))] (fc (ix 62 cp0 q35 (gl hy)) (fc (ld0 9 hM (ab 0 _ rfl)) (fc (seq 9 y.1 k) f0))) ?_;cases h36:(y.1==k)
   ·refine seg 2 0 [(6,vI ((i:Int)+1))] (fc (aAe (i:Int) 1 u3_) f0) (aAb _ (ad _ (by have:=gl hy;omega) (i+1) _ (gl hy) (by rw [hv,gd hy,aAy,h36];rfl) hM rfl))
   exact rt2 4 5 (vS y.2) (vB true) rfl rfl (fc (ix 62 cp0 q35 (gl hy)) (fc (ld0 9 hM (ab 1 _ rfl)) f0)) (hZ _ _ ⟨by rw [hv,gd hy,aAy,h36];rfl,hM.fr⟩)
  exact aAb _ (ac _ 0 _ (Gg_ _) rfl hM rfl)
def aKr (id:Bys):Int->List Ob->Int
  | _,[] => -1
  | k,o::l=>bif o.id==id then k else aKr id (k+1) l
theorem aMH (id:Bys):∀ (l:List Ob) (k:Nat),aKr id (k:Int) l=match l.findIdx? (fun o=>o.id==id) with
    | some i=>((k+i:Nat):Int)
    | none => -1
  | [],k=>rfl
  | o::l,k=>by
    unfold aKr;rw [List.findIdx?_cons]
    cases h:o.id==id with
    | true=>rfl
    | false =>
      have:=aMH id l (k+1);rw [show (((k+1:Nat)):Int)=(k:Int)+1 by omega] at this;simp only [cond_false,this]
      cases l.findIdx? fun o=>o.id==id with
      | none=>rfl
      | some i=>show ((k+1+i:Nat):Int)=((k+(i+1):Nat):Int);omega
theorem aPZ (l:List Ob) (id:Bys):aAm l id=aKr id 0 l:=by
  have:=aMH id l 0;rw [show ((0:Nat):Int)=0 from rfl] at this;rw [this];unfold aAm
  cases l.findIdx? fun o=>o.id==id with
  | none=>rfl
  | some i=>show (i:Int)=((0+i:Nat):Int);omega
abbrev A69 (Z:Ending->World->Prop):=AtO Tryz.prog (aAf Tryz.f69) (aAo (bodyPost Tryz.prog Tryz.f69 Z)) [] 22
theorem aC2 {w:World}{v:Value}{l:List ObR}(hm:aCq w v l) (id:Bys):Calls Tryz.prog 69 #[.agg #[v],vS id] w fun e w'=>e = .returned (vI (aAm (aAa l) id)) /\ Fr nF_ w w':=by
  have hm0:=hm;obtain ⟨hs0,hob⟩:=hm0;obtain ⟨p0,cp0,hp0,sp0⟩:=hs0.op;subst hp0;have bp0:=sp0.bnd;refine beg Tryz.func69 rfl rfl [(0,.agg #[vL p0 l.length cp0]),(1,vS id)] rfl rfl fun Z hZ=>?_;have hM:=Mm.nil nF_ w;refine aAp 0 0 2 [] (cs:=#[vL p0 l.length cp0]) (T:=24) (v:=fun b=>vP b 0) f0 hM fun aa w1 hM=>seg 2 0 [(5,vI 0)] f0 ?_
  have ac:∀ (ab:Nat) (i:Nat) (w2:World),i<=l.length->aKr id 0 (aAa l)=aKr id (i:Int) ((aAa l).drop i)->Mm nF_ w w2 [bk aa #[vL p0 l.length cp0] 24]->ab=l.length-i->A69 Z (some (2,0)) [(5,vI (i:Int)),(2,vP aa 0),(1,vS id)] w2:=by
   refine aA8 fun ab ad i w2 hi hv hM ag=>seg 2 5 [(10,vB (decide ((i:Int)<(l.length:Int))))] (fc (ldm 22 0 0 hM rfl rfl) f0) ?_;cases h41:(decide ((i:Int)<(l.length:Int)))
   ·have ae:=df h41;exact rt1 4 (vI (-1)) rfl f0 (hZ _ _ ⟨by rw [aPZ,hv,Gi_ (by rw [aA2];omega)];rfl,hM.fr⟩)
   have ae:=dt h41;obtain ⟨y,hy,ah,ai,q42,af⟩:=sp0.el (i:=i) (by omega);refine seg 4 8 [(20,vB (y.o.id==id))] (fc (ldm 22 0 0 hM rfl rfl) (fc (ix 22 cp0 q42 (gl hy)) (fc (ld0 9 hM (af 0 _ rfl)) (fc (seq 9 y.o.id id) f0)))) ?_;cases h43:(y.o.id==id)
   ·refine seg 2 0 [(5,vI ((i:Int)+1))] (fc (aAe (i:Int) 1 u3_) f0) (aAb _ (ad _ (by have:=gl hy;omega) (i+1) _ (gl hy) (by rw [hv,gd (aAn hy),aKr,h43];rfl) hM rfl))
   exact rt1 4 (vI (i:Int)) rfl f0 (hZ _ _ ⟨by rw [aPZ,hv,gd (aAn hy),aKr,h43];rfl,hM.fr⟩)
  exact aAb _ (ac _ 0 _ (Gg_ _) rfl hM rfl)
def aNA (p:Pt):Bool:=decide (-2097152<=p.1)&&(decide (p.1<=2097152)&&(decide (-2097152<=p.2)&&decide (p.2<=2097152)))
theorem aGt (p:Pt):aNA p=aBt p:=by
  unfold aNA aBt;rw [Bool.eq_iff_iff];simp only [Ga_,Bool.not_eq_true',decide_eq_true_eq,decide_eq_false_iff_not];omega
theorem aGO {w:World}(p:Pt):Calls Tryz.prog 141 #[.agg #[vI p.1,vI p.2]] w fun e w'=>e = .returned (vB (aBt p)) /\ Fr nF_ w w':=by
  refine beg Tryz.func141 rfl rfl [(0,.agg #[vI p.1,vI p.2])] rfl rfl fun Z hZ=>?_;have hM:=Mm.nil nF_ w;refine aAp 0 0 1 [] (cs:=#[vI p.1,vI p.2]) (T:=61) (v:=fun b=>vP b 0) f0 hM fun aa w1 hM=>seg 1 4 [(6,vB (decide ((-2097152)<=p.1)))] (fc (ldm 3 0 0 hM rfl rfl) f0) ?_;cases h45:(decide ((-2097152)<=p.1))
  ·exact rt1 2 (vB false) rfl f0 (hZ _ _ ⟨by rw [←aGt];unfold aNA;simp only [h45]<;>rfl,hM.fr⟩)
  refine seg 1 9 [(11,vB (decide (p.1<=2097152)))] (fc (ldm 3 0 0 hM rfl rfl) f0) ?_;cases h46:(decide (p.1<=2097152))
  ·exact rt1 2 (vB false) rfl f0 (hZ _ _ ⟨by rw [←aGt];unfold aNA;simp only [h45,h46]<;>rfl,hM.fr⟩)
  refine seg 1 14 [(16,vB (decide ((-2097152)<=p.2)))] (fc (ldm 3 0 1 hM rfl rfl) f0) ?_;cases h47:(decide ((-2097152)<=p.2))
  ·exact rt1 2 (vB false) rfl f0 (hZ _ _ ⟨by rw [←aGt];unfold aNA;simp only [h45,h46,h47]<;>rfl,hM.fr⟩)
  exact rt1 2 (vB (decide (p.2<=2097152))) rfl (fc (ldm 3 0 1 hM rfl rfl) f0) (hZ _ _ ⟨by rw [←aGt];unfold aNA;simp only [h45,h46,h47]<;>rfl,hM.fr⟩)
theorem aKu (a b:Pt) (h:aBt a=true) (h2:aBt b=true):aAP a b=(a.1-b.1)*(a.1-b.1)+(a.2-b.2)*(a.2-b.2):=by
  unfold aAP;rw [h,h2];show (b.1-a.1)*(b.1-a.1)+(b.2-a.2)*(b.2-a.2)=_;rw [show b.1-a.1 = -(a.1-b.1) by omega,show b.2-a.2 = -(a.2-b.2) by omega,Int.neg_mul_neg,Int.neg_mul_neg]
theorem aLj {w:World}(a b:Pt):Calls Tryz.prog 108 #[.agg #[vI a.1,vI a.2],.agg #[vI b.1,vI b.2]] w fun e w'=>e = .returned (vI (aAP a b)) /\ Fr nF_ w w':=by
  refine beg Tryz.func108 rfl rfl [(0,.agg #[vI a.1,vI a.2]),(1,.agg #[vI b.1,vI b.2])] rfl rfl fun Z hZ=>?_;have hM:=Mm.nil nF_ w;refine aAp 0 0 2 [] (cs:=#[vI a.1,vI a.2]) (T:=61) (v:=fun b=>vP b 0) f0 hM fun aa w1 hM=>aAp 0 1 3 [] (cs:=#[vI b.1,vI b.2]) (T:=61) (v:=fun b=>vP b 0) f0 hM fun ab w1 hM=>aAq 1 1 6 [(5,.agg #[vI a.1,vI a.2])] (fc (lam 61 0 0 2 hM rfl) f0) hM (aGO a) fun w1 hM=>seg 1 4 [(8,vB (!(aBt a)))] f0 ?_;cases h50:(aBt a)
  ·exact rt1 4 (vI 0) rfl f0 (hZ _ _ ⟨by unfold aAP;simp only [h50]<;>first | rfl | simp,hM.fr⟩)
  refine aAq 1 5 10 [(9,.agg #[vI b.1,vI b.2])] (fc (lam 61 1 0 2 hM rfl) f0) hM (aGO b) fun w1 hM=>seg 1 8 [(12,vB (!(aBt b)))] f0 ?_;cases h51:(aBt b)
  ·exact rt1 4 (vI 0) rfl f0 (hZ _ _ ⟨by unfold aAP;simp only [h50,h51]<;>first | rfl | simp,hM.fr⟩)
  have na:=aCd h50;have nb:=aCd h51;obtain ⟨s0,s1⟩:=aFQ (x:=a.1-b.1) (by omega) (by omega);obtain ⟨s2,s3⟩:=aFQ (x:=a.2-b.2) (by omega) (by omega);exact rt1 4 (vI (((a.1-b.1)*(a.1-b.1))+((a.2-b.2)*(a.2-b.2)))) rfl (fc (ldm 3 0 0 hM rfl rfl) (fc (ldm 3 1 0 hM rfl rfl) (fc (aBx a.1 b.1 u3_) (fc (ldm 3 0 0 hM rfl rfl) (fc (ldm 3 1 0 hM rfl rfl) (fc (aBx a.1 b.1 u3_) (fc (aIx (a.1-b.1) (a.1-b.1) u3_) (fc (ldm 3 0 1 hM rfl rfl) (fc (ldm 3 1 1 hM rfl rfl) (fc (aBx a.2 b.2 u3_) (fc (ldm 3 0 1 hM rfl rfl) (fc (ldm 3 1 1 hM rfl rfl) (fc (aBx a.2 b.2 u3_) (fc (aIx (a.2-b.2) (a.2-b.2) u3_) (fc (aAe ((a.1-b.1)*(a.1-b.1)) ((a.2-b.2)*(a.2-b.2)) u3_) f0))))))))))))))) (hZ _ _ ⟨by rw [aKu a b h50 h51],hM.fr⟩)
def RtR (m:Int) (i o:Nat):Prop:=(m<0->o=0) /\ (0<=m->o*o<=m.toNat /\ m.toNat<(o+2 ^ i)*(o+2 ^ i)) /\ o+2 ^ i<=4294967296
theorem RtR.zero {m:Int}(h:m<=9223372036854775807):RtR m 32 0:=by
  have e:(0+2 ^ 32)*(0+2 ^ 32)=18446744073709551616:=by decide
  exact ⟨fun _=>rfl,fun h0=>⟨by omega,by rw [e];omega⟩,by decide⟩
theorem RtR.yes {m:Int}{i o:Nat}(h:RtR m (i+1) o) (h0:((o+2 ^ i:Nat):Int)*((o+2 ^ i:Nat):Int)<=m):RtR m i (o+2 ^ i):=by
  obtain ⟨h1,h2,h3⟩:=h;rw [Nat.pow_succ] at h2 h3;have hn:0<=((o+2 ^ i:Nat):Int)*((o+2 ^ i:Nat):Int):=Int.mul_nonneg (by omega) (by omega);have hm:0<=m:=by omega
  refine ⟨fun h=>absurd h (by omega),fun _=>⟨?_,?_⟩,by omega⟩
  · rw [←Int.natCast_mul] at h0;omega
  · have:=(h2 hm).2
    rw [show o+2 ^ i*2=o+2 ^ i+2 ^ i by omega] at this;exact this
theorem RtR.no {m:Int}{i o:Nat}(h:RtR m (i+1) o) (h0:¬ ((o+2 ^ i:Nat):Int)*((o+2 ^ i:Nat):Int)<=m):RtR m i o:=by
  obtain ⟨h1,h2,h3⟩:=h;rw [Nat.pow_succ] at h2 h3;refine ⟨h1,fun hm=>⟨(h2 hm).1,?_⟩,by omega⟩;rw [←Int.natCast_mul] at h0;omega
theorem RtR.ok {m:Int}{o:Nat}(h:RtR m 0 o):aB6 m=(o:Int):=by
  obtain ⟨h1,h2,h3⟩:=h;unfold aB6
  cases hm:decide (m<0) with
  | true=>rw [h1 (of_decide_eq_true hm)];rfl
  | false =>
    have h4:=of_decide_eq_false hm;obtain ⟨h5,h6⟩:=h2 (by omega);rw [show aCh m.toNat=o from aEY h5 h6];rfl
def isP (P:Nat) (j:Int):Prop:=P=2 ^ j.toNat
section
variable {m j:Int}{o P:Nat}
theorem RtR.yesI (h:RtR m (j+1).toNat o) (hj:0<=j) (hP:P=2 ^ j.toNat) (h0:((o:Int)+(P:Int))*((o:Int)+(P:Int))<=m):RtR m (j-1+1).toNat (o+P):=by
  rw [show (j+1).toNat=j.toNat+1 by omega] at h;rw [show (j-1+1).toNat=j.toNat by omega,hP];refine h.yes ?_;rw [←hP,Int.natCast_add];exact h0
theorem RtR.noI (h:RtR m (j+1).toNat o) (hj:0<=j) (hP:P=2 ^ j.toNat) (h0:¬ ((o:Int)+(P:Int))*((o:Int)+(P:Int))<=m):RtR m (j-1+1).toNat o:=by
  rw [show (j+1).toNat=j.toNat+1 by omega] at h;rw [show (j-1+1).toNat=j.toNat by omega];refine h.no ?_;rw [←hP,Int.natCast_add];exact h0
theorem RtR.bnd (h:RtR m (j+1).toNat o) (hj:0<=j) (hP:P=2 ^ j.toNat):o+P+P<=4294967296:=by
  rw [show (j+1).toNat=j.toNat+1 by omega] at h;have:=h.2.2;rw [Nat.pow_succ,←hP] at this;omega
theorem aSI:((o:Int)+(P:Int))*((o:Int)+(P:Int))=(((o+P)*(o+P):Nat):Int):=by rw [Int.natCast_mul,Int.natCast_add]
theorem aWo (hm:m<=9223372036854775807) (h:¬ (o:Int)+(P:Int)<=3037000499):¬ ((o:Int)+(P:Int))*((o:Int)+(P:Int))<=m:=by
  have:=Nat.mul_le_mul (show 3037000500<=o+P by omega) (show 3037000500<=o+P by omega);rw [aSI];generalize (o+P)*(o+P)=Q at this ⊢;omega
theorem aRj (h:(o:Int)+(P:Int)<=3037000499):0<=((o:Int)+(P:Int))*((o:Int)+(P:Int)) /\ ((o:Int)+(P:Int))*((o:Int)+(P:Int))<=9223372030926249001:=by
  have:=Nat.mul_le_mul (show o+P<=3037000499 by omega) (show o+P<=3037000499 by omega);rw [aSI];generalize (o+P)*(o+P)=Q at this ⊢;omega
theorem cvu {w:World}(h:0<=j /\ j<=31):Ft.ok Tryz.prog w (.g1 (.convert 3 215) (vI j) (.int .u64 j)):=fun q ρ x ho hx=>by
  have hw:IntKind.u64.wrap j=j:=by
    show j%_=j;exact Int.emod_eq_of_lt h.1 (by show j<18446744073709551616;omega)
  simp [execOp,ho,hx,go_sem,convert,Tryz.underlying215,u3_,hw]
theorem aXV {w:World}(hP:P=2 ^ j.toNat) (h:0<=j /\ j<=31):Ft.ok Tryz.prog w (.g2 (fun x y => .binOp .shl 3 x y 215) (vI 1) (.int .u64 j) (vI (P:Int))):=fun q ρ x y ho hx hy=>by
  have hp:P<=2147483648:=by rw [hP];exact Gp_ (Nat.pow_le_pow_right (by omega) (show j.toNat<=31 by omega)) (by decide)
  have hw:IntKind.i64.wrap ((P:Nat):Int)=(P:Int):=IntWalk.i64_in _ ⟨by omega,by omega⟩;simp [execOp,ho,hx,hy,go_sem];rw [hP] at hw ⊢;simpa using hw
end
abbrev aYB (Z:Ending->World->Prop):=AtO Tryz.prog (aAf Tryz.f107) (aAo (bodyPost Tryz.prog Tryz.f107 Z)) [] 26
theorem aLd {w:World}(m:Int) (hm:m<=9223372036854775807):Calls Tryz.prog 107 #[vI m] w fun e w'=>e = .returned (vI (aB6 m)) /\ Fr nF_ w w':=by
  refine beg Tryz.func107 rfl rfl [(0,vI m)] rfl rfl fun Z hZ=>?_;have hM:=Mm.nil nF_ w;refine seg 3 0 [(3,vI 0),(4,vI 31)] f0 ?_
  have ac:∀ (ab:Nat) (j:Int) (o:Nat) (w2:World),-1<=j->j<=31->RtR m (j+1).toNat o->Mm nF_ w w2 []->ab=(j+1).toNat->aYB Z (some (3,0)) [(4,vI j),(3,vI (o:Int)),(0,vI m)] w2:=by
   refine aA8 fun ab aa j o w2 hj0 hj1 hR hM ae=>seg 3 2 [(7,vB (decide (0<=j)))] f0 ?_;cases h55:(decide (0<=j))
   ·have ad:=df h55;exact rt1 2 (vI (o:Int)) rfl f0 (hZ _ _ ⟨by rw [show (j+1).toNat=0 by omega] at hR;rw [hR.ok],hM.fr⟩)
   have ad:=dt h55;obtain ⟨P,hP⟩:∃ P:Nat,isP P j:=⟨_,rfl⟩;have hPb:=hR.bnd (by omega) hP;refine seg 6 3 [(5,vI ((o:Int)+(P:Int))),(17,vB (decide (((o:Int)+(P:Int))<=3037000499)))] (fc (cvu (j:=j) (by omega)) (fc (aXV (j:=j) hP (by omega)) (fc (aAe (o:Int) (P:Int) u3_) f0))) ?_;cases h56:(decide (((o:Int)+(P:Int))<=3037000499))
   ·refine seg 3 0 [(4,vI (j-1))] (fc (aBx j 1 u3_) f0) (aAb _ (aa _ (by omega) (j-1) o _ (by omega) (by omega) (hR.noI (by omega) hP (aWo hm (of_decide_eq_false h56))) hM rfl))
   have hsm:=aRj (of_decide_eq_true h56);refine seg 6 9 [(23,vB (decide ((((o:Int)+(P:Int))*((o:Int)+(P:Int)))<=m)))] (fc (aIx ((o:Int)+(P:Int)) ((o:Int)+(P:Int)) u3_) f0) ?_;cases h57:(decide ((((o:Int)+(P:Int))*((o:Int)+(P:Int)))<=m))
   ·refine seg 3 0 [(4,vI (j-1))] (fc (aBx j 1 u3_) f0) (aAb _ (aa _ (by omega) (j-1) o _ (by omega) (by omega) (hR.noI (by omega) hP (of_decide_eq_false h57)) hM rfl))
   refine seg 3 0 [(3,vI ((o:Int)+(P:Int))),(4,vI (j-1))] (fc (aBx j 1 u3_) f0) (aAb _ (aa _ (by omega) (j-1) (o+P) _ (by omega) (by omega) (hR.yesI (by omega) hP (of_decide_eq_true h57)) hM rfl))
  exact aAb _ (ac _ 31 0 _ (by omega) (by omega) (RtR.zero hm) hM rfl)
theorem aDA (c d:UInt8):(c==d)=((c.toNat:Int)==(d.toNat:Int)):=by
  rw [Bool.eq_iff_iff,beq_iff_eq,beq_iff_eq];constructor
  · intro h;rw [h]
  · intro h;exact UInt8.toNat_inj.1 (by omega)
theorem aNg (c d:UInt8):decide (c<=d)=decide ((c.toNat:Int)<=(d.toNat:Int)):=by
  rw [Bool.eq_iff_iff,decide_eq_true_eq,decide_eq_true_eq,UInt8.le_iff_toNat_le];omega
theorem aHg (c:UInt8):aBh c=((decide (97<=(c.toNat:Int))&&decide ((c.toNat:Int)<=122))||(decide (65<=(c.toNat:Int))&&decide ((c.toNat:Int)<=90))):=by
  unfold aBh;rw [aNg 97 c,aNg c 122,aNg 65 c,aNg c 90];rfl
theorem aJa (c:UInt8):aAv c=(decide (48<=(c.toNat:Int))&&decide ((c.toNat:Int)<=57)):=by
  unfold aAv;rw [aNg 48 c,aNg c 57];rfl
theorem aLz (c:UInt8):aAI c=(aBh c||aAv c||((c.toNat:Int)==95)):=by
  unfold aAI;rw [aDA c 95];rfl
theorem aPP (c:UInt8):aB7 c=([32,9,10]:Bys).contains c:=by
  unfold aB7;simp [List.contains,List.elem];cases (c==32)<;>cases (c==9)<;>cases (c==10)<;>rfl
theorem aDo (c:UInt8) (w:World):Calls Tryz.prog 105 #[.int .u8 (c.toNat:Int)] w fun e w'=>e = .returned (vB (aBh c)) /\ Fr nF_ w w':=by
  refine beg Tryz.func105 rfl rfl [(0,.int .u8 (c.toNat:Int))] rfl rfl fun Z hZ=>?_;have hM:=Mm.nil nF_ w;refine seg 1 3 [(5,vB (decide (97<=(c.toNat:Int))))] f0 ?_;cases h1:(decide (97<=(c.toNat:Int)))
  ·refine seg 1 10 [(9,vB false),(12,vB (decide (65<=(c.toNat:Int))))] f0 ?_;cases h2:(decide (65<=(c.toNat:Int)))
   ·exact rt1 2 (vB false) rfl f0 (hZ _ _ ⟨by rw [aHg];simp only [h1,h2]<;>rfl,hM.fr⟩)
   exact rt1 2 (vB (decide ((c.toNat:Int)<=90))) rfl f0 (hZ _ _ ⟨by rw [aHg];simp only [h1,h2]<;>rfl,hM.fr⟩)
  refine seg 1 7 [(9,vB (decide ((c.toNat:Int)<=122)))] f0 ?_;cases h3:(decide ((c.toNat:Int)<=122))
  rotate_left
  ·exact rt1 2 (vB true) rfl f0 (hZ _ _ ⟨by rw [aHg];simp only [h1,h3]<;>rfl,hM.fr⟩)
  refine seg 1 10 [(12,vB (decide (65<=(c.toNat:Int))))] f0 ?_;cases h4:(decide (65<=(c.toNat:Int)))
  ·exact rt1 2 (vB false) rfl f0 (hZ _ _ ⟨by rw [aHg];simp only [h1,h3,h4]<;>rfl,hM.fr⟩)
  exact rt1 2 (vB (decide ((c.toNat:Int)<=90))) rfl f0 (hZ _ _ ⟨by rw [aHg];simp only [h1,h3,h4]<;>rfl,hM.fr⟩)
theorem aDK (c:UInt8) (w:World):Calls Tryz.prog 138 #[.int .u8 (c.toNat:Int)] w fun e w'=>e = .returned (vB (aAv c)) /\ Fr nF_ w w':=by
  refine beg Tryz.func138 rfl rfl [(0,.int .u8 (c.toNat:Int))] rfl rfl fun Z hZ=>?_;have hM:=Mm.nil nF_ w;refine seg 1 3 [(5,vB (decide (48<=(c.toNat:Int))))] f0 ?_;cases h5:(decide (48<=(c.toNat:Int)))
  ·exact rt1 2 (vB false) rfl f0 (hZ _ _ ⟨by rw [aJa];simp only [h5]<;>rfl,hM.fr⟩)
  exact rt1 2 (vB (decide ((c.toNat:Int)<=57))) rfl f0 (hZ _ _ ⟨by rw [aJa];simp only [h5]<;>rfl,hM.fr⟩)
theorem aE5 (c:UInt8) (w:World):Calls Tryz.prog 104 #[.int .u8 (c.toNat:Int)] w fun e w'=>e = .returned (vB (aAI c)) /\ Fr nF_ w w':=by
  refine beg Tryz.func104 rfl rfl [(0,.int .u8 (c.toNat:Int))] rfl rfl fun Z hZ=>?_;have hM:=Mm.nil nF_ w;refine aAq 1 1 4 [(3,.int .u8 (c.toNat:Int))] f0 hM (aDo c _) fun w1 hM=>seg 1 3 [(5,vB (aBh c))] f0 ?_;cases h6:(aBh c)
  rotate_left
  ·exact rt1 2 (vB true) rfl f0 (hZ _ _ ⟨by rw [aLz];simp only [h6]<;>rfl,hM.fr⟩)
  refine aAq 1 4 7 [(6,.int .u8 (c.toNat:Int))] f0 hM (aDK c _) fun w1 hM=>seg 1 7 [(9,vB (aAv c))] f0 ?_;cases h7:(aAv c)
  ·exact rt1 2 (vB ((c.toNat:Int)==95)) rfl f0 (hZ _ _ ⟨by rw [aLz];simp only [h6,h7]<;>rfl,hM.fr⟩)
  exact rt1 2 (vB true) rfl f0 (hZ _ _ ⟨by rw [aLz];simp only [h6,h7]<;>rfl,hM.fr⟩)
abbrev aY3 (Z:Ending->World->Prop):=AtO Tryz.prog (aAf Tryz.f142) (aAo (bodyPost Tryz.prog Tryz.f142 Z)) [] 17
theorem aF9 {s:Bys}(hs:s.length<=9223372036854775807) (c:UInt8) (w:World):Calls Tryz.prog 142 #[vS s,.int .u8 (c.toNat:Int)] w fun e w'=>e = .returned (vB (s.contains c)) /\ Fr nF_ w w':=by
  refine beg Tryz.func142 rfl rfl [(0,vS s),(1,.int .u8 (c.toNat:Int))] rfl rfl fun Z hZ=>?_;have hM:=Mm.nil nF_ w;refine seg 2 0 [(5,vI 0)] f0 ?_
  have lp8:∀ (ab:Nat) (i:Nat) (w2:World),i<=s.length->s.contains c=(s.drop i).contains c->Mm nF_ w w2 []->ab=s.length-i->aY3 Z (some (2,0)) [(5,vI (i:Int)),(0,vS s),(1,.int .u8 (c.toNat:Int))] w2:=by
   refine aA8 fun ab ih9 i w2 hi hv hM ae=>seg 2 4 [(9,vB (decide ((i:Int)<(s.length:Int))))] (fc (aCA 9 s) f0) ?_;cases h11:(decide ((i:Int)<(s.length:Int)))
   ·have ac:=df h11;exact rt1 4 (vB false) rfl f0 (hZ _ _ ⟨by rw [hv,Gi_ (by omega)];rfl,hM.fr⟩)
   have ac:=dt h11;obtain ⟨e12,aa⟩:=geb (l:=s) (i:=i) (by omega);refine seg 4 5 [(16,vB ((e12.toNat:Int)==(c.toNat:Int)))] (fc (byt 9 aa) f0) ?_;cases h13:((e12.toNat:Int)==(c.toNat:Int))
   ·have ad:=ef h13;refine seg 2 0 [(5,vI ((i:Int)+1))] (fc (aAe (i:Int) 1 u3_) f0) (aAb _ (ih9 _ (by have:=gl aa;omega) (i+1) _ (gl aa) (by rw [hv,gd aa,List.contains_cons,aDA c e12,show (((c.toNat:Int))==((e12.toNat:Int)))=false by rw [Gw_];exact fun q=>ef h13 q.symm];rfl) hM rfl))
   have ad:=et h13;exact rt1 4 (vB true) rfl f0 (hZ _ _ ⟨by rw [hv,gd aa,List.contains_cons,aDA c e12,show (((c.toNat:Int))==((e12.toNat:Int)))=true by rw [beq_iff_eq];exact (et h13).symm];rfl,hM.fr⟩)
  exact aAb _ (lp8 _ 0 _ (Gg_ _) rfl hM rfl)
theorem aUQ (c:UInt8):aBh c=(cl8 c==3):=by
  have h:∀ i:Fin 256,aBh (UInt8.ofNat i.val)=(cl8 (UInt8.ofNat i.val)==3):=by decide +kernel
  have:=h ⟨c.toNat,c.toNat_lt⟩;simpa using this
theorem aQp (c:UInt8):aAI c=(cl8 c==3||(cl8 c==4||cl8 c==5)):=by
  have h:∀ i:Fin 256,aAI (UInt8.ofNat i.val)=(cl8 (UInt8.ofNat i.val)==3||(cl8 (UInt8.ofNat i.val)==4||cl8 (UInt8.ofNat i.val)==5)):=by decide +kernel
  have:=h ⟨c.toNat,c.toNat_lt⟩;simpa using this
theorem aKe:∀ (l:Bys) (i:Nat),aFG (i+1) l=l.all aAI
  | [],i=>rfl
  | c::l,i=>by
    unfold aFG aFH;rw [aKe l (i+1),List.all_cons,aQp c];rfl
def aUu:Bys->Bool
  | []=>false
  | c::l=>(c::l).all aAI&&(decide (((c::l).length:Int)<=24)&&aBh c)
theorem aEj {s:Bys}{c:UInt8}(h:s[0]?=some c):aUu s=(s.all aAI&&(decide ((s.length:Int)<=24)&&aBh c)):=by
  cases s with
  | nil=>cases h
  | cons d l=>cases h;rfl
theorem aRY {s:Bys}(h:s.all aAI=false):aUu s=false:=by
  cases s with
  | nil=>rfl
  | cons d l=>rw [aEj (c:=d) rfl,h];rfl
theorem aGv (s:Bys):aUu s=aA3 s:=by
  cases s with
  | nil=>rfl
  | cons c l =>
    rw [aEj (c:=c) rfl];unfold aA3 aFG aFH;rw [aKe l 0,List.all_cons,aQp c,aUQ c];rw [show decide (((c::l).length:Int)<=24)=decide ((c::l).length<=24) by rw [decide_eq_decide];omega];cases cl8 c==3<;>cases decide ((c::l).length<=24)<;>cases l.all aAI<;>simp
abbrev A68 (Z:Ending->World->Prop):=AtO Tryz.prog (aAf Tryz.f68) (aAo (bodyPost Tryz.prog Tryz.f68 Z)) [] 28
theorem aAx {s:Bys}(hs:s.length<=9223372036854775807) (w:World):Calls Tryz.prog 68 #[vS s] w fun e w'=>e = .returned (vB (aA3 s)) /\ Fr nF_ w w':=by
  refine beg Tryz.func68 rfl rfl [(0,vS s)] rfl rfl fun Z hZ=>?_;have hM:=Mm.nil nF_ w;refine seg 2 0 [(3,vI 0)] f0 ?_
  have ad:∀ (ab:Nat) (i:Nat) (w2:World),i<=s.length->s.all aAI=(s.drop i).all aAI->Mm nF_ w w2 []->ab=s.length-i->A68 Z (some (2,0)) [(3,vI (i:Int)),(0,vS s)] w2:=by
   refine aA8 fun ab ae i w2 hi hv hM ai=>seg 2 4 [(7,vB (decide ((i:Int)<(s.length:Int))))] (fc (aCA 9 s) f0) ?_;cases h17:(decide ((i:Int)<(s.length:Int)))
   rotate_left
   ·have af:=dt h17;obtain ⟨e21,aa⟩:=geb (l:=s) (i:=i) (by omega);refine aAq 4 3 13 [(12,.int .u8 (e21.toNat:Int))] (fc (byt 9 aa) f0) hM (aE5 e21 _) fun w1 hM=>seg 4 5 [(14,vB (!(aAI e21)))] f0 ?_;cases h22:(aAI e21)
    ·exact rt1 2 (vB false) rfl f0 (hZ _ _ ⟨by rw [←aGv,aRY (show s.all aAI=false by rw [hv,aBf aa,h22];rfl)],hM.fr⟩)
    refine seg 2 0 [(3,vI ((i:Int)+1))] (fc (aAe (i:Int) 1 u3_) f0) (aAb _ (ae _ (by have:=gl aa;omega) (i+1) _ (gl aa) (by rw [hv,aBf aa,h22];rfl) hM rfl))
   have af:=df h17;refine seg 6 4 [(18,vB (decide (0<(s.length:Int))))] (fc (aCA 9 s) f0) ?_;cases h18:(decide (0<(s.length:Int)))
   ·have ag:=df h18;exact rt1 2 (vB false) rfl f0 (hZ _ _ ⟨by rw [←aGv,show s=[] from List.eq_nil_of_length_eq_zero (by have:=df h18;omega)];rfl,hM.fr⟩)
   have ag:=dt h18;refine seg 6 9 [(23,vB (decide ((s.length:Int)<=24)))] (fc (aCA 9 s) f0) ?_;cases h19:(decide ((s.length:Int)<=24))
   ·have ah:=df h19;obtain ⟨c0,hc0⟩:=geb (l:=s) (i:=0) (by have:=dt h18;omega);exact rt1 2 (vB false) rfl f0 (hZ _ _ ⟨by rw [←aGv,aEj hc0,hv,Gi_ (by omega)];simp only [h19,List.all_nil]<;>rfl,hM.fr⟩)
   have ah:=dt h19;obtain ⟨e20,ac⟩:=geb (l:=s) (i:=0) (by omega);refine aAq 6 11 26 [(25,.int .u8 (e20.toNat:Int))] (fc (byt 9 ac) f0) hM (aDo e20 _) fun w1 hM=>rt1 2 (vB (aBh e20)) rfl f0 (hZ _ _ ⟨by rw [←aGv,aEj ac,hv,Gi_ (by omega)];simp only [h19,List.all_nil]<;>rfl,hM.fr⟩)
  exact aAb _ (ad _ 0 _ (Gg_ _) rfl hM rfl)
theorem aPc (a b:Int) (w:World):Calls Tryz.prog 134 #[.agg #[vI a,vI b]] w fun e w'=>e = .returned (vB (onB a b)) /\ Fr nF_ w w':=by
  refine beg Tryz.func134 rfl rfl [(0,.agg #[vI a,vI b])] rfl rfl fun Z hZ=>?_;have hM:=Mm.nil nF_ w;refine aAp 0 0 1 [] (cs:=#[vI a,vI b]) (T:=61) (v:=fun b=>vP b 0) f0 hM fun aa w1 hM=>seg 1 4 [(6,vB (decide (0<=a)))] (fc (ldm 3 0 0 hM rfl rfl) f0) ?_;cases h24:(decide (0<=a))
  ·exact rt1 2 (vB false) rfl f0 (hZ _ _ ⟨by unfold onB;simp only [h24]<;>rfl,hM.fr⟩)
  refine seg 1 9 [(11,vB (decide (a<1048576)))] (fc (ldm 3 0 0 hM rfl rfl) f0) ?_;cases h25:(decide (a<1048576))
  ·exact rt1 2 (vB false) rfl f0 (hZ _ _ ⟨by unfold onB;simp only [h24,h25]<;>rfl,hM.fr⟩)
  refine seg 1 14 [(16,vB (decide (0<=b)))] (fc (ldm 3 0 1 hM rfl rfl) f0) ?_;cases h26:(decide (0<=b))
  ·exact rt1 2 (vB false) rfl f0 (hZ _ _ ⟨by unfold onB;simp only [h24,h25,h26]<;>rfl,hM.fr⟩)
  exact rt1 2 (vB (decide (b<1048576))) rfl (fc (ldm 3 0 1 hM rfl rfl) f0) (hZ _ _ ⟨by unfold onB;simp only [h24,h25,h26]<;>rfl,hM.fr⟩)
abbrev aYz (Z:Ending->World->Prop):=AtO Tryz.prog (aAf Tryz.f147) (aAo (bodyPost Tryz.prog Tryz.f147 Z)) [] 18
theorem aPe {w:World}{v:Value}{l:List Bys}(hl:StV w v l) (k:Bys):Calls Tryz.prog 147 #[v,vS k] w fun e w'=>e = .returned (vB (l.contains k)) /\ Fr nF_ w w':=by
  obtain ⟨p0,cp0,hp0,sp0⟩:=hl.op;subst hp0;have bp0:=sp0.bnd;refine beg Tryz.func147 rfl rfl [(0,vL p0 l.length cp0),(1,vS k)] rfl rfl fun Z hZ=>?_;have hM:=Mm.nil nF_ w;refine seg 2 0 [(5,vI 0)] f0 ?_
  have ab:∀ (aa:Nat) (i:Nat) (w2:World),i<=l.length->l.contains k=(l.drop i).contains k->Mm nF_ w w2 []->aa=l.length-i->aYz Z (some (2,0)) [(5,vI (i:Int)),(0,vL p0 l.length cp0),(1,vS k)] w2:=by
   refine aA8 fun aa ac i w2 hi hv hM af=>seg 2 4 [(9,vB (decide ((i:Int)<(l.length:Int))))] f0 ?_;cases h30:(decide ((i:Int)<(l.length:Int)))
   ·have ad:=df h30;exact rt1 4 (vB false) rfl f0 (hZ _ _ ⟨by rw [hv,Gi_ (by omega)];rfl,hM.fr⟩)
   have ad:=dt h30;obtain ⟨y,hy,ag,ah,q31,ae⟩:=sp0.el (i:=i) (by omega);refine seg 4 6 [(17,vB (y==k))] (fc (ix 28 cp0 q31 (gl hy)) (fc (ld0 9 hM (ae 0 _ rfl)) (fc (seq 9 y k) f0))) ?_;cases h32:(y==k)
   ·refine seg 2 0 [(5,vI ((i:Int)+1))] (fc (aAe (i:Int) 1 u3_) f0) (aAb _ (ac _ (by have:=gl hy;omega) (i+1) _ (gl hy) (by rw [hv,gd hy,List.contains_cons,show (k==y)=false from beq_eq_false_iff_ne.2 fun q=>ef h32 q.symm];rfl) hM rfl))
   exact rt1 4 (vB true) rfl f0 (hZ _ _ ⟨by rw [hv,gd hy,List.contains_cons,show (k==y)=true from beq_iff_eq.2 (et h32).symm];rfl,hM.fr⟩)
  exact aAb _ (ab _ 0 _ (Gg_ _) rfl hM rfl)
theorem aW6 {k:Int}(h1:¬ k<1) (h2:¬ 5<k):(#[vS [],vS [110,111,100,101],vS [119,97,121],vS [97,114,101,97],vS [114,111,117,116,101],vS [116,117,114,110]]:Array Value)[k.toNat]?=some (vS (aBU k)):=by
  have:=aVl (i:=k.toNat) (by omega);rw [show ((k.toNat:Nat):Int)=k by omega] at this;exact this
theorem aLQ {k:Int}(h:k<1∨5<k):aBU k=[]:=by
  unfold aBU
  by_cases e:k<0∨6<=k
  · rw [if_pos e]
  · rw [if_neg e,show k=0 by omega];rfl
theorem aFR (k:Int) (w:World):Calls Tryz.prog 135 #[vI k] w fun e w'=>e = .returned (vS (aBU k)) /\ Fr nF_ w w':=by
  refine beg Tryz.func135 rfl rfl [(0,vI k)] rfl rfl fun Z hZ=>?_;have hM:=Mm.nil nF_ w;refine aAp 1 0 4 [] (cs:=#[vS [],vS [110,111,100,101],vS [119,97,121],vS [97,114,101,97],vS [114,111,117,116,101],vS [116,117,114,110]]) (T:=9) (v:=fun b=>vL (some ⟨b,0,none⟩) 6 6) f0 hM fun aa w1 hM=>seg 2 3 [(3,vL (some ⟨aa,0,none⟩) 6 6),(7,vB (decide (k<1)))] f0 ?_;cases h34:(decide (k<1))
  rotate_left
  ·have ab:=dt h34;exact rt1 2 (vS []) rfl f0 (hZ _ _ ⟨by rw [aLQ (by omega)],hM.fr⟩)
  have ab:=df h34;refine seg 2 6 [(10,vB (decide (5<k)))] f0 ?_;cases h35:(decide (5<k))
  ·have ac:=df h35;exact rt1 2 (vS (aBU k)) rfl (fc (ix 28 6 (p:=some ⟨aa,0,none⟩) (g:=aa) (off:=0) (n:=6) (i:=k.toNat) rfl (by omega) (z:=k) (hz:=by omega)) (fc (ldt 9 0 hM rfl (aW6 (k:=k) (by omega) (by omega))) f0)) (hZ _ _ ⟨rfl,hM.fr⟩)
  have ac:=dt h35;exact rt1 2 (vS []) rfl f0 (hZ _ _ ⟨by rw [aLQ (by omega)],hM.fr⟩)
theorem aPB {s:Bys}(h:aA3 s=true):blt [] s=true:=by
  cases s with
  | nil=>simp [aA3] at h
  | cons c l=>rfl
theorem aLZ {k:Bys}{t:Tag}{l:List Tag}(h1:aA3 t.1=true) (h2:blt k t.1=true) (h3:¬ (t.2.length:Int)<1) (h4:¬ 200<(t.2.length:Int)):aI1 k (t::l)=aI1 t.1 l:=by
  have:(t.2==[])=false:=by
    cases h:t.2 with
    | nil=>rw [h] at h3;exact absurd (by decide) h3
    | cons c l=>rfl
  rw [aI1,h1,h2,this,show decide ((t.2.length:Int)<=200)=true by rw [decide_eq_true_eq];omega];rfl
theorem aI0 {k:Bys}{t:Tag}{l:List Tag}(h:aA3 t.1=false∨blt k t.1=false∨(t.2.length:Int)<1∨200<(t.2.length:Int)):aI1 k (t::l)=false:=by
  rw [aI1];rcases h with h | h | h | h
  · rw [h];rfl
  · rw [h];simp
  · rw [show t.2=[] from List.eq_nil_of_length_eq_zero (by omega)];simp
  · rw [show decide ((t.2.length:Int)<=200)=false by rw [decide_eq_false_iff_not];omega];simp
theorem aGn {l:List Tag}(h:aI1 [] l=false):aBr l=false:=by unfold aBr;rw [h];rfl
def aR8 (l:List Tag):Nat->Bys
  | 0=>[]
  | i+1=>((l[i]?).map (·.1)).getD []
theorem aMu {l:List Tag}{i:Nat}{x:Tag}(h0:0<i) (h:l[i-1]?=some x):aR8 l i=x.1:=by
  obtain ⟨j,rfl⟩:∃ j,i=j+1:=⟨i-1,by omega⟩;rw [show j+1-1=j by omega] at h;show ((l[j]?).map (·.1)).getD []=x.1;rw [h];rfl
theorem aMt {l:List Tag}{i:Nat}{x:Tag}(h:l[i]?=some x):aR8 l (i+1)=x.1:=by
  show ((l[i]?).map (·.1)).getD []=x.1;rw [h];rfl
theorem aUi {l:List Tag}{i:Nat}(h:¬ 0<i):aR8 l i=[]:=by rw [show i=0 by omega];rfl
abbrev aY6 (Z:Ending->World->Prop):=AtO Tryz.prog (aAf Tryz.f136) (aAo (bodyPost Tryz.prog Tryz.f136 Z)) [] 56
theorem aGL {w:World}{v:Value}{l:List Tag}(hl:TgV w v l) (hb:∀ t∈l,B63 t.1 /\ B63 t.2):Calls Tryz.prog 136 #[v] w fun e w'=>e = .returned (vB (aBr l)) /\ Fr nF_ w w':=by
  obtain ⟨p0,cp0,hp0,sp0⟩:=hl.op;subst hp0;have bp0:=sp0.bnd;refine beg Tryz.func136 rfl rfl [(0,vL p0 l.length cp0)] rfl rfl fun Z hZ=>?_;have hM:=Mm.nil nF_ w;refine seg 1 3 [(6,vB (decide (60<(l.length:Int))))] f0 ?_;cases h36:(decide (60<(l.length:Int)))
  rotate_left
  ·have ad:=dt h36;exact rt1 2 (vB false) rfl f0 (hZ _ _ ⟨by unfold aBr;rw [show decide ((l.length:Int)<=60)=false by rw [decide_eq_false_iff_not];omega,Bool.and_false],hM.fr⟩)
  have ad:=df h36;refine seg 4 0 [(3,vI 0)] f0 ?_
  have ae:∀ (ab:Nat) (i:Nat) (w2:World),i<=l.length->aI1 [] l=aI1 (aR8 l i) (l.drop i)->Mm nF_ w w2 []->ab=l.length-i->aY6 Z (some (4,0)) [(3,vI (i:Int)),(0,vL p0 l.length cp0)] w2:=by
   refine aA8 fun ab ac i w2 hi hv hM ai=>seg 4 4 [(10,vB (decide ((i:Int)<(l.length:Int))))] f0 ?_;cases h40:(decide ((i:Int)<(l.length:Int)))
   ·have af:=df h40;exact rt1 2 (vB true) rfl f0 (hZ _ _ ⟨by unfold aBr;rw [hv,Gi_ (by omega),show decide ((l.length:Int)<=60)=true by rw [decide_eq_true_eq];omega];rfl,hM.fr⟩)
   have af:=dt h40;obtain ⟨y,hy,aj,ak,q41,aa⟩:=sp0.el (i:=i) (by omega);refine seg 6 0 [] f0 ?_;cases h42:(aA3 y.1)
   ·refine drc [(55,vB true)] hM (fun w5 hM=>(fc (ix 62 cp0 q41 (gl hy)) (fc (ld0 9 hM (aa 0 _ rfl)) (fc (rzc (tcl (aAx (hb _ (gm hy)).1 _)) h42) f0)))) fun w5 hM=>rt1 2 (vB false) rfl f0 (hZ _ _ ⟨by rw [aGn (by rw [hv,gd hy];exact aI0 (.inl h42))],hM.fr⟩)
   cases h43:(decide ((y.2.length:Int)<1))
   rotate_left
   ·refine drc [(55,vB true)] hM (fun w5 hM=>(fc (ix 62 cp0 q41 (gl hy)) (fc (ld0 9 hM (aa 0 _ rfl)) (fc (rzc (tcl (aAx (hb _ (gm hy)).1 _)) h42) (fc (ix 62 cp0 q41 (gl hy)) (fc (ld0 9 hM (aa 1 _ rfl)) (fc (aCA 9 y.2) (fc (tv 27 h43) f0)))))))) fun w5 hM=>rt1 2 (vB false) rfl f0 (hZ _ _ ⟨by rw [aGn (by rw [hv,gd hy];exact aI0 (.inr (.inr (.inl (dt h43)))))],hM.fr⟩)
   cases h44:(decide (200<(y.2.length:Int)))
   rotate_left
   ·refine drc [(55,vB true)] hM (fun w5 hM=>(fc (ix 62 cp0 q41 (gl hy)) (fc (ld0 9 hM (aa 0 _ rfl)) (fc (rzc (tcl (aAx (hb _ (gm hy)).1 _)) h42) (fc (ix 62 cp0 q41 (gl hy)) (fc (ld0 9 hM (aa 1 _ rfl)) (fc (aCA 9 y.2) (fc (tv 27 h43) (fc (ix 62 cp0 q41 (gl hy)) (fc (ld0 9 hM (aa 1 _ rfl)) (fc (aCA 9 y.2) (fc (tv 36 h44) f0)))))))))))) fun w5 hM=>rt1 2 (vB false) rfl f0 (hZ _ _ ⟨by rw [aGn (by rw [hv,gd hy];exact aI0 (.inr (.inr (.inr (dt h44)))))],hM.fr⟩)
   cases h45:(decide (0<(i:Int)))
   ·have ag:=df h45;refine drc [(55,vB false)] hM (fun w5 hM=>(fc (ix 62 cp0 q41 (gl hy)) (fc (ld0 9 hM (aa 0 _ rfl)) (fc (rzc (tcl (aAx (hb _ (gm hy)).1 _)) h42) (fc (ix 62 cp0 q41 (gl hy)) (fc (ld0 9 hM (aa 1 _ rfl)) (fc (aCA 9 y.2) (fc (tv 27 h43) (fc (ix 62 cp0 q41 (gl hy)) (fc (ld0 9 hM (aa 1 _ rfl)) (fc (aCA 9 y.2) (fc (tv 36 h44) (fc (tv 40 h45) f0))))))))))))) fun w5 hM=>seg 4 0 [(3,vI ((i:Int)+1))] (fc (aAe (i:Int) 1 u3_) f0) (aAb _ (ac _ (by have:=gl hy;omega) (i+1) _ (gl hy) (by rw [hv,gd hy,aMt hy];exact aLZ h42 (by rw [aUi (by have:=df h45;omega)];exact aPB h42) (df h43) (df h44)) hM rfl))
   have ag:=dt h45;obtain ⟨z,hz,al,am,q46,ah⟩:=sp0.el (i:=(i-1)) (by omega);refine drc [(55,vB (!(blt z.1 y.1)))] hM (fun w5 hM=>(fc (ix 62 cp0 q41 (gl hy)) (fc (ld0 9 hM (aa 0 _ rfl)) (fc (rzc (tcl (aAx (hb _ (gm hy)).1 _)) h42) (fc (ix 62 cp0 q41 (gl hy)) (fc (ld0 9 hM (aa 1 _ rfl)) (fc (aCA 9 y.2) (fc (tv 27 h43) (fc (ix 62 cp0 q41 (gl hy)) (fc (ld0 9 hM (aa 1 _ rfl)) (fc (aCA 9 y.2) (fc (tv 36 h44) (fc (tv 40 h45) (fc (aBx (i:Int) 1 u3_) (fc (ix 62 cp0 q46 (gl hz) (z:=((i:Int)-1)) (hz:=(by omega))) (fc (ld0 9 hM (ah 0 _ rfl)) (fc (ix 62 cp0 q41 (gl hy)) (fc (ld0 9 hM (aa 0 _ rfl)) (fc (sge 9 z.1 y.1) f0))))))))))))))))))) fun w5 hM=>?_;cases h47:(blt z.1 y.1)
   ·exact rt1 2 (vB false) rfl f0 (hZ _ _ ⟨by rw [aGn (by rw [hv,gd hy];exact aI0 (.inr (.inl (by rw [aMu (by have:=dt h45;omega) hz];exact h47))))],hM.fr⟩)
   refine seg 4 0 [(3,vI ((i:Int)+1))] (fc (aAe (i:Int) 1 u3_) f0) (aAb _ (ac _ (by have:=gl hy;omega) (i+1) _ (gl hy) (by rw [hv,gd hy,aMt hy];exact aLZ h42 (by rw [aMu (by have:=dt h45;omega) hz];exact h47) (df h43) (df h44)) hM rfl))
  exact aAb _ (ae _ 0 _ (Gg_ _) rfl hM rfl)
theorem aU1 {L:List Bys}{i:Nat}{z:Bys}(h0:0<i) (h:L[i-1]?=some z):((L.take i).getLast?.getD [])=z:=by
  have:=aKi h;rw [show i-1+1=i by omega] at this;exact this
theorem aNc {o:Ob}{i:Nat}{y:Bys}(hy:o.refs[i]?=some y) (h1:aA3 y=true) (h2:(o.kind==2)=false∨¬ y=((o.refs.take i).getLast?.getD [])) (h3:(o.kind==3)=false∨(o.refs.take i).contains y=false):aBF o i=false:=by
  unfold aBF;rw [hy];show aCS _ _ _ _=false;unfold aCS;rw [h1];rcases h2 with h2 | h2<;>rcases h3 with h3 | h3
  · rw [h2,h3];rfl
  · rw [h2,h3];simp
  · rw [h3,beq_eq_false_iff_ne.2 h2];simp
  · rw [h3,beq_eq_false_iff_ne.2 h2];simp
theorem aJ2 {o:Ob}{i:Nat}{y:Bys}(hy:o.refs[i]?=some y) (h:aA3 y=false∨((o.kind==2)=true /\ y=((o.refs.take i).getLast?.getD []))∨((o.kind==3)=true /\ (o.refs.take i).contains y=true)):aBF o i=true:=by
  unfold aBF;rw [hy];show aCS _ _ _ _=true;unfold aCS;rcases h with h | ⟨h,h2⟩ | ⟨h,h2⟩
  · rw [h];simp
  · rw [h,←h2];simp
  · rw [h,h2];simp
theorem aGQ {o:Ob}{i:Nat}{y:Bys}(hy:o.refs[i]?=some y) (h:aBF o i=true):aAU o=false:=by
  unfold aAU;rw [←Bool.not_eq_true,List.all_eq_true];intro q;have:=q i (List.mem_range.2 (gl hy));rw [h] at this;cases this
theorem aFa {o:Ob}(h:∀ k,k<o.refs.length->aBF o k=false):aAU o=true:=List.all_eq_true.2 fun i hi=>by rw [h i (List.mem_range.1 hi)];rfl
theorem aFB {o:Ob}{i:Nat}(h:∀ k,k<i->aBF o k=false) (h2:aBF o i=false):∀ k,k<i+1->aBF o k=false:=fun k hk=>by
  by_cases e:k=i
  · rw [e];exact h2
  · exact h k (by omega)
def aEs (o:Ob):Bool := !decide (2000<(o.refs.length:Int))&&(aAU o&&bif o.kind==1 then (o.refs.length:Int)==0 else bif o.kind==2 then decide (2<=(o.refs.length:Int)) else bif o.kind==3 then decide (3<=(o.refs.length:Int)) else bif o.kind==4 then decide (1<=(o.refs.length:Int)) else (o.refs.length:Int)==3)
abbrev aY5 (Z:Ending->World->Prop):=AtO Tryz.prog (aAf Tryz.f137) (aAo (bodyPost Tryz.prog Tryz.f137 Z)) [] 87
theorem aGM {w:World}{b:ObR}(hb:ObIn w b):Calls Tryz.prog 137 #[vA (obL b)] w fun e w'=>e = .returned (vB (aEs b.o)) /\ Fr nF_ w w':=by
  refine beg Tryz.func137 rfl rfl [(0,.agg #[vS b.o.id,vI b.o.kind,vI b.o.x,vI b.o.y,vL b.pr b.o.refs.length b.cr,vL b.pt b.o.tags.length b.ct])] rfl rfl fun Z hZ=>?_;have hM:=Mm.nil nF_ w;refine aAp 0 0 1 [] (cs:=#[vS b.o.id,vI b.o.kind,vI b.o.x,vI b.o.y,vL b.pr b.o.refs.length b.cr,vL b.pt b.o.tags.length b.ct]) (T:=64) (v:=fun b=>vP b 0) f0 hM fun ac w1 hM=>seg 2 2 [(3,vI (b.o.refs.length:Int)),(10,vB (decide (2000<(b.o.refs.length:Int))))] (fc (ldm 28 0 4 hM rfl rfl) f0) ?_;cases h83:(decide (2000<(b.o.refs.length:Int)))
  rotate_left
  ·have am:=dt h83;exact rt1 2 (vB false) rfl f0 (hZ _ _ ⟨by unfold aEs;rw [h83];rfl,hM.fr⟩)
  have am:=df h83;refine aHF 4 0 11 [] 9 f0 hM fun ab w1 hM=>?_;have hM:=hM.cast (M':=[bk ac #[vS b.o.id,vI b.o.kind,vI b.o.x,vI b.o.y,vL b.pr b.o.refs.length b.cr,vL b.pt b.o.tags.length b.ct] 64,mp Tryz.prog 9 ab 0 (aHA (b.o.refs.take 0))]) (by rw [List.take_zero,aMf];(try rfl));refine seg 6 0 [(4,.map (some ab)),(5,vI 0)] f0 ?_
  have an:∀ (aj:Nat) (i:Nat) (w2:World),i<=b.o.refs.length->(∀ k,k<i->aBF b.o k=false)->Mm nF_ w w2 [bk ac #[vS b.o.id,vI b.o.kind,vI b.o.x,vI b.o.y,vL b.pr b.o.refs.length b.cr,vL b.pt b.o.tags.length b.ct] 64,mp Tryz.prog 9 ab i (aHA (b.o.refs.take i))]->aj=b.o.refs.length-i->aY5 Z (some (6,0)) [(5,vI (i:Int)),(4,.map (some ab)),(3,vI (b.o.refs.length:Int)),(1,vP ac 0)] w2:=by
   refine aA8 fun aj ad i w2 hi hg hM aw=>seg 6 3 [(14,vB (decide ((i:Int)<(b.o.refs.length:Int))))] f0 ?_;cases h88:(decide ((i:Int)<(b.o.refs.length:Int)))
   ·have ao:=df h88;refine seg 12 2 [(68,vI b.o.kind),(69,vB (b.o.kind==1))] (fc (ldm 3 0 1 hM rfl rfl) f0) ?_;cases h89:(b.o.kind==1)
    rotate_left
    ·have hall:=aFa (o:=b.o) (fun k hk=>hg k (by omega));exact rt1 2 (vB ((b.o.refs.length:Int)==0)) rfl f0 (hZ _ _ ⟨by unfold aEs;rw [h83,hall];simp only [h89]<;>rfl,hM.fr⟩)
    refine seg 14 2 [(73,vB (b.o.kind==2))] f0 ?_;cases h90:(b.o.kind==2)
    rotate_left
    ·have hall:=aFa (o:=b.o) (fun k hk=>hg k (by omega));exact rt1 2 (vB (decide (2<=(b.o.refs.length:Int)))) rfl f0 (hZ _ _ ⟨by unfold aEs;rw [h83,hall];simp only [h89,h90]<;>rfl,hM.fr⟩)
    refine seg 16 2 [(77,vB (b.o.kind==3))] f0 ?_;cases h91:(b.o.kind==3)
    rotate_left
    ·have hall:=aFa (o:=b.o) (fun k hk=>hg k (by omega));exact rt1 2 (vB (decide (3<=(b.o.refs.length:Int)))) rfl f0 (hZ _ _ ⟨by unfold aEs;rw [h83,hall];simp only [h89,h90,h91]<;>rfl,hM.fr⟩)
    refine seg 18 2 [(81,vB (b.o.kind==4))] f0 ?_;cases h92:(b.o.kind==4)
    ·have hall:=aFa (o:=b.o) (fun k hk=>hg k (by omega));exact rt1 2 (vB ((b.o.refs.length:Int)==3)) rfl f0 (hZ _ _ ⟨by unfold aEs;rw [h83,hall];simp only [h89,h90,h91,h92]<;>rfl,hM.fr⟩)
    have hall:=aFa (o:=b.o) (fun k hk=>hg k (by omega));exact rt1 2 (vB (decide (1<=(b.o.refs.length:Int)))) rfl f0 (hZ _ _ ⟨by unfold aEs;rw [h83,hall];simp only [h89,h90,h91,h92]<;>rfl,hM.fr⟩)
   have ao:=dt h88;have s93:=hb.refs;obtain ⟨y,hy,ax,ay,q94,aa⟩:=s93.el (i:=i) (by omega);refine seg 8 0 [] f0 ?_;cases h95:(aA3 y)
   ·refine drc [(60,vB true)] hM (fun w5 hM=>(fc (ldm 28 0 4 hM rfl rfl) (fc (ix 28 b.cr q94 (gl hy)) (fc (ld0 9 hM (aa 0 _ rfl)) (fc (rzc (tcl (aAx (hb.bnd.refs _ (gm hy)) _)) h95) f0))))) fun w5 hM=>rt1 2 (vB false) rfl f0 (hZ _ _ ⟨by unfold aEs;rw [aGQ hy (aJ2 hy (.inl h95))];simp,hM.fr⟩)
   cases h96:(b.o.kind==2)
   ·have ap:=ef h96;cases h97:(b.o.kind==3)
    ·have aq:=ef h97;refine drc [(60,vB false)] hM (fun w5 hM=>(fc (ldm 28 0 4 hM rfl rfl) (fc (ix 28 b.cr q94 (gl hy)) (fc (ld0 9 hM (aa 0 _ rfl)) (fc (rzc (tcl (aAx (hb.bnd.refs _ (gm hy)) _)) h95) (fc (ldm 3 0 1 hM rfl rfl) (fc (tv 27 h96) (fc (ldm 3 0 1 hM rfl rfl) (fc (tv 50 h97) f0))))))))) fun w5 hM=>mup 10 6 [(61,.map (some ab)),(66,vS y)] 149 1 (vS y) (vB true) (fc (ldm 28 0 4 hM rfl rfl) (fc (ix 28 b.cr q94 (gl hy)) (fc (ld0 9 hM (aa 0 _ rfl)) f0))) hM rfl aD5 u149_ (aD6 (hb.bnd.refs _ (gm hy))) fun w1 hM=>?_;rw [aBJ] at hM;have hM:=hM.cast (M':=[bk ac #[vS b.o.id,vI b.o.kind,vI b.o.x,vI b.o.y,vL b.pr b.o.refs.length b.cr,vL b.pt b.o.tags.length b.ct] 64,mp Tryz.prog 9 ab (i+1) (aHA (b.o.refs.take (i+1)))]) (by rw [gt_ hy];rfl);refine seg 6 0 [(5,vI ((i:Int)+1))] (fc (aAe (i:Int) 1 u3_) f0) (aAb _ (ad _ (by have:=gl hy;omega) (i+1) _ (gl hy) (aFB hg (aNc hy h95 (.inl h96) (.inl h97))) hM rfl))
    have aq:=et h97;refine drc [(60,vB ((b.o.refs.take i).contains y))] hM (fun w5 hM=>(fc (ldm 28 0 4 hM rfl rfl) (fc (ix 28 b.cr q94 (gl hy)) (fc (ld0 9 hM (aa 0 _ rfl)) (fc (rzc (tcl (aAx (hb.bnd.refs _ (gm hy)) _)) h95) (fc (ldm 3 0 1 hM rfl rfl) (fc (tv 27 h96) (fc (ldm 3 0 1 hM rfl rfl) (fc (tv 50 h97) (fc (ldm 28 0 4 hM rfl rfl) (fc (ix 28 b.cr q94 (gl hy)) (fc (ld0 9 hM (aa 0 _ rfl)) (fc (rz2 (lk 149 1 (vS y) (vB false) hM rfl aD5 u149_ (aD6 (hb.bnd.refs _ (gm hy))) (aKE _)) (aDE (b.o.refs.take i) y)) f0))))))))))))) fun w5 hM=>?_;cases h98:((b.o.refs.take i).contains y)
    rotate_left
    ·exact rt1 2 (vB false) rfl f0 (hZ _ _ ⟨by unfold aEs;rw [aGQ hy (aJ2 hy (.inr (.inr ⟨h97,h98⟩)))];simp,hM.fr⟩)
    refine mup 10 6 [(61,.map (some ab)),(66,vS y)] 149 1 (vS y) (vB true) (fc (ldm 28 0 4 hM rfl rfl) (fc (ix 28 b.cr q94 (gl hy)) (fc (ld0 9 hM (aa 0 _ rfl)) f0))) hM rfl aD5 u149_ (aD6 (hb.bnd.refs _ (gm hy))) fun w1 hM=>?_;rw [aBJ] at hM;have hM:=hM.cast (M':=[bk ac #[vS b.o.id,vI b.o.kind,vI b.o.x,vI b.o.y,vL b.pr b.o.refs.length b.cr,vL b.pt b.o.tags.length b.ct] 64,mp Tryz.prog 9 ab (i+1) (aHA (b.o.refs.take (i+1)))]) (by rw [gt_ hy];rfl);refine seg 6 0 [(5,vI ((i:Int)+1))] (fc (aAe (i:Int) 1 u3_) f0) (aAb _ (ad _ (by have:=gl hy;omega) (i+1) _ (gl hy) (aFB hg (aNc hy h95 (.inl h96) (.inr h98))) hM rfl))
   have ap:=et h96;cases h99:(decide (0<(i:Int)))
   ·have ar:=df h99;cases ae:(b.o.kind==3)
    ·have au:=ef ae;refine drc [(60,vB false)] hM (fun w5 hM=>(fc (ldm 28 0 4 hM rfl rfl) (fc (ix 28 b.cr q94 (gl hy)) (fc (ld0 9 hM (aa 0 _ rfl)) (fc (rzc (tcl (aAx (hb.bnd.refs _ (gm hy)) _)) h95) (fc (ldm 3 0 1 hM rfl rfl) (fc (tv 27 h96) (fc (tv 30 h99) (fc (ldm 3 0 1 hM rfl rfl) (fc (tv 50 ae) f0)))))))))) fun w5 hM=>mup 10 6 [(61,.map (some ab)),(66,vS y)] 149 1 (vS y) (vB true) (fc (ldm 28 0 4 hM rfl rfl) (fc (ix 28 b.cr q94 (gl hy)) (fc (ld0 9 hM (aa 0 _ rfl)) f0))) hM rfl aD5 u149_ (aD6 (hb.bnd.refs _ (gm hy))) fun w1 hM=>?_;rw [aBJ] at hM;have hM:=hM.cast (M':=[bk ac #[vS b.o.id,vI b.o.kind,vI b.o.x,vI b.o.y,vL b.pr b.o.refs.length b.cr,vL b.pt b.o.tags.length b.ct] 64,mp Tryz.prog 9 ab (i+1) (aHA (b.o.refs.take (i+1)))]) (by rw [gt_ hy];rfl);refine seg 6 0 [(5,vI ((i:Int)+1))] (fc (aAe (i:Int) 1 u3_) f0) (aAb _ (ad _ (by have:=gl hy;omega) (i+1) _ (gl hy) (aFB hg (aNc hy h95 (.inr (by rw [show i=0 by have:=df h99;omega];intro q;rw [q] at hy;exact absurd (show aA3 y=true from h95) (by rw [q];show ¬ aA3 []=true;decide))) (.inl ae))) hM rfl))
    have au:=et ae;refine drc [(60,vB ((b.o.refs.take i).contains y))] hM (fun w5 hM=>(fc (ldm 28 0 4 hM rfl rfl) (fc (ix 28 b.cr q94 (gl hy)) (fc (ld0 9 hM (aa 0 _ rfl)) (fc (rzc (tcl (aAx (hb.bnd.refs _ (gm hy)) _)) h95) (fc (ldm 3 0 1 hM rfl rfl) (fc (tv 27 h96) (fc (tv 30 h99) (fc (ldm 3 0 1 hM rfl rfl) (fc (tv 50 ae) (fc (ldm 28 0 4 hM rfl rfl) (fc (ix 28 b.cr q94 (gl hy)) (fc (ld0 9 hM (aa 0 _ rfl)) (fc (rz2 (lk 149 1 (vS y) (vB false) hM rfl aD5 u149_ (aD6 (hb.bnd.refs _ (gm hy))) (aKE _)) (aDE (b.o.refs.take i) y)) f0)))))))))))))) fun w5 hM=>?_;cases ak:((b.o.refs.take i).contains y)
    rotate_left
    ·exact rt1 2 (vB false) rfl f0 (hZ _ _ ⟨by unfold aEs;rw [aGQ hy (aJ2 hy (.inr (.inr ⟨ae,ak⟩)))];simp,hM.fr⟩)
    refine mup 10 6 [(61,.map (some ab)),(66,vS y)] 149 1 (vS y) (vB true) (fc (ldm 28 0 4 hM rfl rfl) (fc (ix 28 b.cr q94 (gl hy)) (fc (ld0 9 hM (aa 0 _ rfl)) f0))) hM rfl aD5 u149_ (aD6 (hb.bnd.refs _ (gm hy))) fun w1 hM=>?_;rw [aBJ] at hM;have hM:=hM.cast (M':=[bk ac #[vS b.o.id,vI b.o.kind,vI b.o.x,vI b.o.y,vL b.pr b.o.refs.length b.cr,vL b.pt b.o.tags.length b.ct] 64,mp Tryz.prog 9 ab (i+1) (aHA (b.o.refs.take (i+1)))]) (by rw [gt_ hy];rfl);refine seg 6 0 [(5,vI ((i:Int)+1))] (fc (aAe (i:Int) 1 u3_) f0) (aAb _ (ad _ (by have:=gl hy;omega) (i+1) _ (gl hy) (aFB hg (aNc hy h95 (.inr (by rw [show i=0 by have:=df h99;omega];intro q;rw [q] at hy;exact absurd (show aA3 y=true from h95) (by rw [q];show ¬ aA3 []=true;decide))) (.inr ak))) hM rfl))
   have ar:=dt h99;obtain ⟨z,hz,az,a0,ah,ai⟩:=s93.el (i:=(i-1)) (by omega);cases af:(z==y)
   rotate_left
   ·refine drc [(60,vB true)] hM (fun w5 hM=>(fc (ldm 28 0 4 hM rfl rfl) (fc (ix 28 b.cr q94 (gl hy)) (fc (ld0 9 hM (aa 0 _ rfl)) (fc (rzc (tcl (aAx (hb.bnd.refs _ (gm hy)) _)) h95) (fc (ldm 3 0 1 hM rfl rfl) (fc (tv 27 h96) (fc (tv 30 h99) (fc (ldm 28 0 4 hM rfl rfl) (fc (aBx (i:Int) 1 u3_) (fc (ix 28 b.cr ah (gl hz) (z:=((i:Int)-1)) (hz:=(by omega))) (fc (ld0 9 hM (ai 0 _ rfl)) (fc (ldm 28 0 4 hM rfl rfl) (fc (ix 28 b.cr q94 (gl hy)) (fc (ld0 9 hM (aa 0 _ rfl)) (fc (rz (seq 9 z y) af) f0)))))))))))))))) fun w5 hM=>rt1 2 (vB false) rfl f0 (hZ _ _ ⟨by unfold aEs;rw [aGQ hy (aJ2 hy (.inr (.inl ⟨h96,by rw [aU1 (by omega) hz];exact (et af).symm⟩)))];simp,hM.fr⟩)
   cases ag:(b.o.kind==3)
   ·have av:=ef ag;refine drc [(60,vB false)] hM (fun w5 hM=>(fc (ldm 28 0 4 hM rfl rfl) (fc (ix 28 b.cr q94 (gl hy)) (fc (ld0 9 hM (aa 0 _ rfl)) (fc (rzc (tcl (aAx (hb.bnd.refs _ (gm hy)) _)) h95) (fc (ldm 3 0 1 hM rfl rfl) (fc (tv 27 h96) (fc (tv 30 h99) (fc (ldm 28 0 4 hM rfl rfl) (fc (aBx (i:Int) 1 u3_) (fc (ix 28 b.cr ah (gl hz) (z:=((i:Int)-1)) (hz:=(by omega))) (fc (ld0 9 hM (ai 0 _ rfl)) (fc (ldm 28 0 4 hM rfl rfl) (fc (ix 28 b.cr q94 (gl hy)) (fc (ld0 9 hM (aa 0 _ rfl)) (fc (rz (seq 9 z y) af) (fc (ldm 3 0 1 hM rfl rfl) (fc (tv 50 ag) f0)))))))))))))))))) fun w5 hM=>mup 10 6 [(61,.map (some ab)),(66,vS y)] 149 1 (vS y) (vB true) (fc (ldm 28 0 4 hM rfl rfl) (fc (ix 28 b.cr q94 (gl hy)) (fc (ld0 9 hM (aa 0 _ rfl)) f0))) hM rfl aD5 u149_ (aD6 (hb.bnd.refs _ (gm hy))) fun w1 hM=>?_;rw [aBJ] at hM;have hM:=hM.cast (M':=[bk ac #[vS b.o.id,vI b.o.kind,vI b.o.x,vI b.o.y,vL b.pr b.o.refs.length b.cr,vL b.pt b.o.tags.length b.ct] 64,mp Tryz.prog 9 ab (i+1) (aHA (b.o.refs.take (i+1)))]) (by rw [gt_ hy];rfl);refine seg 6 0 [(5,vI ((i:Int)+1))] (fc (aAe (i:Int) 1 u3_) f0) (aAb _ (ad _ (by have:=gl hy;omega) (i+1) _ (gl hy) (aFB hg (aNc hy h95 (.inr (by rw [aU1 (by omega) hz];exact fun q=>ef af q.symm)) (.inl ag))) hM rfl))
   have av:=et ag;refine drc [(60,vB ((b.o.refs.take i).contains y))] hM (fun w5 hM=>(fc (ldm 28 0 4 hM rfl rfl) (fc (ix 28 b.cr q94 (gl hy)) (fc (ld0 9 hM (aa 0 _ rfl)) (fc (rzc (tcl (aAx (hb.bnd.refs _ (gm hy)) _)) h95) (fc (ldm 3 0 1 hM rfl rfl) (fc (tv 27 h96) (fc (tv 30 h99) (fc (ldm 28 0 4 hM rfl rfl) (fc (aBx (i:Int) 1 u3_) (fc (ix 28 b.cr ah (gl hz) (z:=((i:Int)-1)) (hz:=(by omega))) (fc (ld0 9 hM (ai 0 _ rfl)) (fc (ldm 28 0 4 hM rfl rfl) (fc (ix 28 b.cr q94 (gl hy)) (fc (ld0 9 hM (aa 0 _ rfl)) (fc (rz (seq 9 z y) af) (fc (ldm 3 0 1 hM rfl rfl) (fc (tv 50 ag) (fc (ldm 28 0 4 hM rfl rfl) (fc (ix 28 b.cr q94 (gl hy)) (fc (ld0 9 hM (aa 0 _ rfl)) (fc (rz2 (lk 149 1 (vS y) (vB false) hM rfl aD5 u149_ (aD6 (hb.bnd.refs _ (gm hy))) (aKE _)) (aDE (b.o.refs.take i) y)) f0)))))))))))))))))))))) fun w5 hM=>?_;cases al:((b.o.refs.take i).contains y)
   rotate_left
   ·exact rt1 2 (vB false) rfl f0 (hZ _ _ ⟨by unfold aEs;rw [aGQ hy (aJ2 hy (.inr (.inr ⟨ag,al⟩)))];simp,hM.fr⟩)
   refine mup 10 6 [(61,.map (some ab)),(66,vS y)] 149 1 (vS y) (vB true) (fc (ldm 28 0 4 hM rfl rfl) (fc (ix 28 b.cr q94 (gl hy)) (fc (ld0 9 hM (aa 0 _ rfl)) f0))) hM rfl aD5 u149_ (aD6 (hb.bnd.refs _ (gm hy))) fun w1 hM=>?_;rw [aBJ] at hM;have hM:=hM.cast (M':=[bk ac #[vS b.o.id,vI b.o.kind,vI b.o.x,vI b.o.y,vL b.pr b.o.refs.length b.cr,vL b.pt b.o.tags.length b.ct] 64,mp Tryz.prog 9 ab (i+1) (aHA (b.o.refs.take (i+1)))]) (by rw [gt_ hy];rfl);refine seg 6 0 [(5,vI ((i:Int)+1))] (fc (aAe (i:Int) 1 u3_) f0) (aAb _ (ad _ (by have:=gl hy;omega) (i+1) _ (gl hy) (aFB hg (aNc hy h95 (.inr (by rw [aU1 (by omega) hz];exact fun q=>ef af q.symm)) (.inr al))) hM rfl))
  exact aAb _ (an _ 0 _ (Gg_ _) (fun k hk=>absurd hk (Nat.not_lt_zero _)) hM rfl)
theorem aBi (o:Ob):aA6 o=(aA3 o.id&&((!(aBU o.kind==[]))&&((bif o.kind==1 then onB o.x o.y else ((o.x==0)&&(o.y==0)))&&(aBr o.tags&&aEs o)))):=by
  cases hw:(aBU o.kind==[]) with
  | true=>unfold aA6;rw [hw];simp
  | false =>
    obtain ⟨h0,h6⟩:=aOl hw;have h1:¬ o.kind=0:=fun e=>by rw [e] at hw;exact absurd hw (by decide)
    unfold aA6 aEs;rw [hw];rcases (show o.kind=1∨o.kind=2∨o.kind=3∨o.kind=4∨o.kind=5 by omega) with e | e | e | e | e<;>rw [e]
    · have hl:aE0 1=0:=by decide
      rw [hl,show decide ((o.refs.length:Int)<0)=false by rw [decide_eq_false_iff_not];omega];show ((((((!false&&aA3 o.id)&&aBr o.tags) && !false) && !(decide (2000<(o.refs.length:Int))))&&aAU o)&&(((o.refs.length:Int)==0)&&onB o.x o.y))=(aA3 o.id&&(!false&&(onB o.x o.y&&(aBr o.tags&&(!(decide (2000<(o.refs.length:Int)))&&(aAU o&&((o.refs.length:Int)==0)))))));generalize aA3 o.id=a;generalize aBr o.tags=b;generalize decide (2000<(o.refs.length:Int))=c;generalize aAU o=d;generalize ((o.refs.length:Int)==0)=e9;generalize onB o.x o.y=f;cases a<;>cases b<;>cases c<;>cases d<;>cases e9<;>cases f<;>rfl
    · have hl:aE0 2=2:=by decide
      rw [hl,show decide (2<=(o.refs.length:Int)) = !(decide ((o.refs.length:Int)<2)) by rw [Bool.eq_iff_iff];simp only [Bool.not_eq_true',decide_eq_true_eq,decide_eq_false_iff_not];omega];show ((((((!false&&aA3 o.id)&&aBr o.tags) && !(decide ((o.refs.length:Int)<2))) && !(decide (2000<(o.refs.length:Int))))&&aAU o)&&((o.x==0)&&(o.y==0)))=(aA3 o.id&&(!false&&(((o.x==0)&&(o.y==0))&&(aBr o.tags&&(!(decide (2000<(o.refs.length:Int)))&&(aAU o && !(decide ((o.refs.length:Int)<2))))))));generalize aA3 o.id=a;generalize aBr o.tags=b;generalize decide (2000<(o.refs.length:Int))=c;generalize aAU o=d;generalize decide ((o.refs.length:Int)<2)=e9;generalize (o.x==0)=f;generalize (o.y==0)=g;cases a<;>cases b<;>cases c<;>cases d<;>cases e9<;>cases f<;>cases g<;>rfl
    · have hl:aE0 3=3:=by decide
      rw [hl,show decide (3<=(o.refs.length:Int)) = !(decide ((o.refs.length:Int)<3)) by rw [Bool.eq_iff_iff];simp only [Bool.not_eq_true',decide_eq_true_eq,decide_eq_false_iff_not];omega];show ((((((!false&&aA3 o.id)&&aBr o.tags) && !(decide ((o.refs.length:Int)<3))) && !(decide (2000<(o.refs.length:Int))))&&aAU o)&&((o.x==0)&&(o.y==0)))=(aA3 o.id&&(!false&&(((o.x==0)&&(o.y==0))&&(aBr o.tags&&(!(decide (2000<(o.refs.length:Int)))&&(aAU o && !(decide ((o.refs.length:Int)<3))))))));generalize aA3 o.id=a;generalize aBr o.tags=b;generalize decide (2000<(o.refs.length:Int))=c;generalize aAU o=d;generalize decide ((o.refs.length:Int)<3)=e9;generalize (o.x==0)=f;generalize (o.y==0)=g;cases a<;>cases b<;>cases c<;>cases d<;>cases e9<;>cases f<;>cases g<;>rfl
    · have hl:aE0 4=1:=by decide
      rw [hl,show decide (1<=(o.refs.length:Int)) = !(decide ((o.refs.length:Int)<1)) by rw [Bool.eq_iff_iff];simp only [Bool.not_eq_true',decide_eq_true_eq,decide_eq_false_iff_not];omega];show ((((((!false&&aA3 o.id)&&aBr o.tags) && !(decide ((o.refs.length:Int)<1))) && !(decide (2000<(o.refs.length:Int))))&&aAU o)&&((o.x==0)&&(o.y==0)))=(aA3 o.id&&(!false&&(((o.x==0)&&(o.y==0))&&(aBr o.tags&&(!(decide (2000<(o.refs.length:Int)))&&(aAU o && !(decide ((o.refs.length:Int)<1))))))));generalize aA3 o.id=a;generalize aBr o.tags=b;generalize decide (2000<(o.refs.length:Int))=c;generalize aAU o=d;generalize decide ((o.refs.length:Int)<1)=e9;generalize (o.x==0)=f;generalize (o.y==0)=g;cases a<;>cases b<;>cases c<;>cases d<;>cases e9<;>cases f<;>cases g<;>rfl
    · have hl:aE0 5=3:=by decide
      rw [hl]
      have key:(!(decide ((o.refs.length:Int)<3))&&((o.refs.length:Int)==3))=((o.refs.length:Int)==3):=by
        rw [Bool.eq_iff_iff];simp only [Ga_,Bool.not_eq_true',beq_iff_eq,decide_eq_false_iff_not];omega
      show ((((((!false&&aA3 o.id)&&aBr o.tags) && !(decide ((o.refs.length:Int)<3))) && !(decide (2000<(o.refs.length:Int))))&&aAU o)&&(((o.refs.length:Int)==3)&&((o.x==0)&&(o.y==0))))=(aA3 o.id&&(!false&&(((o.x==0)&&(o.y==0))&&(aBr o.tags&&(!(decide (2000<(o.refs.length:Int)))&&(aAU o&&((o.refs.length:Int)==3)))))))
      revert key
      generalize aA3 o.id=a;generalize aBr o.tags=b;generalize decide (2000<(o.refs.length:Int))=c;generalize aAU o=d;generalize decide ((o.refs.length:Int)<3)=e9;generalize (o.x==0)=f;generalize (o.y==0)=g;generalize ((o.refs.length:Int)==3)=k;cases a<;>cases b<;>cases c<;>cases d<;>cases e9<;>cases f<;>cases g<;>cases k<;>decide
theorem aDF {w:World}{b:ObR}(hb:ObIn w b):Calls Tryz.prog 103 #[vA (obL b)] w fun e w'=>e = .returned (vB (aA6 b.o)) /\ Fr nF_ w w':=by
  refine beg Tryz.func103 rfl rfl [(0,.agg #[vS b.o.id,vI b.o.kind,vI b.o.x,vI b.o.y,vL b.pr b.o.refs.length b.cr,vL b.pt b.o.tags.length b.ct])] rfl rfl fun Z hZ=>?_;have hM:=Mm.nil nF_ w;refine aAp 0 0 1 [] (cs:=#[vS b.o.id,vI b.o.kind,vI b.o.x,vI b.o.y,vL b.pr b.o.refs.length b.cr,vL b.pt b.o.tags.length b.ct]) (T:=64) (v:=fun b=>vP b 0) f0 hM fun aa w1 hM=>aAq 1 2 6 [(5,.agg #[vI b.o.x,vI b.o.y])] (fc (lam 61 0 2 2 hM rfl) f0) hM (aPc b.o.x b.o.y _) fun w1 hM=>seg 2 3 [(3,vB (onB b.o.x b.o.y)),(9,vB (!(b.o.kind==1)))] (fc (ldm 3 0 1 hM rfl rfl) f0) ?_;cases h83:(b.o.kind==1)
  ·refine aAq 4 2 16 [(3,vB ((b.o.x==0)&&(b.o.y==0))),(15,vS b.o.id)] (fc (lam 61 0 2 2 hM rfl) (fc (peq 61 b.o.x b.o.y 0 0) (fc (ldm 9 0 0 hM rfl rfl) f0))) hM (aAx hb.bnd.id _) fun w1 hM=>seg 4 4 [(17,vB (aA3 b.o.id))] f0 ?_;cases h84:(aA3 b.o.id)
   ·exact rt1 2 (vB false) rfl f0 (hZ _ _ ⟨by rw [aBi];simp only [h83,h84]<;>first | rfl | simp,hM.fr⟩)
   refine aAq 4 6 20 [(19,vI b.o.kind)] (fc (ldm 3 0 1 hM rfl rfl) f0) hM (aFR b.o.kind _) fun w1 hM=>seg 4 10 [(23,vB (!((aBU b.o.kind)==[])))] (fc (sne 9 (aBU b.o.kind) []) f0) ?_;cases h85:((aBU b.o.kind)==[])
   rotate_left
   ·exact rt1 2 (vB false) rfl f0 (hZ _ _ ⟨by rw [aBi];simp only [h83,h84,h85]<;>first | rfl | simp,hM.fr⟩)
   refine seg 4 13 [(26,vB ((b.o.x==0)&&(b.o.y==0)))] f0 ?_;cases h86:((b.o.x==0)&&(b.o.y==0))
   ·exact rt1 2 (vB false) rfl f0 (hZ _ _ ⟨by rw [aBi];simp only [h83,h84,h85,h86]<;>first | rfl | simp,hM.fr⟩)
   refine aAq 4 15 29 [(28,vL b.pt b.o.tags.length b.ct)] (fc (ldm 62 0 5 hM rfl rfl) f0) hM (aGL (hb.tags.src.fr hM.fr) hb.bnd.tags) fun w1 hM=>seg 4 18 [(31,vB (aBr b.o.tags))] f0 ?_;cases h87:(aBr b.o.tags)
   ·exact rt1 2 (vB false) rfl f0 (hZ _ _ ⟨by rw [aBi];simp only [h83,h84,h85,h86,h87]<;>first | rfl | simp,hM.fr⟩)
   refine aAq 4 19 33 [(32,.agg #[vS b.o.id,vI b.o.kind,vI b.o.x,vI b.o.y,vL b.pr b.o.refs.length b.cr,vL b.pt b.o.tags.length b.ct])] (fc (lam 64 0 0 6 hM rfl) f0) hM (aGM (hb.fr hM.fr)) fun w1 hM=>rt1 2 (vB (aEs b.o)) rfl f0 (hZ _ _ ⟨by rw [aBi];simp only [h83,h84,h85,h86,h87]<;>first | rfl | simp,hM.fr⟩)
  refine aAq 4 2 16 [(15,vS b.o.id)] (fc (ldm 9 0 0 hM rfl rfl) f0) hM (aAx hb.bnd.id _) fun w1 hM=>seg 4 4 [(17,vB (aA3 b.o.id))] f0 ?_;cases h88:(aA3 b.o.id)
  ·exact rt1 2 (vB false) rfl f0 (hZ _ _ ⟨by rw [aBi];simp only [h83,h88]<;>first | rfl | simp,hM.fr⟩)
  refine aAq 4 6 20 [(19,vI b.o.kind)] (fc (ldm 3 0 1 hM rfl rfl) f0) hM (aFR b.o.kind _) fun w1 hM=>seg 4 10 [(23,vB (!((aBU b.o.kind)==[])))] (fc (sne 9 (aBU b.o.kind) []) f0) ?_;cases h89:((aBU b.o.kind)==[])
  rotate_left
  ·exact rt1 2 (vB false) rfl f0 (hZ _ _ ⟨by rw [aBi];simp only [h83,h88,h89]<;>first | rfl | simp,hM.fr⟩)
  refine seg 4 13 [(26,vB (onB b.o.x b.o.y))] f0 ?_;cases h90:(onB b.o.x b.o.y)
  ·exact rt1 2 (vB false) rfl f0 (hZ _ _ ⟨by rw [aBi];simp only [h83,h88,h89,h90]<;>first | rfl | simp,hM.fr⟩)
  refine aAq 4 15 29 [(28,vL b.pt b.o.tags.length b.ct)] (fc (ldm 62 0 5 hM rfl rfl) f0) hM (aGL (hb.tags.src.fr hM.fr) hb.bnd.tags) fun w1 hM=>seg 4 18 [(31,vB (aBr b.o.tags))] f0 ?_;cases h91:(aBr b.o.tags)
  ·exact rt1 2 (vB false) rfl f0 (hZ _ _ ⟨by rw [aBi];simp only [h83,h88,h89,h90,h91]<;>first | rfl | simp,hM.fr⟩)
  refine aAq 4 19 33 [(32,.agg #[vS b.o.id,vI b.o.kind,vI b.o.x,vI b.o.y,vL b.pr b.o.refs.length b.cr,vL b.pt b.o.tags.length b.ct])] (fc (lam 64 0 0 6 hM rfl) f0) hM (aGM (hb.fr hM.fr)) fun w1 hM=>rt1 2 (vB (aEs b.o)) rfl f0 (hZ _ _ ⟨by rw [aBi];simp only [h83,h88,h89,h90,h91]<;>first | rfl | simp,hM.fr⟩)
theorem aM5 {k:Bys}{o:Ob}{l:List Ob}(h1:aA6 o=true) (h2:blt k o.id=true):aIW k (o::l)=aIW o.id l:=by rw [aIW,h1,h2];rfl
theorem aPJ {k:Bys}{o:Ob}{l:List Ob}(h:aA6 o=false∨blt k o.id=false):aIW k (o::l)=false:=by
  rw [aIW];rcases h with h | h
  · rw [h];rfl
  · rw [h];simp
theorem aGA {l:List Ob}(h:aIW [] l=false):aAc l=false:=by unfold aAc;rw [h];rfl
theorem aOt {o:Ob}(h:aA6 o=true):aA3 o.id=true:=by
  unfold aA6 at h;simp only [Ga_] at h;exact h.1.1.1.1.1.2
def aR9 (l:List ObR):Nat->Bys
  | 0=>[]
  | i+1=>((l[i]?).map (·.o.id)).getD []
theorem aMw {l:List ObR}{i:Nat}{x:ObR}(h0:0<i) (h:l[i-1]?=some x):aR9 l i=x.o.id:=by
  obtain ⟨j,rfl⟩:∃ j,i=j+1:=⟨i-1,by omega⟩;rw [show j+1-1=j by omega] at h;show ((l[j]?).map (·.o.id)).getD []=x.o.id;rw [h];rfl
theorem aMv {l:List ObR}{i:Nat}{x:ObR}(h:l[i]?=some x):aR9 l (i+1)=x.o.id:=by
  show ((l[i]?).map (·.o.id)).getD []=x.o.id;rw [h];rfl
theorem aUj {l:List ObR}{i:Nat}(h:¬ 0<i):aR9 l i=[]:=by rw [show i=0 by omega];rfl
abbrev A67 (Z:Ending->World->Prop):=AtO Tryz.prog (aAf Tryz.f67) (aAo (bodyPost Tryz.prog Tryz.f67 Z)) [] 42
theorem aDG {w:World}{v:Value}{l:List ObR}(hm:aCq w v l):Calls Tryz.prog 67 #[.agg #[v]] w fun e w'=>e = .returned (vB (aAc (aAa l))) /\ Fr nF_ w w':=by
  have hm0:=hm;obtain ⟨hs0,hob⟩:=hm0;obtain ⟨p0,cp0,hp0,sp0⟩:=hs0.op;subst hp0;have bp0:=sp0.bnd;refine beg Tryz.func67 rfl rfl [(0,.agg #[vL p0 l.length cp0])] rfl rfl fun Z hZ=>?_;have hM:=Mm.nil nF_ w;refine aAp 0 0 1 [] (cs:=#[vL p0 l.length cp0]) (T:=24) (v:=fun b=>vP b 0) f0 hM fun ac w1 hM=>seg 1 4 [(7,vB (decide (1000000<(l.length:Int))))] (fc (ldm 22 0 0 hM rfl rfl) f0) ?_;cases h93:(decide (1000000<(l.length:Int)))
  rotate_left
  ·have ag:=dt h93;exact rt1 2 (vB false) rfl f0 (hZ _ _ ⟨by unfold aAc;rw [aA2,show decide ((l.length:Int)<=1000000)=false by rw [decide_eq_false_iff_not];omega,Bool.and_false],hM.fr⟩)
  have ag:=df h93;refine seg 4 0 [(3,vI 0)] f0 ?_
  have ah:∀ (ad:Nat) (i:Nat) (w2:World),i<=l.length->aIW [] (aAa l)=aIW (aR9 l i) ((aAa l).drop i)->Mm nF_ w w2 [bk ac #[vL p0 l.length cp0] 24]->ad=l.length-i->A67 Z (some (4,0)) [(3,vI (i:Int)),(1,vP ac 0)] w2:=by
   refine aA8 fun ad ae i w2 hi hv hM am=>seg 4 5 [(12,vB (decide ((i:Int)<(l.length:Int))))] (fc (ldm 22 0 0 hM rfl rfl) f0) ?_;cases h97:(decide ((i:Int)<(l.length:Int)))
   ·have ai:=df h97;exact rt1 2 (vB true) rfl f0 (hZ _ _ ⟨by unfold aAc;rw [hv,Gi_ (by rw [aA2];omega),aA2,show decide ((l.length:Int)<=1000000)=true by rw [decide_eq_true_eq];omega];rfl,hM.fr⟩)
   have ai:=dt h97;obtain ⟨y,hy,an,ao,q98,ab⟩:=sp0.el (i:=i) (by omega);refine seg 6 0 [] f0 ?_;cases h99:(aA6 y.o)
   ·refine drc [(41,vB true)] hM (fun w5 hM=>(fc (ldm 22 0 0 hM rfl rfl) (fc (ix 22 cp0 q98 (gl hy)) (fc (la0 64 hM ab) (fc (rzc (tcl (aDF ((hob _ (gm hy)).fr hM.fr))) h99) f0))))) fun w5 hM=>rt1 2 (vB false) rfl f0 (hZ _ _ ⟨by rw [aGA (by rw [hv,gd (aAn hy)];exact aPJ (.inl h99))],hM.fr⟩)
   cases aa:(decide (0<(i:Int)))
   ·have aj:=df aa;refine drc [(41,vB false)] hM (fun w5 hM=>(fc (ldm 22 0 0 hM rfl rfl) (fc (ix 22 cp0 q98 (gl hy)) (fc (la0 64 hM ab) (fc (rzc (tcl (aDF ((hob _ (gm hy)).fr hM.fr))) h99) (fc (tv 24 aa) f0)))))) fun w5 hM=>seg 4 0 [(3,vI ((i:Int)+1))] (fc (aAe (i:Int) 1 u3_) f0) (aAb _ (ae _ (by have:=gl hy;omega) (i+1) _ (gl hy) (by rw [hv,gd (aAn hy),aMv hy];exact aM5 h99 (by rw [aUj (by have:=df aa;omega)];exact aPB (aOt h99))) hM rfl))
   have aj:=dt aa;obtain ⟨z,hz,ap,aq,ak,al⟩:=sp0.el (i:=(i-1)) (by omega);refine drc [(41,vB (!(blt z.o.id y.o.id)))] hM (fun w5 hM=>(fc (ldm 22 0 0 hM rfl rfl) (fc (ix 22 cp0 q98 (gl hy)) (fc (la0 64 hM ab) (fc (rzc (tcl (aDF ((hob _ (gm hy)).fr hM.fr))) h99) (fc (tv 24 aa) (fc (ldm 22 0 0 hM rfl rfl) (fc (aBx (i:Int) 1 u3_) (fc (ix 22 cp0 ak (gl hz) (z:=((i:Int)-1)) (hz:=(by omega))) (fc (ld0 9 hM (al 0 _ rfl)) (fc (ldm 22 0 0 hM rfl rfl) (fc (ix 22 cp0 q98 (gl hy)) (fc (ld0 9 hM (ab 0 _ rfl)) (fc (sge 9 z.o.id y.o.id) f0)))))))))))))) fun w5 hM=>?_;cases af:(blt z.o.id y.o.id)
   ·exact rt1 2 (vB false) rfl f0 (hZ _ _ ⟨by rw [aGA (by rw [hv,gd (aAn hy)];exact aPJ (.inr (by rw [aMw (by omega) hz];exact af)))],hM.fr⟩)
   refine seg 4 0 [(3,vI ((i:Int)+1))] (fc (aAe (i:Int) 1 u3_) f0) (aAb _ (ae _ (by have:=gl hy;omega) (i+1) _ (gl hy) (by rw [hv,gd (aAn hy),aMv hy];exact aM5 h99 (by rw [aMw (by omega) hz];exact af)) hM rfl))
  exact aAb _ (ah _ 0 _ (Gg_ _) rfl hM rfl)
theorem aSi {l:List ObR}{id:Bys}{a b:Nat}(hp:(aAa l).Pairwise fun x y=>blt x.id y.id=true) (ha:∀ j y,j<a->l[j]?=some y->blt y.o.id id=true) (hb:∀ j y,b<=j->l[j]?=some y->blt y.o.id id=false) (hab:b<=a):(∀ z,l[a]?=some z->z.o.id=id->aAm (aAa l) id=(a:Int)) /\ ((∀ z,l[a]?=some z->¬ z.o.id=id)->aAm (aAa l) id = -1):=by
  constructor
  · intro z hz e
    obtain ⟨q1,q2⟩:=aDd hp (gm (aAn hz));rw [e] at q1;obtain ⟨k,o,hk,ho,he⟩:=aDt q1;rw [hk];have hal:a<(aAa l).length:=gl (aAn hz);have hkl:k<(aAa l).length:=gl ho;rcases Nat.lt_trichotomy k a with h | h | h
    · have:=List.pairwise_iff_getElem.1 hp k a hkl hal h
      rw [(List.getElem?_eq_some_iff.1 ho).2,(List.getElem?_eq_some_iff.1 (aAn hz)).2,he,e,aCc] at this;cases this
    · rw [h]
    · have:=List.pairwise_iff_getElem.1 hp a k hal hkl h
      rw [(List.getElem?_eq_some_iff.1 ho).2,(List.getElem?_eq_some_iff.1 (aAn hz)).2,he,e,aCc] at this;cases this
  · intro hn
    by_cases q:aAm (aAa l) id<0
    · unfold aAm at q ⊢
      cases h:(aAa l).findIdx? (fun o=>o.id==id) with
      | none=>rfl
      | some i=>rw [h] at q;exact absurd q (by show ¬ (i:Int)<0;omega)
    · obtain ⟨k,o,hk,ho,he⟩:=aDt q
      have hkl:k<l.length:=by rw [←aA2];exact gl ho
      obtain ⟨z,hz⟩:=geb (l:=l) (i:=k) hkl;have hzo:z.o=o:=by have:=aAn hz;rw [ho] at this;exact (Gh_ this).symm
      by_cases h1:k<a
      · have:=ha k z h1 hz
        rw [hzo,he,aCc] at this;cases this
      · by_cases h2:k=a
        · subst h2;exact absurd (by rw [hzo,he]) (hn z hz)
        · have hal:a<l.length:=by omega
          obtain ⟨u,hu⟩:=geb (l:=l) (i:=a) hal;have h3:=hb a u hab hu;have h4:=List.pairwise_iff_getElem.1 hp a k (by rw [aA2];exact hal) (gl ho) (by omega);rw [(List.getElem?_eq_some_iff.1 ho).2,(List.getElem?_eq_some_iff.1 (aAn hu)).2,he,h3] at h4;cases h4
theorem aVM {l:List ObR}{id:Bys}{a c:Nat}{y:ObR}(hp:(aAa l).Pairwise fun x y=>blt x.id y.id=true) (hy:l[c]?=some y) (h:blt y.o.id id=true):∀ j z,j<c+1->l[j]?=some z->blt z.o.id id=true:=fun j z hj hz=>by
  by_cases e:j=c
  · subst e;rw [hy] at hz;cases hz;exact h
  · have h4:=List.pairwise_iff_getElem.1 hp j c (gl (aAn hz)) (gl (aAn hy)) (by omega)
    rw [(List.getElem?_eq_some_iff.1 (aAn hz)).2,(List.getElem?_eq_some_iff.1 (aAn hy)).2] at h4;exact aHw h4 h
theorem aVN {l:List ObR}{id:Bys}{c:Nat}{y:ObR}(hp:(aAa l).Pairwise fun x y=>blt x.id y.id=true) (hy:l[c]?=some y) (h:blt y.o.id id=false):∀ j z,c<=j->l[j]?=some z->blt z.o.id id=false:=fun j z hj hz=>by
  by_cases e:j=c
  · subst e;rw [hy] at hz;cases hz;exact h
  · have h4:=List.pairwise_iff_getElem.1 hp c j (gl (aAn hy)) (gl (aAn hz)) (by omega)
    rw [(List.getElem?_eq_some_iff.1 (aAn hz)).2,(List.getElem?_eq_some_iff.1 (aAn hy)).2] at h4
    cases hq:blt z.o.id id with
    | false=>rfl
    | true=>rw [aHw h4 hq] at h;cases h
abbrev aY4 (Z:Ending->World->Prop):=AtO Tryz.prog (aAf Tryz.f139) (aAo (bodyPost Tryz.prog Tryz.f139 Z)) [] 45
theorem aIC {w:World}{v:Value}{l:List ObR}(hm:aCq w v l) (hl:l.length<=1000000) (hp:(aAa l).Pairwise fun x y=>blt x.id y.id=true) (id:Bys):Calls Tryz.prog 139 #[.agg #[v],vS id] w fun e w'=>e = .returned (vI (aAm (aAa l) id)) /\ Fr nF_ w w':=by
  have hm0:=hm;obtain ⟨hs0,hob⟩:=hm0;obtain ⟨p0,cp0,hp0,sp0⟩:=hs0.op;subst hp0;refine beg Tryz.func139 rfl rfl [(0,.agg #[vL p0 l.length cp0]),(1,vS id)] rfl rfl fun Z hZ=>?_;have hM:=Mm.nil nF_ w;refine aAp 0 0 2 [] (cs:=#[vL p0 l.length cp0]) (T:=24) (v:=fun b=>vP b 0) f0 hM fun aa w1 hM=>seg 3 0 [(5,vI 0),(6,vI (l.length:Int))] (fc (ldm 22 0 0 hM rfl rfl) f0) ?_
  have ad:∀ (ab:Nat) (a:Nat) (b:Nat) (w2:World),a<=b->b<=l.length->(∀ j y,j<a->l[j]?=some y->blt y.o.id id=true)->(∀ j y,b<=j->l[j]?=some y->blt y.o.id id=false)->Mm nF_ w w2 [bk aa #[vL p0 l.length cp0] 24]->ab=b-a->aY4 Z (some (3,0)) [(6,vI (b:Int)),(5,vI (a:Int)),(2,vP aa 0),(1,vS id)] w2:=by
   refine aA8 fun ab ac a b w2 hab hb1 ha hb hM ai=>seg 3 3 [(13,vB (decide ((a:Int)<(b:Int))))] f0 ?_;cases h86:(decide ((a:Int)<(b:Int)))
   rotate_left
   ·have ae:=dt h86;obtain ⟨c,hc⟩:∃ c:Nat,((a:Int)+(b:Int)) / 2=(c:Int):=⟨(a+b) / 2,by omega⟩;obtain ⟨y,hy,aj,ak,q90,af⟩:=sp0.el (i:=c) (by omega);refine seg 5 8 [(7,vI (c:Int)),(25,vB (blt y.o.id id))] (fc (aAe (a:Int) (b:Int) u3_) (fc (hc▸aQF ((a:Int)+(b:Int)) 2 u3_) (fc (ldm 22 0 0 hM rfl rfl) (fc (ix 22 cp0 q90 (gl hy)) (fc (ld0 9 hM (af 0 _ rfl)) (fc (slt 9 y.o.id id) f0)))))) ?_;cases h91:(blt y.o.id id)
    ·refine seg 3 0 [(6,vI (c:Int))] f0 (aAb _ (ac _ (by omega) a c _ (by omega) (by omega) ha (aVN hp hy h91) hM rfl))
    refine seg 3 0 [(5,vI ((c:Int)+1))] (fc (aAe (c:Int) 1 u3_) f0) (aAb _ (ac _ (by omega) (c+1) b _ (by omega) hb1 (aVM (a:=a) hp hy h91) hb hM rfl))
   have ae:=df h86;obtain ⟨hf1,hf2⟩:=aSi hp ha hb (by omega);refine seg 8 6 [(34,vB (decide ((a:Int)<(l.length:Int))))] (fc (ldm 22 0 0 hM rfl rfl) f0) ?_;cases h87:(decide ((a:Int)<(l.length:Int)))
   ·have ag:=df h87;exact rt1 4 (vI (-1)) rfl f0 (hZ _ _ ⟨by rw [hf2 fun z hz=>absurd (gl hz) (by omega)],hM.fr⟩)
   have ag:=dt h87;obtain ⟨z,hz,al,am,q88,ah⟩:=sp0.el (i:=a) (by omega);refine seg 8 15 [(43,vB (z.o.id==id))] (fc (ldm 22 0 0 hM rfl rfl) (fc (ix 22 cp0 q88 (gl hz)) (fc (ld0 9 hM (ah 0 _ rfl)) (fc (seq 9 z.o.id id) f0)))) ?_;cases h89:(z.o.id==id)
   ·exact rt1 4 (vI (-1)) rfl f0 (hZ _ _ ⟨by rw [hf2 fun z2 hz2=>by rw [hz] at hz2;cases hz2;exact ef h89],hM.fr⟩)
   exact rt1 4 (vI (a:Int)) rfl f0 (hZ _ _ ⟨by rw [hf1 z hz (et h89)],hM.fr⟩)
  exact aAb _ (ad _ 0 l.length _ (Gg_ _) (Gl_ _) (fun j y hj=>absurd hj (Nat.not_lt_zero _)) (fun j y hj hy=>absurd (gl hy) (by omega)) hM rfl)
def aCo (o:Ob) (i:Int):Int:=bif (o.kind==4)||((o.kind==5) && !(i==1)) then 2 else 1
theorem aGP {w:World}(b:ObR) (i:Int):Calls Tryz.prog 140 #[vA (obL b),vI i] w fun e w'=>e = .returned (vI (aCo b.o i)) /\ Fr nF_ w w':=by
  refine beg Tryz.func140 rfl rfl [(0,.agg #[vS b.o.id,vI b.o.kind,vI b.o.x,vI b.o.y,vL b.pr b.o.refs.length b.cr,vL b.pt b.o.tags.length b.ct]),(1,vI i)] rfl rfl fun Z hZ=>?_;have hM:=Mm.nil nF_ w;refine aAp 0 0 2 [] (cs:=#[vS b.o.id,vI b.o.kind,vI b.o.x,vI b.o.y,vL b.pr b.o.refs.length b.cr,vL b.pt b.o.tags.length b.ct]) (T:=64) (v:=fun b=>vP b 0) f0 hM fun aa w1 hM=>seg 1 4 [(8,vB (b.o.kind==4))] (fc (ldm 3 0 1 hM rfl rfl) f0) ?_;cases h93:(b.o.kind==4)
  rotate_left
  ·exact rt1 4 (vI 2) rfl f0 (hZ _ _ ⟨by unfold aCo;simp only [h93]<;>rfl,hM.fr⟩)
  refine seg 1 8 [(12,vB (b.o.kind==5))] (fc (ldm 3 0 1 hM rfl rfl) f0) ?_;cases h94:(b.o.kind==5)
  ·exact rt1 4 (vI 1) rfl f0 (hZ _ _ ⟨by unfold aCo;simp only [h93,h94]<;>rfl,hM.fr⟩)
  refine seg 1 12 [(16,vB (!(i==1)))] f0 ?_;cases h95:(i==1)
  ·exact rt1 4 (vI 2) rfl f0 (hZ _ _ ⟨by unfold aCo;simp only [h93,h94,h95]<;>rfl,hM.fr⟩)
  exact rt1 4 (vI 1) rfl f0 (hZ _ _ ⟨by unfold aCo;simp only [h93,h94,h95]<;>rfl,hM.fr⟩)
end Go.Proofs.YtbflfefahheidaaGreatDoor
