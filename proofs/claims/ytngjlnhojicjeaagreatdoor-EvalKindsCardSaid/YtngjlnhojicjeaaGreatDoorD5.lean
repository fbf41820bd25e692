/- Part 5 of the proof. -/
import Derived.Test.YtngjlnhojicjeaaGreatDoorD4
import Derived.Deep.LoopGhost
import Derived.Laws.CopyRow
import Derived.Test.YtngjlnhojicjeaaGreatDoorChecked
import Derived.Shelf.RegionOpenPlain
import Derived.WalkKit
import Derived.Lib.Walk
import Derived.Lib.SliceRun
import Derived.Lib.JoinLaws
import Derived.Lib.AppendZerosOnto
import Derived.Lib.AppendZeros
import Derived.Lib.Overlaps
import Derived.Laws.Externs
import Derived.Laws.IdiomCopy
import Derived.Lib.Hide
set_option linter.unusedVariables false
set_option linter.unusedSimpArgs false
namespace Go.Proofs.YtngjlnhojicjeaaGreatDoor
open Go.RowKit Go.Pl
variable{o:Oper}{w:World}{ρ:Operand->Value}{s:Wt}{v:Value}
section
variable{x y:Operand}{g off n cap:Nat}{p:Option Addr}{b c:Bool}
theorem aFB (hp:p.isNone=b)(ho:o.op=.binOp .eql 159 x y 159)(hx:ρ x=.slice p n cap)(hy:ρ y=.slice none 0 0):(execOp ρ o).run Tryz.prog w=.ok (.value (.bool b)) w:=by
 have:=Lib.run_eql_slice_nil (P:=Tryz.prog) w 159 157 p n cap 0 0 u159_;subst hp;cases p<;>simp[execOp,ho,hx,hy,go_sem,this]
theorem aLL (hp:p.isNone=b)(ho:o.op=.binOp .neq 159 x y 159)(hx:ρ x=.slice p n cap)(hy:ρ y=.slice none 0 0):(execOp ρ o).run Tryz.prog w=.ok (.value (.bool (!b))) w:=by
 have:=Lib.run_eql_slice_nil (P:=Tryz.prog) w 159 157 p n cap 0 0 u159_;subst hp;cases p<;>simp[execOp,ho,hx,hy,go_sem,this]
theorem aQs (hx:ρ x=.bool b)(hy:ρ y=.bool c)(ho:o.op=.binOp .neq 4 x y 4):(execOp ρ o).run Tryz.prog w=.ok (.value (.bool (b != c))) w:=by
 cases b<;>cases c<;>simp[execOp,ho,hx,hy,go_sem]
theorem aLP {f:FuncId}{ts:Array TypeId}{z:Operand}{u:Value}(eg:∀args w,(callFunc f args).run Tryz.prog w=.ok (.enter f args) w)(ho:o.op=.call ⟨.value z,#[x,y],ts⟩)(hf:ρ z=.func (.func f) #[] #[])(hx:ρ x=u)(hy:ρ y=v):(execOp ρ o).run Tryz.prog w=.ok (.enter f #[u,v]) w:=by
 simp[execOp,ho,hf,hx,hy,eg,resolve,Deferred.ofValue,invoke,go_sem]
end
variable{O:Array Oper}{Q:Exit->Act->World->Prop}{rest:List Oper}{a:Act}{ds:List Deferred}
section
variable{n d:Nat}{L:List (Nat×Value)}{x y:Operand}
theorem aIE (E:EnvD ds n L a)(hd:o.dst=some d)(hn:d<n)(hf:(L.map (·.1)).contains d=false)(hw:Region.wanted o (yielded O a.tmps)=true)(ho:o.op=.box 170 x)(hx:a.eval x=.agg (wtC s))
  (k:∀a' w' b,w.heap.size=b->wtB w' b s->Fr nF_ w w'->EnvD ds n ((d,vP b 0)::L) a'->wpList Tryz.prog O Q rest a' w'):wpList Tryz.prog O Q (o::rest) a w :=
 aB8 E hd hn hf hw (aN4 ho hx) λa' E'=>k a' _ _ rfl (aAl _ _) ((Fr.refl _ _).alloc _) E'
end
variable{x:Wt}{S:Nat->Prop}
theorem aMI.five (h:aMI w S x):∃p n cap,w.cell? ⟨x.c.1,5,none⟩=some (.slice p n cap)/\p.isNone=(x.h==0):=by
 obtain⟨_,p,n,cap,h1,h2,h3⟩:=h.cells;refine⟨p,n,cap,h1,?_⟩
 by_cases h0:x.h=0
 ·rw[(h2 h0).1,h0];rfl
 ·obtain⟨a,rfl⟩:=h3 h0;exact(beq_eq_false_iff_ne.2 h0).symm
def QAt (w:World)(q B:Nat)(v:Value)(X:List Wt):Prop:=quB w q v/\oWt w B v X
variable{B:Nat}{X:List Wt}
theorem QAt.fr {w':World}{q:Nat}{F:Nat->Prop}(h:QAt w q B v X)(f:Fr F w w')(h1:¬F q)(h2:∀k,v.ownBlock=some k->¬F k):QAt w' q B v X:=⟨f.obj h.1 h1,h.2.fr f h2⟩
theorem QAt.ne {q:Nat}(h:QAt w q B v X):v.ownBlock≠some q:=aAZ dE h.2 h.1
theorem aHy (h:oWt w B v X)(hne:X≠[]):∃g cap,v=.slice (some ⟨g,0,none⟩) X.length cap/\X.length<=cap:=by
 rcases h.2 with⟨h1,h2⟩|⟨g,cap,cur,h1,_,_,h4,_⟩
 ·exact absurd (List.eq_nil_of_length_eq_zero h2) hne
 ·exact⟨g,cap,h1,h4⟩
theorem aE9 {g n cap:Nat}(h:oWt w B (.slice (some ⟨g,0,none⟩) n cap) X):∀(i:Nat) x,X[i]?=some x->w.rangeAt g (0+i*2) (wtL x):=by
 intro i x hx;obtain⟨p,c2,h1,_,_,h4,_⟩:=h.src aCc;simp only[Value.slice.injEq] at h1;obtain⟨rfl,_,_⟩:=h1;rcases h4 with h4|⟨g2,off,h5,_,h6⟩
 ·rw[h4] at hx;simp at hx
 ·simp only[Gk_,Addr.mk.injEq] at h5;obtain⟨rfl,rfl,_⟩:=h5;exact h6 i x hx
variable{i:Nat}
theorem aOa {g n cap:Nat}{y:Wt}(h:oWt w B (.slice (some ⟨g,0,none⟩) n cap) X)(hx:X[i]?=some x) :
  (∃u0 u1,w.cell? ⟨g,0+i*2,none⟩=some u0/\w.cell? ⟨g,0+i*2+1,none⟩=some u1/\w.frozen? ⟨g,0+i*2,none⟩=false/\w.frozen? ⟨g,0+i*2+1,none⟩=false)/\
  oWt ((w.setCell ⟨g,0+i*2,none⟩ (vP y.c.1 0)).setCell ⟨g,0+i*2+1,none⟩ (.int .i64 y.far)) B (.slice (some ⟨g,0,none⟩) n cap) (X.set i y):=by
 have hr:=aE9 h i x hx;have hi:=(List.getElem?_eq_some_iff.1 hx).1;rcases h.2 with⟨h1,h2⟩|⟨g2,c2,cur,h1,hB,h3,h4,h5,h6,h7⟩
 ·cases h1
 ·simp only[Value.slice.injEq,Gk_,Addr.mk.injEq] at h1;obtain⟨⟨rfl,_,_⟩,rfl,rfl⟩:=h1;refine⟨⟨_,_,hr 0 _ rfl,hr 1 _ rfl,aAm h3 _,aAm h3 _⟩,?_⟩;have e1:=aAk (off:=0+i*2) h3 (vP y.c.1 0);have e2:=aAk (off:=0+i*2+1) e1 (.int .i64 y.far);refine⟨?_,.inr ⟨g,cap,_,?_,hB,e2,?_,h5,?_,?_⟩⟩
  ·rw[aAz aCc]
  ·rw[List.length_set]
  ·rw[List.length_set];exact h4
  ·simp[h6]
  ·rw[List.length_set];apply List.ext_getElem?;intro t;have hfl:((X.set i y).flatMap wtL).length=X.length*2:=by rw[aAz aCc,List.length_set]
   by_cases ht:t<X.length*2
   ·rw[List.getElem?_take_of_lt ht,Array.getElem?_toList,Array.getElem?_setIfInBounds,Array.getElem?_setIfInBounds];have hmod:t%2<2:=Nat.mod_lt _ oM;have hdv:t / 2<X.length:=by omega
    have hsz:t<cur.size:=by omega
    obtain⟨z,hz⟩:∃z,(X.set i y)[t / 2]?=some z:=⟨_,Gb_ (by rw[List.length_set];exact hdv)⟩;have hf:=aBR aCc (X.set i y) (t / 2) z hz (t%2) hmod;rw[show t / 2*2+t%2=t by omega] at hf;rw[hf];rw[List.getElem?_set] at hz
    by_cases hti:i=t / 2
    ·rw[if_pos hti,if_pos hi] at hz;obtain rfl:=Gh_ hz;rcases(show t%2=0\/t%2=1 by omega) with hm|hm
     ·rw[if_neg oM,if_pos oM,hm];rw[if_pos oM];rfl
     ·rw[if_pos oM,hm];simp only[Array.size_setIfInBounds];rw[if_pos oM];rfl
    ·rw[if_neg hti] at hz;rw[if_neg oM,if_neg oM];have hf2:=aBR aCc X (t / 2) z hz (t%2) hmod;rw[show t / 2*2+t%2=t by omega,<-h7,List.getElem?_take_of_lt ht,Array.getElem?_toList] at hf2;exact hf2
   ·rw[List.getElem?_eq_none (by rw[Gq_];omega),List.getElem?_eq_none (by rw[hfl];omega)]
theorem Fr.two (g a b:Nat)(w:World)(v0 v1:Value):Fr (λk=>k=g) w ((w.setCell ⟨g,a,none⟩ v0).setCell ⟨g,b,none⟩ v1) :=
 ((Fr.refl (λk=>k=g) w).setCell (p:=⟨g,a,none⟩) (λ_=>rfl) v0).setCell (p:=⟨g,b,none⟩) (λ_=>rfl) v1
set_option maxRecDepth 100000 in
set_option maxHeartbeats 4000000 in
theorem aMg {y:Wt}(hX:aMI w S x)(hY:aMI w S y):Calls Tryz.prog 114 #[.agg (wtC x),.agg (wtC y)] w λe w'=>e=.returned (.bool (lsW x y))/\Fr nF_ w w':=by
 refine aAW Tryz.func114 rfl rfl (n:=45) dE λa E=>?_;have hf:Fr nF_ w w:=Fr.refl _ _;obtain⟨px,nx,cx,hx5,hxp⟩:=hX.five;obtain⟨py,ny,cy,hy5,hyp⟩:=hY.five;have hx4:=hX.cells.1;have hy4:=hY.cells.1;refine s_ (r_ (aIE (d:=2) E rfl dE rfl (aAb rfl _) rfl E.g0 λa w1 aa ac hb31 f1 E=>?_));have hx4:=f1.cell hx4 id;have hy4:=f1.cell hy4 id;have hx5:=f1.cell hx5 id;have hy5:=f1.cell hy5 id;have hf:=hf.trans f1;clear f1;refine aIE (d:=3) E rfl dE rfl (aAb rfl _) rfl E.g2 λa w1 ab ad hb32 f1 E=>?_;have hx4:=f1.cell hx4 id;have hy4:=f1.cell hy4 id;have hx5:=f1.cell hx5 id;have hy5:=f1.cell hy5 id;have hb31:=f1.obj hb31 id;have hf:=hf.trans f1;clear f1;refine ep (v := .bool false) E rfl (a_ rfl rfl) λa E=>n_ (t_ (s_ (s_ (r_ (ep (v := vP aa 1) E rfl (aLl rfl E.g2) λa E=>ep (v := .int .i64 x.far) E rfl (aAo rfl E.g0 (bx hb31 1 rfl)) λa E=>ep (v := vP ab 1) E rfl (aLl rfl E.g3) λa E=>ep (v := .int .i64 y.far) E rfl (aAo rfl E.g0 (bx hb32 1 rfl)) λa E=>ep (v := .bool (x.far != y.far)) E rfl (aQq E.g2 E.g0 u3_ rfl) λa E=>n_ (t_ ?_))))));cases hq33:(x.far != y.far)
 rotate_left
 ·rw[hq33] at E;refine c_t E.g0 (s_ (r_ (ep (v := vP aa 1) E rfl (aLl rfl E.g7) λa E=>ep (v := .int .i64 x.far) E rfl (aAo rfl E.g0 (bx hb31 1 rfl)) λa E=>ep (v := vP ab 1) E rfl (aLl rfl E.g8) λa E=>ep (v := .int .i64 y.far) E rfl (aAo rfl E.g0 (bx hb32 1 rfl)) λa E=>ep (v := .bool (decide (x.far<y.far))) E rfl (aBn E.g2 E.g0 u3_ rfl) λa E=>es_ E rfl (a_ rfl E.g0) λa E=>n_ (t_ (wr_ (tr_ (aAs (t:=4) rfl E E.g0 ⟨?_,hf⟩)))))));unfold lsW;rw[if_pos (bne_iff_ne.1 hq33)]
 rw[hq33] at E;refine c_f E.g0 (k_ (t_ (s_ (s_ (aBE (n:=45) (base:=[(9,.bool false),(8,.int .i64 y.far),(7,vP ab 1),(6,.int .i64 x.far),(5,vP aa 1),(4,.bool false),(3,vP ab 0),(2,vP aa 0),(0,.agg (wtC x)),(1,.agg (wtC y))]) (T:=[some (15,vP aa 0),some (16,vP x.c.1 0),some (17,vP x.c.1 0),some (18,vP x.c.1 5),some (19,.slice (px) nx cx),some (20,.bool (x.h==0)),some (21,vP ab 0),some (22,vP y.c.1 0),some (23,vP y.c.1 0),some (24,vP y.c.1 5),some (25,.slice (py) ny cy),some (26,.bool (y.h==0)),some (27,.bool ((x.h==0) != (y.h==0)))]) (M:=λ_ wm=>Fr nF_ w1 wm) kR kR kR (E.of ⟨E.g0,E.g1,E.g2,E.g3,E.g4,E.g5,E.g6,E.g7,E.g8,E.g9,trivial⟩) (Fr.refl _ _).drew ?_ ?_)))))
 ·intro j9 o9 t9 ls9 a w5 ho hT0 hl E D DL hM;have hx4:=hM.cell hx4 id;have hy4:=hM.cell hy4 id;have hx5:=hM.cell hx5 id;have hy5:=hM.cell hy5 id;have hb31:=hM.obj hb31 id;have hb32:=hM.obj hb32 id
  match j9,ho,hT0,hl,D,DL with
  | 0,ho,hT0,hl,D,DL=>exact y9_ ho hT0 (aAe (aEo rfl E.g7) rfl hM)
  | 1,ho,hT0,hl,D,DL=>exact y9_ ho hT0 (aAe (aAR rfl (D 0 _ rfl rfl) (bx hb31 0 rfl)) rfl hM)
  | 2,ho,hT0,hl,D,DL=>exact y9_ ho hT0 (aAe (i_ rfl (D 1 _ rfl rfl)) rfl hM)
  | 3,ho,hT0,hl,D,DL=>exact y9_ ho hT0 (aAe (aDJ rfl (D 2 _ rfl rfl)) rfl hM)
  | 4,ho,hT0,hl,D,DL=>exact y9_ ho hT0 (aAe (aBa rfl (D 3 _ rfl rfl) hx5) rfl hM)
  | 5,ho,hT0,hl,D,DL=>exact y9_ ho hT0 (aAe (aFB hxp rfl (D 4 _ rfl rfl) rfl) rfl hM)
  | 6,ho,hT0,hl,D,DL=>exact y9_ ho hT0 (aAe (aEo rfl E.g6) rfl hM)
  | 7,ho,hT0,hl,D,DL=>exact y9_ ho hT0 (aAe (aAR rfl (D 6 _ rfl rfl) (bx hb32 0 rfl)) rfl hM)
  | 8,ho,hT0,hl,D,DL=>exact y9_ ho hT0 (aAe (i_ rfl (D 7 _ rfl rfl)) rfl hM)
  | 9,ho,hT0,hl,D,DL=>exact y9_ ho hT0 (aAe (aDJ rfl (D 8 _ rfl rfl)) rfl hM)
  | 10,ho,hT0,hl,D,DL=>exact y9_ ho hT0 (aAe (aBa rfl (D 9 _ rfl rfl) hy5) rfl hM)
  | 11,ho,hT0,hl,D,DL=>exact y9_ ho hT0 (aAe (aFB hyp rfl (D 10 _ rfl rfl) rfl) rfl hM)
  | 12,ho,hT0,hl,D,DL=>exact y9_ ho hT0 (aAe (aQs (D 5 _ rfl rfl) (D 11 _ rfl rfl) rfl) rfl hM)
  | j9+13,ho,hT0,hl,D,DL=>exact absurd hT0 sI
 ·intro a w5 E V hM;have E:=E.add (V 12 _ rfl);clear V;have hx4:=hM.cell hx4 id;have hy4:=hM.cell hy4 id;have hx5:=hM.cell hx5 id;have hy5:=hM.cell hy5 id;have hb31:=hM.obj hb31 id;have hb32:=hM.obj hb32 id;have hf:=hf.trans hM;clear hM;refine t_ ?_;cases hq35:((x.h==0) != (y.h==0))
  rotate_left
  ·rw[hq35] at E;refine c_t E.g0 (s_ (r_ (ep (v := vP aa 0) E rfl (aEo rfl E.g8) λa E=>ep (v := vP x.c.1 0) E rfl (aAR rfl E.g0 (bx hb31 0 rfl)) λa E=>ep E rfl (i_ rfl E.g0) λa E=>ep (v := vP x.c.1 5) E rfl (aDJ rfl E.g0) λa E=>ep (v := .slice (px) nx cx) E rfl (aBa rfl E.g0 hx5) λa E=>ep (v := .bool (!(x.h==0))) E rfl (aLL hxp rfl E.g0 rfl) λa E=>es_ E rfl (a_ rfl E.g0) λa E=>n_ (t_ (wr_ (tr_ (aAs (t:=4) rfl E E.g0 ⟨?_,hf⟩)))))));unfold lsW;rw[if_neg (λh=>by rw[bne_iff_ne.2 h] at hq33;cases hq33),if_pos hq35];rfl
  rw[hq35] at E;refine c_f E.g0 (k_ (t_ (s_ (aAt (G:=Unit) () (n:=45) (base:=[(27,.bool false),(9,.bool false),(8,.int .i64 y.far),(7,vP ab 1),(6,.int .i64 x.far),(5,vP aa 1),(3,vP ab 0),(2,vP aa 0),(0,.agg (wtC x)),(1,.agg (wtC y))]) (U:=[(4,.bool false,11)]) (T:=λZ=>[some (34,vP aa 0),some (35,vP x.c.1 0),some (36,vP x.c.1 0),some (37,vP x.c.1 4),some (38,.string x.id),some (39,vP ab 0),some (40,vP y.c.1 0),some (41,vP y.c.1 0),some (42,vP y.c.1 4),some (43,.string y.id),some (44,.bool (Op.bytesLess x.id.toList y.id.toList)),some (4,.bool (Op.bytesLess x.id.toList y.id.toList))]) (M:=λZ ls9 wm=>Fr nF_ w5 wm) kR kR (λ_=>by kernel_rfl) (E.of ⟨E.g0,E.g1,E.g2,E.g3,E.g4,E.g5,E.g7,E.g8,E.g9,E.g10,trivial⟩) (λx hx=>by simp only[List.mem_cons,List.not_mem_nil,or_false] at hx;subst hx;exact E.g6) (Fr.refl _ _).drew ?_ ?_))))
  ·intro j9 o9 Z ls9 a w5 ho hl E D DL DL2 hB hM;have hx4:=hM.cell hx4 id;have hy4:=hM.cell hy4 id;have hx5:=hM.cell hx5 id;have hy5:=hM.cell hy5 id;have hb31:=hM.obj hb31 id;have hb32:=hM.obj hb32 id
   match j9,ho,hl,D,DL,hB with
   | 0,ho,hl,D,DL,hB=>exact z0_ ho (aAq rfl (aEo rfl E.g7) rfl hM)
   | 1,ho,hl,D,DL,hB=>exact z0_ ho (aAq rfl (aAR rfl (D 0 _ rfl rfl) (bx hb31 0 rfl)) rfl hM)
   | 2,ho,hl,D,DL,hB=>exact z0_ ho (aAq rfl (i_ rfl (D 1 _ rfl rfl)) rfl hM)
   | 3,ho,hl,D,DL,hB=>exact z0_ ho (aAq rfl (aLm rfl (D 2 _ rfl rfl)) rfl hM)
   | 4,ho,hl,D,DL,hB=>exact z0_ ho (aAq rfl (aHk rfl (D 3 _ rfl rfl) hx4) rfl hM)
   | 5,ho,hl,D,DL,hB=>exact z0_ ho (aAq rfl (aEo rfl E.g6) rfl hM)
   | 6,ho,hl,D,DL,hB=>exact z0_ ho (aAq rfl (aAR rfl (D 5 _ rfl rfl) (bx hb32 0 rfl)) rfl hM)
   | 7,ho,hl,D,DL,hB=>exact z0_ ho (aAq rfl (i_ rfl (D 6 _ rfl rfl)) rfl hM)
   | 8,ho,hl,D,DL,hB=>exact z0_ ho (aAq rfl (aLm rfl (D 7 _ rfl rfl)) rfl hM)
   | 9,ho,hl,D,DL,hB=>exact z0_ ho (aAq rfl (aHk rfl (D 8 _ rfl rfl) hy4) rfl hM)
   | 10,ho,hl,D,DL,hB=>exact z0_ ho (aAq rfl (aQj (D 4 _ rfl rfl) (D 9 _ rfl rfl) rfl) rfl hM)
   | 11,ho,hl,D,DL,hB=>exact z0_ ho (aAq rfl (a_ rfl (D 10 _ rfl rfl)) rfl hM)
   | j9+12,ho,hl,D,DL,hB=>exact absurd ho sI
  ·rintro _ a w5 E V hM;have E:=E.add (v := .bool (Op.bytesLess x.id.toList y.id.toList)) (V 11 _ rfl);clear V;have hx4:=hM.cell hx4 id;have hy4:=hM.cell hy4 id;have hx5:=hM.cell hx5 id;have hy5:=hM.cell hy5 id;have hb31:=hM.obj hb31 id;have hb32:=hM.obj hb32 id;have hf:=hf.trans hM;clear hM;refine t_ (wr_ (aAs (t:=4) rfl E E.g0 ⟨?_,hf⟩));unfold lsW;rw[if_neg (λh=>by rw[bne_iff_ne.2 h] at hq33;cases hq33),if_neg (by rw[hq35];exact Bool.false_ne_true)]
set_option maxRecDepth 100000 in
set_option maxHeartbeats 4000000 in
theorem aDO {q n c:Nat}{p:Option Addr}(hq:quB w q (.slice p n c)):Calls Tryz.prog 117 #[vP q 0] w λe w'=>e=.returned (.int .i64 (n:Int))/\Fr nF_ w w':=by
 refine aBV Tryz.func117 rfl rfl (n:=8) dE λa E=>?_;have hf:Fr nF_ w w:=Fr.refl _ _;refine s_ (r_ (ep (v := .int .i64 0) E rfl (a_ rfl rfl) λa E=>n_ (t_ (s_ (r_ (ep E rfl (m_ rfl E.g1) λa E=>ep E rfl (i_ rfl E.g0) λa E=>ep (v := vP q 0) E rfl (aC5 rfl E.g0) λa E=>ep (v := .slice (p) n c) E rfl (aB4 rfl E.g0 (bx hq 0 rfl)) λa E=>ep (v := .int .i64 (n:Int)) E rfl (aFG rfl E.g0) λa E=>es_ E rfl (a_ rfl E.g0) λa E=>n_ (t_ (wr_ (aAs (t:=2) rfl E E.g0 ⟨rfl,hf⟩)))))))))
set_option maxRecDepth 100000 in
set_option maxHeartbeats 4000000 in
theorem aBZ {q j:Nat}{y:Wt}(hQ:QAt w q B v X)(hx:X[i]?=some x)(hy:X[j]?=some y)(hXn:aMI w S x)(hYn:aMI w S y):Calls Tryz.prog 335 #[vP q 0,.int .i64 (i:Int),.int .i64 (j:Int)] w λe w'=>e=.returned (.bool (lsW x y))/\Fr nF_ w w':=by
 refine aDg Tryz.func335 rfl rfl (n:=26) dE λa E=>?_;have hf:Fr nF_ w w:=Fr.refl _ _;obtain⟨hq,hO⟩:=hQ;obtain⟨g,cap,rfl,_⟩:=aHy hO (by rintro rfl;simp at hx);have hrx:=aE9 hO i x hx;have hry:=aE9 hO j y hy;have hil:=(List.getElem?_eq_some_iff.1 hx).1;have hjl:=(List.getElem?_eq_some_iff.1 hy).1;refine s_ (r_ (ep (v := .bool false) E rfl (a_ rfl rfl) λa E=>n_ (t_ (s_ (aAt (G:=Unit) () (n:=26) (base:=[(0,vP q 0),(1,.int .i64 (i:Int)),(2,.int .i64 (j:Int))]) (U:=[(6,.bool false,19)]) (T:=λZ=>[some (7,vP q 0),some (8,vP q 0),some (9,vP q 1),some (10,.func (.func 114) #[] #[]),some (11,vP q 0),some (12,vP q 0),some (13,vP q 0),some (14,.slice (some ⟨g,0,none⟩) X.length cap),some (15,.int .i64 (i:Int)),some (16,vP g (0+i*2)),some (17,.agg (wtC x)),some (18,vP q 0),some (19,vP q 0),some (20,vP q 0),some (21,.slice (some ⟨g,0,none⟩) X.length cap),some (22,.int .i64 (j:Int)),some (23,vP g (0+j*2)),some (24,.agg (wtC y)),some (25,.bool (lsW x y)),some (6,.bool (lsW x y))]) (M:=λZ ls9 wm=>Fr nF_ w wm) kR kR (λ_=>by kernel_rfl) (E.of ⟨E.g1,E.g2,E.g3,trivial⟩) (λx hx=>by simp only[List.mem_cons,List.not_mem_nil,or_false] at hx;subst hx;exact E.g0) (Fr.refl _ _).drew ?_ ?_)))))
 ·intro j9 o9 Z ls9 a w5 ho hl E D DL DL2 hB hM;have hq:=hM.obj hq id;have hrx:=λm u hu=>hM.cell (hrx m u hu) id;have hry:=λm u hu=>hM.cell (hry m u hu) id;have hXn:=aHV.fr hM (λ_ _ h=>h) hXn;have hYn:=aHV.fr hM (λ_ _ h=>h) hYn
  match j9,ho,hl,D,DL,hB with
  | 0,ho,hl,D,DL,hB=>exact z0_ ho (aAq rfl (m_ rfl E.g0) rfl hM)
  | 1,ho,hl,D,DL,hB=>exact z0_ ho (aAq rfl (i_ rfl (D 0 _ rfl rfl)) rfl hM)
  | 2,ho,hl,D,DL,hB=>exact z0_ ho (aAq rfl (aWp rfl (D 1 _ rfl rfl)) rfl hM)
  | 3,ho,hl,D,DL,hB=>exact z0_ ho (aAq rfl (aQo rfl (D 2 _ rfl rfl) (bx hq 1 rfl)) rfl hM)
  | 4,ho,hl,D,DL,hB=>exact z0_ ho (aAq rfl (m_ rfl E.g0) rfl hM)
  | 5,ho,hl,D,DL,hB=>exact z0_ ho (aAq rfl (i_ rfl (D 4 _ rfl rfl)) rfl hM)
  | 6,ho,hl,D,DL,hB=>exact z0_ ho (aAq rfl (aC5 rfl (D 5 _ rfl rfl)) rfl hM)
  | 7,ho,hl,D,DL,hB=>exact z0_ ho (aAq rfl (aB4 rfl (D 6 _ rfl rfl) (bx hq 0 rfl)) rfl hM)
  | 8,ho,hl,D,DL,hB=>exact z0_ ho (aAq rfl (m_ rfl E.g1) rfl hM)
  | 9,ho,hl,D,DL,hB=>exact z0_ ho (aAq rfl (aB6 (i:=i) rfl (D 7 _ rfl rfl) (D 8 _ rfl rfl) hil) rfl hM)
  | 10,ho,hl,D,DL,hB=>exact z0_ ho (aAq rfl (aCS rfl (D 9 _ rfl rfl) hrx) rfl hM)
  | 11,ho,hl,D,DL,hB=>exact z0_ ho (aAq rfl (m_ rfl E.g0) rfl hM)
  | 12,ho,hl,D,DL,hB=>exact z0_ ho (aAq rfl (i_ rfl (D 11 _ rfl rfl)) rfl hM)
  | 13,ho,hl,D,DL,hB=>exact z0_ ho (aAq rfl (aC5 rfl (D 12 _ rfl rfl)) rfl hM)
  | 14,ho,hl,D,DL,hB=>exact z0_ ho (aAq rfl (aB4 rfl (D 13 _ rfl rfl) (bx hq 0 rfl)) rfl hM)
  | 15,ho,hl,D,DL,hB=>exact z0_ ho (aAq rfl (m_ rfl E.g2) rfl hM)
  | 16,ho,hl,D,DL,hB=>exact z0_ ho (aAq rfl (aB6 (i:=j) rfl (D 14 _ rfl rfl) (D 15 _ rfl rfl) hjl) rfl hM)
  | 17,ho,hl,D,DL,hB=>exact z0_ ho (aAq rfl (aCS rfl (D 16 _ rfl rfl) hry) rfl hM)
  | 18,ho,hl,D,DL,hB=>exact z0_ ho (aHK rfl (aLP (enters_of Tryz.func114 kR rfl) rfl (D 3 _ rfl rfl) (D 10 _ rfl rfl) (D 17 _ rfl rfl)) (aMg hXn hYn) rfl λw9 f1=>hM.trans' f1 (λ_ _ h=>h.elim))
  | 19,ho,hl,D,DL,hB=>exact z0_ ho (aAq rfl (a_ rfl (D 18 _ rfl rfl)) rfl hM)
  | j9+20,ho,hl,D,DL,hB=>exact absurd ho sI
 ·rintro _ a w5 E V hM;have E:=E.add (v := .bool (lsW x y)) (V 19 _ rfl);clear V;have hq:=hM.obj hq id;have hrx:=λm u hu=>hM.cell (hrx m u hu) id;have hry:=λm u hu=>hM.cell (hry m u hu) id;have hXn:=aHV.fr hM (λ_ _ h=>h) hXn;have hYn:=aHV.fr hM (λ_ _ h=>h) hYn;have hf:=hf.trans hM;clear hM;refine t_ (wr_ (aAs (t:=6) rfl E E.g0 ⟨rfl,hf⟩))
set_option maxRecDepth 100000 in
set_option maxHeartbeats 4000000 in
theorem aBX {q j:Nat}{y:Wt}(hQ:QAt w q B v X)(hx:X[i]?=some x)(hy:X[j]?=some y):Calls Tryz.prog 338 #[vP q 0,.int .i64 (i:Int),.int .i64 (j:Int)] w λe w'=>e=.returned (.tuple #[])/\QAt w' q B v ((X.set i y).set j x)/\Fr (λk=>v.ownBlock=some k) w w':=by
 refine aDg Tryz.func338 rfl rfl (n:=32) dE λa E=>?_;obtain⟨hq,hO⟩:=hQ;obtain⟨g,cap,rfl,_⟩:=aHy hO (by rintro rfl;simp at hx);have hil:=(List.getElem?_eq_some_iff.1 hx).1;have hjl:=(List.getElem?_eq_some_iff.1 hy).1;have hqg:q≠g:=λe=>by have:=aAZ dE hO hq;rw[e] at this;exact this rfl
 refine aAt (G:=Unit) () (n:=32) (base:=[(0,vP q 0),(1,.int .i64 (i:Int)),(2,.int .i64 (j:Int))]) (U:=[]) (T:=λZ=>[some (6,vP q 0),some (7,vP q 0),some (8,vP q 0),some (9,.slice (some ⟨g,0,none⟩) X.length cap),some (10,.int .i64 (i:Int)),some (11,vP q 0),some (12,vP q 0),some (13,vP q 0),some (14,.slice (some ⟨g,0,none⟩) X.length cap),some (15,.int .i64 (j:Int)),some (16,vP q 0),some (17,vP q 0),some (18,vP q 0),some (19,.slice (some ⟨g,0,none⟩) X.length cap),some (20,.int .i64 (j:Int)),some (21,vP g (0+j*2)),some (22,.agg (wtC y)),some (23,vP q 0),some (24,vP q 0),some (25,vP q 0),some (26,.slice (some ⟨g,0,none⟩) X.length cap),some (27,.int .i64 (i:Int)),some (28,vP g (0+i*2)),some (29,.agg (wtC x)),some (30,vP g (0+i*2)),none,some (31,vP g (0+j*2)),none]) (M:=λZ ls9 wm=>Fr (λk=>k=g) w wm/\oWt wm B (.slice (some ⟨g,0,none⟩) X.length cap) (bif ls9 27 then(bif ls9 25 then X.set i y else X).set j x else bif ls9 25 then X.set i y else X)) kR kR (λ_=>by kernel_rfl) (E.of ⟨E.g0,E.g1,E.g2,trivial⟩) (λx hx=>by cases hx) ⟨(Fr.refl _ _).drew,hO.fr (Fr.refl nF_ _).drew (λ_ _ h=>h)⟩ ?_ ?_
 ·intro j9 o9 Z ls9 a w5 ho hl E D DL DL2 hB hM;have hq5:=hM.1.obj hq hqg
  match j9,ho,hl,D,DL,hB with
  | 0,ho,hl,D,DL,hB=>exact z0_ ho (aAq rfl (m_ rfl E.g0) rfl hM)
  | 1,ho,hl,D,DL,hB=>exact z0_ ho (aAq rfl (i_ rfl (D 0 _ rfl rfl)) rfl hM)
  | 2,ho,hl,D,DL,hB=>exact z0_ ho (aAq rfl (aC5 rfl (D 1 _ rfl rfl)) rfl hM)
  | 3,ho,hl,D,DL,hB=>exact z0_ ho (aAq rfl (aB4 rfl (D 2 _ rfl rfl) (bx hq5 0 rfl)) rfl hM)
  | 4,ho,hl,D,DL,hB=>exact z0_ ho (aAq rfl (m_ rfl E.g1) rfl hM)
  | 5,ho,hl,D,DL,hB=>exact z0_ ho (aAq rfl (m_ rfl E.g0) rfl hM)
  | 6,ho,hl,D,DL,hB=>exact z0_ ho (aAq rfl (i_ rfl (D 5 _ rfl rfl)) rfl hM)
  | 7,ho,hl,D,DL,hB=>exact z0_ ho (aAq rfl (aC5 rfl (D 6 _ rfl rfl)) rfl hM)
  | 8,ho,hl,D,DL,hB=>exact z0_ ho (aAq rfl (aB4 rfl (D 7 _ rfl rfl) (bx hq5 0 rfl)) rfl hM)
  | 9,ho,hl,D,DL,hB=>exact z0_ ho (aAq rfl (m_ rfl E.g2) rfl hM)
  | 10,ho,hl,D,DL,hB=>exact z0_ ho (aAq rfl (m_ rfl E.g0) rfl hM)
  | 11,ho,hl,D,DL,hB=>exact z0_ ho (aAq rfl (i_ rfl (D 10 _ rfl rfl)) rfl hM)
  | 12,ho,hl,D,DL,hB=>exact z0_ ho (aAq rfl (aC5 rfl (D 11 _ rfl rfl)) rfl hM)
  | 13,ho,hl,D,DL,hB=>exact z0_ ho (aAq rfl (aB4 rfl (D 12 _ rfl rfl) (bx hq5 0 rfl)) rfl hM)
  | 14,ho,hl,D,DL,hB=>exact z0_ ho (aAq rfl (m_ rfl E.g2) rfl hM)
  | 15,ho,hl,D,DL,hB=>exact z0_ ho (aAq rfl (aB6 (i:=j) rfl (D 13 _ rfl rfl) (D 14 _ rfl rfl) hjl) rfl hM)
  | 16,ho,hl,D,DL,hB =>
   have n25:ls9 25=false:=by
    cases h8:ls9 25 with
    | false=>rfl
    | true=>exact absurd (hl.symm.trans (DL2 25 16 rfl h8)) dE
   have n27:ls9 27=false:=by
    cases h8:ls9 27 with
    | false=>rfl
    | true=>exact absurd (hl.symm.trans (DL2 27 16 rfl h8)) dE
   have hO5:=hM.2;rw[n25,n27] at hO5;obtain rfl:=Gh_ ho;exact⟨λ_=>aAq rfl (aCS rfl (D 15 _ rfl rfl) (aE9 hO5 j y hy)) rfl hM,λh=>by rw[aAb rfl] at h;cases h⟩
  | 17,ho,hl,D,DL,hB=>exact z0_ ho (aAq rfl (m_ rfl E.g0) rfl hM)
  | 18,ho,hl,D,DL,hB=>exact z0_ ho (aAq rfl (i_ rfl (D 17 _ rfl rfl)) rfl hM)
  | 19,ho,hl,D,DL,hB=>exact z0_ ho (aAq rfl (aC5 rfl (D 18 _ rfl rfl)) rfl hM)
  | 20,ho,hl,D,DL,hB=>exact z0_ ho (aAq rfl (aB4 rfl (D 19 _ rfl rfl) (bx hq5 0 rfl)) rfl hM)
  | 21,ho,hl,D,DL,hB=>exact z0_ ho (aAq rfl (m_ rfl E.g1) rfl hM)
  | 22,ho,hl,D,DL,hB=>exact z0_ ho (aAq rfl (aB6 (i:=i) rfl (D 20 _ rfl rfl) (D 21 _ rfl rfl) hil) rfl hM)
  | 23,ho,hl,D,DL,hB =>
   have n25:ls9 25=false:=by
    cases h8:ls9 25 with
    | false=>rfl
    | true=>exact absurd (hl.symm.trans (DL2 25 23 rfl h8)) dE
   have n27:ls9 27=false:=by
    cases h8:ls9 27 with
    | false=>rfl
    | true=>exact absurd (hl.symm.trans (DL2 27 23 rfl h8)) dE
   have hO5:=hM.2;rw[n25,n27] at hO5;obtain rfl:=Gh_ ho;exact⟨λ_=>aAq rfl (aCS rfl (D 22 _ rfl rfl) (aE9 hO5 i x hx)) rfl hM,λh=>by rw[aAb rfl] at h;cases h⟩
  | 24,ho,hl,D,DL,hB=>exact z0_ ho (aAq rfl (aB6 (i:=i) rfl (D 3 _ rfl rfl) (D 4 _ rfl rfl) hil) rfl hM)
  | 25,ho,hl,D,DL,hB =>
   have n27:ls9 27=false:=by
    cases h8:ls9 27 with
    | false=>rfl
    | true=>exact absurd (hl.symm.trans (DL2 27 25 rfl h8)) dE
   have hO5:=hM.2;rw[hl,n27] at hO5;obtain⟨⟨u0,u1,c0,c1,z0,z1⟩,hO6⟩:=aOa (y:=y) hO5 hx;obtain rfl:=Gh_ ho;exact⟨λ_=>aDm rfl (aFm (s:=y) rfl (D 24 _ rfl rfl) (D 16 _ rfl rfl) c0 c1 z0 z1) rfl ⟨hM.1.trans' (Fr.two _ _ _ _ _ _) (λ_ _ e=>e),by simp only[n27];exact hO6⟩,λh=>by rw[aAb rfl] at h;cases h⟩
  | 26,ho,hl,D,DL,hB=>exact z0_ ho (aAq rfl (aB6 (i:=j) rfl (D 8 _ rfl rfl) (D 9 _ rfl rfl) hjl) rfl hM)
  | 27,ho,hl,D,DL,hB =>
   have d25:=DL 25 rfl;have hO5:=hM.2;rw[hl,d25] at hO5;have hy2:∃z,(X.set i y)[j]?=some z:=⟨_,Gb_ (by rw[List.length_set];exact hjl)⟩;obtain⟨z,hz⟩:=hy2;obtain⟨⟨u0,u1,c0,c1,z0,z1⟩,hO6⟩:=aOa (y:=x) hO5 hz;obtain rfl:=Gh_ ho;exact⟨λ_=>aDm rfl (aFm (s:=x) rfl (D 26 _ rfl rfl) (D 23 _ rfl rfl) c0 c1 z0 z1) rfl ⟨hM.1.trans' (Fr.two _ _ _ _ _ _) (λ_ _ e=>e),by simp only[d25];exact hO6⟩,λh=>by rw[aAb rfl] at h;cases h⟩
  | j9+28,ho,hl,D,DL,hB=>exact absurd ho sI
 ·rintro _ a w9 E V hM;clear V;have hq9:=hM.1.obj hq hqg;have hO9:oWt w9 B (.slice (some ⟨g,0,none⟩) X.length cap) ((X.set i y).set j x):=hM.2;have hF:=hM.1;clear hM;exact(aCe rfl E ⟨rfl,⟨hq9,hO9⟩,hF.mono λr _ e=>by rw[e];rfl⟩).1
theorem aYn {x y:Operand}{G:Nat}{A S:List Wt}{p:Option Addr}{cap:Nat}(ho:o.op=.call { callee := .builtin .append,args:=#[x,y],argTypes:=#[172,172] })(hx:ρ x=v)(hy:ρ y=.slice p S.length cap)(hv:oWt w B v A)(hsrc:aBh wtL 2 w G p S)(hcp:p=none->cap=0)(hl:A.length+S.length<=400000000)(hB:B<=w.heap.size) :
  ∃v' w',(execOp ρ o).run Tryz.prog w=.ok (.value v') w'/\oWt w' B v' (A++S)/\Fr (λk=>v.ownBlock=some k) w w'/\(v'.ownBlock=v.ownBlock\/v'.ownBlock=some w.heap.size) :=
 aWB aCc oM (λs u hu=>by simp at hu;rcases hu with rfl|rfl<;>rfl) Tryz.underlying172 aTV rfl dE ho hx hy hv hsrc hcp hl hB
theorem aIw (h:oWt w B v X):∃p n c,v=.slice p n c:=by
 obtain⟨p,c,h,_⟩:=h.src aCc;exact⟨p,_,c,h⟩
variable{Y:List Wt}
theorem aTy {cap:Nat}{p:Option Addr}(h:oWt w B (.slice p (Y.length+1) cap) (Y++[x])):oWt w B (.slice p Y.length cap) Y:=by
 rcases h.2 with⟨h1,h2⟩|⟨g,c2,cur,h1,hB,h3,h4,h5,h6,h7⟩
 ·simp at h2
 ·simp only[Value.slice.injEq] at h1;obtain⟨rfl,_,rfl⟩:=h1;simp only[Gi_,List.length_singleton] at h4 h7;refine⟨by rw[aAz aCc],.inr ⟨g,cap,cur,rfl,hB,h3,by omega,h5,h6,?_⟩⟩;have h8:=congrArg (List.take (Y.length*2)) h7;rw[List.take_take,Nat.min_eq_left oM] at h8;rw[h8,aCL aCc];rw[List.take_append_of_le_length (Gj_ _),List.take_length]
section
variable{x y:Operand}{n cap:Nat}{p:Option Addr}{g:Nat}
theorem aNs (ho:o.op=.buildSlice 172 1 #[(0,x)])(hx:ρ x=.agg (wtC s)):(execOp ρ o).run Tryz.prog w=.ok (.value (.slice (some ⟨w.heap.size,0,none⟩) 1 1)) (w.alloc (.cells (wtC s) 170)):=by
 simp[execOp,ho,hx,go_sem]
theorem aNl {z:Int}(hz:z=(i:Int))(ho:o.op=.slice 172 x none (some y) none)(hx:ρ x=.slice (some ⟨g,0,none⟩) n cap)(hy:ρ y=.int .i64 z)(hle:n<=cap)(hi:i<n):(execOp ρ o).run Tryz.prog w=.ok (.value (.slice (some ⟨g,0,none⟩) i cap)) w:=by
 subst hz;have h1:(i:Int)<=cap:=by omega
 have h0:(0:Int)<=i:=by omega
 have h3:cap≠0:=by omega
 simp[execOp,ho,hx,hy,go_sem,h1,h0,h3]
theorem aIq {z:Int}(hz:z=(i:Int))(ho:o.op=.indexAddr 172 x y)(hx:ρ x=.slice (some ⟨g,0,none⟩) n cap)(hy:ρ y=.int .i64 z)(hi:i<n):(execOp ρ o).run Tryz.prog w=.ok (.value (.pointer (some ⟨g,0+i*2,none⟩))) w:=by
 subst hz;exact aB6 ho hx hy hi
end
section
variable{n d:Nat}{L:List (Nat×Value)}{x y:Operand}{b:Nat}
theorem aGg (E:EnvD ds n L a)(hd:o.dst=some d)(hn:d<n)(hf:(L.map (·.1)).contains d=false)(hw:Region.wanted o (yielded O a.tmps)=true)(ho:o.op=.alloc 170)
  (k:∀a' w' b,w.heap.size=b->w'.heap[b]?=some (.cells #[.pointer none,.int .i64 0] 170 (0,0))->Fr nF_ w w'->EnvD ds n ((d,vP b 0)::L) a'->wpList Tryz.prog O Q rest a' w'):wpList Tryz.prog O Q (o::rest) a w :=
 aB8 E hd hn hf hw (aFJ ho) λa' E'=>k a' _ _ rfl (aAl _ _) ((Fr.refl _ _).alloc _) E'
theorem aMJ {u0 u1:Value}(h:w.heap[b]?=some (.cells #[u0,u1] 170 (0,0)))(s:Wt):wtB ((w.setCell ⟨b,0,none⟩ (vP s.c.1 0)).setCell ⟨b,0+1,none⟩ (.int .i64 s.far)) b s:=by
 have h1:=aAk (off:=0) h (vP s.c.1 0);have h2:=aAk (off:=0+1) h1 (.int .i64 s.far);exact h2
theorem aLr {u0 u1:Value}(E:EnvD ds n L a)(hd:o.dst=none)(hw:Region.wanted o (yielded O a.tmps)=true)(ho:o.op=.store 170 x y)(hx:a.eval x=vP b 0)(hy:a.eval y=.agg (wtC s))(h:w.heap[b]?=some (.cells #[u0,u1] 170 (0,0)))
  (k:∀w',wtB w' b s->Fr (λk=>k=b) w w'->EnvD ds n L a->wpList Tryz.prog O Q rest a w'):wpList Tryz.prog O Q (o::rest) a w :=
 aCN E hd hw (aFm (off:=0) ho hx hy (bx h 0 rfl) (bx h (0+1) rfl) (aAm h _) (aAm h _)) λE=>k _ (aMJ h s) (Fr.two _ _ _ _ _ _) E
theorem aMK {b:Nat}(h:wtB w b s):w.rangeAt b 0 (wtL s):=λj u hu=>by
 rw[aAj h,Nat.zero_add]
 match j,hu with
 | 0,hu=>exact hu
 | 1,hu=>exact hu
 | j+2,hu=>simp at hu
end
set_option maxRecDepth 100000 in
set_option maxHeartbeats 4000000 in
theorem aIt {q:Nat}(hQ:QAt w q B v X)(hB:B<=w.heap.size)(hl9:X.length<=1000000)(x:Wt):Calls Tryz.prog 337 #[vP q 0,.iface 170 (.agg (wtC x))] w λe w'=>e=.returned (.tuple #[])/\∃v',QAt w' q B v' (X++[x])/\(v'.ownBlock=v.ownBlock\/∀k,v'.ownBlock=some k->w.heap.size<=k)/\Fr (λk=>k=q\/v.ownBlock=some k) w w':=by
 refine aAW Tryz.func337 rfl rfl (n:=22) dE λa E=>?_;have hf:Fr nF_ w w:=Fr.refl _ _;have hOl:=λk (hk:v.ownBlock=some k)=>(hQ.2.lt hk).2;have hql:=aAf hQ.1;have hne:=hQ.ne;refine s_ (r_ (ep E rfl (m_ rfl E.g1) λa E=>ep (v := .tuple #[.agg (wtC x),.bool true]) E rfl (aKH rfl E.g0) λa E=>ep E rfl (m_ rfl E.g0) λa E=>ep (v := .agg (wtC x)) E rfl (aFq rfl E.g0) λa E=>ep (v := .bool true) E rfl (aFp rfl E.g1) λa E=>aGg (d:=4) E rfl dE rfl (aAb rfl _) rfl λa w1 b4 eb4 hb4 f1 E=>?_));have hQ:=hQ.fr f1 id (λ_ _ h=>h);have hf:=hf.trans f1;clear f1;refine aLr E rfl (aAb rfl _) rfl E.g0 E.g2 hb4 λw1 hb4 f1 E=>?_;have hQ:=hQ.fr f1 oM (λk hk e=>by have:=hOl k hk;omega);have hf:=hf.trans' f1 (λr hr e=>by omega);clear f1;refine ep E rfl (a_ rfl E.g1) λa E=>n_ (t_ (s_ (r_ (ep E rfl (m_ rfl E.g0) λa E=>n_ (t_ (c_t E.g0 (aAt (G:=Nat×Value) (0,undef) (n:=22) (base:=[(0,vP q 0),(4,vP b4 0)]) (U:=[]) (T:=λZ=>[some (12,vP q 0),some (13,vP q 0),some (14,vP q 0),some (15,vP q 0),some (16,v),some (17,.agg (wtC x)),some (18,.slice (some ⟨Z.1,0,none⟩) 1 1),some (19,Z.2),some (20,vP q 0),some (21,vP q 0),none]) (M:=λZ ls9 wm=>Fr (λk=>k=q\/v.ownBlock=some k) w1 wm/\(ls9 10=false->quB wm q v)/\(ls9 7=false->oWt wm B v X)/\(ls9 6=true->ls9 7=false->aBh wtL 2 wm wm.heap.size (some ⟨Z.1,0,none⟩) [x])/\(ls9 7=true->oWt wm B Z.2 (X++[x])/\(Z.2.ownBlock=v.ownBlock\/∀k,Z.2.ownBlock=some k->w1.heap.size<=k))/\(ls9 10=true->quB wm q Z.2)) kR kR (λ_=>by kernel_rfl) (E.of ⟨E.g8,E.g2,trivial⟩) (λx hx=>by cases hx) ⟨(Fr.refl _ _).drew,λ_=>(Fr.refl nF_ _).drew.obj hQ.1 id,λ_=>hQ.2.fr (Fr.refl nF_ _).drew (λ_ _ h=>h),λe=>absurd e Bool.false_ne_true,λe=>absurd e Bool.false_ne_true,λe=>absurd e Bool.false_ne_true⟩ ?_ ?_)))))))
 ·intro j9 o9 Z ls9 a w5 ho hl E D DL DL2 hB hM;obtain⟨m1,m2,m3,m4,m5,m6⟩:=hM;have hb5:=m1.obj hb4 (λe=>by rcases e with e|e;omega;have:=hOl _ e;omega)
  match j9,ho,hl,D,DL,hB with
  | 0,ho,hl,D,DL,hB=>exact z0_ ho (aAq rfl (m_ rfl E.g0) rfl ⟨m1,m2,m3,m4,m5,m6⟩)
  | 1,ho,hl,D,DL,hB=>exact z0_ ho (aAq rfl (m_ rfl E.g0) rfl ⟨m1,m2,m3,m4,m5,m6⟩)
  | 2,ho,hl,D,DL,hB=>exact z0_ ho (aAq rfl (i_ rfl (D 1 _ rfl rfl)) rfl ⟨m1,m2,m3,m4,m5,m6⟩)
  | 3,ho,hl,D,DL,hB=>exact z0_ ho (aAq rfl (aC5 rfl (D 2 _ rfl rfl)) rfl ⟨m1,m2,m3,m4,m5,m6⟩)
  | 4,ho,hl,D,DL,hB =>
   have n10:ls9 10=false:=by
    cases h8:ls9 10 with
    | false=>rfl
    | true=>exact absurd (hl.symm.trans (DL2 7 4 rfl (DL2 10 7 rfl h8))) dE
   obtain rfl:=Gh_ ho;exact⟨λ_=>aAq rfl (aB4 rfl (D 3 _ rfl rfl) (bx (m2 n10) 0 rfl)) rfl ⟨m1,m2,m3,m4,m5,m6⟩,λh=>by rw[aAb rfl] at h;cases h⟩
  | 5,ho,hl,D,DL,hB=>exact z0_ ho (aAq rfl (aCS rfl E.g1 (aMK hb5)) rfl ⟨m1,m2,m3,m4,m5,m6⟩)
  | 6,ho,hl,D,DL,hB =>
   have n7:ls9 7=false:=by
    cases h8:ls9 7 with
    | false=>rfl
    | true=>exact absurd (hl.symm.trans (DL2 7 6 rfl h8)) dE
   have n10:ls9 10=false:=by
    cases h8:ls9 10 with
    | false=>rfl
    | true=>exact absurd (hl.symm.trans (DL2 7 6 rfl (DL2 10 7 rfl h8))) dE
   obtain rfl:=Gh_ ho;exact⟨λ_=>aLB (w5.heap.size,Z.2) rfl (aNs rfl (D 5 _ rfl rfl)) rfl (λj hj=>match j,hj with|6,hj=>absurd (hl.symm.trans hj) dE|0,_=>rfl|1,_=>rfl|2,_=>rfl|3,_=>rfl|4,_=>rfl|5,_=>rfl|7,_=>rfl|8,_=>rfl|9,_=>rfl|10,_=>rfl|j9+11,_=>rfl) ⟨m1.alloc _,λh=>((Fr.refl nF_ w5).alloc _).obj (m2 h) id,λh=>(m3 h).fr ((Fr.refl nF_ w5).alloc _) (λ_ _ h=>h),λ_ _=>aCu (f:=wtL) (aAl _ _) sI,λh=>(by simp[n7] at h),λh=>(by simp[n10] at h)⟩,λh=>by rw[aAb rfl] at h;cases h⟩
  | 7,ho,hl,D,DL,hB =>
   have n10:ls9 10=false:=by
    cases h8:ls9 10 with
    | false=>rfl
    | true=>exact absurd (hl.symm.trans (DL2 10 7 rfl h8)) dE
   have d6:=DL 6 rfl;have hO5:=m3 hl;have hs5:=m4 d6 hl;have hz5:=m1.size;have hz6:=hf.size;obtain⟨v9,w9,c0,c1,c2,c3⟩:=aYn (o:=o9) (ρ:=a.eval) (congrArg Oper.op (Gh_ ho)).symm (D 4 _ rfl rfl) (D 6 _ rfl rfl) hO5 hs5 (λh=>by cases h) (by simp;omega) oM;obtain rfl:=Gh_ ho;exact⟨λ_=>aLB (Z.1,v9) rfl c0 rfl (λj hj=>match j,hj with|7,hj=>absurd (hl.symm.trans hj) dE|0,_=>rfl|1,_=>rfl|2,_=>rfl|3,_=>rfl|4,_=>rfl|5,_=>rfl|6,_=>rfl|8,_=>rfl|9,_=>rfl|10,_=>rfl|j9+11,_=>rfl) ⟨m1.trans' c2 (λr _ e =>.inr e),λh=>c2.obj (m2 n10) hne,λh=>(by simp at h),λ_ h=>(by simp at h),λ_=>⟨c1,by rcases c3 with e|e;exact .inl e;exact .inr (λk hk=>by rw[e] at hk;have:=Gh_ hk;omega)⟩,λh=>(by simp[n10] at h)⟩,λh=>by rw[aAb rfl] at h;cases h⟩
  | 8,ho,hl,D,DL,hB=>exact z0_ ho (aAq rfl (i_ rfl (D 0 _ rfl rfl)) rfl ⟨m1,m2,m3,m4,m5,m6⟩)
  | 9,ho,hl,D,DL,hB=>exact z0_ ho (aAq rfl (aC5 rfl (D 8 _ rfl rfl)) rfl ⟨m1,m2,m3,m4,m5,m6⟩)
  | 10,ho,hl,D,DL,hB =>
   have d7:=DL 7 rfl;obtain⟨hO9,hl9o⟩:=m5 d7;have hq9:=m2 hl;obtain⟨pn,nn,cn,hvv⟩:=aIw hO9;have hn9:=aAZ dE hO9 hq9;obtain rfl:=Gh_ ho;exact⟨λ_=>aDm rfl (aKI hvv rfl (D 9 _ rfl rfl) (D 7 _ rfl rfl) (bx hq9 0 rfl) (aAm hq9 0)) rfl ⟨m1.setCell (p:=⟨q,0,none⟩) (λ_ =>.inl rfl) _,λh=>(by simp at h),λh=>(by simp[d7] at h),λ_ h=>(by simp[d7] at h),λ_=>⟨hO9.fr ((Fr.refl (λk=>k=q) w5).setCell (p:=⟨q,0,none⟩) (λ_=>rfl) _) (λk hk e=>hn9 (by rw[hk,e])),hl9o⟩,λ_=>aAk (off:=0) hq9 _⟩,λh=>by rw[aAb rfl] at h;cases h⟩
  | j9+11,ho,hl,D,DL,hB=>exact absurd ho sI
 ·rintro⟨bo,v9⟩ a w9 E V hM;clear V;obtain⟨m1,_,_,_,m5,m6⟩:=hM;have hQ9:QAt w9 q B v9 (X++[x]):=⟨m6 rfl,(m5 rfl).1⟩;have hloc9:=(m5 rfl).2;have hfz:=hf.size;exact(aCe rfl E ⟨rfl,v9,hQ9,by rcases hloc9 with e|e;exact .inl e;exact .inr (λk hk=>Gn_ hfz (e k hk)),(hf.mono λ_ _ h=>h.elim).trans' m1 (λ_ _ e=>e)⟩).1
set_option maxRecDepth 100000 in
set_option maxHeartbeats 4000000 in
theorem aJA {q:Nat}(hQ:QAt w q B v (Y++[x]))(hl9:Y.length<=1000000):Calls Tryz.prog 336 #[vP q 0] w λe w'=>e=.returned (.iface 170 (.agg (wtC x)))/\∃v',QAt w' q B v' Y/\v'.ownBlock=v.ownBlock/\Fr (λk=>k=q) w w':=by
 refine aBV Tryz.func336 rfl rfl (n:=32) dE λa E=>?_;have hf:Fr nF_ w w:=Fr.refl _ _;obtain⟨hq,hO⟩:=hQ;obtain⟨g,cap,hv,hcap⟩:=aHy hO sI;have hln:(Y++[x]).length=Y.length+1:=by simp
 rw[hln] at hv hcap;subst hv;have hxl:(Y++[x])[Y.length]?=some x:=by simp
 have hrow:=aE9 hO _ _ hxl;have hql:=aAf hq;have hne:g≠q:=λe=>aAZ dE hO hq (by rw[<-e];rfl);refine s_ (r_ (ep (v:=Value.nilIface) E rfl (a_ rfl rfl) λa E=>n_ (t_ (s_ (aAt (G:=Nat) 0 (n:=32) (base:=[(0,vP q 0)]) (U:=[]) (T:=λZ=>[some (4,vP q 0),some (5,vP q 0),some (6,vP q 0),some (7,.slice (some ⟨g,0,none⟩) (Y.length+1) cap),some (8,vP q 0),some (9,vP q 0),some (10,vP q 0),some (11,.slice (some ⟨g,0,none⟩) (Y.length+1) cap),some (12,.int .i64 ((Y.length+1:Nat):Int)),some (13,.int .i64 (((Y.length+1:Nat):Int)-1)),some (14,vP g (0+Y.length*2)),some (15,.agg (wtC x)),some (3,vP Z 0),none]) (M:=λZ ls9 wm=>Fr nF_ w wm/\(ls9 12=true->ls9 13=false->w.heap.size<=Z/\wm.heap[Z]?=some (.cells #[.pointer none,.int .i64 0] 170 (0,0)))/\(ls9 13=true->w.heap.size<=Z/\wtB wm Z x)) kR kR (λ_=>by kernel_rfl) (E.of ⟨E.g1,trivial⟩) (λx hx=>by cases hx) ⟨(Fr.refl _ _).drew,λe=>absurd e Bool.false_ne_true,λe=>absurd e Bool.false_ne_true⟩ ?_ ?_)))))
 ·intro j9 o9 Z ls9 a w5 ho hl E D DL DL2 hB hM;obtain⟨m1,m2,m3⟩:=hM;have hq5:=m1.obj hq id;have hr5:w5.rangeAt g (0+Y.length*2) (wtL x):=λm u hu=>m1.cell (hrow m u hu) id
  match j9,ho,hl,D,DL,hB with
  | 0,ho,hl,D,DL,hB=>exact z0_ ho (aAq rfl (m_ rfl E.g0) rfl ⟨m1,m2,m3⟩)
  | 1,ho,hl,D,DL,hB=>exact z0_ ho (aAq rfl (i_ rfl (D 0 _ rfl rfl)) rfl ⟨m1,m2,m3⟩)
  | 2,ho,hl,D,DL,hB=>exact z0_ ho (aAq rfl (aC5 rfl (D 1 _ rfl rfl)) rfl ⟨m1,m2,m3⟩)
  | 3,ho,hl,D,DL,hB=>exact z0_ ho (aAq rfl (aB4 rfl (D 2 _ rfl rfl) (bx hq5 0 rfl)) rfl ⟨m1,m2,m3⟩)
  | 4,ho,hl,D,DL,hB=>exact z0_ ho (aAq rfl (m_ rfl E.g0) rfl ⟨m1,m2,m3⟩)
  | 5,ho,hl,D,DL,hB=>exact z0_ ho (aAq rfl (i_ rfl (D 4 _ rfl rfl)) rfl ⟨m1,m2,m3⟩)
  | 6,ho,hl,D,DL,hB=>exact z0_ ho (aAq rfl (aC5 rfl (D 5 _ rfl rfl)) rfl ⟨m1,m2,m3⟩)
  | 7,ho,hl,D,DL,hB=>exact z0_ ho (aAq rfl (aB4 rfl (D 6 _ rfl rfl) (bx hq5 0 rfl)) rfl ⟨m1,m2,m3⟩)
  | 8,ho,hl,D,DL,hB=>exact z0_ ho (aAq rfl (aFG rfl (D 7 _ rfl rfl)) rfl ⟨m1,m2,m3⟩)
  | 9,ho,hl,D,DL,hB=>exact z0_ ho (aAq rfl (aBT u3_ (D 8 _ rfl rfl) rfl oM oM rfl) rfl ⟨m1,m2,m3⟩)
  | 10,ho,hl,D,DL,hB=>exact z0_ ho (aAq rfl (aIq (i:=Y.length) oM rfl (D 3 _ rfl rfl) (D 9 _ rfl rfl) oM) rfl ⟨m1,m2,m3⟩)
  | 11,ho,hl,D,DL,hB=>exact z0_ ho (aAq rfl (aCS rfl (D 10 _ rfl rfl) hr5) rfl ⟨m1,m2,m3⟩)
  | 12,ho,hl,D,DL,hB =>
   have n13:ls9 13=false:=by
    cases h8:ls9 13 with
    | false=>rfl
    | true=>exact absurd (hl.symm.trans (DL2 13 12 rfl h8)) dE
   obtain rfl:=Gh_ ho;exact⟨λ_=>aLB w5.heap.size rfl (aFJ rfl) rfl (λj hj=>match j,hj with|12,hj=>absurd (hl.symm.trans hj) dE|0,_=>rfl|1,_=>rfl|2,_=>rfl|3,_=>rfl|4,_=>rfl|5,_=>rfl|6,_=>rfl|7,_=>rfl|8,_=>rfl|9,_=>rfl|10,_=>rfl|11,_=>rfl|13,_=>rfl|j9+14,_=>rfl) ⟨m1.alloc _,λ_ _=>⟨m1.size,aAl _ _⟩,λh=>(by simp[n13] at h)⟩,λh=>by rw[aAb rfl] at h;cases h⟩
  | 13,ho,hl,D,DL,hB =>
   have d12:=DL 12 rfl;obtain⟨hgz,hb9⟩:=m2 d12 hl;obtain rfl:=Gh_ ho;exact⟨λ_=>aDm rfl (aFm (s:=x) (off:=0) rfl (D 12 _ rfl rfl) (D 11 _ rfl rfl) (bx hb9 0 rfl) (bx hb9 (0+1) rfl) (aAm hb9 _) (aAm hb9 _)) rfl ⟨m1.trans' (Fr.two _ _ _ _ _ _) (λr hr e=>by omega),λ_ h=>(by simp at h),λ_=>⟨hgz,aMJ hb9 x⟩⟩,λh=>by rw[aAb rfl] at h;cases h⟩
  | j9+14,ho,hl,D,DL,hB=>exact absurd ho sI
 ·rintro b4 a w6 E V hM;have E:=E.add (v := vP b4 0) (V 12 _ rfl);clear V;obtain⟨f1,_,m3⟩:=hM;obtain⟨hgz,hb4⟩:=m3 rfl;have hq:=f1.obj hq id;have hO:=hO.fr f1 (λ_ _ h=>h);have hf:=hf.trans f1;refine t_ (s_ (aAt (G:=Unit) () (n:=32) (base:=[(0,vP q 0),(3,vP b4 0)]) (U:=[]) (T:=λZ=>[some (16,vP q 0),some (17,vP q 0),some (18,vP q 0),some (19,vP q 0),some (20,.slice (some ⟨g,0,none⟩) (Y.length+1) cap),some (21,vP q 0),some (22,vP q 0),some (23,vP q 0),some (24,.slice (some ⟨g,0,none⟩) (Y.length+1) cap),some (25,.int .i64 ((Y.length+1:Nat):Int)),some (26,.int .i64 (((Y.length+1:Nat):Int)-1)),some (27,.slice (some ⟨g,0,none⟩) Y.length cap),some (28,vP q 0),some (29,vP q 0),none]) (M:=λZ ls9 wm=>Fr (λk=>k=q) w6 wm/\(ls9 14=false->quB wm q (.slice (some ⟨g,0,none⟩) (Y.length+1) cap))/\(ls9 14=true->quB wm q (.slice (some ⟨g,0,none⟩) Y.length cap))) kR kR (λ_=>by kernel_rfl) (E.of ⟨E.g1,E.g0,trivial⟩) (λx hx=>by cases hx) ⟨(Fr.refl _ _).drew,λ_=>(Fr.refl nF_ _).drew.obj hq id,λe=>absurd e Bool.false_ne_true⟩ ?_ ?_))
  ·intro j9 o9 Z ls9 a w5 ho hl E D DL DL2 hB hM;obtain⟨m1,m2,m3⟩:=hM
   match j9,ho,hl,D,DL,hB with
   | 0,ho,hl,D,DL,hB=>exact z0_ ho (aAq rfl (m_ rfl E.g0) rfl ⟨m1,m2,m3⟩)
   | 1,ho,hl,D,DL,hB=>exact z0_ ho (aAq rfl (m_ rfl E.g0) rfl ⟨m1,m2,m3⟩)
   | 2,ho,hl,D,DL,hB=>exact z0_ ho (aAq rfl (i_ rfl (D 1 _ rfl rfl)) rfl ⟨m1,m2,m3⟩)
   | 3,ho,hl,D,DL,hB=>exact z0_ ho (aAq rfl (aC5 rfl (D 2 _ rfl rfl)) rfl ⟨m1,m2,m3⟩)
   | 4,ho,hl,D,DL,hB =>
    have n14:ls9 14=false:=by
     cases h8:ls9 14 with
     | false=>rfl
     | true=>exact absurd (hl.symm.trans (DL2 14 4 rfl h8)) dE
    obtain rfl:=Gh_ ho;exact⟨λ_=>aAq rfl (aB4 rfl (D 3 _ rfl rfl) (bx (m2 n14) 0 rfl)) rfl ⟨m1,m2,m3⟩,λh=>by rw[aAb rfl] at h;cases h⟩
   | 5,ho,hl,D,DL,hB=>exact z0_ ho (aAq rfl (m_ rfl E.g0) rfl ⟨m1,m2,m3⟩)
   | 6,ho,hl,D,DL,hB=>exact z0_ ho (aAq rfl (i_ rfl (D 5 _ rfl rfl)) rfl ⟨m1,m2,m3⟩)
   | 7,ho,hl,D,DL,hB=>exact z0_ ho (aAq rfl (aC5 rfl (D 6 _ rfl rfl)) rfl ⟨m1,m2,m3⟩)
   | 8,ho,hl,D,DL,hB =>
    have n14:ls9 14=false:=by
     cases h8:ls9 14 with
     | false=>rfl
     | true=>exact absurd (hl.symm.trans (DL2 14 8 rfl h8)) dE
    obtain rfl:=Gh_ ho;exact⟨λ_=>aAq rfl (aB4 rfl (D 7 _ rfl rfl) (bx (m2 n14) 0 rfl)) rfl ⟨m1,m2,m3⟩,λh=>by rw[aAb rfl] at h;cases h⟩
   | 9,ho,hl,D,DL,hB=>exact z0_ ho (aAq rfl (aFG rfl (D 8 _ rfl rfl)) rfl ⟨m1,m2,m3⟩)
   | 10,ho,hl,D,DL,hB=>exact z0_ ho (aAq rfl (aBT u3_ (D 9 _ rfl rfl) rfl oM oM rfl) rfl ⟨m1,m2,m3⟩)
   | 11,ho,hl,D,DL,hB=>exact z0_ ho (aAq rfl (aNl (i:=Y.length) oM rfl (D 4 _ rfl rfl) (D 10 _ rfl rfl) oM oM) rfl ⟨m1,m2,m3⟩)
   | 12,ho,hl,D,DL,hB=>exact z0_ ho (aAq rfl (i_ rfl (D 0 _ rfl rfl)) rfl ⟨m1,m2,m3⟩)
   | 13,ho,hl,D,DL,hB=>exact z0_ ho (aAq rfl (aC5 rfl (D 12 _ rfl rfl)) rfl ⟨m1,m2,m3⟩)
   | 14,ho,hl,D,DL,hB =>
    have hq9:=m2 hl;obtain rfl:=Gh_ ho;exact⟨λ_=>aDm rfl (aKI rfl rfl (D 13 _ rfl rfl) (D 11 _ rfl rfl) (bx hq9 0 rfl) (aAm hq9 0)) rfl ⟨m1.setCell (p:=⟨q,0,none⟩) (λ_=>rfl) _,λh=>(by simp at h),λ_=>aAk (off:=0) hq9 _⟩,λh=>by rw[aAb rfl] at h;cases h⟩
   | j9+15,ho,hl,D,DL,hB=>exact absurd ho sI
  ·rintro _ a w9 E V hM;clear V;obtain⟨f1,_,m3⟩:=hM;have hb4:=f1.obj hb4 oM;have hO:=aTy hO;have hO:=hO.fr f1 (λk hk e=>by cases hk;exact hne e);have hq:=m3 rfl;refine t_ (s_ (r_ (ep (v := .agg (wtC x)) E rfl (aCS rfl E.g1 (aMK hb4)) λa E=>ep (v := .iface 170 (.agg (wtC x))) E rfl (aFC rfl E.g0) λa E=>ep E rfl (a_ rfl E.g0) λa E=>n_ (t_ (wr_ (aAs (t:=2) rfl E E.g0 ⟨rfl,.slice (some ⟨g,0,none⟩) Y.length cap,⟨hq,hO⟩,rfl,(hf.mono λ_ _ h=>h.elim).trans' f1 (λ_ _ e=>e)⟩))))))
end Go.Proofs.YtngjlnhojicjeaaGreatDoor
namespace Go.Proofs.YtngjlnhojicjeaaGreatDoor
open Go.RowKit Go.Pl
def gE (f:Nat->Wt)(a b:Nat):Prop:=¬LsW (f a) (f b)
def sw (f:Nat->Wt)(i j:Nat):Nat->Wt:=λk=>if k=j then f i else if k=i then f j else f k
theorem aWO (f:Nat->Wt)(i j:Nat):sw f i j j=f i:=by simp[sw]
theorem aUJ (f:Nat->Wt)(i j:Nat):sw f i j i=f j:=by
 unfold sw;split
 ·rename_i h;rw[h]
 ·simp
variable{i j:Nat}
theorem aPD (f:Nat->Wt){k:Nat}(h1:k≠i)(h2:k≠j):sw f i j k=f k:=by simp[sw,h1,h2]
def Hp (f:Nat->Wt)(n:Nat):Prop:=∀k,1<=k->k<n->gE f k ((k-1) / 2)
def aSG (f:Nat->Wt)(n j:Nat):Prop:=(∀k,1<=k->k<n->k≠j->gE f k ((k-1) / 2))/\∀k,1<=k->k<n->(k-1) / 2=j->1<=j->gE f k ((j-1) / 2)
def aPH (f:Nat->Wt)(n i:Nat):Prop:=(∀k,1<=k->k<n->(k-1) / 2≠i->gE f k ((k-1) / 2))/\∀k,1<=k->k<n->(k-1) / 2=i->1<=i->gE f k ((i-1) / 2)
variable{x:Wt}
theorem LsW.asymm {y:Wt}(h:LsW x y):¬LsW y x:=λk=>LsW.irrefl _ (LsW.trans h k)
section
variable{f:Nat->Wt}{n:Nat}
theorem aSG.stop0 (h:aSG f n 0):Hp f n:=λk h1 h2=>h.1 k h1 h2 oM
theorem aSG.stop (h:aSG f n j)(hn:¬LsW (f j) (f ((j-1) / 2))):Hp f n:=λk h1 h2=>by
 by_cases hk:k=j
 ·subst hk;exact hn
 ·exact h.1 k h1 h2 hk
theorem aSG.step (h:aSG f n j)(h1:1<=j)(hj:j<n)(hl:LsW (f j) (f ((j-1) / 2))):aSG (sw f ((j-1) / 2) j) n ((j-1) / 2):=by
 obtain⟨i,hi⟩:∃i,i=(j-1) / 2:=⟨_,rfl⟩;rw[<-hi] at hl ⊢;refine⟨λk hk1 hk2 hki=>?_,λk hk1 hk2 hkp hi1=>?_⟩
 ·unfold gE
  by_cases hkj:k=j
  ·subst hkj;rw[<-hi,aWO,aUJ];exact hl.asymm
  ·rw[aPD f hki hkj]
   by_cases hp:(k-1) / 2=j
   ·rw[hp,aWO];have:=h.2 k hk1 hk2 hp h1;rw[<-hi] at this;exact this
   ·by_cases hp2:(k-1) / 2=i
    ·rw[hp2,aUJ];have:=h.1 k hk1 hk2 hkj;rw[hp2] at this;exact λh3=>this (LsW.trans h3 hl)
    ·rw[aPD f hp2 hp];exact h.1 k hk1 hk2 hkj
 ·unfold gE;rw[aPD f (k:=(i-1) / 2) oM oM];have hii:=h.1 i hi1 oM oM
  by_cases hkj:k=j
  ·subst hkj;rw[aWO];exact hii
  ·rw[aPD f oM hkj];have:=h.1 k hk1 hk2 hkj;rw[hkp] at this;exact LsW.ntrans this hii
theorem aPH.stop (h:aPH f n i)(hn:n<=2*i+1):Hp f n:=λk h1 h2=>h.1 k h1 h2 oM
theorem aPH.stop2 (h:aPH f n i)(hc:∀c,1<=c->c<n->(c-1) / 2=i->¬LsW (f c) (f j))(hn:¬LsW (f j) (f i)):Hp f n:=λk h1 h2=>by
 by_cases hk:(k-1) / 2=i
 ·unfold gE;rw[hk];exact LsW.ntrans (hc k h1 h2 hk) hn
 ·exact h.1 k h1 h2 hk
theorem aPH.step (h:aPH f n i)(hji:(j-1) / 2=i)(h1:1<=j)(hj:j<n)(hc:∀c,1<=c->c<n->(c-1) / 2=i->¬LsW (f c) (f j))(hl:LsW (f j) (f i)):aPH (sw f i j) n j:=by
 refine⟨λk hk1 hk2 hkp=>?_,λk hk1 hk2 hkp _=>?_⟩
 ·unfold gE
  by_cases hkj:k=j
  ·subst hkj;rw[hji,aWO,aUJ];exact hl.asymm
  ·by_cases hki:k=i
   ·subst hki;rw[aUJ,aPD f (k:=(k-1) / 2) oM oM];exact h.2 j h1 hj hji hk1
   ·rw[aPD f hki hkj]
    by_cases hp:(k-1) / 2=i
    ·rw[hp,aUJ];exact hc k hk1 hk2 hp
    ·rw[aPD f hp hkp];exact h.1 k hk1 hk2 hp
 ·unfold gE;rw[hji,aUJ,aPD f oM oM];have:=h.1 k hk1 hk2 oM;rw[hkp] at this;exact this
theorem Hp.min (h:Hp f n):∀k,k<n->¬LsW (f k) (f 0):=by
 intro k
 induction k using Nat.strongRecOn with
 | _ k ih =>
  intro hk
  by_cases h0:k=0
  ·subst h0;exact LsW.irrefl _
  ·exact LsW.ntrans (h k oM hk) (ih _ oM oM)
end
def fx (X:List Wt)(k:Nat):Wt:=X[k]?.getD ⟨(0,((0,0),(0,0)),[]),0,0⟩
variable{X:List Wt}
theorem aCa {k:Nat}(h:X[k]?=some x):fx X k=x:=by unfold fx;rw[h];rfl
abbrev swp (X:List Wt)(i j:Nat)(x y:Wt):List Wt:=(X.set i y).set j x
theorem aI9 {y:Wt}(hx:X[i]?=some x)(hy:X[j]?=some y):fx (swp X i j x y)=sw (fx X) i j:=by
 have hi:=(List.getElem?_eq_some_iff.1 hx).1;have hj:=(List.getElem?_eq_some_iff.1 hy).1;funext k;unfold fx sw;rw[List.getElem?_set]
 by_cases hkj:j=k
 ·subst hkj;rw[if_pos rfl,if_pos (by rw[List.length_set];exact hj),if_pos rfl];simp[hx]
 ·rw[if_neg hkj,if_neg (λe=>hkj e.symm),List.getElem?_set]
  by_cases hki:i=k
  ·subst hki;rw[if_pos rfl,if_pos hi,if_pos rfl];simp[hy]
  ·rw[if_neg hki,if_neg (λe=>hki e.symm)]
theorem aCd {y:Wt}:(swp X i j x y).length=X.length:=by simp
theorem aBy {y:Wt}(hx:X[i]?=some x)(hy:X[j]?=some y):(swp X i j x y).Perm X:=by
 obtain⟨hi,hx⟩:=List.getElem?_eq_some_iff.1 hx;obtain⟨hj,hy⟩:=List.getElem?_eq_some_iff.1 hy;have h:=Array.swap_perm (xs:=X.toArray) (i:=i) (j:=j) (by simpa using hi) (by simpa using hj);have h2:=Array.perm_iff_toList_perm.1 h;rw[Array.toList_swap] at h2;simpa[hx,hy] using h2
def HAt (w:World)(q B:Nat)(v:Value)(S:Nat->Prop)(X:List Wt):Prop:=QAt w q B v X/\∀x∈X,aMI w S x
variable{w:World}{v:Value}{S:Nat->Prop}{B:Nat}
theorem HAt.fr {w':World}{q:Nat}{F:Nat->Prop}(h:HAt w q B v S X)(f:Fr F w w')(h1:¬F q)(h2:∀k,v.ownBlock=some k->¬F k)(h3:∀k,S k->¬F k):HAt w' q B v S X:=⟨h.1.fr f h1 h2,λx hx=>(h.2 x hx).fr f h3⟩
theorem aQm {o:Oper}{ρ:Operand->Value}{x y:Operand}{m:Int}(hm:m=(j:Int)-1)(hj:j<=1000000000)(hx:ρ x=.int .i64 m)(hy:ρ y=.int .i64 2)(ho:o.op=.binOp .quo 3 x y 3):(execOp ρ o).run Tryz.prog w=.ok (.value (.int .i64 (((j-1) / 2:Nat):Int))) w:=by
 subst hm
 have e:Int.tdiv ((j:Int)-1) 2=(((j-1) / 2:Nat):Int):=by
  cases j with
  | zero=>rfl
  | succ k =>
   rw[show((k+1:Nat):Int)-1=(k:Int) by omega];rfl
 have hw:IntKind.i64.wrap (((j-1:Nat):Int) / 2)=((j-1:Nat):Int) / 2:=IntWalk.i64_in _ ⟨by omega,by omega⟩;simp[execOp,ho,hx,hy,go_sem,u3_,e,hw]
def UpP (w:World)(q B:Nat)(v:Value)(S:Nat->Prop)(X:List Wt)(e:Ending)(w':World):Prop :=
 e=.returned (.tuple #[])/\∃X',X'.Perm X/\Hp (fx X') X'.length/\HAt w' q B v S X'/\Fr (λk=>v.ownBlock=some k) w w'
def DnP (w:World)(q B n:Nat)(v:Value)(S:Nat->Prop)(X:List Wt)(e:Ending)(w':World):Prop :=
 (∃b,e=.returned (.bool b))/\∃X',X'.Perm X/\Hp (fx X') n/\(∀k,n<=k->X'[k]?=X[k]?)/\HAt w' q B v S X'/\Fr (λk=>v.ownBlock=some k) w w'
variable{X0:List Wt}
set_option maxRecDepth 100000 in
set_option maxHeartbeats 4000000 in
theorem aMT {q:Nat}(hH:HAt w q B v S X0)(hS:∀k,S k->k<B/\k≠q){j0:Nat}(hj:j0<X0.length)(hU:aSG (fx X0) X0.length j0)(hln:X0.length<=1000000):Calls Tryz.prog 163 #[.iface 168 (vP q 0),.int .i64 (j0:Int)] w (UpP w q B v S X0):=by
 refine aAW Tryz.func163 rfl rfl (n:=23) dE λa E=>bk_ (wp_loop (λa w2=>∃(X:List Wt)(j:Nat),Env 23 [(0,.iface 168 (vP q 0)),(1,.int .i64 (j:Int))] a/\HAt w2 q B v S X/\j<X.length/\aSG (fx X) X.length j/\X.Perm X0/\X.length<=1000000/\Fr (λk=>v.ownBlock=some k) w w2) (λa _=>(intOf (a.eval (.tmp 1))).toNat) ?_ ?_)
 ·exact⟨X0,j0,E.of ⟨E.g0,E.g1,trivial⟩,hH,hj,hU,List.Perm.refl _,hln,Fr.refl _ _⟩
 clear E;rintro a w2 ⟨X,j,E,hH,hj,hU,hpm,hln,hT⟩;have hmu:(intOf (a.eval (.tmp 1))).toNat=j:=by rw[E.g1];first|rfl|(simp[intOf];done)|(simp only[intOf];omega)
 rw[hmu];clear hmu;refine bk_ (s_ (r_ (ep E rfl (m_ rfl E.g1) λa E=>ep (v := .int .i64 ((j:Int)-1)) E rfl (aBT u3_ E.g0 rfl oM oM rfl) λa E=>ep (v := .int .i64 (((j-1) / 2:Nat):Int)) E rfl (aQm rfl oM E.g0 rfl rfl) λa E=>ep E rfl (a_ rfl E.g0) λa E=>n_ (t_ (s_ (s_ (r_ (ep E rfl (m_ rfl E.g0) λa E=>ep E rfl (m_ rfl E.g6) λa E=>ep (v := .bool ((((j-1) / 2:Nat):Int)==(j:Int))) E rfl (aKP E.g1 E.g0 u3_ rfl) λa E=>ep E rfl (m_ rfl E.g0) λa E=>?_))))))));cases hq32:((((j-1) / 2:Nat):Int)==(j:Int))
 rotate_left
 ·rw[hq32] at E;have hj0:j=0:=by have:=beq_iff_eq.1 hq32;omega
  refine ek E rfl rfl E.g0 λa E=>ek E rfl rfl E.g1 λa E=>ek E rfl rfl E.g2 λa E=>ek E rfl rfl E.g3 λa E=>ek E rfl rfl E.g4 λa E=>ep (v := .bool true) E rfl (aAL rfl E.g5 rfl) λa E=>n_ (t_ (c_t E.g0 (x_ (te_ (aM8 dE (te_ (be_ ((aCe rfl E ⟨rfl,X,hpm,?_,hH,hT⟩).1))))))));subst hj0;exact hU.stop0
 rw[hq32] at E
 have hj1:1<=j:=by
  have h9:¬((((j-1) / 2:Nat):Int)=(j:Int)):=λe=>by rw[e] at hq32;simp at hq32
  omega
 obtain⟨xj,hxj⟩:∃xj,X[j]?=some xj:=⟨_,Gb_ hj⟩;obtain⟨xi,hxi⟩:∃xi,X[(j-1) / 2]?=some xi:=⟨_,Gb_ oM⟩;refine eg E rfl (wy_ E E.g0) (m_ rfl E.g8) λa E=>eg E rfl (wy_ E E.g1) (m_ rfl E.g10) λa E=>eg E rfl (wy_ E E.g2) (m_ rfl E.g6) λa E=>aD8 (d:=15) (v := .bool (lsW xj xi)) E rfl dE rfl (wy_ E E.g3) (aBU (aFU q _) (enters_of Tryz.func335 kR rfl) rfl E.g2 E.g1 E.g0) (aBZ hH.1 hxj hxi (hH.2 _ (Ge_ hxj)) (hH.2 _ (Ge_ hxi))) λa w3 f1 E=>?_;have hH:=hH.fr f1 id (λ_ _ h=>h) (λ_ _ h=>h);have hT:=hT.trans' f1 (λ_ _ h=>h.elim);clear f1;refine eg (v := .bool (!(lsW xj xi))) E rfl (wy_ E E.g4) (aBM rfl E.g0) λa E=>ep (v := .bool (!(lsW xj xi))) E rfl (aAx rfl E.g5 E.g0) λa E=>n_ (t_ ?_);cases hq33:(lsW xj xi)
 ·rw[hq33] at E;refine c_t E.g0 (x_ (te_ (aM8 dE (te_ (be_ ((aCe rfl E ⟨rfl,X,hpm,?_,hH,hT⟩).1))))));exact hU.stop (by rw[aCa hxj,aCa hxi];exact λh9=>by rw[(aCf _ _).2 h9] at hq33;cases hq33)
 rw[hq33] at E;refine c_f E.g0 (k_ (t_ (s_ (r_ (ep (v := .iface 168 (vP q 0)) E rfl (m_ rfl (E.get 14 rfl)) λa E=>ep E rfl (m_ rfl E.g11) λa E=>ep (v := .int .i64 (j:Int)) E rfl (m_ rfl (E.get 17 rfl)) λa E=>ec_ (v := .tuple #[]) (F:=λw8=>QAt w8 q B v (swp X ((j-1) / 2) j xi xj)/\Fr (λk=>v.ownBlock=some k) w3 w8) E rfl (aBU (aFT q _) (enters_of Tryz.func338 kR rfl) rfl E.g2 E.g1 E.g0) (aBX hH.1 hxi hxj) λa w4 f1 E=>?_)))));obtain⟨hQ4,f1⟩:=f1;have hH4:HAt w4 q B v S (swp X ((j-1) / 2) j xi xj):=⟨hQ4,λz hz=>(hH.2 z ((aBy hxi hxj).mem_iff.1 hz)).fr f1 (λk hk e=>by have:=hS k hk;have:=(hH.1.2.lt e).1;omega)⟩;have hT4:=hT.trans' f1 (λ_ _ h=>h);have hp4:=(aBy hxi hxj).trans hpm;clear f1;refine n_ (t_ (r_ (ep (v := .int .i64 (((j-1) / 2:Nat):Int)) E rfl (m_ rfl (E.get 14 rfl)) λa E=>es_ E rfl (a_ rfl E.g0) λa E=>n_ (b_ (t_ ?_)))));have hls:=(aCf _ _).1 hq33;have hst:aSG (sw (fx X) ((j-1) / 2) j) X.length ((j-1) / 2):=hU.step hj1 hj (by rw[aCa hxj,aCa hxi];exact hls);rw[<-aI9 hxi hxj] at hst;refine⟨⟨swp X ((j-1) / 2) j xi xj,(j-1) / 2,E.of ⟨E.get 20 rfl,E.g0,trivial⟩,hH4,by rw[aCd];omega,by rw[aCd];exact hst,hp4,by rw[aCd];exact hln,hT4⟩,?_⟩;rw[E.g0];simp only[intOf];omega
set_option maxRecDepth 100000 in
set_option maxHeartbeats 4000000 in
theorem aKg {q:Nat}(hH:HAt w q B v S X0)(hS:∀k,S k->k<B/\k≠q){n:Nat}(hnl:n<=X0.length)(hD:aPH (fx X0) n 0)(hln:X0.length<=1000000):Calls Tryz.prog 164 #[.iface 168 (vP q 0),.int .i64 0,.int .i64 (n:Int)] w (DnP w q B n v S X0):=by
 refine aDg Tryz.func164 rfl rfl (n:=48) dE λa E=>s_ (r_ (ep (v := .bool false) E rfl (a_ rfl rfl) λa E=>n_ (t_ (s_ (r_ (ep E rfl (m_ rfl E.g2) λa E=>ep E rfl (a_ rfl E.g0) λa E=>n_ (t_ (s_ (bk_ (wp_loop (λa w2=>∃(X:List Wt)(i:Nat),Env 48 [(0,.iface 168 (vP q 0)),(7,.int .i64 (i:Int)),(2,.int .i64 (n:Int)),(6,.bool false),(1,.int .i64 0)] a/\HAt w2 q B v S X/\n<=X.length/\i<=n/\aPH (fx X) n i/\X.Perm X0/\X.length<=1000000/\(∀k,n<=k->X[k]?=X0[k]?)/\Fr (λk=>v.ownBlock=some k) w w2) (λa _=>n-(intOf (a.eval (.tmp 7))).toNat) ?_ ?_))))))))))
 ·exact⟨X0,0,E.of ⟨E.g3,E.g0,E.g5,E.g2,E.g4,trivial⟩,hH,hnl,Gg_ _,hD,List.Perm.refl _,hln,λ_ _=>rfl,Fr.refl _ _⟩
 clear E;rintro a w2 ⟨X,i,E,hH,hnl,hib,hD,hpm,hln,hk9,hT⟩;have hmu:n-(intOf (a.eval (.tmp 7))).toNat=n-i:=by rw[E.g1];first|rfl|(simp[intOf];done)|(simp only[intOf];omega)
 rw[hmu];clear hmu;refine bk_ (s_ (r_ (ep E rfl (m_ rfl E.g1) λa E=>ep (v := .int .i64 (2*(i:Int))) E rfl (aD2 u3_ rfl E.g0 oM oM rfl) λa E=>ep (v := .int .i64 ((2*(i:Int))+1)) E rfl (aAQ u3_ E.g0 rfl oM oM rfl) λa E=>ep E rfl (a_ rfl E.g0) λa E=>n_ (t_ (s_ (s_ (r_ (ep E rfl (m_ rfl E.g0) λa E=>ep E rfl (m_ rfl E.g7) λa E=>ep (v := .bool (decide ((n:Int)<=((2*(i:Int))+1)))) E rfl (aKO E.g1 E.g0 u3_ rfl) λa E=>ep E rfl (m_ rfl E.g0) λa E=>?_))))))));cases hq35:(decide ((n:Int)<=((2*(i:Int))+1)))
 rotate_left
 ·rw[hq35] at E;have hge:n<=2*i+1:=by have:=of_decide_eq_true hq35;omega
  refine ek E rfl rfl E.g0 λa E=>ek E rfl rfl E.g1 λa E=>ep (v := .bool true) E rfl (aAL rfl E.g2 rfl) λa E=>n_ (t_ (c_t E.g0 (x_ (te_ (aM8 dE (te_ (be_ (t_ (s_ (r_ (ep (v := .int .i64 (i:Int)) E rfl (m_ rfl (E.get 12 rfl)) λa E=>ep (v := .int .i64 0) E rfl (m_ rfl (E.get 16 rfl)) λa E=>ep (v := .bool (decide (0<(i:Int)))) E rfl (aCk E.g1 E.g0 u3_ rfl) λa E=>es_ E rfl (a_ rfl E.g0) λa E=>n_ (t_ (wr_ (aAs (t:=6) rfl E E.g0 ⟨⟨_,rfl⟩,X,hpm,hD.stop hge,hk9,hH,hT⟩))))))))))))))
 rw[hq35] at E;have hlt:2*i+1<n:=by have:=of_decide_eq_false hq35;omega
 obtain⟨x1,hx1⟩:∃x1,X[2*i+1]?=some x1:=⟨_,Gb_ oM⟩;obtain⟨xi,hxi⟩:∃xi,X[i]?=some xi:=⟨_,Gb_ oM⟩;have e1:(2*(i:Int))+1=((2*i+1:Nat):Int):=by omega
 refine eg E rfl (wy_ E E.g0) (m_ rfl E.g4) λa E=>eg (v := .bool (decide (((2*(i:Int))+1)<0))) E rfl (wy_ E E.g1) (aBn E.g0 rfl u3_ rfl) λa E=>ep (v := .bool (decide (((2*(i:Int))+1)<0))) E rfl (aAx rfl E.g2 E.g0) λa E=>n_ (t_ ?_);cases hq36:(decide (((2*(i:Int))+1)<0))
 rotate_left
 ·rw[hq36] at E;exact absurd (of_decide_eq_true hq36) oM
 rw[hq36] at E;rw[e1] at E;refine c_f E.g0 (k_ (t_ (s_ (r_ (ep E rfl (m_ rfl E.g7) λa E=>ep E rfl (a_ rfl E.g0) λa E=>n_ (t_ (s_ (s_ (r_ (ep E rfl (m_ rfl E.g9) λa E=>ep (v := .int .i64 (((2*i+1:Nat):Int)+1)) E rfl (aAQ u3_ E.g0 rfl oM oM rfl) λa E=>ep E rfl (a_ rfl E.g0) λa E=>n_ (t_ (s_ (r_ (ep E rfl (m_ rfl E.g0) λa E=>ep (v := .int .i64 (n:Int)) E rfl (m_ rfl (E.get 19 rfl)) λa E=>ep (v := .bool (decide ((((2*i+1:Nat):Int)+1)<(n:Int)))) E rfl (aBn E.g1 E.g0 u3_ rfl) λa E=>ep E rfl (m_ rfl E.g0) λa E=>?_))))))))))))));cases hq37:(decide ((((2*i+1:Nat):Int)+1)<(n:Int)))
 ·rw[hq37] at E;have hge2:n<=2*i+2:=by have:=of_decide_eq_false hq37;omega
  refine ek E rfl rfl E.g0 λa E=>ek E rfl rfl E.g1 λa E=>ek E rfl rfl E.g2 λa E=>ek E rfl rfl E.g3 λa E=>ep (v := .bool false) E rfl (aAx rfl E.g4 rfl) λa E=>n_ (t_ (c_f E.g0 (k_ (t_ (s_ (s_ (r_ (ep (v := .iface 168 (vP q 0)) E rfl (m_ rfl (E.get 25 rfl)) λa E=>ep (v := .int .i64 ((2*i+1:Nat):Int)) E rfl (m_ rfl (E.get 13 rfl)) λa E=>ep (v := .int .i64 (i:Int)) E rfl (m_ rfl (E.get 28 rfl)) λa E=>ec_ (v := .bool (lsW x1 xi)) E rfl (aBU (aFU q _) (enters_of Tryz.func335 kR rfl) rfl E.g2 E.g1 E.g0) (aBZ hH.1 hx1 hxi (hH.2 _ (Ge_ hx1)) (hH.2 _ (Ge_ hxi))) λa w3 f1 E=>?_))))))));have hH:=hH.fr f1 id (λ_ _ h=>h) (λ_ _ h=>h);have hT:=hT.trans' f1 (λ_ _ h=>h.elim);clear f1;refine ep (v := .bool (!(lsW x1 xi))) E rfl (aBM rfl E.g0) λa E=>n_ (t_ ?_);cases hq38:(lsW x1 xi)
  ·rw[hq38] at E;refine c_t E.g0 (x_ (te_ (aM8 dE (te_ (be_ (t_ (s_ (r_ (ep (v := .int .i64 (i:Int)) E rfl (m_ rfl (E.get 31 rfl)) λa E=>ep (v := .int .i64 0) E rfl (m_ rfl (E.get 35 rfl)) λa E=>ep (v := .bool (decide (0<(i:Int)))) E rfl (aCk E.g1 E.g0 u3_ rfl) λa E=>es_ E rfl (a_ rfl E.g0) λa E=>n_ (t_ (wr_ ?_)))))))))))
   have hcc:∀c,1<=c->c<n->(c-1) / 2=i->¬LsW (fx X c) (fx X (2*i+1)):=by
    intro c h1 h2 h3;have:c=2*i+1:=by omega
    subst this;exact LsW.irrefl _
   exact aAs (t:=6) rfl E E.g0 ⟨⟨_,rfl⟩,X,hpm,hD.stop2 (j:=(2*i+1)) hcc (by rw[aCa hx1,aCa hxi];exact λh9=>by rw[(aCf _ _).2 h9] at hq38;cases hq38),hk9,hH,hT⟩
  rw[hq38] at E;refine c_f E.g0 (k_ (t_ (s_ (r_ (ep (v := .iface 168 (vP q 0)) E rfl (m_ rfl (E.get 30 rfl)) λa E=>ep (v := .int .i64 (i:Int)) E rfl (m_ rfl (E.get 32 rfl)) λa E=>ep (v := .int .i64 ((2*i+1:Nat):Int)) E rfl (m_ rfl (E.get 19 rfl)) λa E=>ec_ (v := .tuple #[]) (F:=λw8=>QAt w8 q B v (swp X i (2*i+1) xi x1)/\Fr (λk=>v.ownBlock=some k) w3 w8) E rfl (aBU (aFT q _) (enters_of Tryz.func338 kR rfl) rfl E.g2 E.g1 E.g0) (aBX hH.1 hxi hx1) λa w4 f1 E=>?_)))));obtain⟨hQ4,f1⟩:=f1;have hH4:HAt w4 q B v S (swp X i (2*i+1) xi x1):=⟨hQ4,λz hz=>(hH.2 z ((aBy hxi hx1).mem_iff.1 hz)).fr f1 (λk hk e=>by have:=hS k hk;have:=(hH.1.2.lt e).1;omega)⟩;have hT4:=hT.trans' f1 (λ_ _ h=>h);have hp4:=(aBy hxi hx1).trans hpm;clear f1;refine n_ (t_ (r_ (ep (v := .int .i64 ((2*i+1:Nat):Int)) E rfl (m_ rfl (E.get 21 rfl)) λa E=>es_ E rfl (a_ rfl E.g0) λa E=>n_ (b_ (t_ ?_)))))
  have hcc:∀c,1<=c->c<n->(c-1) / 2=i->¬LsW (fx X c) (fx X (2*i+1)):=by
   intro c h1 h2 h3;have:c=2*i+1:=by omega
   subst this;exact LsW.irrefl _
  have hls:=(aCf _ _).1 hq38;have hst:aPH (sw (fx X) i (2*i+1)) n (2*i+1):=hD.step oM oM oM hcc (by rw[aCa hx1,aCa hxi];exact hls);rw[<-aI9 hxi hx1] at hst;refine⟨⟨swp X i (2*i+1) xi x1,(2*i+1),E.of ⟨E.get 36 rfl,E.g0,E.get 37 rfl,E.get 38 rfl,E.get 39 rfl,trivial⟩,hH4,by rw[aCd];omega,by omega,hst,hp4,by rw[aCd];exact hln,(λk hk=>?_),hT4⟩,?_⟩
  ·rw[List.getElem?_set,if_neg oM,List.getElem?_set,if_neg oM];exact hk9 k hk
  ·rw[E.g0];simp only[intOf];omega
 rw[hq37] at E;have hlt2:2*i+2<n:=by have:=of_decide_eq_true hq37;omega
 obtain⟨x2,hx2⟩:∃x2,X[2*i+2]?=some x2:=⟨_,Gb_ oM⟩;have e2:((2*i+1:Nat):Int)+1=((2*i+2:Nat):Int):=by omega
 rw[e2] at E;refine eg (v := .iface 168 (vP q 0)) E rfl (wy_ E E.g0) (m_ rfl (E.get 20 rfl)) λa E=>eg E rfl (wy_ E E.g1) (m_ rfl E.g5) λa E=>eg (v := .int .i64 ((2*i+1:Nat):Int)) E rfl (wy_ E E.g2) (m_ rfl (E.get 18 rfl)) λa E=>aD8 (d:=32) (v := .bool (lsW x2 x1)) E rfl dE rfl (wy_ E E.g3) (aBU (aFU q _) (enters_of Tryz.func335 kR rfl) rfl E.g2 E.g1 E.g0) (aBZ hH.1 hx2 hx1 (hH.2 _ (Ge_ hx2)) (hH.2 _ (Ge_ hx1))) λa w3 f1 E=>?_;have hH:=hH.fr f1 id (λ_ _ h=>h) (λ_ _ h=>h);have hT:=hT.trans' f1 (λ_ _ h=>h.elim);clear f1;refine ep (v := .bool (lsW x2 x1)) E rfl (aAL rfl E.g4 E.g0) λa E=>n_ (t_ ?_);cases hq39:(lsW x2 x1)
 ·rw[hq39] at E;refine c_f E.g0 (k_ (t_ (s_ (s_ (r_ (ep (v := .iface 168 (vP q 0)) E rfl (m_ rfl (E.get 25 rfl)) λa E=>ep (v := .int .i64 ((2*i+1:Nat):Int)) E rfl (m_ rfl (E.get 13 rfl)) λa E=>ep (v := .int .i64 (i:Int)) E rfl (m_ rfl (E.get 28 rfl)) λa E=>ec_ (v := .bool (lsW x1 xi)) E rfl (aBU (aFU q _) (enters_of Tryz.func335 kR rfl) rfl E.g2 E.g1 E.g0) (aBZ hH.1 hx1 hxi (hH.2 _ (Ge_ hx1)) (hH.2 _ (Ge_ hxi))) λa w3 f1 E=>?_))))));have hH:=hH.fr f1 id (λ_ _ h=>h) (λ_ _ h=>h);have hT:=hT.trans' f1 (λ_ _ h=>h.elim);clear f1;refine ep (v := .bool (!(lsW x1 xi))) E rfl (aBM rfl E.g0) λa E=>n_ (t_ ?_);cases hq40:(lsW x1 xi)
  ·rw[hq40] at E;refine c_t E.g0 (x_ (te_ (aM8 dE (te_ (be_ (t_ (s_ (r_ (ep (v := .int .i64 (i:Int)) E rfl (m_ rfl (E.get 31 rfl)) λa E=>ep (v := .int .i64 0) E rfl (m_ rfl (E.get 35 rfl)) λa E=>ep (v := .bool (decide (0<(i:Int)))) E rfl (aCk E.g1 E.g0 u3_ rfl) λa E=>es_ E rfl (a_ rfl E.g0) λa E=>n_ (t_ (wr_ ?_)))))))))))
   have hcc:∀c,1<=c->c<n->(c-1) / 2=i->¬LsW (fx X c) (fx X (2*i+1)):=by
    intro c h1 h2 h3;rcases(show c=2*i+1\/c=2*i+2 by omega) with rfl|rfl
    ·exact LsW.irrefl _
    ·rw[aCa hx1,aCa hx2];exact λh9=>by rw[(aCf _ _).2 h9] at hq39;cases hq39
   exact aAs (t:=6) rfl E E.g0 ⟨⟨_,rfl⟩,X,hpm,hD.stop2 (j:=(2*i+1)) hcc (by rw[aCa hx1,aCa hxi];exact λh9=>by rw[(aCf _ _).2 h9] at hq40;cases hq40),hk9,hH,hT⟩
  rw[hq40] at E;refine c_f E.g0 (k_ (t_ (s_ (r_ (ep (v := .iface 168 (vP q 0)) E rfl (m_ rfl (E.get 30 rfl)) λa E=>ep (v := .int .i64 (i:Int)) E rfl (m_ rfl (E.get 32 rfl)) λa E=>ep (v := .int .i64 ((2*i+1:Nat):Int)) E rfl (m_ rfl (E.get 19 rfl)) λa E=>ec_ (v := .tuple #[]) (F:=λw8=>QAt w8 q B v (swp X i (2*i+1) xi x1)/\Fr (λk=>v.ownBlock=some k) w3 w8) E rfl (aBU (aFT q _) (enters_of Tryz.func338 kR rfl) rfl E.g2 E.g1 E.g0) (aBX hH.1 hxi hx1) λa w4 f1 E=>?_)))));obtain⟨hQ4,f1⟩:=f1;have hH4:HAt w4 q B v S (swp X i (2*i+1) xi x1):=⟨hQ4,λz hz=>(hH.2 z ((aBy hxi hx1).mem_iff.1 hz)).fr f1 (λk hk e=>by have:=hS k hk;have:=(hH.1.2.lt e).1;omega)⟩;have hT4:=hT.trans' f1 (λ_ _ h=>h);have hp4:=(aBy hxi hx1).trans hpm;clear f1;refine n_ (t_ (r_ (ep (v := .int .i64 ((2*i+1:Nat):Int)) E rfl (m_ rfl (E.get 21 rfl)) λa E=>es_ E rfl (a_ rfl E.g0) λa E=>n_ (b_ (t_ ?_)))))
  have hcc:∀c,1<=c->c<n->(c-1) / 2=i->¬LsW (fx X c) (fx X (2*i+1)):=by
   intro c h1 h2 h3;rcases(show c=2*i+1\/c=2*i+2 by omega) with rfl|rfl
   ·exact LsW.irrefl _
   ·rw[aCa hx1,aCa hx2];exact λh9=>by rw[(aCf _ _).2 h9] at hq39;cases hq39
  have hls:=(aCf _ _).1 hq40;have hst:aPH (sw (fx X) i (2*i+1)) n (2*i+1):=hD.step oM oM oM hcc (by rw[aCa hx1,aCa hxi];exact hls);rw[<-aI9 hxi hx1] at hst;refine⟨⟨swp X i (2*i+1) xi x1,(2*i+1),E.of ⟨E.get 36 rfl,E.g0,E.get 37 rfl,E.get 38 rfl,E.get 39 rfl,trivial⟩,hH4,by rw[aCd];omega,by omega,hst,hp4,by rw[aCd];exact hln,(λk hk=>?_),hT4⟩,?_⟩
  ·rw[List.getElem?_set,if_neg oM,List.getElem?_set,if_neg oM];exact hk9 k hk
  ·rw[E.g0];simp only[intOf];omega
 rw[hq39] at E;refine c_t E.g0 (r_ (ep E rfl (m_ rfl E.g9) λa E=>es_ E rfl (a_ rfl E.g0) λa E=>n_ (t_ (s_ (s_ (r_ (ep (v := .iface 168 (vP q 0)) E rfl (m_ rfl (E.get 26 rfl)) λa E=>ep E rfl (m_ rfl E.g1) λa E=>ep (v := .int .i64 (i:Int)) E rfl (m_ rfl (E.get 29 rfl)) λa E=>ec_ (v := .bool (lsW x2 xi)) E rfl (aBU (aFU q _) (enters_of Tryz.func335 kR rfl) rfl E.g2 E.g1 E.g0) (aBZ hH.1 hx2 hxi (hH.2 _ (Ge_ hx2)) (hH.2 _ (Ge_ hxi))) λa w3 f1 E=>?_)))))));have hH:=hH.fr f1 id (λ_ _ h=>h) (λ_ _ h=>h);have hT:=hT.trans' f1 (λ_ _ h=>h.elim);clear f1;refine ep (v := .bool (!(lsW x2 xi))) E rfl (aBM rfl E.g0) λa E=>n_ (t_ ?_);cases hq41:(lsW x2 xi)
 ·rw[hq41] at E;refine c_t E.g0 (x_ (te_ (aM8 dE (te_ (be_ (t_ (s_ (r_ (ep (v := .int .i64 (i:Int)) E rfl (m_ rfl (E.get 32 rfl)) λa E=>ep (v := .int .i64 0) E rfl (m_ rfl (E.get 36 rfl)) λa E=>ep (v := .bool (decide (0<(i:Int)))) E rfl (aCk E.g1 E.g0 u3_ rfl) λa E=>es_ E rfl (a_ rfl E.g0) λa E=>n_ (t_ (wr_ ?_)))))))))))
  have hcc:∀c,1<=c->c<n->(c-1) / 2=i->¬LsW (fx X c) (fx X (2*i+2)):=by
   intro c h1 h2 h3;rcases(show c=2*i+1\/c=2*i+2 by omega) with rfl|rfl
   ·rw[aCa hx1,aCa hx2];exact((aCf _ _).1 hq39).asymm
   ·exact LsW.irrefl _
  exact aAs (t:=6) rfl E E.g0 ⟨⟨_,rfl⟩,X,hpm,hD.stop2 (j:=(2*i+2)) hcc (by rw[aCa hx2,aCa hxi];exact λh9=>by rw[(aCf _ _).2 h9] at hq41;cases hq41),hk9,hH,hT⟩
 rw[hq41] at E;refine c_f E.g0 (k_ (t_ (s_ (r_ (ep (v := .iface 168 (vP q 0)) E rfl (m_ rfl (E.get 31 rfl)) λa E=>ep (v := .int .i64 (i:Int)) E rfl (m_ rfl (E.get 33 rfl)) λa E=>ep E rfl (m_ rfl E.g7) λa E=>ec_ (v := .tuple #[]) (F:=λw8=>QAt w8 q B v (swp X i (2*i+2) xi x2)/\Fr (λk=>v.ownBlock=some k) w3 w8) E rfl (aBU (aFT q _) (enters_of Tryz.func338 kR rfl) rfl E.g2 E.g1 E.g0) (aBX hH.1 hxi hx2) λa w4 f1 E=>?_)))));obtain⟨hQ4,f1⟩:=f1;have hH4:HAt w4 q B v S (swp X i (2*i+2) xi x2):=⟨hQ4,λz hz=>(hH.2 z ((aBy hxi hx2).mem_iff.1 hz)).fr f1 (λk hk e=>by have:=hS k hk;have:=(hH.1.2.lt e).1;omega)⟩;have hT4:=hT.trans' f1 (λ_ _ h=>h);have hp4:=(aBy hxi hx2).trans hpm;clear f1;refine n_ (t_ (r_ (ep E rfl (m_ rfl E.g9) λa E=>es_ E rfl (a_ rfl E.g0) λa E=>n_ (b_ (t_ ?_)))))
 have hcc:∀c,1<=c->c<n->(c-1) / 2=i->¬LsW (fx X c) (fx X (2*i+2)):=by
  intro c h1 h2 h3;rcases(show c=2*i+1\/c=2*i+2 by omega) with rfl|rfl
  ·rw[aCa hx1,aCa hx2];exact((aCf _ _).1 hq39).asymm
  ·exact LsW.irrefl _
 have hls:=(aCf _ _).1 hq41;have hst:aPH (sw (fx X) i (2*i+2)) n (2*i+2):=hD.step oM oM oM hcc (by rw[aCa hx2,aCa hxi];exact hls);rw[<-aI9 hxi hx2] at hst;refine⟨⟨swp X i (2*i+2) xi x2,(2*i+2),E.of ⟨E.get 37 rfl,E.g0,E.get 38 rfl,E.get 39 rfl,E.get 40 rfl,trivial⟩,hH4,by rw[aCd];omega,by omega,hst,hp4,by rw[aCd];exact hln,(λk hk=>?_),hT4⟩,?_⟩
 ·rw[List.getElem?_set,if_neg oM,List.getElem?_set,if_neg oM];exact hk9 k hk
 ·rw[E.g0];simp only[intOf];omega
theorem Hp.push (h:Hp (fx X) X.length):aSG (fx (X++[x])) (X++[x]).length X.length:=by
 have hfx:∀k,k<X.length->fx (X++[x]) k=fx X k:=λk hk=>by unfold fx;rw[List.getElem?_append_left hk]
 refine⟨λk h1 h2 h3=>?_,λk h1 h2 h3 h4=>?_⟩
 ·simp only[Gi_,List.length_singleton] at h2;have:=h k h1 oM;unfold gE at *;rw[hfx k oM,hfx _ oM];exact this
 ·simp only[Gi_,List.length_singleton] at h2;omega
def aWM (w:World)(q B:Nat)(v:Value)(S:Nat->Prop)(X:List Wt)(x:Wt)(e:Ending)(w':World):Prop :=
 e=.returned (.tuple #[])/\∃v' X',X'.Perm (X++[x])/\Hp (fx X') X'.length/\HAt w' q B v' S X'/\Fr (λk=>k=q\/v.ownBlock=some k) w w'
def aUF (w:World)(q B:Nat)(v:Value)(S:Nat->Prop)(X:List Wt)(e:Ending)(w':World):Prop :=
 ∃x v' Y,e=.returned (.iface 170 (.agg (wtC x)))/\(x::Y).Perm X/\(∀y∈X,¬LsW y x)/\Hp (fx Y) Y.length/\HAt w' q B v' S Y/\Fr (λk=>k=q\/v.ownBlock=some k) w w'
set_option maxRecDepth 100000 in
set_option maxHeartbeats 4000000 in
theorem aEZ {q:Nat}(hH:HAt w q B v S X)(hS:∀k,S k->k<B/\k≠q)(hqB:q<B)(hhp:Hp (fx X) X.length)(hB:B<=w.heap.size)(hln:X.length<=900000)(hX:aMI w S x):Calls Tryz.prog 115 #[.iface 168 (vP q 0),.iface 170 (.agg (wtC x))] w (aWM w q B v S X x):=by
 refine aAW Tryz.func115 rfl rfl (n:=12) dE λa E=>s_ (r_ (ep E rfl (m_ rfl E.g0) λa E=>ep E rfl (m_ rfl E.g2) λa E=>ec_ (v := .tuple #[]) (F:=λw8=>∃v8,QAt w8 q B v8 (X++[x])/\(v8.ownBlock=v.ownBlock\/∀k,v8.ownBlock=some k->w.heap.size<=k)/\Fr (λk=>k=q\/v.ownBlock=some k) w w8) E rfl (aQp (aTB q _) (enters_of Tryz.func337 kR rfl) rfl E.g1 E.g0) (aIt hH.1 hB oM x) λa w3 f1 E=>?_));obtain⟨v8,hQ8,hl8,f1⟩:=f1
 have hH8:HAt w3 q B v8 S (X++[x]):=⟨hQ8,λz hz=>by
  rcases List.mem_append.1 hz with hz|hz
  ·exact(hH.2 z hz).fr f1 (λk hk e=>by have:=hS k hk;rcases e with e|e;omega;have:=(hH.1.2.lt e).1;omega)
  ·simp only[Gd_] at hz;subst hz;exact hX.fr f1 (λk hk e=>by have:=hS k hk;rcases e with e|e;omega;have:=(hH.1.2.lt e).1;omega)⟩
 have fT:Fr (λk=>k=q\/v.ownBlock=some k) w w3:=f1;obtain⟨pn,nn,cn,hvv⟩:=aIw hQ8.2;obtain⟨pn,cn,hvv,_⟩:=hQ8.2.src aCc;subst hvv;refine n_ (t_ (r_ (ep E rfl (m_ rfl E.g3) λa E=>ep E rfl (m_ rfl E.g4) λa E=>ec_ (v := .int .i64 ((X++[x]).length:Int)) E rfl (aHn (aSi q _) (enters_of Tryz.func117 kR rfl) rfl E.g0 ) (aDO hH8.1.1) λa w4 f1 E=>?_)));have hH8:=hH8.fr f1 id (λ_ _ h=>h) (λ_ _ h=>h);have fT:=fT.trans' f1 (λ_ _ h=>h.elim);clear f1;have hlx:(X++[x]).length=X.length+1:=by simp
 refine ep (v := .int .i64 (((X++[x]).length:Int)-1)) E rfl (aBT u3_ E.g0 rfl oM oM rfl) λa E=>ec_ (v := .tuple #[]) (F:=λw8=>∃X1,X1.Perm (X++[x])/\Hp (fx X1) X1.length/\HAt w8 q B (.slice pn (X++[x]).length cn) S X1/\Fr (λk=>(Value.slice pn (X++[x]).length cn).ownBlock=some k) w4 w8) E rfl (aAB (enters_of Tryz.func163 kR rfl) rfl rfl E.g3 E.g0) (by have hup:=aMT hH8 hS (j0:=X.length) oM hhp.push oM;rw[show(X.length:Int)=((X++[x]).length:Int)-1 by omega] at hup;exact hup) λa w5 f1 E=>?_;obtain⟨X1,hp1,hh1,hH9,f1⟩:=f1;refine n_ ((aCe rfl E ⟨rfl,_,X1,hp1,hh1,hH9,fT.trans' f1 (λr hr e=>by rcases hl8 with e2|e2;(rw[e2] at e;exact .inr e);(have:=e2 r e;omega))⟩).1)
set_option maxRecDepth 100000 in
set_option maxHeartbeats 4000000 in
theorem aJP {q:Nat}(hH:HAt w q B v S X)(hS:∀k,S k->k<B/\k≠q)(hqB:q<B)(hhp:Hp (fx X) X.length)(hB:B<=w.heap.size)(hln:X.length<=900000)(hne:X≠[]):Calls Tryz.prog 118 #[.iface 168 (vP q 0)] w (aUF w q B v S X):=by
 refine aBV Tryz.func118 rfl rfl (n:=15) dE λa E=>?_;have hf:Fr nF_ w w:=Fr.refl _ _;obtain⟨n,hn⟩:∃n,X.length=n+1:=⟨X.length-1,by have:=List.length_pos_iff.2 hne;omega⟩;obtain⟨pn,cn,hvv,_⟩:=hH.1.2.src aCc;subst hvv;obtain⟨x0,hx0⟩:∃x0,X[0]?=some x0:=⟨_,Gb_ oM⟩;obtain⟨xn,hxn⟩:∃xn,X[n]?=some xn:=⟨_,Gb_ oM⟩;refine s_ (r_ (ep (v:=Value.nilIface) E rfl (a_ rfl rfl) λa E=>n_ (t_ (s_ (r_ (ep E rfl (m_ rfl E.g1) λa E=>ec_ (v := .int .i64 (X.length:Int)) E rfl (aHn (aSi q _) (enters_of Tryz.func117 kR rfl) rfl E.g0 ) (aDO hH.1.1) λa w3 f1 E=>?_))))));have hH:=hH.fr f1 id (λ_ _ h=>h) (λ_ _ h=>h);have hf:=hf.trans f1;clear f1;refine ep (v := .int .i64 ((X.length:Int)-1)) E rfl (aBT u3_ E.g0 rfl oM oM rfl) λa E=>ep E rfl (a_ rfl E.g0) λa E=>n_ (t_ (s_ ?_));rw[show(X.length:Int)-1=(n:Int) by omega] at E;refine r_ (ep E rfl (m_ rfl E.g5) λa E=>ep E rfl (m_ rfl E.g1) λa E=>ec_ (v := .tuple #[]) (F:=λw8=>QAt w8 q B (.slice pn X.length cn) (swp X 0 n x0 xn)/\Fr (λk=>(Value.slice pn X.length cn).ownBlock=some k) w3 w8) E rfl (aBU (aFT q _) (enters_of Tryz.func338 kR rfl) rfl E.g1 rfl E.g0) (aBX (i:=0) hH.1 hx0 hxn) λa w4 f1 E=>?_);obtain⟨hQ4,f1⟩:=f1;have hH4:HAt w4 q B (.slice pn X.length cn) S (swp X 0 n x0 xn):=⟨hQ4,λz hz=>(hH.2 z ((aBy hx0 hxn).mem_iff.1 hz)).fr f1 (λk hk e=>by have:=hS k hk;have:=(hH.1.2.lt e).1;omega)⟩;have fT:Fr (λk=>k=q\/(Value.slice pn X.length cn).ownBlock=some k) w w4:=(hf.mono λ_ _ h=>h.elim).trans' f1 (λ_ _ e =>.inr e);have hp4:=aBy hx0 hxn
 have hD:aPH (fx (swp X 0 n x0 xn)) n 0:=by
  rw[aI9 hx0 hxn];refine⟨λk h1 h2 h3=>?_,λk h1 h2 h3 h4=>absurd h4 oM⟩;unfold gE;rw[aPD _ oM oM,aPD _ h3 oM];exact hhp k h1 oM
 refine n_ (t_ (s_ (r_ (ep E rfl (m_ rfl E.g8) λa E=>ep E rfl (m_ rfl E.g4) λa E=>aB1 (d:=12) (R:=λu w8=>(∃b,u=.bool b)/\∃X1,X1.Perm (swp X 0 n x0 xn)/\Hp (fx X1) n/\(∀k,n<=k->X1[k]?=(swp X 0 n x0 xn)[k]?)/\HAt w8 q B (.slice pn X.length cn) S X1/\Fr (λk=>(Value.slice pn X.length cn).ownBlock=some k) w4 w8) E rfl dE rfl (aAb rfl _) (aN2 (enters_of Tryz.func164 kR rfl) rfl rfl E.g1 rfl E.g0) ((aKg hH4 hS (n:=n) (by rw[aCd];omega) hD (by rw[aCd];omega)).mono λe w8 hh=>by obtain⟨⟨b,hb⟩,h2⟩:=hh;exact⟨_,hb,⟨b,rfl⟩,h2⟩) λa w5 u9 hR E=>?_))));obtain⟨⟨b9,rfl⟩,X1,hp1,hh1,hk1,hH5,f1⟩:=hR;have fT:=fT.trans' f1 (λ_ _ e =>.inr e);have hlx1:X1.length=n+1:=by rw[hp1.length_eq,aCd,hn]
 have hx1n:X1[n]?=some x0:=by rw[hk1 n (Gj_ _),List.getElem?_set,if_pos rfl,if_pos (by rw[List.length_set];omega)]
 have hX1:X1=X1.take n++[x0]:=by
  have h9:=List.take_append_drop n X1
  have h8:X1.drop n=[x0]:=by
   have h7:=List.drop_eq_getElem_cons (l:=X1) (i:=n) oM;rw[h7,List.drop_eq_nil_of_le oM];have h6:=(List.getElem?_eq_some_iff.1 hx1n).2;rw[h6]
  rw[h8] at h9;exact h9.symm
 obtain⟨Y,hY⟩:∃Y,Y=X1.take n:=⟨_,rfl⟩;rw[<-hY] at hX1;have hYl:Y.length=n:=by rw[hY,Gq_];omega
 rw[hX1] at hH5;refine n_ (t_ (s_ (r_ (ep E rfl (m_ rfl E.g11) λa E=>aB1 (d:=14) (R:=λu w8=>u=.iface 170 (.agg (wtC x0))/\∃v8,QAt w8 q B v8 Y/\v8.ownBlock=(Value.slice pn X.length cn).ownBlock/\Fr (λk=>k=q) w5 w8) E rfl dE rfl (aAb rfl _) (aHn (aVJ q _) (enters_of Tryz.func336 kR rfl) rfl E.g0 ) ((aJA hH5.1 oM).mono λe w8 hh=>⟨_,hh.1,rfl,hh.2⟩) λa w6 u9 hR E=>?_))));obtain⟨rfl,v8,hQ8,hv8,f1⟩:=hR
 have hfin:aUF w q B (.slice pn X.length cn) S X (.returned (.iface 170 (.agg (wtC x0)))) w6:=by
  refine⟨x0,v8,Y,rfl,?_,?_,?_,⟨hQ8,λz hz=>(hH5.2 z (by simp[hz])).fr f1 (λk hk e=>by have:=hS k hk;omega)⟩,fT.trans' f1 (λ_ _ e =>.inl e)⟩
  ·refine List.Perm.trans ?_ (hp1.trans hp4);rw[hX1];exact(List.perm_append_comm (l₁:=[x0]) (l₂:=Y))
  ·intro y hy;obtain⟨k,hk⟩:=List.mem_iff_getElem?.1 hy;have h9:=hhp.min k (List.getElem?_eq_some_iff.1 hk).1;rw[aCa hk,aCa hx0] at h9;exact h9
  ·rw[hYl];intro k h1 h2;have h9:=hh1 k h1 h2;unfold gE at *;have hfx:∀k,k<n->fx Y k=fx X1 k:=λk hk=>by unfold fx;rw[hX1,List.getElem?_append_left oM]
   rw[hfx k h2,hfx _ oM];exact h9
 refine es_ E rfl (a_ rfl E.g0) λa E=>n_ (t_ (wr_ (aAs (t:=2) rfl E E.g0 hfin)))
end Go.Proofs.YtngjlnhojicjeaaGreatDoor
namespace Go.Proofs.YtngjlnhojicjeaaGreatDoor
open Go.RowKit Go.Pl
def ns (pt:Pt)(d e:En):Prop:=dsB d.2 pt<dsB e.2 pt\/dsB d.2 pt=dsB e.2 pt/\sl d.1 e.1
instance (pt:Pt) (d e:En):Decidable (ns pt d e):=by unfold ns;infer_instance
theorem aOd (pt:Pt)(d:En):¬ns pt d d:=by
 unfold ns;rintro(h|⟨_,h⟩)
 ·omega
 ·exact aIi _ h
theorem aKV {pt:Pt}{d e f:En}(h:ns pt d e)(k:ns pt e f):ns pt d f:=by
 unfold ns at *;rcases h with h|⟨h1,h2⟩
 ·rcases k with k|⟨k1,_⟩<;>(left;omega)
 ·rcases k with k|⟨k1,k2⟩
  ·left;omega
  ·exact .inr ⟨h1.trans k1,aKB h2 k2⟩
theorem aKW {pt:Pt}{d e:En}(h:ns pt d e):¬ns pt e d:=λk=>aOd _ _ (aKV h k)
theorem aSf {pt:Pt}{d e:En}(h:d.1≠e.1):ns pt d e\/ns pt e d:=by
 unfold ns;rcases Int.lt_trichotomy (dsB d.2 pt) (dsB e.2 pt) with h1|h1|h1
 ·exact .inl (.inl h1)
 ·rcases aIh d.1 e.1 with h2|h2|h2
  ·exact .inl (.inr ⟨h1,h2⟩)
  ·exact absurd h2 h
  ·exact .inr (.inr ⟨h1.symm,h2⟩)
 ·exact .inr (.inl h1)
theorem aOc {pt:Pt}{d e f:En}(h:¬ns pt e d)(k:¬ns pt f e):¬ns pt f d:=by
 intro hfd
 by_cases hde:d.1=e.1
 ·unfold ns at *;rw[hde] at h hfd
  by_cases h1:dsB e.2 pt=dsB d.2 pt
  ·apply k;rcases hfd with q|⟨q1,q2⟩
   ·left;omega
   ·exact .inr ⟨by omega,q2⟩
  ·rcases hfd with q|⟨q1,q2⟩
   ·apply k;left;have:¬dsB e.2 pt<dsB d.2 pt:=λh2=>h (.inl h2);omega
   ·apply k;left;have:¬dsB e.2 pt<dsB d.2 pt:=λh2=>h (.inl h2);omega
 ·rcases aSf (pt:=pt) hde with h1|h1
  ·exact k (aKV hfd h1)
  ·exact h h1
def aJn (pt:Pt)(L:List En):List En:=L.mergeSort λd e=>decide (¬ns pt e d)
theorem aCE (pt:Pt)(L:List En):(aJn pt L).Perm L:=List.mergeSort_perm _ _
theorem aHf {pt:Pt}{L:List En}(h:(L.map (·.1)).Nodup):(aJn pt L).Pairwise (ns pt):=by
 have h1:(aJn pt L).Pairwise λd e=>decide (¬ns pt e d)=true:=by
  unfold aJn;refine List.pairwise_mergeSort ?_ ?_ _
  ·intro a b c h1 h2;simp only[decide_eq_true_eq] at *;exact aOc h1 h2
  ·intro a b;simp only[Bool.or_eq_true,decide_eq_true_eq]
   by_cases hb:ns pt b a
   ·exact .inr (aKW hb)
   ·exact .inl hb
 have h2:(aJn pt L).Pairwise λd e=>d.1≠e.1:=by
  have:=((aCE pt L).map (·.1)).nodup_iff.2 h
  rwa[List.Nodup,List.pairwise_map] at this
 refine(h1.and h2).imp ?_;rintro d e ⟨h3,h4⟩;simp only[decide_eq_true_eq] at h3;exact(aSf h4).resolve_right h3
theorem aG8 {α:Type}{r:α->α->Prop}(ha:∀a b,r a b->¬r b a):∀{l k:List α},l.Pairwise r->k.Pairwise r->(∀x,x∈l↔x∈k)->l=k
 | [],[],_,_,_=>rfl
 | [],b::k,_,_,h=>absurd ((h b).2 sI) sI
 | a::l,[],_,_,h=>absurd ((h a).1 sI) sI
 | a::l,b::k,h1,h2,h=>by
  rw[List.pairwise_cons] at h1 h2;have hirr:∀x,¬r x x:=λx hx=>ha x x hx hx
  have e:a=b:=by
   rcases List.mem_cons.1 ((h a).1 sI) with h3|h3
   ·exact h3
   ·rcases List.mem_cons.1 ((h b).2 sI) with h4|h4
    ·exact h4.symm
    ·exact absurd (h1.1 b h4) (ha _ _ (h2.1 a h3))
  subst e;rw[aG8 ha h1.2 h2.2];intro x;constructor
  ·intro hx;rcases List.mem_cons.1 ((h x).1 (by simp[hx])) with h3|h3
   ·subst h3;exact absurd (h1.1 x hx) (hirr x)
   ·exact h3
  ·intro hx;rcases List.mem_cons.1 ((h x).2 (by simp[hx])) with h3|h3
   ·subst h3;exact absurd (h2.1 x hx) (hirr x)
   ·exact h3
abbrev rst (X:List Wt):List En:=X.flatMap (·.c.2.2)
variable{X:List Wt}
theorem aHo {Y:List Wt}(h:X.Perm Y):(rst X).Perm (rst Y):=h.flatMap_right _
structure Ner (pt:Pt)(L D:List En)(X:List Wt)(P:List En):Prop where
 perm:(D++(rst X++P)).Perm L
 srt:D.Pairwise (ns pt)
 le:∀d∈D,∀e∈rst X++P,ns pt d e
 far:∀x∈X,x.far=dsB x.c.2.1 pt
def Wok (x:Wt):Prop:=(∀e∈x.c.2.2,aGs e.2 x.c.2.1)/\(x.h=0->x.c.2.2=[(x.id,x.c.2.1)])/\x.c.2.2≠[]
variable{w:World}{x:Wt}{S:Nat->Prop}
theorem Wok.of (h:aMI w S x):Wok x:=by
 refine⟨h.in_,λh0=>?_,h.ne⟩;obtain⟨⟨pb,b,L⟩,hh,far⟩:=x;simp only at h0;subst h0;obtain⟨_,id,_,h3⟩:=h;simp only at h3;subst h3;rfl
section
variable{pt:Pt}{L D P:List En}{Y X':List Wt}
theorem Ner.leaf (H:Ner pt L D X [])(hL:(L.map (·.1)).Nodup)(hp:(x::Y).Perm X)(hm:∀y∈X,¬LsW y x)(hok:∀y∈X,Wok y)(h0:x.h=0):Ner pt L (D++[(x.id,x.c.2.1)]) Y []:=by
 have hx:x∈X:=hp.mem_iff.1 sI;have hxe:=(hok x hx).2.1 h0;have hrp:=aHo hp
 have hrx:rst (x::Y)=(x.id,x.c.2.1)::rst Y:=by
  show x.c.2.2++rst Y=_;rw[hxe];rfl
 rw[hrx] at hrp;have hmem:∀e,e∈rst Y->e∈rst X:=λe he=>hrp.mem_iff.1 (by simp[he]);have hxm:(x.id,x.c.2.1)∈rst X:=hrp.mem_iff.1 sI;refine⟨?_,?_,?_,λy hy=>H.far y (hp.mem_iff.1 (by simp[hy]))⟩
 ·refine List.Perm.trans ?_ H.perm;rw[Gl_];refine(List.Perm.refl D).append ?_;simp only[List.append_nil,List.singleton_append];exact hrp
 ·rw[List.pairwise_append];refine⟨H.srt,by simp,λd hd e he=>?_⟩;simp at he;subst he;exact H.le d hd _ (by simp[hxm])
 ·intro d hd e he;simp only[List.append_nil] at he;rcases List.mem_append.1 hd with hd|hd
  ·exact H.le d hd e (by simp[hmem e he])
  ·simp at hd;subst hd;obtain⟨y,hy,hey⟩:=List.mem_flatMap.1 he;have hyX:y∈X:=hp.mem_iff.1 (by simp[hy]);have hnl:=hm y hyX;have hfy:=H.far y hyX;have hfx:=H.far x hx;have hin:=((hok y hyX).1 e hey).far pt
   have hle:x.far<=y.far:=by
    have:¬y.far<x.far:=λh=>hnl (.inl h);omega
   unfold ns;simp only
   by_cases hlt:dsB x.c.2.1 pt<dsB e.2 pt
   ·exact .inl hlt
   ·right;have hfe:y.far=x.far:=by omega
    refine⟨by omega,?_⟩
    have hy0:y.h=0:=by
     apply Classical.byContradiction;intro hh;exact hnl (.inr ⟨hfe,.inl ⟨hh,h0⟩⟩)
    have hye:=(hok y hyX).2.1 hy0;rw[hye] at hey;simp at hey;subst hey;have hns:¬sl y.id x.id:=λh=>hnl (.inr ⟨hfe,.inr ⟨by simp[h0,hy0],h⟩⟩);rcases aIh x.id y.id with h|h|h
    ·exact h
    ·exfalso;have hnd:((D++(rst X++[])).map (λe:En=>e.1)).Nodup:=(H.perm.map (λe:En=>e.1)).nodup_iff.2 hL;rw[List.append_nil,List.map_append,List.nodup_append] at hnd;have h2:=(hrp.map (λe:En=>e.1)).nodup_iff.2 hnd.2.1;rw[List.map_cons,List.nodup_cons] at h2;exact h2.1 (List.mem_map.2 ⟨_,he,h.symm⟩)
    ·exact absurd h hns
theorem Ner.inner (H:Ner pt L D X [])(hp:(x::Y).Perm X):Ner pt L D Y x.c.2.2:=by
 have hrp:=aHo hp;have hrx:rst (x::Y)=x.c.2.2++rst Y:=rfl;rw[hrx] at hrp;have h2:(rst Y++x.c.2.2).Perm (rst X++[]):=by rw[List.append_nil];exact List.perm_append_comm.trans hrp
 exact⟨((List.Perm.refl D).append h2).trans H.perm,H.srt,λd hd e he=>H.le d hd e (h2.mem_iff.1 he),λy hy=>H.far y (hp.mem_iff.1 (by simp[hy]))⟩
theorem Ner.push (H:Ner pt L D Y (x.c.2.2++P))(hp:X'.Perm (Y++[x]))(hf:x.far=dsB x.c.2.1 pt):Ner pt L D X' P:=by
 have h1:=aHo hp;have hrx:rst (Y++[x])=rst Y++x.c.2.2:=by simp
 rw[hrx] at h1;have h2:(rst X'++P).Perm (rst Y++(x.c.2.2++P)):=by rw[<-Gl_];exact h1.append (List.Perm.refl P)
 refine⟨((List.Perm.refl D).append h2).trans H.perm,H.srt,λd hd e he=>H.le d hd e (h2.mem_iff.1 he),λy hy=>?_⟩;rcases List.mem_append.1 (hp.mem_iff.1 hy) with h|h
 ·exact H.far y h
 ·simp at h;subst h;exact hf
theorem Ner.pre (H:Ner pt L D X P)(hL:(L.map (·.1)).Nodup):∃K,aJn pt L=D++K:=by
 have hnd:((D++(rst X++P)).map (·.1)).Nodup:=(H.perm.map (λe:En=>e.1)).nodup_iff.2 hL
 have hnr:((rst X++P).map (·.1)).Nodup:=by
  rw[List.map_append,List.nodup_append] at hnd;exact hnd.2.1
 refine⟨aJn pt (rst X++P),?_⟩;refine aG8 (λa b=>aKW) (aHf hL) ?_ λe=>?_
 ·rw[List.pairwise_append];exact⟨H.srt,aHf hnr,λd hd e he=>H.le d hd e ((aCE _ _).mem_iff.1 he)⟩
 ·rw[(aCE pt L).mem_iff,<-H.perm.mem_iff];simp only[List.mem_append,(aCE pt (rst X++P)).mem_iff]
theorem Ner.take (H:Ner pt L D X P)(hL:(L.map (·.1)).Nodup){n:Nat}(hn:D.length=n\/D.length<=n/\X=[]/\P=[]):(aJn pt L).take n=D:=by
 obtain⟨K,hK⟩:=H.pre hL;rcases hn with hn|⟨hn,hX,hP⟩
 ·rw[hK,List.take_append_of_le_length oM,Gc_ oM]
 ·subst hX hP;have h1:=H.perm.length_eq;have h2:=(aCE pt L).length_eq
  have h3:K=[]:=by
   apply List.eq_nil_of_length_eq_zero;rw[hK] at h2;simp at h1 h2;omega
  rw[hK,h3,List.append_nil,Gc_ hn]
theorem Ner.len (H:Ner pt L D X P)(hok:∀y∈X,Wok y):X.length+D.length+P.length<=L.length:=by
 have h1:=H.perm.length_eq;simp only[Gi_] at h1
 have h2:X.length<=(rst X).length:=by
  clear H h1
  induction X with
  | nil=>simp
  | cons y X ih =>
   have h3:=ih λz hz=>hok z (by simp[hz]);have h4:=List.length_pos_iff.2 (hok y sI).2.2;show X.length+1<=(y.c.2.2++rst X).length;rw[Gi_];omega
 omega
end
def aG5 (X:List Wt):Nat:=(X.map λx=>(x.h+1)*x.c.2.2.length).sum
theorem aGX {Y:List Wt}(h:X.Perm Y):aG5 X=aG5 Y:=(h.map _).sum_nat
theorem aGY (x:Wt)(X:List Wt):aG5 (x::X)=(x.h+1)*x.c.2.2.length+aG5 X:=by simp[aG5]
theorem aSK (X Y:List Wt):aG5 (X++Y)=aG5 X+aG5 Y:=by simp[aG5]
def aYs (m:ByteArray->Option Bx)(pt:Pt)(n:Int)(R:List ByteArray):Prop:=∃L,aPI L m/\R=((aJn pt L).take n.toNat).map (·.1)
def aV4:Value->Bool
 | .pointer none=>true
 | _=>false
variable{o:Oper}{v:Value}
section
variable{ρ:Operand->Value}{x y:Operand}{n0 n1:Int}
theorem aNp (hp:∃a,v=.pointer a)(ho:o.op=.binOp .eql 157 x y 157)(hx:ρ x=v)(hy:ρ y=.pointer none):(execOp ρ o).run Tryz.prog w=.ok (.value (.bool (aV4 v))) w:=by
 obtain⟨a,rfl⟩:=hp;cases a<;>simp[execOp,ho,hx,hy,go_sem,aV4]
theorem aJy (ho:o.op=.build 174 #[(1,.func 114)])(hf:ρ (.func 114)=.func (.func 114) #[] #[]):(execOp ρ o).run Tryz.prog w=.ok (.value (.agg #[.slice none 0 0,.func (.func 114) #[] #[]])) w:=by
 simp[execOp,ho,hf,go_sem]
theorem aN3 (ho:o.op=.box 174 x)(hx:ρ x=.agg #[.slice none 0 0,.func (.func 114) #[] #[]]):(execOp ρ o).run Tryz.prog w=.ok (.value (vP w.heap.size 0)) (w.alloc (.cells #[.slice none 0 0,.func (.func 114) #[] #[]] 174)):=by
 simp[execOp,ho,hx,go_sem]
end
section
variable{O:Array Oper}{Q:Exit->Act->World->Prop}{rest:List Oper}{a:Act}{n d:Nat}{L:List (Nat×Value)}{x y:Operand}{ds:List Deferred}{n0 n1:Int}
theorem aOH (En:EnvD ds n L a)(hd:o.dst=some d)(hn:d<n)(hf:(L.map (·.1)).contains d=false)(hw:Region.wanted o (yielded O a.tmps)=true)(ho:o.op=.buildSlice 167 2 #[(0,x),(1,y)])(h0:a.eval x=.int .i64 n0)(h1:a.eval y=.int .i64 n1)
  (k:∀a' w' b,aBh inC 1 w' w'.heap.size (some ⟨b,0,none⟩) [n0,n1]->Fr nF_ w w'->EnvD ds n ((d,.slice (some ⟨b,0,none⟩) 2 2)::L) a'->wpList Tryz.prog O Q rest a' w'):wpList Tryz.prog O Q (o::rest) a w :=
 aB8 En hd hn hf hw (aIn ho h0 h1) λa' E'=>k a' _ _ (aK9 (ns:=[n0,n1]) (aAl _ _) sI) ((Fr.refl _ _).alloc _) E'
end
variable{A:List ByteArray}
theorem aJ5 {B C:Nat}{u:Value}(h:aEg w B u A)(k:oWt w C v X):∀b,u.ownBlock=some b->v.ownBlock≠some b:=by
 intro b hb;rcases h.2 with⟨h1,_⟩|⟨g,cap,cur,h1,_,h3,_⟩
 ·rw[h1] at hb;cases hb
 ·rw[h1] at hb;cases hb;exact aAZ dE k h3
theorem aNK {B q:Nat}{u:Value}(h:aEg w B u A)(k:quB w q v):u.ownBlock≠some q:=aAZ dE h k
def aYt (w:World)(p mb N:Nat)(S:Nat->Prop)(m:ByteArray->Option Bx)(pt:Pt)(n:Int)(e:Ending)(w':World):Prop :=
 ∃v R C,e=.returned v/\w.heap.size<=C/\aEg w' C v R/\(if isP pt then aYs m pt n R else R=[])/\aP9 w p mb N S m C w'
theorem aXR {pt:Pt}:(List.all [pt.1,pt.2] λn9=>decide (isI n9))=decide (isP pt):=by
 unfold isP
 by_cases h1:isI pt.1<;>by_cases h2:isI pt.2<;>simp[h1,h2]
variable{m:ByteArray->Option Bx}{mb N:Nat}{rv:Value}
set_option maxRecDepth 100000 in
set_option maxHeartbeats 4000000 in
theorem aF5 {p:Nat}(h:IxAt w p mb N S m rv true):Calls Tryz.prog 109 #[vP p 0] w λe w'=>e=.returned rv/\Fr nF_ w w':=by
 refine aBV Tryz.func109 rfl rfl (n:=40) dE λa E=>?_;have hf:Fr nF_ w w:=Fr.refl _ _;refine s_ (r_ (ep (v:=(Value.pointer none)) E rfl (a_ rfl rfl) λa E=>n_ (t_ (s_ (s_ (r_ (ep E rfl (m_ rfl E.g1) λa E=>ep E rfl (i_ rfl E.g0) λa E=>ep (v := vP p 2) E rfl (aO9 rfl E.g0) λa E=>ep (v := .bool true) E rfl (aNy rfl E.g0 (bx h.hp 2 rfl)) λa E=>ep (v := .bool false) E rfl (aBM rfl E.g0) λa E=>n_ (t_ (c_f E.g0 (k_ (t_ (s_ (r_ (ep E rfl (m_ rfl E.g6) λa E=>ep E rfl (i_ rfl E.g0) λa E=>ep (v := vP p 1) E rfl (aLn rfl E.g0) λa E=>ep (v:=rv) E rfl (aAR rfl E.g0 (bx h.hp 1 rfl)) λa E=>es_ E rfl (a_ rfl E.g0) λa E=>n_ (t_ (wr_ (aAs (t:=2) rfl E E.g0 ⟨rfl,hf⟩)))))))))))))))))
set_option maxRecDepth 100000 in
set_option maxHeartbeats 16000000 in
theorem aJG {p:Nat}{pk:Bool}(h:IxAt w p mb N S m rv pk)(hNb:N<=100000)(pt:Pt)(n:Int):Calls Tryz.prog 64 #[vP p 0,.agg (ptC pt),.int .i64 n] w (aYt w p mb N S m pt n):=by
 have h0:=h;refine aDg Tryz.func64 rfl rfl (n:=101) dE λa E=>?_;have hf:Fr nF_ w w:=Fr.refl _ _;have hpl:p<w.heap.size:=aAf h.hp;have hml:mb<w.heap.size:=h.hm.lt;refine s_ (r_ (aIF (d:=4) E rfl dE rfl (aAb rfl _) rfl E.g1 λa w1 aa ab hb41 f1 E=>?_));have h:=IxAt.fr h f1 id id (λ_ _ h=>h);have hf:=hf.trans f1;clear f1;refine ep (v := .slice none 0 0) E rfl (a_ rfl rfl) λa E=>n_ (t_ (s_ (s_ (r_ (ep E rfl (m_ rfl E.g2) λa E=>ep (v := .bool false) E rfl (aHj rfl E.g0 rfl) λa E=>ep E rfl (m_ rfl E.g0) λa E=>eg (v := vP aa 0) E rfl (wy_ E E.g0) (aBl rfl E.g4) λa E=>eg (v := .int .i64 pt.1) E rfl (wy_ E E.g1) (aAo rfl E.g0 (bx hb41 0 rfl)) λa E=>eg (v := vP aa 1) E rfl (wy_ E E.g2) (aAY rfl E.g6) λa E=>eg (v := .int .i64 pt.2) E rfl (wy_ E E.g3) (aAo rfl E.g0 (bx hb41 1 rfl)) λa E=>aOH (d:=20) E rfl dE rfl (wy_ E E.g4) rfl E.g2 E.g0 λa w1 ac hs4 f1 E=>?_)))));have h:=IxAt.fr h f1 id id (λ_ _ h=>h);have hb41:=f1.obj hb41 id;have hf:=hf.trans f1;clear f1;refine aD8 (d:=21) (v := .bool (List.all [pt.1,pt.2] λn9=>decide (isI n9))) E rfl dE rfl (wy_ E E.g5) (aBd (enters_of Tryz.func106 kR rfl) rfl rfl E.g0) (aIc hs4 sI) λa w1 f1 E=>?_;have h:=IxAt.fr h f1 id id (λ_ _ h=>h);have hb41:=f1.obj hb41 id;have hs4:=hs4.fr f1 (λ_ _ h=>h);have hf:=hf.trans f1;clear f1;refine eg (v := .bool (!(List.all [pt.1,pt.2] λn9=>decide (isI n9)))) E rfl (wy_ E E.g6) (aBM rfl E.g0) λa E=>ep (v := .bool (!(List.all [pt.1,pt.2] λn9=>decide (isI n9)))) E rfl (aAx rfl E.g7 E.g0) λa E=>ep E rfl (m_ rfl E.g0) λa E=>?_;cases hq43:(List.all [pt.1,pt.2] λn9=>decide (isI n9))
 ·rw[hq43] at E;refine ek E rfl rfl E.g0 λa E=>ek E rfl rfl E.g1 λa E=>ek E rfl rfl E.g2 λa E=>ep (v := .bool true) E rfl (aAL rfl E.g3 rfl) λa E=>n_ (t_ (c_t E.g0 (s_ (r_ (es_ (v := .slice none 0 0) E rfl (a_ rfl rfl) λa E=>n_ (t_ (wr_ (tr_ (aAs (t:=6) rfl E E.g0 ⟨_,[],w.heap.size,rfl,Gj_ _,aCZ _,by rw[if_neg (λh9=>by have:=aXR.trans (decide_eq_true h9);rw[hq43] at this;cases this)],S,rv,pk,h,hf.mono λ_ _ h=>h.elim,λk hk=>⟨.inl hk,h0.lt k hk⟩⟩)))))))))
 rw[hq43] at E;refine eg (v := vP p 0) E rfl (wy_ E E.g0) (m_ rfl (E.get 14 rfl)) λa E=>aB1 (d:=26) (R:=λu w8=>∃S2,IxAt w8 p mb N S2 m u true/\Fr (λk=>k=p) w1 w8/\∀k,S2 k->S k\/w1.heap.size<=k) E rfl dE rfl (wy_ E E.g1) (aBd (enters_of Tryz.func109 kR rfl) rfl rfl E.g0) ((aG6 h hNb).mono λe w8 ⟨S9,r9,h1,h2,h3,h4⟩=>⟨r9,h1,S9,h2,h3,h4⟩) λa w1 rv2 hR E=>?_;obtain⟨S2,h2,f2,hS2⟩:=hR;have hfs0:=hf.size;have hf2:=(hf.mono λ_ _ h=>h.elim).trans' f2 (λ_ _ e=>e);have hb41:=f2.obj hb41 (λe=>by omega);have hS2:∀k,S2 k->S k\/w.heap.size<=k:=λk hk=>by rcases hS2 k hk with h9|h9;exact .inl h9;exact .inr oM
 clear hs4 h hf f2;refine eg (v := .bool (aV4 rv2)) E rfl (wy_ E E.g2) (aNp h2.rp rfl E.g0 rfl) λa E=>ep (v := .bool (aV4 rv2)) E rfl (aAx rfl E.g3 E.g0) λa E=>n_ (t_ ?_);cases hq44:(aV4 rv2)
 rotate_left
 ·rw[hq44] at E
  have hnone:∀s,m s=none:=by
   rcases h2.tree rfl with⟨_,h9⟩|⟨hh,pr,br,L,h9,_⟩
   ·exact h9
   ·rw[h9] at hq44;cases hq44
  refine c_t E.g0 (s_ (r_ (es_ (v := .slice none 0 0) E rfl (a_ rfl rfl) λa E=>n_ (t_ (wr_ (tr_ ?_))))));have hptP:isP pt:=of_decide_eq_true (aXR.symm.trans hq43);exact aAs (t:=6) rfl E E.g0 ⟨_,[],w1.heap.size,rfl,by have:=hf2.size;omega,aCZ _,by rw[if_pos hptP];exact⟨[],⟨List.nodup_nil,λs b=>⟨λh=>(by cases h),λh=>by rw[hnone s] at h;cases h⟩⟩,by simp[aJn]⟩,S2,rv2,true,h2,hf2,λk hk=>⟨hS2 k hk,h2.lt k hk⟩⟩
 rw[hq44] at E;obtain⟨hh,pr,br,L,hrv,hNd,hE⟩:=(h2.tree rfl).resolve_left (λh9=>by rw[h9.1] at hq44;cases hq44);subst hrv;have hptP:isP pt:=of_decide_eq_true (aXR.symm.trans hq43);refine c_f E.g0 (k_ (t_ (s_ (r_ (ep (v := .agg #[.slice none 0 0,.func (.func 114) #[] #[]]) E rfl (aJy rfl rfl) λa E=>?_)))));have hbpl:=aAf hb41;have hpl2:=aAf h2.hp;have hml2:=h2.hm.lt;refine ep (v := vP w1.heap.size 0) E rfl (aN3 rfl E.g0) λa E=>?_;have f1:Fr nF_ w1 (w1.alloc (.cells #[.slice none 0 0,.func (.func 114) #[] #[]] 174)):=(Fr.refl _ _).alloc _;have hqb:quB (w1.alloc (.cells #[.slice none 0 0,.func (.func 114) #[] #[]] 174)) w1.heap.size (.slice none 0 0):=aAl _ _;obtain⟨q,hqe⟩:∃q,q=w1.heap.size:=⟨_,rfl⟩;obtain⟨wq,hwq⟩:∃wq,wq=w1.alloc (.cells #[.slice none 0 0,.func (.func 114) #[] #[]] 174):=⟨_,rfl⟩;rw[<-hqe] at E hqb hbpl hpl2 hml2;rw[<-hwq] at f1 hqb ⊢;have hf2:=hf2.trans' f1 (λ_ _ h=>h.elim);have hbp:=f1.obj hb41 id;have hNd:=hNd.fr f1 (λ_ _ h=>h);have hS2b:∀k,S2 k->k<q:=λk hk=>by have:=h2.lt k hk;omega
 have h2:=h2.fr f1 id id (λ_ _ h=>h);have hql:=aAf hqb;obtain⟨B,hBe⟩:∃B,B=wq.heap.size:=⟨_,rfl⟩;have hB0:w.heap.size<=q:=by have:=hf2.size;omega
 have hH:HAt wq q B (.slice none 0 0) S2 []:=⟨⟨hqb,aCZ _⟩,λz hz=>by cases hz⟩;have hS3:∀k,S2 k->k<B/\k≠q:=λk hk=>by have:=hS2b k hk;omega
 clear f1 hwq hqb hqe;refine ep E rfl (a_ rfl E.g0) λa E=>n_ (t_ (s_ ?_));obtain⟨x0,hx0⟩:∃x0:Wt,x0=⟨(pr,br,L),hh,dsB br pt⟩:=⟨_,rfl⟩;have hwx0:wtC x0=#[vP pr 0,.int .i64 (dsB br pt)]:=by rw[hx0]
 have hokb:=hNd.ok;refine aAt (G:=Unit) () (n:=101) (base:=[(7,vP q 0),(0,vP p 0),(4,vP aa 0),(2,.int .i64 n)]) (U:=[]) (T:=λZ=>[some (31,vP q 0),some (32,.iface 168 (vP q 0)),some (33,vP p 0),some (34,vP pr 0),some (35,vP p 0),some (36,vP pr 0),some (37,vP pr 0),some (38,vP pr 0),some (39,.agg (bxC br)),some (40,.agg (ptC pt)),some (41,.int .i64 (dsB br pt)),some (42,.agg (wtC x0)),some (43,.iface 170 (.agg (wtC x0))),some (44,.tuple #[])]) (M:=λZ ls9 wm=>Fr (λk=>k=q\/B<=k) wq wm/\(ls9 13=false->HAt wm q B (.slice none 0 0) S2 [])/\(ls9 13=true->∃v1 X1,X1.Perm ([]++[x0])/\Hp (fx X1) X1.length/\HAt wm q B v1 S2 X1)) kR kR (λ_=>by kernel_rfl) (E.of ⟨E.g0,E.get 21 rfl,E.get 20 rfl,E.get 23 rfl,trivial⟩) (λx hx=>by cases hx) ⟨(Fr.refl _ _).drew,λ_=>hH.fr (Fr.refl nF_ _).drew id (λ_ _ h=>h) (λ_ _ h=>h),λe=>absurd e Bool.false_ne_true⟩ ?_ ?_
 ·intro j9 o9 Z ls9 a w5 ho hl E D DL DL2 hB hM;obtain⟨m1,m2,m3⟩:=hM;have h5:=h2.fr m1 oM oM (λk hk e=>by have:=hS3 k hk;omega);have hbp5:=m1.obj hbp oM;have hNd5:=hNd.fr m1 (λk hk e=>by have:=hS3 k hk;omega);have hnb5:=hNd5.nb
  match j9,ho,hl,D,DL,hB with
  | 0,ho,hl,D,DL,hB=>exact z0_ ho (aAq rfl (m_ rfl E.g0) rfl ⟨m1,m2,m3⟩)
  | 1,ho,hl,D,DL,hB=>exact z0_ ho (aAq rfl (aFD rfl (D 0 _ rfl rfl)) rfl ⟨m1,m2,m3⟩)
  | 2,ho,hl,D,DL,hB=>exact z0_ ho (aAq rfl (m_ rfl E.g1) rfl ⟨m1,m2,m3⟩)
  | 3,ho,hl,D,DL,hB =>
   have n13:ls9 13=false:=by
    cases h8:ls9 13 with
    | false=>rfl
    | true=>exact absurd (hl.symm.trans (DL2 11 3 rfl (DL2 12 11 rfl (DL2 13 12 rfl h8)))) dE
   obtain rfl:=Gh_ ho;exact⟨λ_=>aHK rfl (aBd (enters_of Tryz.func109 kR rfl) rfl rfl (D 2 _ rfl rfl)) (aF5 h5) rfl λw9 f1=>⟨m1.trans' f1 (λ_ _ h=>h.elim),λh=>(m2 h).fr f1 id (λ_ _ h=>h) (λ_ _ h=>h),λh=>(by simp[n13] at h)⟩,λh=>by rw[aAb rfl] at h;cases h⟩
  | 4,ho,hl,D,DL,hB=>exact z0_ ho (aAq rfl (m_ rfl E.g1) rfl ⟨m1,m2,m3⟩)
  | 5,ho,hl,D,DL,hB =>
   have n13:ls9 13=false:=by
    cases h8:ls9 13 with
    | false=>rfl
    | true=>exact absurd (hl.symm.trans (DL2 6 5 rfl (DL2 7 6 rfl (DL2 8 7 rfl (DL2 10 8 rfl (DL2 11 10 rfl (DL2 12 11 rfl (DL2 13 12 rfl h8)))))))) dE
   obtain rfl:=Gh_ ho;exact⟨λ_=>aHK rfl (aBd (enters_of Tryz.func109 kR rfl) rfl rfl (D 4 _ rfl rfl)) (aF5 h5) rfl λw9 f1=>⟨m1.trans' f1 (λ_ _ h=>h.elim),λh=>(m2 h).fr f1 id (λ_ _ h=>h) (λ_ _ h=>h),λh=>(by simp[n13] at h)⟩,λh=>by rw[aAb rfl] at h;cases h⟩
  | 6,ho,hl,D,DL,hB=>exact z0_ ho (aAq rfl (i_ rfl (D 5 _ rfl rfl)) rfl ⟨m1,m2,m3⟩)
  | 7,ho,hl,D,DL,hB=>exact z0_ ho (aAq rfl (aBB rfl (D 6 _ rfl rfl)) rfl ⟨m1,m2,m3⟩)
  | 8,ho,hl,D,DL,hB=>exact z0_ ho (aAq rfl (aBm rfl (D 7 _ rfl rfl) hnb5) rfl ⟨m1,m2,m3⟩)
  | 9,ho,hl,D,DL,hB=>exact z0_ ho (aAq rfl (aKN rfl E.g2 (aV5 (p:=pt) hbp5 0 rfl rfl)) rfl ⟨m1,m2,m3⟩)
  | 10,ho,hl,D,DL,hB =>
   have n13:ls9 13=false:=by
    cases h8:ls9 13 with
    | false=>rfl
    | true=>exact absurd (hl.symm.trans (DL2 11 10 rfl (DL2 12 11 rfl (DL2 13 12 rfl h8)))) dE
   obtain rfl:=Gh_ ho;exact⟨λ_=>aHK rfl (aAB (enters_of Tryz.func116 kR rfl) rfl rfl (D 8 _ rfl rfl) (D 9 _ rfl rfl)) (aFP br pt _ hokb hptP) rfl λw9 f1=>⟨m1.trans' f1 (λ_ _ h=>h.elim),λh=>(m2 h).fr f1 id (λ_ _ h=>h) (λ_ _ h=>h),λh=>(by simp[n13] at h)⟩,λh=>by rw[aAb rfl] at h;cases h⟩
  | 11,ho,hl,D,DL,hB=>exact z0_ ho (aAq rfl ((aFI rfl (D 3 _ rfl rfl) (D 10 _ rfl rfl)).trans (by rw[hwx0])) rfl ⟨m1,m2,m3⟩)
  | 12,ho,hl,D,DL,hB=>exact z0_ ho (aAq rfl (aFC rfl (D 11 _ rfl rfl)) rfl ⟨m1,m2,m3⟩)
  | 13,ho,hl,D,DL,hB =>
   have hH5:=m2 hl;have hXr:aMI w5 S2 x0:=by rw[hx0];exact hNd5
   have hz5:=m1.size;obtain rfl:=Gh_ ho;refine⟨λ_=>aHK rfl (aAB (enters_of Tryz.func115 kR rfl) rfl rfl (D 1 _ rfl rfl) (D 12 _ rfl rfl)) ((aEZ hH5 hS3 oM (λk h1 h2=>absurd h2 sI) oM sI hXr).mono λe9 w9 hh=>⟨hh.1,hh.2⟩) rfl λw9 f9=>?_,λh=>by rw[aAb rfl] at h;cases h⟩;obtain⟨v1,X1,hp1,hh1,hH1,f1⟩:=f9;exact⟨m1.trans' f1 (λr hr e=>by rcases e with e|e;exact .inl e;cases e),λh=>(by simp at h),λ_=>⟨v1,X1,hp1,hh1,hH1⟩⟩
  | j9+14,ho,hl,D,DL,hB=>exact absurd ho sI
 ·rintro _ a w4 E V hM;clear V;obtain⟨f4,_,m3⟩:=hM;obtain⟨v1,X1,hp1,hh1,hH1⟩:=m3 rfl;clear hH m3;refine t_ (s_ (r_ (ep (v := .slice none 0 0) E rfl (a_ rfl rfl) λa E=>n_ (t_ (s_ (bk_ ?_))))))
  have hNr0:Ner pt L [] X1 []:=by
   have hq9:Ner pt L [] [] (x0.c.2.2++[]):=⟨by rw[hx0];simp,List.Pairwise.nil,(λd hd=>by cases hd),(λy hy=>by cases hy)⟩;exact hq9.push hp1 (by rw[hx0])
  have hlL:=hE.len h2.hm;refine wp_loop_ghost (λk9 a w2=>∃(D:List En)(X:List Wt)(v:Value)(p8:Option Addr)(c8:Nat),k9=aG5 X/\Env 101 [(8,.slice (p8) (D.map (·.1)).length c8),(7,vP q 0),(4,vP aa 0),(2,.int .i64 n),(0,vP p 0)] a/\HAt w2 q B v S2 X/\Hp (fx X) X.length/\Ner pt L D X []/\aEg w2 B (.slice p8 (D.map (·.1)).length c8) (D.map (·.1))/\D.length<=n.toNat/\Fr (λk=>k=q\/B<=k) wq w2) (aG5 X1) ?_ ?_
  ·exact⟨[],X1,v1,none,0,rfl,E.of ⟨E.g0,E.g1,E.g3,E.g4,E.g2,trivial⟩,hH1,hh1,hNr0,aCZ _,Gg_ _,f4⟩
  clear E hp1 hh1 hH1 hNr0 f4;rintro k9 a w2 ⟨D,X,v,p8,c8,hk9,E,hH,hh,hNr,hO,hDn,hFq⟩;have hok:∀y∈X,Wok y:=λy hy=>Wok.of (hH.2 y hy);have hlen9:=hNr.len hok;have hbp5:=hFq.obj hbp oM;refine s_ (s_ (r_ (ep E rfl (m_ rfl E.g0) λa E=>ep (v := .int .i64 ((D.map (·.1)).length:Int)) E rfl (aNx rfl E.g0) λa E=>ep E rfl (m_ rfl E.g5) λa E=>ep (v := .bool (decide (((D.map (·.1)).length:Int)<n))) E rfl (aBn E.g1 E.g0 u3_ rfl) λa E=>ep E rfl (m_ rfl E.g0) λa E=>?_)));cases hq45:(decide (((D.map (·.1)).length:Int)<n))
  ·rw[hq45] at E;refine ek E rfl rfl E.g0 λa E=>ek E rfl rfl E.g1 λa E=>ek E rfl rfl E.g2 λa E=>ep (v := .bool false) E rfl (aAx rfl E.g3 rfl) λa E=>n_ (t_ (c_f E.g0 (x_ (te_ (te_ (be_ (t_ (s_ (r_ (ep E rfl (m_ rfl E.g9) λa E=>ep E rfl (a_ rfl E.g0) λa E=>n_ (t_ (wr_ ?_))))))))))));have h9:=h2.fr hFq oM oM (λk hk e=>by have:=hS3 k hk;omega);have hf9:=hf2.trans' hFq (λr hr e=>by omega);exact aAs (t:=6) rfl E E.g0 ⟨_,_,B,rfl,by omega,hO,by rw[if_pos hptP];exact⟨L,hE,by rw[hNr.take hE.1 (.inl (by have:=of_decide_eq_false hq45;simp at this;omega))]⟩,S2,_,true,h9,hf9,λk hk=>⟨hS2 k hk,(hS3 k hk).1⟩⟩
  rw[hq45] at E;refine eg E rfl (wy_ E E.g0) (m_ rfl E.g6) λa E=>?_;obtain⟨pw,cw,hvw,_⟩:=hH.1.2.src aCc;have hq6:=hH.1.1;rw[hvw] at hq6;refine aD8 (d:=51) (v := .int .i64 (X.length:Int)) E rfl dE rfl (wy_ E E.g1) (aBd (enters_of Tryz.func117 kR rfl) rfl rfl E.g0) (aDO hq6) λa w3 f1 E=>?_;have hH:=hH.fr f1 id (λ_ _ h=>h) (λ_ _ h=>h);have hO:=hO.fr f1 (λ_ _ h=>h);have hFq:=hFq.trans' f1 (λ_ _ h=>h.elim);clear f1 hq6 hvw;refine eg (v := .bool (decide (0<(X.length:Int)))) E rfl (wy_ E E.g2) (aCk E.g0 rfl u3_ rfl) λa E=>ep (v := .bool (decide (0<(X.length:Int)))) E rfl (aAL rfl E.g3 E.g0) λa E=>n_ (t_ ?_);cases hq46:(decide (0<(X.length:Int)))
  ·rw[hq46] at E;refine c_f E.g0 (x_ (te_ (te_ (be_ (t_ (s_ (r_ (ep E rfl (m_ rfl E.g9) λa E=>ep E rfl (a_ rfl E.g0) λa E=>n_ (t_ (wr_ ?_))))))))));have h9:=h2.fr hFq oM oM (λk hk e=>by have:=hS3 k hk;omega);have hf9:=hf2.trans' hFq (λr hr e=>by omega);exact aAs (t:=6) rfl E E.g0 ⟨_,_,B,rfl,by omega,hO,by rw[if_pos hptP];exact⟨L,hE,by rw[hNr.take hE.1 (.inr ⟨hDn,List.eq_nil_of_length_eq_zero (by have:=of_decide_eq_false hq46;omega),rfl⟩)]⟩,S2,_,true,h9,hf9,λk hk=>⟨hS2 k hk,(hS3 k hk).1⟩⟩
  rw[hq46] at E;refine c_t E.g0 (k_ (t_ (bk_ (s_ (r_ (ep E rfl (m_ rfl E.g10) λa E=>ep (v := .iface 168 (vP q 0)) E rfl (aFD rfl E.g0) λa E=>?_))))));have hXne:X≠[]:=by rintro rfl;have:=of_decide_eq_true hq46;simp at this
  have hBw3:=hFq.size;refine aB1 (d:=57) (R:=λu w8=>aUF w3 q B v S2 X (.returned u) w8) E rfl dE rfl (aAb rfl _) (aBd (enters_of Tryz.func118 kR rfl) rfl rfl E.g0) ((aJP hH hS3 oM hh oM oM hXne).mono λe w8 hh=>by obtain⟨x,v2,Y,h1,h2⟩:=hh;exact⟨_,h1,x,v2,Y,rfl,h2⟩) λa w4 u9 hR E=>?_;obtain⟨x,v2,Y,hux,hpY,hmY,hhY,hH2,f1⟩:=hR;obtain rfl:u9=.iface 170 (.agg (wtC x)):=by injection hux
  have hxm:x∈X:=hpY.mem_iff.1 sI;have hrn:=aJ5 hO hH.1.2;have hon:=aNK hO hH.1.1;have hXx:aMI w4 S2 x:=(hH.2 x hxm).fr f1 (λk hk e=>by have:=hS3 k hk;rcases e with e|e;omega;have:=(hH.1.2.lt e).1;omega);have hO2:=hO.fr f1 (λk hk e=>by rcases e with e|e;(rw[e] at hk;exact hon hk);exact hrn k hk e);have hFq:=hFq.trans' f1 (λr hr e=>by rcases e with e|e;exact .inl e;exact .inr (hH.1.2.lt e).1);have hok9:∀y∈X,Wok y:=hok;have hxen:x.h=0->x.c.2.2=[(x.id,x.c.2.1)]:=(hok x hxm).2.1;have hBw4:=hFq.size;have hv2b:∀k,v2.ownBlock=some k->k<w4.heap.size:=λk hk=>(hH2.1.2.lt hk).2;have hovb:=λk hk=>(hO2.lt (k:=k) hk).2;have hqw4:=aAf hH2.1.1;clear hH f1 hux;refine ep (v := .tuple #[.agg (wtC x),.bool true]) E rfl (aKH rfl E.g0) λa E=>ep E rfl (m_ rfl E.g0) λa E=>ep (v := .agg (wtC x)) E rfl (aFq rfl E.g0) λa E=>ep (v := .bool true) E rfl (aFp rfl E.g1) λa E=>aGg (d:=9) E rfl dE rfl (aAb rfl _) rfl λa w5 b9 eb9 hb9 f1 E=>?_;have hH2:=hH2.fr f1 id (λ_ _ h=>h) (λ_ _ h=>h);have hO2:=hO2.fr f1 (λ_ _ h=>h);have hFq:=hFq.trans' f1 (λ_ _ h=>h.elim);have hXx:=hXx.fr f1 (λ_ _ h=>h);have hb9n:q≠b9/\(∀k,v2.ownBlock=some k->k≠b9)/\∀k,(Value.slice p8 (D.map (·.1)).length c8).ownBlock=some k->k≠b9:=⟨by omega,λk hk e=>by have:=hv2b k hk;omega,λk hk e=>by have:=hovb k hk;omega⟩;have hFz:=hFq.size
  skip
  refine aLr E rfl (aAb rfl _) rfl E.g0 E.g2 hb9 λw6 hb9 f1 E=>?_;have hH2:=hH2.fr f1 hb9n.1 (λk hk e=>hb9n.2.1 k hk e) (λk hk e=>by have:=(hS3 k hk).1;omega);have hO2:=hO2.fr f1 (λk hk e=>hb9n.2.2 k hk e);have hFq:=hFq.trans' f1 (λr hr e=>by omega);have hXx:=hXx.fr f1 (λk hk e=>by have:=(hS3 k hk).1;omega);clear f1;refine ep E rfl (a_ rfl E.g1) λa E=>n_ (t_ (s_ (s_ (r_ (ep E rfl (m_ rfl E.g0) λa E=>ep (v := .bool false) E rfl (aBM rfl E.g0) λa E=>n_ (t_ (c_f E.g0 (k_ (t_ (s_ (s_ ?_)))))))))));obtain⟨hx4,px,nx,cx,hx5,hp0,hp1x⟩:=aMI.cells (x:=x) hXx
  have hxp:px.isNone=(x.h==0):=by
   by_cases h0:x.h=0
   ·rw[(hp0 h0).1,h0];rfl
   ·obtain⟨a9,rfl⟩:=hp1x h0;exact(beq_eq_false_iff_ne.2 h0).symm
  refine r_ (ep (v := vP b9 0) E rfl (aEo rfl E.g3) λa E=>ep (v := vP x.c.1 0) E rfl (aAR rfl E.g0 (bx hb9 0 rfl)) λa E=>ep E rfl (i_ rfl E.g0) λa E=>ep (v := vP x.c.1 5) E rfl (aDJ rfl E.g0) λa E=>ep (v := .slice (px) nx cx) E rfl (aBa rfl E.g0 hx5) λa E=>ep (v := .bool (x.h==0)) E rfl (aFB hxp rfl E.g0 rfl) λa E=>n_ (t_ ?_));cases hq47:(x.h==0)
  rotate_left
  ·rw[hq47] at E;have hx0:x.h=0:=beq_iff_eq.1 hq47;obtain⟨rfl,rfl,rfl⟩:=hp0 hx0;refine c_t E.g0 (r_ (ep (v := .slice (p8) (D.map (·.1)).length c8) E rfl (m_ rfl (E.get 26 rfl)) λa E=>ep (v := vP b9 0) E rfl (aEo rfl E.g10) λa E=>ep (v := vP x.c.1 0) E rfl (aAR rfl E.g0 (bx hb9 0 rfl)) λa E=>ep E rfl (i_ rfl E.g0) λa E=>ep (v := vP x.c.1 4) E rfl (aLm rfl E.g0) λa E=>ep (v := .string x.id) E rfl (aHk rfl E.g0 hx4) λa E=>aOI (B:=0) (d:=75) E rfl dE rfl (aAb rfl _) rfl E.g0 (Gg_ _) λa w7 b7 eb7 hO7 f1 E=>?_));have hs7:=aNH aBF hO7;have hH2:=hH2.fr f1 id (λ_ _ h=>h) (λ_ _ h=>h);have hO2:=hO2.fr f1 (λ_ _ h=>h);have hFq:=hFq.trans' f1 (λ_ _ h=>h.elim);have hXx:=hXx.fr f1 (λ_ _ h=>h);have hb9:=f1.obj hb9 id;have hBw7:=hFq.size;clear f1 hO7;refine aOK (d:=76) E rfl dE rfl rfl rfl E.g6 hO2 E.g0 hs7.1 hs7.2 (by simp;omega) oM λa w8 ov2 hO8 f1 hlo E=>?_;have hrn:=aJ5 hO2 hH2.1.2;have hon:=aNK hO2 hH2.1.1;have hH2:=hH2.fr f1 hon (λk hk e=>hrn k e hk) (λk hk e=>by have:=(hO2.lt e).1;have:=(hS3 k hk).1;omega);have hFq:=hFq.trans' f1 (λr hr e=>by have:=(hO2.lt e).1;omega);have hXx:=hXx.fr f1 (λk hk e=>by have:=(hO2.lt e).1;have:=(hS3 k hk).1;omega);have hb9q:wtB w8 b9 x:=f1.obj hb9 (λe=>hb9n.2.2 b9 e rfl);have hb9:=hb9q;have hx4:=(aMI.cells (x:=x) hXx).1;obtain⟨p8,c8,hvv8,_⟩:=hO8.src aBF;subst hvv8;refine es_ E rfl (a_ rfl E.g0) λa E=>n_ (t_ (s_ ?_));have hxen:=hxen hx0;obtain⟨_,p5,n5,c5,hx5q,hp5,_⟩:=aMI.cells (x:=x) hXx;obtain⟨rfl,rfl,rfl⟩:=hp5 hx0;have hx5:=hx5q;have hNl:=hNr.leaf hE.1 hpY hmY hok hx0;refine r_ (ep (v := vP b9 0) E rfl (aEo rfl (E.get 18 rfl)) λa E=>ep (v := vP x.c.1 0) E rfl (aAR rfl E.g0 (bx hb9 0 rfl)) λa E=>ep E rfl (i_ rfl E.g0) λa E=>ep (v := vP x.c.1 5) E rfl (aDJ rfl E.g0) λa E=>ep (v := .slice none 0 0) E rfl (aBa rfl E.g0 hx5) λa E=>ep (v := .int .i64 0) E rfl (aBz rfl E.g0) λa E=>ep (v := .int .i64 0) E rfl (m_ rfl rfl) λa E=>n_ (t_ (bk_ (wp_loop (λa w2=>Env 101 [(83,.int .i64 0),(82,.int .i64 0),(81,.slice none 0 0),(8,.slice (p8) (D.map (·.1)++[x.id]).length c8),(7,vP q 0),(4,vP aa 0),(2,.int .i64 n),(0,vP p 0)] a/\w2=w8) (λa _=>(intOf (a.eval (.tmp 83))).toNat) ?_ ?_))))
   ·exact⟨E.of ⟨E.g0,E.g1,E.g2,E.g7,E.get 42 rfl,E.get 43 rfl,E.get 44 rfl,E.get 45 rfl,trivial⟩,rfl⟩
   clear E;rintro a w2 ⟨E,hw2⟩;have hmu:(intOf (a.eval (.tmp 83))).toNat=0:=by rw[E.g0];first|rfl|(simp[intOf];done)|(simp only[intOf];omega)
   rw[hmu];clear hmu;subst hw2;refine s_ (r_ (ep (v := .bool false) E rfl (aBn (m:=0) (n:=0) E.g0 E.g1 u3_ rfl) λa E=>n_ (t_ (s_ (c_f E.g0 (x_ (te_ (te_ (be_ (b_ (t_ ?_)))))))))));have e9:(D++[(x.id,x.c.2.1)]).map (·.1)=D.map (·.1)++[x.id]:=by simp
   exact⟨aG5 Y,by rw[hk9,<-aGX hpY,aGY,hxen,hx0];simp,D++[(x.id,x.c.2.1)],Y,v2,p8,c8,rfl,by rw[e9];exact E.of ⟨E.g4,E.g5,E.g6,E.g7,E.g8,trivial⟩,hH2,hhY,hNl,by rw[e9];exact hO8,by have:=of_decide_eq_true hq45;simp at this;simp;omega,hFq⟩
  rw[hq47] at E;obtain⟨hn,hxh⟩:∃hn,x.h=hn+1:=⟨x.h-1,by have:=beq_eq_false_iff_ne.1 hq47;omega⟩;have hXn:=hXx
  skip
  rw[hxh] at hXn;obtain⟨hSp9,g,off,cap,Cc,hpc9,hSg9,hCne,hC8,hCc,hLx,hin9⟩:=hXn;have hLx:x.c.2.2=aCC Cc:=hLx;have hx5c:w6.cell? ⟨x.c.1,5,none⟩=some (.slice (some ⟨g,off,none⟩) Cc.length cap):=by rw[aAj hpc9];rfl
  rw[hx5] at hx5c;have hx5d:=Gh_ hx5c;simp only[Value.slice.injEq] at hx5d;obtain⟨rfl,rfl,rfl⟩:=hx5d;refine c_f E.g0 (k_ (t_ (s_ ?_)));have hNy:=hNr.inner hpY;refine r_ (ep (v := vP b9 0) E rfl (aEo rfl E.g9) λa E=>ep (v := vP x.c.1 0) E rfl (aAR rfl E.g0 (bx hb9 0 rfl)) λa E=>ep E rfl (i_ rfl E.g0) λa E=>ep (v := vP x.c.1 5) E rfl (aDJ rfl E.g0) λa E=>ep (v := .slice (some ⟨g,off,none⟩) Cc.length cx) E rfl (aBa rfl E.g0 hx5) λa E=>ep (v := .int .i64 (Cc.length:Int)) E rfl (aBz rfl E.g0) λa E=>ep (v := .int .i64 0) E rfl (m_ rfl rfl) λa E=>n_ (t_ (bk_ (wp_loop (λa w2=>∃(i:Nat)(Xi:List Wt)(vi:Value),Env 101 [(83,.int .i64 (i:Int)),(82,.int .i64 (Cc.length:Int)),(81,.slice (some ⟨g,off,none⟩) Cc.length cx),(8,.slice (p8) (D.map (·.1)).length c8),(7,vP q 0),(4,vP aa 0),(2,.int .i64 n),(0,vP p 0)] a/\i<=Cc.length/\HAt w2 q B vi S2 Xi/\Hp (fx Xi) Xi.length/\Ner pt L D Xi (aCC (Cc.drop i))/\aG5 Xi+(hn+1)*(aCC (Cc.drop i)).length=aG5 Y+(hn+1)*(aCC Cc).length/\aEg w2 B (.slice p8 (D.map (·.1)).length c8) (D.map (·.1))/\Fr (λk=>k=q\/B<=k) wq w2/\Fr (λk=>k=q\/B<=k) w6 w2) (λa _=>Cc.length-(intOf (a.eval (.tmp 83))).toNat) ?_ ?_))))
  ·exact⟨0,Y,v2,E.of ⟨E.g0,E.g1,E.g2,E.get 33 rfl,E.get 34 rfl,E.get 35 rfl,E.get 36 rfl,E.get 37 rfl,trivial⟩,Gg_ _,hH2,hhY,by rw[List.drop_zero];rw[<-hLx];exact hNy,by rw[List.drop_zero],hO2,hFq,Fr.refl _ _⟩
  clear E;rintro a w2 ⟨i,Xi,vi,E,hi,hHi,hhi,hNi,hwi,hOi,hFi,hF9⟩;have hmu:Cc.length-(intOf (a.eval (.tmp 83))).toNat=Cc.length-i:=by rw[E.g0];first|rfl|(simp[intOf];done)|(simp only[intOf];omega)
  rw[hmu];clear hmu;refine s_ (r_ (ep (v := .bool (decide ((i:Int)<(Cc.length:Int)))) E rfl (aBn E.g0 E.g1 u3_ rfl) λa E=>n_ (t_ (s_ ?_))));cases hq49:(decide ((i:Int)<(Cc.length:Int)))
  ·rw[hq49] at E;have hie:i=Cc.length:=by have:=of_decide_eq_false hq49;omega
   refine c_f E.g0 (x_ (te_ (te_ (be_ (b_ (t_ ?_))))));rw[hie,List.drop_length] at hNi hwi;have hwi:aG5 Xi=aG5 Y+(hn+1)*(aCC Cc).length:=by rw[<-hwi];rfl
   exact⟨aG5 Xi,by rw[hk9,<-aGX hpY,aGY,hwi,hxh,hLx];have:=List.length_pos_iff.2 (show aCC Cc≠[] by rw[<-hLx];exact(hok x hxm).2.2);have e9:(hn+1+1)*(aCC Cc).length=(hn+1)*(aCC Cc).length+(aCC Cc).length:=(by rw[Nat.add_mul (hn+1) 1,Nat.one_mul]);omega,D,Xi,vi,p8,c8,rfl,E.of ⟨E.g4,E.g5,E.g6,E.g7,E.g8,trivial⟩,hHi,hhi,hNi,hOi,hDn,hFi⟩
  rw[hq49] at E;have hi9:i<Cc.length:=by have:=of_decide_eq_true hq49;omega
  obtain⟨c,hc⟩:∃c,Cc[i]?=some c:=⟨_,Gb_ hi9⟩;have hcc:=hF9.cell (hCc i c hc).1 (λ(e:g=q\/B<=g)=>by have:=hS3 g hSg9;rcases e with e|e;omega;omega);have hcN:aHV w2 S2 hn c.1 c.2.1 c.2.2:=(hCc i c hc).2.fr hF9 (λk hk e=>by have:=hS3 k hk;rcases e with e|e;omega;omega);refine c_t E.g0 (k_ (t_ (s_ (bk_ (s_ (r_ (ep (v := vP g (off+i)) E rfl (aCv (i:=i) rfl E.g3 E.g1 hi9) λa E=>ep (v := vP c.1 0) E rfl (aAR rfl E.g0 hcc) λa E=>ep E rfl (a_ rfl E.g0) λa E=>n_ (t_ ?_))))))));obtain⟨xc,hxc⟩:∃xc:Wt,xc=⟨c,hn,dsB c.2.1 pt⟩:=⟨_,rfl⟩;have hwxc:wtC xc=#[vP c.1 0,.int .i64 (dsB c.2.1 pt)]:=by rw[hxc]
  have hokc:=hcN.ok;have hlni:=hNi.len (λy hy=>Wok.of (hHi.2 y hy));have hbpi:=hFi.obj hbp oM;have hBwi:=hFi.size;refine aAt (G:=Unit) () (n:=101) (base:=[(7,vP q 0),(12,vP c.1 0),(4,vP aa 0),(83,.int .i64 (i:Int)),(82,.int .i64 (Cc.length:Int)),(81,.slice (some ⟨g,off,none⟩) Cc.length cx),(8,.slice (p8) (D.map (·.1)).length c8),(2,.int .i64 n),(0,vP p 0)]) (U:=[]) (T:=λZ=>[some (87,vP q 0),some (88,.iface 168 (vP q 0)),some (89,vP c.1 0),some (90,vP c.1 0),some (91,vP c.1 0),some (92,vP c.1 0),some (93,.agg (bxC c.2.1)),some (94,.agg (ptC pt)),some (95,.int .i64 (dsB c.2.1 pt)),some (96,.agg (wtC xc)),some (97,.iface 170 (.agg (wtC xc))),some (98,.tuple #[])]) (M:=λZ ls9 wm=>Fr (λk=>k=q\/B<=k) w2 wm/\(ls9 11=false->HAt wm q B vi S2 Xi/\aEg wm B (.slice p8 (D.map (·.1)).length c8) (D.map (·.1)))/\(ls9 11=true->∃v1 X1,X1.Perm (Xi++[xc])/\Hp (fx X1) X1.length/\HAt wm q B v1 S2 X1/\aEg wm B (.slice p8 (D.map (·.1)).length c8) (D.map (·.1)))) kR kR (λ_=>by kernel_rfl) (E.of ⟨E.g8,E.g0,E.g9,E.g4,E.g5,E.g6,E.g7,E.g10,E.g11,trivial⟩) (λx hx=>by cases hx) ⟨(Fr.refl _ _).drew,λ_=>⟨hHi.fr (Fr.refl nF_ _).drew id (λ_ _ h=>h) (λ_ _ h=>h),hOi.fr (Fr.refl nF_ _).drew (λ_ _ h=>h)⟩,λe=>absurd e Bool.false_ne_true⟩ ?_ ?_
  ·intro j9 o9 Z ls9 a w5 ho hl E D DL DL2 hB hM;obtain⟨m1,m2,m3⟩:=hM;have hbp7:=m1.obj hbpi oM;have hcN5:=hcN.fr m1 (λk hk e=>by have:=hS3 k hk;omega);have hnb5:=hcN5.nb
   match j9,ho,hl,D,DL,hB with
   | 0,ho,hl,D,DL,hB=>exact z0_ ho (aAq rfl (m_ rfl E.g0) rfl ⟨m1,m2,m3⟩)
   | 1,ho,hl,D,DL,hB=>exact z0_ ho (aAq rfl (aFD rfl (D 0 _ rfl rfl)) rfl ⟨m1,m2,m3⟩)
   | 2,ho,hl,D,DL,hB=>exact z0_ ho (aAq rfl (m_ rfl E.g1) rfl ⟨m1,m2,m3⟩)
   | 3,ho,hl,D,DL,hB=>exact z0_ ho (aAq rfl (m_ rfl E.g1) rfl ⟨m1,m2,m3⟩)
   | 4,ho,hl,D,DL,hB=>exact z0_ ho (aAq rfl (i_ rfl (D 3 _ rfl rfl)) rfl ⟨m1,m2,m3⟩)
   | 5,ho,hl,D,DL,hB=>exact z0_ ho (aAq rfl (aBB rfl (D 4 _ rfl rfl)) rfl ⟨m1,m2,m3⟩)
   | 6,ho,hl,D,DL,hB=>exact z0_ ho (aAq rfl (aBm rfl (D 5 _ rfl rfl) hnb5) rfl ⟨m1,m2,m3⟩)
   | 7,ho,hl,D,DL,hB=>exact z0_ ho (aAq rfl (aKN rfl E.g2 (aV5 (p:=pt) hbp7 0 rfl rfl)) rfl ⟨m1,m2,m3⟩)
   | 8,ho,hl,D,DL,hB =>
    have n11:ls9 11=false:=by
     cases h8:ls9 11 with
     | false=>rfl
     | true=>exact absurd (hl.symm.trans (DL2 9 8 rfl (DL2 10 9 rfl (DL2 11 10 rfl h8)))) dE
    obtain rfl:=Gh_ ho;exact⟨λ_=>aHK rfl (aAB (enters_of Tryz.func116 kR rfl) rfl rfl (D 6 _ rfl rfl) (D 7 _ rfl rfl)) (aFP c.2.1 pt _ hokc hptP) rfl λw9 f1=>⟨m1.trans' f1 (λ_ _ h=>h.elim),λh=>⟨(m2 h).1.fr f1 id (λ_ _ h=>h) (λ_ _ h=>h),(m2 h).2.fr f1 (λ_ _ h=>h)⟩,λh=>(by simp[n11] at h)⟩,λh=>by rw[aAb rfl] at h;cases h⟩
   | 9,ho,hl,D,DL,hB=>exact z0_ ho (aAq rfl ((aFI rfl (D 2 _ rfl rfl) (D 8 _ rfl rfl)).trans (by rw[hwxc])) rfl ⟨m1,m2,m3⟩)
   | 10,ho,hl,D,DL,hB=>exact z0_ ho (aAq rfl (aFC rfl (D 9 _ rfl rfl)) rfl ⟨m1,m2,m3⟩)
   | 11,ho,hl,D,DL,hB =>
    obtain⟨hH5,hO5⟩:=m2 hl;have hXr:aMI w5 S2 xc:=by rw[hxc];exact hcN5
    have hz5:=m1.size;have hrn:=aJ5 hO5 hH5.1.2;have hon:=aNK hO5 hH5.1.1;obtain rfl:=Gh_ ho;refine⟨λ_=>aHK rfl (aAB (enters_of Tryz.func115 kR rfl) rfl rfl (D 1 _ rfl rfl) (D 10 _ rfl rfl)) ((aEZ hH5 hS3 oM hhi oM oM hXr).mono λe9 w9 hh=>⟨hh.1,hh.2⟩) rfl λw9 f9=>?_,λh=>by rw[aAb rfl] at h;cases h⟩;obtain⟨v1,X1,hp1,hh1,hH1,f1⟩:=f9;exact⟨m1.trans' f1 (λr hr e=>by rcases e with e|e;exact .inl e;exact .inr (hH5.1.2.lt e).1),λh=>(by simp at h),λ_=>⟨v1,X1,hp1,hh1,hH1,hO5.fr f1 (λk hk e=>by rcases e with e|e;(rw[e] at hk;exact hon hk);exact hrn k hk e)⟩⟩
   | j9+12,ho,hl,D,DL,hB=>exact absurd ho sI
  ·rintro _ a w9 E V hM;clear V;obtain⟨f14,_,m3⟩:=hM;obtain⟨vj,Xj,hpj,hhj,hHj,hOj⟩:=m3 rfl;have hFj:=hFi.trans' f14 (λ_ _ e=>e);have hF9j:=hF9.trans' f14 (λ_ _ e=>e)
   have hdr:aCC (Cc.drop i)=xc.c.2.2++aCC (Cc.drop (i+1)):=by
    rw[List.drop_eq_getElem_cons hi9,(List.getElem?_eq_some_iff.1 hc).2,hxc];rfl
   have hNj:Ner pt L D Xj (aCC (Cc.drop (i+1))):=Ner.push (by rw[<-hdr];exact hNi) hpj (by rw[hxc])
   have hwj:aG5 Xj+(hn+1)*(aCC (Cc.drop (i+1))).length=aG5 Y+(hn+1)*(aCC Cc).length:=by
    rw[<-hwi,aGX hpj,aSK,aGY,hdr,Gi_,Nat.mul_add,hxc];simp only[aG5,List.map_nil,List.sum_nil];omega
   clear m3;refine b_ (t_ (r_ (ep (v := .int .i64 ((i:Int)+1)) E rfl (aAQ u3_ E.g3 rfl oM oM rfl) λa E=>es_ E rfl (m_ rfl E.g0) λa E=>n_ (t_ ?_))));refine⟨⟨i+1,Xj,vj,E.of ⟨E.g0,E.g5,E.g6,E.g7,E.g2,E.g4,E.g8,E.g9,trivial⟩,by omega,hHj,hhj,hNj,hwj,hOj,hFj,hF9j⟩,?_⟩;rw[E.g0];simp only[intOf];omega
def mO (m:Bys->Option (Pt×Pt)):ByteArray->Option Bx:=λs=>m s.toList
theorem aYc (m:Bys->Option (Pt×Pt)):bxF m=bxM (mO m):=by funext v;cases v<;>rfl
def ixO (p mb N:Nat)(m:Bys->Option (Pt×Pt))(S:Nat->Prop):Ent where
 B k:=k=p\/k=mb\/S k
 H w:=∃rv pk,IxAt w p mb N S (mO m) rv pk
 lt:=λ{w k} ⟨rv,pk,h⟩ hk=>by
  rcases hk with rfl|rfl|hk
  ·exact aAf h.hp
  ·exact h.hm.lt
  ·exact h.lt k hk
 fr:=λ{w w' G} ⟨rv,pk,h⟩ f hn=>⟨rv,pk,h.fr f (hn _ (.inl rfl)) (hn _ (.inr (.inl rfl))) λk hk=>hn k (.inr (.inr hk))⟩
theorem aTH (m:Bys->Option (Pt×Pt))(s:Bys):mO m (ofL s)=m s:=by
 show m (ofL s).toList=m s;rw[aAF]
variable{m:Bys->Option (Pt×Pt)}{F0:Nat->Prop}
theorem aVY {w0:World}{A:List Ent}{p:Nat}(h:Mm F0 w0 w (A++[ixG p mb (.pointer none) false N m]))(ok:∀s b,m s=some b->okB b):Mm F0 w0 w (A++[ixO p mb N m λ_=>False]):=by
 have h1:(ixG p mb (.pointer none) false N m).H w:=h.at_ _ (List.mem_append_right _ (.head _));have hb:(bk p #[.map (some mb),.pointer none,vB false] 182).H w:=h1.1 _ (.head _);have hm:(mp Tryz.prog 9 mb N (bxF m)).H w:=h1.1 _ (.tail _ (.head _));have hne:p≠mb:=λe=>(List.pairwise_cons.1 h1.2).1 _ (.head _) p rfl e;have hx:(ixO p mb N m λ_=>False).H w:=⟨.pointer none,false,⟨hb,by rw[<-aYc];exact hm,hne,id,id,λ_ h=>h.elim,λs b hs=>by obtain⟨l,rfl⟩:=aEI s;rw[aTH] at hs;exact ok l b hs,⟨none,rfl⟩,λh=>by cases h⟩⟩
 have hB:∀k,(ixO p mb N m λ_=>False).B k->(ixG p mb (.pointer none) false N m).B k:=λk hk=>by
  rcases hk with rfl|rfl|hk
  ·exact⟨_,.head _,rfl⟩
  ·exact⟨_,.tail _ (.head _),rfl⟩
  ·exact hk.elim
 obtain⟨n1,n2,n3⟩:=List.pairwise_append.1 h.nd;refine⟨h.fr,λx hx'=>?_,λx hx' k hk hl=>?_,List.pairwise_append.2 ⟨n1,List.pairwise_singleton _ _,λx hx' y hy k hk hk'=>?_⟩⟩
 ·rcases List.mem_append.1 hx' with hx'|hx'
  ·exact h.at_ x (Gs_ _ hx')
  ·rw[Gd_] at hx';subst hx';exact hx
 ·rcases List.mem_append.1 hx' with hx'|hx'
  ·exact h.own x (Gs_ _ hx') k hk hl
  ·rw[Gd_] at hx';subst hx';exact h.own _ (List.mem_append_right _ (.head _)) k (hB k hk) hl
 ·rw[Gd_] at hy;subst hy;exact n3 x hx' _ (.head _) k hk (hB k hk')
variable{R:List ByteArray}
theorem aI6 {w':World}{p:Nat}{C:Nat}(hC:w.heap.size<=C)(hR:aEg w' C v R)(hp:p<w.heap.size)(hmb:mb<w.heap.size)(hk:aP9 w p mb N S (mO m) C w'):∃S',Mm (BlM [ixO p mb N m S]) w w' [ixO p mb N m S',rw_ stL 1 9 v (R.map ByteArray.toList)]:=by
 obtain⟨S',rv',pk',h1,h2,h3⟩:=hk
 have hR':ow stL 1 9 w' C v (R.map ByteArray.toList):=by
  unfold aEg ow at hR;unfold ow;rw[Gp_,List.flatMap_map]
  have:(R.flatMap λa=>stL a.toList)=R.flatMap aUK:=by
   congr 1;funext a;show[Value.string (ofL a.toList)]=[Value.string a];rw[ofL_of]
  rw[this];exact hR
 refine⟨S',h2.mono λr _ e=>⟨_,.head _,.inl e⟩,λx hx=>?_,λx hx k hk hl=>?_,List.pairwise_cons.2 ⟨λy hy k hk hk'=>?_,List.pairwise_singleton _ _⟩⟩
 ·rcases List.mem_cons.1 hx with rfl|hx
  ·exact⟨rv',pk',h1⟩
  ·rw[Gd_] at hx;subst hx;exact hR'.base (Gg_ _)
 ·rcases List.mem_cons.1 hx with rfl|hx
  ·rcases hk with rfl|rfl|hk
   ·exact⟨_,.head _,.inl rfl⟩
   ·exact⟨_,.head _,.inr (.inl rfl)⟩
   ·rcases(h3 k hk).1 with h|h
    ·exact⟨_,.head _,.inr (.inr h)⟩
    ·exact absurd h oM
  ·rw[Gd_] at hx;subst hx;have:=(hR'.lt hk).1;exact absurd hl oM
 ·rw[Gd_] at hy;subst hy;have h5:=(hR'.lt hk').1;rcases hk with rfl|rfl|hk
  ·omega
  ·omega
  ·have:=(h3 k hk).2;omega
def InS (m:Bys->Option (Pt×Pt))(q:Pt×Pt)(R:List Bys):Prop:=R.Pairwise (λa b=>blt a b=true)/\∀s,s∈R↔∃c,m s=some c/\mtB c q
theorem aWk {q:Bx}(h:InR (mO m) q R):InS m q (R.map ByteArray.toList):=by
 refine⟨List.pairwise_map.2 h.1,λs=>?_⟩;rw[List.mem_map];constructor
 ·rintro⟨a,ha,rfl⟩;exact(h.2 a).1 ha
 ·rintro⟨c,h1,h2⟩;exact⟨ofL s,(h.2 _).2 ⟨c,by rw[aTH];exact h1,h2⟩,aAF s⟩
theorem aMj {p:Nat}(hM:Mm (BlM [ixO p mb N m S]) w w [ixO p mb N m S])(hN:N<=100000)(b:Pt×Pt):Calls Tryz.prog 59 #[vP p 0,bxV b] w λe w'=>∃u Mn,e=.returned u/\(∃S' R,Mn=[ixO p mb N m S',rw_ stL 1 9 u R]/\(if okB b then InS m b R else R=[]))/\Mm (BlM [ixO p mb N m S]) w w' Mn:=by
 obtain⟨rv,pk,hI⟩:(ixO p mb N m S).H w:=hM.get 0 rfl;refine(aRj hI hN b).mono λe w' ⟨v,R,C,h1,h2,h3,h4,h5⟩=>?_;obtain⟨S',h6⟩:=aI6 h2 h3 (aAf hI.hp) hI.hm.lt h5;refine⟨_,_,h1,⟨S',_,rfl,?_⟩,h6⟩
 split
 ·rename_i hb;rw[if_pos hb] at h4;exact aWk h4
 ·rename_i hb;rw[if_neg hb] at h4;rw[h4];rfl
def NeS (m:Bys->Option (Pt×Pt))(pt:Pt)(n:Int)(R:List Bys):Prop:=∃L,aPI L (mO m)/\R=((aJn pt L).take n.toNat).map λx=>x.1.toList
theorem aI4 {p:Nat}(hM:Mm (BlM [ixO p mb N m S]) w w [ixO p mb N m S])(hN:N<=100000)(pt:Pt)(n:Int):Calls Tryz.prog 64 #[vP p 0,.agg #[vI pt.1,vI pt.2],vI n] w λe w'=>∃u Mn,e=.returned u/\(∃S' R,Mn=[ixO p mb N m S',rw_ stL 1 9 u R]/\(if isP pt then NeS m pt n R else R=[]))/\Mm (BlM [ixO p mb N m S]) w w' Mn:=by
 obtain⟨rv,pk,hI⟩:(ixO p mb N m S).H w:=hM.get 0 rfl;refine(aJG hI hN pt n).mono λe w' ⟨v,R,C,h1,h2,h3,h4,h5⟩=>?_;obtain⟨S',h6⟩:=aI6 h2 h3 (aAf hI.hp) hI.hm.lt h5;refine⟨_,_,h1,⟨S',_,rfl,?_⟩,h6⟩
 split
 ·rename_i hb;rw[if_pos hb] at h4;obtain⟨L,h7,h8⟩:=h4;exact⟨L,h7,by rw[h8,List.map_map];rfl⟩
 ·rename_i hb;rw[if_neg hb] at h4;rw[h4];rfl
abbrev Ca:=Bys×Int
def aDf (a b:Ca):Bool:=decide (a.2<b.2)||((a.2==b.2)&&blt a.1 b.1)
def aDa (c:Ca):List Ca->List Ca
 | []=>[c]
 | a::l=>bif aDf a c then a::aDa c l else c::a::l
theorem aGv (a:Ca)(l:List Ca):∀n:Nat,(a::l.take n).take n=(a::l).take n
 | 0=>rfl
 | n+1=>by rw[List.take_succ_cons,List.take_succ_cons,List.take_take,Nat.min_eq_left (Nat.le_succ n)]
theorem aK3 (c:Ca):∀(l:List Ca)(n:Nat),(aDa c (l.take n)).take n=(aDa c l).take n
 | _,0=>by simp
 | [],n+1=>rfl
 | a::l,n+1=>by
  rw[List.take_succ_cons];unfold aDa
  cases aDf a c with
  | true=>simp only[cond_true,List.take_succ_cons];rw[aK3 c l n]
  | false=>simp only[cond_false];rw[List.take_succ_cons,List.take_succ_cons,aGv]
theorem aIV (n:Nat):∀(L b:List Ca),L.foldl (λb c=>(aDa c b).take n) (b.take n)=(L.foldl (λb c=>aDa c b) b).take n
 | [],_=>rfl
 | c::L,b=>by
  rw[List.foldl_cons,List.foldl_cons,aK3];exact aIV n L (aDa c b)
theorem aLh {c:Ca}:∀{n:Nat}{b:List Ca},n<=b.length->(∀a∈b.take n,aDf a c=true)->(aDa c b).take n=b.take n
 | 0,_,_,_=>by simp
 | n+1,[],h,_=>by simp at h
 | n+1,a::b,h,ha=>by
  rw[List.take_succ_cons] at ha;unfold aDa;rw[ha a (.head _),cond_true,List.take_succ_cons,List.take_succ_cons,aLh (by simpa using h) λx hx=>ha x (.tail _ hx)]
theorem aFY (c:Ca):∀l:List Ca,(aDa c l).length=l.length+1
 | []=>rfl
 | a::l=>by
  unfold aDa
  cases aDf a c with
  | true=>simp only[cond_true,Gf_];rw[aFY c l]
  | false=>rfl
theorem aIW {n:Nat}:∀{L b:List Ca},n<=b.length->(∀a∈b.take n,∀c∈L,aDf a c=true)->(L.foldl (λb c=>aDa c b) b).take n=b.take n
 | [],_,_,_=>rfl
 | c::L,b,h,ha=>by
  have h1:=aLh (c:=c) h λa hx=>ha a hx c (.head _);rw[List.foldl_cons,aIW (by rw[aFY];omega) (λa hx x hc=>ha a (by rw[<-h1];exact hx) x (.tail _ hc)),h1]
theorem aHA {c x:Ca}:∀{l:List Ca},x∈aDa c l↔x=c\/x∈l
 | []=>by simp[aDa]
 | a::l=>by
  unfold aDa
  cases aDf a c with
  | true=>simp only[cond_true,List.mem_cons];rw[aHA];constructor<;>rintro(h|h|h)<;>simp[h]
  | false=>simp only[cond_false,List.mem_cons]
theorem aHL (a:Ca):aDf a a=false:=by unfold aDf;rw[aA0];simp
theorem aR6 {a b:Ca}(h:aDf a b=false)(hn:a.1≠b.1):aDf b a=true:=by
 unfold aDf at h ⊢;simp only[Bool.or_eq_false_iff,Bool.and_eq_false_iff,decide_eq_false_iff_not] at h;rcases Int.lt_or_eq_of_le (Int.not_lt.1 h.1) with h1|h1
 ·rw[decide_eq_true h1,Bool.true_or]
 ·have h2:blt a.1 b.1=false:=by
   rcases h.2 with h2|h2
   ·rw[h1] at h2;simp at h2
   ·exact h2
  have h3:=aLx a.1 b.1;have h4:(a.1==b.1)=false:=by simpa using hn
  have h5:blt b.1 a.1=true:=by
   have:(Op.bytesLess a.1 b.1)=false:=h2;rw[this,h4] at h3;have:Op.bytesLess b.1 a.1=true:=by simpa using h3.symm
   exact this
  rw[h1,h5];simp
theorem aDC {a b c:Ca}(h1:aDf a b=true)(h2:aDf b c=true):aDf a c=true:=by
 unfold aDf at *;simp only[Bool.or_eq_true,Ga_,decide_eq_true_eq,beq_iff_eq] at *;rcases h1 with h1|⟨h1,h3⟩<;>rcases h2 with h2|⟨h2,h4⟩
 ·exact .inl oM
 ·exact .inl oM
 ·exact .inl oM
 ·exact .inr ⟨by omega,aEu h3 h4⟩
def aKt (l:List Ca):Prop:=l.Pairwise λa b=>aDf a b=true
theorem aOw {c:Ca}:∀{l:List Ca},aKt l->(∀a∈l,a.1≠c.1)->aKt (aDa c l)
 | [],_,_=>List.pairwise_singleton _ _
 | a::l,h,hn=>by
  obtain⟨h1,h2⟩:=List.pairwise_cons.1 h;unfold aDa
  cases hc:aDf a c with
  | true =>
   simp only[cond_true];refine List.pairwise_cons.2 ⟨λx hx=>?_,aOw h2 λx hx=>hn x (.tail _ hx)⟩;rcases aHA.1 hx with rfl|hx
   ·exact hc
   ·exact h1 x hx
  | false =>
   simp only[cond_false];have h3:=aR6 hc (hn a (.head _));refine List.pairwise_cons.2 ⟨λx hx=>?_,h⟩;rcases List.mem_cons.1 hx with rfl|hx
   ·exact h3
   ·exact aDC h3 (h1 x hx)
theorem aF7:∀{l m:List Ca},aKt l->aKt m->(∀x,x∈l↔x∈m)->l=m
 | [],[],_,_,_=>rfl
 | [],b::m,_,_,h=>absurd ((h b).2 (.head _)) sI
 | a::l,[],_,_,h=>absurd ((h a).1 (.head _)) sI
 | a::l,b::m,hl,hm,h=>by
  obtain⟨l1,l2⟩:=List.pairwise_cons.1 hl;obtain⟨m1,m2⟩:=List.pairwise_cons.1 hm
  have hab:a=b:=by
   rcases List.mem_cons.1 ((h a).1 (.head _)) with e|e
   ·exact e
   ·rcases List.mem_cons.1 ((h b).2 (.head _)) with e2|e2
    ·exact e2.symm
    ·have:=aDC (m1 a e) (l1 b e2);rw[aHL] at this;cases this
  subst hab;rw[aF7 l2 m2 λx=>?_];constructor
  ·intro hx;rcases List.mem_cons.1 ((h x).1 (.tail _ hx)) with e|e
   ·subst e;have:=l1 x hx;rw[aHL] at this;cases this
   ·exact e
  ·intro hx;rcases List.mem_cons.1 ((h x).2 (.tail _ hx)) with e|e
   ·subst e;have:=m1 x hx;rw[aHL] at this;cases this
   ·exact e
def orL:List Int->Int
  | []=>0
  | z::l=>bif !(z==0) then z else orL l
def caI (a c:Ca):Int:=orL [a.2-c.2,Lib.compareBytes a.1 c.1]
theorem aS6 (a c:Ca):decide (caI a c<0)=aDf a c:=by
  unfold caI orL orL orL aDf;have h:=aHF a.1 c.1
  by_cases h1:a.2-c.2=0
  · have h2:a.2=c.2:=by omega
    rw[h2,Int.sub_self];simp only[beq_self_eq_true,Bool.not_true,cond_false,Int.lt_irrefl,decide_false,Bool.false_or,Bool.true_and];rw[<-h]
    by_cases h3:Lib.compareBytes a.1 c.1=0
    · rw[h3];rfl
    · rw[show(Lib.compareBytes a.1 c.1==0)=false from by simpa using h3];rfl
  · rw[show(a.2-c.2==0)=false from by simpa using h1]
    have h4:(a.2==c.2)=false:=by simp;omega
    rw[h4];simp only[Bool.not_false,cond_true,Bool.false_and,Bool.or_false];exact decide_eq_decide.2 oM
variable{y:Ca}{k:Nat}
theorem aXZ {l:List Ca}{c:Ca}(hv:aKt l)(hy:l[k]?=some y)(h:decide (caI y c<0)=true):∀z q,z<k+1->l[z]?=some q->aDf q c=true:=λz q hz hq=>by
  rw[aS6] at h;rcases Nat.lt_succ_iff_lt_or_eq.1 hz with hz|hz
  · have h1:=List.pairwise_iff_getElem.1 hv z k (gl hq) (gl hy) hz
    have e1:l[z]'(gl hq)=q:=Gh_ ((Gb_ (gl hq)).symm.trans hq);have e2:l[k]'(gl hy)=y:=Gh_ ((Gb_ (gl hy)).symm.trans hy);rw[e1,e2] at h1;exact aDC h1 h
  · rw[hz,hy] at hq;cases hq;exact h
theorem aYa {l:List Ca}{c:Ca}(hv:aKt l)(hy:l[k]?=some y)(h:decide (caI y c<0)=false):∀z q,k<=z->l[z]?=some q->aDf q c=false:=λz q hz hq=>by
  rw[aS6] at h;rcases Nat.lt_or_eq_of_le hz with hz|hz
  · cases hc:aDf q c with
    | false=>rfl
    | true =>
      have h1:=List.pairwise_iff_getElem.1 hv k z (gl hy) (gl hq) hz;have e1:l[z]'(gl hq)=q:=Gh_ ((Gb_ (gl hq)).symm.trans hq);have e2:l[k]'(gl hy)=y:=Gh_ ((Gb_ (gl hy)).symm.trans hy);rw[e1,e2] at h1;rw[aDC h1 hc] at h;cases h
  · rw[<-hz,hy] at hq;cases hq;exact h
theorem aSr {c:Ca}:∀{l:List Ca}{i:Nat},i<=l.length->(∀z q,z<i->l[z]?=some q->aDf q c=true)->(∀z q,i<=z->l[z]?=some q->aDf q c=false)->aDa c l=l.take i++c::l.drop i
  | [],i,hi,_,_=>by simp[aDa]
  | a::l,0,_,_,hB=>by
    unfold aDa;rw[hB 0 a (Gj_ _) rfl];rfl
  | a::l,i+1,hi,hA,hB=>by
    unfold aDa;rw[hA 0 a (Nat.succ_pos _) rfl,cond_true,aSr (l:=l) (i:=i) (by simpa using hi) (λz q hz hq=>hA (z+1) q oM (by simpa using hq)) (λz q hz hq=>hB (z+1) q oM (by simpa using hq))];rfl
abbrev bAt (Z:Ending->World->Prop):=AtO Tryz.prog (aAv Tryz.f63) (aAI (bodyPost Tryz.prog Tryz.f63 Z)) [] 18
theorem aNO {p:Option Addr}{cap:Nat}{L:List Int}(hs:SrcP inL 1 w p cap L):Calls Tryz.prog 63 #[vL p L.length cap] w λe w'=>e=.returned (vI (orL L))/\Fr nF_ w w':=by
  have bb:=hs.bnd;refine beg Tryz.func63 rfl rfl [(0,vL p L.length cap)] rfl rfl λZ hZ=>?_;have hM:=Mm.nil nF_ w;refine seg 3 0 [(3,vI 0),(6,vL p L.length cap),(7,vI (L.length:Int)),(8,vI 0)] f0 ?_
  have ad:∀(aa:Nat)(i:Nat)(w2:World),i<=L.length->orL L=orL (L.drop i)->Mm nF_ w w2 []->aa=L.length-i->bAt Z (some (3,0)) [(8,vI (i:Int)),(7,vI (L.length:Int)),(6,vL p L.length cap),(3,vI 0)] w2:=by
   refine aCh λaa ae i w2 hi hr hM ai=>seg 3 1 [(9,vB (decide ((i:Int)<(L.length:Int))))] f0 ?_;cases ab:(decide ((i:Int)<(L.length:Int)))
   ·have af:=df ab;exact rt1 2 (vI 0) rfl f0 (hZ _ _ ⟨by rw[hr,List.drop_of_length_le oM];rfl,hM.fr⟩)
   have af:=dt ab;obtain⟨y,hy,aj,ak,ag,ah⟩:=hs.el (i:=i) oM;refine seg 5 3 [(5,vI y),(14,vB (!(y==0)))] (fc (ix 167 cap ag (gl hy)) (fc (ld0 3 hM (ah 0 _ rfl)) f0)) ?_;cases ac:(y==0)
   ·exact rt1 2 (vI y) rfl f0 (hZ _ _ ⟨by rw[hr,gd hy,orL,ac];rfl,hM.fr⟩)
   refine seg 3 0 [(8,vI ((i:Int)+1))] (fc (aAP (i:Int) 1 u3_) f0) (aAi _ (ae _ (by have:=gl hy;omega) (i+1) _ (gl hy) (by rw[hr,gd hy,orL,ac];rfl) hM rfl))
  exact aAi _ (ad _ 0 _ (Gg_ _) rfl hM rfl)
theorem aFQ {a c:Ca}(ha:0<=a.2/\a.2<=4611686018427387904)(hc:0<=c.2/\c.2<=4611686018427387904):Calls Tryz.prog 62 #[.agg #[vS a.1,vI a.2],.agg #[vS c.1,vI c.2]] w λe w'=>e=.returned (vI (caI a c))/\Fr nF_ w w':=by
  refine beg Tryz.func62 rfl rfl [(0,.agg #[vS a.1,vI a.2]),(1,.agg #[vS c.1,vI c.2])] rfl rfl λY hY=>?_;have hM:=Mm.nil nF_ w;refine aAu 0 0 2 [] (cs:=#[vS a.1,vI a.2]) (T:=108) (v:=λb=>vP b 0) f0 hM λaa w1 hM=>aAu 0 1 3 [] (cs:=#[vS c.1,vI c.2]) (T:=108) (v:=λb=>vP b 0) f0 hM λab w1 hM=>seg 1 0 [] f0 ?_;have hM:=hM.nl;refine drx [9,10,11] (λZ=>[some (vI (Lib.compareBytes a.1 c.1)),some (vL (some ⟨(bn (Z 1)),0,none⟩) 2 2),some (vI (caI a c))]) _ (λZ l=>[bk aa #[vS a.1,vI a.2] 108,bk ab #[vS c.1,vI c.2] 108,(bif l.getD 1 false then bk (bn (Z 1)) #[vI (a.2-c.2),vI (Lib.compareBytes a.1 c.1)] 3 else aEB)]) (λZ=>[(4,vI (caI a c))]) hM (λZ=>rfl) (λZ l w5 hM=>(fc (ldm 3 0 1 hM rfl rfl) (fc (ldm 3 1 1 hM rfl rfl) (fc (aGq a.2 c.2 u3_) (fc (ldm 9 0 0 hM rfl rfl) (fc (ldm 9 1 0 hM rfl rfl) f0)))))) ⟨aAO 0 9 14 (f:=44) (λZ=>#[vS a.1,vS c.1]) (vI (Lib.compareBytes a.1 c.1)) (λZ fr wm hM=>(aEK a.1 c.1 _)),aDb 1 10 2 15 (λZ=>#[vI (a.2-c.2),vI (Lib.compareBytes a.1 c.1)]) 3 (λb=>vL (some ⟨b,0,none⟩) 2 2),aAO 2 11 16 (f:=63) (λZ=>#[vL (some ⟨(bn (Z 1)),0,none⟩) 2 2]) (vI (caI a c)) (λZ fr wm hM=>(aNO (L:=[(a.2-c.2),(Lib.compareBytes a.1 c.1)]) (aBL (f:=inL) (c:=1) (b:=(bn (Z 1))) (hM.get 2 (e:=bk (bn (Z 1)) #[vI (a.2-c.2),vI (Lib.compareBytes a.1 c.1)] 3) kR) [(a.2-c.2),(Lib.compareBytes a.1 c.1)] 2 (λ_=>rfl) rfl rfl))),trivial⟩ λac w1 hM=>?_;replace hM:Mm nF_ w w1 [bk aa #[vS a.1,vI a.2] 108,bk ab #[vS c.1,vI c.2] 108,bk (bn (ac 1)) #[vI (a.2-c.2),vI (Lib.compareBytes a.1 c.1)] 3]:=hM;exact rt1 4 (vI (caI a c)) rfl f0 (hY _ _ ⟨rfl,hM.fr⟩)
abbrev bAr (Z:Ending->World->Prop):=AtO Tryz.prog (aAv Tryz.f67) (aAI (bodyPost Tryz.prog Tryz.f67 Z)) [] 49
theorem aPj {p:Option Addr}{cap:Nat}{L:List Ca}(hs:SrcP rwL 2 w p cap L)(hlen:L.length<=400000000)(hv:aKt L)(hl:∀a∈L,0<=a.2/\a.2<=4611686018427387904){c:Ca}(hc:0<=c.2/\c.2<=4611686018427387904):Calls Tryz.prog 67 #[vL p L.length cap,.agg #[vS c.1,vI c.2],.func (.func 62) #[] #[]] w λe w'=>∃(i:Nat)(b:Bool),e=.returned (.tuple #[vI (i:Int),vB b])/\i<=L.length/\(∀z q,z<i->L[z]?=some q->aDf q c=true)/\(∀z q,i<=z->L[z]?=some q->aDf q c=false)/\Fr nF_ w w':=by
  refine beg Tryz.func67 rfl rfl [(0,vL p L.length cap),(1,.agg #[vS c.1,vI c.2]),(2,.func (.func 62) #[] #[])] rfl rfl λZ hZ=>?_;have hM:=Mm.nil nF_ w;refine aAu 0 0 4 [] (cs:=#[vS c.1,vI c.2]) (T:=108) (v:=λb=>vP b 0) f0 hM λac w1 hM=>seg 3 0 [(8,vI (L.length:Int)),(9,vI 0),(10,vI (L.length:Int))] f0 ?_
  have ak:∀(ad:Nat)(i:Nat)(j:Nat)(w2:World),i<=j->j<=L.length->(∀z q,z<i->L[z]?=some q->aDf q c=true)->(∀z q,j<=z->L[z]?=some q->aDf q c=false)->Mm nF_ w w2 [bk ac #[vS c.1,vI c.2] 108]->ad=j-i->bAr Z (some (3,0)) [(10,vI (j:Int)),(9,vI (i:Int)),(8,vI (L.length:Int)),(4,vP ac 0),(0,vL p L.length cap),(2,.func (.func 62) #[] #[])] w2:=by
   refine aCh λad ae i j w2 hij hjl hA hB hM av=>seg 3 3 [(17,vB (decide ((i:Int)<(j:Int))))] f0 ?_;cases af:(decide ((i:Int)<(j:Int)))
   rotate_left
   ·have al:=dt af;refine seg 5 0 [(11,vI ((((i+j) / 2:Nat)):Int))] (fc (aAP (i:Int) (j:Int) u3_) (fc (tou 139 ((i:Int)+(j:Int)) oM oM) (fc (aSV 139 (i+j) oM) (fc (toi 139 ((((i+j) / 2:Nat)):Int) oM oM) f0)))) ?_;obtain⟨ag,aa,aw,ax,am,an⟩:=hs.el (i:=((i+j) / 2)) oM;refine drc [(31,vB (decide ((caI ag c)<0)))] hM (λw5 hM=>(fc (ix 106 cap am (gl aa)) (fc (la0 108 hM an) (fc (lam 108 0 0 2 hM rfl) (fc (tcl (aFQ (hl _ (gm aa)) hc)) f0))))) λw5 hM=>?_;cases ah:(decide ((caI ag c)<0))
    ·refine seg 3 0 [(10,vI ((((i+j) / 2:Nat)):Int))] f0 (aAi _ (ae _ oM i ((i+j) / 2) _ oM oM hA (aYa hv aa ah) hM rfl))
    refine seg 3 0 [(9,vI (((((i+j) / 2:Nat)):Int)+1))] (fc (aAP ((((i+j) / 2:Nat)):Int) 1 u3_) f0) (aAi _ (ae _ oM ((i+j) / 2+1) j _ oM oM (aXZ hv aa ah) hB hM rfl))
   have al:=df af;refine seg 8 0 [] f0 ?_;cases ab:(decide ((i:Int)<(L.length:Int)))
   ·have ao:=df ab;refine drc [(6,vI (i:Int)),(7,vB false)] hM (λw5 hM=>(fc (tv 38 ab) f0)) λw5 hM=>?_;have hji:i=j:=by omega
    subst hji;exact rt2 6 7 (vI (i:Int)) (vB false) rfl rfl f0 (hZ _ _ ⟨i,_,rfl,hjl,hA,hB,hM.fr⟩)
   have ao:=dt ab;obtain⟨ai,aj,ay,az,aq,au⟩:=hs.el (i:=i) oM;refine drc [(6,vI (i:Int)),(7,vB ((caI ai c)==0))] hM (λw5 hM=>(fc (tv 38 ab) (fc (ix 106 cap aq (gl aj)) (fc (la0 108 hM au) (fc (lam 108 0 0 2 hM rfl) (fc (tcl (aFQ (hl _ (gm aj)) hc)) f0)))))) λw5 hM=>?_;have hji:i=j:=by omega
   subst hji;exact rt2 6 7 (vI (i:Int)) (vB ((caI ai c)==0)) rfl rfl f0 (hZ _ _ ⟨i,_,rfl,hjl,hA,hB,hM.fr⟩)
  exact aAi _ (ak _ 0 L.length _ (Gg_ _) (Gj_ _) (λ_ _ h=>absurd h (Nat.not_lt_zero _)) (λz q h hq=>absurd (gl hq) oM) hM rfl)
variable{s:ShR}{S:List ShR}
theorem aQa {w0:World}{M:List Ent}{j:Nat}{l:List Ob}(h:Mm F0 w0 w M)(hj:M[j]?=some (aBQ (S.map (shE l))))(hs:s∈S):ShA l s w :=
 ShA.of ((h.get j hj).1 _ (List.mem_map.2 ⟨s,hs,rfl⟩))
variable{os:List ObR}
theorem shO {l:List Ob}(h:aE1 l os S)(hs:s∈S):s.o∈os:=by
 have:s.o∈S.map (·.o):=List.mem_map.2 ⟨s,hs,rfl⟩;rw[h] at this;exact(List.mem_filter.1 this).1
theorem aNh {l:List Ob}(h:aE1 l os S)(hs:s∈S):(aAd l s.o.o.id).1=0:=by
 have:s.o∈S.map (·.o):=List.mem_map.2 ⟨s,hs,rfl⟩;rw[h] at this;simpa using(List.mem_filter.1 this).2
theorem aVx (hv:aAh (aAa os)=true)(h:aE1 (aAa os) os S):S.Pairwise λa b=>blt a.o.o.id b.o.o.id=true:=by
 have h1:=aAV hv;unfold aAa at h1;rw[List.pairwise_map] at h1;have h2:(S.map (·.o)).Pairwise λa b:ObR=>blt a.o.id b.o.id=true:=by rw[h];exact h1.filter _
 rwa[List.pairwise_map] at h2
theorem aGA (h:S.Pairwise λa b=>blt a.o.o.id b.o.o.id=true){t:ShR}(hs:s∈S)(ht:t∈S)(e:s.o.o.id=t.o.o.id):s=t:=by
 obtain⟨i,hi,rfl⟩:=List.getElem_of_mem hs;obtain⟨j,hj,rfl⟩:=List.getElem_of_mem ht;rcases Nat.lt_trichotomy i j with h9|h9|h9
 ·have:=List.pairwise_iff_getElem.1 h i j hi hj h9;rw[e,aA0] at this;cases this
 ·subst h9;rfl
 ·have:=List.pairwise_iff_getElem.1 h j i hj hi h9;rw[e,aA0] at this;cases this
theorem aHg:∀(S:List ShR)(m:Value->Option Value)(id:Bys),(∀s∈S,s.o.o.id≠id)->(S.foldl (λm s=>upd m (vS s.o.o.id) (vP s.b 0)) m) (vS id)=m (vS id)
 | [],_,_,_=>rfl
 | s::S,m,id,h=>by
  rw[List.foldl_cons,aHg S _ id λt ht=>h t (.tail _ ht)];exact aDX m λe=>h s (.head _) (aMR e).symm
theorem aKE {id:Bys}(h:∀s∈S,s.o.o.id≠id):(shF S (vS id)).getD (.pointer none)=.pointer none:=by unfold shF;rw[aHg S _ id h];rfl
theorem aF9 {s:ShR}:∀(S:List ShR)(m:Value->Option Value),S.Pairwise (λa b=>blt a.o.o.id b.o.o.id=true)->s∈S->(S.foldl (λm s=>upd m (vS s.o.o.id) (vP s.b 0)) m) (vS s.o.o.id)=some (vP s.b 0)
 | t::S,m,hp,hs=>by
  obtain⟨h1,h2⟩:=List.pairwise_cons.1 hp;rw[List.foldl_cons];rcases List.mem_cons.1 hs with rfl|hs
  ·rw[aHg S _ _ λt ht e=>by have:=h1 t ht;rw[e,aA0] at this;cases this];exact aHb _ _ _
  ·exact aF9 S _ h2 hs
theorem aFk (hp:S.Pairwise λa b=>blt a.o.o.id b.o.o.id=true)(hs:s∈S){id:Bys}(e:s.o.o.id=id):(shF S (vS id)).getD (.pointer none)=vP s.b 0:=by subst e;unfold shF;rw[aF9 S _ hp hs];rfl
theorem aHM (l:List Ob):∀(S:List ShR)(m:Bys->Option (Pt×Pt))(id:Bys),(∀s∈S,s.o.o.id≠id)->(S.foldl (λm s=>aHT m s.o.o.id (aAc (s.P l))) m) id=m id
 | [],_,_,_=>rfl
 | s::S,m,id,h=>by
  rw[List.foldl_cons,aHM l S _ id λt ht=>h t (.tail _ ht)];unfold aHT;rw[if_neg λe=>h s (.head _) e.symm]
theorem aIT (l:List Ob){s:ShR}:∀(S:List ShR)(m:Bys->Option (Pt×Pt)),S.Pairwise (λa b=>blt a.o.o.id b.o.o.id=true)->s∈S->(S.foldl (λm s=>aHT m s.o.o.id (aAc (s.P l))) m) s.o.o.id=some (aAc (s.P l))
 | t::S,m,hp,hs=>by
  obtain⟨h1,h2⟩:=List.pairwise_cons.1 hp;rw[List.foldl_cons];rcases List.mem_cons.1 hs with rfl|hs
  ·rw[aHM l S _ _ λt ht e=>by have:=h1 t ht;rw[e,aA0] at this;cases this];unfold aHT;rw[if_pos rfl]
  ·exact aIT l S _ h2 hs
theorem aEM {l:List Ob}(hp:S.Pairwise λa b=>blt a.o.o.id b.o.o.id=true){id:Bys}{c:Pt×Pt}:bxS l S id=some c↔∃s∈S,s.o.o.id=id/\c=aAc (s.P l):=by
 unfold bxS
 by_cases h:∃s∈S,s.o.o.id=id
 ·obtain⟨s,hs,rfl⟩:=h;rw[aIT l S _ hp hs];constructor
  ·intro e;exact⟨s,hs,rfl,(Gh_ e).symm⟩
  ·rintro⟨t,ht,e,rfl⟩;rw[aGA hp ht hs e]
 ·rw[aHM l S _ id λs hs e=>h ⟨s,hs,e⟩];constructor
  ·intro e;cases e
  ·rintro⟨t,ht,e,_⟩;exact absurd ⟨t,ht,e⟩ h
theorem aX5 {l:List Ob}(hv:aAh l=true):ShG l s:=λp hp=>aNE hv p hp
theorem aSd {l:List Ob}(h:l.Pairwise λx y=>blt x.id y.id=true){s t:Ob}(hs:s∈l)(ht:t∈l)(e:s.id=t.id):s=t:=by
 obtain⟨i,hi,rfl⟩:=List.getElem_of_mem hs;obtain⟨j,hj,rfl⟩:=List.getElem_of_mem ht;rcases Nat.lt_trichotomy i j with h9|h9|h9
 ·have:=List.pairwise_iff_getElem.1 h i j hi hj h9;rw[e,aA0] at this;cases this
 ·subst h9;rfl
 ·have:=List.pairwise_iff_getElem.1 h j i hj hi h9;rw[e,aA0] at this;cases this
theorem aUP {l:List Ob}(hv:aAh l=true)(hl:l=aAa os)(h:aE1 l os S)(hs:s∈S):ShN l s:=by
 have h0:=aNh h hs;have hp:=aND hv h0;refine⟨aOn hp λhk=>?_,hp⟩;have hso:=shO h hs;have hm:s.o.o∈l:=by rw[hl];exact List.mem_map.2 ⟨_,hso,rfl⟩
 have hf:=aD5 (aAV hv) hm;obtain⟨k,o,h1,h2,h3⟩:=aB5 (l:=l) (id:=s.o.o.id) hf.1;refine aTo hv h0 (o:=o) (by rw[h1];exact h2) ?_;have ho:o∈l:=Ge_ h2;rw[aSd (aAV hv) ho hm h3];exact hk
def alR (l:List Ob)(h:Nat)(q:QdR)(u s:ShR):Option (Bys×Int):=bif (s.o.o.id==q.id) || !(aA2 h q s.o) then none else bif decide (aAN (apP l s u)<=q.n) then some (s.o.o.id,aAN (apP l s u)) else none
def aEy (l:List Ob)(h:Nat)(q:QdR)(S:List ShR)(u:ShR):List (Bys×Int):=S.filterMap (alR l h q u)
def alI (l:List Ob)(h:Nat)(q:QdR)(S:List ShR)(u:ShR)(id:Bys):Option (Bys×Int):=(S.find? λs=>s.o.o.id==id).bind (alR l h q u)
def alL (l:List Ob)(h:Nat)(q:QdR)(S:List ShR)(u:ShR)(R:List Bys):List (Bys×Int):=R.filterMap (alI l h q S u)
variable{u:ShR}{h:Nat}
theorem aPz {l:List Ob}{q:QdR}(hp:S.Pairwise λa b=>blt a.o.o.id b.o.o.id=true)(hs:s∈S):alI l h q S u s.o.o.id=alR l h q u s:=by
 unfold alI
 cases hf:S.find? λt=>t.o.o.id==s.o.o.id with
 | none =>
  have:=List.find?_eq_none.1 hf s hs;simp at this
 | some t =>
  have h1:=List.find?_some hf;have h2:=List.mem_of_find?_eq_some hf;rw[aGA hp h2 hs (by simpa using h1)];rfl
variable{y:Bys}{R:List Bys}
theorem aUC {l:List Ob}{q:QdR}(hp:S.Pairwise λa b=>blt a.o.o.id b.o.o.id=true)(hy:R[k]?=some y)(hs:s∈S)(e:s.o.o.id=y)(hn:alR l h q u s=none):alL l h q S u (R.take k)=alL l h q S u (R.take (k+1)):=by
 subst e;unfold alL;rw[gt_ hy,List.filterMap_append];simp[aPz hp hs,hn]
theorem aWF {l:List Ob}{q:QdR}{z:Bys×Int}(hp:S.Pairwise λa b=>blt a.o.o.id b.o.o.id=true)(hy:R[k]?=some y)(hs:s∈S)(e:s.o.o.id=y)(hn:alR l h q u s=some z):alL l h q S u (R.take k)++[z]=alL l h q S u (R.take (k+1)):=by
 subst e;unfold alL;rw[gt_ hy,List.filterMap_append];simp[aPz hp hs,hn]
theorem aUD (l:List Ob)(h:Nat)(q:QdR)(S:List ShR)(u:ShR)(R:List Bys):(alL l h q S u R).length<=R.length:=List.length_filterMap_le _ _
theorem aR7 {l m:List Bys}(hl:l.Pairwise λa b=>blt a b=true)(hm:m.Pairwise λa b=>blt a b=true)(h:∀x,x∈l↔x∈m):l=m:=by
 have key:∀a b:Bys,aDf (a,(0:Int)) (b,0)=blt a b:=λa b=>by unfold aDf;simp
 have h1:∀{l:List Bys},l.Pairwise (λa b=>blt a b=true)->aKt (l.map λa=>(a,(0:Int))):=λh=>by
  unfold aKt;rw[List.pairwise_map];exact h.imp λ{a b} h=>by rw[key];exact h
 have h2:=aF7 (h1 hl) (h1 hm) λx=>by
  rw[List.mem_map,List.mem_map];exact⟨λ⟨a,ha,e⟩=>⟨a,(h a).1 ha,e⟩,λ⟨a,ha,e⟩=>⟨a,(h a).2 ha,e⟩⟩
 have h3:=congrArg (List.map Prod.fst) h2;rw[List.map_map,List.map_map] at h3;simpa[Function.comp_def] using h3
theorem aSu {l:List Ob}{b:Pt×Pt}(hp:S.Pairwise λa b=>blt a.o.o.id b.o.o.id=true)(hR:InS (bxS l S) b R):R=(S.filter λs=>decide (mtB (aAc (s.P l)) b)).map (·.o.o.id):=by
 refine aR7 hR.1 ?_ λx=>?_
 ·rw[List.pairwise_map];exact hp.filter _
 ·rw[hR.2 x,List.mem_map];constructor
  ·rintro⟨c,hc,hm⟩;obtain⟨s,hs,rfl,rfl⟩:=(aEM hp).1 hc;exact⟨s,List.mem_filter.2 ⟨hs,by simpa using hm⟩,rfl⟩
  ·rintro⟨s,hs,rfl⟩;obtain⟨h1,h2⟩:=List.mem_filter.1 hs;exact⟨_,(aEM hp).2 ⟨s,h1,rfl,rfl⟩,by simpa using h2⟩
theorem aIB {α β:Type}{f:α->Option β}{p:α->Bool}:∀{S:List α},(∀s∈S,p s=false->f s=none)->(S.filter p).filterMap f=S.filterMap f
 | [],_=>rfl
 | s::S,h=>by
  have ih:=aIB (S:=S) λt ht=>h t (.tail _ ht)
  cases hp:p s with
  | true=>rw[List.filter_cons_of_pos hp,List.filterMap_cons,List.filterMap_cons,ih]
  | false=>rw[List.filter_cons_of_neg (by rw[hp];decide),List.filterMap_cons,h s (.head _) hp,ih]
theorem aWH {l:List Ob}{q:QdR}{b:Pt×Pt}(hp:S.Pairwise λa b=>blt a.o.o.id b.o.o.id=true)(hR:InS (bxS l S) b R)(hfar:∀s∈S,¬mtB (aAc (s.P l)) b->alR l h q u s=none):alL l h q S u R=aEy l h q S u:=by
 have e:alL l h q S u R=(S.filter λs=>decide (mtB (aAc (s.P l)) b)).filterMap (alR l h q u):=by
  unfold alL;rw[aSu hp hR,List.filterMap_map]
  have:∀T:List ShR,(∀s∈T,s∈S)->T.filterMap ((alI l h q S u)∘λs=>s.o.o.id)=T.filterMap (alR l h q u):=by
   intro T
   induction T with
   | nil=>intro _;rfl
   | cons s T ih =>
    intro hT;have ih:=ih λt ht=>hT t (.tail _ ht);have e1:((alI l h q S u)∘λs:ShR=>s.o.o.id) s=alR l h q u s:=aPz hp (hT s (.head _));rw[List.filterMap_cons,List.filterMap_cons,e1,ih]
  exact this _ λs hs=>(List.mem_filter.1 hs).1
 rw[e];exact aIB λs hs hm=>hfar s hs (by simpa using hm)
theorem aWi {l:List Ob}{b:Pt×Pt}(hp:S.Pairwise λa b=>blt a.o.o.id b.o.o.id=true)(hR:InS (bxS l S) b R):R.length<=S.length:=by
 rw[aSu hp hR,Gp_];exact List.length_filter_le _ _
theorem aWG {l:List Ob}{q:QdR}(hN:ShN l s)(hU:ShN l u)(hs:ShG l s)(hu:ShG l u)(hk:u.o.o.kind=2)(h0:0<=q.n)(hf:¬mtB (aAc (s.P l)) (wdB (aAc (u.P l)) (q.n+1))):alR l h q u s=none:=by
 have h1:=aWC hN hU hs hu hk (show 0<=q.n+1 by omega) hf;have h3:=Int.mul_le_mul (show q.n+1<=q.n+1+1 by omega) (show q.n+1<=q.n+1+1 by omega) oM oM;have h2:=aTi h0 (n:=apP l s u) oM;unfold alR;rw[decide_eq_false (by omega:¬aAN (apP l s u)<=q.n)];cases(s.o.o.id==q.id) || !(aA2 h q s.o)<;>rfl
theorem aPm {l:List Ob}(hv:aAh l=true)(hN:ShN l s):(0<=(aAc (s.P l)).1.1/\(aAc (s.P l)).1.1<=(aAc (s.P l)).2.1/\(aAc (s.P l)).2.1<=1048575)/\(0<=(aAc (s.P l)).1.2/\(aAc (s.P l)).1.2<=(aAc (s.P l)).2.2/\(aAc (s.P l)).2.2<=1048575):=aIU hN.2 (aNE hv)
theorem aRm {l:List Ob}(hv:aAh l=true)(hN:ShN l s):mtB (aAc (s.P l)) ((0,0),(1048576,1048576)):=by
 have:=aPm hv hN;unfold mtB;dsimp only;omega
def inK (p mb N:Nat)(m:Bys->Option (Pt×Pt))(b:Pt×Pt)(u:Value)(e:Ent):Prop:=∃S R,e=aBQ [ixO p mb N m S,rw_ stL 1 9 u R]/\(if okB b then InS m b R else R=[])
theorem aSp {p:Nat}{S:Nat->Prop}(hM:Mm (BlM [ixO p mb N m S]) w w [ixO p mb N m S])(hN:N<=100000)(b:Pt×Pt):Calls Tryz.prog 59 #[vP p 0,bxV b] w λe w'=>∃u e',e=.returned u/\inK p mb N m b u e'/\Mm (BlM [ixO p mb N m S]) w w' [e'] :=
 (aMj hM hN b).mono λe w' ⟨u,Mn,h1,⟨S',R,h2,h3⟩,h4⟩=>⟨u,_,h1,⟨S',R,rfl,h3⟩,by subst h2;exact aDc (A:=[]) h4⟩
theorem aG2 (w:World):(zeroValue 95).run Tryz.prog w=.ok (.pointer none) w:=by kernel_rfl
end Go.Proofs.YtngjlnhojicjeaaGreatDoor
namespace Go.Pl
open Go.RowKit Go.Proofs.YtngjlnhojicjeaaGreatDoor
variable{w:World}{ds:List Deferred}{B:Code}{F:Lts->List Ft}{F0:Nat->Prop}{rd:Option Nat}{V:Lts->List (Option Value)}{Mf:Lts->List Bool->List Ent}
section
variable{P:Program}{w0:World}{r n:Nat}{L:Frm}{ef:List Nat}
theorem aU2 (p i j d:Nat){f:FuncId}(args:Lts->Array Value)(e0:Lts->Ent)(K:Value->Int->Ent->Prop)
  (hc:∀γ fr wm,Mm F0 w0 wm (Mf γ (flg B r ef i fr))->Mm (BlM [e0 γ]) wm wm [e0 γ]->Calls P f (args γ) wm λx w'=>∃u z e,x=.returned (.tuple #[u,vI z])/\K u z e/\Mm (BlM [e0 γ]) wm w' [e])
  (hj:∀γ fr,(Mf γ (flg B r ef i fr))[j]?=some (e0 γ):=by intro γ fr;kernel_rfl)
  (hm:∀γ fr u (z:Int) e,(Mf γ (flg B r ef i fr)).set j (pfE (K u z) e)=Mf (aFl (aBK γ p (.tuple #[u,vI z])) p e) ((flg B r ef i fr).set p true):=by intro γ fr u z e;kernel_rfl)
  (hV:∀γ u (z:Int) e,((V (aFl (aBK γ p (.tuple #[u,vI z])) p e))[p]?).getD none=some (.tuple #[u,vI z]):=by intro γ u z e;rfl)
  (hs:∀γ wm,enL P wm (aA9 B r) i (frX P w n B r L ef V F i γ)=some (f,args γ,some d,wm):=by intro γ wm;kernel_rfl):Arm rd P w n B r L ef V F ds F0 w0 Mf p i:=by
 intro γ fr a wm Q o ho En hw hM;obtain⟨h1,h2⟩:=aIG ho En (hs γ wm);have h1M:Mm (BlM [e0 γ]) wm wm [e0 γ]:=⟨Fr.refl _ _,λx hx=>by rw[Gd_] at hx;subst hx;exact hM.get j (hj γ fr),λx hx k hk _=>⟨x,hx,hk⟩,List.pairwise_singleton _ _⟩;refine aCA (R:=λv w'=>∃u z e,v=.tuple #[u,vI z]/\K u z e/\Mm (BlM [e0 γ]) wm w' [e]) h1 ((hc γ fr wm hM h1M).mono λx w' ⟨u,z,e,g1,g2,g3⟩=>⟨_,g1,u,z,e,rfl,g2,g3⟩) λv w' ⟨u,z,e,hv,g2,g⟩=>?_;subst hv
 have hB:∀k,BlM [e0 γ] k->(e0 γ).B k:=λk hk=>by
  obtain⟨x,hx,hk⟩:=hk;rw[Gd_] at hx;subst hx;exact hk
 have hM':=hM.put (w':=w') j (hj γ fr) g.fr (λk _ h=>hB k h) (e':=pfE (K u z) e) ⟨g2,g.get 0 rfl⟩ (λk hk=>by
  by_cases hlt:k<wm.heap.size
  ·exact .inl (hB k (g.own _ (.head _) k hk hlt))
  ·exact .inr oM)
 rw[hm] at hM';exact⟨.tuple #[u,vI z],e,by rw[hV,h2];rfl,hM'⟩
end
variable{k:Nat}
theorem aX1 {P:Program}(T:TypeId)(E:TypeId)(g:Nat){n c:Nat}{z:Int}(hz:z=(k:Int))(hk:k<=c)(hc:0<c)(hc2:c<=9223372036854775807)(hs:∃s,∀w,(Go.sizeOf E).run P w=.ok s w)(hT:P.underlying T=some (.slice E):=by kernel_rfl):Ft.ok P w (.g2 (λx a =>.slice T x none (some a) none) (vL (some ⟨g,0,none⟩) n c) (vI z) (vL (some ⟨g,0,none⟩) k c)):=λo ρ x y ho hx hy=>by
 subst hz;obtain⟨s,hs⟩:=hs;have hk':¬c<k:=by omega
 have hc':¬c=0:=by omega
 simp[execOp,ho,hx,hy,go_sem,hT,hs,hk,hc',Result.andThen]
def sln:Value->Nat
 | .slice _ n _=>n
 | _=>0
theorem aQR {P:Program}{ρ:Operand->Value}{o:Oper}{x y z:Operand}{ts:Array TypeId}{a b c:Int}(ho:o.op=.call ⟨.builtin .max,#[x,y,z],ts⟩)(h1:ρ x=vI a)(h2:ρ y=vI b)(h3:ρ z=vI c):(execOp ρ o).run P w=.ok (.value (vI (max (max a b) c))) w:=by
 simp[execOp,ho,h1,h2,h3,resolve,invoke,go_sem,Builtin.max_,Builtin.max2,List.foldlM,<-aOj]
section
variable{P:Program}{n:Nat}{L:Frm}{w0:World}{r:Nat}{ef:List Nat}
theorem aPq (p i d:Nat)(ts:Array TypeId)(a b c:Int)
  (hm:∀γ fr,Mf γ (flg B r ef i fr)=Mf (aBK γ p undef) ((flg B r ef i fr).set p true):=by intro γ fr;kernel_rfl)
  (hV:∀γ,((V (aBK γ p undef))[p]?).getD none=some (vI (max (max a b) c)):=by intro γ;rfl)
  (hs:∀γ,aUM (aA9 B r) i (frX P w n B r L ef V F i γ)=aUL (aA9 B r) i (λx y z =>.call ⟨.builtin .max,#[x,y,z],ts⟩) (vI a) (vI b) (vI c) (some d):=by intro γ;kernel_rfl):Arm rd P w n B r L ef V F ds F0 w0 Mf p i:=by
 intro γ fr a1 wm Q o ho En hw hM;obtain⟨x,y,z,h1,h2,h3,h4,h5⟩:=aK7 ho En (hs γ);rw[hm] at hM;exact aF1 (w':=wm) (aQR h1 h2 h3 h4) ⟨undef,γ.e p,by rw[aAy,hV,h5];rfl,by rw[aAy];exact hM⟩
theorem aU1 (p i j d:Nat){f:FuncId}(args:Lts->Array Value)(e0:Lts->Ent)(K:Value->Ent->Prop)
  (hc:∀γ fr wm,Mm F0 w0 wm (Mf γ (flg B r ef i fr))->Mm (BlM [e0 γ]) wm wm [e0 γ]->Calls P f (args γ) wm λx w'=>∃q n c e,x=.returned (vL q n c)/\K (vL q n c) e/\Mm (BlM [e0 γ]) wm w' [e])
  (hj:∀γ fr,(Mf γ (flg B r ef i fr))[j]?=some (e0 γ):=by intro γ fr;kernel_rfl)
  (hm:∀γ fr q n c e,(Mf γ (flg B r ef i fr)).set j (pfE (K (vL q n c)) e)=Mf (aFl (aBK γ p (vL q n c)) p e) ((flg B r ef i fr).set p true):=by intro γ fr q n c e;kernel_rfl)
  (hV:∀γ q n c e,((V (aFl (aBK γ p (vL q n c)) p e))[p]?).getD none=some (vL q n c):=by intro γ q n c e;rfl)
  (hs:∀γ wm,enL P wm (aA9 B r) i (frX P w n B r L ef V F i γ)=some (f,args γ,some d,wm):=by intro γ wm;kernel_rfl):Arm rd P w n B r L ef V F ds F0 w0 Mf p i:=by
 intro γ fr a wm Q o ho En hw hM;obtain⟨h1,h2⟩:=aIG ho En (hs γ wm);have h1M:Mm (BlM [e0 γ]) wm wm [e0 γ]:=⟨Fr.refl _ _,λx hx=>by rw[Gd_] at hx;subst hx;exact hM.get j (hj γ fr),λx hx k hk _=>⟨x,hx,hk⟩,List.pairwise_singleton _ _⟩;refine aCA (R:=λv w'=>∃q n c e,v=vL q n c/\K (vL q n c) e/\Mm (BlM [e0 γ]) wm w' [e]) h1 ((hc γ fr wm hM h1M).mono λx w' ⟨q,n,c,e,g1,g2,g3⟩=>⟨_,g1,q,n,c,e,rfl,g2,g3⟩) λv w' ⟨q,n,c,e,hv,g2,g⟩=>?_;subst hv
 have hB:∀k,BlM [e0 γ] k->(e0 γ).B k:=λk hk=>by
  obtain⟨x,hx,hk⟩:=hk;rw[Gd_] at hx;subst hx;exact hk
 have hM':=hM.put (w':=w') j (hj γ fr) g.fr (λk _ h=>hB k h) (e':=pfE (K (vL q n c)) e) ⟨g2,g.get 0 rfl⟩ (λk hk=>by
  by_cases hlt:k<wm.heap.size
  ·exact .inl (hB k (g.own _ (.head _) k hk hlt))
  ·exact .inr oM)
 rw[hm] at hM';exact⟨vL q n c,e,by rw[hV,h2];rfl,hM'⟩
end
variable{B cp:Nat}{α:Type}{E:TypeId}
theorem aTr {f:α->List Value}{c:Nat}(hf:∀x,(f x).length=c){v:Value}{L:List α}(h:ow f c E w B v L){g n:Nat}(hv:v=vL (some ⟨g,0,none⟩) n cp)(hk:k<=L.length):ow f c E w B (vL (some ⟨g,0,none⟩) k cp) (L.take k):=by
 rcases h.2 with⟨h1,_⟩|⟨g',cap,cur,h1,h2,h3,h4,h5,h6,h7⟩
 ·rw[h1] at hv;cases hv
 ·rw[h1] at hv;obtain⟨e1,e2⟩:=Value.slice.inj hv;obtain rfl:=e2.2;have e3:g'=g:=by injection Gh_ e1
  subst e3;have hl:(L.take k).length=k:=by rw[Gq_];omega
  refine⟨aAz hf _,.inr ⟨g',cap,cur,by rw[hl],h2,h3,by omega,h5,h6,?_⟩⟩;rw[hl,<-aCL hf,<-h7,List.take_take,Nat.min_eq_left (Nat.mul_le_mul_right c hk)]
theorem aJB {f:α->List Value}{c:Nat}{p:Option Addr}{n:Nat}{L:List α}(h:ow f c E w B (vL p n cp) L)(hL:0<L.length):∃g,p=some ⟨g,0,none⟩/\n=L.length/\n<=cp/\cp<=maxLen:=by
 rcases h.2 with⟨_,h2⟩|⟨g,cap,cur,h1,_,_,h4,h5,_,_⟩
 ·omega
 ·cases h1;exact⟨g,rfl,rfl,h4,h5⟩
theorem Mm.rowtk {w0:World}{M:List Ent}(h:Mm F0 w0 w M){j:Nat}{f:α->List Value}{c:Nat}(hf:∀x,(f x).length=c){g n:Nat}{L:List α}(hj:M[j]?=some (rw_ f c E (vL (some ⟨g,0,none⟩) n cp) L))(hk:k<=L.length):Mm F0 w0 w (M.set j (rw_ f c E (vL (some ⟨g,0,none⟩) k cp) (L.take k))) :=
 h.put j hj (Fr.refl nF_ w) (λk _ e=>e.elim) (aTr hf (h.get j hj) rfl hk) λk e =>.inl e
theorem aAS {P:Program}(w:World)(dT sT ty elem:TypeId)(z g o dLen dCap:Nat)(a:Addr)(sLen sCap:Nat)(cur:Array Value)(t:TypeId)(cs:List Value)
  (hu:P.underlying dT=some (.slice elem)) (hs:(P.info? elem).map (·.size)=some z)
  (hg:w.heap[g]?=some (.cells cur t (0,0))) (hn:cs.length=Nat.min sLen dLen*z)
  (hsrc:∀j v,cs[j]?=some v->w.cell? (a.add j)=some v) (hfit:o+cs.length<=cur.size) (h1:∀v∈cs,v.oneCell'=true) :
  (Builtin.copy_ #[dT,sT] ty #[.slice (some ⟨g,o,none⟩) dLen dCap,.slice (some a) sLen sCap]).run P w =
   .ok (goInt (Nat.min sLen dLen)) (w.setRow g (cur.toList.take o++cs++cur.toList.drop (o+cs.length)).toArray):=by
 have hl:=run_loadCells_list (P:=P) w a cs hsrc;have hst:=run_storeCells_at P g o t cs 0 cur w hg (by simpa using hfit) h1
 cases hq:P.info? elem with
 | none=>simp[hq] at hs
 | some i =>
  have hi:i.size=z:=by simpa[hq] using hs
  simp[Builtin.copy_,run_underlying hu,Builtin.lenOf,Builtin.firstCells,sizeOf,typeInfo,hq,hi,<-hn,hl,hst]
end Go.Pl
namespace Go.Proofs.YtngjlnhojicjeaaGreatDoor
open Go.RowKit Go.Pl Go.Lib Go.Shelf
variable{o:Oper}{Q:Exit->Act->World->Prop}{a:Act}{w':World}{K:Act->World->Prop}{v':Value}
theorem aHW {P:Program}(w:World)(d s:Operand)(t t':TypeId)
  (ho:o.op=.call { callee := .builtin .copy,args:=#[d,s],argTypes:=#[t,t'] }) (v u:Value) (hd:a.eval d=v) (hs:a.eval s=u) 
  (hr:(Builtin.copy_ #[t,t'] o.type #[v,u]).run P w=.ok v' w') (h:K (a.put o.dst v') w'):o.wp P a w K Q:=by
 unfold Oper.wp execOp;simp only[ho,resolve,invoke,builtin,Sem.run_bind,Sem.run_pure,Result.andThen_ok,List.map_toArray,List.map_cons,List.map_nil,hd,hs,hr];exact h
variable{ops:Array Oper}
theorem aFd {P:Program}(w:World){rest:List Oper}(hgd:o.guard=none)(d s:Operand)(t t':TypeId)
  (ho:o.op=.call { callee := .builtin .copy,args:=#[d,s],argTypes:=#[t,t'] }) (v u:Value) (hd:a.eval d=v) (hs:a.eval s=u) 
  (hr:(Builtin.copy_ #[t,t'] o.type #[v,u]).run P w=.ok v' w') (h:wpList P ops Q rest (a.put o.dst v') w'):wpList P ops Q (o::rest) a w :=
 wpList_plain hgd λ_ hK=>aHW w d s t t' ho v u hd hs hr (hK _ _ h)
variable{w:World}
theorem aDF {P:Program}{E:Prop}
  (hg:o.guard=none) (d x:Operand) (dT sT:TypeId) (hop:o.op=Op.call { callee:=Callee.builtin Builtin.copy,args:=#[d,x],argTypes:=#[dT,sT] })
  (v u:Value) (hd:a.eval d=v) (hx:a.eval x=u) (hr:(Builtin.copy_ #[dT,sT] o.type #[v,u]).run P w=.ok v' w') (hK:K (a.put o.dst v') w') :
  if Region.wanted o (yielded ops a.tmps)=true then Oper.wp P o a w K Q else E:=by
 have hw:Region.wanted o (yielded ops a.tmps)=true:=by simp[Region.wanted,hg]
 rw[if_pos hw];unfold Oper.wp;simp[execOp,hop,resolve,invoke,builtin,hd,hx,hr,Result.andThen];exact hK
variable{vb:Nat}
theorem ovl {g la ca lb cb o:Nat}{cur cv:Array Value}{T0 T1:TypeId}(hg:w.heap[g]?=some (.cells cur T1 (0,0)))(h0:cur.size≠0)(hb:w.heap[vb]?=some (.cells cv T0 (0,0)))(hne:vb≠g) :
  (callFunc 119 #[.slice (some ⟨vb,0,none⟩) la ca,.slice (some ⟨g,o,none⟩) lb cb]).run Tryz.prog w=.ok (.value (.bool false)) w:=by
 rw[run_callFunc_extern (P:=Tryz.prog) (f:=119) Tryz.func119 kR kR kR (e:=Extern.SlicesOverlaps.overlaps #[106,106] #[4]) kR,
  Lib.run_overlaps_apart w 106 4 108 u106_ 2 (λ_=>by kernel_rfl) ⟨vb,0,none⟩ ⟨g,o,none⟩ la ca lb cb hne T0 T1 cv.size cur.size (by simp[World.shape?,hb]) (by simp[World.shape?,hg]) h0 (by simp[World.frozen?,hb]) (by simp[World.frozen?,hb])]
 rfl
variable{xs:List Value}
set_option maxHeartbeats 4000000 in
set_option maxRecDepth 100000 in
theorem aOx {g n c i:Nat}{cur cv:Array Value}(hg:w.heap[g]?=some (.cells cur 108 (0,0)))(hcur:cur.size=c*2)(hi:i<n)(hroom:n+1<=c)(hn8:n<=100000000)(hc63:c<=9223372036854775807)(hvb:vb≠g)(hb:w.heap[vb]?=some (.cells cv 108 (0,0)))(hxs:cv.toList=xs)(hxl:xs.length=2)
  (h1c:∀v∈cur.toList.take (n*2),v.oneCell'=true) (h1v:∀v∈xs,v.oneCell'=true) :
  Calls Tryz.prog 68 #[.slice (some ⟨g,0,none⟩) n c,.int .i64 i,.slice (some ⟨vb,0,none⟩) 1 1] w λe w' =>
   e=.returned (.slice (some ⟨g,0,none⟩) (n+1) c)/\∃A1 A2:Array Value,A1=(cur.toList.take ((i+1)*2)++(cur.toList.take (n*2)).drop (i*2)++cur.toList.drop ((i+1)*2+((cur.toList.take (n*2)).drop (i*2)).length)).toArray/\A2=(A1.toList.take (i*2)++xs++A1.toList.drop (i*2+xs.length)).toArray/\w'=(w.drew.setRow g A1).setRow g A2:=by
 have mixed:Tryz.prog.follows Departure.mixedOrders=true:=by kernel_rfl
 have hw1:IntKind.i64.wrap ((i:Int)+1)=(i:Int)+1:=by rw[IntKind.wrap_i64];omega
 have hw2:IntKind.i64.wrap ((n:Int)+1)=(n:Int)+1:=by rw[IntKind.wrap_i64];omega
 have hb1:(0:Int)<=(i:Int)+1:=by omega
 have hin:i<=n:=by omega
 have htn:((i:Int)+1).toNat=i+1:=by omega
 have hb2:¬(c=i+1):=by omega
 have hb3:(i:Int)<=(n:Int)+1:=by omega
 have hb4:¬(c=i):=by omega
 have hs0:0<cur.size:=by omega
 have hov:∀o lb cb,(callFunc 119 #[.slice (some ⟨vb,0,none⟩) 1 1,.slice (some ⟨g,o,none⟩) lb cb]).run Tryz.prog w=.ok (.value (.bool false)) w:=λo lb cb=>ovl hg oM hb hvb;obtain⟨cs,hcs⟩:∃z,z=(cur.toList.take (n*2)).drop (i*2):=⟨_,rfl⟩;have hcl:cs.length=(n-i)*2:=by rw[hcs,Go_,Gq_,Array.length_toList,hcur,Nat.min_eq_left oM];omega
 have hsz:(Tryz.prog.info? 108).map (·.size)=some 2:=by kernel_rfl
 have hmin:Nat.min (n+1-i) (n-i)=n-i:=by simp only[Nat.min_def];split<;>omega
 rw[<-hcs];obtain⟨A1,hA1⟩:∃z:Array Value,z=(cur.toList.take ((i+1)*2)++cs++cur.toList.drop ((i+1)*2+cs.length)).toArray:=⟨_,rfl⟩;have hA1s:A1.size=cur.size:=by rw[hA1,List.size_toArray];simp only[Gi_,Gq_,Go_,Array.length_toList];omega
 obtain⟨A2,hA2⟩:∃z:Array Value,z=(A1.toList.take (i*2)++xs++A1.toList.drop (i*2+xs.length)).toArray:=⟨_,rfl⟩
 have hcp1:∀ty dc sc,(Builtin.copy_ #[106,106] ty #[.slice (some ⟨g,(i+1)*2,none⟩) (n-i) dc,.slice (some ⟨g,i*2,none⟩) (n+1-i) sc]).run Tryz.prog w.drew=.ok (goInt ((n-i:Nat):Int)) (w.drew.setRow g A1):=λty dc sc=>by
  have h:=aAS (P:=Tryz.prog) w.drew 106 106 ty 108 2 g ((i+1)*2) (n-i) dc ⟨g,i*2,none⟩ (n+1-i) sc cur 108 cs u106_ hsz hg (by rw[hmin,hcl])
   (λj v hj=>by
    rw[Addr.add_lit];have hjl:=(List.getElem?_eq_some_iff.1 hj).1;rw[hcl] at hjl;rw[hcs,List.getElem?_drop,List.getElem?_take_of_lt oM] at hj;show w.cell? ⟨g,i*2+j,none⟩=some v;rw[aAj hg,<-Array.getElem?_toList];exact hj)
   oM (λv hv=>h1c v (by rw[hcs] at hv;exact List.mem_of_mem_drop hv))
  rw[hmin] at h;rw[h,hA1]
 have hg1:(w.drew.setRow g A1).heap[g]?=some (.cells A1 108 (0,0)):=setRow_heap w.drew g cur A1 108 (0,0) hg;have hb1':(w.drew.setRow g A1).heap[vb]?=some (.cells cv 108 (0,0)):=by rw[setRow_other w.drew g vb A1 hvb];exact hb
 have hmn2:Nat.min 1 (n+1-i)=1:=by simp only[Nat.min_def];split<;>omega
 have hcp2:∀(W:World),W.heap=(w.drew.setRow g A1).heap->∀ty dc,(Builtin.copy_ #[106,106] ty #[.slice (some ⟨g,i*2,none⟩) (n+1-i) dc,.slice (some ⟨vb,0,none⟩) 1 1]).run Tryz.prog W=.ok (goInt ((1:Nat):Int)) (W.setRow g A2):=λW hW ty dc=>by
  have h:=aAS (P:=Tryz.prog) W 106 106 ty 108 2 g (i*2) (n+1-i) dc ⟨vb,0,none⟩ 1 1 A1 108 xs u106_ hsz (by rw[hW];exact hg1) (by rw[hmn2,hxl])
   (λj v hj=>by
    rw[Addr.add_lit,Nat.zero_add];have h1:W.heap[vb]?=some (.cells cv 108 (0,0)):=by rw[hW];exact hb1'
    rw[aAj h1,<-Array.getElem?_toList,hxs];exact hj)
   oM h1v
  rw[hmn2] at h;rw[h,hA2]
 have hA1':=Go.Lib.hid hA1;have hA2':=Go.Lib.hid hA2;clear hcs hA1 hA2
 go_enter Tryz.func68,Tryz.ntmps68
 go_wp2_with (simp only[hov])
 go_region_law_o (refine aDF rfl _ _ 106 106 rfl _ _ (by simp[Act.eval,Act.put]) (by simp[Act.eval,Act.put]) (hcp1 _ _ _) ?_)
 go_wp2_with (at_builtin;refine aFd _ rfl _ _ 106 106 rfl _ _ rfl rfl (hcp2 _ rfl _ _) ?_)
 go_ret
 exact⟨rfl,A1,A2,hA1'.out,hA2'.out,rfl⟩
variable{α:Type}
set_option maxHeartbeats 4000000 in
set_option maxRecDepth 100000 in
theorem aRe {f:α->List Value}(X:ElT Tryz.prog f 2 106 108){g n c i:Nat}{cur cv:Array Value}(hg:w.heap[g]?=some (.cells cur 108 (0,0)))(hcur:cur.size=c*2)(hi:i<n)(hnc:n<=c)(hroom:c<n+1)(hc63:n<=100000000)(hvb:vb≠g)(hb:w.heap[vb]?=some (.cells cv 108 (0,0)))(hxs:cv.toList=xs)(hxl:xs.length=2)
  (h1c:∀v∈cur.toList.take (n*2),v.oneCell'=true) (h1v:∀v∈xs,v.oneCell'=true) :
  Calls Tryz.prog 68 #[.slice (some ⟨g,0,none⟩) n c,.int .i64 i,.slice (some ⟨vb,0,none⟩) 1 1] w λe w' =>
   ∃(G:Nat)(R0 R1 R2:Array Value),e=.returned (.slice (some ⟨w.heap.size,0,none⟩) (n+1) G)/\n+1<=G/\G<=maxLen/\R0.size=G*2/\R0.toList.take (i*2)=cur.toList.take (i*2)/\
    R1=(R0.toList.take (i*2)++xs++R0.toList.drop (i*2+xs.length)).toArray/\R2=(R1.toList.take ((i+1)*2)++(cur.toList.take (n*2)).drop (i*2)++R1.toList.drop ((i+1)*2+((cur.toList.take (n*2)).drop (i*2)).length)).toArray/\w'=((((w.alloc (.cells R0 108)).drew.setRow w.heap.size R1).drew).setRow w.heap.size R2):=by
 have mixed:Tryz.prog.follows Departure.mixedOrders=true:=by kernel_rfl
 obtain⟨i0,z0,hi0,hz0,hzs,hzc,hzb⟩:=X.info;have hz3:(c:Int)<(n:Int)+1:=by omega
 have hw1:IntKind.i64.wrap ((i:Int)+1)=(i:Int)+1:=by rw[IntKind.wrap_i64];omega
 have hw2:IntKind.i64.wrap ((n:Int)+1)=(n:Int)+1:=by rw[IntKind.wrap_i64];omega
 have hw3:IntKind.i64.wrap ((n:Int)+1-(i:Int))=(n:Int)+1-(i:Int):=by rw[IntKind.wrap_i64];omega
 have hb1:(0:Int)<=(i:Int)+1:=by omega
 have htn:((i:Int)+1).toNat=i+1:=by omega
 have hb3:(i:Int)<=(n:Int):=by omega
 have hbw:g<w.heap.size:=aAf hg;have hvw:vb<w.heap.size:=aAf hb;have hkk:(n:Int)+1-(i:Int)=((n+1-i:Nat):Int):=by omega
 have hik:i+(n+1-i)=n+1:=by omega
 obtain⟨cs,hcs⟩:∃z,z=(cur.toList.take (n*2)).drop (i*2):=⟨_,rfl⟩;have hcl:cs.length=(n-i)*2:=by rw[hcs,Go_,Gq_,Array.length_toList,hcur,Nat.min_eq_left oM];omega
 have hsz:(Tryz.prog.info? 108).map (·.size)=some 2:=by kernel_rfl
 rw[<-hcs];obtain⟨ol,hol⟩:∃z,z=cur.toList.take (i*2):=⟨_,rfl⟩;have holl:ol.length=i*2:=by rw[hol,Gq_,Array.length_toList,hcur];omega
 have hold:(Builtin.firstCells i0.size i (.slice (some ⟨g,0,none⟩) i c)).run Tryz.prog w.drew=.ok ol.toArray w.drew:=by
  rw[hzs]
  exact run_firstCells_some w.drew 2 i ⟨g,0,none⟩ i c ol holl (λj v hj=>by
   rw[Addr.add_lit,Nat.zero_add];have hjl:=(List.getElem?_eq_some_iff.1 hj).1;rw[holl] at hjl;rw[hol,List.getElem?_take_of_lt hjl] at hj;show w.cell? ⟨g,j,none⟩=some v;rw[aAj hg,<-Array.getElem?_toList];exact hj)
 have hrz:∀ty,(Builtin.append_ #[106,3] ty #[.slice (some ⟨g,0,none⟩) i c,.int .i64 ((n:Int)+1-(i:Int))]).run Tryz.prog w =
   .ok (.slice (some ⟨w.heap.size,0,none⟩) (n+1) (grownCap w (n+1) c 108)) (w.drew.alloc (.cells (ol.toArray++Builtin.zeroCells z0.cells (n+1-i)++Builtin.zeroCells z0.cells (grownCap w (n+1) c 108-(n+1))) 108)):=λty=>by
  have h:=Lib.run_append_grow_zeros (P:=Tryz.prog) w 106 3 ty 108 i0 _ .i64 .i64 u106_ u3_ hi0 hz0 (some ⟨g,0,none⟩) i c ol hold (n+1-i) oM oM oM oM (by have:=Nat.mul_le_mul (show n+1-i<=100000001 by omega) hzb;omega) (by rw[hik];exact growslice_fits hroom (by have:=Nat.mul_le_mul (show n+1<=100000001 by omega) hzb;omega));rw[hik] at h;rw[hkk];exact h
 obtain⟨G,hG⟩:∃G,G=grownCap w (n+1) c 108:=⟨_,rfl⟩;have hGn:n+1<=G:=by rw[hG];exact grownCap_ge w _ _ _
 have hGm:G<=maxLen:=by rw[hG];exact grownCap_le_maxLen w (n+1) c 108 (by unfold maxLen;omega)
 have hG63:G<=9223372036854775807:=by unfold maxLen at hGm;omega
 obtain⟨R0,hR0⟩:∃R:Array Value,R=ol.toArray++Builtin.zeroCells z0.cells (n+1-i)++Builtin.zeroCells z0.cells (G-(n+1)):=⟨_,rfl⟩;rw[<-hG,<-hR0] at hrz;have hR0s:R0.size=G*2:=by rw[hR0,Array.size_append,Array.size_append,size_zeroCells,size_zeroCells,hzc,List.size_toArray,holl];omega
 have hR0t:R0.toList.take (i*2)=cur.toList.take (i*2):=by
  rw[hR0,Array.toList_append,Array.toList_append,Gl_,<-holl,List.take_left',holl,<-hol];rfl
 obtain⟨R1,hR1⟩:∃z:Array Value,z=(R0.toList.take (i*2)++xs++R0.toList.drop (i*2+xs.length)).toArray:=⟨_,rfl⟩;have hR1s:R1.size=G*2:=by rw[hR1,List.size_toArray];simp only[Gi_,Gq_,Go_,Array.length_toList];omega
 obtain⟨R2,hR2⟩:∃z:Array Value,z=(R1.toList.take ((i+1)*2)++cs++R1.toList.drop ((i+1)*2+cs.length)).toArray:=⟨_,rfl⟩;obtain⟨W1,hW1⟩:∃W1,W1=w.drew.alloc (.cells R0 108):=⟨_,rfl⟩;have hn0:W1.heap[w.heap.size]?=some (.cells R0 108 (0,0)):=by rw[hW1];exact aAl w.drew _
 have hOg:W1.heap[g]?=some (.cells cur 108 (0,0)):=by rw[hW1];exact(aBJ (w:=w.drew) hbw _).trans hg
 have hOv:W1.heap[vb]?=some (.cells cv 108 (0,0)):=by rw[hW1];exact(aBJ (w:=w.drew) hvw _).trans hb
 have hmn2:Nat.min 1 (n+1-i)=1:=by simp only[Nat.min_def];split<;>omega
 have hcpA:∀(W:World),W.heap=W1.heap->∀ty dc,(Builtin.copy_ #[106,106] ty #[.slice (some ⟨w.heap.size,i*2,none⟩) (n+1-i) dc,.slice (some ⟨vb,0,none⟩) 1 1]).run Tryz.prog W=.ok (goInt ((1:Nat):Int)) (W.setRow w.heap.size R1):=λW hW ty dc=>by
  have h:=aAS (P:=Tryz.prog) W 106 106 ty 108 2 w.heap.size (i*2) (n+1-i) dc ⟨vb,0,none⟩ 1 1 R0 108 xs u106_ hsz (by rw[hW];exact hn0) (by rw[hmn2,hxl])
   (λj v hj=>by
    rw[Addr.add_lit,Nat.zero_add];have h1:W.heap[vb]?=some (.cells cv 108 (0,0)):=by rw[hW];exact hOv
    rw[aAj h1,<-Array.getElem?_toList,hxs];exact hj)
   oM h1v
  rw[hmn2] at h;rw[h,hR1]
 have hn1:(W1.setRow w.heap.size R1).heap[w.heap.size]?=some (.cells R1 108 (0,0)):=setRow_heap W1 w.heap.size R0 R1 108 (0,0) hn0;have hO1:(W1.setRow w.heap.size R1).heap[g]?=some (.cells cur 108 (0,0)):=by rw[setRow_other W1 w.heap.size g R1 oM];exact hOg
 have hmin:Nat.min (n-i) (n-i)=n-i:=Nat.min_self _
 have hcpB:∀(W:World),W.heap=(W1.setRow w.heap.size R1).heap->∀ty dc sc,(Builtin.copy_ #[106,106] ty #[.slice (some ⟨w.heap.size,(i+1)*2,none⟩) (n-i) dc,.slice (some ⟨g,i*2,none⟩) (n-i) sc]).run Tryz.prog W=.ok (goInt ((n-i:Nat):Int)) (W.setRow w.heap.size R2):=λW hW ty dc sc=>by
  have h:=aAS (P:=Tryz.prog) W 106 106 ty 108 2 w.heap.size ((i+1)*2) (n-i) dc ⟨g,i*2,none⟩ (n-i) sc R1 108 cs u106_ hsz (by rw[hW];exact hn1) (by rw[hmin,hcl])
   (λj v hj=>by
    rw[Addr.add_lit];have hjl:=(List.getElem?_eq_some_iff.1 hj).1;rw[hcl] at hjl;rw[hcs,List.getElem?_drop,List.getElem?_take_of_lt oM] at hj;have h1:W.heap[g]?=some (.cells cur 108 (0,0)):=by rw[hW];exact hO1
    rw[aAj h1,<-Array.getElem?_toList];exact hj)
   oM (λv hv=>h1c v (by rw[hcs] at hv;exact List.mem_of_mem_drop hv))
  rw[hmin] at h;rw[h,hR2]
 subst hW1;have hR1':=Go.Lib.hid hR1;have hR2':=Go.Lib.hid hR2;have hR0t':=Go.Lib.hid hR0t;have hR0s':=Go.Lib.hid hR0s;have hGn':=Go.Lib.hid hGn;have hGm':=Go.Lib.hid hGm;have hGi:¬(G=i):=by omega
 have hGim:¬(G=i+1):=by omega
 have hci:¬(c=i):=by omega
 clear hkk hik hold hR0 hG hR1 hR2 hR0t hR0s hcs hol hR1s hmn2 hmin hi0 hz0 hzs hzc hzb hsz hn0 hOg hOv hn1 hO1 hg hb;have hcA:∀ty dc,(Builtin.copy_ #[106,106] ty #[.slice (some ⟨w.heap.size,i*2,none⟩) (n+1-i) dc,.slice (some ⟨vb,0,none⟩) 1 1]).run Tryz.prog (w.alloc (.cells R0 108)).drew=.ok (goInt ((1:Nat):Int)) ((w.alloc (.cells R0 108)).drew.setRow w.heap.size R1):=hcpA (w.alloc (.cells R0 108)).drew rfl
 go_enter Tryz.func68,Tryz.ntmps68
 go_wp2_with (first
  | (at_builtin;refine Lib.wpList_append_run _ rfl _ _ _ _ rfl _ _ rfl rfl _ _ (hrz _) ?_)
  | simp only[hcA])
 go_region_law_o (refine aDF rfl _ _ 106 106 rfl (.slice (some ⟨w.heap.size,(i+1)*2,none⟩) (n-i) (G-(i+1))) (.slice (some ⟨g,i*2,none⟩) (n-i) (c-i)) (by simp[Act.eval,Act.put]) (by simp[Act.eval,Act.put]) (hcpB (((w.alloc (.cells R0 108)).drew.setRow w.heap.size R1).drew) rfl 3 (G-(i+1)) (c-i)) ?_)
 go_wp2
 go_ret
 exact⟨G,R0,R1,R2,rfl,hGn'.out,hGm'.out,hR0s'.out,hR0t'.out,hR1'.out,hR2'.out,rfl⟩
theorem Fr.setRow {F:Nat->Prop}{a:World}(h:Fr F a w){g:Nat}(hg:g<a.heap.size->F g)(cs:Array Value):Fr F a (w.setRow g cs) :=
 ⟨h.os,h.tape,h.output,by rw[size_setRow];exact h.size,λr hr hn=>by rw[setRow_other w g r cs (λe=>hn (e▸hg (e▸hr)))];exact h.blk r hr hn⟩
variable{v:Value}{B:Nat}
set_option maxHeartbeats 4000000 in
set_option maxRecDepth 100000 in
theorem aTS {f:α->List Value}(X:ElT Tryz.prog f 2 106 108){L:List α}{x:α}(hv:ow f 2 108 w B v L)(hb:w.heap[vb]?=some (.cells (f x).toArray 108 (0,0)))(hl:L.length<=100000000)(hB:B<=w.heap.size) :
  Calls Tryz.prog 68 #[v,.int .i64 L.length,.slice (some ⟨vb,0,none⟩) 1 1] w λe w'=>∃v',e=.returned v'/\ow f 2 108 w' B v' (L++[x])/\Fr (λk=>v.ownBlock=some k) w w'/\(v'.ownBlock=v.ownBlock\/v'.ownBlock=some w.heap.size):=by
 obtain⟨i0,z0,hi0,hz0,hzs,hzc,hzb⟩:=X.info
 obtain⟨v',w',hr,c1,c2,_,c4⟩:=run_append_own_at (P:=Tryz.prog) (w:=w) B 106 106 108 i0 z0 2 _ u106_ hi0 hz0 hzs rfl hzc oM v L.length _ hv ⟨vb,0,none⟩ 1 1 (f x) (by rw[X.len]) (λj u hj=>by
  rw[Addr.add_lit,Nat.zero_add,aAj hb,<-Array.getElem?_toList];exact hj) (X.one x) (by unfold maxLen;omega) (by have:=Nat.mul_le_mul (show L.length+1<=100000001 by omega) hzb;omega) hB
 have hfin:Hid (∃v'',(Ending.returned v')=.returned v''/\ow f 2 108 w' B v'' (L++[x])/\Fr (λk=>v.ownBlock=some k) w w'/\(v''.ownBlock=v.ownBlock\/v''.ownBlock=some w.heap.size)):=by
  refine⟨v',rfl,?_,(Fr.refl _ _).grown c2 λk hk _=>hk,c4⟩;unfold ow;rw[Gi_,List.flatMap_append];simpa using c1
 obtain⟨n,hn⟩:∃n,n=L.length:=⟨_,rfl⟩;rcases hv.2 with⟨rfl,h0⟩|⟨g,cap,cur,rfl,hg1,hg,hnc,hcm,hcs,ht⟩
 ·have hL0:(L.length:Int)=0:=by omega
  rw[hL0];clear hi0 hz0 hzs hzc hzb c1 c2 c4 hv hb hn hL0
  go_enter Tryz.func68,Tryz.ntmps68
  go_wp2_with (at_builtin;refine Lib.wpList_append_run _ rfl _ _ _ _ rfl _ _ rfl rfl _ _ hr ?_)
  go_ret
  exact hfin.out
 ·rw[<-hn] at hfin ⊢ hr hnc;have hcm':cap<=9223372036854775807:=by unfold maxLen at hcm;omega
  clear hi0 hz0 hzs hzc hzb c1 c2 c4 hv hb hg ht hcs hcm hg1
  go_enter Tryz.func68,Tryz.ntmps68
  go_wp2_with (at_builtin;refine Lib.wpList_append_run _ rfl _ _ _ _ rfl _ _ rfl rfl _ _ hr ?_)
  all_goals (go_ret;exact hfin.out)
theorem aRR {f:α->List Value}{c:Nat}(hf:∀x,(f x).length=c)(L:List α)(i:Nat)(x:α):(L.take i++x::L.drop i).flatMap f=(L.flatMap f).take (i*c)++f x++(L.flatMap f).drop (i*c):=by
 rw[List.flatMap_append,List.flatMap_cons,aCL hf,aIC hf,Gl_]
theorem aMn {f:α->List Value}(X:ElT Tryz.prog f 2 106 108){i:Nat}{L:List α}{x:α}(hv:ow f 2 108 w B v L)(hi:i<=L.length)(hb:w.heap[vb]?=some (.cells (f x).toArray 108 (0,0)))(hvb:v.ownBlock≠some vb)(hl:L.length<=100000000)(hB:B<=w.heap.size) :
  Calls Tryz.prog 68 #[v,.int .i64 i,.slice (some ⟨vb,0,none⟩) 1 1] w λe w'=>∃v',e=.returned v'/\ow f 2 108 w' B v' (L.take i++x::L.drop i)/\Fr (λk=>v.ownBlock=some k) w w'/\(v'.ownBlock=v.ownBlock\/v'.ownBlock=some w.heap.size):=by
 rcases Nat.lt_or_ge i L.length with hlt|hge
 ·rcases hv.2 with⟨rfl,h0⟩|⟨g,cap,cur,rfl,hg1,hg,hnc,hcm,hcs,ht⟩
  ·omega
  have h1c:∀u∈cur.toList.take (L.length*2),u.oneCell'=true:=λu hu=>by
   rw[ht] at hu;obtain⟨s,_,hs⟩:=List.mem_flatMap.1 hu;exact X.one s u hs
  have hcurl:cur.toList.length=cap*2:=by rw[Array.length_toList];exact hcs
  have hne:vb≠g:=λe=>hvb (by subst e;rfl);have hlen:(L.take i++x::L.drop i).length=L.length+1:=by rw[Gi_,Gf_,Gq_,Go_];omega
  have hfl:(L.flatMap f).length=L.length*2:=aAz X.len L;have hfx:=X.len x;have hcl:((L.flatMap f).drop (i*2)).length=(L.length-i)*2:=by rw[Go_,hfl];omega
  have htk:∀k,k<=L.length*2->cur.toList.take k=(L.flatMap f).take k:=λk hk=>by rw[<-ht,List.take_take,Nat.min_eq_left hk]
  rcases Nat.lt_or_ge cap (L.length+1) with hr|hr
  ·refine(aRe X hg hcs hlt hnc hr hl hne hb rfl (by simpa using hfx) h1c (by simpa using X.one x)).mono ?_;rintro e w' ⟨G,R0,R1,R2,rfl,hG1,hG2,hR0,hRt,hR1,hR2,rfl⟩;rw[ht,hcl] at hR2;rw[hRt,htk _ oM] at hR1;have hR1l:R1.toList=(L.flatMap f).take (i*2)++f x++R0.toList.drop (i*2+2):=by rw[hR1];simp[hfx]
   have hl1:((L.flatMap f).take (i*2)++f x).length=(i+1)*2:=by rw[Gi_,Gq_,hfl,hfx];omega
   have hR1t:R1.toList.take ((i+1)*2)=(L.flatMap f).take (i*2)++f x:=by rw[hR1l,<-hl1,List.take_left'];rfl
   rw[hR1t] at hR2;have hR2l:R2.toList=(L.flatMap f).take (i*2)++f x++(L.flatMap f).drop (i*2)++R1.toList.drop ((i+1)*2+(L.length-i)*2):=by rw[hR2]
   have hl2:((L.flatMap f).take (i*2)++f x++(L.flatMap f).drop (i*2)).length=(L.length+1)*2:=by rw[Gi_,hl1,hcl];omega
   have hsz:R2.size=G*2:=by
    have h1:R1.toList.length=G*2:=by rw[hR1l,Gi_,hl1,Go_,Array.length_toList,hR0];omega
    rw[<-Array.length_toList,hR2l,Gi_,hl2,Go_,h1];omega
   have hn0:(w.alloc (.cells R0 108)).drew.heap[w.heap.size]?=some (.cells R0 108 (0,0)):=aAl w _;have hn1:=setRow_heap _ w.heap.size R0 R1 108 (0,0) hn0;have hn2:=setRow_heap (((w.alloc (.cells R0 108)).drew.setRow w.heap.size R1).drew) w.heap.size R1 R2 108 (0,0) hn1;refine⟨_,rfl,?_,?_,.inr rfl⟩
   ·refine⟨aAz X.len _,.inr ⟨w.heap.size,G,R2,by rw[hlen],hB,hn2,by rw[hlen];exact hG1,hG2,hsz,?_⟩⟩;rw[hlen,aRR X.len,hR2l,<-hl2,List.take_left'];rfl
   ·exact Fr.setRow (Fr.setRow ((Fr.refl _ w).alloc _).drew (λh=>absurd h (Nat.lt_irrefl _)) _).drew (λh=>absurd h (Nat.lt_irrefl _)) _
  ·refine(aOx hg hcs hlt hr hl (by unfold maxLen at hcm;omega) hne hb rfl (by simpa using hfx) h1c (by simpa using X.one x)).mono ?_;rintro e w' ⟨rfl,A1,A2,hA1,hA2,rfl⟩;rw[ht,hcl] at hA1
   have hA1t:A1.toList.take (i*2)=(L.flatMap f).take (i*2):=by
    rw[hA1,Gl_,List.take_append_of_le_length (by rw[Gq_,Array.length_toList];omega),List.take_take,Nat.min_eq_left oM,htk _ oM]
   have hc0:(cur.toList.take ((i+1)*2)).length=(i+1)*2:=by rw[Gq_,Array.length_toList];omega
   have hA1d:A1.toList.drop ((i+1)*2)=(L.flatMap f).drop (i*2)++cur.toList.drop ((i+1)*2+(L.length-i)*2):=by
    rw[hA1,Gl_];exact List.drop_left' hc0
   have hA1s:A1.size=cap*2:=by rw[hA1,List.size_toArray,Gi_,Gi_,hc0,hcl,Go_,hcurl];omega
   have hl1:((L.flatMap f).take (i*2)++f x).length=(i+1)*2:=by rw[Gi_,Gq_,hfl,hfx];omega
   have hl2:((L.flatMap f).take (i*2)++f x++(L.flatMap f).drop (i*2)).length=(L.length+1)*2:=by rw[Gi_,hl1,hcl];omega
   have hA2l:A2.toList=(L.flatMap f).take (i*2)++f x++(L.flatMap f).drop (i*2)++cur.toList.drop ((i+1)*2+(L.length-i)*2):=by
    rw[hA2,hA1t];have e:i*2+(f x).length=(i+1)*2:=by rw[hfx];omega
    have e2:(f x).toArray.toList=f x:=rfl;rw[e2,e,hA1d];simp[Gl_]
   have hsz:A2.size=cap*2:=by
    have h:=congrArg List.length hA2l;rw[Gi_,hl2,Go_,hcurl,Array.length_toList] at h;omega
   have hn1:=setRow_heap w.drew g cur A1 108 (0,0) hg;have hn2:=setRow_heap (w.drew.setRow g A1) g A1 A2 108 (0,0) hn1;refine⟨_,rfl,?_,?_,.inl rfl⟩
   ·refine⟨aAz X.len _,.inr ⟨g,cap,A2,by rw[hlen],hg1,hn2,by rw[hlen];exact hr,hcm,hsz,?_⟩⟩;rw[hlen,aRR X.len,hA2l,<-hl2,List.take_left'];rfl
   ·exact Fr.setRow (F:=λk=>(Value.slice (some ⟨g,0,none⟩) L.length cap).ownBlock=some k) (Fr.setRow (Fr.refl (λk=>(Value.slice (some ⟨g,0,none⟩) L.length cap).ownBlock=some k) w).drew (λ_=>rfl) _) (λ_=>rfl) _
 ·obtain rfl:i=L.length:=by omega
  refine(aTS X hv hb hl hB).mono ?_;rintro e w' ⟨v',h1,h2,h3,h4⟩;exact⟨v',h1,by rw[List.take_length,List.drop_length];exact h2,h3,h4⟩
theorem ofL_of (s:ByteArray):ofL s.toList=s:=by
 rw[ByteArray.toList_eq];unfold ofL;simp
def cdR (l:List Ob)(h:Nat)(q:QdR)(z:Pt)(s:ShR):Option Ca:=bif aA2 h q s.o then some (s.o.o.id,sqP l s z) else none
def cdI (l:List Ob)(h:Nat)(q:QdR)(z:Pt)(S:List ShR)(id:Bys):Option Ca:=(S.find? λs=>s.o.o.id==id).bind (cdR l h q z)
variable{s:ShR}{S:List ShR}{h:Nat}
theorem aIS {l:List Ob}{q:QdR}{z:Pt}(hp:S.Pairwise λa b=>blt a.o.o.id b.o.o.id=true)(hs:s∈S):cdI l h q z S s.o.o.id=cdR l h q z s:=by
 unfold cdI
 cases hf:S.find? λt=>t.o.o.id==s.o.o.id with
 | none =>
  have:=List.find?_eq_none.1 hf s hs;simp at this
 | some t =>
  have h1:=List.find?_some hf;have h2:=List.mem_of_find?_eq_some hf;rw[aGA hp h2 hs (by simpa using h1)];rfl
def fC (L:List Ca):List Ca:=L.foldl (λb c=>aDa c b) []
def beC (n:Nat)(L:List Ca):List Ca:=L.foldl (λb c=>(aDa c b).take n) []
theorem aFy (n:Nat)(L:List Ca):beC n L=(fC L).take n:=by
 have:=aIV n L []
 rwa[List.take_nil] at this
theorem aRB (n:Nat)(L:List Ca)(c:Ca):beC n (L++[c])=(aDa c (beC n L)).take n:=by unfold beC;rw[List.foldl_append];rfl
theorem aOC:∀(L b:List Ca),aKt b->(∀c∈L,∀a∈b,a.1≠c.1)->(L.map (·.1)).Nodup->aKt (L.foldl (λb c=>aDa c b) b)/\∀x,x∈L.foldl (λb c=>aDa c b) b↔x∈L\/x∈b
 | [],b,h,_,_=>⟨h,λx=>by simp⟩
 | c::L,b,h,hn,hd=>by
  rw[List.map_cons,List.nodup_cons] at hd
  have ih:=aOC L (aDa c b) (aOw h (hn c (.head _))) (λd hdL a ha=>by
   rcases aHA.1 ha with rfl|ha
   ·intro e;exact hd.1 (e▸List.mem_map.2 ⟨d,hdL,rfl⟩)
   ·exact hn d (.tail _ hdL) a ha) hd.2
  refine⟨ih.1,λx=>?_⟩;rw[List.foldl_cons,ih.2 x,aHA,List.mem_cons];constructor
  ·rintro(h|h|h)
   ·exact .inl (.inr h)
   ·exact .inl (.inl h)
   ·exact .inr h
  ·rintro((h|h)|h)
   ·exact .inr (.inl h)
   ·exact .inl h
   ·exact .inr (.inr h)
theorem aRr {L:List Ca}(hd:(L.map (·.1)).Nodup):aKt (fC L)/\∀x,x∈fC L↔x∈L:=by
 have h:=aOC L [] .nil (λ_ _ _ h=>by cases h) hd;exact⟨h.1,λx=>by have:=h.2 x;simpa[fC] using this⟩
theorem aOB:∀(L b:List Ca),(L.foldl (λb c=>aDa c b) b).length=L.length+b.length
 | [],b=>by simp
 | c::L,b=>by rw[List.foldl_cons,aOB L,aFY,Gf_];omega
theorem aIg {L:List Ca}(n:Nat)(h:aKt L):aKt (L.take n):=List.Pairwise.sublist (List.take_sublist n L) h
def cnL (l:List Ob)(h:Nat)(q:QdR)(z:Pt)(S:List ShR)(R:List Bys):List Ca:=R.filterMap (cdI l h q z S)
variable{y:Bys}{k:Nat}{R:List Bys}
section
variable{l:List Ob}{q:QdR}{z:Pt}
theorem aKj (hp:S.Pairwise λa b=>blt a.o.o.id b.o.o.id=true)(hR:∀x∈R,∃s∈S,s.o.o.id=x){c:Ca}:c∈cnL l h q z S R↔∃s∈S,s.o.o.id∈R/\cdR l h q z s=some c:=by
 unfold cnL;rw[List.mem_filterMap];constructor
 ·rintro⟨x,hx,hc⟩;obtain⟨s,hs,rfl⟩:=hR x hx;rw[aIS hp hs] at hc;exact⟨s,hs,hx,hc⟩
 ·rintro⟨s,hs,hx,hc⟩;exact⟨_,hx,by rw[aIS hp hs];exact hc⟩
theorem aLv {c:Ca}(hc:cdR l h q z s=some c):c=(s.o.o.id,sqP l s z):=by
 unfold cdR at hc
 cases ha:aA2 h q s.o with
 | true=>rw[ha] at hc;exact(Gh_ hc).symm
 | false=>rw[ha] at hc;cases hc
theorem aOT (hp:S.Pairwise λa b=>blt a.o.o.id b.o.o.id=true)(hd:R.Nodup)(hR:∀x∈R,∃s∈S,s.o.o.id=x):((cnL l h q z S R).map (·.1)).Nodup:=by
 have e:∀T:List Bys,(∀x∈T,∃s∈S,s.o.o.id=x)->((cnL l h q z S T).map (·.1)).Sublist T:=by
  intro T
  induction T with
  | nil=>intro _;exact .slnil
  | cons x T ih =>
   intro hT;have ih:=ih λy hy=>hT y (.tail _ hy);obtain⟨s,hs,rfl⟩:=hT x (.head _);unfold cnL at ih ⊢;rw[List.filterMap_cons,aIS hp hs]
   cases hc:cdR l h q z s with
   | none=>exact ih.cons _
   | some c =>
    rw[List.map_cons,aLv hc];exact ih.cons_cons _
 exact(e R hR).nodup hd
theorem aWx (hp:S.Pairwise λa b=>blt a.o.o.id b.o.o.id=true)(hy:R[k]?=some y)(hs:s∈S)(e:s.o.o.id=y)(hn:aA2 h q s.o=false):cnL l h q z S (R.take (k+1))=cnL l h q z S (R.take k):=by
 subst e;unfold cnL;rw[gt_ hy,List.filterMap_append];have:cdR l h q z s=none:=by unfold cdR;rw[hn];rfl
 simp[aIS hp hs,this]
theorem aUk (hp:S.Pairwise λa b=>blt a.o.o.id b.o.o.id=true)(hy:R[k]?=some y)(hs:s∈S)(e:s.o.o.id=y)(hn:aA2 h q s.o=true):cnL l h q z S (R.take (k+1))=cnL l h q z S (R.take k)++[(y,sqP l s z)]:=by
 subst e;unfold cnL;rw[gt_ hy,List.filterMap_append];have:cdR l h q z s=some (s.o.o.id,sqP l s z):=by unfold cdR;rw[hn];rfl
 simp[aIS hp hs,this]
end
structure NeR (l:List Ob)(S:List ShR)(z:Pt)(R:List Bys):Prop where
 nd:R.Nodup
 mem:∀x,x∈R↔∃s∈S,s.o.o.id=x
 len:R.length=S.length
 ord:∀(i j:Nat)(x y:Bys),i<=j->R[i]?=some x->R[j]?=some y->∀s∈S,∀t∈S,s.o.o.id=x->t.o.o.id=y->dsB (aAc (s.P l)) z<=dsB (aAc (t.P l)) z
theorem aVF {l:List Ob}{z:Pt}(hp:S.Pairwise λa b=>blt a.o.o.id b.o.o.id=true)(h:NeS (bxS l S) z (S.length:Int) R):NeR l S z R:=by
 obtain⟨L,hL,rfl⟩:=h
 have hmS:∀s b,(s,b)∈L↔∃t∈S,t.o.o.id=s.toList/\b=aAc (t.P l):=λs b=>by
  rw[hL.2 s b];exact aEM hp
 have hSn:(S.map λs=>(ofL s.o.o.id,aAc (s.P l))).Nodup:=by
  unfold List.Nodup;rw[List.pairwise_map];refine hp.imp λ{a b} hab e=>?_;have e1:ofL a.o.o.id=ofL b.o.o.id:=congrArg Prod.fst e;rw[aJE.1 e1,aA0] at hab;cases hab
 have hLn:L.Nodup:=by
  have:=hL.1;unfold List.Nodup at this ⊢;rw[List.pairwise_map] at this;exact this.imp λ{a b} hab e=>hab (by rw[e])
 have hperm:L.Perm (S.map λs=>(ofL s.o.o.id,aAc (s.P l))):=(List.perm_ext_iff_of_nodup hLn hSn).2 λa=>by
  obtain⟨s,b⟩:=a;rw[hmS,List.mem_map];constructor
  ·rintro⟨t,ht,e1,e2⟩;exact⟨t,ht,by rw[e1,ofL_of,e2]⟩
  ·rintro⟨t,ht,e⟩;cases e;exact⟨t,ht,by rw[aAF],rfl⟩
 have hlen:L.length=S.length:=by rw[hperm.length_eq,Gp_]
 have hsp:=aCE z L;have hsl:(aJn z L).length=S.length:=by rw[hsp.length_eq,hlen]
 have htk:(aJn z L).take ((S.length:Int)).toNat=aJn z L:=Gc_ (by rw[hsl];omega);rw[htk];refine⟨?_,λx=>?_,by rw[Gp_,hsl],?_⟩
 ·have h1:((aJn z L).map (·.1)).Nodup:=(hsp.map _).nodup_iff.2 hL.1;unfold List.Nodup at h1 ⊢;rw[List.pairwise_map] at h1 ⊢;exact h1.imp λ{a b} hab e=>hab (by rw[<-ofL_of a.1,<-ofL_of b.1,e])
 ·rw[List.mem_map];constructor
  ·rintro⟨⟨s,b⟩,ha,rfl⟩;obtain⟨t,ht,e,_⟩:=(hmS s b).1 (hsp.mem_iff.1 ha);exact⟨t,ht,e⟩
  ·rintro⟨t,ht,rfl⟩;exact⟨(ofL t.o.o.id,aAc (t.P l)),hsp.mem_iff.2 ((hmS _ _).2 ⟨t,ht,by rw[aAF],rfl⟩),aAF _⟩
 ·intro i j x y hij hx hy s hs t ht es et;rw[Gr_] at hx hy;obtain⟨a,ha,rfl⟩:=Option.map_eq_some_iff.1 hx;obtain⟨b,hb,rfl⟩:=Option.map_eq_some_iff.1 hy
  have ea:a.2=aAc (s.P l):=by
   obtain⟨u,hu,e1,e2⟩:=(hmS a.1 a.2).1 (hsp.mem_iff.1 (Ge_ ha));rw[e2,aGA hp hu hs (by rw[e1,es])]
  have eb:b.2=aAc (t.P l):=by
   obtain⟨u,hu,e1,e2⟩:=(hmS b.1 b.2).1 (hsp.mem_iff.1 (Ge_ hb));rw[e2,aGA hp hu ht (by rw[e1,et])]
  rw[<-ea,<-eb];rcases Nat.lt_or_ge i j with hlt|hge
  ·have hpw:=aHf (pt:=z) hL.1;obtain⟨hi,rfl⟩:=List.getElem?_eq_some_iff.1 ha;obtain⟨hj,rfl⟩:=List.getElem?_eq_some_iff.1 hb;have:=List.pairwise_iff_getElem.1 hpw i j hi hj hlt;unfold ns at this;omega
  ·have:i=j:=by omega
   subst this;rw[Gh_ (ha.symm.trans hb)];exact Int.le_refl _
theorem aVu {l:List Ob}{z:Pt}(hN:ShN l s)(hG:ShG l s)(hz:onG z):dsB (aAc (s.P l)) z<=sqP l s z:=by
 have hb:dsB (aAc (s.P l)) z=aM7 (aAc (s.P l)) z:=by
  unfold dsB dx aM7 aFg;have e:∀a b:Int,max (max a b) 0=max a (max 0 b):=λa b=>by omega
  rw[e,e]
 rw[hb];have hs:∀p∈s.P l,aDP (aAc (s.P l)) p:=λp hp=>aEN hp;unfold sqP
 cases ha:arP l s z with
 | true =>
  rw[cond_true]
  by_cases hi:aDP (aAc (s.P l)) z
  ·unfold aM7 aFg;unfold aDP at hi;have e1:max ((aAc (s.P l)).1.1-z.1) (max 0 (z.1-(aAc (s.P l)).2.1))=0:=by omega
   have e2:max ((aAc (s.P l)).1.2-z.2) (max 0 (z.2-(aAc (s.P l)).2.2))=0:=by omega
   rw[e1,e2];decide
  ·exfalso;have hf:∃d,d<4/\aUS (aAc (s.P l)) (z,z) 0 d:=aS1 λhm=>hi (by unfold mtB wdB at hm;unfold aDP;dsimp only at hm;omega);obtain⟨d,hd,hf⟩:=hf;have:=aKC (Int.le_refl 0) hs (b:=(z,z)) (z:=z) (by unfold aDP;dsimp only;omega) hd hf;unfold arP at ha;rw[this] at ha
   revert ha
   cases(s.o.o.kind==3)<;>cases aDU (s.P l)<;>decide
 | false =>
  rw[cond_false];have q:=aQT hG;have nr:∀x∈s.L l,aM7 (aAc (s.P l)) z<=aAA x z:=λx hx=>aFr (hs _ (aAG hx).1) (hs _ (aAG hx).2) (by simp[aCn (q x hx).1,aCn (q x hx).2,aCn hz]);exact aLc _ _ (nr _ (aFv hN)) λx hx=>nr x hx
theorem aUu {l:List Ob}{q:QdR}{z:Pt}{n:Nat}{a:Ca}(hp:S.Pairwise λa b=>blt a.o.o.id b.o.o.id=true)(hR:NeR l S z R)(hN:∀s∈S,ShN l s)(hG:∀s∈S,ShG l s)(hz:onG z)(hy:R[k]?=some y)(hs:s∈S)(e:s.o.o.id=y)(hn:(beC n (cnL l h q z S (R.take k))).length=n)(hn0:0<n)(ha:(beC n (cnL l h q z S (R.take k)))[n-1]?=some a)(hd:a.2+1<dsB (aAc (s.P l)) z):beC n (cnL l h q z S R)=beC n (cnL l h q z S (R.take k)):=by
 have hRm:∀x∈R,∃s∈S,s.o.o.id=x:=λx hx=>(hR.mem x).1 hx
 have e1:cnL l h q z S R=cnL l h q z S (R.take k)++cnL l h q z S (R.drop k):=by
  unfold cnL;rw[<-List.filterMap_append,List.take_append_drop]
 have hnd:((cnL l h q z S (R.take k)).map (·.1)).Nodup:=aOT hp (List.Pairwise.sublist (List.take_sublist k R) hR.nd) λx hx=>hRm x (List.mem_of_mem_take hx);have hsrt:=(aRr hnd).1;rw[aFy] at hn ha ⊢;rw[aFy,e1];unfold fC at hn ha ⊢ hsrt;rw[List.foldl_append]
 have hlen:n<=((cnL l h q z S (R.take k)).foldl (λb c=>aDa c b) []).length:=by
  rw[Gq_] at hn;omega
 refine aIW hlen λb hb c hc=>?_
 have hb2:b.2<=a.2:=by
  obtain⟨i,hi,rfl⟩:=List.getElem_of_mem hb;rw[Gq_] at hi;obtain⟨hj,hj2⟩:=List.getElem?_eq_some_iff.1 ha;have hs2:=aIg n hsrt;rcases Nat.lt_or_ge i (n-1) with hlt|hge
  ·have:=List.pairwise_iff_getElem.1 hs2 i (n-1) (by rw[Gq_];omega) hj hlt;rw[hj2] at this;unfold aDf at this;simp only[Bool.or_eq_true,decide_eq_true_eq,Ga_,beq_iff_eq] at this;omega
  ·have:i=n-1:=by omega
   subst this;rw[hj2];exact Int.le_refl _
 obtain⟨t,ht,htR,htc⟩:=(aKj hp (R:=R.drop k) λx hx=>hRm x (List.mem_of_mem_drop hx)).1 hc;have hc2:=aLv htc;obtain⟨i,hi⟩:=List.getElem?_of_mem htR;rw[List.getElem?_drop] at hi;have h1:=hR.ord k (k+i) y t.o.o.id oM hy hi s hs t ht e rfl;have h2:=aVu (hN t ht) (hG t ht) hz;unfold aDf;rw[hc2,decide_eq_true (by dsimp only;omega)];rfl
def aGx (l:List Ob)(h:Nat)(q:QdR)(S:List ShR)(z:Pt):List (Bys×Int):=((fC (S.filterMap (cdR l h q z))).take q.n.toNat).map λc=>(c.1,aAN c.2)
theorem aQL {l:List Ob}{q:QdR}{z:Pt}(hp:S.Pairwise λa b=>blt a.o.o.id b.o.o.id=true)(hR:NeR l S z R):(beC q.n.toNat (cnL l h q z S R)).map (λc=>(c.1,aAN c.2))=aGx l h q S z:=by
 unfold aGx;rw[aFy];have hRm:∀x∈R,∃s∈S,s.o.o.id=x:=λx hx=>(hR.mem x).1 hx;have h1:=aRr (aOT (l:=l) (h:=h) (q:=q) (z:=z) hp hR.nd hRm)
 have hSn:((S.filterMap (cdR l h q z)).map (·.1)).Nodup:=by
  have e:∀T:List ShR,((T.filterMap (cdR l h q z)).map (·.1)).Sublist (T.map (·.o.o.id)):=by
   intro T
   induction T with
   | nil=>exact .slnil
   | cons s T ih =>
    rw[List.filterMap_cons,List.map_cons]
    cases hc:cdR l h q z s with
    | none=>exact ih.cons _
    | some c=>rw[List.map_cons,aLv hc];exact ih.cons_cons _
  refine(e S).nodup ?_;unfold List.Nodup;rw[List.pairwise_map];exact hp.imp λ{a b} hab e=>by rw[e,aA0] at hab;cases hab
 have h2:=aRr hSn
 rw[aF7 h1.1 h2.1 λx=>by
  rw[h1.2,h2.2,aKj hp hRm,List.mem_filterMap];exact⟨λ⟨s,hs,_,hc⟩=>⟨s,hs,hc⟩,λ⟨s,hs,hc⟩=>⟨s,hs,(hR.mem _).2 ⟨s,hs,rfl⟩,hc⟩⟩]
theorem aW5 {l:List Ob}{q:QdR}{z:Pt}{n:Nat}(hp:S.Pairwise λa b=>blt a.o.o.id b.o.o.id=true)(hR:NeR l S z R)(hN:∀s∈S,ShN l s)(hG:∀s∈S,ShG l s)(hz:onG z):aKt (beC n (cnL l h q z S (R.take k)))/\(∀a∈beC n (cnL l h q z S (R.take k)),0<=a.2/\a.2<=4611686018427387904)/\(beC n (cnL l h q z S (R.take k))).length<=n/\(beC n (cnL l h q z S (R.take k))).length<=S.length:=by
 have hRm:∀x∈R.take k,∃s∈S,s.o.o.id=x:=λx hx=>(hR.mem x).1 (List.mem_of_mem_take hx);have hnd:((cnL l h q z S (R.take k)).map (·.1)).Nodup:=aOT hp (List.Pairwise.sublist (List.take_sublist k R) hR.nd) hRm;have h1:=aRr hnd;rw[aFy];refine⟨aIg n h1.1,λa ha=>?_,by rw[Gq_];omega,?_⟩
 ·obtain⟨s,hs,_,hc⟩:=(aKj hp hRm).1 ((h1.2 a).1 (List.mem_of_mem_take ha));rw[aLv hc];exact⟨aRQ (hN s hs) (hG s hs) hz,Int.le_trans (aNe _ _ _) dE⟩
 ·have h2:=aOB (cnL l h q z S (R.take k)) [];have h3:(cnL l h q z S (R.take k)).length<=(R.take k).length:=List.length_filterMap_le _ _;have h5:=hR.len;unfold fC;have h6:(R.take k).length<=R.length:=List.length_take_le' k R;rw[Gq_,h2,Gm_];omega
theorem aZp :Ft.ok Tryz.prog w (.g2 (λx y =>.binOp .eql 95 x y 95) (.pointer none) (.pointer none) (vB true)):=λo ρ x y ho hx hy=>by simp[execOp,ho,hx,hy,go_sem,u95_]
theorem aZo (b:Nat) :Ft.ok Tryz.prog w (.g2 (λx y =>.binOp .eql 95 x y 95) (vP b 0) (.pointer none) (vB false)):=λo ρ x y ho hx hy=>by simp[execOp,ho,hx,hy,go_sem,u95_]
variable{u:ShR}
theorem aSJ {l:List Ob}(hv:aAh l=true)(hN:ShN l u){n:Int}(h0:0<=n)(hn:n<=524288):okB (wdB (aAc (u.P l)) (n+1)):=by
  have:=aPm hv hN;unfold okB wdB isP isI
  dsimp only
  omega
theorem aUb:okB ((0,0),(1048576,1048576)):=by decide
variable{G S0:Nat->Prop}{mb bs cp0:Nat}{os:List ObR}{p0:Option Addr}
theorem aMB {wB:World}(hfB:Fr nF_ wB w)(hG:∀k,G k->wB.heap.size<=k){fb xi ns:Nat}(hm:aCt wB (vL p0 os.length cp0) os)(hvm:aAh (aAa os)=true){q:QdR}(hq:QdIn wB B h q)(hBw:B<=wB.heap.size)(hTe:Te wB)(hSh:aE1 (aAa os) os S)(hol:os.length<=100000)(hns:ns=S.length)(hno:∀s∈S,s.o.o.id≠q.id)(hM:Mm G w w [bk fb (fY_ (vL p0 os.length cp0) q (.map (some bs)) (vP xi 0)) 93,mp Tryz.prog 9 bs ns (shF S),ixO xi mb ns (bxS (aAa os) S) S0,aBQ (S.map (shE (aAa os)))]):Calls Tryz.prog 30 #[vP fb 0] w λe w'=>∃u,e=.returned (.tuple #[u,vI 0])/\Mm G w w' [rw_ rwL 2 42 u []]:=by
  have hm0:=hm;obtain⟨hs0,hob⟩:=hm0;have hSl:S.length<=os.length:=by have:=congrArg List.length hSh;rw[Gp_] at this;have h2:=List.length_filter_le (λb:ObR=>(aAd (aAa os) b.o.id).1==0) os;omega
  have hlu:=aKE hno;refine beg Tryz.func30 rfl rfl [(0,vP fb 0)] rfl rfl λZ hZ=>?_
  skip
  refine seg 1 0 [] f0 ?_;have hM:=hM.q ((Fr.refl _ _).drew);refine drq [(4,.pointer none)] rfl (fc (ldm 90 0 15 hM rfl rfl) (fc (ldm 9 0 8 hM rfl rfl) (fc (rz2 (lk 90 1 (vS q.id) (.pointer none) hM rfl aEi u90_ (aE2 hq.id) (aG2 _)) hlu) f0))) (rt2 2 3 (vL none 0 0) (vI 0) rfl rfl (fc (aZp (w:=_)) f0) (hZ _ _ ⟨_,rfl,(hM.pick (M':=[]) []).row⟩))
abbrev aYX (Z:Ending->World->Prop):=AtO Tryz.prog (aAv Tryz.f30) (aAI (bodyPost Tryz.prog Tryz.f30 Z)) [] 126
theorem aKq {wB:World}(hfB:Fr nF_ wB w)(hG:∀k,G k->wB.heap.size<=k){fb xi ns:Nat}(hm:aCt wB (vL p0 os.length cp0) os)(hvm:aAh (aAa os)=true){q:QdR}(hq:QdIn wB B h q)(hBw:B<=wB.heap.size)(hTe:Te wB)(hSh:aE1 (aAa os) os S)(hol:os.length<=100000)(hns:ns=S.length){wa:ShR}(hswa:wa∈S)(huq:wa.o.o.id=q.id)(huk:wa.o.o.kind=2)(h0:0<=q.n)(hn:q.n<=1048576)(hM:Mm G w w [bk fb (fY_ (vL p0 os.length cp0) q (.map (some bs)) (vP xi 0)) 93,mp Tryz.prog 9 bs ns (shF S),ixO xi mb ns (bxS (aAa os) S) S0,aBQ (S.map (shE (aAa os)))]):Calls Tryz.prog 30 #[vP fb 0] w λe w'=>∃u',e=.returned (.tuple #[u',vI 0])/\Mm G w w' [rw_ rwL 2 42 u' (aEy (aAa os) h q S wa)]:=by
  have hm0:=hm;obtain⟨hs0,hob⟩:=hm0;have hpw:=aVx hvm hSh;have hSl:S.length<=os.length:=by have:=congrArg List.length hSh;rw[Gp_] at this;have h2:=List.length_filter_le (λb:ObR=>(aAd (aAa os) b.o.id).1==0) os;omega
  have hNs9:ns<=100000:=by omega
  have hlu:=aFk hpw hswa huq;have hNwa:ShN (aAa os) wa:=aUP hvm rfl hSh hswa;refine beg Tryz.func30 rfl rfl [(0,vP fb 0)] rfl rfl λY hY=>?_
  skip
  have hbd:=aPm hvm hNwa;refine seg 1 0 [] f0 ?_;have hM:=hM.q ((Fr.refl _ _).drew);refine drq [(4,vP wa.b 0)] rfl (fc (ldm 90 0 15 hM rfl rfl) (fc (ldm 9 0 8 hM rfl rfl) (fc (rz2 (lk 90 1 (vS q.id) (.pointer none) hM rfl aEi u90_ (aE2 hq.id) (aG2 _)) hlu) f0))) (aAw 4 4 30 [(29,vL wa.pp (wa.P (aAa os)).length wa.pc)] (fc (aZo wa.b) (fc (ld0 100 (Mm.nil nF_ _) (bx (aQa hM (j:=3) rfl hswa).blk 7 rfl)) f0)) hM (aFb (aQa hM (j:=3) rfl hswa).pt hNwa.2) λw1 hM=>aBW 4 5 5 [] [] 97 (.agg #[vI (aAc (wa.P (aAa os))).1.1,vI (aAc (wa.P (aAa os))).1.2,vI (aAc (wa.P (aAa os))).2.1,vI (aAc (wa.P (aAa os))).2.2]) f0 hM λac w1 hM=>aBW 6 23 7 [(59,.agg #[vI ((aAc (wa.P (aAa os))).1.1-(q.n+1)),vI ((aAc (wa.P (aAa os))).1.2-(q.n+1)),vI ((aAc (wa.P (aAa os))).2.1+(q.n+1)),vI ((aAc (wa.P (aAa os))).2.2+(q.n+1))])] [] 97 (.agg #[vI ((aAc (wa.P (aAa os))).1.1-(q.n+1)),vI ((aAc (wa.P (aAa os))).1.2-(q.n+1)),vI ((aAc (wa.P (aAa os))).2.1+(q.n+1)),vI ((aAc (wa.P (aAa os))).2.2+(q.n+1))]) (fc (ldm 3 0 9 hM rfl rfl) (fc (aAP q.n 1 u3_) (fc (ldm 3 4 0 hM rfl rfl) (fc (aGq (aAc (wa.P (aAa os))).1.1 (q.n+1) u3_) (fc (ldm 3 4 1 hM rfl rfl) (fc (aGq (aAc (wa.P (aAa os))).1.2 (q.n+1) u3_) (fc (ldm 3 4 2 hM rfl rfl) (fc (aAP (aAc (wa.P (aAa os))).2.1 (q.n+1) u3_) (fc (ldm 3 4 3 hM rfl rfl) (fc (aAP (aAc (wa.P (aAa os))).2.2 (q.n+1) u3_) f0)))))))))) hM λad w1 hM=>seg 7 0 [] f0 (drx [5] (λZ=>[some ((Z 0))]) _ (λZ l=>[bk fb (fY_ (vL p0 os.length cp0) q (.map (some bs)) (vP xi 0)) 93,mp Tryz.prog 9 bs ns (shF S),(bif l.getD 0 false then pfE ((inK xi mb ns (bxS (aAa os) S) ((((aAc (wa.P (aAa os))).1.1-(q.n+1)),((aAc (wa.P (aAa os))).1.2-(q.n+1))),(((aAc (wa.P (aAa os))).2.1+(q.n+1)),((aAc (wa.P (aAa os))).2.2+(q.n+1))))) (Z 0)) (Z.e 0) else ixO xi mb ns (bxS (aAa os) S) S0),aBQ (S.map (shE (aAa os))),bk ac #[vI (aAc (wa.P (aAa os))).1.1,vI (aAc (wa.P (aAa os))).1.2,vI (aAc (wa.P (aAa os))).2.1,vI (aAc (wa.P (aAa os))).2.2] 97,bk ad #[vI ((aAc (wa.P (aAa os))).1.1-(q.n+1)),vI ((aAc (wa.P (aAa os))).1.2-(q.n+1)),vI ((aAc (wa.P (aAa os))).2.1+(q.n+1)),vI ((aAc (wa.P (aAa os))).2.2+(q.n+1))] 97]) (λZ=>[(8,(Z 0))]) hM (λZ=>rfl) (λZ l w5 hM=>(fc (ldm 91 0 16 hM rfl rfl) (fc (lam 97 5 0 4 hM rfl) f0))) ⟨aPt 0 5 2 65 (f:=59) (λZ=>#[vP xi 0,.agg #[vI ((aAc (wa.P (aAa os))).1.1-(q.n+1)),vI ((aAc (wa.P (aAa os))).1.2-(q.n+1)),vI ((aAc (wa.P (aAa os))).2.1+(q.n+1)),vI ((aAc (wa.P (aAa os))).2.2+(q.n+1))]]) (λZ=>ixO xi mb ns (bxS (aAa os) S) S0) (inK xi mb ns (bxS (aAa os) S) ((((aAc (wa.P (aAa os))).1.1-(q.n+1)),((aAc (wa.P (aAa os))).1.2-(q.n+1))),(((aAc (wa.P (aAa os))).2.1+(q.n+1)),((aAc (wa.P (aAa os))).2.2+(q.n+1))))) (λZ fr wm hM hm=>aSp hm hNs9 ((((aAc (wa.P (aAa os))).1.1-(q.n+1)),((aAc (wa.P (aAa os))).1.2-(q.n+1))),(((aAc (wa.P (aAa os))).2.1+(q.n+1)),((aAc (wa.P (aAa os))).2.2+(q.n+1))))),trivial⟩ λah w1 hM=>?_));replace hM:Mm G w w1 [bk fb (fY_ (vL p0 os.length cp0) q (.map (some bs)) (vP xi 0)) 93,_,pfE ((inK xi mb ns (bxS (aAa os) S) ((((aAc (wa.P (aAa os))).1.1-(q.n+1)),((aAc (wa.P (aAa os))).1.2-(q.n+1))),(((aAc (wa.P (aAa os))).2.1+(q.n+1)),((aAc (wa.P (aAa os))).2.2+(q.n+1))))) (ah 0)) (ah.e 0),_,bk ac #[vI (aAc (wa.P (aAa os))).1.1,vI (aAc (wa.P (aAa os))).1.2,vI (aAc (wa.P (aAa os))).2.1,vI (aAc (wa.P (aAa os))).2.2] 97,bk ad #[vI ((aAc (wa.P (aAa os))).1.1-(q.n+1)),vI ((aAc (wa.P (aAa os))).1.2-(q.n+1)),vI ((aAc (wa.P (aAa os))).2.1+(q.n+1)),vI ((aAc (wa.P (aAa os))).2.2+(q.n+1))] 97]:=hM
  have cu256:∀(R:List Bys)(qi:Option Addr)(ci:Nat)(B9:Pt×Pt)(w2:World),InS (bxS (aAa os) S) B9 R->(∀s∈S,¬mtB (aAc (s.P (aAa os))) B9->alR (aAa os) h q wa s=none)->Mm G w w2 [bk fb (fY_ (vL p0 os.length cp0) q (.map (some bs)) (vP xi 0)) 93,mp Tryz.prog 9 bs ns (shF S),aBQ (S.map (shE (aAa os))),rw_ stL 1 9 (vL qi R.length ci) R]->aYX Y (some (10,0)) [(8,vL qi R.length ci),(4,vP wa.b 0),(0,vP fb 0)] w2:=by
   intro R qi ci B9 w2 hIn2 hfar hM;have hRl:=aWi hpw hIn2;have hM:=hM.pick [0,1,2,3];have hM:=hM.row (f:=rwL) (c:=2) (E:=42);replace hM:Mm G w _ [bk fb (fY_ (vL p0 os.length cp0) q (.map (some bs)) (vP xi 0)) 93,_,_,_,_]:=hM;refine seg 12 0 [(9,vL none 0 0),(79,vL qi R.length ci),(80,vI (R.length:Int)),(81,vI 0)] f0 ?_
   have aq:∀(am:Nat)(k:Nat)(vo:Value)(w2:World),k<=R.length->Mm G w w2 [bk fb (fY_ (vL p0 os.length cp0) q (.map (some bs)) (vP xi 0)) 93,mp Tryz.prog 9 bs ns (shF S),aBQ (S.map (shE (aAa os))),rw_ stL 1 9 (vL qi R.length ci) R,rw_ rwL 2 42 vo (alL (aAa os) h q S wa (R.take k))]->am=R.length-k->aYX Y (some (12,0)) [(81,vI (k:Int)),(80,vI (R.length:Int)),(79,vL qi R.length ci),(9,vo),(4,vP wa.b 0),(0,vP fb 0)] w2:=by
    refine aCh λam af k vo w2 hk hM ax=>seg 12 1 [(82,vB (decide ((k:Int)<(R.length:Int))))] f0 ?_;cases ae:(decide ((k:Int)<(R.length:Int)))
    ·have au:=df ae;exact rt2 2 3 vo (vI 0) rfl rfl f0 (hY _ _ ⟨_,rfl,by rw[Gc_ oM,aWH hpw hIn2 hfar] at hM;exact hM.pick [4]⟩)
    have au:=dt ae;obtain⟨ab,aa⟩:=geb (l:=R) (i:=k) oM;obtain⟨ay,an,-⟩:=hM.el stT (j:=3) rfl aa;obtain⟨c9,hc9,-⟩:=(hIn2.2 ab).1 (gm aa);obtain⟨s,hss,hys,-⟩:=(aEM hpw).1 hc9;have hls:=aFk hpw hss hys;have hNs:=aUP hvm rfl hSh hss;refine seg 15 8 [(11,vS ab),(12,vP s.b 0),(98,vB (ab==q.id))] (fc (ix 45 ci an (gl aa)) (fc (ldr 9 3 0 stT hM rfl an aa rfl) (fc (ldm 90 0 15 hM rfl rfl) (fc (rz2 (lk 90 1 (vS ab) (.pointer none) hM rfl aEi u90_ (aE2 (hys▸(hob _ (shO hSh hss)).bnd.id)) (aG2 _)) hls) (fc (ldm 9 0 8 hM rfl rfl) (fc (seq 9 ab q.id) f0)))))) ?_;cases ag:(ab==q.id)
    rotate_left
    ·refine seg 12 0 [(81,vI ((k:Int)+1))] (fc (aAP (k:Int) 1 u3_) f0) ?_;have hM:=hM.pick [0,1,2,3,4];replace hM:Mm G w _ [bk fb (fY_ (vL p0 os.length cp0) q (.map (some bs)) (vP xi 0)) 93,_,_,_,_]:=hM;obtain⟨u1,hu1⟩:∃z,z=vo:=⟨_,rfl⟩;rw[<-hu1] at hM;have hz:alR (aAa os) h q wa s=none:=by unfold alR;rw[hys];simp only[ae,ag];rfl
     rw[aUC hpw aa hss hys hz,hu1] at hM;exact aAi _ (af _ (by have:=gl aa;omega) (k+1) vo _ (gl aa) hM rfl)
    refine aAw 15 13 104 [(99,vP fb 0),(103,.agg #[vS s.o.o.id,vI s.o.o.kind,vI s.o.o.x,vI s.o.o.y,vL s.o.pr s.o.o.refs.length s.o.cr,vL s.o.pt s.o.o.tags.length s.o.ct])] (fc (la0 48 (Mm.nil nF_ _) (rs (aFK (aQa hM (j:=2) rfl hss).blk) 0 6)) f0) hM (aDx (hm.fr (hfB.trans' hM.fr λr hr hg=>absurd hr (Nat.not_lt.2 (hG r hg)))) hvm (hq.fr (hfB.trans' hM.fr λr hr hg=>absurd hr (Nat.not_lt.2 (hG r hg))) hBw) (Gn_ hBw (hfB.trans' hM.fr λr hr hg=>absurd hr (Nat.not_lt.2 (hG r hg))).size) (hTe.fr (hfB.trans' hM.fr λr hr hg=>absurd hr (Nat.not_lt.2 (hG r hg)))) (hM.get 0 rfl) (shO hSh hss) ((hob _ (shO hSh hss)).fr (hfB.trans' hM.fr λr hr hg=>absurd hr (Nat.not_lt.2 (hG r hg))))) λw1 hM=>seg 15 16 [(106,vB (!(aA2 h q s.o)))] f0 ?_;cases ai:(aA2 h q s.o)
    ·refine seg 12 0 [(81,vI ((k:Int)+1))] (fc (aAP (k:Int) 1 u3_) f0) ?_;have hM:=hM.pick [0,1,2,3,4];replace hM:Mm G w _ [bk fb (fY_ (vL p0 os.length cp0) q (.map (some bs)) (vP xi 0)) 93,_,_,_,_]:=hM;obtain⟨u1,hu1⟩:∃z,z=vo:=⟨_,rfl⟩;rw[<-hu1] at hM;have hz:alR (aAa os) h q wa s=none:=by unfold alR;rw[hys];simp only[ae,ag,ai];rfl
     rw[aUC hpw aa hss hys hz,hu1] at hM;exact aAi _ (af _ (by have:=gl aa;omega) (k+1) vo _ (gl aa) hM rfl)
    refine aAw 16 2 109 [(107,vP s.b 0),(108,vP wa.b 0)] f0 hM (aKo (aQa hM (j:=2) rfl hss) (aQa hM (j:=2) rfl hswa) hNs hNwa) λw1 hM=>aAw 16 3 110 [] f0 hM (aGF (apP (aAa os) s wa) (Int.le_trans (aWD (aAa os) s wa) dE) _) λw1 hM=>seg 17 7 [(13,vI (aAN (apP (aAa os) s wa))),(117,vB (decide ((aAN (apP (aAa os) s wa))<=q.n)))] (fc (ldm 3 0 9 hM rfl rfl) f0) ?_;cases ao:(decide ((aAN (apP (aAa os) s wa))<=q.n))
    ·refine seg 12 0 [(81,vI ((k:Int)+1))] (fc (aAP (k:Int) 1 u3_) f0) ?_;have hM:=hM.pick [0,1,2,3,4];replace hM:Mm G w _ [bk fb (fY_ (vL p0 os.length cp0) q (.map (some bs)) (vP xi 0)) 93,_,_,_,_]:=hM;obtain⟨u1,hu1⟩:∃z,z=vo:=⟨_,rfl⟩;rw[<-hu1] at hM;have hz:alR (aAa os) h q wa s=none:=by unfold alR;rw[hys];simp only[ae,ag,ai,ao];rfl
     rw[aUC hpw aa hss hys hz,hu1] at hM;exact aAi _ (af _ (by have:=gl aa;omega) (k+1) vo _ (gl aa) hM rfl)
    refine aAu 18 4 122 [(118,vo),(121,.agg #[vS ab,vI (aAN (apP (aAa os) s wa))])] (cs:=#[vS ab,vI (aAN (apP (aAa os) s wa))]) (T:=42) (v:=λb=>vL (some ⟨b,0,none⟩) 1 1) f0 hM λaz w1 hM=>aU6 18 5 123 [] (cap:=1) dE rwT f0 hM (j:=4) rfl (aCu (f:=rwL) (x:=(ab,(aAN (apP (aAa os) s wa)))) (hM.get 5 rfl) (Nat.lt_succ_self _)) (λh=>by cases h) (by have:=aUD (aAa os) h q S wa (R.take k);have h2:=List.length_take_le k R;simp only[Gf_,Gm_];omega) λa0 w1 hM=>?_;obtain⟨aj,ak,av,-⟩:=(hM.src (j:=4) rfl rwT.len).op;subst av;refine seg 12 0 [(9,vL aj ((alL (aAa os) h q S wa (R.take k))++[(ab,(aAN (apP (aAa os) s wa)))]).length ak),(81,vI ((k:Int)+1))] (fc (aAP (k:Int) 1 u3_) f0) ?_;have hM:=hM.pick [0,1,2,3,4];replace hM:Mm G w _ [bk fb (fY_ (vL p0 os.length cp0) q (.map (some bs)) (vP xi 0)) 93,_,_,_,_]:=hM;obtain⟨u1,hu1⟩:∃z,z=(vL aj ((alL (aAa os) h q S wa (R.take k))++[(ab,(aAN (apP (aAa os) s wa)))]).length ak):=⟨_,rfl⟩;rw[<-hu1] at hM;have hz:alR (aAa os) h q wa s=some (ab,(aAN (apP (aAa os) s wa))):=by unfold alR;rw[hys];simp only[ae,ag,ai,ao];rfl
    rw[aWF hpw aa hss hys hz,hu1] at hM;exact aAi _ (af _ (by have:=gl aa;omega) (k+1) (vL aj ((alL (aAa os) h q S wa (R.take k))++[(ab,(aAN (apP (aAa os) s wa)))]).length ak) _ (gl aa) hM rfl)
   exact aAi _ (aq _ 0 (vL none 0 0) _ (Gg_ _) hM rfl)
  obtain⟨⟨S1,R1,hge,hIn1⟩,hM⟩:=hM.unpf (j:=2) rfl;rw[hge] at hM;obtain⟨v8,hv8⟩:∃z,z=(ah 0):=⟨_,rfl⟩;rw[<-hv8] at hM ⊢;replace hM:Mm G w _ [bk fb (fY_ (vL p0 os.length cp0) q (.map (some bs)) (vP xi 0)) 93,_,_,_,bk ac #[vI (aAc (wa.P (aAa os))).1.1,vI (aAc (wa.P (aAa os))).1.2,vI (aAc (wa.P (aAa os))).2.1,vI (aAc (wa.P (aAa os))).2.2] 97,bk ad #[vI ((aAc (wa.P (aAa os))).1.1-(q.n+1)),vI ((aAc (wa.P (aAa os))).1.2-(q.n+1)),vI ((aAc (wa.P (aAa os))).2.1+(q.n+1)),vI ((aAc (wa.P (aAa os))).2.2+(q.n+1))] 97]:=hM;have hM:=hM.pick [0,1,3,4,5,2];have hM:=Mm.ung (A:=[bk fb (fY_ (vL p0 os.length cp0) q (.map (some bs)) (vP xi 0)) 93,mp Tryz.prog 9 bs ns (shF S),aBQ (S.map (shE (aAa os))),bk ac #[vI (aAc (wa.P (aAa os))).1.1,vI (aAc (wa.P (aAa os))).1.2,vI (aAc (wa.P (aAa os))).2.1,vI (aAc (wa.P (aAa os))).2.2] 97,bk ad #[vI ((aAc (wa.P (aAa os))).1.1-(q.n+1)),vI ((aAc (wa.P (aAa os))).1.2-(q.n+1)),vI ((aAc (wa.P (aAa os))).2.1+(q.n+1)),vI ((aAc (wa.P (aAa os))).2.2+(q.n+1))] 97]) (C:=[]) hM;replace hM:Mm G w _ [bk fb (fY_ (vL p0 os.length cp0) q (.map (some bs)) (vP xi 0)) 93,_,_,bk ac #[vI (aAc (wa.P (aAa os))).1.1,vI (aAc (wa.P (aAa os))).1.2,vI (aAc (wa.P (aAa os))).2.1,vI (aAc (wa.P (aAa os))).2.2] 97,bk ad #[vI ((aAc (wa.P (aAa os))).1.1-(q.n+1)),vI ((aAc (wa.P (aAa os))).1.2-(q.n+1)),vI ((aAc (wa.P (aAa os))).2.1+(q.n+1)),vI ((aAc (wa.P (aAa os))).2.2+(q.n+1))] 97,_,_]:=hM;obtain⟨qi1,ci1,e9,-⟩:=(hM.src (j:=6) rfl stT.len).op;subst e9;refine seg 8 6 [(71,vB (decide (524288<q.n)))] (fc (ldm 3 0 9 hM rfl rfl) f0) ?_;cases al:(decide (524288<q.n))
  ·have aw:=df al;have hIn2:InS (bxS (aAa os) S) (((aAc (wa.P (aAa os))).1.1-(q.n+1),(aAc (wa.P (aAa os))).1.2-(q.n+1)),((aAc (wa.P (aAa os))).2.1+(q.n+1),(aAc (wa.P (aAa os))).2.2+(q.n+1))) R1:=by rw[if_pos (show okB (((aAc (wa.P (aAa os))).1.1-(q.n+1),(aAc (wa.P (aAa os))).1.2-(q.n+1)),((aAc (wa.P (aAa os))).2.1+(q.n+1),(aAc (wa.P (aAa os))).2.2+(q.n+1))) from aSJ hvm hNwa h0 (by have:=df al;omega))] at hIn1;exact hIn1
   have hfar:∀s∈S,¬mtB (aAc (s.P (aAa os))) (((aAc (wa.P (aAa os))).1.1-(q.n+1),(aAc (wa.P (aAa os))).1.2-(q.n+1)),((aAc (wa.P (aAa os))).2.1+(q.n+1),(aAc (wa.P (aAa os))).2.2+(q.n+1)))->alR (aAa os) h q wa s=none:=λs hs hf=>aWG (aUP hvm rfl hSh hs) hNwa (aX5 hvm) (aX5 hvm) huk h0 hf;refine seg 10 0 [] f0 ?_;have hM:=hM.pick [0,1,2,6];exact aAi _ (cu256 R1 qi1 ci1 _ _ hIn2 hfar hM)
  have aw:=dt al;refine aHU 9 6 78 [(75,vP xi 0),(77,.agg #[vI 0,vI 0,vI 1048576,vI 1048576])] (K:=λu Mn=>∃e9,Mn=[e9]/\inK xi mb ns (bxS (aAa os) S) ((0,0),(1048576,1048576)) u e9) [0,1,2,3,4,6] [5] (fc (ldm 91 0 16 hM rfl rfl) f0) hM rfl rfl dE (λhm=>((aSp hm hNs9 ((0,0),(1048576,1048576))).mono λe w9 ⟨u,e9,h1,h2,h3⟩=>⟨u,_,h1,⟨e9,rfl,h2⟩,h3⟩)) λu Mn w1 hK hM=>?_;obtain⟨e9,rfl,S3,R,rfl,hIn⟩:=hK;have hM:=hM.pick [0,1,2,3,4,5,6];have hM:=Mm.ung (A:=[bk fb (fY_ (vL p0 os.length cp0) q (.map (some bs)) (vP xi 0)) 93,mp Tryz.prog 9 bs ns (shF S),aBQ (S.map (shE (aAa os))),bk ac #[vI (aAc (wa.P (aAa os))).1.1,vI (aAc (wa.P (aAa os))).1.2,vI (aAc (wa.P (aAa os))).2.1,vI (aAc (wa.P (aAa os))).2.2] 97,bk ad #[vI ((aAc (wa.P (aAa os))).1.1-(q.n+1)),vI ((aAc (wa.P (aAa os))).1.2-(q.n+1)),vI ((aAc (wa.P (aAa os))).2.1+(q.n+1)),vI ((aAc (wa.P (aAa os))).2.2+(q.n+1))] 97,rw_ stL 1 9 (vL qi1 R1.length ci1) R1]) (C:=[]) hM;replace hM:Mm G w _ [bk fb (fY_ (vL p0 os.length cp0) q (.map (some bs)) (vP xi 0)) 93,_,_,bk ac #[vI (aAc (wa.P (aAa os))).1.1,vI (aAc (wa.P (aAa os))).1.2,vI (aAc (wa.P (aAa os))).2.1,vI (aAc (wa.P (aAa os))).2.2] 97,bk ad #[vI ((aAc (wa.P (aAa os))).1.1-(q.n+1)),vI ((aAc (wa.P (aAa os))).1.2-(q.n+1)),vI ((aAc (wa.P (aAa os))).2.1+(q.n+1)),vI ((aAc (wa.P (aAa os))).2.2+(q.n+1))] 97,_,_,_]:=hM;obtain⟨qi,ci,e9,-⟩:=(hM.src (j:=7) rfl stT.len).op;subst e9;refine seg 10 0 [(8,vL qi R.length ci)] f0 ?_;have hIn2:InS (bxS (aAa os) S) ((0,0),(1048576,1048576)) R:=by rw[if_pos aUb] at hIn;exact hIn
  have hfar:∀s∈S,¬mtB (aAc (s.P (aAa os))) ((0,0),(1048576,1048576))->alR (aAa os) h q wa s=none:=λs hs hf=>absurd (aRm hvm (aUP hvm rfl hSh hs)) hf;have hM:=hM.pick [0,1,2,7];exact aAi _ (cu256 R qi ci _ _ hIn2 hfar hM)
theorem aNi:∀(S:List ShR)(m:Value->Option Value)(k:Value),(∀v,m k≠some v)->(∃v,(S.foldl (λm s=>upd m (vS s.o.o.id) (vP s.b 0)) m) k=some v)->∃s∈S,k=vS s.o.o.id
 | [],m,k,h,⟨v,hv⟩=>absurd hv (h v)
 | s::S,m,k,h,hv=>by
  by_cases e:k=vS s.o.o.id
  ·exact⟨s,.head _,e⟩
  ·obtain⟨t,ht,e2⟩:=aNi S (upd m (vS s.o.o.id) (vP s.b 0)) k (λv=>by rw[aDX m e];exact h v) hv;exact⟨t,.tail _ ht,e2⟩
variable{F0:Nat->Prop}{M:List Ent}
theorem aZ3 {w0:World}{j ns:Nat}(hM:Mm F0 w0 w M)(hj:M[j]?=some (mp Tryz.prog 9 bs ns (shF S)))(hp:S.Pairwise λa b=>blt a.o.o.id b.o.o.id=true):Ft.ok Tryz.prog w (.g1 (λx =>.call ⟨.builtin .len,#[x],#[90]⟩) (.map (some bs)) (vI (S.length:Int))):=by
 have hm:aDS Tryz.prog 9 w bs ns (shF S):=hM.get j hj;obtain⟨es,clock,hb,hE,_⟩:=hm;have h1:(es.toList.map (·.key)).Nodup:=by unfold List.Nodup;rw[List.pairwise_map];exact hE.apart
 have h2:(S.map λs=>vS s.o.o.id).Nodup:=by
  unfold List.Nodup;rw[List.pairwise_map];exact hp.imp λ{a b} hab e=>by rw[aMR e,aA0] at hab;cases hab
 have h3:(es.toList.map (·.key)).Perm (S.map λs=>vS s.o.o.id):=(List.perm_ext_iff_of_nodup h1 h2).2 λk=>by
  rw[List.mem_map,List.mem_map];constructor
  ·rintro⟨e,he,rfl⟩;obtain⟨s,hs,e2⟩:=aNi S (λ_=>none) e.key (λv h=>by cases h) ⟨e.val,(hE.at_ _ _).2 ⟨e,he,rfl,rfl⟩⟩;exact⟨s,hs,e2.symm⟩
  ·rintro⟨s,hs,rfl⟩;obtain⟨e,he,h4,_⟩:=(hE.at_ (vS s.o.o.id) (vP s.b 0)).1 (by unfold shF;exact aF9 S _ hp hs);exact⟨e,he,h4⟩
 have h4:es.size=S.length:=by have:=h3.length_eq;rw[Gp_,Gp_,Array.length_toList] at this;exact this
 have hml:∃c:Nat,c=S.length/\∀ty,(Builtin.len_ #[90] ty #[.map (some bs)]).run Tryz.prog w=.ok (.int .i64 c) w:=by
  refine⟨es.size,h4,λty=>?_⟩;simp[Builtin.len_,run_underlying u90_,MapKept.run_getObj_map hb,goInt,Result.andThen]
 obtain⟨c,rfl,hc⟩:=hml;intro o ρ x ho hx;simp[execOp,ho,hx,resolve,invoke,builtin,hc,Result.andThen]
def neK (p mb N:Nat)(m:Bys->Option (Pt×Pt))(pt:Pt)(n:Int)(u:Value)(e:Ent):Prop:=∃S R,e=aBQ [ixO p mb N m S,rw_ stL 1 9 u R]/\(if isP pt then NeS m pt n R else R=[])
variable{m:Bys->Option (Pt×Pt)}
theorem aQZ {p N:Nat}{S:Nat->Prop}(hM:Mm (BlM [ixO p mb N m S]) w w [ixO p mb N m S])(hN:N<=100000)(pt:Pt)(n:Int):Calls Tryz.prog 64 #[vP p 0,.agg #[vI pt.1,vI pt.2],vI n] w λe w'=>∃q k c e',e=.returned (vL q k c)/\neK p mb N m pt n (vL q k c) e'/\Mm (BlM [ixO p mb N m S]) w w' [e'] :=
 (aI4 hM hN pt n).mono λe w' ⟨u,Mn,h1,⟨S',R,h2,h3⟩,h4⟩=>by
  subst h2;obtain⟨q,c,e9,-⟩:=(h4.src (j:=1) rfl stT.len).op;subst e9;exact⟨q,R.length,c,_,h1,⟨S',R,rfl,h3⟩,aDc (A:=[]) h4⟩
theorem aJN {w0:World}{j p N:Nat}{S:Nat->Prop}(hM:Mm F0 w0 w M)(hj:M[j]?=some (ixO p mb N m S)){id:Bys}(hid:B63 id){c:Pt×Pt}(hc:m id=some c):Calls Tryz.prog 65 #[vP p 0,vS id] w λe w'=>e=.returned (.tuple #[bxV c,vB true])/\Fr nF_ w w':=by
 obtain⟨rv,pk,h⟩:(ixO p mb N m S).H w:=hM.get j hj;refine(aKl h (ofL id) (by rw[aCU];exact hid)).mono λe w' ⟨h1,h2⟩=>⟨?_,h2⟩;rw[h1,aTH,hc];rfl
theorem caT:ElT Tryz.prog rwL 2 106 108:=⟨λ_=>rfl,by decide,rwT.one,u106_,aCz kR⟩
theorem aXT {L:List Ca}{x:Ca}{i:Nat}(hM:Mm (BlM [rw_ rwL 2 108 v L,bk vb #[vS x.1,vI x.2] 108]) w w [rw_ rwL 2 108 v L,bk vb #[vS x.1,vI x.2] 108])(hi:i<=L.length)(hl:L.length<=100000000)(hlo:∀z q,z<i->L[z]?=some q->aDf q x=true)(hhi:∀z q,i<=z->L[z]?=some q->aDf q x=false):Calls Tryz.prog 68 #[v,.int .i64 i,vL (some ⟨vb,0,none⟩) 1 1] w λe w'=>∃u Mn,e=.returned u/\Mn=[rw_ rwL 2 108 u (aDa x L)]/\Mm (BlM [rw_ rwL 2 108 v L,bk vb #[vS x.1,vI x.2] 108]) w w' Mn:=by
 have hn:v.ownBlock≠some vb:=λe=>by
  have:=List.pairwise_iff_getElem.1 hM.nd 0 1 sI sI dE;exact this vb e rfl
 refine(aMn caT (hM.get 0 rfl) hi (hM.get 1 rfl) hn hl (Gg_ _)).mono λe w' ⟨v',h1,h2,h3,h4⟩=>⟨v',_,h1,rfl,?_⟩;rw[aSr hi hlo hhi]
 exact(hM.pick [0]).put (w':=w') 0 rfl h3 (λk _ e=>e) (e':=rw_ rwL 2 108 v' (L.take i++x::L.drop i)) h2 (λk e=>by
  have e:v'.ownBlock=some k:=e;rcases h4 with h4|h4
  ·exact .inl (by rw[h4] at e;exact e)
  ·rw[h4] at e;cases e;exact .inr (Gj_ _))
abbrev aWY (Z:Ending->World->Prop):=AtO Tryz.prog (aAv Tryz.f31) (aAI (bodyPost Tryz.prog Tryz.f31 Z)) [] 178
theorem aHz {wB:World}(hfB:Fr nF_ wB w)(hG:∀k,G k->wB.heap.size<=k){fb xi ns:Nat}(hm:aCt wB (vL p0 os.length cp0) os)(hvm:aAh (aAa os)=true){q:QdR}(hq:QdIn wB B h q)(hBw:B<=wB.heap.size)(hTe:Te wB)(hSh:aE1 (aAa os) os S)(hol:os.length<=100000)(hns:ns=S.length)(hzG:onG (q.x,q.y))(hzP:isP (q.x,q.y))(h0:1<=q.n)(hn:q.n<=1048576)(hM:Mm G w w [bk fb (fY_ (vL p0 os.length cp0) q (.map (some bs)) (vP xi 0)) 93,mp Tryz.prog 9 bs ns (shF S),ixO xi mb ns (bxS (aAa os) S) S0,aBQ (S.map (shE (aAa os)))]):Calls Tryz.prog 31 #[vP fb 0] w λe w'=>∃u',e=.returned (.tuple #[u',vI 0])/\Mm G w w' [rw_ rwL 2 42 u' (aGx (aAa os) h q S (q.x,q.y))]:=by
  have hm0:=hm;obtain⟨hs0,hob⟩:=hm0;have hpw:=aVx hvm hSh;have hSl:S.length<=os.length:=by have:=congrArg List.length hSh;rw[Gp_] at this;have h2:=List.length_filter_le (λb:ObR=>(aAd (aAa os) b.o.id).1==0) os;omega
  have hNs9:ns<=100000:=by omega
  have hNS:∀s∈S,ShN (aAa os) s:=λs hs=>aUP hvm rfl hSh hs;have hGS:∀s∈S,ShG (aAa os) s:=λs hs=>aX5 hvm;have hz9:=hzG;unfold onG at hz9
  dsimp only at hz9
  refine beg Tryz.func31 rfl rfl [(0,vP fb 0)] rfl rfl λY hY=>?_
  skip
  refine seg 3 0 [(4,vL none 0 0),(5,.func (.func 62) #[] #[])] f0 (drx [14] (λZ=>[some (vL (slp (Z 0)) (sln (Z 0)) (slc (Z 0)))]) _ (λZ l=>[bk fb (fY_ (vL p0 os.length cp0) q (.map (some bs)) (vP xi 0)) 93,mp Tryz.prog 9 bs ns (shF S),(bif l.getD 0 false then pfE ((neK xi mb ns (bxS (aAa os) S) (q.x,q.y) (S.length:Int)) (Z 0)) (Z.e 0) else ixO xi mb ns (bxS (aAa os) S) S0),aBQ (S.map (shE (aAa os)))]) (λZ=>[(33,vL (slp (Z 0)) (sln (Z 0)) (slc (Z 0))),(34,vI ((sln (Z 0)):Int)),(35,vI 0)]) hM (λZ=>rfl) (λZ l w5 hM=>(fc (ldm 91 0 16 hM rfl rfl) (fc (lam 29 0 10 2 hM rfl) (fc (ldm 90 0 15 hM rfl rfl) (fc (aZ3 hM (j:=1) rfl hpw) f0))))) ⟨aU1 0 14 2 33 (f:=64) (λZ=>#[vP xi 0,.agg #[vI q.x,vI q.y],vI (S.length:Int)]) (λZ=>ixO xi mb ns (bxS (aAa os) S) S0) (neK xi mb ns (bxS (aAa os) S) (q.x,q.y) (S.length:Int)) (λZ fr wm hM hm=>aQZ hm hNs9 (q.x,q.y) (S.length:Int)),trivial⟩ λah w1 hM=>?_);replace hM:Mm G w w1 [bk fb (fY_ (vL p0 os.length cp0) q (.map (some bs)) (vP xi 0)) 93,_,pfE ((neK xi mb ns (bxS (aAa os) S) (q.x,q.y) (S.length:Int)) (ah 0)) (ah.e 0),_]:=hM;obtain⟨⟨S1,R,hge,hNe⟩,hM⟩:=hM.unpf (j:=2) rfl;rw[hge] at hM;obtain⟨v8,hv8⟩:∃z,z=(ah 0):=⟨_,rfl⟩;rw[<-hv8] at hM ⊢;rw[if_pos hzP] at hNe;have hNR:=aVF hpw hNe;have hRl:R.length<=100000:=by rw[hNR.len];omega
  clear hv8;replace hM:Mm G w _ [bk fb (fY_ (vL p0 os.length cp0) q (.map (some bs)) (vP xi 0)) 93,_,_,_]:=hM;have hM:=hM.pick [0,1,3,2];have hM:=Mm.ung (A:=[bk fb (fY_ (vL p0 os.length cp0) q (.map (some bs)) (vP xi 0)) 93,mp Tryz.prog 9 bs ns (shF S),aBQ (S.map (shE (aAa os)))]) (C:=[]) hM;replace hM:Mm G w _ [bk fb (fY_ (vL p0 os.length cp0) q (.map (some bs)) (vP xi 0)) 93,_,_,_,_]:=hM;obtain⟨qi,ci,e9,-⟩:=(hM.src (j:=4) rfl stT.len).op;subst e9
  have cu254:∀(b9:List (Bys×Int))(pb:Option Addr)(cb:Nat)(w2:World),b9=(beC q.n.toNat (cnL (aAa os) h q (q.x,q.y) S R))->Mm G w w2 [rw_ rwL 2 108 (vL pb b9.length cb) b9]->aWY Y (some (16,0)) [(4,vL pb b9.length cb)] w2:=by
   intro b9 pb cb w2 hB hM;have hok:=aW5 (k:=R.length) (n:=q.n.toNat) (h:=h) (q:=q) hpw hNR hNS hGS hzG;rw[List.take_length,<-hB] at hok;have hob1:=hok.2.2.1;have hM:=hM.pick [0];have hM:=hM.row (f:=rwL) (c:=2) (E:=42);replace hM:Mm G w _ [_,_]:=hM;refine seg 18 0 [(16,vL none 0 0),(161,vL pb b9.length cb),(162,vI (b9.length:Int)),(163,vI 0)] f0 ?_
   have ay:∀(aj:Nat)(i:Nat)(vo:Value)(w2:World),i<=b9.length->Mm G w w2 [rw_ rwL 2 108 (vL pb b9.length cb) b9,rw_ rwL 2 42 vo ((b9.take i).map λc=>(c.1,aAN c.2))]->aj=b9.length-i->aWY Y (some (18,0)) [(163,vI (i:Int)),(162,vI (b9.length:Int)),(161,vL pb b9.length cb),(16,vo)] w2:=by
    refine aCh λaj az i vo w2 hi hM a6=>seg 18 1 [(164,vB (decide ((i:Int)<(b9.length:Int))))] f0 ?_;cases ak:(decide ((i:Int)<(b9.length:Int)))
    ·have a0:=df ak;exact rt2 2 3 vo (vI 0) rfl rfl f0 (hY _ _ ⟨_,rfl,by rw[Gc_ oM,hB,aQL hpw hNR] at hM;exact hM.pick [1]⟩)
    have a0:=dt ak;obtain⟨aa,ad⟩:=geb (l:=b9) (i:=i) oM;obtain⟨a7,al,-⟩:=hM.el caT (j:=0) rfl ad;refine aBW 19 2 18 [(166,.agg #[vS aa.1,vI aa.2])] [] 108 (.agg #[vS aa.1,vI aa.2]) (fc (ix 106 cb al (gl ad)) (fc (lar 108 0 0 2 caT hM rfl al ad) f0)) hM λam w1 hM=>seg 20 0 [] f0 ?_;have hM:=hM.nl;refine drx [5,7,8] (λZ=>[some (vI (aAN aa.2)),some (vL (some ⟨(bn (Z 1)),0,none⟩) 1 1),some (vL (slp (Z 2)) (((b9.take i).map λc=>(c.1,aAN c.2))++[(aa.1,(aAN aa.2))]).length (slc (Z 2)))]) _ (λZ l=>[rw_ rwL 2 108 (vL pb b9.length cb) b9,(bif l.getD 2 false then rw_ rwL 2 42 (vL (slp (Z 2)) (((b9.take i).map λc=>(c.1,aAN c.2))++[(aa.1,(aAN aa.2))]).length (slc (Z 2))) (((b9.take i).map λc=>(c.1,aAN c.2))++[(aa.1,(aAN aa.2))]) else rw_ rwL 2 42 vo ((b9.take i).map λc=>(c.1,aAN c.2))),bk am #[vS aa.1,vI aa.2] 108,(bif l.getD 1 false then bk (bn (Z 1)) #[vS aa.1,vI (aAN aa.2)] 42 else aEB)]) (λZ=>[(16,vL (slp (Z 2)) (((b9.take i).map λc=>(c.1,aAN c.2))++[(aa.1,(aAN aa.2))]).length (slc (Z 2)))]) hM (λZ=>rfl) (λZ l w5 hM=>(fc (ldm 9 2 0 hM rfl rfl) (fc (ldm 3 2 1 hM rfl rfl) f0))) ⟨aAO 0 5 172 (f:=60) (λZ=>#[vI aa.2]) (vI (aAN aa.2)) (λZ fr wm hM=>(aGF aa.2 (Int.le_trans (hok.2.1 _ (gm ad)).2 dE) _)),aDb 1 7 3 174 (λZ=>#[vS aa.1,vI (aAN aa.2)]) 42 (λb=>vL (some ⟨b,0,none⟩) 1 1),aHQ 2 8 1 175 36 42 0 (λZ=>vo) ((b9.take i).map λc=>(c.1,aAN c.2)) [(aa.1,(aAN aa.2))] (λZ=>(bn (Z 1))) 1 rwT (by have:=List.length_take_le i b9;simp only[Gp_,Gf_,Gm_];omega) (λZ fr wm hM=>aCu (f:=rwL) (x:=(aa.1,(aAN aa.2))) (hM.get 3 (e:=bk ((bn (Z 1))) (rwL (aa.1,(aAN aa.2))).toArray 42) kR) (Nat.lt_succ_self _)),trivial⟩ λae w1 hM=>?_;replace hM:Mm G w w1 [_,_,bk am #[vS aa.1,vI aa.2] 108,bk (bn (ae 1)) #[vS aa.1,vI (aAN aa.2)] 42]:=hM;refine seg 18 0 [(163,vI ((i:Int)+1))] (fc (aAP (i:Int) 1 u3_) f0) ?_;have hM:=hM.pick [0,1];replace hM:Mm G w _ [_,_]:=hM;obtain⟨u1,hu1⟩:∃z,z=(vL (slp (ae 2)) (((b9.take i).map λc=>(c.1,aAN c.2))++[(aa.1,(aAN aa.2))]).length (slc (ae 2))):=⟨_,rfl⟩;rw[<-hu1] at hM;have eL:(((b9.take i).map λc=>(c.1,aAN c.2))++[(aa.1,(aAN aa.2))])=((b9.take (i+1)).map λc=>(c.1,aAN c.2)):=by rw[gt_ ad,List.map_append];rfl
    rw[eL,hu1] at hM;exact aAi _ (az _ (by have:=gl ad;omega) (i+1) (vL (slp (ae 2)) (((b9.take i).map λc=>(c.1,aAN c.2))++[(aa.1,(aAN aa.2))]).length (slc (ae 2))) _ (gl ad) hM rfl)
   exact aAi _ (ay _ 0 (vL none 0 0) _ (Gg_ _) hM rfl)
  have hM:=hM.row (f:=rwL) (c:=2) (E:=108);refine seg 4 0 [] f0 ?_
  have a1:∀(an:Nat)(k:Nat)(pb:Option Addr)(cb:Nat)(b9:List (Bys×Int))(w2:World),k<=R.length->b9=(beC q.n.toNat (cnL (aAa os) h q (q.x,q.y) S (R.take k)))->Mm G w w2 [bk fb (fY_ (vL p0 os.length cp0) q (.map (some bs)) (vP xi 0)) 93,mp Tryz.prog 9 bs ns (shF S),aBQ (S.map (shE (aAa os))),ixO xi mb ns (bxS (aAa os) S) S1,rw_ stL 1 9 (vL qi R.length ci) R,rw_ rwL 2 108 (vL pb b9.length cb) b9]->an=R.length-k->aWY Y (some (4,0)) [(35,vI (k:Int)),(34,vI (R.length:Int)),(33,vL qi R.length ci),(5,.func (.func 62) #[] #[]),(4,vL pb b9.length cb),(0,vP fb 0)] w2:=by
   refine aCh λan ao k pb cb b9 w2 hk hb9 hM a8=>?_;have hok:=aW5 (k:=k) (n:=q.n.toNat) (h:=h) (q:=q) hpw hNR hNS hGS hzG;rw[<-hb9] at hok;have hob1:=hok.2.2.1;refine seg 4 1 [(36,vB (decide ((k:Int)<(R.length:Int))))] f0 ?_;cases aq:(decide ((k:Int)<(R.length:Int)))
   ·have a3:=df aq;refine seg 16 0 [] f0 ?_;have hB:b9=(beC q.n.toNat (cnL (aAa os) h q (q.x,q.y) S R)):=by rw[Gc_ oM] at hb9;exact hb9
    have hM:=hM.pick [5];exact aAi _ (cu254 b9 pb cb _ hB hM)
   have a3:=dt aq;obtain⟨ab,ac⟩:=geb (l:=R) (i:=k) oM;obtain⟨a9,au,-⟩:=hM.el stT (j:=4) rfl ac;obtain⟨s,hss,hys⟩:=(hNR.mem ab).1 (gm ac);have hls:=aFk hpw hss hys;have hNs:=hNS s hss;have hbx:bxS (aAa os) S ab=some (aAc (s.P (aAa os))):=(aEM hpw).2 ⟨s,hss,hys,rfl⟩;have hbd:=aPm hvm hNs;refine aAw 7 5 50 [(7,vS ab),(8,vP s.b 0),(45,vP fb 0),(49,.agg #[vS s.o.o.id,vI s.o.o.kind,vI s.o.o.x,vI s.o.o.y,vL s.o.pr s.o.o.refs.length s.o.cr,vL s.o.pt s.o.o.tags.length s.o.ct])] (fc (ix 45 ci au (gl ac)) (fc (ldr 9 4 0 stT hM rfl au ac rfl) (fc (ldm 90 0 15 hM rfl rfl) (fc (rz2 (lk 90 1 (vS ab) (.pointer none) hM rfl aEi u90_ (aE2 (hys▸(hob _ (shO hSh hss)).bnd.id)) (aG2 _)) hls) (fc (la0 48 (Mm.nil nF_ _) (rs (aFK (aQa hM (j:=2) rfl hss).blk) 0 6)) f0))))) hM (aDx (hm.fr (hfB.trans' hM.fr λr hr hg=>absurd hr (Nat.not_lt.2 (hG r hg)))) hvm (hq.fr (hfB.trans' hM.fr λr hr hg=>absurd hr (Nat.not_lt.2 (hG r hg))) hBw) (Gn_ hBw (hfB.trans' hM.fr λr hr hg=>absurd hr (Nat.not_lt.2 (hG r hg))).size) (hTe.fr (hfB.trans' hM.fr λr hr hg=>absurd hr (Nat.not_lt.2 (hG r hg)))) (hM.get 0 rfl) (shO hSh hss) ((hob _ (shO hSh hss)).fr (hfB.trans' hM.fr λr hr hg=>absurd hr (Nat.not_lt.2 (hG r hg))))) λw1 hM=>seg 7 7 [(51,vB (!(aA2 h q s.o)))] f0 ?_;cases av:(aA2 h q s.o)
   ·refine seg 4 0 [(35,vI ((k:Int)+1))] (fc (aAP (k:Int) 1 u3_) f0) ?_;have hM:=hM.pick [0,1,2,3,4,5];exact aAi _ (ao _ (by have:=gl ac;omega) (k+1) pb cb b9 _ (gl ac) (by rw[aWx hpw ac hss hys av];exact hb9) hM rfl)
   refine aAw 8 5 58 [(56,vP xi 0),(57,vS ab)] (fc (ldm 91 0 16 hM rfl rfl) f0) hM (aJN hM (j:=3) rfl (hys▸(hob _ (shO hSh hss)).bnd.id) hbx) λw1 hM=>aBW 8 9 9 [(59,.agg #[vI (aAc (s.P (aAa os))).1.1,vI (aAc (s.P (aAa os))).1.2,vI (aAc (s.P (aAa os))).2.1,vI (aAc (s.P (aAa os))).2.2]),(60,vB true)] [] 97 (.agg #[vI (aAc (s.P (aAa os))).1.1,vI (aAc (s.P (aAa os))).1.2,vI (aAc (s.P (aAa os))).2.1,vI (aAc (s.P (aAa os))).2.2]) f0 hM λai w1 hM=>seg 9 0 [] f0 (drx [20,41] (λZ=>[some (vI (max (max ((aAc (s.P (aAa os))).1.1-q.x) 0) (q.x-(aAc (s.P (aAa os))).2.1))),some (vI (max (max ((aAc (s.P (aAa os))).1.2-q.y) 0) (q.y-(aAc (s.P (aAa os))).2.2)))]) _ (λZ l=>[bk fb (fY_ (vL p0 os.length cp0) q (.map (some bs)) (vP xi 0)) 93,mp Tryz.prog 9 bs ns (shF S),aBQ (S.map (shE (aAa os))),ixO xi mb ns (bxS (aAa os) S) S1,rw_ stL 1 9 (vL qi R.length ci) R,rw_ rwL 2 108 (vL pb b9.length cb) b9,bk ai #[vI (aAc (s.P (aAa os))).1.1,vI (aAc (s.P (aAa os))).1.2,vI (aAc (s.P (aAa os))).2.1,vI (aAc (s.P (aAa os))).2.2] 97]) (λZ=>[(11,vI (max (max ((aAc (s.P (aAa os))).1.1-q.x) 0) (q.x-(aAc (s.P (aAa os))).2.1))),(12,vI (max (max ((aAc (s.P (aAa os))).1.2-q.y) 0) (q.y-(aAc (s.P (aAa os))).2.2)))]) hM (λZ=>rfl) (λZ l w5 hM=>(fc (ldm 3 6 0 hM rfl rfl) (fc (ldm 3 0 10 hM rfl rfl) (fc (aGq (aAc (s.P (aAa os))).1.1 q.x u3_) (fc (ldm 3 0 10 hM rfl rfl) (fc (ldm 3 6 2 hM rfl rfl) (fc (aGq q.x (aAc (s.P (aAa os))).2.1 u3_) (fc (ldm 3 6 1 hM rfl rfl) (fc (ldm 3 0 11 hM rfl rfl) (fc (aGq (aAc (s.P (aAa os))).1.2 q.y u3_) (fc (ldm 3 0 11 hM rfl rfl) (fc (ldm 3 6 3 hM rfl rfl) (fc (aGq q.y (aAc (s.P (aAa os))).2.2 u3_) f0))))))))))))) ⟨aPq 0 20 81 #[3,3,3] ((aAc (s.P (aAa os))).1.1-q.x) 0 (q.x-(aAc (s.P (aAa os))).2.1),aPq 1 41 102 #[3,3,3] ((aAc (s.P (aAa os))).1.2-q.y) 0 (q.y-(aAc (s.P (aAa os))).2.2),trivial⟩ λba w1 hM=>?_);replace hM:Mm G w w1 [bk fb (fY_ (vL p0 os.length cp0) q (.map (some bs)) (vP xi 0)) 93,_,_,_,_,_,bk ai #[vI (aAc (s.P (aAa os))).1.1,vI (aAc (s.P (aAa os))).1.2,vI (aAc (s.P (aAa os))).2.1,vI (aAc (s.P (aAa os))).2.2] 97]:=hM
   have cu270:∀(w2:World),Mm G w w2 [bk fb (fY_ (vL p0 os.length cp0) q (.map (some bs)) (vP xi 0)) 93,mp Tryz.prog 9 bs ns (shF S),aBQ (S.map (shE (aAa os))),ixO xi mb ns (bxS (aAa os) S) S1,rw_ stL 1 9 (vL qi R.length ci) R,rw_ rwL 2 108 (vL pb b9.length cb) b9,bk ai #[vI (aAc (s.P (aAa os))).1.1,vI (aAc (s.P (aAa os))).1.2,vI (aAc (s.P (aAa os))).2.1,vI (aAc (s.P (aAa os))).2.2] 97]->aWY Y (some (11,0)) [(8,vP s.b 0),(7,vS ab),(35,vI (k:Int)),(34,vI (R.length:Int)),(33,vL qi R.length ci),(5,.func (.func 62) #[] #[]),(4,vL pb b9.length cb),(0,vP fb 0)] w2:=by
    intro w2 hM;refine aAw 11 7 136 [(129,vS ab),(130,vP s.b 0),(135,.agg #[vI q.x,vI q.y])] (fc (lam 29 0 10 2 hM rfl) f0) hM (aET (aQa hM (j:=2) rfl hss) hNs (q.x,q.y)) λw1 hM=>aBW 11 9 13 [(137,.agg #[vS ab,vI (sqP (aAa os) s (q.x,q.y))])] [] 108 (.agg #[vS ab,vI (sqP (aAa os) s (q.x,q.y))]) f0 hM λbb w1 hM=>aJd 12 3 142 [(139,vL pb b9.length cb),(140,.agg #[vS ab,vI (sqP (aAa os) s (q.x,q.y))]),(141,.func (.func 62) #[] #[])] (K:=λu w8=>∃(i:Nat)(b:Bool),u=.tuple #[vI (i:Int),vB b]/\i<=b9.length/\(∀(i2:Nat)(a2:Ca),i2<i->b9[i2]?=some a2->aDf a2 (ab,(sqP (aAa os) s (q.x,q.y)))=true)/\(∀(i2:Nat)(a2:Ca),i<=i2->b9[i2]?=some a2->aDf a2 (ab,(sqP (aAa os) s (q.x,q.y)))=false)) (fc (lam 108 7 0 2 hM rfl) f0) hM ((aPj (c:=(ab,(sqP (aAa os) s (q.x,q.y)))) (((hM.src (j:=5) rfl caT.len).p).2) oM hok.1 hok.2.1 ⟨aRQ hNs (hGS s hss) hzG,Int.le_trans (aNe _ _ _) dE⟩).mono λe w9 ⟨i,b,h1,h2,h3,h4,h5⟩=>⟨⟨_,h1,i,b,rfl,h2,h3,h4⟩,h5⟩) λu w1 ⟨i9,f9,hu,hi9,hlo,hhi⟩ hM f1=>?_;subst hu;refine aAu 13 3 148 [(145,vL pb b9.length cb),(146,vI (i9:Int)),(147,.agg #[vS ab,vI (sqP (aAa os) s (q.x,q.y))])] (cs:=#[vS ab,vI (sqP (aAa os) s (q.x,q.y))]) (T:=108) (v:=λb=>vL (some ⟨b,0,none⟩) 1 1) (fc (lam 108 7 0 2 hM rfl) f0) hM λbc w1 hM=>aHU 13 4 149 [] (K:=λu Mn=>Mn=[rw_ rwL 2 108 u (aDa (ab,(sqP (aAa os) s (q.x,q.y))) b9)]) [0,1,2,3,4,6,7] [5,8] f0 hM rfl rfl dE (λhm=>(aXT (L:=b9) (x:=(ab,(sqP (aAa os) s (q.x,q.y)))) hm hi9 oM hlo hhi)) λu Mn w1 hK hM=>?_;obtain rfl:=hK;obtain⟨qb,cb2,e9,-⟩:=(hM.src (j:=7) rfl caT.len).op;subst e9;obtain⟨g9,eg9,-,hle9,hcm9⟩:=aJB (hM.get 7 rfl) (by rw[aFY];omega);subst eg9;obtain⟨b8,hb8⟩:∃z,z=(aDa (ab,(sqP (aAa os) s (q.x,q.y))) b9).take q.n.toNat:=⟨_,rfl⟩;have lK:b8.length=min (aDa (ab,(sqP (aAa os) s (q.x,q.y))) b9).length q.n.toNat:=by rw[hb8,Gq_];omega
    have hcm8:cb2<=9223372036854775807:=by unfold maxLen at hcm9;omega
    have hil:(aDa (ab,(sqP (aAa os) s (q.x,q.y))) b9).length=b9.length+1:=aFY _ _;refine seg 4 0 [(4,vL (some ⟨g9,0,none⟩) b8.length cb2),(35,vI ((k:Int)+1))] (fc (ldm 3 0 9 hM rfl rfl) (fc (aSS 3 ((aDa (ab,(sqP (aAa os) s (q.x,q.y))) b9).length:Int) q.n) (fc (aX1 106 108 g9 (n:=(aDa (ab,(sqP (aAa os) s (q.x,q.y))) b9).length) (z:=(min ((aDa (ab,(sqP (aAa os) s (q.x,q.y))) b9).length:Int) q.n)) (k:=b8.length) (by rw[lK];omega) oM oM hcm8 ⟨2,λ_=>by kernel_rfl⟩) (fc (aAP (k:Int) 1 u3_) f0)))) ?_;have hM:=hM.pick [0,1,2,3,4,7];have hM:=hM.rowtk (j:=5) caT.len rfl (k:=b8.length) oM;have eK:(aDa (ab,(sqP (aAa os) s (q.x,q.y))) b9).take b8.length=b8:=by rw[lK,hb8,List.take_eq_take_iff];omega
    rw[eK] at hM;replace hM:Mm G w _ [bk fb (fY_ (vL p0 os.length cp0) q (.map (some bs)) (vP xi 0)) 93,_,_,_,_,_]:=hM;exact aAi _ (ao _ (by have:=gl ac;omega) (k+1) (some ⟨g9,0,none⟩) cb2 b8 _ (gl ac) (by rw[hb8,aUk hpw ac hss hys av,aRB,<-hb9]) hM rfl)
   obtain⟨x9,hx9⟩:∃z,z=(max (max ((aAc (s.P (aAa os))).1.1-q.x) 0) (q.x-(aAc (s.P (aAa os))).2.1)):=⟨_,rfl⟩;obtain⟨y9,hy9⟩:∃z,z=(max (max ((aAc (s.P (aAa os))).1.2-q.y) 0) (q.y-(aAc (s.P (aAa os))).2.2)):=⟨_,rfl⟩;rw[<-hx9,<-hy9];have hx2:=aEU (x:=x9) oM oM;have hy2:=aEU (x:=y9) oM oM;refine seg 10 9 [(111,vB ((b9.length:Int)==q.n))] (fc (ldm 3 0 9 hM rfl rfl) f0) ?_;cases aw:((b9.length:Int)==q.n)
   ·have a4:=ef aw;refine seg 11 0 [] f0 (aAi _ (cu270  _ hM))
   have a4:=et aw;obtain⟨ag,af⟩:=geb (l:=b9) (i:=(b9.length-1)) oM;have hlb:=hok.2.1 _ (gm af);obtain⟨bd,ax,-⟩:=hM.el caT (j:=5) rfl af;refine seg 10 26 [(128,vB (decide ((ag.2+1)<((x9*x9)+(y9*y9)))))] (fc (aIe x9 x9 u3_) (fc (aIe y9 y9 u3_) (fc (aAP (x9*x9) (y9*y9) u3_) (fc (aGq (b9.length:Int) 1 u3_) (fc (ix 106 cb ax (gl af) (z:=((b9.length:Int)-1)) (hz:=oM)) (fc (ldr 3 5 1 caT hM rfl ax af rfl) (fc (aAP ag.2 1 u3_) f0))))))) ?_;cases a5:(decide ((ag.2+1)<((x9*x9)+(y9*y9))))
   ·refine seg 11 0 [] f0 (aAi _ (cu270  _ hM))
   refine seg 16 0 [] f0 ?_;have hds:dsB (aAc (s.P (aAa os))) (q.x,q.y)=x9*x9+y9*y9:=by rw[hx9,hy9];unfold dsB dx;have e:∀a b:Int,max (max a b) 0=max (max a 0) b:=λa b=>oM;rw[e,e]
   have hB:b9=(beC q.n.toNat (cnL (aAa os) h q (q.x,q.y) S R)):=by rw[aUu hpw hNR hNS hGS hzG ac hss hys (by rw[<-hb9];omega) oM (a:=ag) (by rw[<-hb9,show q.n.toNat-1=b9.length-1 by omega];exact af) (by rw[hds];exact dt a5)];exact hb9
   have hM:=hM.pick [5];exact aAi _ (cu254 b9 pb cb _ hB hM)
  exact aAi _ (a1 _ 0 none 0 [] _ (Gg_ _) rfl hM rfl)
def mk0 (b:ObR):ShR:=⟨0,b,none,0,none,0⟩
def mkS (os:List ObR):List ShR:=(os.filter λb=>(aAd (aAa os) b.o.id).1==0).map mk0
theorem aTD (h:aE1 (aAa os) os S):S.map (λs=>mk0 s.o)=mkS os:=by
 unfold mkS;rw[<-h,List.map_map];rfl
theorem aWo {β:Type}(h:aE1 (aAa os) os S){f:ShR->Option β}(hf:∀s,f s=f (mk0 s.o)):S.filterMap f=(mkS os).filterMap f:=by
 rw[<-aTD h,List.filterMap_map];exact congrArg (λg=>S.filterMap g) (funext hf)
theorem aRE {q:QdR}(hS:aE1 (aAa os) os S):aEy (aAa os) h q S u=aEy (aAa os) h q (mkS os) (mk0 u.o):=aWo (f:=alR (aAa os) h q u) hS λ_=>rfl
theorem aTz {q:QdR}{z:Pt}(hS:aE1 (aAa os) os S):aGx (aAa os) h q S z=aGx (aAa os) h q (mkS os) z:=by
 unfold aGx;rw[aWo (f:=cdR (aAa os) h q z) hS λ_=>rfl]
def aC8 (h:Nat)(q:QdR)(os:List ObR):List (Bys×Int) :=
 match os.find? λb=>(b.o.id==q.id)&&((aAd (aAa os) b.o.id).1==0) with
 | some b=>aEy (aAa os) h q (mkS os) (mk0 b)
 | none=>[]
def aFR (h:Nat)(q:QdR)(os:List ObR):List (Bys×Int):=aGx (aAa os) h q (mkS os) (q.x,q.y)
theorem aJs (h:aE1 (aAa os) os S){b:ObR}:b∈S.map (·.o)↔b∈os/\(aAd (aAa os) b.o.id).1=0:=by
 rw[h,List.mem_filter];simp
theorem aKs {q:QdR}(hS:aE1 (aAa os) os S)(hno:∀s∈S,s.o.o.id≠q.id):aC8 h q os=[]:=by
 unfold aC8
 cases hf:os.find? λb=>(b.o.id==q.id)&&((aAd (aAa os) b.o.id).1==0) with
 | none=>rfl
 | some b =>
  have h1:=List.find?_some hf;have h2:=List.mem_of_find?_eq_some hf;simp only[Ga_,beq_iff_eq] at h1;obtain⟨s,hs,e⟩:=List.mem_map.1 ((aJs hS).2 ⟨h2,h1.2⟩);exact absurd (by rw[e];exact h1.1) (hno s hs)
theorem aKr {q:QdR}(hv:aAh (aAa os)=true)(hS:aE1 (aAa os) os S)(hu:u∈S)(e:u.o.o.id=q.id):aC8 h q os=aEy (aAa os) h q S u:=by
 rw[aRE hS];unfold aC8;have huo:=(aJs hS).1 (List.mem_map.2 ⟨u,hu,rfl⟩)
 cases hf:os.find? λb=>(b.o.id==q.id)&&((aAd (aAa os) b.o.id).1==0) with
 | none =>
  have:=List.find?_eq_none.1 hf u.o huo.1;simp only[Ga_,beq_iff_eq,not_and] at this;exact absurd huo.2 (this e)
 | some b =>
  have h1:=List.find?_some hf;have h2:=List.mem_of_find?_eq_some hf;simp only[Ga_,beq_iff_eq] at h1;obtain⟨s,hs,e2⟩:=List.mem_map.1 ((aJs hS).2 ⟨h2,h1.2⟩);have e2:s.o=b:=e2;have e3:s=u:=aGA (aVx hv hS) hs hu (by rw[e2,h1.1,e]);subst e3;rw[<-e2]
theorem aEs {q:QdR}(hc:aAn h os q=0):aAU h q=true/\aAh (aAa os)=true/\(aBC q == -1)=false/\((aBC q==0)=true\/(¬aAr (aAa os) q.id<0/\kindI os q.id=aBC q)):=by
 unfold aAn at hc;cases h1:aAU h q<;>cases h2:aAh (aAa os)<;>cases h3:(aBC q == -1)<;>cases h4:(aBC q==0)<;>cases h5:decide (aAr (aAa os) q.id<0)<;>cases h6:(kindI os q.id==aBC q)<;>rw[h1,h2] at hc<;>simp[h3,h4,h5,h6] at hc ⊢
 ·simp at h5 h6;exact⟨h5,h6⟩
theorem aTL (hv:aAh (aAa os)=true){b:ObR}(hb:b∈os):kindI os b.o.id=b.o.kind:=by
 have hm:b.o∈aAa os:=List.mem_map.2 ⟨b,hb,rfl⟩;have hf:=aD5 (aAV hv) hm;obtain⟨k,o,h1,h2,h3⟩:=aB5 (l:=aAa os) (id:=b.o.id) hf.1;have ho:o=b.o:=aSd (aAV hv) (Ge_ h2) hm h3;unfold kindI;rw[h1];have h4:(aAa os)[k]?=some b.o:=by rw[h2,ho]
 unfold aAa at h4;rw[Gr_] at h4;obtain⟨c,hc,e⟩:=Option.map_eq_some_iff.1 h4;simp[hc,e]
def frK (v:Value)(os:List ObR)(q:QdR)(b:Nat)(e:Ent):Prop:=∃bs xi mb S,aE1 (aAa os) os S/\e=aBQ [bk b #[v,vI q.ask,vI q.kind,vI q.wh.op,vS q.wh.key,vS q.wh.val,vI q.wh.n,vL q.wh.p q.wh.kids.length q.wh.cap,vS q.id,vI q.n,vI q.x,vI q.y,vS q.key,vS q.prof,vI q.min,.map (some bs),vP xi 0] 93,mp Tryz.prog 9 bs S.length (shF S),ixG xi mb (.pointer none) false S.length (bxS (aAa os) S),aBQ (S.map (shE (aAa os)))]
def rwK (L:List (Bys×Int))(u:Value)(z:Int)(e:Ent):Prop:=z=0/\e=rw_ rwL 2 42 u L
theorem aO7 (hm:aCt w v os)(hlen:os.length<=100000)(hvm:aAh (aAa os)=true)(q:QdR):Calls Tryz.prog 34 #[.agg #[v],vA (qdL q)] w λe w'=>∃u e',e=.returned (vP u 0)/\frK v os q u e'/\Mm nF_ w w' [e'] :=
 (aIA hm hlen hvm q).mono λe w' ⟨fb,bs,xi,mb,S,ns,h1,h2,h3,h4⟩=>⟨fb,_,h1,⟨bs,xi,mb,S,h3,rfl⟩,by subst h2;exact aDc (A:=[]) h4⟩
variable{e:Ent}
theorem aGa {wm:World}{j b:Nat}{q:QdR}(hvm:aAh (aAa os)=true)(hM:Mm nF_ w wm M)(hj:M[j]?=some (pfE (frK v os q b) e))(hm:Mm (BlM [pfE (frK v os q b) e]) wm wm [pfE (frK v os q b) e]) :
  ∃bs xi mb S,aE1 (aAa os) os S/\(∀k,BlM [pfE (frK v os q b) e] k->w.heap.size<=k)/\Mm (BlM [pfE (frK v os q b) e]) wm wm [bk b #[v,vI q.ask,vI q.kind,vI q.wh.op,vS q.wh.key,vS q.wh.val,vI q.wh.n,vL q.wh.p q.wh.kids.length q.wh.cap,vS q.id,vI q.n,vI q.x,vI q.y,vS q.key,vS q.prof,vI q.min,.map (some bs),vP xi 0] 93,mp Tryz.prog 9 bs S.length (shF S),ixO xi mb S.length (bxS (aAa os) S) λ_=>False,aBQ (S.map (shE (aAa os)))]:=by
 obtain⟨⟨bs,xi,mb,S,hS,he⟩,h1⟩:=hm.unpf (j:=0) rfl;have h1:Mm (BlM [pfE (frK v os q b) e]) wm wm [e]:=h1;have hpw:=aVx hvm hS;refine⟨bs,xi,mb,S,hS,λk hk=>?_,?_⟩
 ·obtain⟨x,hx,hk⟩:=hk;rw[Gd_] at hx;subst hx;rcases Nat.lt_or_ge k w.heap.size with h|h
  ·exact(hM.own _ (Ge_ hj) k hk h).elim
  ·exact h
 ·rw[show([e]:List Ent)=[aBQ [bk b #[v,vI q.ask,vI q.kind,vI q.wh.op,vS q.wh.key,vS q.wh.val,vI q.wh.n,vL q.wh.p q.wh.kids.length q.wh.cap,vS q.id,vI q.n,vI q.x,vI q.y,vS q.key,vS q.prof,vI q.min,.map (some bs),vP xi 0] 93,mp Tryz.prog 9 bs S.length (shF S),ixG xi mb (.pointer none) false S.length (bxS (aAa os) S),aBQ (S.map (shE (aAa os)))]] by rw[<-he]] at h1;have h2:=Mm.ung (A:=[]) (C:=[]) h1
  have h3:=aVY (A:=[bk b #[v,vI q.ask,vI q.kind,vI q.wh.op,vS q.wh.key,vS q.wh.val,vI q.wh.n,vL q.wh.p q.wh.kids.length q.wh.cap,vS q.id,vI q.n,vI q.x,vI q.y,vS q.key,vS q.prof,vI q.min,.map (some bs),vP xi 0] 93,mp Tryz.prog 9 bs S.length (shF S),aBQ (S.map (shE (aAa os)))]) (h2.pick [0,1,3,2]) λs c hc=>by
   obtain⟨t,ht,_,rfl⟩:=(aEM hpw).1 hc;have:=aPm hvm (aUP hvm rfl hS ht);unfold okB isP isI;omega
  exact h3.pick [0,1,3,2]
section
variable{wm:World}{j b:Nat}(hm:aCt w (vL p0 os.length cp0) os)(hvm:aAh (aAa os)=true){q:QdR}(hq:QdIn w B h q)(hBw:B<=w.heap.size)(hTe:Te w)(hol:os.length<=10000)(hM:Mm nF_ w wm M)(hj:M[j]?=some (pfE (frK (vL p0 os.length cp0) os q b) e))(hF:Mm (BlM [pfE (frK (vL p0 os.length cp0) os q b) e]) wm wm [pfE (frK (vL p0 os.length cp0) os q b) e])
include hm hvm hq hBw hTe hol hM hj hF
theorem aP0:Calls Tryz.prog 28 #[vP b 0] wm λx w'=>∃u z e',x=.returned (.tuple #[u,vI z])/\rwK (aDy h q os) u z e'/\Mm (BlM [pfE (frK (vL p0 os.length cp0) os q b) e]) wm w' [e']:=by
 obtain⟨bs,xi,mb,S,hS,hG,h1⟩:=aGa hvm hM hj hF;exact(aJa (hm.fr hM.fr) hvm (hq.fr hM.fr hBw) (Gn_ hBw hM.fr.size) (hTe.fr hM.fr) (h1.get 0 rfl) oM).mono λx w' ⟨u,g1,g2⟩=>⟨u,0,_,g1,⟨rfl,rfl⟩,aEP g2 λ_ h=>h.elim⟩
theorem aPu (hk:kindI os q.id=2)(h0:0<=q.n)(hn:q.n<=1048576):Calls Tryz.prog 30 #[vP b 0] wm λx w'=>∃u z e',x=.returned (.tuple #[u,vI z])/\rwK (aC8 h q os) u z e'/\Mm (BlM [pfE (frK (vL p0 os.length cp0) os q b) e]) wm w' [e']:=by
 obtain⟨bs,xi,mb,S,hS,hG,h1⟩:=aGa hvm hM hj hF
 by_cases hw:∃s∈S,s.o.o.id=q.id
 ·obtain⟨u,hu,hid⟩:=hw;have hk2:u.o.o.kind=2:=by rw[<-aTL hvm (shO hS hu),hid];exact hk
  rw[aKr hvm hS hu hid];exact(aKq hM.fr hG hm hvm hq hBw hTe hS oM rfl hu hid hk2 h0 hn h1).mono λx w' ⟨u,g1,g2⟩=>⟨u,0,_,g1,⟨rfl,rfl⟩,g2⟩
 ·have hno:∀s∈S,s.o.o.id≠q.id:=λs hs e=>hw ⟨s,hs,e⟩;rw[aKs hS hno];exact(aMB hM.fr hG hm hvm hq hBw hTe hS oM rfl hno h1).mono λx w' ⟨u,g1,g2⟩=>⟨u,0,_,g1,⟨rfl,rfl⟩,g2⟩
theorem aOh (hz:onG (q.x,q.y))(h0:1<=q.n)(hn:q.n<=1048576):Calls Tryz.prog 31 #[vP b 0] wm λx w'=>∃u z e',x=.returned (.tuple #[u,vI z])/\rwK (aFR h q os) u z e'/\Mm (BlM [pfE (frK (vL p0 os.length cp0) os q b) e]) wm w' [e']:=by
 obtain⟨bs,xi,mb,S,hS,hG,h1⟩:=aGa hvm hM hj hF;have e9:aFR h q os=aGx (aAa os) h q S (q.x,q.y):=(aTz hS).symm;rw[e9];have hzP:isP (q.x,q.y):=by unfold onG at hz;unfold isP isI;dsimp only at hz ⊢;omega
 exact(aHz hM.fr hG hm hvm hq hBw hTe hS oM rfl hz hzP h0 hn h1).mono λx w' ⟨u,g1,g2⟩=>⟨u,0,_,g1,⟨rfl,rfl⟩,g2⟩
end
theorem aPw (h:Nat)(q:QdR)(os:List ObR):(aC8 h q os).length<=os.length:=by
 unfold aC8;have h1:(mkS os).length<=os.length:=by unfold mkS;rw[Gp_];exact List.length_filter_le _ _
 split
 ·exact Gn_ (List.length_filterMap_le _ _) h1
 ·exact Gg_ _
theorem aQK (h:Nat)(q:QdR)(os:List ObR):(aFR h q os).length<=os.length:=by
 have h1:(mkS os).length<=os.length:=by unfold mkS;rw[Gp_];exact List.length_filter_le _ _
 unfold aFR aGx fC;have h2:=aOB ((mkS os).filterMap (cdR (aAa os) h q (q.x,q.y))) [];have h3:((mkS os).filterMap (cdR (aAa os) h q (q.x,q.y))).length<=(mkS os).length:=List.length_filterMap_le _ _;rw[Gp_,Gq_,h2,Gm_];omega
theorem aMC {q:QdR}(hask:q.ask=3)(h1:(aBC q == -1)=false)(h2:(aBC q==0)=true\/(¬aAr (aAa os) q.id<0/\kindI os q.id=aBC q)):kindI os q.id=2:=by
  have e:aBC q=2:=by
    unfold aBC at h1 ⊢;rw[hask] at h1 ⊢
    cases hk:(q.kind==4)||(q.kind==5) with
    | true=>rw[hk] at h1;have h1:((-1:Int) == -1)=false:=h1;cases h1
    | false=>rfl
  rw[e] at h2;exact(h2.resolve_left dE).2
theorem aPx {q:QdR}(hask:q.ask=3)(hv:aAU h q=true):0<=q.n/\q.n<=1048576:=by
  unfold aAU aIY at hv;rw[hask] at hv;simp only[Ga_] at hv;have h2:=hv.2;have h3:(aBk q.id&&(decide (0<=q.n)&&decide (q.n<=1048576))&&aDo q true true false false false false)=true:=h2;simp only[Ga_,decide_eq_true_eq] at h3;exact h3.1.2
theorem aT4 {q:QdR}(hask:q.ask=4)(hv:aAU h q=true):onG (q.x,q.y):=by
  unfold aAU aIY at hv;rw[hask] at hv;simp only[Ga_] at hv;have h2:=hv.2;have h3:((decide (1<=q.n)&&decide (q.n<=10000))&&(decide (0<=q.x)&&decide (q.x<=1048575))&&(decide (0<=q.y)&&decide (q.y<=1048575))&&aDo q false true true false false false)=true:=h2;simp only[Ga_,decide_eq_true_eq] at h3;exact⟨h3.1.1.2,h3.1.2⟩
theorem aT3 {q:QdR}(hask:q.ask=4)(hv:aAU h q=true):1<=q.n/\q.n<=1048576:=by
  unfold aAU aIY at hv;rw[hask] at hv;simp only[Ga_] at hv;have h2:=hv.2;have h3:((decide (1<=q.n)&&decide (q.n<=10000))&&(decide (0<=q.x)&&decide (q.x<=1048575))&&(decide (0<=q.y)&&decide (q.y<=1048575))&&aDo q false true true false false false)=true:=h2;simp only[Ga_,decide_eq_true_eq] at h3;have:=h3.1.1.1;omega
theorem aUY (w:World):(zeroValue 66).run Tryz.prog w=.ok .nilFunc w:=by kernel_rfl
theorem aBN (hmO:aCt w v os){q:QdR}(hq:QdIn w B h q)(hBw:B<=w.heap.size)(hTe:Te w)(hol:os.length<=10000){F:FuncId}(hF:¬q.ask=5/\((aAn h os q)=0->(F=28/\q.ask=1)\/(F=29/\q.ask=2)\/(F=30/\q.ask=3)\/(F=31/\q.ask=4)\/(F=33/\q.ask=6))){RW:List (Bys×Int)}(hl:RW.length<=os.length)(hc:(aAn h os q)=0->∀{p0:Option Addr}{cp0:Nat},aCt w (vL p0 os.length cp0) os->∀{wm:World}{M:List Ent}{j b:Nat}{e:Ent},Mm nF_ w wm M->M[j]?=some (pfE (frK (vL p0 os.length cp0) os q b) e)->Mm (BlM [pfE (frK (vL p0 os.length cp0) os q b) e]) wm wm [pfE (frK (vL p0 os.length cp0) os q b) e]->Calls Tryz.prog F #[vP b 0] wm λx w'=>∃u z e',x=.returned (.tuple #[u,vI z])/\rwK RW u z e'/\Mm (BlM [pfE (frK (vL p0 os.length cp0) os q b) e]) wm w' [e']):Calls Tryz.prog 12 #[.agg #[v],.agg (qY_ q)] w λe w'=>∃u,e=.returned (.tuple #[u,vI (aAn h os q)])/\Mm nF_ w w' [rw_ rwL 2 42 u (bif (aAn h os q)==0 then RW else[])]:=by
  obtain⟨p0,cp0,hp0,-⟩:=hmO.1.op;subst hp0;have h5:=hF.1;refine beg Tryz.func12 rfl rfl [(0,.agg #[vL p0 os.length cp0]),(1,.agg (qY_ q))] rfl rfl λY hY=>?_;have hM:=Mm.nil nF_ w;refine aAu 0 0 2 [] (cs:=#[vL p0 os.length cp0]) (T:=24) (v:=λb=>vP b 0) f0 hM λad w1 hM=>aAu 0 1 3 [] (cs:=(qY_ q)) (T:=31) (v:=λb=>vP b 0) f0 hM λae w1 hM=>aAw 1 2 12 [(10,.agg (qY_ q)),(11,.agg #[vL p0 os.length cp0])] (fc (lam 31 1 0 14 hM rfl) (fc (lam 24 0 0 1 hM rfl) f0)) hM (aIR (hmO.fr hM.fr) (hq.fr hM.fr hBw) (Gn_ hBw hM.fr.size) h5) λw1 hM=>seg 2 2 [(6,vI (aAn h os q)),(14,vB (!((aAn h os q)==0)))] f0 ?_;cases aa:((aAn h os q)==0)
  ·exact rt2 4 5 (vL none 0 0) (vI (aAn h os q)) rfl rfl f0 (hY _ _ ⟨_,rfl,by rw[aa];exact(hM.pick (M':=[]) []).row⟩)
  have hc0:=et aa;replace hF:=hF.2 hc0;obtain⟨-,hvm,-,-⟩:=aEs hc0;refine aOf 4 0 16 [] 3 f0 hM λaf w1 hM=>ins 4 1 [] 69 2 (vI 1) (.func (.func 28) #[] #[]) f0 hM rfl aTK u69_ (aTN oM) λw1 hM=>ins 4 2 [] 69 2 (vI 2) (.func (.func 29) #[] #[]) f0 hM rfl aTK u69_ (aTN oM) λw1 hM=>ins 4 3 [] 69 2 (vI 3) (.func (.func 30) #[] #[]) f0 hM rfl aTK u69_ (aTN oM) λw1 hM=>ins 4 4 [] 69 2 (vI 4) (.func (.func 31) #[] #[]) f0 hM rfl aTK u69_ (aTN oM) λw1 hM=>ins 4 5 [] 69 2 (vI 5) (.func (.func 32) #[] #[]) f0 hM rfl aTK u69_ (aTN oM) λw1 hM=>ins 4 6 [] 69 2 (vI 6) (.func (.func 33) #[] #[]) f0 hM rfl aTK u69_ (aTN oM) λw1 hM=>?_;obtain⟨mA,hmA⟩:∃z,z=(upd (upd (upd (upd (upd (upd (λ_=>none) (vI 1) (.func (.func 28) #[] #[])) (vI 2) (.func (.func 29) #[] #[])) (vI 3) (.func (.func 30) #[] #[])) (vI 4) (.func (.func 31) #[] #[])) (vI 5) (.func (.func 32) #[] #[])) (vI 6) (.func (.func 33) #[] #[])):=⟨_,rfl⟩;rw[<-hmA] at hM;have hlk:(mA (vI q.ask)).getD .nilFunc=.func (.func F) #[] #[]:=by rcases hF with⟨rfl,h⟩|⟨rfl,h⟩|⟨rfl,h⟩|⟨rfl,h⟩|⟨rfl,h⟩<;>rw[hmA,h]<;>simp[upd]
  clear hmA;refine seg 5 0 [(7,.map (some af))] f0 ?_;have hM:=hM.nl;refine drx [6,7] (λZ=>[some (vP (bn (Z 0)) 0),some (.tuple #[(tp0 (Z 1)),vI (tp1 (Z 1))])]) _ (λZ l=>[bk ad #[vL p0 os.length cp0] 24,bk ae (qY_ q) 31,mp Tryz.prog 3 af ((((((0+1)+1)+1)+1)+1)+1) mA,(bif l.getD 1 false then pfE (rwK RW (tp0 (Z 1)) (tp1 (Z 1))) (Z.e 1) else(bif l.getD 0 false then pfE ((frK (vL p0 os.length cp0) os q) (bn (Z 0))) (Z.e 0) else aEB))]) (λZ=>[(8,(tp0 (Z 1))),(9,vI (tp1 (Z 1)))]) hM (λZ=>rfl) (λZ l w5 hM=>(fc (ldm 3 1 0 hM rfl rfl) (fc (rz2 (lk 69 2 (vI q.ask) .nilFunc hM rfl aTK u69_ (aTN (by rcases hF with⟨-,h⟩|⟨-,h⟩|⟨-,h⟩|⟨-,h⟩|⟨-,h⟩<;>omega)) (aUY _)) hlk) (fc (lam 24 0 0 1 hM rfl) (fc (lam 31 1 0 14 hM rfl) f0))))) ⟨aPs 0 6 3 25 (f:=34) (λZ=>#[.agg #[vL p0 os.length cp0],.agg (qY_ q)]) (frK (vL p0 os.length cp0) os q) (λZ fr wm hM=>(aO7 (hmO.fr hM.fr) oM hvm q)),aU2 1 7 3 26 (f:=F) (λZ=>#[vP (bn (Z 0)) 0]) (λZ=>pfE ((frK (vL p0 os.length cp0) os q) (bn (Z 0))) (Z.e 0)) (rwK RW) (λZ fr wm hM hm=>(hc hc0 hmO hM (j:=3) kR hm)) (hs:=(by intro Z wm;rcases hF with⟨rfl,h⟩|⟨rfl,h⟩|⟨rfl,h⟩|⟨rfl,h⟩|⟨rfl,h⟩<;>kernel_rfl)),trivial⟩ λab w1 hM=>?_;replace hM:Mm nF_ w w1 [bk ad #[vL p0 os.length cp0] 24,bk ae (qY_ q) 31,_,pfE (rwK RW (tp0 (ab 1)) (tp1 (ab 1))) (ab.e 1)]:=hM;obtain⟨⟨hz9,hge⟩,hM⟩:=hM.unpf (j:=3) rfl;rw[hge] at hM;obtain⟨v1,hv1⟩:∃z,z=tp0 (ab 1):=⟨_,rfl⟩;rw[<-hv1] at hM;rw[hz9,<-hv1];have hM:=hM.pick [3];replace hM:Mm nF_ w _ [_]:=hM;obtain⟨qa,ca,e9,-⟩:=(hM.src (j:=0) rfl rwT.len).op;subst e9;refine seg 8 4 [(33,vB (decide (10000<(RW.length:Int))))] f0 ?_;cases ac:(decide (10000<(RW.length:Int)))
  ·have ag:=df ac;exact rt2 4 5 (vL qa RW.length ca) (vI 0) rfl rfl f0 (hY _ _ ⟨_,by rw[et aa],by rw[aa];exact hM⟩)
  have ag:=dt ac;exact absurd (dt ac) oM
theorem aE7 (hmO:aCt w v os){q:QdR}(hq:QdIn w B h q)(hBw:B<=w.heap.size)(hTe:Te w)(hol:os.length<=10000)(hask:q.ask=1):Calls Tryz.prog 12 #[.agg #[v],.agg (qY_ q)] w λe w'=>∃u,e=.returned (.tuple #[u,vI (aAn h os q)])/\Mm nF_ w w' [rw_ rwL 2 42 u (bif (aAn h os q)==0 then(aDy h q os) else[])] :=
  aBN hmO hq hBw hTe hol ⟨by omega,λ_ =>.inl ⟨rfl,hask⟩⟩ (aEz h q os) λhc _ _ hm _ _ _ _ _ hM hj hF=>by
    obtain⟨hvq,hvm,hn1,hn2⟩:=aEs hc;exact aP0 hm hvm hq hBw hTe hol hM hj hF
theorem aGE (hmO:aCt w v os){q:QdR}(hq:QdIn w B h q)(hBw:B<=w.heap.size)(hTe:Te w)(hol:os.length<=10000)(hask:q.ask=3):Calls Tryz.prog 12 #[.agg #[v],.agg (qY_ q)] w λe w'=>∃u,e=.returned (.tuple #[u,vI (aAn h os q)])/\Mm nF_ w w' [rw_ rwL 2 42 u (bif (aAn h os q)==0 then(aC8 h q os) else[])] :=
  aBN hmO hq hBw hTe hol ⟨by omega,λ_ =>.inr (.inr (.inl ⟨rfl,hask⟩))⟩ (aPw h q os) λhc _ _ hm _ _ _ _ _ hM hj hF=>by
    obtain⟨hvq,hvm,hn1,hn2⟩:=aEs hc;have hk2:=aMC hask hn1 hn2;have hb9:=aPx hask hvq;exact aPu hm hvm hq hBw hTe hol hM hj hF hk2 hb9.1 hb9.2
theorem aGD (hmO:aCt w v os){q:QdR}(hq:QdIn w B h q)(hBw:B<=w.heap.size)(hTe:Te w)(hol:os.length<=10000)(hask:q.ask=4):Calls Tryz.prog 12 #[.agg #[v],.agg (qY_ q)] w λe w'=>∃u,e=.returned (.tuple #[u,vI (aAn h os q)])/\Mm nF_ w w' [rw_ rwL 2 42 u (bif (aAn h os q)==0 then(aFR h q os) else[])] :=
  aBN hmO hq hBw hTe hol ⟨by omega,λ_ =>.inr (.inr (.inr (.inl ⟨rfl,hask⟩)))⟩ (aQK h q os) λhc _ _ hm _ _ _ _ _ hM hj hF=>by
    obtain⟨hvq,hvm,hn1,hn2⟩:=aEs hc;have hz9:=aT4 hask hvq;have hb9:=aT3 hask hvq;exact aOh hm hvm hq hBw hTe hol hM hj hF hz9 hb9.1 hb9.2
theorem aLT (hmO:aCt w v os){q:QdR}(hq:QdIn w B h q)(hBw:B<=w.heap.size)(hTe:Te w)(hol:os.length<=10000)(hask:q.ask=2)(hc:¬(aAn h os q)=0):Calls Tryz.prog 12 #[.agg #[v],.agg (qY_ q)] w λe w'=>∃u,e=.returned (.tuple #[u,vI (aAn h os q)])/\Mm nF_ w w' [rw_ rwL 2 42 u []] :=
  (aBN hmO hq hBw hTe hol (F:=29) ⟨by omega,λh=>absurd h hc⟩ (RW:=[]) (Gg_ _) λh=>absurd h hc).mono λe w' ⟨u,h1,h2⟩=>⟨u,h1,by cases h9:((aAn h os q)==0)<;>rw[h9] at h2<;>exact h2⟩
theorem aV0 (a b:Bys×Int):Ft.ok Tryz.prog w (.g2 (λx y =>.binOp .neq 42 x y 42) (.agg #[vS a.1,vI a.2]) (.agg #[vS b.1,vI b.2]) (vB (!(a==b)))):=λo ρ x y ho hx hy=>by
  have e:(a==b)=((a.1==b.1)&&(a.2==b.2)):=rfl
  by_cases q1:a.1=b.1<;>by_cases q2:a.2=b.2<;>simp[execOp,ho,hx,hy,go_sem,Tryz.underlying42,Tryz.underlying41,u9_,u3_,e,aAF,q1,q2]
theorem toP {f:α->List Value}{c:Nat}{p:Option Addr}{cap:Nat}{L:List α}(h:SrcB f c w B p cap L)(hB:B<=w.heap.size):SrcP f c w p cap L:=⟨h.le,h.ca,h.at_.mono hB,h.nil⟩
abbrev bAp (Z:Ending->World->Prop):=AtO Tryz.prog (aAv Tryz.f14) (aAI (bodyPost Tryz.prog Tryz.f14 Z)) [] 26
theorem aIm {p1 p2:Option Addr}{c1 c2:Nat}{A B:List (Bys×Int)}(h1:SrcP rwL 2 w p1 c1 A)(h2:SrcP rwL 2 w p2 c2 B):Calls Tryz.prog 14 #[vL p1 A.length c1,vL p2 B.length c2] w λe w'=>e=.returned (vB (A==B))/\Fr nF_ w w':=by
  have q1:=h1.bnd;have q2:=h2.bnd;refine beg Tryz.func14 rfl rfl [(0,vL p1 A.length c1),(1,vL p2 B.length c2)] rfl rfl λZ hZ=>?_;have hM:=Mm.nil nF_ w;refine seg 1 5 [(10,vB (!((A.length:Int)==(B.length:Int))))] f0 ?_;cases aa:((A.length:Int)==(B.length:Int))
  ·have ae:=ef aa;exact rt1 4 (vB false) rfl f0 (hZ _ _ ⟨by rw[aUs (ef aa)],hM.fr⟩)
  have ae:=et aa;refine seg 4 0 [(5,vI 0)] f0 ?_
  have af:∀(ab:Nat)(i:Nat)(w2:World),i<=A.length->A.take i=B.take i->Mm nF_ w w2 []->ab=A.length-i->bAp Z (some (4,0)) [(5,vI (i:Int)),(0,vL p1 A.length c1),(1,vL p2 B.length c2)] w2:=by
   refine aCh λab ag i w2 hi he hM am=>seg 4 4 [(14,vB (decide ((i:Int)<(A.length:Int))))] f0 ?_;cases ac:(decide ((i:Int)<(A.length:Int)))
   ·have ah:=df ac;exact rt1 4 (vB true) rfl f0 (hZ _ _ ⟨by rw[aPS he oM oM],hM.fr⟩)
   have ah:=dt ac;refine seg 6 0 [] f0 ?_;have hM:=hM.q ((Fr.refl _ _).drew);obtain⟨x1,hx1,an,ao,ai,aj⟩:=h1.el (i:=i) oM;obtain⟨y1,hy1,aq,au,ak,al⟩:=h2.el (i:=i) oM;refine drq [(25,vB (!(x1==y1)))] rfl (fc (ix 36 c1 ai (gl hx1)) (fc (la0 42 hM aj) (fc (ix 36 c2 ak (gl hy1)) (fc (la0 42 hM al) (fc (aV0 x1 y1) f0))))) ?_;cases ad:(x1==y1)
   ·exact rt1 4 (vB false) rfl f0 (hZ _ _ ⟨by rw[aW4 hx1 hy1 (ef ad)],hM.fr⟩)
   refine seg 4 0 [(5,vI ((i:Int)+1))] (fc (aAP (i:Int) 1 u3_) f0) (aAi _ (ag _ (by have:=gl hx1;omega) (i+1) _ (gl hx1) (aIf he hx1 hy1 (et ad)) hM rfl))
  exact aAi _ (af _ 0 _ (Gg_ _) rfl hM rfl)
def aP6 (h:Nat):Prop:=∀{c:CdR}{w:World}{B:Nat},CdB w B h c->B<=w.heap.size->Calls Tryz.prog 26 #[vA (cdL c)] w λe w'=>(∃b,e=.returned (vB b))/\Fr nF_ w w'
def aP7 (h:Nat):Prop:=∀{c:CdR}{w:World}{B:Nat}{m:Int},CdB w B h c->B<=w.heap.size->0<=m->m<=80->Calls Tryz.prog 25 #[vA (cdL c),vI m] w λe w'=>(∃n:Int,e=.returned (vI n)/\1<=n/\n<=m+1)/\Fr nF_ w w'
abbrev bAn (Z:Ending->World->Prop):=AtO Tryz.prog (aAv Tryz.f26) (aAI (bodyPost Tryz.prog Tryz.f26 Z)) [] 28
theorem aLG (ih:aP6 h){c:CdR}(hc:CdB w B (h+1) c)(hBw:B<=w.heap.size):Calls Tryz.prog 26 #[.agg (cY_ c)] w λe w'=>(∃b,e=.returned (vB b))/\Fr nF_ w w':=by
  have hq:=hc.2.2.1.bnd;refine beg Tryz.func26 rfl rfl [(0,.agg (cY_ c))] rfl rfl λZ hZ=>?_;have hM:=Mm.nil nF_ w;refine aAu 0 0 1 [] (cs:=(cY_ c)) (T:=27) (v:=λb=>vP b 0) f0 hM λac w1 hM=>seg 1 5 [(8,vB (decide (300<(c.key.length:Int))))] (fc (ldm 9 0 1 hM rfl rfl) (fc (aHS 9 c.key) f0)) ?_;cases ak:(decide (300<(c.key.length:Int)))
  rotate_left
  ·exact rt1 2 (vB false) rfl f0 (hZ _ _ ⟨⟨_,rfl⟩,hM.fr⟩)
  refine seg 1 10 [(13,vB (decide (300<(c.val.length:Int))))] (fc (ldm 9 0 2 hM rfl rfl) (fc (aHS 9 c.val) f0)) ?_;cases al:(decide (300<(c.val.length:Int)))
  rotate_left
  ·exact rt1 2 (vB false) rfl f0 (hZ _ _ ⟨⟨_,rfl⟩,hM.fr⟩)
  refine seg 4 0 [(3,vI 0)] f0 ?_
  have af:∀(ad:Nat)(i:Nat)(w2:World),i<=c.kids.length->Mm nF_ w w2 [bk ac (cY_ c) 27]->ad=c.kids.length-i->bAn Z (some (4,0)) [(3,vI (i:Int)),(1,vP ac 0)] w2:=by
   refine aCh λad ag i w2 hi hM am=>seg 4 5 [(18,vB (decide ((i:Int)<(c.kids.length:Int))))] (fc (ldm 25 0 4 hM rfl rfl) f0) ?_;cases ae:(decide ((i:Int)<(c.kids.length:Int)))
   ·have ah:=df ae;exact rt1 2 (vB true) rfl f0 (hZ _ _ ⟨⟨_,rfl⟩,hM.fr⟩)
   have ah:=dt ae;obtain⟨aa,ab,an,ao,ai,aj⟩:=(toP hc.2.2.1 hBw).el (i:=i) oM;refine aJd 6 5 26 [(25,.agg (cY_ aa))] (K:=λu w8=>∃b,u=vB b) (fc (ldm 25 0 4 hM rfl rfl) (fc (ix 25 c.cap ai (gl ab)) (fc (la0 27 hM aj) f0))) hM ((ih ((hc.2.2.2 aa (gm ab)).g (λ_ h=>h.elim) hM.fr hBw) (Gn_ hBw hM.fr.size)).mono λe w9 ⟨⟨b,h1⟩,h2⟩=>⟨⟨_,h1,b,rfl⟩,h2⟩) λu w1 ⟨b9,hu⟩ hM f1=>?_;subst hu;refine seg 6 7 [(27,vB (!b9))] f0 ?_
   cases aq:b9 with
   | false =>
    exact rt1 2 (vB false) rfl f0 (hZ _ _ ⟨⟨_,rfl⟩,hM.fr⟩)
   | true =>
    refine seg 4 0 [(3,vI ((i:Int)+1))] (fc (aAP (i:Int) 1 u3_) f0) (aAi _ (ag _ (by have:=gl ab;omega) (i+1) _ (gl ab) hM rfl))
  exact aAi _ (af _ 0 _ (Gg_ _) hM rfl)
theorem aKD:∀h,aP6 h
  | 0=>λhc=>hc.elim
  | h+1=>λhc hBw=>aLG (aKD h) hc hBw
abbrev bAo (Z:Ending->World->Prop):=AtO Tryz.prog (aAv Tryz.f25) (aAI (bodyPost Tryz.prog Tryz.f25 Z)) [] 31
theorem aMb (ih:aP7 h){c:CdR}{m:Int}(hc:CdB w B (h+1) c)(hBw:B<=w.heap.size)(hm0:0<=m)(hm1:m<=80):Calls Tryz.prog 25 #[.agg (cY_ c),vI m] w λe w'=>(∃n:Int,e=.returned (vI n)/\1<=n/\n<=m+1)/\Fr nF_ w w':=by
  have hq:=hc.2.2.1.bnd;refine beg Tryz.func25 rfl rfl [(0,.agg (cY_ c)),(1,vI m)] rfl rfl λZ hZ=>?_;have hM:=Mm.nil nF_ w;refine aAu 0 0 2 [] (cs:=(cY_ c)) (T:=27) (v:=λb=>vP b 0) f0 hM λac w1 hM=>seg 3 0 [(5,vI 1),(6,vI 0)] f0 ?_
  have ag:∀(ad:Nat)(i:Nat)(nn:Int)(w2:World),i<=c.kids.length->1<=nn->nn<=m+1->Mm nF_ w w2 [bk ac (cY_ c) 27]->ad=c.kids.length-i->bAo Z (some (3,0)) [(6,vI (i:Int)),(5,vI nn),(2,vP ac 0),(1,vI m)] w2:=by
   refine aCh λad ah i nn w2 hi hn0 hn hM am=>seg 3 6 [(12,vB (decide ((i:Int)<(c.kids.length:Int))))] (fc (ldm 25 0 4 hM rfl rfl) f0) ?_;cases ae:(decide ((i:Int)<(c.kids.length:Int)))
   ·have ai:=df ae;exact rt1 4 (vI nn) rfl f0 (hZ _ _ ⟨⟨_,rfl,by omega,by omega⟩,hM.fr⟩)
   have ai:=dt ae;refine seg 3 10 [(16,vB (decide (nn<=m)))] f0 ?_;cases af:(decide (nn<=m))
   ·have aj:=df af;exact rt1 4 (vI nn) rfl f0 (hZ _ _ ⟨⟨_,rfl,by omega,by omega⟩,hM.fr⟩)
   have aj:=dt af;obtain⟨aa,ab,an,ao,ak,al⟩:=(toP hc.2.2.1 hBw).el (i:=i) oM;refine aJd 5 9 28 [(19,vI nn),(24,.agg (cY_ aa)),(27,vI (m-nn))] (K:=λu w8=>∃n:Int,u=vI n/\1<=n/\n<=(m-nn)+1) (fc (ldm 25 0 4 hM rfl rfl) (fc (ix 25 c.cap ak (gl ab)) (fc (la0 27 hM al) (fc (aGq m nn u3_) f0)))) hM ((ih (m:=(m-nn)) ((hc.2.2.2 aa (gm ab)).g (λ_ h=>h.elim) hM.fr hBw) (Gn_ hBw hM.fr.size) oM oM).mono λe w9 ⟨⟨n,h1,h2,h3⟩,h4⟩=>⟨⟨_,h1,n,rfl,h2,h3⟩,h4⟩) λu w1 ⟨n9,hu,hn1,hn2⟩ hM f1=>?_;subst hu;refine seg 3 0 [(5,vI (nn+n9)),(6,vI ((i:Int)+1))] (fc (aAP nn n9 u3_) (fc (aAP (i:Int) 1 u3_) f0)) (aAi _ (ah _ (by have:=gl ab;omega) (i+1) (nn+n9) _ (gl ab) oM oM hM rfl))
  exact aAi _ (ag _ 0 1 _ (Gg_ _) oM oM hM rfl)
theorem aKX:∀h,aP7 h
  | 0=>λhc=>hc.elim
  | h+1=>λhc hBw=>aMb (aKX h) hc hBw
theorem aHE {c:CdR}(hc:CdB w B h c)(hBw:B<=w.heap.size):Calls Tryz.prog 10 #[.agg (cY_ c)] w λe w'=>(∃b,e=.returned (vB b))/\Fr nF_ w w':=by
  refine beg Tryz.func10 rfl rfl [(0,.agg (cY_ c))] rfl rfl λZ hZ=>?_;have hM:=Mm.nil nF_ w;refine aAu 0 0 1 [] (cs:=(cY_ c)) (T:=27) (v:=λb=>vP b 0) f0 hM λaa w1 hM=>aJd 1 1 4 [(3,.agg (cY_ c))] (K:=λu w8=>∃n:Int,u=vI n/\1<=n/\n<=81) (fc (lam 27 0 0 5 hM rfl) f0) hM ((aKX h (m:=80) (hc.g (λ_ h=>h.elim) hM.fr hBw) (Gn_ hBw hM.fr.size) oM oM).mono λe w9 ⟨⟨n,h1,h2,h3⟩,h4⟩=>⟨⟨_,h1,n,rfl,h2,by omega⟩,h4⟩) λu w1 ⟨n9,hu,hn1,hn2⟩ hM f1=>?_;subst hu;refine seg 1 4 [(6,vB (decide (n9<=80)))] f0 ?_;cases ab:(decide (n9<=80))
  ·exact rt1 2 (vB false) rfl f0 (hZ _ _ ⟨⟨_,rfl⟩,hM.fr⟩)
  refine aJd 1 5 8 [(7,.agg (cY_ c))] (K:=λu w8=>∃b,u=vB b) (fc (lam 27 0 0 5 hM rfl) f0) hM ((aKD h (hc.g (λ_ h=>h.elim) hM.fr hBw) (Gn_ hBw hM.fr.size)).mono λe w9 ⟨⟨b,h1⟩,h2⟩=>⟨⟨_,h1,b,rfl⟩,h2⟩) λu w1 ⟨b9,hu⟩ hM f1=>?_;subst hu;exact rt1 2 (vB b9) rfl f0 (hZ _ _ ⟨⟨_,rfl⟩,hM.fr⟩)
theorem aJY {q:QdR}(hq:QdIn w B h q)(hBw:B<=w.heap.size):Calls Tryz.prog 24 #[.agg (qY_ q)] w λe w'=>(∃b,e=.returned (vB b))/\Fr nF_ w w':=by
  refine beg Tryz.func24 rfl rfl [(0,.agg (qY_ q))] rfl rfl λZ hZ=>?_;have hM:=Mm.nil nF_ w;refine aAu 0 0 1 [] (cs:=(qY_ q)) (T:=31) (v:=λb=>vP b 0) f0 hM λaa w1 hM=>aJd 1 2 5 [(4,.agg #[vI q.wh.op,vS q.wh.key,vS q.wh.val,vI q.wh.n,vL q.wh.p q.wh.kids.length q.wh.cap])] (K:=λu w8=>∃b,u=vB b) (fc (lam 27 0 2 5 hM rfl) f0) hM ((aHE (hq.fr hM.fr hBw).wh (Gn_ hBw hM.fr.size)).mono λe w9 ⟨⟨b,h1⟩,h2⟩=>⟨⟨_,h1,b,rfl⟩,h2⟩) λu w1 ⟨b9,hu⟩ hM f1=>?_;subst hu;refine seg 1 4 [(6,vB b9)] f0 ?_
  cases ab:b9 with
  | false =>
   exact rt1 2 (vB false) rfl f0 (hZ _ _ ⟨⟨_,rfl⟩,hM.fr⟩)
  | true =>
   exact rt1 2 (vB (decide ((IntKind.i64.wrap ((IntKind.i64.wrap ((q.id.length:Int)+(q.key.length:Int)))+(q.prof.length:Int)))<=300))) rfl (fc (ldm 9 0 7 hM rfl rfl) (fc (aHS 9 q.id) (fc (ldm 9 0 11 hM rfl rfl) (fc (aHS 9 q.key) (fc (aSW (q.id.length:Int) (q.key.length:Int) u3_) (fc (ldm 9 0 12 hM rfl rfl) (fc (aHS 9 q.prof) (fc (aSW (IntKind.i64.wrap ((q.id.length:Int)+(q.key.length:Int))) (q.prof.length:Int) u3_) f0)))))))) (hZ _ _ ⟨⟨_,rfl⟩,hM.fr⟩)
theorem aJX {q:QdR}(hmO:aCt w v os)(hq:QdIn w B h q)(hBw:B<=w.heap.size):Calls Tryz.prog 9 #[.agg #[v],.agg (qY_ q)] w λe w'=>(∃b,e=.returned (vB b)/\(b=true->aEn (aAa os) 30=true))/\Fr nF_ w w':=by
  obtain⟨p0,cp0,hp0,-⟩:=hmO.1.op;subst hp0;refine beg Tryz.func9 rfl rfl [(0,.agg #[vL p0 os.length cp0]),(1,.agg (qY_ q))] rfl rfl λZ hZ=>?_;have hM:=Mm.nil nF_ w;refine aAu 0 0 2 [] (cs:=#[vL p0 os.length cp0]) (T:=24) (v:=λb=>vP b 0) f0 hM λab w1 hM=>aAu 0 1 3 [] (cs:=(qY_ q)) (T:=31) (v:=λb=>vP b 0) f0 hM λac w1 hM=>aAw 1 1 6 [(5,.agg #[vL p0 os.length cp0])] (fc (lam 24 0 0 1 hM rfl) f0) hM (aJZ (hmO.fr hM.fr) 30) λw1 hM=>seg 1 3 [(7,vB (aEn (aAa os) 30))] f0 ?_;cases aa:(aEn (aAa os) 30)
  ·exact rt1 4 (vB false) rfl f0 (hZ _ _ ⟨⟨_,rfl,λh9=>absurd h9 dE⟩,hM.fr⟩)
  refine aJd 1 4 9 [(8,.agg (qY_ q))] (K:=λu w8=>∃b,u=vB b) (fc (lam 31 1 0 14 hM rfl) f0) hM ((aJY (hq.fr hM.fr hBw) (Gn_ hBw hM.fr.size)).mono λe w9 ⟨⟨b,h1⟩,h2⟩=>⟨⟨_,h1,b,rfl⟩,h2⟩) λu w1 ⟨b9,hu⟩ hM f1=>?_;subst hu;exact rt1 4 (vB b9) rfl f0 (hZ _ _ ⟨⟨_,rfl,λh9=>by rw[aa]⟩,hM.fr⟩)
def aDe (b:Nat):List ObR:=[⟨⟨[110,49],1,0,0,[],[]⟩,none,0,none,0⟩,⟨⟨[110,50],1,4,0,[],[]⟩,none,0,none,0⟩,⟨⟨[110,51],1,9,9,[],[]⟩,none,0,none,0⟩,⟨⟨[119,49],2,0,0,[[110,49],[110,50]],[]⟩,some ⟨b,0,none⟩,2,none,0⟩]
def aUA:CdR := .mk 1 [] [] 0 none 0 []
theorem aU9 (w:World)(B:Nat):CdB w B 1 aUA:=⟨by unfold B63;decide,by unfold B63;decide,⟨Gj_ _,by decide,.inl rfl,λ_=>rfl⟩,λ_ h=>by cases h⟩
def qA:QdR:=⟨1,1,aUA,[],0,0,0,[],[],0⟩
def qB:QdR:=⟨3,1,aUA,[119,49],5,0,0,[],[],0⟩
def qC:QdR:=⟨4,0,aUA,[],2,9,8,[],[],0⟩
def qD:QdR:=⟨2,0,aUA,[119,49],0,0,0,[],[],0⟩
theorem aWR {q:QdR}(w:World)(B:Nat)(h:q.wh=aUA)(h1:q.id.length<=9/\q.key.length<=9/\q.prof.length<=9):QdIn w B 1 q:=⟨by rw[h];exact aU9 w B,by omega,by omega,by omega⟩
theorem aYI (b:Nat):aAn 1 (aDe b) qA=0/\aDy 1 qA (aDe b)=[([110,49],0),([110,50],0),([110,51],0)]:=⟨by kernel_rfl,by kernel_rfl⟩
theorem aYH (b:Nat):aAn 1 (aDe b) qD=13:=by kernel_rfl
theorem aXX (b:Nat):aAn 1 (aDe b) qB=0:=by kernel_rfl
theorem aXW (b:Nat):aAn 1 (aDe b) qC=0:=by kernel_rfl
theorem aZZ (b:Nat):aC8 1 qB (aDe b)=[([110,49],0),([110,50],0)]:=by kernel_rfl
theorem aZY (b:Nat):aFR 1 qC (aDe b)=[([110,51],1),([110,50],9)]:=by kernel_rfl
theorem aXV:ObB ⟨[119,49],2,0,0,[[110,49],[110,50]],[]⟩:=⟨by unfold B63;decide,by unfold B63;decide,by unfold B63;decide⟩
theorem aEJ (id:Bys)(x y:Int):Calls Tryz.prog 53 #[vS id,vI x,vI y] w λe w'=>e=.returned (.agg #[vS id,vI 1,vI x,vI y,vL none 0 0,vL none 0 0])/\Fr nF_ w w':=by
 refine beg Tryz.func53 rfl rfl [(0,vS id),(1,vI x),(2,vI y)] rfl rfl λZ hZ=>?_;have hM:=Mm.nil nF_ w;refine aAu 0 0 6 [] (cs:=#[vS [],vI 0,vI 0,vI 0,vL none 0 0,vL none 0 0]) (T:=48) (v:=λb=>vP b 0) f0 hM λaa w1 hM=>stm 1 5 [(11,.agg #[vS id,vI 1,vI x,vI y,vL none 0 0,vL none 0 0])] 48 0 0 (.agg #[vS id,vI 1,vI x,vI y,vL none 0 0,vL none 0 0]) f0 hM rfl λw1 hM=>rtc 6 48 rfl (aBi 48 0 hM rfl rfl) f0 (hZ _ _ ⟨rfl,hM.fr⟩)
theorem aDE (w:World):Calls Tryz.prog 11 #[] w λe w'=>e=.returned (vA (cdL aUA))/\Fr nF_ w w':=by
 refine beg Tryz.func11 rfl rfl [] rfl rfl λZ hZ=>?_;have hM:=Mm.nil nF_ w;refine aAu 0 0 0 [] (cs:=#[vI 0,vS [],vS [],vI 0,vL none 0 0]) (T:=27) (v:=λb=>vP b 0) f0 hM λaa w1 hM=>stm 1 1 [(1,.agg #[vI 1,vS [],vS [],vI 0,vL none 0 0])] 27 0 0 (.agg #[vI 1,vS [],vS [],vI 0,vL none 0 0]) f0 hM rfl λw1 hM=>rtc 0 27 rfl (aBi 27 0 hM rfl rfl) f0 (hZ _ _ ⟨rfl,hM.fr⟩)
theorem aGz (w:World):Calls Tryz.prog 22 #[] w λe w'=>∃v b,e=.returned (.agg #[v])/\aCt w' v (aDe b)/\Fr nF_ w w':=by
 refine beg Tryz.func22 rfl rfl [] rfl rfl λZ hZ=>?_;have hM:=Mm.nil nF_ w;refine aAu 0 0 0 [] (cs:=#[vL none 0 0]) (T:=24) (v:=λb=>vP b 0) f0 hM λac w1 hM=>aAw 2 1 3 [(1,.func (.func 53) #[] #[]),(2,.func (.func 53) #[] #[])] f0 hM (aEJ [110,49] 0 0) λw1 hM=>aAw 2 3 5 [(4,.func (.func 53) #[] #[])] f0 hM (aEJ [110,50] 4 0) λw1 hM=>aAw 2 5 7 [(6,.func (.func 53) #[] #[])] f0 hM (aEJ [110,51] 9 9) λw1 hM=>aAu 2 6 8 [] (cs:=#[vS [110,49],vS [110,50]]) (T:=9) (v:=λb=>vL (some ⟨b,0,none⟩) 2 2) f0 hM λaa w1 hM=>aAu 2 8 10 [(9,.agg #[vS [119,49],vI 2,vI 0,vI 0,vL (some ⟨aa,0,none⟩) 2 2,vL none 0 0])] (cs:=#[vS [110,49],vI 1,vI 0,vI 0,vL none 0 0,vL none 0 0,vS [110,50],vI 1,vI 4,vI 0,vL none 0 0,vL none 0 0,vS [110,51],vI 1,vI 9,vI 9,vL none 0 0,vL none 0 0,vS [119,49],vI 2,vI 0,vI 0,vL (some ⟨aa,0,none⟩) 2 2,vL none 0 0]) (T:=48) (v:=λb=>vL (some ⟨b,0,none⟩) 4 4) f0 hM λab w1 hM=>stm 2 10 [(11,.agg #[vL (some ⟨ab,0,none⟩) 4 4])] 24 0 0 (.agg #[vL (some ⟨ab,0,none⟩) 4 4]) f0 hM rfl λw1 hM=>?_
 have hOb:∀b∈aDe aa,ObIn w1 b:=by
  intro b hb;unfold aDe at hb;simp only[List.mem_cons,List.not_mem_nil,or_false] at hb;rcases hb with rfl|rfl|rfl|rfl
  ·exact aHx _ _ _ _ _ (by unfold B63;decide)
  ·exact aHx _ _ _ _ _ (by unfold B63;decide)
  ·exact aHx _ _ _ _ _ (by unfold B63;decide)
  ·exact⟨aBL (hM.get 1 rfl) _ 2 (λ_=>rfl) rfl rfl,⟨Gj_ _,Gg_ _,.inl rfl,λ_=>rfl⟩,aXV⟩
 have hSr:=aBL (f:=obL) (c:=6) (hM.get 2 rfl) (aDe aa) 4 (λ_=>rfl) rfl rfl;exact rtc 0 24 rfl (aBi 24 0 hM rfl rfl) f0 (hZ _ _ ⟨_,aa,rfl,⟨⟨_,_,rfl,hSr.le,hSr.ca,hSr.at_,hSr.nil⟩,hOb⟩,hM.fr⟩)
end Go.Proofs.YtngjlnhojicjeaaGreatDoor
