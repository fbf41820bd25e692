/- Part 3 of the proof. -/
import Derived.Test.YtnhljdeohelgjaaGreatDoorB2
import Derived.Shelf.SlSortCmp.NoneTotal
import Derived.Ground.SlsfProg
import Derived.Shelf.SlGeneric
import Derived.Test.YtnhljdeohelgjaaGreatDoorProg
import Derived.Shelf.Strconv.AtoiAll
set_option linter.unusedVariables false
set_option linter.unusedSimpArgs false
namespace Go.Proofs.YtnhljdeohelgjaaGreatDoor
open Go.RowKit Go.Pl
def spL (s:Sp):List Value:=[vI s.1,vI s.2]
theorem aFc (s:Sp):(spL s).length=2:=rfl
abbrev SpV:=Src spL 2
theorem aNA {l:List Sp}{i:Nat}{y:Sp}(hy:l[i]?=some y) {lo:Int}:vl lo (l.drop i)=(decide (lo<y.1)&&decide (y.1<y.2)&&decide (y.2≤10080)&&vl y.2 (l.drop (i+1))):=by
  have hi:=(List.getElem?_eq_some_iff.1 hy).1;rw [List.drop_eq_getElem_cons hi,(List.getElem?_eq_some_iff.1 hy).2];rfl
def aBU (m:Int):Bool:=decide (0≤m)&&decide (m≤1000000000)
def aB1 (l:List Sp) (m:Int):Int:=match l.find? (fun s=>decide (m%10080<s.2)) with | some s=>m+max 0 (s.1-m%10080) | none=>m-m%10080+10080+(l.headD (0,0)).1
def aAu (l:List Sp) (m:Int):Int×Bool:=if vl (-1) l&&aBU m && !l.isEmpty then (aB1 l m,true) else (0,false)
theorem aHl {lo:Int}{l:List Sp}(h0 : -1≤lo) (h:vl lo l=true):∀ (i j:Nat) (y z:Sp),i<j→l[i]?=some y→l[j]?=some z→y.2<z.1:=by
  induction l generalizing lo with
  | nil=>intro i j y z _ h;simp at h
  | cons s l ih =>
    obtain ⟨h1,h2,h3,h4⟩:=aBr.1 h;intro i j y z hij hy hz
    cases j with
    | zero=>omega
    | succ j =>
      simp only [List.getElem?_cons_succ] at hz
      cases i with
      | zero =>
        simp only [List.getElem?_cons_zero,Option.some.injEq] at hy;subst hy;have hm:=List.mem_of_getElem? hz;have:=aEE (m:=z.1) h4 ⟨z,hm,Int.le_refl _,(aPN (lo:=s.2) (by omega) h4 z hm).2.1⟩;exact this
      | succ i=>exact ih (by omega) h4 i j y z (by omega) (by simpa using hy) hz
theorem aIJ {α:Type}(l:List α):(((l.length:Int))==0)=l.isEmpty:=by
  cases l<;>simp;omega
theorem aMm {l:List Sp}{m:Int}(h:vl (-1) l=false):aAu l m=(0,false):=by unfold aAu;rw [h];rfl
theorem aHD {l:List Sp}{m:Int}(h:aBU m=false):aAu l m=(0,false):=by unfold aAu;rw [h];simp
theorem aMl {l:List Sp}{m:Int}(h:l.isEmpty=true):aAu l m=(0,false):=by unfold aAu;rw [h];simp
theorem aGM {l:List Sp}{m:Int}(h1:vl (-1) l=true) (h2:aBU m=true) (h3:l.isEmpty=false):aAu l m=(aB1 l m,true):=by unfold aAu;rw [h1,h2,h3];rfl
theorem aK2 {l:List Sp}{m:Int}{s:Sp}(h:l.find? (fun s=>decide (m%10080<s.2))=some s):aB1 l m=m+max 0 (s.1-m%10080):=by unfold aB1;rw [h]
theorem aK1 {l:List Sp}{m:Int}{s:Sp}(h:l.find? (fun s=>decide (m%10080<s.2))=none) (h0:l[0]?=some s):aB1 l m=m-m%10080+10080+s.1:=by
  unfold aB1;rw [h]
  cases l with
  | nil=>simp at h0
  | cons a l=>simp at h0;subst h0;rfl
theorem aQK {l:List Sp}{m:Int}{i:Nat}{y:Sp}(hA:∀ j z,j<i→l[j]?=some z→z.2≤m) (hy:l[i]?=some y) (h:m<y.2):l.find? (fun s=>decide (m<s.2))=some y:=by
  have hi:=(List.getElem?_eq_some_iff.1 hy).1;rw [List.find?_eq_some_iff_getElem];refine ⟨decide_eq_true h,i,hi,(List.getElem?_eq_some_iff.1 hy).2,fun j hj=>?_⟩;have:=hA j l[j] hj (List.getElem?_eq_getElem (by omega));simp only [Bool.not_eq_true',decide_eq_false_iff_not];omega
theorem aQJ {l:List Sp}{m:Int}(hA:∀ j z,j<l.length→l[j]?=some z→z.2≤m):l.find? (fun s=>decide (m<s.2))=none:=by
  rw [List.find?_eq_none];intro s hs;obtain ⟨j,hj,rfl⟩:=List.mem_iff_getElem.1 hs;have:=hA j l[j] hj (List.getElem?_eq_getElem hj);simp only [decide_eq_true_eq];omega
theorem aLj {l:List Sp}(h:vl (-1) l=true) {i:Nat}{y:Sp}(hy:l[i]?=some y):0≤y.1∧y.1<y.2∧y.2≤10080:=aPN (Int.le_refl _) h y (gm hy)
abbrev aUU (Φ:Ending→World→Prop):=AtO Tryz.prog (aAr Tryz.f141) (aA2 (bodyPost Tryz.prog Tryz.f141 Φ)) [] 31
theorem aHL {w:World}{v:Value}{l:List Sp}(hl:SpV w v l):Calls Tryz.prog 141 #[v] w fun e w'=>e = .returned (vB (vl (-1) l))∧Fr (fun _=>False) w w':=by
  obtain ⟨p0,cp0,hp0,sp0⟩:=hl.op;subst hp0;have bp0:=sp0.bnd;refine beg Tryz.func141 rfl rfl [(0,vL p0 l.length cp0)] rfl rfl fun Φ hΦ=>?_;have hM:=Mm.nil (fun _=>False) w;refine seg 3 0 [(3,vI (-1)),(6,vL p0 l.length cp0),(7,vI (l.length:Int)),(8,vI 0)] f0 ?_
  have lp1:∀ (m3:Nat) (i:Nat) (k:Int) (w2:World),i≤l.length→vl (-1) l=vl k (l.drop i)→Mm (fun _=>False) w w2 []→m3=l.length-i→aUU Φ (some (3,0)) [(8,vI (i:Int)),(7,vI (l.length:Int)),(6,vL p0 l.length cp0),(3,vI k)] w2:=by
   refine aBh fun m3 ih2 i k w2 hi hv hM hm3=>seg 3 1 [(9,vB (decide ((i:Int)<(l.length:Int))))] f0 ?_;cases h4:(decide ((i:Int)<(l.length:Int)))
   ·have rh4:=df h4;exact rt1 2 (vB true) rfl f0 (hΦ _ _ ⟨by rw [hv,List.drop_of_length_le (by omega)];rfl,hM.fr⟩)
   have rh4:=dt h4;obtain ⟨y,hy,g5,o5,q5,r5⟩:=sp0.el (i:=i) (by omega);refine aBD 4 2 5 [(11,.agg #[vI y.1,vI y.2])] [] 260 (.agg #[vI y.1,vI y.2]) (fc (ix 98 cp0 q5 (gl hy)) (fc (la0 260 hM r5) f0)) hM fun b6 w1 hM=>seg 5 5 [(16,vB (decide (y.1≤k)))] (fc (ldm 3 0 0 hM rfl rfl) f0) ?_;cases h7:(decide (y.1≤k))
   rotate_left
   ·have rh7:=dt h7;exact rt1 2 (vB false) rfl f0 (hΦ _ _ ⟨by rw [hv,aNA hy];simp;omega,hM.fr⟩)
   have rh7:=df h7;refine seg 5 12 [(23,vB (decide (y.2≤y.1)))] (fc (ldm 3 0 0 hM rfl rfl) (fc (ldm 3 0 1 hM rfl rfl) f0)) ?_;cases h8:(decide (y.2≤y.1))
   rotate_left
   ·have rh8:=dt h8;exact rt1 2 (vB false) rfl f0 (hΦ _ _ ⟨by rw [hv,aNA hy];simp;omega,hM.fr⟩)
   have rh8:=df h8;refine seg 5 16 [(27,vB (decide (10080<y.2)))] (fc (ldm 3 0 1 hM rfl rfl) f0) ?_;cases h9:(decide (10080<y.2))
   ·have rh9:=df h9;refine seg 3 0 [(3,vI y.2),(8,vI ((i:Int)+1))] (fc (ldm 3 0 1 hM rfl rfl) (fc (aAh (i:Int) 1 u3_) f0)) (aAb _ (ih2 _ (by omega) (i+1) y.2 _ (gl hy) (by rw [hv,aNA hy];simp;omega) (hM.pick []) rfl))
   have rh9:=dt h9;exact rt1 2 (vB false) rfl f0 (hΦ _ _ ⟨by rw [hv,aNA hy];simp;omega,hM.fr⟩)
  exact aAb _ (lp1 _ 0 (-1) _ (Nat.zero_le _) rfl hM rfl)
theorem aMR {x y:Int}:decide (Lib.compareInt x y<0)=decide (x<y):=by
  unfold Lib.compareInt
  by_cases h:x<y
  · simp [h]
  · simp [h];split<;>omega
theorem aPX {l:List Sp}{m:Int}{k:Nat}{y:Sp}(hv:vl (-1) l=true) (hy:l[k]?=some y) (h:decide (Lib.compareInt y.2 (m+1)<0)=true):∀ z q,z<k+1→l[z]?=some q→q.2≤m:=fun z q hz hq=>by
  rw [aMR] at h;have hc:=of_decide_eq_true h;have:=aLj hv hq;have:=aLj hv hy;rcases Nat.lt_or_ge z k with h9 | h9
  · have:=aHl (Int.le_refl _) hv _ _ _ _ h9 hq hy;omega
  · have e9:z=k:=by omega
    subst e9;rw [hy] at hq;cases hq;omega
theorem aPY {l:List Sp}{m:Int}{k:Nat}{y:Sp}(hv:vl (-1) l=true) (hy:l[k]?=some y) (h:decide (Lib.compareInt y.2 (m+1)<0)=false):∀ z q,k≤z→l[z]?=some q→m<q.2:=fun z q hz hq=>by
  rw [aMR] at h;have hc:=of_decide_eq_false h;have:=aLj hv hq;rcases Nat.lt_or_ge k z with h9 | h9
  · have:=aHl (Int.le_refl _) hv _ _ _ _ h9 hy hq;omega
  · have e9:z=k:=by omega
    subst e9;rw [hy] at hq;cases hq;omega
theorem aFs (m:Int) (w:World):Calls Tryz.prog 188 #[vI m] w fun e w'=>e = .returned (vB false)∧Fr (fun _=>False) w w':=by
  refine beg Tryz.func188 rfl rfl [(0,vI m)] rfl rfl fun Φ hΦ=>?_;have hM:=Mm.nil (fun _=>False) w;exact rt1 2 (vB (!(m==m))) rfl f0 (hΦ _ _ ⟨by simp,hM.fr⟩)
theorem aSs (x y:Int) (w:World):Calls Tryz.prog 144 #[vI x,vI y] w fun e w'=>e = .returned (vI (Lib.compareInt x y))∧Fr (fun _=>False) w w':=by
  refine beg Tryz.func144 rfl rfl [(0,vI x),(1,vI y)] rfl rfl fun Φ hΦ=>?_;have hM:=Mm.nil (fun _=>False) w;refine aAq 1 1 8 [(7,vI x)] f0 hM (aFs x _) fun w1 hM=>aAq 2 1 10 [(5,vB false),(9,vI y)] f0 hM (aFs y _) fun w1 hM=>seg 9 3 [(16,vB (decide (x<y)))] f0 ?_;cases h10:(decide (x<y))
  rotate_left
  ·have aa:=dt h10;exact rt1 4 (vI (-1)) rfl f0 (hΦ _ _ ⟨by unfold Lib.compareInt;simp;omega,hM.fr⟩)
  have aa:=df h10;refine seg 11 3 [(19,vB (decide (y<x)))] f0 ?_;cases h11:(decide (y<x))
  ·have ab:=df h11;exact rt1 4 (vI 0) rfl f0 (hΦ _ _ ⟨by unfold Lib.compareInt;simp;omega,hM.fr⟩)
  have ab:=dt h11;exact rt1 4 (vI 1) rfl f0 (hΦ _ _ ⟨by unfold Lib.compareInt;simp;omega,hM.fr⟩)
theorem aFj (s:Sp) {m:Int}(h0:0≤m) (h1:m≤10080) (w:World):Calls Tryz.prog 143 #[.agg #[vI s.1,vI s.2],vI m] w fun e w'=>e = .returned (vI (Lib.compareInt s.2 (m+1)))∧Fr (fun _=>False) w w':=by
  refine beg Tryz.func143 rfl rfl [(0,.agg #[vI s.1,vI s.2]),(1,vI m)] rfl rfl fun Φ hΦ=>?_;have hM:=Mm.nil (fun _=>False) w;refine aAn 0 0 2 [] (cs:=#[vI s.1,vI s.2]) (T:=260) (v:=fun b=>vP b 0) f0 hM fun aa w1 hM=>aAq 1 4 9 [(6,vI s.2),(8,vI (m+1))] (fc (ldm 3 0 1 hM rfl rfl) (fc (aAh m 1 u3_) f0)) hM (aSs s.2 (m+1) _) fun w1 hM=>rt1 4 (vI (Lib.compareInt s.2 (m+1))) rfl f0 (hΦ _ _ ⟨rfl,hM.fr⟩)
theorem tou (T:TypeId) (m:Int) (h0:0≤m) (h1:m≤9223372036854775807) {w:World}(hT:T=198:=by rfl):Ft.ok Tryz.prog w (.g1 (.convert 3 T) (vI m) (.int .u64 m)):=fun o ρ x ho hx=>by
  subst hT
  have:IntKind.u64.wrap m=m:=by
    show m%18446744073709551616=m;omega
  simp [execOp,ho,hx,go_sem,this]
theorem toi (T:TypeId) (m:Int) (h0:0≤m) (h1:m≤9223372036854775807) {w:World}(hT:T=198:=by rfl):Ft.ok Tryz.prog w (.g1 (.convert T 3) (.int .u64 m) (vI m)):=fun o ρ x ho hx=>by
  subst hT;simp [execOp,ho,hx,go_sem,IntWalk.i64_in m ⟨by omega,by omega⟩]
theorem aR2 (T:TypeId) (n:Nat) (h1:n≤9223372036854775807) {w:World}(hT:T=198:=by rfl):Ft.ok Tryz.prog w (.g2 (fun x y => .binOp .shr T x y T) (.int .u64 ((n:Nat):Int)) (.int .u64 1) (.int .u64 (((n / 2:Nat)):Int))):=fun o ρ x y ho hx hy=>by
  subst hT
  have:IntKind.u64.wrap ((n:Int) / 2)=(n:Int) / 2:=by
    show ((n:Int) / 2)%18446744073709551616=_;omega
  simp [execOp,ho,hx,hy,go_sem,this]
abbrev aUT (Φ:Ending→World→Prop):=AtO Tryz.prog (aAr Tryz.f142) (aA2 (bodyPost Tryz.prog Tryz.f142 Φ)) [] 49
theorem aH3 {w:World}{v:Value}{l:List Sp}(hl:SpV w v l) (hv:vl (-1) l=true) (hlen:l.length≤400000000) {m:Int}(h0:0≤m) (h1:m≤10080):Calls Tryz.prog 142 #[v,vI m,.func (.func 143) #[] #[]] w fun e w'=>∃ (i:Nat) (b:Bool),e = .returned (.tuple #[vI (i:Int),vB b])∧i≤l.length∧(∀ z q,z<i→l[z]?=some q→q.2≤m)∧(∀ z q,i≤z→l[z]?=some q→m<q.2)∧Fr (fun _=>False) w w':=by
  obtain ⟨p0,cp0,hp0,sp0⟩:=hl.op;subst hp0;have bp0:=sp0.bnd;refine beg Tryz.func142 rfl rfl [(0,vL p0 l.length cp0),(1,vI m),(2,.func (.func 143) #[] #[])] rfl rfl fun Φ hΦ=>?_;have hM:=Mm.nil (fun _=>False) w;refine seg 3 0 [(8,vI (l.length:Int)),(9,vI 0),(10,vI (l.length:Int))] f0 ?_
  have ad:∀ (ab:Nat) (i:Nat) (j:Nat) (w2:World),i≤j→j≤l.length→(∀ z q,z<i→l[z]?=some q→q.2≤m)→(∀ z q,j≤z→l[z]?=some q→m<q.2)→Mm (fun _=>False) w w2 []→ab=j-i→aUT Φ (some (3,0)) [(10,vI (j:Int)),(9,vI (i:Int)),(8,vI (l.length:Int)),(0,vL p0 l.length cp0),(1,vI m),(2,.func (.func 143) #[] #[])] w2:=by
   refine aBh fun ab ac i j w2 hij hjl hA hB hM ak=>seg 3 3 [(17,vB (decide ((i:Int)<(j:Int))))] f0 ?_;cases h16:(decide ((i:Int)<(j:Int)))
   ·have ae:=df h16;refine seg 8 5 [(35,vI (i:Int)),(39,vB (decide ((i:Int)<(l.length:Int))))] f0 ?_;cases h17:(decide ((i:Int)<(l.length:Int)))
    ·have af:=df h17;exact rt2 6 7 (vI (i:Int)) (vB false) rfl rfl f0 (hΦ _ _ ⟨i,false,rfl,by omega,hA,fun z q hz hq=>hB z q (by omega) hq,hM.fr⟩)
    have af:=dt h17;obtain ⟨y18,ag,al,am,q18,ah⟩:=sp0.el (i:=i) (by omega);refine aAq 8 11 46 [(40,.func (.func 143) #[] #[]),(44,.agg #[vI y18.1,vI y18.2]),(45,vI m)] (fc (ix 98 cp0 q18 (gl ag)) (fc (la0 260 hM ah) f0)) hM (aFj y18 h0 h1 _) fun w1 hM=>rt2 6 7 (vI (i:Int)) (vB ((Lib.compareInt y18.2 (m+1))==0)) rfl rfl f0 (hΦ _ _ ⟨i,((Lib.compareInt y18.2 (m+1))==0),rfl,by omega,hA,fun z q hz hq=>hB z q (by omega) hq,hM.fr⟩)
   have ae:=dt h16;obtain ⟨y19,aa,an,ao,q19,ai⟩:=sp0.el (i:=((i+j) / 2)) (by omega);refine aAq 5 6 30 [(11,vI ((((i+j) / 2:Nat)):Int)),(24,.func (.func 143) #[] #[]),(28,.agg #[vI y19.1,vI y19.2]),(29,vI m)] (fc (aAh (i:Int) (j:Int) u3_) (fc (tou 198 ((i:Int)+(j:Int)) (by omega) (by omega)) (fc (aR2 198 (i+j) (by omega)) (fc (toi 198 ((((i+j) / 2:Nat)):Int) (by omega) (by omega)) (fc (ix 98 cp0 q19 (gl aa)) (fc (la0 260 hM ai) f0)))))) hM (aFj y19 h0 h1 _) fun w1 hM=>seg 5 8 [(31,vB (decide ((Lib.compareInt y19.2 (m+1))<0)))] f0 ?_;cases h20:(decide ((Lib.compareInt y19.2 (m+1))<0))
   ·have aj:=df h20;refine seg 3 0 [(10,vI ((((i+j) / 2:Nat)):Int))] f0 (aAb _ (ac _ (by omega) i ((i+j) / 2) _ (by omega) (by omega) hA (aPY hv aa h20) hM rfl))
   have aj:=dt h20;refine seg 3 0 [(9,vI (((((i+j) / 2:Nat)):Int)+1))] (fc (aAh ((((i+j) / 2:Nat)):Int) 1 u3_) f0) (aAb _ (ac _ (by omega) ((i+j) / 2+1) j _ (by omega) (by omega) (aPX hv aa h20) hB hM rfl))
  exact aAb _ (ad _ 0 l.length _ (Nat.zero_le _) (Nat.le_refl _) (fun _ _ h=>absurd h (Nat.not_lt_zero _)) (fun z q h hq=>absurd (gl hq) (by omega)) hM rfl)
theorem aEy {w:World}{v:Value}{l:List Sp}(hl:SpV w v l) (hlen:l.length≤400000000) (m:Int):Calls Tryz.prog 90 #[v,vI m] w fun e w'=>e = .returned (.tuple #[vI (aAu l m).1,vB (aAu l m).2])∧Fr (fun _=>False) w w':=by
  have hl0:=hl;obtain ⟨p0,cp0,hp0,sp0⟩:=hl.op;subst hp0;have bp0:=sp0.bnd;refine beg Tryz.func90 rfl rfl [(0,vL p0 l.length cp0),(1,vI m)] rfl rfl fun Φ hΦ=>?_;have hM:=Mm.nil (fun _=>False) w;refine aAq 1 1 10 [(9,vL p0 l.length cp0)] f0 hM (aHL (hl0.fr hM.fr)) fun w1 hM=>seg 1 4 [(12,vB (!(vl (-1) l)))] f0 ?_;cases h21:(vl (-1) l)
  ·exact rt2 4 5 (vI 0) (vB false) rfl rfl f0 (hΦ _ _ ⟨by rw [aMm h21],hM.fr⟩)
  refine seg 1 9 [(17,vB ((l.length:Int)==0))] f0 ?_;cases h22:((l.length:Int)==0)
  rotate_left
  ·have ac:=et h22;exact rt2 4 5 (vI 0) (vB false) rfl rfl f0 (hΦ _ _ ⟨by rw [aMl (by rw [←aIJ];exact h22)],hM.fr⟩)
  have ac:=ef h22;refine seg 1 13 [(21,vB (decide (m<0)))] f0 ?_;cases h23:(decide (m<0))
  rotate_left
  ·have ad:=dt h23;exact rt2 4 5 (vI 0) (vB false) rfl rfl f0 (hΦ _ _ ⟨by rw [aHD (by unfold aBU;simp;omega)],hM.fr⟩)
  have ad:=df h23;refine seg 1 16 [(24,vB (decide (1000000000<m)))] f0 ?_;cases h24:(decide (1000000000<m))
  rotate_left
  ·have ae:=dt h24;exact rt2 4 5 (vI 0) (vB false) rfl rfl f0 (hΦ _ _ ⟨by rw [aHD (by unfold aBU;simp;omega)],hM.fr⟩)
  have ae:=df h24;refine aOX 4 2 30 [(6,vI (m%10080)),(28,vL p0 l.length cp0),(29,vI (m%10080))] (K:=fun u w8=>∃ (i:Nat) (b:Bool),u = .tuple #[vI (i:Int),vB b]∧i≤l.length∧(∀ z q,z<i→l[z]?=some q→q.2≤m%10080)∧(∀ z q,i≤z→l[z]?=some q→m%10080<q.2)) (fc (aNr m 10080 u3_) f0) hM ((aH3 (hl0.fr hM.fr) h21 hlen (m:=m%10080) (by omega) (by omega)).mono fun e w8 h=>by obtain ⟨i,b,h1,h2,h3,h4,h5⟩:=h;exact ⟨⟨_,h1,i,b,rfl,h2,h3,h4⟩,h5⟩) fun _ w1 ⟨i,b,hv9,hil,hA,hB⟩ hM f1=>?_;subst hv9;refine seg 5 4 [(7,vI (i:Int)),(36,vB ((i:Int)==(l.length:Int)))] f0 ?_;cases h25:((i:Int)==(l.length:Int))
  ·have af:=ef h25;obtain ⟨y26,aa,ai,aj,q26,ag⟩:=sp0.el (i:=i) (by omega);have hbhy26:=aLj h21 aa;exact rt2 4 5 (vI (m+(max 0 (y26.1-(m%10080))))) (vB true) rfl rfl (fc (ix 98 cp0 q26 (gl aa)) (fc (ld0 3 hM (ag 0 _ rfl)) (fc (aC8 y26.1 (m%10080) u3_) (fc (aRl 3 0 (y26.1-(m%10080))) (fc (aAh m (max 0 (y26.1-(m%10080))) u3_) f0))))) (hΦ _ _ ⟨by rw [aGM h21 (by unfold aBU;simp;omega) (by rw [←aIJ];exact h22),aK2 (aQK hA aa (hB _ _ (Nat.le_refl _) aa))],hM.fr⟩)
  have af:=et h25;obtain ⟨y27,ab,ak,al,q27,ah⟩:=sp0.el (i:=0) (by omega);have hbhy27:=aLj h21 ab;exact rt2 4 5 (vI (((m-(m%10080))+10080)+y27.1)) (vB true) rfl rfl (fc (aC8 m (m%10080) u3_) (fc (aAh (m-(m%10080)) 10080 u3_) (fc (ix 98 cp0 q27 (gl ab)) (fc (ld0 3 hM (ah 0 _ rfl)) (fc (aAh ((m-(m%10080))+10080) y27.1 u3_) f0))))) (hΦ _ _ ⟨by rw [aGM h21 (by unfold aBU;simp;omega) (by rw [←aIJ];exact h22),aK1 (aQJ fun z q hz hq=>hA z q (by omega) hq) ab],hM.fr⟩)
def aTM (c1:Nat) (p:Option Addr) (cap:Nat) (L:List Sp) (G:Nat→Prop) (W:World):Prop:=W.heap[c1]?=some (.cells #[vL p L.length cap] 98 (0,0))∧¬ G c1∧∃ B,SrcB spL 2 W B p cap L∧∀ k,G k→B≤k
def aPo (L:List Sp):List (Array Value):=L.map fun s=>#[.agg #[vI s.1,vI s.2]]
abbrev aUP (Φ:Ending→World→Prop):=AtO Tryz.prog (aAr Tryz.f231) (aA2 (bodyPost Tryz.prog Tryz.f231 Φ)) [] 16
theorem aGu {c1 cap:Nat}{p:Option Addr}{L:List Sp}:aKR Tryz.prog 231 #[vP c1 0] (aPo L) (aTM c1 p cap L):=by
  intro l J S w e0 hJ0 he hKp hSq hround;obtain ⟨hc1,hn1,B,hs,hG⟩:=hKp;have bb:=hs.bnd;refine beg Tryz.func231 rfl rfl [(0,.func (.yield l) #[] #[]),(1,vP c1 0)] rfl rfl fun Φ hΦ=>?_;have hM:=Mm.one he;refine seg 1 0 [(5,vL p L.length cap),(6,vI (L.length:Int)),(7,vI 0)] (fc (ld0 98 hM (bx hc1 0 rfl) hn1) f0) ?_
  have ac:∀ (ab:Nat) (k:Nat) (ek:Ent) (w2:World),k≤L.length→J k ek→Mm e0.B w w2 [ek]→ab=L.length-k→aUP Φ (some (1,0)) [(7,vI (k:Int)),(6,vI (L.length:Int)),(5,vL p L.length cap),(0,.func (.yield l) #[] #[])] w2:=by
   refine aBh fun ab ad k ek w2 hk hJ hM ag=>seg 1 1 [(8,vB (decide ((k:Int)<(L.length:Int))))] f0 ?_;cases h31:(decide ((k:Int)<(L.length:Int)))
   ·have ae:=df h31;exact rt0 rfl f0 (hΦ _ _ ⟨⟨_,rfl⟩,.inl ⟨_,by unfold aPo;rw [List.length_map,show L.length=k by omega];exact hJ,hM.get 0 rfl,hM.fr⟩⟩)
   have ae:=dt h31;obtain ⟨y32,aa,ah,ai,q32,af,n32⟩:=(hs).eb hG (i:=k) (by omega);refine aBD 2 2 4 [(10,.agg #[vI y32.1,vI y32.2])] [] 260 (.agg #[vI y32.1,vI y32.2]) (fc (ix 98 cap q32 (gl aa)) (fc (la0 260 hM af n32) f0)) hM fun aj w1 hM=>yld 3 2 13 [(11,.func (.yield l) #[] #[]),(12,.agg #[vI y32.1,vI y32.2])] #[260] (by decide) (fc (lam 260 1 0 2 hM rfl) f0) hM (j:=0) rfl (hround _ _ _ _ hJ (hM.get 0 rfl) hM.fr (aEs aa)) (fun ec w1 hJ hM=>?_) (fun w1 hS=>?_)
   · skip
     refine seg 1 0 [(7,vI ((k:Int)+1))] (fc (aAh (k:Int) 1 u3_) f0) (aAb _ (ad _ (by omega) (k+1) _ _ (gl aa) hJ (hM.pick [0]) rfl))
   · skip
     exact rt0 rfl f0 (hΦ _ _ ⟨⟨_,rfl⟩,.inr hS⟩)
  exact aAb _ (ac _ 0 e0 _ (Nat.zero_le _) hJ0 hM rfl)
theorem spT:ElT Tryz.prog spL 2 98 260:=⟨fun _=>rfl,by decide,fun x u hu=>by
  unfold spL at hu;simp only [List.mem_cons,List.not_mem_nil,or_false] at hu;rcases hu with rfl | rfl<;>rfl,Tryz.underlying98,aBj (by kernel_rfl)⟩
theorem aF9 {w:World}{gf:Nat}{lb:Array Value}{L:List Sp}{Kp:(Nat→Prop)→World→Prop}(hl:L.length≤300000000) (eg:aEM Tryz.prog gf) (hY:aKR Tryz.prog gf lb (aPo L) Kp) (hK:∀ G W,(∀ k,G k→w.heap.size≤k)→Fr (fun _=>False) w W→Kp G W):Calls Tryz.prog 256 #[vL none 0 0,.func (.func gf) #[] lb] w fun e w'=>∃ v,e = .returned v∧aHj spL 2 260 w w' v L∧Fr (fun _=>False) w w':=by
  refine aTs Tryz.func256 rfl rfl [(0,vL none 0 0),(1,.func (.func gf) #[] lb)] rfl rfl fun Φ hΦ=>?_;have hM:=Mm.nil (fun _=>False) w;refine aAn 0 0 2 [] (cs:=#[vL none 0 0]) (T:=98) (v:=fun b=>vP b 0) f0 hM fun aa w1 hM=>?_;have hM:=hM.row (f:=spL) (c:=2) (E:=260);refine seg 1002 0 [(6,.func (.func gf) #[] lb)] f0 (aT4 2 (g := .tmp 6) (ps:=#[7]) (vs:=aPo L) (fun k Mk=>∃ q c,Mk=[bk aa #[vL q (L.take k).length c] 98,rw_ spL 2 260 (vL q (L.take k).length c) (L.take k)]) (fun Mk=>False) hM ⟨none,0,rfl⟩ eg hY (fun G W hG f=>hK G W (hM.geK hG) (hM.fr.trans' f fun _ _ h=>h)) (vsz (ps:=#[7]) rfl) ?_ ?_ ?_)
  · skip
    intro k v Mk W l hv hI hfW hM;obtain ⟨q,c,rfl⟩:=hI;obtain ⟨y,hy,rfl⟩:=aPM hv;refine aBD 2 0 5 [] [] 260 (.agg #[vI y.1,vI y.2]) f0 hM fun ab w1 hM=>aQ0 [(5,vP ab 0),(2,vP aa 0)] f0 fun a E=>⟨_,_,E,hM,fun W2 l2 R2 hf2 hM hE=>?_⟩;refine aAn 3 2 10 [(8,vL q (L.take k).length c),(9,.agg #[vI y.1,vI y.2])] (cs:=#[vI y.1,vI y.2]) (T:=260) (v:=fun b=>vL (some ⟨b,0,none⟩) 1 1) (fc (ldm 98 0 0 hM rfl rfl) (fc (lam 260 2 0 2 hM rfl) f0)) hM fun ac w1 hM=>aKP 3 3 11 [] (cap:=1) (by decide) spT f0 hM (j:=1) rfl (aAE (f:=spL) (x:=y) (hM.get 3 rfl) (Nat.lt_succ_self _)) (fun h=>by cases h) (by simp only [List.length_take,List.length_cons,List.length_nil];omega) fun v37 w1 hM=>?_;obtain ⟨q37,c37,e37,-⟩:=(hM.src (j:=1) rfl spT.len).op;subst e37;refine stm 3 4 [] 98 0 0 (vL q37 ((L.take k)++[y]).length c37) f0 hM rfl fun w1 hM=>aQ0 [] f0 fun a E=>hE.nrm a _ _ ⟨_,_,by rw [gt_ hy]⟩ (hM.pick [0,1])
  · skip
    intro Mk w1 hI hM;obtain ⟨k,hk⟩:∃ k,k=(aPo L).length:=⟨_,rfl⟩;rw [←hk] at hI;obtain ⟨q,c,rfl⟩:=hI;exact aT3 4 (vL q (L.take k).length c) rfl (fc (ldm 98 0 0 hM rfl rfl) f0) hM (fun w9 hM=>hΦ _ _ ⟨_,rfl,by have:=hM.nrow (j:=1) rfl;have e9:L.take k=L:=List.take_of_length_le (by rw [hk];unfold aPo;rw [List.length_map];exact Nat.le_refl _);rw [e9] at this ⊢;exact this,hM.fr⟩)
  · exact fun a Mk w1 hT=>hT.elim
theorem aHa {w:World}{gf:Nat}{lb:Array Value}{L:List Sp}{Kp:(Nat→Prop)→World→Prop}(hl:L.length≤300000000) (eg:aEM Tryz.prog gf) (hY:aKR Tryz.prog gf lb (aPo L) Kp) (hK:∀ G W,(∀ k,G k→w.heap.size≤k)→Fr (fun _=>False) w W→Kp G W):Calls Tryz.prog 229 #[.func (.func gf) #[] lb] w fun e w'=>∃ v,e = .returned v∧aHj spL 2 260 w w' v L∧Fr (fun _=>False) w w':=by
  refine beg Tryz.func229 rfl rfl [(0,.func (.func gf) #[] lb)] rfl rfl fun Φ hΦ=>?_;have hM:=Mm.nil (fun _=>False) w;refine aHY 1 1 4 [(3,.func (.func gf) #[] lb)] (f:=spL) (c:=2) (E:=260) (A:=L) f0 hM (aF9 hl eg hY fun G W hG f=>hK G W (fun k h=>Nat.le_trans hM.fr.size (hG k h)) (hM.fr.trans' f fun _ _ h=>h)) fun u w1 hM=>?_;obtain ⟨q38,c38,eq38,sq38⟩:=(hM.src (j:=0) rfl spT.len).op;subst eq38;exact rt1 2 (vL q38 L.length c38) rfl f0 (hΦ _ _ ⟨_,rfl,hM.nrow (j:=0) rfl,hM.fr⟩)
theorem aHm (p:Option Addr) (n c:Nat) (w:World):Calls Tryz.prog 180 #[vL p n c] w fun e w'=>∃ b,e = .returned (.func (.func 231) #[] #[vP b 0])∧w'.heap[b]?=some (.cells #[vL p n c] 98 (0,0))∧w.heap.size≤b∧Fr (fun _=>False) w w':=by
  refine beg Tryz.func180 rfl rfl [(0,vL p n c)] rfl rfl fun Φ hΦ=>?_;have hM:=Mm.nil (fun _=>False) w;refine aAn 0 0 1 [] (cs:=#[vL p n c]) (T:=98) (v:=fun b=>vP b 0) f0 hM fun aa w1 hM=>rt1 2 (.func (.func 231) #[] #[vP aa 0]) rfl f0 (hΦ _ _ ⟨aa,rfl,hM.get 0 rfl,hM.ge (.head _) rfl,hM.fr⟩)
end Go.Proofs.YtnhljdeohelgjaaGreatDoor
namespace Go.Proofs
open Go.Shelf
def Tryz.sortSp_ren:Go.Shelf.Ren:=⟨fun | 6=>230 | 15=>156 | 14=>257 | 28=>216 | 29=>217 | 20=>276 | 21=>277 | 22=>278 | 23=>279 | 24=>280 | 25=>281 | 26=>282 | 27=>283 | 46=>291 | 47=>247 | 48=>248 | 49=>292 | 50=>293 | 57=>295 | n=>n,fun | 22=>98 | 24=>260 | 25=>310 | 3=>3 | 39=>198 | 0=>0 | 53=>340 | 55=>197 | 4=>4 | 46=>334 | 45=>333 | 50=>69 | 5=>5 | 9=>9 | 66=>370 | 70=>374 | 76=>395 | 77=>304 | n=>n,fun | n=>n⟩
theorem Tryz.sortSp:Go.Proofs.SlLaysF0.n6 Tryz.prog Tryz.sortSp_ren:={
  mixed:=by kernel_rfl
  f6:=⟨Tryz.f230.name,by decide,Tryz.func230.trans (congrArg some (by kernel_rfl))⟩
  f14:=⟨Tryz.f257.name,by decide,Tryz.func257.trans (congrArg some (by kernel_rfl))⟩
  f15:=Tryz.func156.trans (congrArg some (by kernel_rfl))
  f20:=⟨Tryz.f276.name,by decide,Tryz.func276.trans (congrArg some (by kernel_rfl))⟩
  f21:=⟨Tryz.f277.name,by decide,Tryz.func277.trans (congrArg some (by kernel_rfl))⟩
  f22:=⟨Tryz.f278.name,by decide,Tryz.func278.trans (congrArg some (by kernel_rfl))⟩
  f23:=⟨Tryz.f279.name,by decide,Tryz.func279.trans (congrArg some (by kernel_rfl))⟩
  f24:=⟨Tryz.f280.name,by decide,Tryz.func280.trans (congrArg some (by kernel_rfl))⟩
  f25:=⟨Tryz.f281.name,by decide,Tryz.func281.trans (congrArg some (by kernel_rfl))⟩
  f26:=⟨Tryz.f282.name,by decide,Tryz.func282.trans (congrArg some (by kernel_rfl))⟩
  f27:=⟨Tryz.f283.name,by decide,Tryz.func283.trans (congrArg some (by kernel_rfl))⟩
  f28:=Tryz.func216.trans (congrArg some (by kernel_rfl))
  f29:=Tryz.func217.trans (congrArg some (by kernel_rfl))
  f46:=⟨Tryz.f291.name,by decide,Tryz.func291.trans (congrArg some (by kernel_rfl))⟩
  f47:=Tryz.func247.trans (congrArg some (by kernel_rfl))
  f48:=Tryz.func248.trans (congrArg some (by kernel_rfl))
  f49:=⟨Tryz.f292.name,by decide,Tryz.func292.trans (congrArg some (by kernel_rfl))⟩
  f50:=⟨Tryz.f293.name,by decide,Tryz.func293.trans (congrArg some (by kernel_rfl))⟩
  f57:=⟨Tryz.f295.name,by decide,Tryz.func295.trans (congrArg some (by kernel_rfl))⟩
  t0:=Tryz.underlying0
  a0:=Tryz.isAgg0
  z0:=Tryz.sizeOf0
  v0:=Tryz.zeroValue0
  t3:=Tryz.underlying3
  a3:=Tryz.isAgg3
  z3:=Tryz.sizeOf3
  v3:=Tryz.zeroValue3
  t4:=Tryz.underlying4
  a4:=Tryz.isAgg4
  z4:=Tryz.sizeOf4
  v4:=Tryz.zeroValue4
  t5:=Tryz.underlying5
  a5:=Tryz.isAgg5
  z5:=Tryz.sizeOf5
  v5:=Tryz.zeroValue5
  t9:=Tryz.underlying9
  a9:=Tryz.isAgg9
  z9:=Tryz.sizeOf9
  v9:=Tryz.zeroValue9
  t22:=Tryz.underlying98
  a22:=Tryz.isAgg98
  z22:=Tryz.sizeOf98
  v22:=Tryz.zeroValue98
  t25:=Tryz.underlying310
  a25:=Tryz.isAgg310
  z25:=Tryz.sizeOf310
  v25:=Tryz.zeroValue310
  t39:=Tryz.underlying198
  a39:=Tryz.isAgg198
  z39:=Tryz.sizeOf198
  v39:=Tryz.zeroValue198
  t45:=Tryz.underlying333
  a45:=Tryz.isAgg333
  z45:=Tryz.sizeOf333
  v45:=Tryz.zeroValue333
  t46:=Tryz.underlying334
  a46:=Tryz.isAgg334
  z46:=Tryz.sizeOf334
  v46:=Tryz.zeroValue334
  t50:=Tryz.underlying69
  a50:=Tryz.isAgg69
  z50:=Tryz.sizeOf69
  v50:=Tryz.zeroValue69
  t53:=Tryz.underlying340
  a53:=Tryz.isAgg340
  z53:=Tryz.sizeOf340
  v53:=Tryz.zeroValue340
  t55:=Tryz.underlying197
  a55:=Tryz.isAgg197
  z55:=Tryz.sizeOf197
  v55:=Tryz.zeroValue197
  t66:=Tryz.underlying370
  a66:=Tryz.isAgg370
  z66:=Tryz.sizeOf370
  v66:=Tryz.zeroValue370
  t70:=Tryz.underlying374
  a70:=Tryz.isAgg374
  z70:=Tryz.sizeOf374
  v70:=Tryz.zeroValue374
  t76:=Tryz.underlying395
  a76:=Tryz.isAgg395
  z76:=Tryz.sizeOf395
  v76:=Tryz.zeroValue395
  t77:=Tryz.underlying304
  a77:=Tryz.isAgg304
  z77:=Tryz.sizeOf304
  v77:=Tryz.zeroValue304 }
end Go.Proofs
namespace Go.Proofs.YtnhljdeohelgjaaGreatDoor
open Go.RowKit Go.Pl Go.Sort Go.Shelf
abbrev spA (s:Sp):Array Value:=#[.int .i64 s.1,.int .i64 s.2]
theorem aPZ (s:Sp):∀ u∈spL s,u.oneCell'=true:=by unfold spL;simp [Value.oneCell']
theorem aQD:(Tryz.prog.info? 260).map (·.size)=some 2:=by kernel_rfl
abbrev oSp:=ow spL 2 260
section
variable {w:World}{b k:Nat}{cs:Array Value}{T:TypeId}
theorem aT5 (h:w.heap[b]?=some (.cells cs T (0,0))) (k:Nat) {p:Sp}(h0:cs[k]?=some (.int .i64 p.1)) (h1:cs[k+1]?=some (.int .i64 p.2)):w.rangeAt b k (spL p):=by
  intro j v hv;rw [aAt h]
  match j,hv with
  | 0,hv=>rw [←Option.some.inj hv];exact h0
  | 1,hv=>rw [←Option.some.inj hv];exact h1
  | j+2,hv=>simp [spL] at hv
end
section
variable {o:Oper}{w:World}{ρ:Operand→Value}{x y z:Operand}{g off k n cap i:Nat}{p:Option Addr}{v u:Value}{m b:Nat}
theorem aSi (ho:o.op = .fieldAddr 260 x 0) (hx:ρ x = .pointer (some ⟨g,off,none⟩)):(execOp ρ o).run Tryz.prog w = .ok (.value (.pointer (some ⟨g,off+0,none⟩))) w:=by simp [execOp,ho,hx,go_sem]
theorem aJv {s:Sp}(ho:o.op = .load 260 x) (hx:ρ x = .pointer (some ⟨g,off,none⟩)) (h:w.rangeAt g off (spL s)):(execOp ρ o).run Tryz.prog w = .ok (.value (.agg (spA s))) w:=by
  have:=run_loadAt_mid (P:=Tryz.prog) w g off 260 (spA s).toList _ h Tryz.underlying260 rfl aQD;simp only [execOp,ho,hx,Sem.run_bind,this,Result.andThen_ok,Sem.run_pure]
theorem aFe {s:Sp}(ho:o.op = .box 260 x) (hx:ρ x = .agg (spA s)):(execOp ρ o).run Tryz.prog w = .ok (.value (.pointer (some ⟨w.heap.size,0,none⟩))) (w.alloc (.cells (spA s) 260)):=by
  simp [execOp,ho,hx,go_sem]
theorem aQc {n:Int}(ho:o.op = .load 3 x) (hx:ρ x = .pointer (some ⟨g,off,none⟩)) (hc:w.cell? ⟨g,off,none⟩=some (.int .i64 n)):(execOp ρ o).run Tryz.prog w = .ok (.value (.int .i64 n)) w:=by
  simp [execOp,ho,hx,go_sem,hc]
end
section
variable {P:Program}{o:Oper}{w:World}{ρ:Operand→Value}{f:FuncId}{ts:Array TypeId}{x y z:Operand}{u v:Value}{cs bs:Array Value}
theorem aFZ (eg:∀ args w,(callFunc f args).run P w = .ok (.enter f args) w) (ho:o.op = .call ⟨.value z,#[x],ts⟩) (hf:ρ z = .func (.func f) #[] cs) (hx:ρ x=v) (ha:#[v]++cs=bs):(execOp ρ o).run P w = .ok (.enter f bs) w:=by
 subst ha;simp [execOp,ho,hf,hx,eg,resolve,Deferred.ofValue,invoke,go_sem]
end
def Gw (w w':World):Prop:=∃ q os,w'=grow (w.drewN q) os
theorem aOJ (w:World):grow w #[]=w:=by simp [grow]
theorem Gw.refl (w:World):Gw w w:=⟨0,#[],by rw [aOJ];rfl⟩
theorem Gw.drew {w w':World}(h:Gw w w'):Gw w w'.drew:=by
  obtain ⟨q,os,rfl⟩:=h;exact ⟨q+1,os,rfl⟩
theorem Gw.alloc {w w':World}(h:Gw w w') (o:Obj):Gw w (w'.alloc o):=by
  obtain ⟨q,os,rfl⟩:=h;refine ⟨q,os++#[o],?_⟩;simp [World.alloc,grow]
theorem Gw.trans {a b c:World}(h:Gw a b) (k:Gw b c):Gw a c:=by
  obtain ⟨q,os,rfl⟩:=h;obtain ⟨q2,os2,rfl⟩:=k;refine ⟨q+q2,os++os2,?_⟩;simp [grow,World.drewN,Nat.add_assoc]
theorem Gw.fr {w w':World}(h:Gw w w'):Fr (fun _=>False) w w':=by
  obtain ⟨q,os,rfl⟩:=h;refine ⟨rfl,rfl,rfl,?_,fun r hr _=>?_⟩
  · simp [grow,World.drewN]
  · simp only [grow,World.drewN]
    rw [Array.getElem?_append_left hr]
set_option maxHeartbeats 1000000 in
section
variable {α:Type}[Inhabited α] {c:Nat}{f:α→List Value}{T:TypeId}
def aTl (f:α→List Value) (c:Nat) (cur:Array Value) (L:List α):Prop:=∀ t x,L[t]?=some x→∀ j u,(f x)[j]?=some u→cur[t*c+j]?=some u
theorem aMC {l:List Value}{j:Nat}{u:Value}(h:l[j]?=some u):l[j]! = u:=by rw [List.getElem!_eq_getElem?_getD,h];rfl
theorem aKD (hc:0<c) (hf:∀ x,(f x).length=c) {w:World}{g:Nat}{cur:Array Value}{L:List α}(hb:w.heap[g]?=some (.cells cur T (0,0))) (h:aTl f c cur L):HoldsK f c w g 0 L.toArray:=by
  intro t ht;rw [size_flatK] at ht;simp only [List.size_toArray] at ht;have hq:t / c<L.length:=by rw [Nat.div_lt_iff_lt_mul hc];exact ht
  have hm:t%c<c:=Nat.mod_lt _ hc;obtain ⟨x,hx⟩:∃ x,L[t / c]?=some x:=⟨_,List.getElem?_eq_getElem hq⟩;obtain ⟨u,hu⟩:∃ u,(f x)[t%c]?=some u:=⟨_,List.getElem?_eq_getElem (by rw [hf];exact hm)⟩;refine ⟨?_,aFw hb _⟩;rw [get_flatK f c L.toArray t (by simpa using ht)]
  have e1:L.toArray[t / c]! = x:=by
    rw [Array.getElem!_eq_getD,Array.getD_eq_getD_getElem?];simp [hx]
  rw [e1,aMC hu,Nat.zero_add,aAt hb];have:=h (t / c) x hx (t%c) u hu;rw [Nat.mul_comm,Nat.div_add_mod] at this;exact this
theorem aFr (hf:∀ x,(f x).length=c) {w:World}{g:Nat}{cur:Array Value}{L:List α}(hb:w.heap[g]?=some (.cells cur T (0,0))) (hsz:L.length*c≤cur.size) (m:Nat) (os:Array Obj) :
    ∃ cur',(sortWorldK f c w g 0 m L.toArray os).heap[g]?=some (.cells cur' T (0,0))∧cur'.size=cur.size∧aTl f c cur' L∧Fr (fun k=>k=g) w (sortWorldK f c w g 0 m L.toArray os):=by
  have hlt:=aAg hb
  have hmod:(mapBlock (Sort.ahead w m) g (putCells id 0 (flatK f c L.toArray))).heap[g]?=some (.cells (putCells id 0 (flatK f c L.toArray) cur) T (0,0)):=by
    unfold mapBlock;simp only [Array.getElem?_modify,if_true];show Option.map _ w.heap[g]?=_;rw [hb];rfl
  have hsize:(mapBlock (Sort.ahead w m) g (putCells id 0 (flatK f c L.toArray))).heap.size=w.heap.size:=by
    unfold mapBlock Sort.ahead;simp
  refine ⟨putCells id 0 (flatK f c L.toArray) cur,?_,?_,?_,?_⟩
  · unfold sortWorldK putRowK putRow grow
    simp only;rw [Array.getElem?_append_left (by rw [hsize];exact hlt)];exact hmod
  · unfold putCells;simp
  · intro t x hx j u hu
    have hj:j<c:=by rw [←hf x];exact (List.getElem?_eq_some_iff.1 hu).1
    have ht:=(List.getElem?_eq_some_iff.1 hx).1
    have hlt2:t*c+j<L.length*c:=by
      have:t*c+c≤L.length*c:=by rw [←Nat.succ_mul];exact Nat.mul_le_mul_right c ht
      omega
    unfold putCells;rw [Array.getElem?_mapIdx,Array.getElem?_eq_getElem (by omega)];simp only [Option.map_some,size_flatK,List.size_toArray,Nat.zero_add,Nat.zero_le,true_and,Nat.sub_zero,if_pos hlt2,id];rw [get_flatK f c L.toArray _ (by simpa using hlt2)]
    have e1:(t*c+j) / c=t:=by
      rw [Nat.mul_comm,Nat.mul_add_div (by omega),Nat.div_eq_of_lt hj,Nat.add_zero]
    have e2:(t*c+j)%c=j:=by rw [Nat.mul_comm,Nat.mul_add_mod,Nat.mod_eq_of_lt hj]
    rw [e1,e2]
    have e3:L.toArray[t]! = x:=by
      rw [Array.getElem!_eq_getD,Array.getD_eq_getD_getElem?];simp [hx]
    rw [e3,aMC hu]
  · unfold sortWorldK putRowK putRow grow
    refine ⟨rfl,rfl,rfl,?_,fun r hr hne=>?_⟩
    · simp only [Array.size_append];rw [hsize];omega
    · simp only
      rw [Array.getElem?_append_left (by rw [hsize];exact hr)];unfold mapBlock;simp only [Array.getElem?_modify];rw [if_neg (fun e=>hne e.symm)];rfl
end
theorem aR3 {α:Type}{lt:α→α→Bool}(a b:α→Int) (h:∀ x y,lt x y=true↔a x<a y∨a x=a y∧b x<b y):SWO lt:=by
  have h':∀ x y,lt x y=false↔¬ (a x<a y∨a x=a y∧b x<b y):=fun x y=>by rw [←h,Bool.not_eq_true]
  refine ⟨fun x=>?_,fun x y z h1 h2=>?_,fun x y z h1 h2=>?_⟩
  · rw [h'];omega
  · rw [h] at *;omega
  · rw [h'] at *;omega
section
variable {α:Type}[Inhabited α]
theorem aOr {d d':Array α}(h:PermIn 0 d.size d d'):d'.toList.Perm d.toList:=by
  have h1:=h.2.2;have e1:d.extract 0 d.size=d:=by simp
  have e2:d'.extract 0 d.size=d':=by rw [←h.1];simp
  rwa [e1,e2] at h1
theorem aKg {lt:α→α→Bool}{d':Array α}{n:Nat}(hn:d'.size=n) (h:SortedIn lt 0 n d'):d'.toList.Pairwise fun x y=>lt y x=false:=by
  rw [List.pairwise_iff_getElem];intro i j hi hj hij;have:=h i j (Nat.zero_le _) hij (by rw [←hn];simpa using hj);rw [getElem!_pos d' i (by simpa using hi),getElem!_pos d' j (by simpa using hj)] at this;simpa using this
end
section
variable {P:Program}{O:Array Oper}{Q:Exit→Act→World→Prop}{rest:List Oper}{o:Oper}{a:Act}{w:World}{n d:Nat}{L:List (Nat×Value)}{x y:Operand}{b:Nat}{ds:List Deferred}
theorem aGY {T:TypeId}{cs:Array Value}(E:EnvD ds n L a) (hd:o.dst=some d) (hn:d<n) (hf:(L.map (·.1)).contains d=false) (hw:Region.wanted o (yielded O a.tmps)=true) (hr:(execOp a.eval o).run P w = .ok (.value (.pointer (some ⟨w.heap.size,0,none⟩))) (w.alloc (.cells cs T)))
    (k:∀ a' w' b,w.heap.size=b→w'.heap[b]?=some (.cells cs T (0,0))→Gw w w'→EnvD ds n ((d,.pointer (some ⟨b,0,none⟩))::L) a'→wpList P O Q rest a' w'):wpList P O Q (o::rest) a w :=
  aIS E hd hn hf hw hr fun a' E'=>k a' _ _ rfl (aAQ _ _) ((Gw.refl _).alloc _) E'
end
theorem aJu {o:Oper}{w:World}{ρ:Operand→Value}{x:Operand}{g off:Nat}{v:Value}(ho:o.op = .load 261 x) (hx:ρ x = .pointer (some ⟨g,off,none⟩)) (hc:w.cell? ⟨g,off,none⟩=some v):(execOp ρ o).run Tryz.prog w = .ok (.value v) w:=by
  simp [execOp,ho,hx,go_sem,hc]
theorem aSr (x y:Int) (w:World):Calls Tryz.prog 144 #[.int .i64 x,.int .i64 y] w fun e w'=>e = .returned (.int .i64 (Lib.compareInt x y))∧Gw w w':=(Tryz.cmp_Compare_int x y w).mono fun e w' h=>⟨h.1,by rw [h.2];exact Gw.refl _⟩
set_option maxRecDepth 100000 in
set_option maxHeartbeats 4000000 in
theorem aHI (s:Sp) (w:World):Calls Tryz.prog 137 #[.agg (spA s)] w fun e w'=>e = .returned (.int .i64 s.1)∧Gw w w':=by
  refine aLb Tryz.func137 rfl rfl (n:=5) (by decide) fun a E=>?_;have hf:Gw w w:=Gw.refl _;refine s_ (r_ (aGY (d:=1) E rfl (by decide) rfl (aAC rfl _) (aFe rfl E.g0) fun a w1 b1 eb1 hb1 f1 E=>?_));have hnb1:w.heap.size≤b1:=by have:=hf.fr.size;omega
  have hf:=hf.trans f1;clear f1;refine ep (v := .int .i64 0) E rfl (a_ rfl rfl) fun a E=>n_ (t_ (s_ (r_ (ep (v := .pointer (some ⟨b1,0,none⟩)) E rfl (aSi rfl E.g1) fun a E=>ep (v := .int .i64 s.1) E rfl (aQc rfl E.g0 (bx hb1 0 rfl)) fun a E=>es_ E rfl (a_ rfl E.g0) fun a E=>n_ (t_ (wr_ (aI5 (t:=2) rfl E E.g0 ⟨rfl,hf⟩)))))))
set_option maxRecDepth 100000 in
set_option maxHeartbeats 4000000 in
theorem aIV {c3:Nat}(s t:Sp) {w:World}(hc3:w.heap[c3]?=some (.cells #[.func (.func 137) #[] #[]] 261 (0,0))):Calls Tryz.prog 181 #[.agg (spA s),.agg (spA t),.pointer (some ⟨c3,0,none⟩)] w fun e w'=>e = .returned (.int .i64 (Lib.compareInt s.1 t.1))∧Gw w w':=by
  refine aLa Tryz.func181 rfl rfl (n:=13) (by decide) fun a E=>?_;have hf:Gw w w:=Gw.refl _;refine s_ (r_ (aGY (d:=3) E rfl (by decide) rfl (aAC rfl _) (aFe rfl E.g0) fun a w1 b2 eb2 hb2 f1 E=>?_));have hnb2:w.heap.size≤b2:=by have:=hf.fr.size;omega
  have hc3:=f1.fr.obj hc3 id;have hf:=hf.trans f1;clear f1;refine aGY (d:=4) E rfl (by decide) rfl (aAC rfl _) (aFe rfl E.g2) fun a w1 b3 eb3 hb3 f1 E=>?_;have hnb3:w.heap.size≤b3:=by have:=hf.fr.size;omega
  have hlb2b3:b2<b3:=by have:=aAg hb2;omega
  have hc3:=f1.fr.obj hc3 id;have hb2:=f1.fr.obj hb2 id;have hf:=hf.trans f1;clear f1;refine ep (v := .int .i64 0) E rfl (a_ rfl rfl) fun a E=>n_ (t_ (s_ (aFE (G:=Unit) () (n:=13) (base:=[(4,.pointer (some ⟨b3,0,none⟩)),(3,.pointer (some ⟨b2,0,none⟩)),(0,.agg (spA s)),(1,.agg (spA t)),(2,.pointer (some ⟨c3,0,none⟩))]) (U:=[(5,.int .i64 0,7)]) (T:=fun γ=>[some (6,.func (.func 137) #[] #[]),some (7,.agg (spA s)),some (8,.int .i64 s.1),some (9,.func (.func 137) #[] #[]),some (10,.agg (spA t)),some (11,.int .i64 t.1),some (12,.int .i64 (Lib.compareInt s.1 t.1)),some (5,.int .i64 (Lib.compareInt s.1 t.1))]) (M:=fun γ ls9 wm=>Gw w1 wm) (by kernel_rfl) (by kernel_rfl) (fun _=>by kernel_rfl) (E.of ⟨E.g1,E.g2,E.g3,E.g4,E.g5,trivial⟩) (fun x hx=>by simp only [List.mem_cons,List.not_mem_nil,or_false] at hx;subst hx;exact E.g0) (Gw.refl _).drew ?_ ?_)))
  · intro j9 o9 γ ls9 a w5 ho hl E D DL DL2 hB hM
    have hc3:=hM.fr.obj hc3 id;have hb2:=hM.fr.obj hb2 id;have hb3:=hM.fr.obj hb3 id
    match j9,ho,hl,D,DL,hB with
    | 0,ho,hl,D,DL,hB=>exact z0_ ho (aRv rfl (aJu rfl E.g4 (bx hc3 0 rfl)) rfl hM)
    | 1,ho,hl,D,DL,hB=>exact z0_ ho (aRv rfl (aJv rfl E.g1 (aT5 (p:=s) hb2 0 rfl rfl)) rfl hM)
    | 2,ho,hl,D,DL,hB=>exact z0_ ho (aQU rfl (aFZ (enters_of Tryz.func137 (by kernel_rfl) rfl) rfl (D 0 _ rfl rfl) (D 1 _ rfl rfl) rfl) (aHI s _) rfl fun w9 f1=>hM.trans f1)
    | 3,ho,hl,D,DL,hB=>exact z0_ ho (aRv rfl (aJu rfl E.g4 (bx hc3 0 rfl)) rfl hM)
    | 4,ho,hl,D,DL,hB=>exact z0_ ho (aRv rfl (aJv rfl E.g0 (aT5 (p:=t) hb3 0 rfl rfl)) rfl hM)
    | 5,ho,hl,D,DL,hB=>exact z0_ ho (aQU rfl (aFZ (enters_of Tryz.func137 (by kernel_rfl) rfl) rfl (D 3 _ rfl rfl) (D 4 _ rfl rfl) rfl) (aHI t _) rfl fun w9 f1=>hM.trans f1)
    | 6,ho,hl,D,DL,hB=>exact z0_ ho (aQU rfl (aLN (enters_of Tryz.func144 (by kernel_rfl) rfl) rfl rfl (D 2 _ rfl rfl) (D 5 _ rfl rfl)) (aSr s.1 t.1 _) rfl fun w9 f1=>hM.trans f1)
    | 7,ho,hl,D,DL,hB=>exact z0_ ho (aRv rfl (a_ rfl (D 6 _ rfl rfl)) rfl hM)
    | j9+8,ho,hl,D,DL,hB=>exact absurd ho (by simp)
  · rintro _ a w5 E V hM
    have E:=E.add (v := .int .i64 (Lib.compareInt s.1 t.1)) (V 7 _ rfl);clear V;have hc3:=hM.fr.obj hc3 id;have hb2:=hM.fr.obj hb2 id;have hb3:=hM.fr.obj hb3 id;have hf:=hf.trans hM;clear hM;refine t_ (wr_ (aI5 (t:=5) rfl E E.g0 ⟨rfl,hf⟩))
theorem aJN (x y:Int):Lib.compareInt x y<0↔x<y:=by
  have:=@aMR x y;simpa using this
theorem aH0 {w:World}{B c3:Nat}{v:Value}{L:List Sp}(hO:oSp w B v L) (hc3:w.heap[c3]?=some (.cells #[.func (.func 137) #[] #[]] 261 (0,0))) (hn:∀ k,v.ownBlock=some k→k≠c3) (hl:L.length≤20000) :
    Calls Tryz.prog 230 #[v,.func (.func 181) #[] #[.pointer (some ⟨c3,0,none⟩)]] w fun e w'=>e = .returned (.tuple #[])∧∃ L',L'.Perm L∧L'.Pairwise (fun x y=>x.1≤y.1)∧oSp w' B v L'∧Fr (fun k=>v.ownBlock=some k) w w':=by
  rcases hO.2 with ⟨rfl,h2⟩ | ⟨g,cap,cur,rfl,hB,h3,h4,h5,h6,h7⟩
  · have hL:L=[]:=List.eq_nil_of_length_eq_zero h2
    subst hL;refine Calls.mono (AnyF.slices_SortFunc_none Tryz.sortSp none 0 _ w) ?_;rintro e w' ⟨rfl,rfl⟩;exact ⟨rfl,[],.refl _,.nil,hO,Fr.refl _ _⟩
  · have hgc:g≠c3:=hn g rfl
    have hO':SWO (ltOf fun x y:Sp=>Lib.compareInt x.1 y.1):=aR3 (fun x=>x.1) (fun _=>0) fun x y=>by unfold ltOf;rw [decide_eq_true_iff,aJN];omega
    have hd:aTl spL 2 cur L:=by
      intro t x hx j u hu;have hj:j<2:=(List.getElem?_eq_some_iff.1 hu).1;have ht:=(List.getElem?_eq_some_iff.1 hx).1;have:=aCG aFc L t x hx j hj;rw [hu,←h7,List.getElem?_take_of_lt (by omega),Array.getElem?_toList] at this;exact this
    have hsz:L.length*2≤cur.size:=by omega
    have:=AnyQ.slices_SortFunc Tryz.sortSp 2 (fun w=>Tryz.isAgg260 w) (fun w=>Tryz.sizeOf260 w) spL (fun _=>rfl) aPZ (fun x y=>Lib.compareInt x.1 y.1) hO' 181 #[.pointer (some ⟨c3,0,none⟩)] g 0 cap L.toArray w (enters_of Tryz.func181 (by kernel_rfl) rfl) (fun m os dk hs x y=>by
      obtain ⟨cur',c1,c2,c3',c4⟩:=aFr (f:=spL) (c:=2) (T:=260) (fun _=>rfl) h3 (L:=dk.toList) (by simp only [Array.length_toList];rw [show dk.size=L.length by simpa using hs];exact hsz) m os;have hc:=c4.obj hc3 (fun e=>hgc e.symm);exact aIV x y (by simpa using hc)) (aKD (f:=spL) (c:=2) (by omega) (fun _=>rfl) h3 hd) (aAg h3) (by simp;omega)
    refine Calls.mono this ?_;rintro e w' ⟨he,d',m,os,hp,hs,rfl⟩;have hp':=aOr hp;have hs':=aKg (hp.1) hs;have hlen:d'.toList.length=L.length:=hp'.length_eq;obtain ⟨cur',c1,c2,c3',c4⟩:=aFr (f:=spL) (c:=2) (T:=260) (fun _=>rfl) h3 (L:=d'.toList) (by rw [hlen];exact hsz) m os;refine ⟨he,d'.toList,hp',hs'.imp fun {x y} hxy=>?_,⟨aBK aFc _,.inr ⟨g,cap,cur',by rw [hlen],hB,by simpa using c1,by rw [hlen];exact h4,h5,by rw [c2];exact h6,?_⟩⟩,(by simpa using c4:Fr (fun k=>k=g) w _).mono fun r _ hr=>by rw [hr];rfl⟩
    · unfold ltOf at hxy
      rw [decide_eq_false_iff_not,aJN] at hxy;omega
    · apply List.ext_getElem?
      intro k
      by_cases hk:k<d'.toList.length*2
      · rw [List.getElem?_take_of_lt hk,Array.getElem?_toList]
        obtain ⟨x,hx⟩:∃ x,d'.toList[k / 2]?=some x:=⟨_,List.getElem?_eq_getElem (by omega)⟩;have e:k=k / 2*2+k%2:=by omega
        have hm:k%2<2:=Nat.mod_lt _ (by omega);have:=aCG aFc d'.toList (k / 2) x hx (k%2) hm;rw [←e] at this;rw [this];obtain ⟨u,hu⟩:∃ u,(spL x)[k%2]?=some u:=⟨_,List.getElem?_eq_getElem (by rw [aFc];exact hm)⟩;rw [hu];have:=c3' (k / 2) x hx (k%2) u hu
        rwa [←e] at this
      · rw [List.getElem?_eq_none (by simp at hk ⊢;omega),List.getElem?_eq_none (by rw [aBK aFc];omega)]
theorem aEG {w:World}{c3:Nat}{gf:Nat}{lb:Array Value}{L:List Sp}{Kp:(Nat→Prop)→World→Prop}(hl:L.length≤20000) (eg:aEM Tryz.prog gf) (hY:aKR Tryz.prog gf lb (aPo L) Kp) (hK:∀ G W,(∀ k,G k→w.heap.size≤k)→Fr (fun _=>False) w W→Kp G W) (hc3:w.heap[c3]?=some (.cells #[.func (.func 137) #[] #[]] 261 (0,0))):Calls Tryz.prog 179 #[.func (.func gf) #[] lb,.func (.func 181) #[] #[vP c3 0]] w fun e w'=>∃ v L',e = .returned v∧L'.Perm L∧L'.Pairwise (fun x y=>x.1≤y.1)∧aHj spL 2 260 w w' v L'∧Fr (fun _=>False) w w':=by
  have hl2:=hl;have hl:L.length≤300000000:=by omega
  refine beg Tryz.func179 rfl rfl [(0,.func (.func gf) #[] lb),(1,.func (.func 181) #[] #[vP c3 0])] rfl rfl fun Φ hΦ=>?_;have hM:=Mm.nil (fun _=>False) w;refine aHY 1 1 7 [(6,.func (.func gf) #[] lb)] (f:=spL) (c:=2) (E:=260) (A:=L) f0 hM (aHa hl eg hY fun G W hG f=>hK G W (fun k h=>Nat.le_trans hM.fr.size (hG k h)) (hM.fr.trans' f fun _ _ h=>h)) fun u w1 hM=>?_;obtain ⟨q40,c40,eq40,sq40⟩:=(hM.src (j:=0) rfl spT.len).op;subst eq40;refine cal 2 2 10 [(5,vL q40 L.length c40),(8,vL q40 L.length c40),(9,.func (.func 181) #[] #[vP c3 0])] (K:=fun u w8=>u = .tuple #[]∧∃ L',L'.Perm L∧L'.Pairwise (fun x y=>x.1≤y.1)∧oSp w8 0 (vL q40 L.length c40) L'∧Fr (fun k=>Value.ownBlock (vL q40 L.length c40)=some k) _ w8) f0 ((aH0 (hM.get 0 rfl) (hM.fr.obj hc3 id) (fun k hk e=>by have:=hM.ge (List.mem_of_getElem? (show _[0]?=some _ from rfl)) hk;have:=aAg hc3;omega) hl2).mono fun e w9 ⟨h1,h2⟩=>⟨_,h1,rfl,h2⟩) fun u w1 ⟨hu,L',hp,hs,hO,f1⟩=>?_;subst hu;have hM:=hM.put 0 (e':=rw_ spL 2 260 (vL q40 L.length c40) L') rfl f1 (fun k _ h=>h) hO fun k h => .inl h;exact rt1 4 (vL q40 L.length c40) rfl f0 (hΦ _ _ ⟨_,L',rfl,hp,hs,hM.nrow (j:=0) rfl,hM.fr⟩)
theorem aHz {w:World}{v:Value}{l:List Sp}(hl:SpV w v l) (hlen:l.length≤20000):Calls Tryz.prog 136 #[v,.func (.func 137) #[] #[]] w fun e w'=>∃ v L',e = .returned v∧L'.Perm l∧L'.Pairwise (fun x y=>x.1≤y.1)∧aHj spL 2 260 w w' v L'∧Fr (fun _=>False) w w':=by
  obtain ⟨p0,cp0,hp0,sp0⟩:=hl.op;subst hp0;have bp0:=sp0.bnd;refine beg Tryz.func136 rfl rfl [(0,vL p0 l.length cp0),(1,.func (.func 137) #[] #[])] rfl rfl fun Φ hΦ=>?_;have hM:=Mm.nil (fun _=>False) w;refine aAn 0 0 3 [] (cs:=#[.func (.func 137) #[] #[]]) (T:=261) (v:=fun b=>vP b 0) f0 hM fun aa w1 hM=>cal 1 1 6 [(5,vL p0 l.length cp0)] (K:=fun u w8=>∃ b,u = .func (.func 231) #[] #[vP b 0]∧w8.heap[b]?=some (.cells #[vL p0 (l.length) cp0] 98 (0,0))∧(World.heap _).size≤b∧Fr (fun _=>False) _ w8) f0 ((aHm p0 (l.length) cp0 _).mono fun e w9 ⟨b,h1,h2⟩=>⟨_,h1,b,rfl,h2⟩) fun u w1 ⟨cb,hu,hcb,hge,f1⟩=>?_;subst hu;have hM:=hM.add f1 (bk cb #[vL p0 (l.length) cp0] 98) hcb (fun k h=>by rw [h];exact hge);refine cal 1 3 8 [(7,.func (.func 181) #[] #[vP aa 0])] (K:=fun u w8=>∃ L',L'.Perm l∧L'.Pairwise (fun x y=>x.1≤y.1)∧aHj spL 2 260 _ w8 u L'∧Fr (fun _=>False) _ w8) f0 ((aEG (Kp:=aTM cb p0 cp0 l) hlen (enters_of Tryz.func231 (by kernel_rfl) rfl) aGu (fun G W hG f=>⟨f.obj (hM.get 1 rfl) id,fun h=>by have:=hG _ h;have:=aAg (hM.get 1 rfl);omega,_,sp0.b (hM.fr.trans' f fun _ _ h=>h),fun k hk=>Nat.le_trans hM.fr.size (hG k hk)⟩) (hM.get 0 rfl)).mono fun e w9 ⟨v,L',h1,h2⟩=>⟨_,h1,L',h2⟩) fun u w1 ⟨L',hp,hs,hO,f1⟩=>?_;have hM:=hM.add f1 (rw_ spL 2 260 u L') hO.1 hO.2;obtain ⟨q42,c42,eq42,-⟩:=(hM.src (j:=2) rfl spT.len).op;subst eq42;exact rt1 4 (vL q42 L'.length c42) rfl f0 (hΦ _ _ ⟨_,L',rfl,hp,hs,hM.nrow (j:=2) rfl,hM.fr⟩)
theorem aEt {L:List Sp}{i:Nat}{y:Sp}(hy:L[i]?=some y):aAR (L.take (i+1))=aCQ (aAR (L.take i)) y:=by
  unfold aAR;rw [List.take_add_one,hy];simp [List.foldl_append]
theorem aLp (l:List Sp):(aAR l).length≤l.length:=by
  have h1:∀ (a:List Sp) (s:Sp),(aCQ a s).length≤a.length+1:=by
    intro a s;unfold aCQ
    split
    · split
      · first | (simp;done) | (simp;omega)
      · simp
    · simp
  have h2:∀ (l a:List Sp),(l.foldl aCQ a).length≤a.length+l.length:=by
    intro l
    induction l with
    | nil=>intro a;simp
    | cons s l ih=>intro a;have:=ih (aCQ a s);have:=h1 a s;simp only [List.foldl_cons,List.length_cons];omega
  have:=h2 l [];simpa [aAR] using this
theorem aLl {A:List Sp}{q s:Sp}(hq:A[A.length-1]?=some q) (h:s.1≤q.2):A.set (A.length-1) (q.1,max q.2 s.2)=aCQ A s:=by
  have hne:A≠[]:=by rintro rfl;simp at hq
  have hl:A.getLast?=some q:=by rw [List.getLast?_eq_getElem?];exact hq
  obtain ⟨B,z,rfl⟩:∃ B z,A=B++[z]:=⟨_,_,(List.dropLast_concat_getLast hne).symm⟩;rw [List.getLast?_concat] at hl;obtain rfl:=Option.some.inj hl;unfold aCQ;rw [List.getLast?_concat,List.dropLast_concat];simp only;rw [if_pos h,List.length_append,List.length_singleton,Nat.add_sub_cancel,List.set_append_right _ _ (Nat.le_refl _),Nat.sub_self];rfl
theorem aLn {A:List Sp}{q s:Sp}(hq:A[A.length-1]?=some q) (h:¬ s.1≤q.2):A++[s]=aCQ A s:=by
  have hl:A.getLast?=some q:=by rw [List.getLast?_eq_getElem?];exact hq
  unfold aCQ;rw [hl];simp only;rw [if_neg h]
theorem aLm {A:List Sp}{s:Sp}(h:¬ 0<(A.length:Int)):A++[s]=aCQ A s:=by
  have:A=[]:=List.eq_nil_of_length_eq_zero (by omega);subst this;rfl
abbrev A96 (Φ:Ending→World→Prop):=AtO Tryz.prog (aAr Tryz.f86) (aA2 (bodyPost Tryz.prog Tryz.f86 Φ)) [] 50
theorem aHq {w:World}{v:Value}{l:List Sp}(hl:SpV w v l) (hw:wk l) (hlen:l.length≤20000):Calls Tryz.prog 86 #[v] w fun e w'=>∃ u,e = .returned u∧aHj spL 2 260 w w' u (aE6 l)∧Fr (fun _=>False) w w':=by
  obtain ⟨p0,cp0,hp0,sp0⟩:=hl.op;subst hp0;have bp0:=sp0.bnd;refine beg Tryz.func86 rfl rfl [(0,vL p0 l.length cp0)] rfl rfl fun Φ hΦ=>?_;have hM:=Mm.nil (fun _=>False) w;refine cal 1 1 8 [(7,vL p0 l.length cp0)] (K:=fun u w8=>∃ L',L'.Perm l∧L'.Pairwise (fun x y=>x.1≤y.1)∧aHj spL 2 260 _ w8 u L'∧Fr (fun _=>False) _ w8) f0 ((aHz (sp0.fr hM.fr).src hlen).mono fun e w9 ⟨v,L',h1,h2⟩=>⟨_,h1,L',h2⟩) fun u w1 ⟨L',hp,hs,hO,f1⟩=>?_;have hM:=hM.add f1 (rw_ spL 2 260 u L') hO.1 hO.2;obtain ⟨q43,c43,eq43,-⟩:=(hM.src (j:=0) rfl spT.len).op;subst eq43;have hlL:=hp.length_eq;have hM:=hM.row (f:=spL) (c:=2) (E:=260);refine seg 4 0 [(0,vL q43 L'.length c43),(3,vL none 0 0),(9,vL q43 L'.length c43),(10,vI (L'.length:Int)),(11,vI 0)] f0 ?_
  have ai:∀ (ae:Nat) (i:Nat) (q:Option Addr) (c:Nat) (w2:World),i≤L'.length→Mm (fun _=>False) w w2 [rw_ spL 2 260 (vL q43 L'.length c43) L',rw_ spL 2 260 (vL q (aAR (L'.take i)).length c) (aAR (L'.take i))]→ae=L'.length-i→A96 Φ (some (4,0)) [(11,vI (i:Int)),(10,vI (L'.length:Int)),(9,vL q43 L'.length c43),(3,vL q (aAR (L'.take i)).length c)] w2:=by
   refine aBh fun ae ac i q c w2 hi hM ak=>?_;have hul:=aLp (L'.take i);have hul2:(L'.take i).length≤i:=by rw [List.length_take];omega
   refine seg 4 1 [(12,vB (decide ((i:Int)<(L'.length:Int))))] f0 ?_;cases h47:(decide ((i:Int)<(L'.length:Int)))
   ·have aj:=df h47;exact rt1 2 (vL q (aAR (L'.take i)).length c) rfl f0 (hΦ _ _ ⟨_,rfl,by have:=hM.nrow (j:=1) rfl;have e8:L'.take i=L':=List.take_of_length_le (by omega);have e9:=aIx hw hp hs;rw [e8,e9] at this ⊢;exact this,hM.fr⟩)
   have aj:=dt h47;obtain ⟨y,hy⟩:=geb (l:=L') (i:=i) (by omega);obtain ⟨al,af,-⟩:=hM.el spT (j:=0) rfl hy;refine aBD 5 2 5 [(14,.agg #[vI y.1,vI y.2])] [] 260 (.agg #[vI y.1,vI y.2]) (fc (ix 98 c43 af (gl hy)) (fc (lar 260 0 0 2 spT hM rfl af hy) f0)) hM fun ag w1 hM=>seg 7 0 [(6,vI ((aAR (L'.take i)).length:Int))] f0 ?_;cases h50:(decide (0<((aAR (L'.take i)).length:Int)))
   ·have ah:=df h50;have hM:=hM.q ((Fr.refl _ _).drew);refine drq [(29,vB false)] rfl (fc (tv 18 h50) f0) (aAn 9 2 46 [(44,vL q (aAR (L'.take i)).length c),(45,.agg #[vI y.1,vI y.2])] (cs:=#[vI y.1,vI y.2]) (T:=260) (v:=fun b=>vL (some ⟨b,0,none⟩) 1 1) (fc (lam 260 2 0 2 hM rfl) f0) hM fun am w1 hM=>aKP 9 3 47 [] (cap:=1) (by decide) spT f0 hM (j:=1) rfl (aAE (f:=spL) (x:=y) (hM.get 3 rfl) (Nat.lt_succ_self _)) (fun h=>by cases h) (by simp only [List.length_cons,List.length_nil];omega) fun v52 w1 hM=>?_);obtain ⟨q52,c52,e52,-⟩:=(hM.src (j:=1) rfl spT.len).op;subst e52;refine seg 4 0 [(3,vL q52 ((aAR (L'.take i))++[y]).length c52),(11,vI ((i:Int)+1))] (fc (aAh (i:Int) 1 u3_) f0) ?_;have e9:=(aLm (s:=y) ah);rw [←aEt hy] at e9;rw [e9] at hM ⊢;exact aAb _ (ac _ (by omega) (i+1) q52 c52 _ (gl hy) (hM.pick [0,1]) rfl)
   have ah:=dt h50;have hM:=hM.q ((Fr.refl _ _).drew);obtain ⟨y54,aa⟩:=geb (l:=(aAR (L'.take i))) (i:=((aAR (L'.take i)).length-1)) (by omega);obtain ⟨an,ab,-⟩:=hM.el spT (j:=1) rfl aa;refine drq [(29,vB (decide (y.1≤y54.2)))] rfl (fc (tv 18 h50) (fc (ldm 3 2 0 hM rfl rfl) (fc (aC8 ((aAR (L'.take i)).length:Int) 1 u3_) (fc (ix 98 c ab (gl aa) (z:=(((aAR (L'.take i)).length:Int)-1)) (hz:=(by omega))) (fc (ldr 3 1 1 spT hM rfl ab aa rfl) f0))))) ?_;cases h55:(decide (y.1≤y54.2))
   ·have ad:=df h55;refine aAn 9 2 46 [(44,vL q (aAR (L'.take i)).length c),(45,.agg #[vI y.1,vI y.2])] (cs:=#[vI y.1,vI y.2]) (T:=260) (v:=fun b=>vL (some ⟨b,0,none⟩) 1 1) (fc (lam 260 2 0 2 hM rfl) f0) hM fun ao w1 hM=>aKP 9 3 47 [] (cap:=1) (by decide) spT f0 hM (j:=1) rfl (aAE (f:=spL) (x:=y) (hM.get 3 rfl) (Nat.lt_succ_self _)) (fun h=>by cases h) (by simp only [List.length_cons,List.length_nil];omega) fun v57 w1 hM=>?_;obtain ⟨q57,c57,e57,-⟩:=(hM.src (j:=1) rfl spT.len).op;subst e57;refine seg 4 0 [(3,vL q57 ((aAR (L'.take i))++[y]).length c57),(11,vI ((i:Int)+1))] (fc (aAh (i:Int) 1 u3_) f0) ?_;have e9:=(aLn (s:=y) aa ad);rw [←aEt hy] at e9;rw [e9] at hM ⊢;exact aAb _ (ac _ (by omega) (i+1) q57 c57 _ (gl hy) (hM.pick [0,1]) rfl)
   have ad:=dt h55;refine seg 8 0 [] f0 (drx [8,14] (fun γ=>[some (vI y54.2),none]) _ (fun γ l=>[rw_ spL 2 260 (vL q43 L'.length c43) L',rw_ spL 2 260 (vL q (aAR (L'.take i)).length c) (bif l.getD 1 false then ((aAR (L'.take i)).set ((aAR (L'.take i)).length-1) (y54.1,(max y54.2 y.2))) else (aAR (L'.take i))),bk ag #[vI y.1,vI y.2] 260]) (fun γ=>[]) hM (fun γ=>rfl) (fun γ l w5 hM=>(fc (aC8 ((aAR (L'.take i)).length:Int) 1 u3_) (fc (aC8 ((aAR (L'.take i)).length:Int) 1 u3_) (fc (ix 98 c ab (gl aa) (z:=(((aAR (L'.take i)).length:Int)-1)) (hz:=(by omega))) (fc (ldm 3 2 1 hM rfl rfl) (fc (aRl 3 y54.2 y.2) (fc (ix 98 c ab (gl aa) (z:=(((aAR (L'.take i)).length:Int)-1)) (hz:=(by omega))) f0))))))) ⟨aIl (m:=(aAR (L'.take i)).length) (cap:=c) 0 8 3 1 1 ((aAR (L'.take i)).length-1) 38 (aAR (L'.take i)) (fun γ=>vI y54.2) spT ab aa (fun γ=>rfl),aF8 (m:=(aAR (L'.take i)).length) (cap:=c) 1 14 3 1 1 ((aAR (L'.take i)).length-1) (aAR (L'.take i)) (y54.1,(max y54.2 y.2)) (fun γ=>vI (max y54.2 y.2)) spT ab aa (fun γ=>rfl),trivial⟩ fun ap w1 hM=>?_);replace hM:Mm (fun _=>False) w w1 [_,_,bk ag #[vI y.1,vI y.2] 260]:=hM;refine seg 4 0 [(11,vI ((i:Int)+1))] (fc (aAh (i:Int) 1 u3_) f0) ?_;have e9:=(aLl (s:=y) aa ad);rw [←aEt hy] at e9;rw [e9] at hM;rw [show (aAR (L'.take i)).length=(aAR (L'.take (i+1))).length by rw [←e9,List.length_set]] at hM ⊢;exact aAb _ (ac _ (by omega) (i+1) q c _ (gl hy) (hM.pick [0,1]) rfl)
  exact aAb _ (ai _ 0 none 0 _ (Nat.zero_le _) hM rfl)
def byL (c:UInt8):List Value:=[.int .u8 (c.toNat:Int)]
theorem byT:ElT Tryz.prog byL 1 312 5:=⟨fun _=>rfl,by decide,fun x u hu=>by
  unfold byL at hu;simp only [List.mem_cons,List.not_mem_nil,or_false] at hu;subst hu;rfl,Tryz.underlying312,aBj (by kernel_rfl)⟩
section
variable {w:World}
theorem aUj (T:TypeId) (hT:T=346:=by rfl):Ft.ok Tryz.prog w (.g2 (fun x y => .binOp .eql T x y T) (.pointer none) (.pointer none) (vB true)):=fun o ρ x y ho hx hy=>by rw [hT] at ho;simp [execOp,ho,hx,hy,go_sem,u346_]
theorem aUi (T:TypeId) (b k:Nat) (hT:T=346:=by rfl):Ft.ok Tryz.prog w (.g2 (fun x y => .binOp .eql T x y T) (vP b k) (.pointer none) (vB false)):=fun o ρ x y ho hx hy=>by rw [hT] at ho;simp [execOp,ho,hx,hy,go_sem,u346_]
theorem aUh (T:TypeId) (b k:Nat) (hT:T=346:=by rfl):Ft.ok Tryz.prog w (.g2 (fun x y => .binOp .neq T x y T) (vP b k) (vP b k) (vB false)):=fun o ρ x y ho hx hy=>by
  rw [hT] at ho
  have hi:∃ j,Tryz.prog.info? 348=some j:=by
    cases h:Tryz.prog.info? 348 with
    | none=>exact absurd (show (Tryz.prog.info? 348).isSome=true by kernel_rfl) (by rw [h];simp)
    | some j=>exact ⟨j,rfl⟩
  obtain ⟨j,hj⟩:=hi;have:=Lib.run_neq_ptr_same (P:=Tryz.prog) w (⟨b,k,none⟩:Addr) u346_ hj;simp [execOp,ho,hx,hy,eqGuard,this]
theorem aTX {b:Nat}{p v:Value}(h:w.heap[b]?=some (.cells #[p,v] 348 (0,0))):Ft.ok Tryz.prog w (.g1 (.convert 346 398) (vP b 0) (vP b 0)):=fun o ρ x ho hx=>by
  have hsh:w.shape? b=some (348,2):=by simp [World.shape?,h]
  obtain ⟨j,hj,hjs⟩:=Option.map_eq_some_iff.1 (show (Tryz.prog.info? 348).map (·.size)=some 2 by kernel_rfl);have:=Lib.run_to_unsafe (P:=Tryz.prog) w (src:=346) (dst:=398) (⟨b,0,none⟩:Addr) u346_ Tryz.underlying398 hj (by rw [hjs];decide) hsh (Nat.zero_lt_succ 1);simp only [execOp,ho,hx,Sem.run_bind,this,Result.andThen_ok,Sem.run_pure]
theorem aUm {b:Nat}{p v:Value}(h:w.heap[b]?=some (.cells #[p,v] 348 (0,0))):Ft.ok Tryz.prog w (.g1 (.convert 398 346) (vP b 0) (vP b 0)):=fun o ρ x ho hx=>by
  have hsh:w.shape? b=some (348,2):=by simp [World.shape?,h]
  obtain ⟨j,hj,hjs⟩:=Option.map_eq_some_iff.1 (show (Tryz.prog.info? 348).map (·.size)=some 2 by kernel_rfl);have:=Lib.run_from_unsafe (P:=Tryz.prog) w (src:=398) (dst:=346) (⟨b,0,none⟩:Addr) Tryz.underlying398 u346_ hj hsh (by kernel_rfl);simp only [execOp,ho,hx,Sem.run_bind,this,Result.andThen_ok,Sem.run_pure]
end
section
variable {P:Program}{B:Code}{R:Pst}{ds:List Deferred}{n:Nat}{p:Option (Nat×Nat)}{L:Frm}{w:World}{F:List Ft}
theorem aUk (r' i' d:Nat) (N:Frm) (v:Value) (hF:aAM P w F) (k:AtO P B R ds n (some (r',i'+1)) ((d,v)::(N++L)) w) (h:(lhs (go P w n B p L r' i' F) N L,aHC P w n L (go P w n B p L r' i' F))=(rhs (go P w n B p L r' i' F) N B r' i',some (d,.ok (.value v,w))):=by kernel_rfl):AtO P B R ds n p L w:=opx r' i' d N hF k h
end
theorem Mm.below {F0:Nat→Prop}{w0 w w':World}{M:List Ent}(h:Mm F0 w0 w M) (b:Below w0.heap.size w w'):Mm F0 w0 w' [] :=
  ⟨⟨b.os.trans h.fr.os,b.tape.trans h.fr.tape,b.output.trans h.fr.output,Nat.le_trans h.fr.size b.size,fun r hr hn=>(b.block r hr).trans (h.fr.blk r hr hn)⟩,fun _ h=>(by cases h),fun _ h=>(by cases h),.nil⟩
theorem aIZ {w:World}{G:Nat→Prop}{b:Nat}{v:Value}(hM0:Mm G w w [bk b #[.pointer none,v] 348]):Calls Tryz.prog 253 #[vP b 0] w fun e w'=>∃ u Mn,e = .returned u∧(u = .tuple #[]∧Mn=[bk b #[vP b 0,v] 348])∧Mm G w w' Mn:=by
  refine beg Tryz.func253 rfl rfl [(0,vP b 0)] rfl rfl fun Φ hΦ=>?_;have hM:=hM0;refine aUk 1 3 10 [(7,vP b 0),(9,vP b 0)] (vP b 0) (fc (ldm 346 0 0 hM rfl rfl) (fc (aUj 346) (fc (aTX (hM.get 0 rfl)) f0))) (stm 1 7 [(11,vP b 0),(13,vP b 0)] 346 0 0 (vP b 0) (fc (aUm (hM.get 0 rfl)) f0) hM rfl fun w1 hM=>rt0 rfl f0 (hΦ _ _ ⟨_,_,rfl,⟨rfl,rfl⟩,hM⟩))
theorem aKL {w:World}{G:Nat→Prop}{b:Nat}{v:Value}(hM0:Mm G w w [bk b #[vP b 0,v] 348]):Calls Tryz.prog 253 #[vP b 0] w fun e w'=>∃ u Mn,e = .returned u∧(u = .tuple #[]∧Mn=[bk b #[vP b 0,v] 348])∧Mm G w w' Mn:=by
  refine beg Tryz.func253 rfl rfl [(0,vP b 0)] rfl rfl fun Φ hΦ=>?_;have hM:=hM0;exact rt0 rfl (fc (ldm 346 0 0 hM rfl rfl) (fc (aUi 346 b 0) (fc (ldm 346 0 0 hM rfl rfl) (fc (aUh 346 b 0) f0)))) (hΦ _ _ ⟨_,_,rfl,⟨rfl,rfl⟩,hM⟩)
theorem aJa {w:World}{G:Nat→Prop}{b:Nat}{pp:Option Addr}{v:Value}(hp:pp=none∨pp=some ⟨b,0,none⟩) (hM0:Mm G w w [bk b #[.pointer pp,v] 348]):Calls Tryz.prog 253 #[vP b 0] w fun e w'=>∃ u Mn,e = .returned u∧(u = .tuple #[]∧Mn=[bk b #[vP b 0,v] 348])∧Mm G w w' Mn:=by
  rcases hp with rfl | rfl
  · exact aIZ hM0
  · exact aKL hM0
theorem aEY {w:World}{G:Nat→Prop}{b cq:Nat}{pp q:Option Addr}{l:Bys}(hp:pp=none∨pp=some ⟨b,0,none⟩) (c:UInt8) (hl:l.length≤300000000) (hM0:Mm G w w [bk b #[.pointer pp,vL q l.length cq] 348,rw_ byL 1 5 (vL q l.length cq) l]):Calls Tryz.prog 226 #[vP b 0,.int .u8 (c.toNat:Int)] w fun e w'=>∃ u Mn,e = .returned u∧(u = .nilIface∧∃ q2 c2,Mn=[bk b #[vP b 0,vL q2 (l++[c]).length c2] 348,rw_ byL 1 5 (vL q2 (l++[c]).length c2) (l++[c])])∧Mm G w w' Mn:=by
  refine beg Tryz.func226 rfl rfl [(0,vP b 0),(1,.int .u8 (c.toNat:Int))] rfl rfl fun Φ hΦ=>?_;have hM:=hM0;refine aB3 1 1 6 [(5,vP b 0)] (K:=fun u Mn=>u = .tuple #[]∧Mn=[bk b #[vP b 0,vL q l.length cq] 348]) [1] [0] f0 hM rfl rfl (by decide) (fun hm=>aJa hp hm) fun u Mn w1 hK hM=>?_;obtain ⟨rfl,rfl⟩:=hK;refine aAn 2 6 13 [(7,vP b 0),(11,vL q l.length cq),(12,.int .u8 (c.toNat:Int))] (cs:=#[.int .u8 (c.toNat:Int)]) (T:=5) (v:=fun b=>vL (some ⟨b,0,none⟩) 1 1) (fc (ldm 312 1 1 hM rfl rfl) f0) hM fun b1 w1 hM=>aKP 2 7 14 [] (cap:=1) (by decide) byT f0 hM (j:=0) rfl (aAE (f:=byL) (x:=c) (hM.get 2 rfl) (Nat.lt_succ_self _)) (fun h=>by cases h) (by simp only [List.length_cons,List.length_nil];omega) fun v2 w1 hM=>?_;obtain ⟨qa2,ca2,e2,-⟩:=(hM.src (j:=0) rfl byT.len).op;subst e2;refine stm 2 10 [(16,vP b 1)] 312 1 1 (vL qa2 (l++[c]).length ca2) f0 hM rfl fun w1 hM=>rt1 4 Value.nilIface rfl f0 (hΦ _ _ ⟨_,_,rfl,⟨rfl,_,_,rfl⟩,hM.pick [1,0]⟩)
theorem aFP (l:Bys):l.flatMap byL=Lib.byteCells l:=by
  unfold Lib.byteCells byL
  induction l with
  | nil=>rfl
  | cons c l ih=>simp_all
theorem aKN {w w0:World}{b cq:Nat}{pp q:Option Addr}{l:Bys}(hp:pp=none∨pp=some ⟨b,0,none⟩) (hM:Mm (fun _=>False) w0 w [bk b #[.pointer pp,vL q l.length cq] 348,rw_ byL 1 5 (vL q l.length cq) l]):Calls Tryz.prog 225 #[vP b 0] w fun e w'=>e = .returned (vS l)∧Below w0.heap.size w w':=by
  have hb:w.heap[b]?=some (.cells #[.pointer pp,vL q l.length cq] 348 (0,0)):=hM.get 0 rfl;have hr:ow byL 1 5 w 0 (vL q l.length cq) l:=hM.get 1 rfl;have hbB:w0.heap.size≤b:=hM.ge (.head _) rfl
  have hne:Value.ownBlock (vL q l.length cq)≠some b:=fun e=>by
    have:=List.pairwise_cons.1 hM.nd;exact this.1 (rw_ byL 1 5 (vL q l.length cq) l) (.head _) b rfl e
  have hown:w.ownsRow w0.heap.size 5 1 (vL q l.length cq) (Lib.byteCells l).length (Lib.byteCells l):=by
    have hl:(Lib.byteCells l).length=l.length:=by simp [Lib.byteCells]
    rw [hl,←aFP];refine ⟨hr.1,?_⟩;rcases hr.2 with h | ⟨g,cap,cur,h1,h2,h3⟩
    · exact .inl h
    · exact .inr ⟨g,cap,cur,h1,hM.ge (.tail _ (.head _)) (by show Value.ownBlock (vL q l.length cq)=some g;rw [h1];rfl),h3⟩
  exact Tryz.Builder_String_any w0.heap.size b l w (hp.elim (fun h => .inl ⟨hbB,_,by rw [←h];exact hb,hown,hne⟩) (fun h => .inr ⟨hbB,_,by rw [←h];exact hb,hown,hne⟩)) hM.fr.size
theorem q34 (c:UInt8):(c==34)=((c.toNat:Int)==34):=by
  have:=aDO (p:=fun c=>(c==34)==((c.toNat:Int)==34)) (by decide +kernel) c;exact beq_iff_eq.1 this
theorem q10 (c:UInt8):(c==10)=((c.toNat:Int)==10):=by
  have:=aDO (p:=fun c=>(c==10)==((c.toNat:Int)==10)) (by decide +kernel) c;exact beq_iff_eq.1 this
theorem q92 (c:UInt8):(c==92)=((c.toNat:Int)==92):=by
  have:=aDO (p:=fun c=>(c==92)==((c.toNat:Int)==92)) (by decide +kernel) c;exact beq_iff_eq.1 this
def esc (d:UInt8):UInt8:=if d==110 then 10 else d
def aIR (d:UInt8):Int:=ixb [92,34,110] d.toNat
theorem aSk (d:UInt8):(d==92||d==34||d==110) = !decide (aIR d<0):=by
  have:=aDO (p:=fun d=>(d==92||d==34||d==110) == !decide (aIR d<0)) (by decide +kernel) d;exact beq_iff_eq.1 this
theorem aSl (d:UInt8) (h:¬ aIR d<0):([92,34,10]:Bys)[(aIR d).toNat]?=some (esc d)∧0≤aIR d:=by
  have:=aDO (p:=fun d=>decide (aIR d<0)||(([92,34,10]:Bys)[(aIR d).toNat]?==some (esc d))&&decide (0≤aIR d)) (by decide +kernel) d;rw [decide_eq_false h,Bool.false_or,Bool.and_eq_true] at this;exact ⟨eq_of_beq this.1,of_decide_eq_true this.2⟩
def aFW (acc:Bys) (k:Nat) (r:Bys):Option (Bys×Nat):=(aDS r).map fun x=>(acc++x.1,x.2+k)
theorem aR7 (l:Bys):aDS l=aFW [] 0 l:=by
  unfold aFW
  cases aDS l with
  | none=>rfl
  | some x=>simp
theorem aNV (acc:Bys) (k:Nat):aFW acc k []=none:=rfl
theorem aR4 {acc r:Bys}{k:Nat}{c:UInt8}(h:(c==34)=true):aFW acc k (c::r)=some (acc,1+k):=by
  unfold aFW aDS;rw [if_pos h];simp
theorem aR5 {acc r:Bys}{k:Nat}{c:UInt8}(h0:(c==34)=false) (h:(c==10)=true):aFW acc k (c::r)=none:=by
  unfold aFW aDS;rw [if_neg (by rw [h0];simp),if_pos h];rfl
theorem aPV {acc:Bys}{k:Nat}{c:UInt8}(h0:(c==34)=false) (h1:(c==10)=false) (h:(c==92)=true):aFW acc k [c]=none:=by
  unfold aFW aDS;rw [if_neg (by rw [h0];simp),if_neg (by rw [h1];simp),if_pos h];rfl
theorem aPU {acc r:Bys}{k:Nat}{c d:UInt8}(h0:(c==34)=false) (h1:(c==10)=false) (h:(c==92)=true) (h2:aIR d<0):aFW acc k (c::d::r)=none:=by
  unfold aFW aDS;rw [if_neg (by rw [h0];simp),if_neg (by rw [h1];simp),if_pos h];simp only;rw [aSk,decide_eq_true h2];rfl
theorem aPT {acc r:Bys}{k:Nat}{c d:UInt8}(h0:(c==34)=false) (h1:(c==10)=false) (h:(c==92)=true) (h2:¬ aIR d<0):aFW acc k (c::d::r)=aFW (acc++[esc d]) (k+2) r:=by
  unfold aFW;rw [aDS];rw [if_neg (by rw [h0];simp),if_neg (by rw [h1];simp),if_pos h]
  try simp only
  rw [aSk,decide_eq_false h2];simp only [Bool.not_false,if_true,Option.map_map];congr 1;funext x;simp only [Function.comp,List.append_assoc,List.singleton_append,esc];rw [show x.2+2+k=x.2+(k+2) by omega]
theorem aR6 {acc r:Bys}{k:Nat}{c:UInt8}(h0:(c==34)=false) (h1:(c==10)=false) (h:(c==92)=false):aFW acc k (c::r)=aFW (acc++[c]) (k+1) r:=by
  have e:aDS (c::r)=(aDS r).map fun x=>(c::x.1,x.2+1):=by
    rw [aDS.eq_def (c::r)]
    try simp only
    rw [if_neg (by rw [h0];simp),if_neg (by rw [h1];simp),if_neg (by rw [h];simp)]
  unfold aFW;rw [e];simp only [Option.map_map];congr 1;funext x;simp only [Function.comp,List.append_assoc,List.singleton_append];rw [show x.2+1+k=x.2+(k+1) by omega]
def aHg (l:Bys):Bys×Int:=match aDS l with | some (s,k)=>(s,(k:Int)+1) | none=>([],0)
theorem aHp {l:Bys}(h:aDS l=none):aHg l=([],0):=by unfold aHg;rw [h]
theorem aPp {l s:Bys}{k:Nat}(h:aDS l=some (s,k)):aHg l=(s,(k:Int)+1):=by unfold aHg;rw [h]
abbrev aUR (Φ:Ending→World→Prop):=AtO Tryz.prog (aAr Tryz.f176) (aA2 (bodyPost Tryz.prog Tryz.f176 Φ)) [] 44
theorem aLo {t l:Bys}(ht:t=34::l) (hl:l.length≤200000000) (w:World):Calls Tryz.prog 176 #[vS t] w fun e w'=>e = .returned (.tuple #[vS (aHg l).1,vI (aHg l).2])∧Fr (fun _=>False) w w':=by
  refine beg Tryz.func176 rfl rfl [(0,vS t)] rfl rfl fun Φ hΦ=>?_;have hM:=Mm.nil (fun _=>False) w;have htl:t.length=l.length+1:=by rw [ht];rfl
  have hta:∀ {k:Nat}{e:UInt8},l[k]?=some e→t[k+1]?=some e:=fun h=>by rw [ht];exact h
  refine aAn 1 0 4 [] (cs:=#[.pointer none,vL none 0 0]) (T:=348) (v:=fun b=>vP b 0) f0 hM fun b w1 hM=>?_;have hM:=hM.row (f:=byL) (c:=1) (E:=5);refine seg 3 0 [(5,vI 1)] f0 ?_
  have lp3:∀ (m5:Nat) (j:Nat) (acc:Bys) (q:Option Addr) (cq:Nat) (pp:Option Addr) (w2:World),j≤l.length→aDS l=aFW acc j (l.drop j)→acc.length≤j→(pp=none∨pp=some ⟨b,0,none⟩)→Mm (fun _=>False) w w2 [bk b #[.pointer pp,vL q acc.length cq] 348,rw_ byL 1 5 (vL q acc.length cq) acc]→m5=l.length+1-j→aUR Φ (some (3,0)) [(5,vI ((j:Int)+1)),(4,vP b 0),(0,vS t)] w2:=by
   refine aBh fun m5 ih4 j acc q cq pp w2 hj hi hal hp hM hm5=>seg 3 4 [(11,vB (decide (((j:Int)+1)<(t.length:Int))))] (fc (aGz 9 t) f0) ?_;cases h6:(decide (((j:Int)+1)<(t.length:Int)))
   ·have rh6:=df h6;exact rt2 2 3 (vS []) (vI 0) rfl rfl f0 (hΦ _ _ ⟨by rw [aHp (by rw [hi,List.drop_of_length_le (by omega),aNV])],hM.fr⟩)
   have rh6:=dt h6;obtain ⟨c,hc⟩:=geb (l:=l) (i:=j) (by omega);refine seg 8 2 [(6,.int .u8 (c.toNat:Int)),(17,.int .u8 (c.toNat:Int)),(20,vB ((c.toNat:Int)==34))] (fc (byt 9 (i:=j+1) (hta hc) (z:=((j:Int)+1)) (by omega)) f0) ?_;cases h7:((c.toNat:Int)==34)
   rotate_left
   ·have rh7:=et h7;refine cal 9 0 22 [] (K:=fun u w8=>u=vS acc∧Below w.heap.size _ w8) f0 ((aKN hp hM).mono fun e w9 h=>⟨_,h.1,rfl,h.2⟩) fun u w1 ⟨hu,hb⟩=>?_;subst hu;have hM:=Mm.below hM hb;exact rt2 2 3 (vS acc) (vI (((j:Int)+1)+1)) rfl rfl (fc (aAh ((j:Int)+1) 1 u3_) f0) (hΦ _ _ ⟨by rw [aPp (by rw [hi,gd hc,aR4 (by rw [q34];exact h7)])];exact congrArg (fun z=>Ending.returned (.tuple #[vS acc,vI z])) (by omega),hM.fr⟩)
   have rh7:=ef h7;refine seg 10 2 [(25,vB ((c.toNat:Int)==10))] f0 ?_;cases h8:((c.toNat:Int)==10)
   rotate_left
   ·have rh8:=et h8;exact rt2 2 3 (vS []) (vI 0) rfl rfl f0 (hΦ _ _ ⟨by rw [aHp (by rw [hi,gd hc,aR5 (by rw [q34];exact h7) (by rw [q10];exact h8)])],hM.fr⟩)
   have rh8:=ef h8;refine seg 12 2 [(27,vB ((c.toNat:Int)==92))] f0 ?_;cases h9:((c.toNat:Int)==92)
   ·have rh9:=ef h9;refine aB3 7 1 19 [(18,.int .u8 (c.toNat:Int))] (K:=fun u Mn=>u = .nilIface∧∃ q2 c2,Mn=[bk b #[vP b 0,vL q2 (acc++[c]).length c2] 348,rw_ byL 1 5 (vL q2 (acc++[c]).length c2) (acc++[c])]) [] [0,1] f0 hM rfl rfl (by decide) (fun hm=>aEY hp c (by omega) hm) fun u Mn w1 hK hM=>?_;obtain ⟨rfl,ab,ac,rfl⟩:=hK;refine seg 3 0 [(5,vI (((j:Int)+1)+1))] (fc (aAh ((j:Int)+1) 1 u3_) f0) ?_;have hin:aDS l=aFW (acc++[c]) (j+1) (l.drop (j+1)):=by rw [hi,gd hc,aR6 (by rw [q34];exact h7) (by rw [q10];exact h8) (by rw [q92];exact h9)]
    exact aAb _ (ih4 _ (by omega) (j+1) (acc++[c]) ab ac (some ⟨b,0,none⟩) _ (by omega) hin (by simp only [List.length_append,List.length_singleton];omega) (.inr rfl) hM rfl)
   have rh9:=et h9;refine seg 15 4 [(5,vI (((j:Int)+1)+1)),(7,vI (-1)),(34,vB (decide ((((j:Int)+1)+1)<(t.length:Int))))] (fc (aAh ((j:Int)+1) 1 u3_) (fc (aGz 9 t) f0)) ?_;cases h11:(decide ((((j:Int)+1)+1)<(t.length:Int)))
   ·have ad:=df h11;exact rt2 2 3 (vS []) (vI 0) rfl rfl f0 (hΦ _ _ ⟨by rw [aHp (by rw [hi,gd hc,List.drop_of_length_le (by omega),aPV (by rw [q34];exact h7) (by rw [q10];exact h8) (by rw [q92];exact h9)])],hM.fr⟩)
   have ad:=dt h11;obtain ⟨d,hd⟩:=geb (l:=l) (i:=j+1) (by omega);refine aAq 16 3 38 [(37,.int .u8 (d.toNat:Int))] (fc (byt 9 (i:=j+2) (hta hd) (z:=(((j:Int)+1)+1)) (by omega)) f0) hM (aA0 [92,34,110] d.toNat (UInt8.toNat_lt _) _) fun w1 hM=>seg 17 2 [(7,vI (aIR d)),(40,vB (decide ((aIR d)<0)))] f0 ?_;cases h12:(decide ((aIR d)<0))
   rotate_left
   ·have aa:=dt h12;exact rt2 2 3 (vS []) (vI 0) rfl rfl f0 (hΦ _ _ ⟨by rw [aHp (by rw [hi,gd hc,gd hd,aPU (by rw [q34];exact h7) (by rw [q10];exact h8) (by rw [q92];exact h9) aa])],hM.fr⟩)
   have aa:=df h12;refine aB3 19 2 43 [(42,.int .u8 ((esc d).toNat:Int))] (K:=fun u Mn=>u = .nilIface∧∃ q2 c2,Mn=[bk b #[vP b 0,vL q2 (acc++[esc d]).length c2] 348,rw_ byL 1 5 (vL q2 (acc++[esc d]).length c2) (acc++[esc d])]) [] [0,1] (fc (byt 9 (i:=(aIR d).toNat) (aSl d aa).1 (z:=(aIR d)) (by have:=(aSl d aa).2;omega)) f0) hM rfl rfl (by decide) (fun hm=>aEY hp (esc d) (by omega) hm) fun u Mn w1 hK hM=>?_;obtain ⟨rfl,ae,af,rfl⟩:=hK;refine seg 3 0 [(5,vI ((((j:Int)+1)+1)+1))] (fc (aAh (((j:Int)+1)+1) 1 u3_) f0) ?_;have hin:aDS l=aFW (acc++[esc d]) (j+2) (l.drop (j+2)):=by rw [hi,gd hc,gd hd,aPT (by rw [q34];exact h7) (by rw [q10];exact h8) (by rw [q92];exact h9) aa]
   exact aAb _ (ih4 _ (by omega) (j+2) (acc++[esc d]) ae af (some ⟨b,0,none⟩) _ (by omega) hin (by simp only [List.length_append,List.length_singleton];omega) (.inr rfl) hM rfl)
  exact aAb _ (lp3 _ 0 [] none 0 none _ (Nat.zero_le _) (aR7 l) (Nat.le_refl _) (.inl rfl) hM rfl)
def aAk (s:Bys) (i:Nat):Nat:=match s[i]? with | some b=>cl8 b | none=>0
theorem aCI {l:Bys}{j:Nat}{c:UInt8}(h:l[j]?=some c):l.drop j=c::l.drop (j+1):=by
  have hj:=(List.getElem?_eq_some_iff.1 h).1;rw [List.drop_eq_getElem_cons hj,(List.getElem?_eq_some_iff.1 h).2]
theorem aF2 {s:Bys}{i:Nat}(h:s.length≤i):aAk s i=0:=by unfold aAk;rw [List.getElem?_eq_none h]
theorem aAP {s:Bys}{i:Nat}{c:UInt8}(h:s[i]?=some c):aAk s i=cl8 c:=by unfold aAk;rw [h]
theorem aTo (c:UInt8):(((cl8 c==1)==aCc c)&&((cl8 c==2)==(c==35))&&((cl8 c==3)==aBW c)&&((cl8 c==4)==aA5 c)&&((cl8 c==7)==(c==34))&&((cl8 c==6)==aEh c)&&((cl8 c==3||cl8 c==4||cl8 c==5)==aBA c))=true :=
  aDO (p:=fun c=>((cl8 c==1)==aCc c)&&((cl8 c==2)==(c==35))&&((cl8 c==3)==aBW c)&&((cl8 c==4)==aA5 c)&&((cl8 c==7)==(c==34))&&((cl8 c==6)==aEh c)&&((cl8 c==3||cl8 c==4||cl8 c==5)==aBA c)) (by decide +kernel) c
theorem aCh (c:UInt8):(cl8 c==1)=aCc c∧(cl8 c==2)=(c==35)∧(cl8 c==3)=aBW c∧(cl8 c==4)=aA5 c∧(cl8 c==7)=(c==34)∧(cl8 c==6)=aEh c∧(cl8 c==3||cl8 c==4||cl8 c==5)=aBA c:=by
  have:=aTo c;simp only [Bool.and_eq_true,beq_iff_eq] at this;obtain ⟨⟨⟨⟨⟨⟨h1,h2⟩,h3⟩,h4⟩,h5⟩,h6⟩,h7⟩:=this;exact ⟨h1,h2,h3,h4,h5,h6,h7⟩
theorem aES (a:Nat) (b:Nat):(((a:Nat):Int)==(b:Int))=(a==b):=by
  by_cases h:a=b
  · subst h;simp
  · rw [beq_eq_false_iff_ne.2 h,beq_eq_false_iff_ne.2 (by omega)]
def aCn (s:Bys) (i:Nat):Bool:=aAk s i==3||aAk s i==4||aAk s i==5
theorem aDK {s:Bys}{i:Nat}{c:UInt8}(h:s[i]?=some c):aCn s i=aBA c:=by
  unfold aCn;rw [aAP h];exact (aCh c).2.2.2.2.2.2
theorem aEN {s:Bys}{i:Nat}(h:s.length≤i):aCn s i=false:=by unfold aCn;rw [aF2 h];rfl
def aF1 (s:Bys) (i:Nat):Bool:=aAk s i==4
theorem aJL {s:Bys}{i:Nat}{c:UInt8}(h:s[i]?=some c):aF1 s i=aA5 c:=by
  unfold aF1;rw [aAP h];exact (aCh c).2.2.2.1
theorem aOQ {s:Bys}{i:Nat}(h:s.length≤i):aF1 s i=false:=by unfold aF1;rw [aF2 h];rfl
structure RunTo (p:UInt8→Bool) (s:Bys) (f j:Nat):Prop where
  le:f≤j
  hi:j≤s.length
  all:(s.drop f).takeWhile p=(s.drop f).take (j-f)++(s.drop j).takeWhile p
theorem RunTo.start {p:UInt8→Bool}{s:Bys}{f:Nat}(h:f≤s.length):RunTo p s f f:=⟨Nat.le_refl _,h,by simp⟩
theorem RunTo.step {p:UInt8→Bool}{s:Bys}{f j:Nat}{c:UInt8}(h:RunTo p s f j) (hc:s[j]?=some c) (hp:p c=true):RunTo p s f (j+1):=by
  have hj:=(List.getElem?_eq_some_iff.1 hc).1;refine ⟨by have:=h.le;omega,by omega,?_⟩;rw [h.all,aCI hc,List.takeWhile_cons,if_pos hp];have hle:=h.le
  have:(s.drop f).take (j+1-f)=(s.drop f).take (j-f)++[c]:=by
    rw [show j+1-f=(j-f)+1 by omega,List.take_add_one,List.getElem?_drop,show f+(j-f)=j by omega,hc];rfl
  rw [this,List.append_assoc];rfl
theorem RunTo.stop {p:UInt8→Bool}{s:Bys}{f j:Nat}(h:RunTo p s f j) (hs:∀ c,s[j]?=some c→p c=false):(s.drop f).takeWhile p=(s.drop f).take (j-f)∧((s.drop f).takeWhile p).length=j-f:=by
  have e:(s.drop j).takeWhile p=[]:=by
    cases hq:s.drop j with
    | nil=>rfl
    | cons c r =>
      have:s[j]?=some c:=by
        have:=congrArg (fun l=>l[0]?) hq;simpa [List.getElem?_drop] using this
      rw [List.takeWhile_cons,hs c this];rfl
  have:=h.all;rw [e,List.append_nil] at this;refine ⟨this,?_⟩;rw [this,List.length_take,List.length_drop];have:=h.le;have:=h.hi;omega
theorem aG2 {s:Bys}{i j:Nat}{c:UInt8}(hc:s[i]?=some c) (h:i+1≤j):(s.take j).drop i=c::(s.drop (i+1)).take (j-(i+1)):=by
  rw [List.drop_take,aCI hc,show j-i=(j-(i+1))+1 by omega,List.take_succ_cons]
def aDz (s:Bys) (k i:Nat):Prop:=i≤s.length∧k≤(aBx s 0).length∧(aBx s 0).drop k=aBx (s.drop i) i
theorem aDz.zero (s:Bys):aDz s 0 0:=⟨Nat.zero_le _,Nat.zero_le _,rfl⟩
theorem aDz.done {s:Bys}{k:Nat}(h:aDz s k s.length):k=(aBx s 0).length:=by
  obtain ⟨_,h1,h2⟩:=h;rw [List.drop_length,aGQ] at h2;have:=congrArg List.length h2;simp at this;omega
theorem aDz.gap {s:Bys}{k i:Nat}{c:UInt8}(h:aDz s k i) (hc:s[i]?=some c) {m:Nat}(ho:one c (s.drop (i+1))=(0,[],m,0)) (hm:i+1+m≤s.length):aDz s k (i+1+m):=by
  obtain ⟨_,h1,h2⟩:=h;refine ⟨hm,h1,?_⟩;rw [h2,aCI hc,aCz,ho];simp only [bne_self_eq_false,Bool.false_eq_true,if_false,beq_self_eq_true,if_true,List.drop_drop];rw [show (i:Int)+1+(m:Int)=((i+1+m:Nat):Int) by omega]
theorem aDz.tok {s:Bys}{k i:Nat}{c:UInt8}{kd:Int}{tx:Bys}{m:Nat}(h:aDz s k i) (hc:s[i]?=some c) (ho:one c (s.drop (i+1))=(kd,tx,m,0)) (hk:kd≠0) (hm:i+1+m≤s.length):(aBx s 0)[k]?=some ((kd,tx,(i:Int)),0)∧aDz s (k+1) (i+1+m):=by
  obtain ⟨_,h1,h2⟩:=h;rw [aCI hc,aCz,ho] at h2;simp only [bne_self_eq_false,Bool.false_eq_true,if_false,List.drop_drop] at h2;rw [if_neg (by simpa using hk)] at h2
  have h3:(aBx s 0)[k]?=some ((kd,tx,(i:Int)),0):=by
    have:=congrArg (fun l=>l[0]?) h2;simpa [List.getElem?_drop] using this
  refine ⟨h3,hm,(List.getElem?_eq_some_iff.1 h3).1,?_⟩;have:=congrArg (List.drop 1) h2;rw [List.drop_drop] at this;rw [this];simp only [List.drop_succ_cons,List.drop_zero];rw [show (i:Int)+1+(m:Int)=((i+1+m:Nat):Int) by omega]
theorem aDz.err {s:Bys}{k i:Nat}{c:UInt8}{kd:Int}{tx:Bys}{m:Nat}{e:Int}(h:aDz s k i) (hc:s[i]?=some c) (ho:one c (s.drop (i+1))=(kd,tx,m,e)) (he:e≠0):(aBx s 0)[k]?=some ((kd,tx,(i:Int)),e)∧k+1=(aBx s 0).length:=by
  obtain ⟨_,h1,h2⟩:=h;rw [aCI hc,aCz,ho] at h2;simp only at h2;rw [if_pos (by simpa using he)] at h2
  have h3:(aBx s 0)[k]?=some ((kd,tx,(i:Int)),e):=by
    have:=congrArg (fun l=>l[0]?) h2;simpa [List.getElem?_drop] using this
  refine ⟨h3,?_⟩;have:=congrArg List.length h2;rw [List.length_drop] at this;simp at this;have:=(List.getElem?_eq_some_iff.1 h3).1;omega
theorem aO6 {c:UInt8}{l:Bys}(hb:aCc c=false) (h:(c==35)=true):one c l=(0,[],(l.takeWhile (· != 10)).length,0):=by
  unfold one;simp only [hb,h,Bool.false_eq_true,if_false,if_true]
theorem aO5 {c:UInt8}{l:Bys}(h:aBW c=true):one c l=(1,c::l.takeWhile aBA,(l.takeWhile aBA).length,if (l.takeWhile aBA).length+1>24 then 2 else 0):=by
  obtain ⟨h1,h2,_,_⟩:=aHJ h;unfold one;simp only [h1,h2,h,Bool.false_eq_true,if_false,if_true]
def hdW:Bys→Bool
  | d::_=>aBA d
  | []=>false
theorem aO7 {c:UInt8}{l:Bys}(h:aA5 c=true):one c l=((2:Int),c::l.takeWhile aA5,(l.takeWhile aA5).length,if ((l.takeWhile aA5).length+1>7||hdW (l.dropWhile aA5))=true then (4:Int) else 0):=by
  obtain ⟨h1,h2,h3,_⟩:=aM7 h;unfold one;simp only [h1,h2,h3,h,Bool.false_eq_true,if_false,if_true];cases l.dropWhile aA5<;>rfl
theorem aQr {c:UInt8}(h:(c==34)=true):aCc c=false∧(c==35)=false∧aBW c=false∧aA5 c=false:=by
  rw [beq_iff_eq] at h;subst h;decide
theorem aO4 {c:UInt8}{l:Bys}(h:(c==34)=true):one c l=(match aDS l with | some (s,k)=>(3,s,k,0) | none=>(0,[],0,3)):=by
  obtain ⟨h1,h2,h3,h4⟩:=aQr h;unfold one;simp only [h1,h2,h3,h4,h,Bool.false_eq_true,if_false,if_true];cases aDS l<;>rfl
theorem aQx {c:UInt8}{l:Bys}(h1:aCc c=false) (h2:(c==35)=false) (h3:aBW c=false) (h4:aA5 c=false) (h5:(c==34)=false) (h6:aEh c=false):one c l=(0,[],0,3):=by
  unfold one;simp only [h1,h2,h3,h4,h5,h6,Bool.false_eq_true,if_false]
theorem aFO {p:UInt8→Bool}(l:Bys):l.dropWhile p=l.drop (l.takeWhile p).length:=by
  induction l with
  | nil=>rfl
  | cons c l ih =>
    rw [List.dropWhile_cons,List.takeWhile_cons]
    split
    · simp [ih]
    · rfl
theorem aNT:∀ (n:Nat) (l:Bys),l.length≤n→∀ {s:Bys}{k:Nat},aDS l=some (s,k)→k≤l.length:=fun n l h s k hs=>(aNU n l [] h hs).2
theorem aG7 {p:UInt8→Bool}{s:Bys}{i j:Nat}{c:UInt8}(hc:s[i]?=some c) (hp:p c=true) (hr:RunTo p s i j) (hs:∀ c,s[j]?=some c→p c=false):i+1≤j∧c::(s.drop (i+1)).takeWhile p=(s.take j).drop i∧((s.drop (i+1)).takeWhile p).length=j-(i+1):=by
  obtain ⟨h1,h2⟩:=hr.stop hs;rw [aCI hc,List.takeWhile_cons,if_pos hp] at h1 h2;have h3:=hr.hi;have h4:=hr.le;simp only [List.length_cons] at h2;refine ⟨by omega,?_,by omega⟩;rw [h1,←aCI hc,List.drop_take]
theorem aQ7 {s:Bys}{i j:Nat}{c:UInt8}(hc:s[i]?=some c) (h:aBW c=true) (hr:RunTo aBA s i j) (hs:aCn s j=false):one c (s.drop (i+1))=(1,(s.take j).drop i,j-(i+1),if (24:Int)<(j:Int)-(i:Int) then 2 else 0)∧i+1≤j:=by
  obtain ⟨h1,h2,h3⟩:=aG7 hc (aHJ h).2.2.2 hr (fun c hc=>by rw [←aDK hc];exact hs);refine ⟨?_,h1⟩;rw [aO5 h,h2,h3];have:(j-(i+1)+1>24)↔((24:Int)<(j:Int)-(i:Int)):=by omega
  simp only [this]
theorem aSg {s:Bys}{j:Nat}:hdW (s.drop j)=aCn s j:=by
  cases hq:s[j]? with
  | none =>
    have hj:s.length≤j:=List.getElem?_eq_none_iff.1 hq;rw [List.drop_of_length_le hj,aEN hj];rfl
  | some c=>rw [aCI hq,aDK hq];rfl
theorem aQO {s:Bys}{i j:Nat}{c:UInt8}(hc:s[i]?=some c) (h:aA5 c=true) (hr:RunTo aA5 s i j) (hs:aF1 s j=false):one c (s.drop (i+1))=(2,(s.take j).drop i,j-(i+1),if (decide ((7:Int)<(j:Int)-(i:Int))||aCn s j)=true then 4 else 0)∧i+1≤j:=by
  obtain ⟨h1,h2,h3⟩:=aG7 hc h hr (fun c hc=>by rw [←aJL hc];exact hs);refine ⟨?_,h1⟩
  have hdd:(s.drop (i+1)).dropWhile aA5=s.drop j:=by
    rw [aFO,h3,List.drop_drop,show i+1+(j-(i+1))=j by omega]
  rw [aO7 h,h2,h3,hdd,aSg];have:decide (j-(i+1)+1>7)=decide ((7:Int)<(j:Int)-(i:Int)):=by rw [decide_eq_decide];omega
  rw [this]
theorem aJF {s:Bys}{i j:Nat}{c:UInt8}(hc:s[i]?=some c) (hb:aCc c=false) (h:(c==35)=true) (hr:RunTo (· != 10) s i j) (hs:∀ c,s[j]?=some c→(c != 10)=false):one c (s.drop (i+1))=(0,[],j-(i+1),0)∧i+1≤j:=by
  have hp:(c != 10)=true:=by rw [beq_iff_eq] at h;subst h;decide
  obtain ⟨h1,h2,h3⟩:=aG7 hc hp hr hs;exact ⟨by rw [aO6 hb h,h3],h1⟩
theorem aI1 {s:Bys}{i:Nat}{c:UInt8}(hc:s[i]?=some c) (h:(c==34)=true):s.drop i=34::s.drop (i+1)∧((∃ st m,aHg (s.drop (i+1))=(st,((m+1:Nat):Int))∧one c (s.drop (i+1))=(3,st,m,0)∧i+1+m≤s.length)∨(aHg (s.drop (i+1))=([],0)∧one c (s.drop (i+1))=(0,[],0,3))):=by
  refine ⟨by rw [aCI hc];rw [beq_iff_eq] at h;rw [h],?_⟩;have hi:=(List.getElem?_eq_some_iff.1 hc).1;rw [aO4 h]
  cases hq:aDS (s.drop (i+1)) with
  | none=>exact .inr ⟨aHp hq,rfl⟩
  | some x =>
    obtain ⟨st,m⟩:=x;have:=aNT _ _ (Nat.le_refl _) hq;rw [List.length_drop] at this;exact .inl ⟨st,m,by rw [aPp hq];rfl,rfl,by omega⟩
theorem aKZ {s:Bys}{j:Nat}(h:aF1 s j=false):aCn s j=(aAk s j==3||aAk s j==5):=by
  unfold aF1 at h;unfold aCn;rw [h];simp
theorem u10 (c:UInt8):(c != 10)=((c.toNat:Int) != 10):=by
  have:=q10 c;unfold bne;rw [this]
def aKV (s:Bys):List (Array Value):=(aBx s 0).map fun x=>#[.agg #[vI x.1.1,vS x.1.2.1,vI x.1.2.2,vI x.2]]
structure TokK (bt bf bc:Nat) (s:Bys) (G:Nat→Prop) (W:World):Prop where
  t:W.heap[bt]?=some (.cells #[vS s] 9 (0,0))
  f:W.heap[bf]?=some (.cells #[.func (.func 174) #[] #[vP bt 0,vP bc 0]] 299 (0,0))
  c:∃ cs,W.heap[bc]?=some (.cells cs 171 (0,0))∧T8 cs aHi
  nt:¬ G bt
  nf:¬ G bf
  nc:¬ G bc
theorem aCK {w:World}{bt bc:Nat}{s:Bys}{cs:Array Value}(hbt:w.heap[bt]?=some (.cells #[vS s] 9 (0,0))) (hbc:w.heap[bc]?=some (.cells cs 171 (0,0))) (hT:T8 cs aHi) (i:Nat):Calls Tryz.prog 174 #[vI (i:Int),vP bt 0,vP bc 0] w fun e w'=>e = .returned (.int .u8 ((aAk s i:Nat):Int))∧Fr (fun _=>False) w w':=by
  refine beg Tryz.func174 rfl rfl [(0,vI (i:Int)),(1,vP bt 0),(2,vP bc 0)] rfl rfl fun Φ hΦ=>?_;have hM:=Mm.nil (fun _=>False) w;refine seg 1 4 [(8,vB (decide ((s.length:Int)≤(i:Int))))] (fc (ld0 9 hM (bx hbt 0 rfl)) (fc (aGz 9 s) f0)) ?_;cases h1:(decide ((s.length:Int)≤(i:Int)))
  ·have rh1:=df h1;obtain ⟨e2,he2⟩:=geb (l:=s) (i:=i) (by omega);exact rt1 4 (.int .u8 ((aHi e2.toNat:Nat):Int)) rfl (fc (ld0 9 hM (bx hbt 0 rfl)) (fc (byt 9 he2) (fc (aEg 171 256 .u8 bc 0 e2.toNat e2.toNat_lt) (fc (ld0 5 hM (bx hbc (0+e2.toNat*1) (by rw [Nat.zero_add,Nat.mul_one];exact hT.2 _ e2.toNat_lt))) f0)))) (hΦ _ _ ⟨by rw [aAP he2,←aC5],hM.fr⟩)
  have rh1:=dt h1;exact rt1 4 (.int .u8 0) rfl f0 (hΦ _ _ ⟨by rw [aF2 (by omega)];rfl,hM.fr⟩)
abbrev aSF (Φ:Ending→World→Prop):=AtO Tryz.prog (aAr Tryz.f175) (aA2 (bodyPost Tryz.prog Tryz.f175 Φ)) [] 149
theorem aGy {bt bf bc:Nat}{s:Bys}(hl:s.length≤20000):aKR Tryz.prog 175 #[vP bt 0,vP bf 0] (aKV s) (TokK bt bf bc s):=by
  intro l J S w e0 hJ0 he hKp hSq hround;obtain ⟨hbt,hbf,⟨cs,hbc,hT⟩,hnt,hnf,hnc⟩:=hKp;refine beg Tryz.func175 rfl rfl [(0,.func (.yield l) #[] #[]),(1,vP bt 0),(2,vP bf 0)] rfl rfl fun Φ hΦ=>?_;have hM:=Mm.one he;refine seg 1 0 [(4,vI 0)] f0 ?_
  have lp3:∀ (m5:Nat) (k:Nat) (i:Nat) (ek:Ent) (w2:World),aDz s k i→J k ek→Mm e0.B w w2 [ek]→m5=s.length-i→aSF Φ (some (1,0)) [(4,vI (i:Int)),(0,.func (.yield l) #[] #[]),(1,vP bt 0),(2,vP bf 0)] w2:=by
   refine aBh fun m5 ih4 k i ek w2 hL hJ hM hm5=>?_;have hil:=hL.1;refine seg 1 4 [(14,vB (decide ((i:Int)<(s.length:Int))))] (fc (ld0 9 hM (bx hbt 0 rfl) hnt) (fc (aGz 9 s) f0)) ?_;cases h6:(decide ((i:Int)<(s.length:Int)))
   ·have rh6:=df h6;have hie:i=s.length:=by omega
    have hL9:aDz s k s.length:=by rw [←hie];exact hL
    have hd9:=hL9.done;exact rt0 rfl f0 (hΦ _ _ ⟨⟨_,rfl⟩,.inl ⟨_,by unfold aKV;rw [List.length_map,←hd9];exact hJ,hM.get 0 rfl,hM.fr⟩⟩)
   have rh6:=dt h6;obtain ⟨c,hc⟩:=geb (l:=s) (i:=i) (by omega);refine aBD 3 3 6 [(5,vI (i:Int)),(18,.agg #[vI 0,vS [],vI (i:Int),vI 3])] [] 255 (.agg #[vI 0,vS [],vI (i:Int),vI 3]) f0 hM fun b7 w1 hM=>aAq 4 2 21 [(19,.func (.func 174) #[] #[vP bt 0,vP bc 0]),(20,vI (i:Int))] (fc (ld0 299 hM (bx hbf 0 rfl) hnf) f0) hM (aCK (hM.fr.obj hbt hnt) (hM.fr.obj hbc hnc) hT i) fun w1 hM=>seg 5 2 [(22,vB (((aAk s i:Nat):Int)==1))] f0 ?_;cases h8:(((aAk s i:Nat):Int)==1)
   rotate_left
   ·have rh8:=et h8;have hblk:aCc c=true:=by rw [←(aCh c).1,←aAP hc];exact (aES (aAk s i) 1).symm.trans h8
    refine seg 1 0 [(4,vI ((i:Int)+1))] (fc (aAh (i:Int) 1 u3_) f0) ?_;have hL9:aDz s k (i+1):=(by have:=hL.gap hc (aQy hblk) (m:=0) (by omega);simpa using this);have hl9:=hL9.1;exact aAb _ (ih4 _ (by omega) k (i+1) ek _ hL9 hJ (hM.pick [0]) rfl)
   have rh8:=ef h8;have hblk:aCc c=false:=by rw [←(aCh c).1,←aAP hc];exact (aES (aAk s i) 1).symm.trans h8
   refine seg 7 2 [(26,vB (((aAk s i:Nat):Int)==2))] f0 ?_;cases h9:(((aAk s i:Nat):Int)==2)
   rotate_left
   ·have rh9:=et h9;have hhash:(c==35)=true:=by rw [←(aCh c).2.1,←aAP hc];exact (aES (aAk s i) 2).symm.trans h9
    refine seg 8 0 [] f0 ?_
    have ah:∀ (ae:Nat) (j:Nat) (w2:World),RunTo (· != 10) s i j→Mm e0.B w w2 [ek,bk b7 #[vI 0,vS [],vI (i:Int),vI 3] 255]→ae=s.length-j→aSF Φ (some (8,0)) [(4,vI (j:Int)),(0,.func (.yield l) #[] #[]),(1,vP bt 0),(2,vP bf 0)] w2:=by
     refine aBh fun ae ai j w2 hr hM a0=>?_;have hjl:=hr.hi;refine seg 8 5 [(32,vB (decide ((j:Int)<(s.length:Int))))] (fc (ld0 9 hM (bx hbt 0 rfl) hnt) (fc (aGz 9 s) f0)) ?_;cases h35:(decide ((j:Int)<(s.length:Int)))
     ·have aj:=df h35;have hjn:s[j]?=none:=List.getElem?_eq_none (by omega);refine seg 1 0 [] f0 ?_;obtain ⟨hon,hij⟩:=aJF hc hblk hhash hr (fun c hc9=>by rw [hjn] at hc9;cases hc9);have hjl:=hr.hi;have hL9:aDz s k j:=(by have:=hL.gap hc hon (by have:=hr.hi;omega);rwa [show i+1+(j-(i+1))=j by omega] at this);have hl9:=hL9.1;exact aAb _ (ih4 _ (by omega) k j ek _ hL9 hJ (hM.pick [0]) rfl)
     have aj:=dt h35;obtain ⟨e,he⟩:=geb (l:=s) (i:=j) (by omega);refine seg 8 10 [(37,vB (!((e.toNat:Int)==10)))] (fc (ld0 9 hM (bx hbt 0 rfl) hnt) (fc (byt 9 he) f0)) ?_;cases h36:((e.toNat:Int)==10)
     ·have ak:=ef h36;have hen:(e != 10)=true:=by rw [u10];show (!((e.toNat:Int)==10))=_;rw [h36];rfl
      refine seg 8 0 [(4,vI ((j:Int)+1))] (fc (aAh (j:Int) 1 u3_) f0) (aAb _ (ai _ (by omega) (j+1) _ (hr.step he hen) hM rfl))
     have ak:=et h36;have hen:(e != 10)=false:=by rw [u10];show (!((e.toNat:Int)==10))=_;rw [h36];rfl
     refine seg 1 0 [] f0 ?_;obtain ⟨hon,hij⟩:=aJF hc hblk hhash hr (fun c hc9=>by rw [he] at hc9;cases hc9;exact hen);have hjl:=hr.hi;have hL9:aDz s k j:=(by have:=hL.gap hc hon (by have:=hr.hi;omega);rwa [show i+1+(j-(i+1))=j by omega] at this);have hl9:=hL9.1;exact aAb _ (ih4 _ (by omega) k j ek _ hL9 hJ (hM.pick [0]) rfl)
    exact aAb _ (ah _ i _ (RunTo.start hL.1) hM rfl)
   have rh9:=ef h9;have hhash:(c==35)=false:=by rw [←(aCh c).2.1,←aAP hc];exact (aES (aAk s i) 2).symm.trans h9
   refine seg 10 2 [(40,vB (((aAk s i:Nat):Int)==3))] f0 ?_;cases h10:(((aAk s i:Nat):Int)==3)
   rotate_left
   ·have al:=et h10;have hlet:aBW c=true:=by rw [←(aCh c).2.2.1,←aAP hc];exact (aES (aAk s i) 3).symm.trans h10
    refine aAq 11 2 44 [(42,.func (.func 174) #[] #[vP bt 0,vP bc 0]),(43,vI (i:Int))] (fc (ld0 299 hM (bx hbf 0 rfl) hnf) f0) hM (aCK (hM.fr.obj hbt hnt) (hM.fr.obj hbc hnc) hT i) fun w1 hM=>seg 12 0 [(7,.int .u8 ((aAk s i:Nat):Int))] f0 ?_
    have am:∀ (af:Nat) (j:Nat) (w2:World),RunTo aBA s i j→Mm e0.B w w2 [ek,bk b7 #[vI 0,vS [],vI (i:Int),vI 3] 255]→af=s.length-j→aSF Φ (some (12,0)) [(7,.int .u8 ((aAk s j:Nat):Int)),(6,vP b7 0),(5,vI (i:Int)),(4,vI (j:Int)),(0,.func (.yield l) #[] #[]),(1,vP bt 0),(2,vP bf 0)] w2:=by
     refine aBh fun af ac j w2 hr hM a1=>?_;have hjl:=hr.hi;refine seg 12 3 [(47,vB (((aAk s j:Nat):Int)==3))] f0 ?_;cases h27:(((aAk s j:Nat):Int)==3)
     rotate_left
     ·have an:=et h27;have hj3:(aAk s j==3)=true:=(aES (aAk s j) 3).symm.trans h27;refine aAq 13 2 57 [(4,vI ((j:Int)+1)),(55,.func (.func 174) #[] #[vP bt 0,vP bc 0]),(56,vI ((j:Int)+1))] (fc (aAh (j:Int) 1 u3_) (fc (ld0 299 hM (bx hbf 0 rfl) hnf) f0)) hM (aCK (hM.fr.obj hbt hnt) (hM.fr.obj hbc hnc) hT (j+1)) fun w1 hM=>seg 12 0 [(7,.int .u8 ((aAk s (j+1):Nat):Int))] f0 ?_;have hwj:aCn s j=true:=by unfold aCn;first | (rw [hj3];done) | (rw [hj3];rfl)
      have hltj:j<s.length:=Nat.lt_of_not_le fun h9=>by rw [aEN h9] at hwj;cases hwj
      obtain ⟨e,he⟩:=geb (l:=s) (i:=j) hltj;have hen:aBA e=true:=by rw [←aDK he];exact hwj
      exact aAb _ (ac _ (by omega) (j+1) _ (hr.step he hen) hM rfl)
     have an:=ef h27;have hj3:(aAk s j==3)=false:=(aES (aAk s j) 3).symm.trans h27;refine seg 12 7 [(51,vB (((aAk s j:Nat):Int)==4))] f0 ?_;cases h28:(((aAk s j:Nat):Int)==4)
     rotate_left
     ·have ao:=et h28;have hj4:(aAk s j==4)=true:=(aES (aAk s j) 4).symm.trans h28;refine aAq 13 2 57 [(4,vI ((j:Int)+1)),(55,.func (.func 174) #[] #[vP bt 0,vP bc 0]),(56,vI ((j:Int)+1))] (fc (aAh (j:Int) 1 u3_) (fc (ld0 299 hM (bx hbf 0 rfl) hnf) f0)) hM (aCK (hM.fr.obj hbt hnt) (hM.fr.obj hbc hnc) hT (j+1)) fun w1 hM=>seg 12 0 [(7,.int .u8 ((aAk s (j+1):Nat):Int))] f0 ?_;have hwj:aCn s j=true:=by unfold aCn;first | (rw [hj3,hj4];done) | (rw [hj3,hj4];rfl)
      have hltj:j<s.length:=Nat.lt_of_not_le fun h9=>by rw [aEN h9] at hwj;cases hwj
      obtain ⟨e,he⟩:=geb (l:=s) (i:=j) hltj;have hen:aBA e=true:=by rw [←aDK he];exact hwj
      exact aAb _ (ac _ (by omega) (j+1) _ (hr.step he hen) hM rfl)
     have ao:=ef h28;have hj4:(aAk s j==4)=false:=(aES (aAk s j) 4).symm.trans h28;refine seg 12 10 [(54,vB (((aAk s j:Nat):Int)==5))] f0 ?_;cases h29:(((aAk s j:Nat):Int)==5)
     rotate_left
     ·have ap:=et h29;have hj5:(aAk s j==5)=true:=(aES (aAk s j) 5).symm.trans h29;refine aAq 13 2 57 [(4,vI ((j:Int)+1)),(55,.func (.func 174) #[] #[vP bt 0,vP bc 0]),(56,vI ((j:Int)+1))] (fc (aAh (j:Int) 1 u3_) (fc (ld0 299 hM (bx hbf 0 rfl) hnf) f0)) hM (aCK (hM.fr.obj hbt hnt) (hM.fr.obj hbc hnc) hT (j+1)) fun w1 hM=>seg 12 0 [(7,.int .u8 ((aAk s (j+1):Nat):Int))] f0 ?_;have hwj:aCn s j=true:=by unfold aCn;first | (rw [hj3,hj4,hj5];done) | (rw [hj3,hj4,hj5];rfl)
      have hltj:j<s.length:=Nat.lt_of_not_le fun h9=>by rw [aEN h9] at hwj;cases hwj
      obtain ⟨e,he⟩:=geb (l:=s) (i:=j) hltj;have hen:aBA e=true:=by rw [←aDK he];exact hwj
      exact aAb _ (ac _ (by omega) (j+1) _ (hr.step he hen) hM rfl)
     have ap:=ef h29;have hj5:(aAk s j==5)=false:=(aES (aAk s j) 5).symm.trans h29;have hws:aCn s j=false:=by unfold aCn;rw [hj3,hj4,hj5];rfl
     obtain ⟨hon,hij⟩:=aQ7 hc hlet hr hws;refine seg 15 0 [] f0 (drx [6,9,11] (fun γ=>[none,none,none]) _ (fun γ l=>[ek,bk b7 #[(bif l.getD 0 false then vI 1 else vI 0),(bif l.getD 1 false then vS ((s.take j).drop i) else vS []),vI (i:Int),(bif l.getD 2 false then vI 0 else vI 3)] 255]) (fun γ=>[]) hM (fun γ=>rfl) (fun γ l w5 hM=>(fc (ld0 9 hM (bx hbt 0 rfl) hnt) (fc (aSK 9 s i j (by omega) (by omega) (y:=(i:Int)) (z:=(j:Int)) (by omega) (by omega)) f0))) ⟨aA6 0 6 3 1 0 (fun γ=>b7) (fun γ l=>#[(bif l.getD 0 false then vI 1 else vI 0),(bif l.getD 1 false then vS ((s.take j).drop i) else vS []),vI (i:Int),(bif l.getD 2 false then vI 0 else vI 3)]) 255 (fun γ=>vI 1),aA6 1 9 9 1 1 (fun γ=>b7) (fun γ l=>#[(bif l.getD 0 false then vI 1 else vI 0),(bif l.getD 1 false then vS ((s.take j).drop i) else vS []),vI (i:Int),(bif l.getD 2 false then vI 0 else vI 3)]) 255 (fun γ=>vS ((s.take j).drop i)),aA6 2 11 31 1 3 (fun γ=>b7) (fun γ l=>#[(bif l.getD 0 false then vI 1 else vI 0),(bif l.getD 1 false then vS ((s.take j).drop i) else vS []),vI (i:Int),(bif l.getD 2 false then vI 0 else vI 3)]) 255 (fun γ=>vI 0),trivial⟩ fun a2 w1 hM=>?_);replace hM:Mm e0.B w w1 [ek,bk b7 #[vI 1,vS ((s.take j).drop i),vI (i:Int),vI 0] 255]:=hM;refine seg 16 4 [(72,vB (decide (24<((j:Int)-(i:Int)))))] (fc (aC8 (j:Int) (i:Int) u3_) f0) ?_;cases h31:(decide (24<((j:Int)-(i:Int))))
     ·have ad:=df h31;rw [if_neg ad] at hon;obtain ⟨hx,hLn⟩:=hL.tok hc hon (by decide) (by omega);refine yld 33 2 142 [(140,.func (.yield l) #[] #[]),(141,.agg #[vI 1,vS ((s.take j).drop i),vI (i:Int),vI 0])] #[255] (by decide) (fc (lam 255 1 0 4 hM rfl) f0) hM (j:=0) rfl (hround _ _ _ _ hJ (hM.get 0 rfl) hM.fr (aEs hx)) (fun ec w1 hJ hM=>?_) (fun w1 hS=>?_)
      · skip
        refine seg 1 0 [] (fc (ldm 31 1 3 hM rfl rfl) f0) ?_;have hL9:aDz s (k+1) j:=(by rwa [show i+1+(j-(i+1))=j by omega] at hLn);have hl9:=hL9.1;exact aAb _ (ih4 _ (by omega) (k+1) j ec _ hL9 hJ (hM.pick [0]) rfl)
      · skip
        exact rt0 rfl f0 (hΦ _ _ ⟨⟨_,rfl⟩,.inr hS⟩)
     have ad:=dt h31;refine stm 17 1 [(73,vP b7 3)] 31 1 3 (vI 2) f0 hM rfl fun w1 hM=>?_;rw [if_pos ad] at hon;obtain ⟨hx,hend⟩:=hL.err hc hon (by decide);refine yld 33 2 142 [(140,.func (.yield l) #[] #[]),(141,.agg #[vI 1,vS ((s.take j).drop i),vI (i:Int),vI 2])] #[255] (by decide) (fc (lam 255 1 0 4 hM rfl) f0) hM (j:=0) rfl (hround _ _ _ _ hJ (hM.get 0 rfl) hM.fr (aEs hx)) (fun ec w1 hJ hM=>?_) (fun w1 hS=>?_)
     · skip
       exact rt0 rfl (fc (ldm 31 1 3 hM rfl rfl) f0) (hΦ _ _ ⟨⟨_,rfl⟩,.inl ⟨_,by unfold aKV;rw [List.length_map,←hend];exact hJ,hM.get 0 rfl,hM.fr⟩⟩)
     · skip
       exact rt0 rfl f0 (hΦ _ _ ⟨⟨_,rfl⟩,.inr hS⟩)
    exact aAb _ (am _ i _ (RunTo.start hL.1) hM rfl)
   have al:=ef h10;have hlet:aBW c=false:=by rw [←(aCh c).2.2.1,←aAP hc];exact (aES (aAk s i) 3).symm.trans h10
   refine seg 18 2 [(74,vB (((aAk s i:Nat):Int)==4))] f0 ?_;cases h11:(((aAk s i:Nat):Int)==4)
   ·have aq:=ef h11;have hdig:aA5 c=false:=by rw [←(aCh c).2.2.2.1,←aAP hc];exact (aES (aAk s i) 4).symm.trans h11
    refine seg 25 2 [(107,vB (((aAk s i:Nat):Int)==7))] f0 ?_;cases h12:(((aAk s i:Nat):Int)==7)
    ·have ar:=ef h12;have hquo:(c==34)=false:=by rw [←(aCh c).2.2.2.2.1,←aAP hc];exact (aES (aAk s i) 7).symm.trans h12
     refine seg 30 2 [(127,vB (((aAk s i:Nat):Int)==6))] f0 ?_;cases h13:(((aAk s i:Nat):Int)==6)
     ·have au:=ef h13;have hsym:aEh c=false:=by rw [←(aCh c).2.2.2.2.2.1,←aAP hc];exact (aES (aAk s i) 6).symm.trans h13
      have hon:=aQx (l:=s.drop (i+1)) hblk hhash hlet hdig hquo hsym;obtain ⟨hx,hend⟩:=hL.err hc hon (by decide);refine yld 33 2 142 [(140,.func (.yield l) #[] #[]),(141,.agg #[vI 0,vS [],vI (i:Int),vI 3])] #[255] (by decide) (fc (lam 255 1 0 4 hM rfl) f0) hM (j:=0) rfl (hround _ _ _ _ hJ (hM.get 0 rfl) hM.fr (aEs hx)) (fun ec w1 hJ hM=>?_) (fun w1 hS=>?_)
      · skip
        exact rt0 rfl (fc (ldm 31 1 3 hM rfl rfl) f0) (hΦ _ _ ⟨⟨_,rfl⟩,.inl ⟨_,by unfold aKV;rw [List.length_map,←hend];exact hJ,hM.get 0 rfl,hM.fr⟩⟩)
      · skip
        exact rt0 rfl f0 (hΦ _ _ ⟨⟨_,rfl⟩,.inr hS⟩)
     have au:=et h13;have hsym:aEh c=true:=by rw [←(aCh c).2.2.2.2.2.1,←aAP hc];exact (aES (aAk s i) 6).symm.trans h13
     have hon:one c (s.drop (i+1))=(4,(s.take (i+1)).drop i,0,0):=by rw [aQw hsym,aG2 hc (Nat.le_refl _)];simp
     refine seg 32 0 [(4,vI ((i:Int)+1))] (fc (aAh (i:Int) 1 u3_) f0) (drx [6,9,11] (fun γ=>[none,none,none]) _ (fun γ l=>[ek,bk b7 #[(bif l.getD 0 false then vI 4 else vI 0),(bif l.getD 1 false then vS ((s.take (i+1)).drop i) else vS []),vI (i:Int),(bif l.getD 2 false then vI 0 else vI 3)] 255]) (fun γ=>[]) hM (fun γ=>rfl) (fun γ l w5 hM=>(fc (ld0 9 hM (bx hbt 0 rfl) hnt) (fc (aSK 9 s i (i+1) (by omega) (by omega) (y:=(i:Int)) (z:=((i:Int)+1)) (by omega) (by omega)) f0))) ⟨aA6 0 6 3 1 0 (fun γ=>b7) (fun γ l=>#[(bif l.getD 0 false then vI 4 else vI 0),(bif l.getD 1 false then vS ((s.take (i+1)).drop i) else vS []),vI (i:Int),(bif l.getD 2 false then vI 0 else vI 3)]) 255 (fun γ=>vI 4),aA6 1 9 9 1 1 (fun γ=>b7) (fun γ l=>#[(bif l.getD 0 false then vI 4 else vI 0),(bif l.getD 1 false then vS ((s.take (i+1)).drop i) else vS []),vI (i:Int),(bif l.getD 2 false then vI 0 else vI 3)]) 255 (fun γ=>vS ((s.take (i+1)).drop i)),aA6 2 11 31 1 3 (fun γ=>b7) (fun γ l=>#[(bif l.getD 0 false then vI 4 else vI 0),(bif l.getD 1 false then vS ((s.take (i+1)).drop i) else vS []),vI (i:Int),(bif l.getD 2 false then vI 0 else vI 3)]) 255 (fun γ=>vI 0),trivial⟩ fun a3 w1 hM=>?_);replace hM:Mm e0.B w w1 [ek,bk b7 #[vI 4,vS ((s.take (i+1)).drop i),vI (i:Int),vI 0] 255]:=hM;obtain ⟨hx,hLn⟩:=hL.tok hc hon (by decide) (by omega);refine yld 33 2 142 [(140,.func (.yield l) #[] #[]),(141,.agg #[vI 4,vS ((s.take (i+1)).drop i),vI (i:Int),vI 0])] #[255] (by decide) (fc (lam 255 1 0 4 hM rfl) f0) hM (j:=0) rfl (hround _ _ _ _ hJ (hM.get 0 rfl) hM.fr (aEs hx)) (fun ec w1 hJ hM=>?_) (fun w1 hS=>?_)
     · skip
       refine seg 1 0 [] (fc (ldm 31 1 3 hM rfl rfl) f0) ?_;have hL9:aDz s (k+1) (i+1):=(by simpa using hLn);have hl9:=hL9.1;exact aAb _ (ih4 _ (by omega) (k+1) (i+1) ec _ hL9 hJ (hM.pick [0]) rfl)
     · skip
       exact rt0 rfl f0 (hΦ _ _ ⟨⟨_,rfl⟩,.inr hS⟩)
    have ar:=et h12;have hquo:(c==34)=true:=by rw [←(aCh c).2.2.2.2.1,←aAP hc];exact (aES (aAk s i) 7).symm.trans h12
    obtain ⟨hsd,-⟩:=aI1 hc hquo;refine aAq 26 3 113 [(112,vS (34::s.drop (i+1)))] (fc (ld0 9 hM (bx hbt 0 rfl) hnt) (fc (rz2 (aTW 9 s i (by omega) (y:=(i:Int)) (by omega)) (congrArg vS hsd)) f0)) hM (aLo (t:=34::s.drop (i+1)) (l:=s.drop (i+1)) rfl (by rw [List.length_drop];omega) _) fun w1 hM=>seg 27 2 [(9,vS ((aHg (s.drop (i+1))).1)),(10,vI (aHg (s.drop (i+1))).2),(117,vB (decide (0<(aHg (s.drop (i+1))).2)))] f0 ?_;cases h15:(decide (0<(aHg (s.drop (i+1))).2))
    ·have aa:=df h15;obtain ⟨-,hso⟩:=aI1 hc hquo;obtain ⟨hun,hon⟩:aHg (s.drop (i+1))=([],0)∧one c (s.drop (i+1))=(0,[],0,3):=hso.resolve_left (fun ⟨st,m,hx,_⟩=>by rw [hx] at aa;simp only at aa;omega);clear hso;have hu1:(aHg (s.drop (i+1))).1=[]:=by rw [hun]
     have hu2:(aHg (s.drop (i+1))).2=0:=by rw [hun]
     rw [hu1,hu2];obtain ⟨hx,hend⟩:=hL.err hc hon (by decide);refine yld 33 2 142 [(4,vI ((i:Int)+0)),(140,.func (.yield l) #[] #[]),(141,.agg #[vI 0,vS [],vI (i:Int),vI 3])] #[255] (by decide) (fc (aAh (i:Int) 0 u3_) (fc (lam 255 1 0 4 hM rfl) f0)) hM (j:=0) rfl (hround _ _ _ _ hJ (hM.get 0 rfl) hM.fr (aEs hx)) (fun ec w1 hJ hM=>?_) (fun w1 hS=>?_)
     · skip
       exact rt0 rfl (fc (ldm 31 1 3 hM rfl rfl) f0) (hΦ _ _ ⟨⟨_,rfl⟩,.inl ⟨_,by unfold aKV;rw [List.length_map,←hend];exact hJ,hM.get 0 rfl,hM.fr⟩⟩)
     · skip
       exact rt0 rfl f0 (hΦ _ _ ⟨⟨_,rfl⟩,.inr hS⟩)
    have aa:=dt h15;obtain ⟨-,hso⟩:=aI1 hc hquo;obtain ⟨st,m,hun,hon,hmm⟩:∃ st m,aHg (s.drop (i+1))=(st,((m+1:Nat):Int))∧one c (s.drop (i+1))=(3,st,m,0)∧i+1+m≤s.length:=hso.resolve_right (fun hx=>by rw [hx.1] at aa;simp at aa);clear hso;have hu1:(aHg (s.drop (i+1))).1=st:=by rw [hun]
    have hu2:(aHg (s.drop (i+1))).2=((m+1:Nat):Int):=by rw [hun]
    rw [hu1,hu2];refine stm 28 3 [(118,vS st),(120,vP b7 0)] 3 1 0 (vI 3) f0 hM rfl fun w1 hM=>stm 28 6 [(122,vP b7 1)] 9 1 1 (vS st) f0 hM rfl fun w1 hM=>stm 28 8 [(123,vP b7 3)] 31 1 3 (vI 0) f0 hM rfl fun w1 hM=>?_;obtain ⟨hx,hLn⟩:=hL.tok hc hon (by decide) (by omega);refine yld 33 2 142 [(4,vI ((i:Int)+((m+1:Nat):Int))),(140,.func (.yield l) #[] #[]),(141,.agg #[vI 3,vS st,vI (i:Int),vI 0])] #[255] (by decide) (fc (aAh (i:Int) ((m+1:Nat):Int) u3_) (fc (lam 255 1 0 4 hM rfl) f0)) hM (j:=0) rfl (hround _ _ _ _ hJ (hM.get 0 rfl) hM.fr (aEs hx)) (fun ec w1 hJ hM=>?_) (fun w1 hS=>?_)
    · skip
      refine seg 1 0 [] (fc (ldm 31 1 3 hM rfl rfl) f0) ?_;have hL9:aDz s (k+1) (i+(m+1)):=(by rwa [show i+1+m=i+(m+1) by omega] at hLn);have hl9:=hL9.1;exact aAb _ (ih4 _ (by omega) (k+1) (i+(m+1)) ec _ hL9 hJ (hM.pick [0]) rfl)
    · skip
      exact rt0 rfl f0 (hΦ _ _ ⟨⟨_,rfl⟩,.inr hS⟩)
   have aq:=et h11;have hdig:aA5 c=true:=by rw [←(aCh c).2.2.2.1,←aAP hc];exact (aES (aAk s i) 4).symm.trans h11
   refine seg 19 0 [] f0 ?_
   have av:∀ (ag:Nat) (j:Nat) (w2:World),RunTo aA5 s i j→Mm e0.B w w2 [ek,bk b7 #[vI 0,vS [],vI (i:Int),vI 3] 255]→ag=s.length-j→aSF Φ (some (19,0)) [(6,vP b7 0),(5,vI (i:Int)),(4,vI (j:Int)),(0,.func (.yield l) #[] #[]),(1,vP bt 0),(2,vP bf 0)] w2:=by
    refine aBh fun ag aw j w2 hr hM a4=>?_;have hjl:=hr.hi;refine aAq 19 2 78 [(76,.func (.func 174) #[] #[vP bt 0,vP bc 0]),(77,vI (j:Int))] (fc (ld0 299 hM (bx hbf 0 rfl) hnf) f0) hM (aCK (hM.fr.obj hbt hnt) (hM.fr.obj hbc hnc) hT j) fun w1 hM=>seg 19 4 [(79,vB (((aAk s j:Nat):Int)==4))] f0 ?_;cases h19:(((aAk s j:Nat):Int)==4)
    rotate_left
    ·have ax:=et h19;have hj4:(aAk s j==4)=true:=(aES (aAk s j) 4).symm.trans h19;refine seg 19 0 [(4,vI ((j:Int)+1))] (fc (aAh (j:Int) 1 u3_) f0) ?_;have hwj:aF1 s j=true:=by unfold aF1;first | (rw [hj4];done) | (rw [hj4];rfl)
     have hltj:j<s.length:=Nat.lt_of_not_le fun h9=>by rw [aOQ h9] at hwj;cases hwj
     obtain ⟨e,he⟩:=geb (l:=s) (i:=j) hltj;have hen:aA5 e=true:=by rw [←aJL he];exact hwj
     exact aAb _ (aw _ (by omega) (j+1) _ (hr.step he hen) hM rfl)
    have ax:=ef h19;have hj4:(aAk s j==4)=false:=(aES (aAk s j) 4).symm.trans h19;have hds:aF1 s j=false:=by unfold aF1;exact hj4
    obtain ⟨hon,hij⟩:=aQO hc hdig hr hds;refine seg 21 0 [] f0 (drx [6,9,11] (fun γ=>[none,none,none]) _ (fun γ l=>[ek,bk b7 #[(bif l.getD 0 false then vI 2 else vI 0),(bif l.getD 1 false then vS ((s.take j).drop i) else vS []),vI (i:Int),(bif l.getD 2 false then vI 0 else vI 3)] 255]) (fun γ=>[]) hM (fun γ=>rfl) (fun γ l w5 hM=>(fc (ld0 9 hM (bx hbt 0 rfl) hnt) (fc (aSK 9 s i j (by omega) (by omega) (y:=(i:Int)) (z:=(j:Int)) (by omega) (by omega)) f0))) ⟨aA6 0 6 3 1 0 (fun γ=>b7) (fun γ l=>#[(bif l.getD 0 false then vI 2 else vI 0),(bif l.getD 1 false then vS ((s.take j).drop i) else vS []),vI (i:Int),(bif l.getD 2 false then vI 0 else vI 3)]) 255 (fun γ=>vI 2),aA6 1 9 9 1 1 (fun γ=>b7) (fun γ l=>#[(bif l.getD 0 false then vI 2 else vI 0),(bif l.getD 1 false then vS ((s.take j).drop i) else vS []),vI (i:Int),(bif l.getD 2 false then vI 0 else vI 3)]) 255 (fun γ=>vS ((s.take j).drop i)),aA6 2 11 31 1 3 (fun γ=>b7) (fun γ l=>#[(bif l.getD 0 false then vI 2 else vI 0),(bif l.getD 1 false then vS ((s.take j).drop i) else vS []),vI (i:Int),(bif l.getD 2 false then vI 0 else vI 3)]) 255 (fun γ=>vI 0),trivial⟩ fun a5 w1 hM=>?_);replace hM:Mm e0.B w w1 [ek,bk b7 #[vI 2,vS ((s.take j).drop i),vI (i:Int),vI 0] 255]:=hM;refine aAq 22 2 93 [(91,.func (.func 174) #[] #[vP bt 0,vP bc 0]),(92,vI (j:Int))] (fc (ld0 299 hM (bx hbf 0 rfl) hnf) f0) hM (aCK (hM.fr.obj hbt hnt) (hM.fr.obj hbc hnc) hT j) fun w1 hM=>seg 23 5 [(8,.int .u8 ((aAk s j:Nat):Int)),(98,vB (decide (7<((j:Int)-(i:Int)))))] (fc (aC8 (j:Int) (i:Int) u3_) f0) ?_;cases h21:(decide (7<((j:Int)-(i:Int))))
    rotate_left
    ·have ab:=dt h21;refine stm 24 1 [(106,vP b7 3)] 31 1 3 (vI 4) f0 hM rfl fun w1 hM=>?_;rw [decide_eq_true ab,Bool.true_or,if_pos rfl] at hon;obtain ⟨hx,hend⟩:=hL.err hc hon (by decide);refine yld 33 2 142 [(140,.func (.yield l) #[] #[]),(141,.agg #[vI 2,vS ((s.take j).drop i),vI (i:Int),vI 4])] #[255] (by decide) (fc (lam 255 1 0 4 hM rfl) f0) hM (j:=0) rfl (hround _ _ _ _ hJ (hM.get 0 rfl) hM.fr (aEs hx)) (fun ec w1 hJ hM=>?_) (fun w1 hS=>?_)
     · skip
       exact rt0 rfl (fc (ldm 31 1 3 hM rfl rfl) f0) (hΦ _ _ ⟨⟨_,rfl⟩,.inl ⟨_,by unfold aKV;rw [List.length_map,←hend];exact hJ,hM.get 0 rfl,hM.fr⟩⟩)
     · skip
       exact rt0 rfl f0 (hΦ _ _ ⟨⟨_,rfl⟩,.inr hS⟩)
    have ab:=df h21;refine seg 23 9 [(102,vB (((aAk s j:Nat):Int)==3))] f0 ?_;cases h22:(((aAk s j:Nat):Int)==3)
    rotate_left
    ·have ay:=et h22;have hj3:(aAk s j==3)=true:=(aES (aAk s j) 3).symm.trans h22;refine stm 24 1 [(106,vP b7 3)] 31 1 3 (vI 4) f0 hM rfl fun w1 hM=>?_;have hwq:aCn s j=true:=by rw [aKZ hds,hj3];simp
     rw [hwq,decide_eq_false ab] at hon;simp only [Bool.or_true,Bool.or_false,Bool.false_eq_true,if_true,if_false] at hon;obtain ⟨hx,hend⟩:=hL.err hc hon (by decide);refine yld 33 2 142 [(140,.func (.yield l) #[] #[]),(141,.agg #[vI 2,vS ((s.take j).drop i),vI (i:Int),vI 4])] #[255] (by decide) (fc (lam 255 1 0 4 hM rfl) f0) hM (j:=0) rfl (hround _ _ _ _ hJ (hM.get 0 rfl) hM.fr (aEs hx)) (fun ec w1 hJ hM=>?_) (fun w1 hS=>?_)
     · skip
       exact rt0 rfl (fc (ldm 31 1 3 hM rfl rfl) f0) (hΦ _ _ ⟨⟨_,rfl⟩,.inl ⟨_,by unfold aKV;rw [List.length_map,←hend];exact hJ,hM.get 0 rfl,hM.fr⟩⟩)
     · skip
       exact rt0 rfl f0 (hΦ _ _ ⟨⟨_,rfl⟩,.inr hS⟩)
    have ay:=ef h22;have hj3:(aAk s j==3)=false:=(aES (aAk s j) 3).symm.trans h22;refine seg 23 12 [(105,vB (((aAk s j:Nat):Int)==5))] f0 ?_;cases h23:(((aAk s j:Nat):Int)==5)
    ·have az:=ef h23;have hj5:(aAk s j==5)=false:=(aES (aAk s j) 5).symm.trans h23;have hwq:aCn s j=false:=by rw [aKZ hds,hj3,hj5];rfl
     rw [hwq,decide_eq_false ab] at hon;simp only [Bool.or_true,Bool.or_false,Bool.false_eq_true,if_true,if_false] at hon;obtain ⟨hx,hLn⟩:=hL.tok hc hon (by decide) (by omega);refine yld 33 2 142 [(140,.func (.yield l) #[] #[]),(141,.agg #[vI 2,vS ((s.take j).drop i),vI (i:Int),vI 0])] #[255] (by decide) (fc (lam 255 1 0 4 hM rfl) f0) hM (j:=0) rfl (hround _ _ _ _ hJ (hM.get 0 rfl) hM.fr (aEs hx)) (fun ec w1 hJ hM=>?_) (fun w1 hS=>?_)
     · skip
       refine seg 1 0 [] (fc (ldm 31 1 3 hM rfl rfl) f0) ?_;have hL9:aDz s (k+1) j:=(by rwa [show i+1+(j-(i+1))=j by omega] at hLn);have hl9:=hL9.1;exact aAb _ (ih4 _ (by omega) (k+1) j ec _ hL9 hJ (hM.pick [0]) rfl)
     · skip
       exact rt0 rfl f0 (hΦ _ _ ⟨⟨_,rfl⟩,.inr hS⟩)
    have az:=et h23;have hj5:(aAk s j==5)=true:=(aES (aAk s j) 5).symm.trans h23;refine stm 24 1 [(106,vP b7 3)] 31 1 3 (vI 4) f0 hM rfl fun w1 hM=>?_;have hwq:aCn s j=true:=by rw [aKZ hds,hj3,hj5];rfl
    rw [hwq,decide_eq_false ab] at hon;simp only [Bool.or_true,Bool.or_false,Bool.false_eq_true,if_true,if_false] at hon;obtain ⟨hx,hend⟩:=hL.err hc hon (by decide);refine yld 33 2 142 [(140,.func (.yield l) #[] #[]),(141,.agg #[vI 2,vS ((s.take j).drop i),vI (i:Int),vI 4])] #[255] (by decide) (fc (lam 255 1 0 4 hM rfl) f0) hM (j:=0) rfl (hround _ _ _ _ hJ (hM.get 0 rfl) hM.fr (aEs hx)) (fun ec w1 hJ hM=>?_) (fun w1 hS=>?_)
    · skip
      exact rt0 rfl (fc (ldm 31 1 3 hM rfl rfl) f0) (hΦ _ _ ⟨⟨_,rfl⟩,.inl ⟨_,by unfold aKV;rw [List.length_map,←hend];exact hJ,hM.get 0 rfl,hM.fr⟩⟩)
    · skip
      exact rt0 rfl f0 (hΦ _ _ ⟨⟨_,rfl⟩,.inr hS⟩)
   exact aAb _ (av _ i _ (RunTo.start hL.1) hM rfl)
  exact aAb _ (lp3 _ 0 0 e0 _ (aDz.zero s) hJ0 hM rfl)
theorem aJB {s:Bys}:(aBx s 0).length≤s.length:=aJC _ s 0 (Nat.le_refl _)
theorem aSm {l:List (Tok Int×Int)}(h:∀ x∈l,x.2=0):aE5 l=none:=(aE4 _).2 h
theorem aSn:∀ {l:List (Tok Int×Int)}{k:Nat}{x:Tok Int×Int},l[k]?=some x→(∀ y∈l.take k,y.2=0)→x.2≠0→aE5 l=some (x.2,x.1.2.2):=by
  intro l
  induction l with
  | nil=>intro k x h;simp at h
  | cons y l ih =>
    intro k x h h0 hx
    cases k with
    | zero=>simp at h;subst h;unfold aE5;rw [if_pos (by simpa using hx)]
    | succ k =>
      have hy:=h0 y (by simp);unfold aE5;rw [if_neg (by simp [hy])];exact ih (by simpa using h) (fun z hz=>h0 z (by simp [hz])) hx
def tkL (t:Tok Int):List Value:=[vI t.1,vS t.2.1,vI t.2.2]
theorem tkT:ElT Tryz.prog tkL 3 175 253:=⟨fun _=>rfl,by decide,fun x u hu=>by
  unfold tkL at hu;simp only [List.mem_cons,List.not_mem_nil,or_false] at hu;rcases hu with rfl | rfl | rfl<;>rfl,Tryz.underlying175,aBj (by kernel_rfl)⟩
structure TokH (bt bf bc:Nat) (s:Bys) (w w':World):Prop where
  t:w'.heap[bt]?=some (.cells #[vS s] 9 (0,0))
  f:w'.heap[bf]?=some (.cells #[.func (.func 174) #[] #[vP bt 0,vP bc 0]] 299 (0,0))
  c:∃ cs,w'.heap[bc]?=some (.cells cs 171 (0,0))∧T8 cs aHi
  nt:w.heap.size≤bt
  nf:w.heap.size≤bf
  nc:w.heap.size≤bc
theorem aHt (s:Bys) (w:World):Calls Tryz.prog 131 #[vS s] w fun e w'=>∃ bt bf bc,e = .returned (.func (.func 175) #[] #[vP bt 0,vP bf 0])∧TokH bt bf bc s w w'∧Fr (fun _=>False) w w':=by
  refine beg Tryz.func131 rfl rfl [(0,vS s)] rfl rfl fun Φ hΦ=>?_;have hM:=Mm.nil (fun _=>False) w;refine aAn 0 0 1 [] (cs:=#[vS s]) (T:=9) (v:=fun b=>vP b 0) f0 hM fun b1 w1 hM=>aOX 1 0 5 [] (K:=fun v w8=>∃ cs,v = .agg cs∧T8 cs aHi) f0 hM ((aEk _).mono fun e w8 ⟨cs,h1,h2,h3⟩=>⟨⟨_,h1,cs,rfl,h2⟩,h3⟩) fun _ w1 ⟨cs,hv9,hT⟩ hM f1=>?_;subst hv9;refine aAn 1 1 3 [] (cs:=zT Tryz.prog 171) (T:=171) (v:=fun b=>vP b 0) f0 hM fun b2 w1 hM=>aSP 1 2 [] 171 1 f0 hM rfl aN0.1 hT.1 (T8.one hT) fun w1 hM=>aBD 2 1 4 [(6,.func (.func 174) #[] #[vP b1 0,vP b2 0])] [] 299 (.func (.func 174) #[] #[vP b1 0,vP b2 0]) f0 hM fun b3 w1 hM=>rt1 2 (.func (.func 175) #[] #[vP b1 0,vP b3 0]) rfl f0 (hΦ _ _ ⟨_,_,_,rfl,⟨hM.get 0 rfl,hM.get 2 rfl,⟨_,hM.get 1 rfl,hT⟩,hM.ge (.head _) rfl,hM.ge (.tail _ (.tail _ (.head _))) rfl,hM.ge (.tail _ (.head _)) rfl⟩,hM.fr⟩)
def aRX (s:Bys) (w w':World) (e:Ending):Prop:=match aNv s with
  | .error (c,x)=>∃ v,e = .returned (.tuple #[vL none 0 0,vI c,v])∧v=vI x
  | .ok ts=>∃ v,e = .returned (.tuple #[v,vI 0,vI 0])∧aHj tkL 3 253 w w' v ts
theorem aHE {s:Bys}(hl:s.length≤4999) (w:World):Calls Tryz.prog 83 #[vS s] w fun e w'=>aRX s w w' e∧Fr (fun _=>False) w w':=by
  refine aTs Tryz.func83 rfl rfl [(0,vS s)] rfl rfl fun Φ hΦ=>?_;have hM:=Mm.nil (fun _=>False) w;refine aAn 0 0 2 [] (cs:=#[vL none 0 0]) (T:=175) (v:=fun b=>vP b 0) f0 hM fun b4 w1 hM=>aAn 0 1 3 [] (cs:=#[vI 0]) (T:=31) (v:=fun b=>vP b 0) f0 hM fun b5 w1 hM=>aAn 0 2 4 [] (cs:=#[vI 0]) (T:=3) (v:=fun b=>vP b 0) f0 hM fun b6 w1 hM=>seg 1 3 [(9,vB (decide (20000<(s.length:Int))))] (fc (aGz 9 s) f0) ?_;cases h7:(decide (20000<(s.length:Int)))
  rotate_left
  ·have rh7:=dt h7;exfalso;omega
  have rh7:=df h7;refine aAn 3 0 5 [] (cs:=#[vL none 0 0]) (T:=175) (v:=fun b=>vP b 0) f0 hM fun b8 w1 hM=>?_
  skip
  refine cal 4 1 11 [(10,vS s)] (K:=fun u w8=>∃ bt bf bc,u = .func (.func 175) #[] #[vP bt 0,vP bf 0]∧TokH bt bf bc s _ w8∧Fr (fun _=>False) _ w8) f0 ((aHt s _).mono fun e w9 ⟨bt,bf,bc,h1,h2⟩=>⟨_,h1,bt,bf,bc,rfl,h2⟩) fun u w1 ⟨bt,bf,bc,hu,hT,f1⟩=>?_;subst hu;have nap:∀ k,(World.heap _).size≤k→¬ BlM _ k:=fun k hk ⟨e,he,hb⟩=>Nat.lt_irrefl _ (Nat.lt_of_lt_of_le (e.lt (hM.at_ e he) hb) hk);have hnt:=nap _ hT.nt;have hnf:=nap _ hT.nf;have hnc:=nap _ hT.nc;have hM:=hM.q f1;have hM:=hM.row (f:=tkL) (c:=3) (E:=253);have hnt9:¬ BlM [bk b4 #[vL none 0 0] 175,bk b5 #[vI 0] 31,bk b6 #[vI 0] 3,bk b8 #[vL none 0 0] 175,rw_ tkL 3 253 (vL none 0 0) []] bt:=fun h=>hnt (by obtain ⟨e,he,hb⟩:=h;simp only [List.mem_cons,List.not_mem_nil,or_false] at he;rcases he with rfl | rfl | rfl | rfl | rfl;exact ⟨_,.head _,hb⟩;exact ⟨_,.tail _ (.head _),hb⟩;exact ⟨_,.tail _ (.tail _ (.head _)),hb⟩;exact ⟨_,.tail _ (.tail _ (.tail _ (.head _))),hb⟩;cases hb);have hnf9:¬ BlM [bk b4 #[vL none 0 0] 175,bk b5 #[vI 0] 31,bk b6 #[vI 0] 3,bk b8 #[vL none 0 0] 175,rw_ tkL 3 253 (vL none 0 0) []] bf:=fun h=>hnf (by obtain ⟨e,he,hb⟩:=h;simp only [List.mem_cons,List.not_mem_nil,or_false] at he;rcases he with rfl | rfl | rfl | rfl | rfl;exact ⟨_,.head _,hb⟩;exact ⟨_,.tail _ (.head _),hb⟩;exact ⟨_,.tail _ (.tail _ (.head _)),hb⟩;exact ⟨_,.tail _ (.tail _ (.tail _ (.head _))),hb⟩;cases hb);have hnc9:¬ BlM [bk b4 #[vL none 0 0] 175,bk b5 #[vI 0] 31,bk b6 #[vI 0] 3,bk b8 #[vL none 0 0] 175,rw_ tkL 3 253 (vL none 0 0) []] bc:=fun h=>hnc (by obtain ⟨e,he,hb⟩:=h;simp only [List.mem_cons,List.not_mem_nil,or_false] at he;rcases he with rfl | rfl | rfl | rfl | rfl;exact ⟨_,.head _,hb⟩;exact ⟨_,.tail _ (.head _),hb⟩;exact ⟨_,.tail _ (.tail _ (.head _)),hb⟩;exact ⟨_,.tail _ (.tail _ (.tail _ (.head _))),hb⟩;cases hb);refine seg 1005 0 [] f0 (aT4 5 (g := .tmp 11) (ps:=#[12]) (vs:=aKV s) (fun k Mk=>∃ q c,Mk=[bk b4 #[vL none 0 0] 175,bk b5 #[vI 0] 31,bk b6 #[vI 0] 3,bk b8 #[vL q (((aBx s 0).take k).map (·.1)).length c] 175,rw_ tkL 3 253 (vL q (((aBx s 0).take k).map (·.1)).length c) (((aBx s 0).take k).map (·.1))]∧∀ x∈(aBx s 0).take k,x.2=0) (fun Mk=>∃ c x,Mk=[bk b4 #[vL none 0 0] 175,bk b5 #[vI c] 31,bk b6 #[vI x] 3]∧aE5 (aBx s 0)=some (c,x)) hM ⟨none,0,rfl,fun x h=>by cases h⟩ (enters_of Tryz.func175 (by kernel_rfl) rfl) (aGy (by omega)) (fun G W hG f=>⟨f.obj hT.t id,f.obj hT.f id,hT.c.imp fun cs h=>⟨f.obj h.1 id,h.2⟩,fun h=>(hG _ h).elim hnt9 (fun h=>Nat.lt_irrefl _ (Nat.lt_of_lt_of_le (aAg hT.t) h)),fun h=>(hG _ h).elim hnf9 (fun h=>Nat.lt_irrefl _ (Nat.lt_of_lt_of_le (aAg hT.f) h)),fun h=>(hG _ h).elim hnc9 (fun h=>Nat.lt_irrefl _ (Nat.lt_of_lt_of_le (aAg hT.c.choose_spec.1) h))⟩) (vsz (ps:=#[12]) rfl) ?_ ?_ ?_)
  · skip
    intro k v Mk W l hv hI hfW hM;obtain ⟨q,c,rfl,hz⟩:=hI;obtain ⟨y,hy,rfl⟩:=aPM hv;refine aBD 5 0 6 [] [] 255 (.agg #[vI y.1.1,vS y.1.2.1,vI y.1.2.2,vI y.2]) f0 hM fun aa w1 hM=>aQ0 [(6,vP aa 0),(5,vP b8 0),(4,vP b6 0),(3,vP b5 0),(2,vP b4 0)] f0 fun a E=>⟨_,_,E,hM,fun W2 l2 R2 hf2 hM hE=>?_⟩;refine seg 6 4 [(13,vB (!(y.2==0)))] (fc (ldm 31 5 3 hM rfl rfl) f0) ?_;cases h11:(y.2==0)
    ·have ab:=ef h11;refine seg 7 0 [] f0 (drx [5,6,7] (fun γ=>[none,none,none]) _ (fun γ l=>[bk b4 #[(bif l.getD 0 false then vL none 0 0 else vL none 0 0)] 175,bk b5 #[(bif l.getD 1 false then vI y.2 else vI 0)] 31,bk b6 #[(bif l.getD 2 false then vI y.1.2.2 else vI 0)] 3,bk b8 #[vL q (((aBx s 0).take k).map (·.1)).length c] 175,rw_ tkL 3 253 (vL q (((aBx s 0).take k).map (·.1)).length c) (((aBx s 0).take k).map (·.1)),bk aa #[vI y.1.1,vS y.1.2.1,vI y.1.2.2,vI y.2] 255]) (fun γ=>[]) hM (fun γ=>rfl) (fun γ l w5 hM=>(fc (ldm 31 5 3 hM rfl rfl) (fc (ldm 3 5 2 hM rfl rfl) f0))) ⟨aA6 0 5 175 0 0 (fun γ=>b4) (fun γ l=>#[(bif l.getD 0 false then vL none 0 0 else vL none 0 0)]) 175 (fun γ=>vL none 0 0),aA6 1 6 31 1 0 (fun γ=>b5) (fun γ l=>#[(bif l.getD 1 false then vI y.2 else vI 0)]) 31 (fun γ=>vI y.2),aA6 2 7 3 2 0 (fun γ=>b6) (fun γ l=>#[(bif l.getD 2 false then vI y.1.2.2 else vI 0)]) 3 (fun γ=>vI y.1.2.2),trivial⟩ fun af w1 hM=>?_);replace hM:Mm (BlM [bk b4 #[vL none 0 0] 175,bk b5 #[vI 0] 31,bk b6 #[vI 0] 3,bk b8 #[vL q (((aBx s 0).take k).map (·.1)).length c] 175,rw_ tkL 3 253 (vL q (((aBx s 0).take k).map (·.1)).length c) (((aBx s 0).take k).map (·.1)),bk aa #[vI y.1.1,vS y.1.2.1,vI y.1.2.2,vI y.2] 255]) W2 w1 [bk b4 #[vL none 0 0] 175,bk b5 #[vI y.2] 31,bk b6 #[vI y.1.2.2] 3,bk b8 #[vL q (((aBx s 0).take k).map (·.1)).length c] 175,_,bk aa #[vI y.1.1,vS y.1.2.1,vI y.1.2.2,vI y.2] 255]:=hM;exact aUb [] f0 fun a E=>hE.ret a _ _ ⟨y.2,y.1.2.2,rfl,aSn hy hz ab⟩ (hM.pick [0,1,2])
    have ab:=et h11;refine seg 8 4 [(22,vB (((((aBx s 0).take k).map (·.1)).length:Int)==5000))] (fc (ldm 175 3 0 hM rfl rfl) f0) ?_;cases h13:(((((aBx s 0).take k).map (·.1)).length:Int)==5000)
    ·have ac:=ef h13;refine aAn 10 3 32 [(29,vL q (((aBx s 0).take k).map (·.1)).length c),(31,.agg #[vI y.1.1,vS y.1.2.1,vI y.1.2.2])] (cs:=#[vI y.1.1,vS y.1.2.1,vI y.1.2.2]) (T:=253) (v:=fun b=>vL (some ⟨b,0,none⟩) 1 1) (fc (ldm 175 3 0 hM rfl rfl) (fc (lam 253 5 0 3 hM rfl) f0)) hM fun ag w1 hM=>aKP 10 4 33 [] (cap:=1) (by decide) tkT f0 hM (j:=4) rfl (aAE (f:=tkL) (x:=y.1) (hM.get 6 rfl) (Nat.lt_succ_self _)) (fun h=>by cases h) (by simp only [List.length_map,List.length_take,List.length_cons,List.length_nil];have:=aJB (s:=s);omega) fun v15 w1 hM=>?_;obtain ⟨ad,ae,e15,-⟩:=(hM.src (j:=4) rfl tkT.len).op;subst e15;refine stm 10 5 [] 175 3 0 (vL ad ((((aBx s 0).take k).map (·.1))++[y.1]).length ae) f0 hM rfl fun w1 hM=>?_;have hAk:((aBx s 0).take k).map (·.1)++[y.1]=((aBx s 0).take (k+1)).map (·.1):=by rw [gt_ hy,List.map_append];rfl
     rw [hAk] at hM;exact aQ0 [] f0 fun a E=>hE.nrm a _ _ ⟨_,_,rfl,fun x hx=>by rw [gt_ hy] at hx;rcases List.mem_append.1 hx with h | h;exact hz x h;rw [List.mem_singleton] at h;subst h;exact ab⟩ (hM.pick [0,1,2,3,4])
    have ac:=et h13;exfalso;have:=gl hy;have:=aJB (s:=s);rw [List.length_map,List.length_take] at ac;omega
  · skip
    intro Mk w1 hI hM;obtain ⟨k,hk⟩:∃ k,k=(aKV s).length:=⟨_,rfl⟩;rw [←hk] at hI;obtain ⟨q,c,rfl,hz⟩:=hI;refine stm 11 1 [(34,vL q (((aBx s 0).take k).map (·.1)).length c)] 175 0 0 (vL q (((aBx s 0).take k).map (·.1)).length c) (fc (ldm 175 3 0 hM rfl rfl) f0) hM rfl fun w1 hM=>stm 11 2 [] 31 1 0 (vI 0) f0 hM rfl fun w1 hM=>stm 11 3 [] 3 2 0 (vI 0) f0 hM rfl fun w1 hM=>?_;have hM:Mm (fun _=>False) w _ ([bk b4 #[vL q (((aBx s 0).take k).map (·.1)).length c] 175,bk b5 #[vI 0] 31,bk b6 #[vI 0] 3,bk b8 #[vL q (((aBx s 0).take k).map (·.1)).length c] 175,rw_ tkL 3 253 (vL q (((aBx s 0).take k).map (·.1)).length c) (((aBx s 0).take k).map (·.1))]++[dfE _]):=hM;exact aSR 0 1 2 rfl f0 hM rfl rfl rfl (fun w9 hM=>hΦ _ _ ⟨by unfold aRX aNv;rw [aSm (fun x hx=>hz x (by rw [List.take_of_length_le (by rw [hk];unfold aKV;rw [List.length_map];exact Nat.le_refl _)];exact hx))];exact ⟨_,rfl,by have:=hM.nrow (j:=4) rfl;have e9:(aBx s 0).take k=aBx s 0:=List.take_of_length_le (by rw [hk];unfold aKV;rw [List.length_map];exact Nat.le_refl _);rw [e9] at this ⊢;exact this⟩,hM.fr⟩)
  · skip
    intro a Mk w1 hT hM E;obtain ⟨c,x,rfl,hex⟩:=hT;exact (aMz (u:=true) E.df hM fun w9 hM=>⟨_,aOo rfl (E.at_ 2 (vP b4 0) rfl) (E.at_ 3 (vP b5 0) rfl) (E.at_ 4 (vP b6 0) rfl) 0 1 2 rfl rfl rfl (by kernel_rfl) hM,hΦ _ _ ⟨by unfold aRX aNv;rw [hex];exact ⟨_,rfl,rfl⟩,hM.fr⟩⟩).1
theorem aIb (w:World) (e:TypeId) (s:ByteArray):Fr (fun _=>False) w (Lib.bytesWorld w e s):=by
  refine ⟨rfl,rfl,rfl,?_,fun r hr _=>?_⟩
  · simp [Lib.bytesWorld,World.freeze]
  · have hne:w.heap.size≠r:=by omega
    show ((w.drew.alloc _).heap.modify w.heap.size _)[r]?=_;rw [Array.getElem?_modify,if_neg hne];exact (aF5 (by simpa using hr) _)
theorem aSf:∀ (xs:List Bys) (y:Bys) (i:Nat),Lib.idxFromS (xs.map ofL) (ofL y) i=if xs.contains y then ((i+xs.findIdx (· == y):Nat):Int) else -1:=by
  intro xs y
  induction xs with
  | nil=>intro i;rfl
  | cons x xs ih =>
    intro i;simp only [List.map_cons,Lib.idxFromS,aMf,List.contains_cons,List.findIdx_cons]
    by_cases h:x=y
    · subst h;simp
    · rw [if_neg h,ih]
      have e:(y==x)=false:=by simpa using fun e=>h e.symm
      have e2:(x==y)=false:=by simpa using h
      rw [e,e2];simp only [Bool.false_or,cond_false]
      split
      · omega
      · rfl
theorem aMB (xs:List Bys) (y:Bys):Lib.idxOfS (xs.map ofL) (ofL y)=if xs.contains y then ((xs.findIdx (· == y):Nat):Int) else -1:=by
  have:=aSf xs y 0
  rwa [Nat.zero_add] at this
theorem aHT (xs:List Bys) (y:Bys):Lib.containsS (xs.map ofL) (ofL y)=xs.contains y:=by
  unfold Lib.containsS;rw [aMB];cases h:xs.contains y
  · simp
  · rw [if_pos rfl,decide_eq_true (by omega)]
theorem aHx {w:World}{G:Nat}{p:Option Addr}{g off:Nat}{xs:List Bys}(h:aCM stL 1 w G p xs) (hp:p=some ⟨g,off,none⟩):∀ j,j<(xs.map ofL).length→w.cell? ⟨g,off+j,none⟩=some (.string ((xs.map ofL).getD j ByteArray.empty)):=by
  intro j hj;rw [List.length_map] at hj;obtain ⟨g',off',he,_,hs⟩:=h.at hj;rw [hp] at he;cases he;have:=hs j xs[j] (List.getElem?_eq_getElem hj) 0 _ rfl;rw [Nat.mul_one,Nat.add_zero] at this;rw [this];simp [List.getD,List.getElem?_eq_getElem hj]
def Tb (w:World):Prop:=Lib.TabIs Tryz.prog w "internal/strconv.uint64pow10" .u64 Lib.pow10Tab∧Lib.TabIs Tryz.prog w "strings.asciiSpace" .u8 Lib.asciiSpaceTab
theorem aSp:∀ (l:Bys) (acc:Nat),(∀ b∈l,aA5 b=true)→∃ n:Nat,Lib.decFrom acc l=some n∧(n:Int)=l.foldl (fun n b=>10*n+((b.toNat:Int)-48)) (acc:Int):=by
  intro l
  induction l with
  | nil=>intro acc _;exact ⟨acc,rfl,rfl⟩
  | cons c l ih =>
    intro acc h;have hc:=h c List.mem_cons_self
    have h1:48≤c.toNat∧c.toNat≤57:=by
      unfold aA5 at hc;rw [Bool.and_eq_true] at hc;exact ⟨UInt8.le_iff_toNat_le.1 (of_decide_eq_true hc.1),UInt8.le_iff_toNat_le.1 (of_decide_eq_true hc.2)⟩
    obtain ⟨n,h2,h3⟩:=ih (acc*10+(c.toNat-48)) fun b hb=>h b (List.mem_cons_of_mem _ hb);refine ⟨n,?_,?_⟩
    · simp only [Lib.decFrom,Lib.digitVal,h1,and_self,if_true];exact h2
    · rw [h3,List.foldl_cons]
      congr 1;omega
theorem aPe {l:Bys}(h0:l≠[]) (h:∀ b∈l,aA5 b=true):Lib.atoi l=some (aBC l):=by
  obtain ⟨c,r,rfl⟩:=List.exists_cons_of_ne_nil h0;have hc:=h c List.mem_cons_self
  have h1:48≤c.toNat∧c.toNat≤57:=by
    unfold aA5 at hc;rw [Bool.and_eq_true] at hc;exact ⟨UInt8.le_iff_toNat_le.1 (of_decide_eq_true hc.1),UInt8.le_iff_toNat_le.1 (of_decide_eq_true hc.2)⟩
  have e1:(c==45)=false:=by
    rw [beq_eq_false_iff_ne];rintro rfl;simp at h1
  have e2:(c==43)=false:=by
    rw [beq_eq_false_iff_ne];rintro rfl;simp at h1
  obtain ⟨n,h2,h3⟩:=aSp (c::r) 0 h;unfold Lib.atoi;simp only [e1,e2,Bool.false_eq_true,if_false];unfold Lib.decNat;simp only [List.isEmpty_cons,Bool.false_eq_true,if_false,h2,Option.map_some,Option.some.injEq];rw [h3];rfl
theorem aRP {l:Bys}(h:∀ b∈l,aA5 b=true) (hl:l.length≤7):aBC l≤9999999:=by
  have:∀ (l:Bys) (n:Int),0≤n→(∀ b∈l,aA5 b=true)→l.foldl (fun n b=>10*n+((b.toNat:Int)-48)) n≤(n+1)*10 ^ l.length-1:=by
    intro l
    induction l with
    | nil=>intro n _ _;simp
    | cons c l ih =>
      intro n hn hd;have hc:=hd c List.mem_cons_self
      have h1:48≤c.toNat∧c.toNat≤57:=by
        unfold aA5 at hc;rw [Bool.and_eq_true] at hc;exact ⟨UInt8.le_iff_toNat_le.1 (of_decide_eq_true hc.1),UInt8.le_iff_toNat_le.1 (of_decide_eq_true hc.2)⟩
      have:=ih (10*n+((c.toNat:Int)-48)) (by omega) fun b hb=>hd b (List.mem_cons_of_mem _ hb);rw [List.foldl_cons];refine Int.le_trans this ?_;rw [List.length_cons,Int.pow_succ];have hp:(0:Int)<10 ^ l.length:=Int.pow_pos (by omega);have:(10*n+((c.toNat:Int)-48)+1)*10 ^ l.length≤((n+1)*10)*10 ^ l.length:=Int.mul_le_mul_of_nonneg_right (by omega) (Int.le_of_lt hp);have e:(n+1)*(10 ^ l.length*10)=((n+1)*10)*10 ^ l.length:=by rw [Int.mul_comm (10 ^ l.length),Int.mul_assoc]
      omega
  have h1:=this l 0 (Int.le_refl _) h
  have h2:(10:Int) ^ l.length≤10 ^ 7:=by
    have:(10:Nat) ^ l.length≤10 ^ 7:=Nat.pow_le_pow_right (by omega) hl
    exact_mod_cast this
  simp only [Int.zero_add,Int.one_mul] at h1;have e:(10:Int) ^ 7=10000000:=by decide
  unfold aBC;omega
def aJX (w:World) (b:Nat):Prop:=w.heap[b]?=some (.cells (aHR.map fun l=>Value.string (ofL l)).toArray 9 (0,0))
theorem aJX.st {w:World}{b:Nat}(h:aJX w b):StV w (.slice (some ⟨b,0,none⟩) 7 7) aHR:=⟨_,7,rfl,Nat.le_refl _,by omega,.inr ⟨b,0,rfl,aAg h,fun i z hz j u hu=>by
  rw [aAt h]
  have hj:j=0:=by
    have:=(List.getElem?_eq_some_iff.1 hu).1;simp [stL] at this;exact this
  subst hj;simp only [stL,List.getElem?_cons_zero,Option.some.injEq] at hu;subst hu;simp [hz]⟩,fun h=>by cases h⟩
theorem aDB {α:Type}(l:List α):l.isEmpty=((l.length:Int)==0):=by
  cases l with
  | nil=>rfl
  | cons x l =>
    have h:¬ (((x::l).length:Int)=0):=by simp only [List.length_cons];omega
    rw [beq_eq_false_iff_ne.2 h];rfl
theorem aMi {t:Tok Int}(h:aIz t) (hk:t.1=2):t.2.1≠[]∧(∀ b∈t.2.1,aA5 b=true)∧t.2.1.length≤7∧0≤aBC t.2.1∧aBC t.2.1≤9999999:=by
  rcases h with ⟨h,_⟩ | ⟨h,h0,h1,h2⟩ | h | ⟨h,_⟩
  · omega
  · exact ⟨h0,h2,h1,aMj _ 0 (Int.le_refl _) h2,aRP h2 h1⟩
  · omega
  · omega
theorem aFp (l:Bys):(l.length != 2)=((l.length:Int) != 2):=by
  by_cases h:l.length=2
  · rw [h];rfl
  · rw [bne_iff_ne.2 h,bne_iff_ne.2 (by omega)]
theorem aB7 {w:World}{v:Value}{xs:List Bys}{y:Bys}(h:StV w v xs):Calls Tryz.prog 51 #[v,vS y] w fun e w'=>e = .returned (vB (xs.contains y))∧Fr (fun _=>False) w w':=by
  obtain ⟨p,c,rfl,h1,h2,h3,h4⟩:=h
  by_cases hx:xs=[]
  · subst hx
    exact (Tryz.slices_Contains_string_empty p c (ofL y) w).mono fun e w' h=>⟨h.1,by rw [h.2];exact Fr.refl _ _⟩
  · obtain ⟨g,off,rfl,_,_⟩:=h3.resolve_left hx
    refine (Tryz.slices_Contains_string g off xs.length c (xs.map ofL) (ofL y) w (by simp) (by omega) (aHx h3 rfl)).mono fun e w' h=>⟨?_,by rw [h.2];exact Fr.refl _ _⟩;rw [h.1,List.take_of_length_le (by simp),aHT]
theorem aFu {w:World}{v:Value}{xs:List Bys}{y:Bys}(h:StV w v xs) (hy:y∈xs):Calls Tryz.prog 96 #[v,vS y] w fun e w'=>e = .returned (vI ((xs.findIdx (· == y):Nat):Int))∧Fr (fun _=>False) w w':=by
  obtain ⟨p,c,rfl,h1,h2,h3,h4⟩:=h;have hx:xs≠[]:=List.ne_nil_of_mem hy;obtain ⟨g,off,rfl,_,_⟩:=h3.resolve_left hx;refine (Tryz.slices_Index_string g off xs.length c (xs.map ofL) (ofL y) w (by simp) (by omega) (aHx h3 rfl)).mono fun e w' h=>⟨?_,by rw [h.2];exact Fr.refl _ _⟩;rw [h.1,List.take_of_length_le (by simp),aMB,if_pos (by simpa using hy)]
abbrev aHh (c x:Int):Value := .iface 179 (.agg #[vI c,vI x])
abbrev pn (c x:Int):List PanicEntry:=[{ v:=aHh c x,recovered:=false }]
theorem aPS {B cap:Nat}{p:Option Addr}{t:Tok Int}{l:List (Tok Int)}{w:World}(hs:SrcB tkL 3 w B p cap (t::l)):∃ p',(∀ w1,SrcB tkL 3 w1 B p cap (t::l)→SrcB tkL 3 w1 B p' (cap-1) l)∧∀ w2,Ft.ok Tryz.prog w2 (.g2 (fun x a => .slice 175 x (some a) none none) (vL p (t::l).length cap) (vI 1) (vL p' l.length (cap-1))):=by
  have hle:l.length+1≤cap:=hs.le
  obtain ⟨g,off,rfl⟩:∃ g off,p=some ⟨g,off,none⟩:=by
    rcases hs.at_ with h | ⟨g,off,h,_⟩
    · cases h
    · exact ⟨g,off,h⟩
  have h1:(1:Int)≤((l.length+1:Nat):Int):=by omega
  have h2:((l.length+1:Nat):Int)≤cap:=by omega
  by_cases h3:cap=1
  · subst h3
    obtain rfl:l=[]:=List.eq_nil_of_length_eq_zero (by omega);refine ⟨some ⟨g,off,none⟩,fun w1 h=>⟨Nat.zero_le _,by omega,.inl rfl,fun h=>by cases h⟩,fun w2 o ρ x a ho hx ha=>by simp [execOp,ho,hx,ha,go_sem,Addr.add]⟩
  · refine ⟨some ⟨g,off+3,none⟩,fun w1 h=>⟨by have:l.length+1≤cap:=h.le;omega,Nat.le_trans (Nat.sub_le _ _) h.ca,?_,fun h=>by cases h⟩,fun w2 o ρ x a ho hx ha=>?_⟩
    · rcases h.at_ with h | ⟨g',off',he,hg,hs⟩
      · cases h
      · cases he
        refine .inr ⟨g,off+3,rfl,hg,fun i t ht=>?_⟩;have:=hs (i+1) t ht
        rwa [show off+(i+1)*3=off+3+i*3 by omega] at this
    · have h1':(1:Int)≤(l.length:Int)+1:=by omega
      have h2':(l.length:Int)+1≤cap:=by omega
      simp [execOp,ho,hx,ha,go_sem,h1',h2',h3,Addr.add]
def aAl (B:Nat) (p:Option Addr) (c:Nat) (ts:List (Tok Int)) (p':Option Addr) (c':Nat) (l:List (Tok Int)):Prop:=∀ w1,SrcB tkL 3 w1 B p c ts→SrcB tkL 3 w1 B p' c' l
def aBf (β:Type) (w:World) (G:Nat→Prop) (B rb:Nat) (en:Int) (sv:Value) (p:Option Addr) (c:Nat) (ts:List (Tok Int)) (val:β→Value) (r:Res Int (β×List (Tok Int))) (e:Ending) (w':World):Prop:=match r with
  | .error (cc,x)=>e = .panicked (pn cc x)∧Fr G w w'
  | .ok (b,l)=>e = .returned (val b)∧∃ p' c',aAl B p c ts p' c' l∧Mm G w w' [bk rb #[vL p' l.length c',vI en,sv] 184]
theorem aLI {w:World}{B rb c:Nat}{p:Option Addr}{en k:Int}{t:Tok Int}{l:List (Tok Int)}{sv xv:Value}{xs:List Bys}(hrb:w.heap[rb]?=some (.cells #[vL p (t::l).length c,vI en,sv] 184 (0,0))) (hs:SrcB tkL 3 w B p c (t::l)) (hx:StV w xv xs):Calls Tryz.prog 132 #[vP rb 0,vI k,xv] w fun e w'=>e = .returned (vB (aCt k xs (t::l)))∧Fr (fun _=>False) w w':=by
  have hx0:=hx;obtain ⟨px,cpx,hpx,spx⟩:=hx.op;subst hpx;have bpx:=spx.bnd;refine beg Tryz.func132 rfl rfl [(0,vP rb 0),(1,vI k),(2,vL px xs.length cpx)] rfl rfl fun Φ hΦ=>?_;have hM:=Mm.nil (fun _=>False) w;refine seg 1 7 [(13,vB (decide (0<((t::l).length:Int))))] (fc (ld0 175 hM (bx hrb 0 rfl)) f0) ?_;cases h1:(decide (0<((t::l).length:Int)))
  ·have rh1:=df h1;exfalso;have:0<(t::l).length:=Nat.zero_lt_succ _;omega
  have rh1:=dt h1;obtain ⟨t9,ht9,g2,o2,q2,r2,n2⟩:=(hs).eb (fun k (h:False)=>h.elim) (i:=0) (by omega);have e9:t=t9:=Option.some.inj ht9;subst e9;refine seg 1 18 [(24,vB (t.1==k))] (fc (ld0 175 hM (bx hrb 0 rfl)) (fc (ix 175 c q2 (gl ht9)) (fc (ld0 3 hM (r2 0 _ rfl) n2) f0))) ?_;cases h3:(t.1==k)
  ·have rh3:=ef h3;exact rt1 6 (vB false) rfl f0 (hΦ _ _ ⟨by unfold aCt;rw [aDB];simp only [h3]<;>rfl,hM.fr⟩)
  have rh3:=et h3;refine seg 1 22 [(28,vB ((xs.length:Int)==0))] f0 ?_;cases h4:((xs.length:Int)==0)
  ·have rh4:=ef h4;refine aAq 1 30 37 [(29,vL px xs.length cpx),(36,vS t.2.1)] (fc (ld0 175 hM (bx hrb 0 rfl)) (fc (ix 175 c q2 (gl ht9)) (fc (ld0 9 hM (r2 1 _ rfl) n2) f0))) hM (aB7 (y:=t.2.1) (hx0.fr hM.fr)) fun w1 hM=>rt1 6 (vB (xs.contains t.2.1)) rfl f0 (hΦ _ _ ⟨by unfold aCt;rw [aDB];simp only [h3,h4]<;>rfl,hM.fr⟩)
  have rh4:=et h4;exact rt1 6 (vB true) rfl f0 (hΦ _ _ ⟨by unfold aCt;rw [aDB];simp only [h3,h4]<;>rfl,hM.fr⟩)
theorem aOd {w:World}{rb c:Nat}{p:Option Addr}{en k:Int}{sv xv:Value}{xs:List Bys}(hrb:w.heap[rb]?=some (.cells #[vL p 0 c,vI en,sv] 184 (0,0))) (hx:StV w xv xs):Calls Tryz.prog 132 #[vP rb 0,vI k,xv] w fun e w'=>e = .returned (vB (aCt k xs ([]:List (Tok Int))))∧Fr (fun _=>False) w w':=by
  obtain ⟨px,cpx,hpx,spx⟩:=hx.op;subst hpx;have bpx:=spx.bnd;refine beg Tryz.func132 rfl rfl [(0,vP rb 0),(1,vI k),(2,vL px xs.length cpx)] rfl rfl fun Φ hΦ=>?_;have hM:=Mm.nil (fun _=>False) w;exact rt1 6 (vB false) rfl (fc (ld0 175 hM (bx hrb 0 rfl)) f0) (hΦ _ _ ⟨rfl,hM.fr⟩)
theorem aBc {w:World}{B rb c:Nat}{p:Option Addr}{en:Int}{ts:List (Tok Int)}{sv xv:Value}{xs:List Bys}(hrb:w.heap[rb]?=some (.cells #[vL p ts.length c,vI en,sv] 184 (0,0))) (hs:SrcB tkL 3 w B p c ts) (hx:StV w xv xs) (k:Int):Calls Tryz.prog 132 #[vP rb 0,vI k,xv] w fun e w'=>e = .returned (vB (aCt k xs ts))∧Fr (fun _=>False) w w':=by
  cases ts with
  | nil=>exact aOd hrb hx
  | cons t l=>exact aLI hrb hs hx
theorem aNO {w:World}{G:Nat→Prop}{B rb c:Nat}{p:Option Addr}{en k:Int}{sv xv:Value}{xs:List Bys}(hM0:Mm G w w [bk rb #[vL p 0 c,vI en,sv] 184]) (hx:StV w xv xs):Calls Tryz.prog 133 #[vP rb 0,vI k,xv] w fun e w'=>aBf (Tok Int) w G B rb en sv p c [] (fun t=>vA (tkL t)) (take en k xs []) e w':=by
  have hx0:=hx;obtain ⟨px,cpx,hpx,spx⟩:=hx.op;subst hpx;have bpx:=spx.bnd;refine beg Tryz.func133 rfl rfl [(0,vP rb 0),(1,vI k),(2,vL px xs.length cpx)] rfl rfl fun Φ hΦ=>?_;have hM:=hM0;refine aAn 0 0 6 [] (cs:=#[vI 0,vS [],vI 0]) (T:=253) (v:=fun b=>vP b 0) f0 hM fun b5 w1 hM=>pan 2 6 [(19,aHh 6 en)] 179 (.agg #[vI 6,vI en]) (fc (ldm 175 0 0 hM rfl rfl) (fc (ldm 3 0 1 hM rfl rfl) f0)) hM (fun a f9 hd=>pn_ (P:=Tryz.prog) (fn:=Tryz.f133) hd (hΦ _ _ (⟨rfl,f9⟩)))
theorem aL0 {w:World}{G:Nat→Prop}{B rb c:Nat}{p:Option Addr}{en k:Int}{sv xv:Value}{xs:List Bys}{t:Tok Int}{l:List (Tok Int)}(hM0:Mm G w w [bk rb #[vL p (t::l).length c,vI en,sv] 184]) (hs:SrcB tkL 3 w B p c (t::l)) (hG:∀ k,G k→B≤k) (hx:Apt stL 1 G w xv xs):Calls Tryz.prog 133 #[vP rb 0,vI k,xv] w fun e w'=>aBf (Tok Int) w G B rb en sv p c (t::l) (fun t=>vA (tkL t)) (take en k xs (t::l)) e w':=by
  have hx0:=hx;have hx:=hx w (Fr.refl _ _);obtain ⟨px,cpx,hpx,spx⟩:=hx.op;subst hpx;have bpx:=spx.bnd;refine beg Tryz.func133 rfl rfl [(0,vP rb 0),(1,vI k),(2,vL px xs.length cpx)] rfl rfl fun Φ hΦ=>?_;have hM:=hM0;obtain ⟨pq,htl,hft⟩:=aPS hs;refine aAn 0 0 6 [] (cs:=#[vI 0,vS [],vI 0]) (T:=253) (v:=fun b=>vP b 0) f0 hM fun b6 w1 hM=>seg 1 6 [(13,vB (((t::l).length:Int)==0))] (fc (ldm 175 0 0 hM rfl rfl) f0) ?_;cases h7:(((t::l).length:Int)==0)
  rotate_left
  ·have rh7:=et h7;exfalso;have:0<(t::l).length:=Nat.zero_lt_succ _;omega
  have rh7:=ef h7;obtain ⟨t9,ht9,g8,o8,q8,r8,n8⟩:=(hs).eb hG (i:=0) (by omega);have e9:t=t9:=Option.some.inj ht9;subst e9;refine aBD 3 6 7 [(25,.agg #[vI t.1,vS t.2.1,vI t.2.2])] [] 253 (.agg #[vI t.1,vS t.2.1,vI t.2.2]) (fc (ldm 175 0 0 hM rfl rfl) (fc (ix 175 c q8 (gl ht9)) (fc (la0 253 hM r8 n8) f0))) hM fun b9 w1 hM=>aAq 4 3 29 [(26,vP rb 0),(27,vI k),(28,vL px xs.length cpx)] f0 hM (aBc (hM.get 0 rfl) (aAB hs hM.fr hG) (hx0 _ hM.fr) k) fun w1 hM=>seg 4 5 [(30,vB (!(aCt k xs (t::l))))] f0 ?_;cases h10:(aCt k xs (t::l))
  ·exact pan 5 4 [(34,aHh 5 t.2.2)] 179 (.agg #[vI 5,vI t.2.2]) (fc (ldm 3 2 2 hM rfl rfl) f0) hM (fun a f9 hd=>pn_ (P:=Tryz.prog) (fn:=Tryz.f133) hd (hΦ _ _ (by unfold take;simp only;rw [if_neg (by rw [h10];simp)];exact ⟨rfl,f9⟩)))
  refine stm 6 8 [(40,vL pq l.length (c-1)),(42,vP rb 0)] 175 0 0 (vL pq l.length (c-1)) (fc (ldm 175 0 0 hM rfl rfl) (fc (hft _) f0)) hM rfl fun w1 hM=>stm 7 1 [(43,.agg #[vI t.1,vS t.2.1,vI t.2.2])] 253 1 0 (.agg #[vI t.1,vS t.2.1,vI t.2.2]) (fc (lam 253 2 0 3 hM rfl) f0) hM rfl fun w1 hM=>?_;have hM:Mm G w w1 [bk rb #[vL pq l.length (c-1),vI en,sv] 184,bk b6 #[vI t.1,vS t.2.1,vI t.2.2] 253,bk b9 #[vI t.1,vS t.2.1,vI t.2.2] 253]:=hM;exact rtc 6 253 rfl (aDV (T:=253) (l:=tkL t) (by kernel_rfl) (fun j u hu=>bx (hM.get 1 rfl) (0+j) (by rw [Nat.zero_add];simpa [tkL] using hu))) f0 (hΦ _ _ (by unfold take;simp only;rw [if_pos h10];exact ⟨rfl,_,_,htl,hM.pick [0]⟩))
theorem aAj {w:World}{G:Nat→Prop}{B rb c:Nat}{p:Option Addr}{en:Int}{ts:List (Tok Int)}{sv xv:Value}{xs:List Bys}(hM0:Mm G w w [bk rb #[vL p ts.length c,vI en,sv] 184]) (hs:SrcB tkL 3 w B p c ts) (hG:∀ k,G k→B≤k) (hx:Apt stL 1 G w xv xs) (k:Int):Calls Tryz.prog 133 #[vP rb 0,vI k,xv] w (aBf (Tok Int) w G B rb en sv p c ts (fun t=>vA (tkL t)) (take en k xs ts)):=by
  cases ts with
  | nil=>exact aNO hM0 (hx w (Fr.refl _ _))
  | cons t l=>exact aL0 hM0 hs hG hx
theorem StV.one {w:World}{b:Nat}{s:Bys}(h:w.heap[b]?=some (.cells #[vS s] 9 (0,0))):StV w (vL (some ⟨b,0,none⟩) 1 1) [s]:=⟨_,1,rfl,Nat.le_refl _,by omega,aAE (f:=stL) h (aAg h),fun h=>by cases h⟩
theorem aIH {w:World}(hT:Tb w):Calls Tryz.prog 177 #[] w fun e w'=>∃ b,e = .returned (vL (some ⟨b,0,none⟩) 7 7)∧aJX w' b∧w.heap.size≤b∧Fr (fun _=>False) w w':=by
  have hfe:Lib.fields (ofL [109,111,32,116,117,32,119,101,32,116,104,32,102,114,32,115,97,32,115,117]).data.toList=aHR:=by decide +kernel
  have hF:=Tryz.strings_Fields (ofL [109,111,32,116,117,32,119,101,32,116,104,32,102,114,32,115,97,32,115,117]) w (by decide +kernel) (by
    intro j b hb;have:∀ b∈(ofL [109,111,32,116,117,32,119,101,32,116,104,32,102,114,32,115,97,32,115,117]).data.toList,b.toNat<128:=by decide +kernel
    exact this b (List.mem_of_getElem? hb)) hT.2
  rw [hfe] at hF;refine beg Tryz.func177 rfl rfl [] rfl rfl fun Φ hΦ=>?_;have hM:=Mm.nil (fun _=>False) w;refine cal 1 0 1 [] (K:=fun u w8=>∃ b,u=vL (some ⟨b,0,none⟩) 7 7∧aJX w8 b∧w.heap.size≤b∧Fr (fun _=>False) w w8) f0 (hF.mono fun e w8 h=>by obtain ⟨rfl,rfl⟩:=h;exact ⟨_,rfl,_,rfl,aAQ _ _,Nat.le_refl _,(Fr.refl _ _).alloc _⟩) fun u w1 ⟨bd,hu,hbd,hbn,f1⟩=>?_;subst hu;have hM:=hM.q f1;exact rt1 0 (vL (some ⟨bd,0,none⟩) 7 7) rfl f0 (hΦ _ _ ⟨_,rfl,hbd,hbn,hM.fr⟩)
theorem aAN (t:Tok Int) (h0:t.2.1≠[]) (hd:∀ b∈t.2.1,aA5 b=true) (hl:t.2.1.length≤7) (w:World):Calls Tryz.prog 228 #[vA (tkL t)] w fun e w'=>e = .returned (vI (aBC t.2.1))∧Fr (fun _=>False) w w':=by
  refine beg Tryz.func228 rfl rfl [(0,.agg #[vI t.1,vS t.2.1,vI t.2.2])] rfl rfl fun Φ hΦ=>?_;have hM:=Mm.nil (fun _=>False) w;refine aAn 0 0 1 [] (cs:=#[vI t.1,vS t.2.1,vI t.2.2]) (T:=253) (v:=fun b=>vP b 0) f0 hM fun b1 w1 hM=>aAq 1 2 8 [(7,vS t.2.1)] (fc (ldm 9 0 1 hM rfl rfl) f0) hM ((Tryz.strconv_Atoi (ofL t.2.1) (aBC t.2.1) (by rw [aBk];omega) (by rw [show (ofL t.2.1).data.toList=t.2.1 from by simp [ofL]];exact aPe h0 hd) _).mono fun e w8 h=>by obtain ⟨rfl,t9,rfl⟩:=h;exact ⟨rfl,aIb _ _ _⟩) fun w1 hM=>rt1 2 (vI (aBC t.2.1)) rfl f0 (hΦ _ _ ⟨rfl,hM.fr⟩)
theorem aAZ {w:World}{G:Nat→Prop}{B rb c:Nat}{p:Option Addr}{en:Int}{ts:List (Tok Int)}{sv:Value}{most:Int}(hM0:Mm G w w [bk rb #[vL p ts.length c,vI en,sv] 184]) (hs:SrcB tkL 3 w B p c ts) (hG:∀ k,G k→B≤k) (hk:Tk ts):Calls Tryz.prog 178 #[vP rb 0,vI most] w fun e w'=>aBf (Int×Int) w G B rb en sv p c ts (fun r => .tuple #[vI r.1,vI r.2]) (clock en most ts) e w':=by
  refine beg Tryz.func178 rfl rfl [(0,vP rb 0),(1,vI most)] rfl rfl fun Φ hΦ=>?_;have hM:=hM0;have hrB:B≤rb:=hG rb (hM0.own _ (.head _) rb rfl (aAg (hM0.get 0 rfl)));have hB0:aAl B p c ts p c ts:=fun _ h=>h;rcases htk2:take en 2 ([]:List Bys) ts with ⟨c2,x2⟩ | ⟨t2,l2⟩
  · exact aKM 1 3 11 [(10,vP rb 0)] [0] f0 hM rfl (by decide) (fun hm=>(aAj (xs:=([]:List Bys)) hm (aAB hs hM.fr hG) (fun k h=>by rw [aDH (b:=rb) rfl h];exact hrB) aBG 2).mono fun e w8 h=>by unfold aBf at h;rw [htk2] at h;exact h) (fun a w9 f9 hd=>pn_ (P:=Tryz.prog) (fn:=Tryz.f178) hd (hΦ _ _ ((by unfold clock;rw [htk2];(try simp only);exact ⟨rfl,f9⟩))))
  refine aB3 1 3 11 [(10,vP rb 0)] (K:=fun u Mn=>u=vA (tkL t2)∧∃ p' c',aAl B p c ts p' c' l2∧Mn=[bk rb #[vL p' l2.length c',vI en,sv] 184]) [] [0] f0 hM rfl rfl (by decide) (fun hm=>(aAj (xs:=([]:List Bys)) hm (aAB hs hM.fr hG) (fun k h=>by rw [aDH (b:=rb) rfl h];exact hrB) aBG 2).mono fun e w8 h=>by unfold aBf at h;rw [htk2] at h;obtain ⟨h1,p',c',h2,h3⟩:=h;exact ⟨_,_,h1,⟨rfl,p',c',h2,rfl⟩,h3⟩) fun u Mn w1 hK hM=>?_;obtain ⟨rfl,p2,cc2,hb2,rfl⟩:=hK;have hs2:=hb2 _ hs;have hB2:aAl B p c ts p2 cc2 l2:=fun w1 h=>hb2 w1 (hB0 w1 h);obtain ⟨hto2,hkd2,hk⟩:=aAD hk htk2;have hin2:=(aAv htk2).2.2;have hnt2:=aMi hto2 hkd2;refine aBD 1 4 6 [] [] 253 (.agg #[vI t2.1,vS t2.2.1,vI t2.2.2]) f0 hM fun b3 w1 hM=>aAq 2 1 13 [(12,.agg #[vI t2.1,vS t2.2.1,vI t2.2.2])] (fc (lam 253 1 0 3 hM rfl) f0) hM (aAN t2 hnt2.1 hnt2.2.1 hnt2.2.2.1 _) fun w1 hM=>seg 2 4 [(15,vB (decide (most<(aBC t2.2.1))))] f0 ?_;cases h4:(decide (most<(aBC t2.2.1)))
  rotate_left
  ·have rh4:=dt h4;exact pan 3 4 [(19,aHh 10 t2.2.2)] 179 (.agg #[vI 10,vI t2.2.2]) (fc (ldm 3 1 2 hM rfl rfl) f0) hM (fun a f9 hd=>pn_ (P:=Tryz.prog) (fn:=Tryz.f178) hd (hΦ _ _ ((by unfold clock;rw [htk2];(try simp only);rw [if_pos (of_decide_eq_true h4)];(try simp only);exact ⟨rfl,f9⟩))))
  have rh4:=df h4;refine aAn 4 3 23 [(22,vP rb 0)] (cs:=#[vS [58]]) (T:=9) (v:=fun b=>vL (some ⟨b,0,none⟩) 1 1) f0 hM fun b5 w1 hM=>?_;rcases htk6:take en 4 [aIa] l2 with ⟨c6,x6⟩ | ⟨t6,l6⟩
  · exact aKM 4 4 24 [] [0] f0 hM rfl (by decide) (fun hm=>(aAj (xs:=[aIa]) hm (aAB hs2 hM.fr hG) (fun k h=>by rw [aDH (b:=rb) rfl h];exact hrB) (aD4 (hM.get 2 rfl) (hM.notin (i:=2) (js:=[0]) rfl rfl (by decide)) fun w9 h=>StV.one h) 4).mono fun e w8 h=>by unfold aBf at h;rw [htk6] at h;exact h) (fun a w9 f9 hd=>pn_ (P:=Tryz.prog) (fn:=Tryz.f178) hd (hΦ _ _ ((by unfold clock;rw [htk2];(try simp only);rw [if_neg (of_decide_eq_false h4)];(try simp only);rw [htk6];(try simp only);exact ⟨rfl,f9⟩))))
  refine aB3 4 4 24 [] (K:=fun u Mn=>u=vA (tkL t6)∧∃ p' c',aAl B p2 cc2 l2 p' c' l6∧Mn=[bk rb #[vL p' l6.length c',vI en,sv] 184]) [1,2] [0] f0 hM rfl rfl (by decide) (fun hm=>(aAj (xs:=[aIa]) hm (aAB hs2 hM.fr hG) (fun k h=>by rw [aDH (b:=rb) rfl h];exact hrB) (aD4 (hM.get 2 rfl) (hM.notin (i:=2) (js:=[0]) rfl rfl (by decide)) fun w9 h=>StV.one h) 4).mono fun e w8 h=>by unfold aBf at h;rw [htk6] at h;obtain ⟨h1,p',c',h2,h3⟩:=h;exact ⟨_,_,h1,⟨rfl,p',c',h2,rfl⟩,h3⟩) fun u Mn w1 hK hM=>?_;obtain ⟨rfl,p6,cc6,hb6,rfl⟩:=hK;have hs6:=hb6 _ hs2;have hB6:aAl B p c ts p6 cc6 l6:=fun w1 h=>hb6 w1 (hB2 w1 h);obtain ⟨hto6,hkd6,hk⟩:=aAD hk htk6;have hin6:=(aAv htk6).2.2;rcases htk7:take en 2 ([]:List Bys) l6 with ⟨c7,x7⟩ | ⟨t7,l7⟩
  · exact aKM 5 3 28 [(27,vP rb 0)] [2] f0 hM rfl (by decide) (fun hm=>(aAj (xs:=([]:List Bys)) hm (aAB hs6 hM.fr hG) (fun k h=>by rw [aDH (b:=rb) rfl h];exact hrB) aBG 2).mono fun e w8 h=>by unfold aBf at h;rw [htk7] at h;exact h) (fun a w9 f9 hd=>pn_ (P:=Tryz.prog) (fn:=Tryz.f178) hd (hΦ _ _ ((by unfold clock;rw [htk2];(try simp only);rw [if_neg (of_decide_eq_false h4)];(try simp only);rw [htk6];(try simp only);rw [htk7];(try simp only);exact ⟨rfl,f9⟩))))
  refine aB3 5 3 28 [(27,vP rb 0)] (K:=fun u Mn=>u=vA (tkL t7)∧∃ p' c',aAl B p6 cc6 l6 p' c' l7∧Mn=[bk rb #[vL p' l7.length c',vI en,sv] 184]) [0,1] [2] f0 hM rfl rfl (by decide) (fun hm=>(aAj (xs:=([]:List Bys)) hm (aAB hs6 hM.fr hG) (fun k h=>by rw [aDH (b:=rb) rfl h];exact hrB) aBG 2).mono fun e w8 h=>by unfold aBf at h;rw [htk7] at h;obtain ⟨h1,p',c',h2,h3⟩:=h;exact ⟨_,_,h1,⟨rfl,p',c',h2,rfl⟩,h3⟩) fun u Mn w1 hK hM=>?_;obtain ⟨rfl,p7,cc7,hb7,rfl⟩:=hK;have hs7:=hb7 _ hs6;have hB7:aAl B p c ts p7 cc7 l7:=fun w1 h=>hb7 w1 (hB6 w1 h);obtain ⟨hto7,hkd7,hk⟩:=aAD hk htk7;have hin7:=(aAv htk7).2.2;have hnt7:=aMi hto7 hkd7;refine aBD 5 4 7 [] [] 253 (.agg #[vI t7.1,vS t7.2.1,vI t7.2.2]) f0 hM fun b8 w1 hM=>seg 6 5 [(33,vB (!((t7.2.1.length:Int)==2)))] (fc (ldm 9 3 1 hM rfl rfl) (fc (aGz 9 t7.2.1) f0)) ?_;cases h9:((t7.2.1.length:Int)==2)
  ·have rh9:=ef h9;exact pan 7 4 [(51,aHh 10 t7.2.2)] 179 (.agg #[vI 10,vI t7.2.2]) (fc (ldm 3 3 2 hM rfl rfl) f0) hM (fun a f9 hd=>pn_ (P:=Tryz.prog) (fn:=Tryz.f178) hd (hΦ _ _ ((by unfold clock;rw [htk2];(try simp only);rw [if_neg (of_decide_eq_false h4)];(try simp only);rw [htk6];(try simp only);rw [htk7];(try simp only);have hbb:(t7.2.1.length != 2||decide (aBC t7.2.1>59)||(aBC t2.2.1==24&&decide (aBC t7.2.1>0)))=true:=(by rw [aFp];simp only [gt_iff_lt,bne,h9]<;>rfl);rw [hbb];simp only [Bool.false_eq_true,if_true,if_false];exact ⟨rfl,f9⟩))))
  have rh9:=et h9;refine aAq 6 6 35 [(34,.agg #[vI t7.1,vS t7.2.1,vI t7.2.2])] (fc (lam 253 3 0 3 hM rfl) f0) hM (aAN t7 hnt7.1 hnt7.2.1 hnt7.2.2.1 _) fun w1 hM=>seg 6 10 [(38,vB (decide (59<(aBC t7.2.1))))] f0 ?_;cases h10:(decide (59<(aBC t7.2.1)))
  rotate_left
  ·have aa:=dt h10;exact pan 7 4 [(51,aHh 10 t7.2.2)] 179 (.agg #[vI 10,vI t7.2.2]) (fc (ldm 3 3 2 hM rfl rfl) f0) hM (fun a f9 hd=>pn_ (P:=Tryz.prog) (fn:=Tryz.f178) hd (hΦ _ _ ((by unfold clock;rw [htk2];(try simp only);rw [if_neg (of_decide_eq_false h4)];(try simp only);rw [htk6];(try simp only);rw [htk7];(try simp only);have hbb:(t7.2.1.length != 2||decide (aBC t7.2.1>59)||(aBC t2.2.1==24&&decide (aBC t7.2.1>0)))=true:=(by rw [aFp];simp only [gt_iff_lt,bne,h9,h10]<;>rfl);rw [hbb];simp only [Bool.false_eq_true,if_true,if_false];exact ⟨rfl,f9⟩))))
  have aa:=df h10;refine aAq 6 11 40 [(39,.agg #[vI t2.1,vS t2.2.1,vI t2.2.2])] (fc (lam 253 0 0 3 hM rfl) f0) hM (aAN t2 hnt2.1 hnt2.2.1 hnt2.2.2.1 _) fun w1 hM=>seg 6 14 [(42,vB ((aBC t2.2.1)==24))] f0 ?_;cases h11:((aBC t2.2.1)==24)
  ·have ab:=ef h11;refine seg 8 0 [] f0 (drc [(4,vI ((60*(aBC t2.2.1))+(aBC t7.2.1))),(5,vI t2.2.2)] hM (fun w5 hM=>(fc (lam 253 0 0 3 hM rfl) (fc (tcl (aAN t2 hnt2.1 hnt2.2.1 hnt2.2.2.1 _)) (fc (aNs 60 (aBC t2.2.1) u3_) (fc (lam 253 3 0 3 hM rfl) (fc (tcl (aAN t7 hnt7.1 hnt7.2.1 hnt7.2.2.1 _)) (fc (aAh (60*(aBC t2.2.1)) (aBC t7.2.1) u3_) (fc (ldm 3 0 2 hM rfl rfl) f0)))))))) fun w5 hM=>rt2 4 5 (vI ((60*(aBC t2.2.1))+(aBC t7.2.1))) (vI t2.2.2) rfl rfl f0 (hΦ _ _ (by unfold clock;rw [htk2];(try simp only);rw [if_neg (of_decide_eq_false h4)];(try simp only);rw [htk6];(try simp only);rw [htk7];(try simp only);have hbb:(t7.2.1.length != 2||decide (aBC t7.2.1>59)||(aBC t2.2.1==24&&decide (aBC t7.2.1>0)))=false:=(by rw [aFp];simp only [gt_iff_lt,bne,h9,h10,h11]<;>rfl);rw [hbb];simp only [Bool.false_eq_true,if_true,if_false];exact ⟨rfl,_,_,hB7,hM.pick [2]⟩)))
  have ab:=et h11;refine aAq 6 15 44 [(43,.agg #[vI t7.1,vS t7.2.1,vI t7.2.2])] (fc (lam 253 3 0 3 hM rfl) f0) hM (aAN t7 hnt7.1 hnt7.2.1 hnt7.2.2.1 _) fun w1 hM=>seg 6 19 [(47,vB (decide (0<(aBC t7.2.1))))] f0 ?_;cases h12:(decide (0<(aBC t7.2.1)))
  ·have ac:=df h12;refine seg 8 0 [] f0 (drc [(4,vI ((60*(aBC t2.2.1))+(aBC t7.2.1))),(5,vI t2.2.2)] hM (fun w5 hM=>(fc (lam 253 0 0 3 hM rfl) (fc (tcl (aAN t2 hnt2.1 hnt2.2.1 hnt2.2.2.1 _)) (fc (aNs 60 (aBC t2.2.1) u3_) (fc (lam 253 3 0 3 hM rfl) (fc (tcl (aAN t7 hnt7.1 hnt7.2.1 hnt7.2.2.1 _)) (fc (aAh (60*(aBC t2.2.1)) (aBC t7.2.1) u3_) (fc (ldm 3 0 2 hM rfl rfl) f0)))))))) fun w5 hM=>rt2 4 5 (vI ((60*(aBC t2.2.1))+(aBC t7.2.1))) (vI t2.2.2) rfl rfl f0 (hΦ _ _ (by unfold clock;rw [htk2];(try simp only);rw [if_neg (of_decide_eq_false h4)];(try simp only);rw [htk6];(try simp only);rw [htk7];(try simp only);have hbb:(t7.2.1.length != 2||decide (aBC t7.2.1>59)||(aBC t2.2.1==24&&decide (aBC t7.2.1>0)))=false:=(by rw [aFp];simp only [gt_iff_lt,bne,h9,h10,h11,h12]<;>rfl);rw [hbb];simp only [Bool.false_eq_true,if_true,if_false];exact ⟨rfl,_,_,hB7,hM.pick [2]⟩)))
  have ac:=dt h12;exact pan 7 4 [(51,aHh 10 t7.2.2)] 179 (.agg #[vI 10,vI t7.2.2]) (fc (ldm 3 3 2 hM rfl rfl) f0) hM (fun a f9 hd=>pn_ (P:=Tryz.prog) (fn:=Tryz.f178) hd (hΦ _ _ ((by unfold clock;rw [htk2];(try simp only);rw [if_neg (of_decide_eq_false h4)];(try simp only);rw [htk6];(try simp only);rw [htk7];(try simp only);have hbb:(t7.2.1.length != 2||decide (aBC t7.2.1>59)||(aBC t2.2.1==24&&decide (aBC t7.2.1>0)))=true:=(by rw [aFp];simp only [gt_iff_lt,bne,h9,h10,h11,h12]<;>rfl);rw [hbb];simp only [Bool.false_eq_true,if_true,if_false];exact ⟨rfl,f9⟩))))
def aIo (w:World) (G:Nat→Prop) (B rb:Nat) (en:Int) (ss:List Sp) (p:Option Addr) (c:Nat) (ts:List (Tok Int)) (r:Res Int (List Sp×List (Tok Int))) (e:Ending) (w':World):Prop:=match r with
  | .error (cc,x)=>e = .panicked (pn cc x)∧Fr G w w'
  | .ok (s,l)=>e = .returned (.tuple #[])∧∃ p' c' q cq,aAl B p c ts p' c' l∧Mm G w w' [bk rb #[vL p' l.length c',vI en,vL q (ss++s).length cq] 184,rw_ spL 2 260 (vL q (ss++s).length cq) (ss++s)]
theorem aDj {w:World}{G:Nat→Prop}{rb cq:Nat}{q:Option Addr}{lv:Value}{en f t:Int}{ss:List Sp}(ht:0≤t) (ht2:t≤30000) (hl:ss.length≤300000000) (hM0:Mm G w w [bk rb #[lv,vI en,vL q ss.length cq] 184,rw_ spL 2 260 (vL q ss.length cq) ss]):Calls Tryz.prog 134 #[vP rb 0,vI f,vI t] w fun e w'=>∃ u Mn,e = .returned u∧(u = .tuple #[]∧∃ q2 c2,Mn=[bk rb #[lv,vI en,vL q2 (ss++aCN f t).length c2] 184,rw_ spL 2 260 (vL q2 (ss++aCN f t).length c2) (ss++aCN f t)])∧Mm G w w' Mn:=by
  refine beg Tryz.func134 rfl rfl [(0,vP rb 0),(1,vI f),(2,vI t)] rfl rfl fun Φ hΦ=>?_;have hM:=hM0;refine aAn 0 9 15 [(6,vP rb 0),(10,vL q ss.length cq),(14,.agg #[vI f,vI (min t 10080)])] (cs:=#[vI f,vI (min t 10080)]) (T:=260) (v:=fun b=>vL (some ⟨b,0,none⟩) 1 1) (fc (ldm 98 0 2 hM rfl rfl) (fc (aS6 3 t 10080) f0)) hM fun af w1 hM=>aKP 0 10 16 [] (cap:=1) (by decide) spT f0 hM (j:=1) rfl (aAE (f:=spL) (x:=(f,(min t 10080))) (hM.get 2 rfl) (Nat.lt_succ_self _)) (fun h=>by cases h) (by simp only [List.length_append,List.length_cons,List.length_nil];omega) fun v14 w1 hM=>?_;obtain ⟨aa,ab,e14,-⟩:=(hM.src (j:=1) rfl spT.len).op;subst e14;refine stm 0 13 [(18,vP rb 2)] 98 0 2 (vL aa (ss++[(f,(min t 10080))]).length ab) f0 hM rfl fun w1 hM=>seg 1 2 [(20,vB (decide (10080<t)))] f0 ?_;cases h15:(decide (10080<t))
  ·have ac:=df h15;have hal:(ss++[(f,(min t 10080))])=ss++aCN f t:=by unfold aCN;rw [if_neg (of_decide_eq_false h15)]<;>(try simp)
   rw [hal] at hM;exact rt0 rfl f0 (hΦ _ _ ⟨_,_,rfl,⟨rfl,_,_,rfl⟩,hM.pick [0,1]⟩)
  have ac:=dt h15;refine aAn 2 8 29 [(21,vP rb 0),(25,vL aa (ss++[(f,(min t 10080))]).length ab),(28,.agg #[vI 0,vI (t-10080)])] (cs:=#[vI 0,vI (t-10080)]) (T:=260) (v:=fun b=>vL (some ⟨b,0,none⟩) 1 1) (fc (ldm 98 0 2 hM rfl rfl) (fc (aC8 t 10080 u3_) f0)) hM fun ag w1 hM=>aKP 2 9 30 [] (cap:=1) (by decide) spT f0 hM (j:=1) rfl (aAE (f:=spL) (x:=(0,(t-10080))) (hM.get 3 rfl) (Nat.lt_succ_self _)) (fun h=>by cases h) (by simp only [List.length_append,List.length_cons,List.length_nil];omega) fun v17 w1 hM=>?_;obtain ⟨ad,ae,e17,-⟩:=(hM.src (j:=1) rfl spT.len).op;subst e17;refine stm 2 12 [(32,vP rb 2)] 98 0 2 (vL ad ((ss++[(f,(min t 10080))])++[(0,(t-10080))]).length ae) f0 hM rfl fun w1 hM=>?_;have hal:((ss++[(f,(min t 10080))])++[(0,(t-10080))])=ss++aCN f t:=by unfold aCN;rw [if_pos (of_decide_eq_true h15)]<;>(try simp)
  rw [hal] at hM;exact rt0 rfl f0 (hΦ _ _ ⟨_,_,rfl,⟨rfl,_,_,rfl⟩,hM.pick [0,1]⟩)
section
variable {α:Type}{en:α}
def pre (acc:List Sp):Res α (List Sp×List (Tok α))→Res α (List Sp×List (Tok α))
  | .error e => .error e
  | .ok (s,l) => .ok (acc++s,l)
theorem aQt (r:Res α (List Sp×List (Tok α))):pre [] r=r:=by cases r<;>rfl
def aB9 (en:α) (f t:Int) (l:List (Tok α)):Res α (List Sp×List (Tok α)):=aCr en f t (l.length+1) l
theorem aBn {f t:Int}{l:List (Tok α)}{e:Int×α}(h:aDF en f t l = .error e):aB9 en f t l = .error e:=by
  unfold aB9 aCr;rw [h]
theorem aA9 {f t:Int}{l l2:List (Tok α)}{s:List Sp}(h:aDF en f t l = .ok (s,l2)) (hm:more l2=false):aB9 en f t l = .ok (s,l2):=by
  unfold aB9 aCr;rw [h];simp [hm]
theorem aCB {f t:Int}{l l2:List (Tok α)}{s acc:List Sp}(h:aDF en f t l = .ok (s,l2)) (hm:more l2=true):pre acc (aB9 en f t l)=pre (acc++s) (aB9 en f t (l2.drop 1)):=by
  have hl:=aCC h
  have:aB9 en f t l=pre s (aB9 en f t (l2.drop 1)):=by
    unfold aB9;rw [aCr,h];simp only;rw [if_pos hm,aKe l.length ((l2.drop 1).length+1) (l2.drop 1) (by simp;omega) (by simp)];cases aCr en f t ((l2.drop 1).length+1) (l2.drop 1)<;>rfl
  rw [this]
  cases aB9 en f t (l2.drop 1) with
  | error e=>rfl
  | ok r=>simp [pre,List.append_assoc]
theorem aMc {ts l:List (Tok α)}{f t:Int}(h:dys en ts = .ok ((f,t),l)):part en ts=pre [] (aB9 en f t l):=by
  unfold part;rw [h,aQt];rfl
theorem aMb {ts:List (Tok α)}{e:Int×α}(h:dys en ts = .error e):part en ts = .error e:=by
  unfold part;rw [h]
theorem aCf {k:Int}{xs:List Bys}{l:List (Tok α)}(h:aCt k xs l=true):∃ t l',take en k [] l = .ok (t,l')∧l=t::l':=by
  cases l with
  | nil=>cases h
  | cons t l =>
    refine ⟨t,l,?_,rfl⟩;unfold aCt at h;unfold take aCt;rw [Bool.and_eq_true] at h;simp [h.1]
theorem aMs {l:List (Tok α)}{t u:Tok α}{r:List (Tok α)}(h:l=t::u::r):more l=(aCt 4 [aBb] l&&u.1==2):=by subst h;rfl
end
theorem aDq {l:List (Tok Int)}(h:l.length<2):more l=false:=by
  rcases l with _ | ⟨t,_ | ⟨u,l⟩⟩
  · rfl
  · rfl
  · simp only [List.length_cons] at h;omega
theorem aET {l:List (Tok Int)}(h:aCt 4 [aBb] l=false):more l=false:=by
  rcases l with _ | ⟨t,_ | ⟨u,r⟩⟩
  · rfl
  · rfl
  · rw [aMs rfl,h];rfl
theorem aDb {l:List (Tok Int)}{u:Tok Int}(h:l[1]?=some u):more l=(aCt 4 [aBb] l&&u.1==2):=by
  rcases l with _ | ⟨t,_ | ⟨v,r⟩⟩
  · simp at h
  · simp at h
  · simp at h;subst h;exact aMs rfl
def aBp (f a b:Int) (n:Nat):List Sp:=(List.range n).flatMap fun (i:Nat)=>aCN ((f+(i:Int)).tmod 7*1440+a) ((f+(i:Int)).tmod 7*1440+b)
theorem aDh (f a b:Int) (n:Nat):aBp f a b (n+1)=aBp f a b n++aCN ((f+(n:Int)).tmod 7*1440+a) ((f+(n:Int)).tmod 7*1440+b):=by
  unfold aBp;rw [List.range_succ];simp
theorem aPk (f t:Int):(aCN f t).length≤2:=by unfold aCN;split<;>simp
theorem aBL (f a b:Int) (n:Nat):(aBp f a b n).length≤2*n:=by
  induction n with
  | zero=>simp [aBp]
  | succ n ih=>rw [aDh,List.length_append];have:=aPk ((f+(n:Int)).tmod 7*1440+a) ((f+(n:Int)).tmod 7*1440+b);omega
theorem aKH {f t:Int}(hf:0≤f) (hf7:f<7) (ht:0≤t) (ht7:t<7):(t-f+7).tmod 7=(t-f+7)%7:=Int.tmod_eq_emod_of_nonneg (by omega)
theorem tm7 {f:Int}(hf:0≤f) (n:Nat):(f+(n:Int)).tmod 7=(f+(n:Int))%7:=Int.tmod_eq_emod_of_nonneg (by omega)
theorem aMA {d:Bys}(h:d∈aHR):0≤idx d∧idx d<7:=by
  have hidx:∀ d∈aHR,0≤idx d∧idx d<7:=by decide +kernel
  exact hidx d h
abbrev aRr (Φ:Ending→World→Prop):=AtO Tryz.prog (aAr Tryz.f135) (aA2 (bodyPost Tryz.prog Tryz.f135 Φ)) [] 119
theorem aDn {w:World}{G:Nat→Prop}{B rb c cq:Nat}{p q:Option Addr}{en:Int}{ts:List (Tok Int)}{ss:List Sp}(hM0:Mm G w w [bk rb #[vL p ts.length c,vI en,vL q ss.length cq] 184,rw_ spL 2 260 (vL q ss.length cq) ss]) (hs:SrcB tkL 3 w B p c ts) (hG:∀ k,G k→B≤k) (hk:Tk ts) (hT:Tb w) (hlen:ss.length+14*ts.length≤200000000):Calls Tryz.prog 135 #[vP rb 0] w fun e w'=>aIo w G B rb en ss p c ts (part en ts) e w':=by
  refine beg Tryz.func135 rfl rfl [(0,vP rb 0)] rfl rfl fun Φ hΦ=>?_;have hM:=hM0;have hrB:B≤rb:=hG rb (hM0.own _ (.head _) rb rfl (aAg (hM0.get 0 rfl)));have hB0:aAl B p c ts p c ts:=fun _ h=>h;refine cal 0 0 11 [] (K:=fun u w8=>∃ b,u=vL (some ⟨b,0,none⟩) 7 7∧aJX w8 b∧w.heap.size≤b∧Fr (fun _=>False) w w8) f0 ((aIH hT).mono fun e w8 ⟨b,h1,h2⟩=>⟨_,h1,b,rfl,h2⟩) fun u w1 ⟨bd,hu,hbd,hbn,f1⟩=>?_;subst hu;have hM:=hM.add f1 (bk bd (aHR.map fun l=>Value.string (ofL l)).toArray 9) hbd (fun k h=>by rw [(h:k=bd)];exact hbn);rcases htk18:take en 1 aHR ts with ⟨c18,x18⟩ | ⟨t18,l18⟩
  · exact aKM 1 5 17 [(2,vL (some ⟨bd,0,none⟩) 7 7),(12,vL (some ⟨bd,0,none⟩) 7 7),(15,vP rb 0),(16,vL (some ⟨bd,0,none⟩) 7 7)] [0] f0 hM rfl (by decide) (fun hm=>(aAj (xs:=aHR) hm (aAB hs hM.fr hG) (fun k h=>by rw [aDH (b:=rb) rfl h];exact hrB) (aD4 (hM.get 2 rfl) (hM.notin (i:=2) (js:=[0]) rfl rfl (by decide)) fun w9 h=>aJX.st h) 1).mono fun e w8 h=>by unfold aBf at h;rw [htk18] at h;exact h) (fun a w9 f9 hd=>pn_ (P:=Tryz.prog) (fn:=Tryz.f135) hd (hΦ _ _ ((by rw [aMb (by unfold dys;rw [htk18];(try simp only);(try rfl))];exact ⟨rfl,f9⟩))))
  refine aB3 1 5 17 [(2,vL (some ⟨bd,0,none⟩) 7 7),(12,vL (some ⟨bd,0,none⟩) 7 7),(15,vP rb 0),(16,vL (some ⟨bd,0,none⟩) 7 7)] (K:=fun u Mn=>u=vA (tkL t18)∧∃ p' c',aAl B p c ts p' c' l18∧Mn=[bk rb #[vL p' l18.length c',vI en,vL q ss.length cq] 184]) [1,2] [0] f0 hM rfl rfl (by decide) (fun hm=>(aAj (xs:=aHR) hm (aAB hs hM.fr hG) (fun k h=>by rw [aDH (b:=rb) rfl h];exact hrB) (aD4 (hM.get 2 rfl) (hM.notin (i:=2) (js:=[0]) rfl rfl (by decide)) fun w9 h=>aJX.st h) 1).mono fun e w8 h=>by unfold aBf at h;rw [htk18] at h;obtain ⟨h1,p',c',h2,h3⟩:=h;exact ⟨_,_,h1,⟨rfl,p',c',h2,rfl⟩,h3⟩) fun u Mn w1 hK hM=>?_;obtain ⟨rfl,p18,cc18,hb18,rfl⟩:=hK;have hs18:=hb18 _ hs;have hB18:aAl B p c ts p18 cc18 l18:=fun w1 h=>hb18 w1 (hB0 w1 h);obtain ⟨hto18,hkd18,hk⟩:=aAD hk htk18;have hin18:=(aAv htk18).2.2;have hid18:t18.2.1∈aHR:=hin18.resolve_left (by decide);have hir18:=aMA hid18;refine aAq 1 7 19 [(18,vS t18.2.1)] f0 hM (aFu (aJX.st (hM.get 1 rfl)) hid18) fun w1 hM=>aAn 3 3 24 [(3,vI (idx t18.2.1)),(4,vI (idx t18.2.1)),(23,vP rb 0)] (cs:=#[vS [45]]) (T:=9) (v:=fun b=>vL (some ⟨b,0,none⟩) 1 1) f0 hM fun bz w1 hM=>aAq 3 4 25 [] f0 hM (aBc (xs:=[aF3]) (hM.get 2 rfl) (aAB hs18 hM.fr hG) (StV.one (hM.get 3 rfl)) 4) fun w1 hM=>?_;cases h20:(aCt 4 [aF3] l18)
  ·refine seg 6 0 [] f0 ?_;have hdy:dys en ts = .ok (((idx t18.2.1),(idx t18.2.1)),l18):=(by unfold dys;rw [htk18];simp only;rw [if_neg (by rw [h20];simp)]);obtain ⟨f,hfe⟩:∃ f,f=(idx t18.2.1):=⟨_,rfl⟩;have hf0:0≤f∧f<7:=by rw [hfe];omega
   rw [←hfe];rw [←hfe] at hdy;have hP:=aMc hdy;have hlen0:l18.length≤ts.length:=by have:=aFz hdy;omega
   have hM:Mm G w _ [bk bd (aHR.map fun l=>Value.string (ofL l)).toArray 9,rw_ spL 2 260 (vL q ss.length cq) ss,bk rb #[vL p18 l18.length cc18,vI en,vL q ss.length cq] 184]:=(hM.pick [1,0,2])
   have aq:∀ (ai:Nat) (l:List (Tok Int)) (acc:List Sp) (pl:Option Addr) (cl:Nat) (q:Option Addr) (cq:Nat) (w2:World),SrcB tkL 3 w B pl cl l→aAl B p c ts pl cl l→Tk l→part en ts=pre acc (aB9 en f f l)→acc.length+14*l.length≤14*ts.length→Mm G w w2 [bk bd (aHR.map fun l=>Value.string (ofL l)).toArray 9,rw_ spL 2 260 (vL q (ss++acc).length cq) (ss++acc),bk rb #[vL pl l.length cl,vI en,vL q (ss++acc).length cq] 184]→ai=l.length→aRr Φ (some (6,0)) [(4,vI f),(3,vI f),(0,vP rb 0)] w2:=by
    refine aBh fun ai aj l acc pl cl q cq w2 hs2 hB2 hk hP hal hM b0=>?_;rcases hck24:clock en 23 l with ⟨c24,x24⟩ | ⟨⟨ac,y24⟩,l24⟩
    · exact aKM 6 1 40 [(39,vP rb 0)] [2] f0 hM rfl (by decide) (fun hm=>(aAZ (most:=23) hm (aAB hs2 hM.fr hG) (fun k h=>by rw [aDH (b:=rb) rfl h];exact hrB) hk).mono fun e w8 h=>by unfold aBf at h;rw [hck24] at h;exact h) (fun a w9 f9 hd=>pn_ (P:=Tryz.prog) (fn:=Tryz.f135) hd (hΦ _ _ ((by rw [hP,aBn (by unfold aDF;rw [hck24];(try simp only))];exact ⟨rfl,f9⟩))))
    refine aB3 6 1 40 [(39,vP rb 0)] (K:=fun u Mn=>u = .tuple #[vI ac,vI y24]∧∃ p' c',aAl B pl cl l p' c' l24∧Mn=[bk rb #[vL p' l24.length c',vI en,vL q (ss++acc).length cq] 184]) [0,1] [2] f0 hM rfl rfl (by decide) (fun hm=>(aAZ (most:=23) hm (aAB hs2 hM.fr hG) (fun k h=>by rw [aDH (b:=rb) rfl h];exact hrB) hk).mono fun e w8 h=>by unfold aBf at h;rw [hck24] at h;obtain ⟨h1,p',c',h2,h3⟩:=h;exact ⟨_,_,h1,⟨rfl,p',c',h2,rfl⟩,h3⟩) fun u Mn w1 hK hM=>?_;obtain ⟨rfl,p24,cc24,hb24,rfl⟩:=hK;have hs24:=hb24 _ hs2;have hB24:aAl B p c ts p24 cc24 l24:=fun w1 h=>hb24 w1 (hB2 w1 h);obtain ⟨b1,b2,b3,hk⟩:=aC6 hk hck24;refine aAn 7 3 46 [(5,vI ac),(45,vP rb 0)] (cs:=#[vS [45]]) (T:=9) (v:=fun b=>vL (some ⟨b,0,none⟩) 1 1) f0 hM fun b4 w1 hM=>?_;rcases htk26:take en 4 [aF3] l24 with ⟨c26,x26⟩ | ⟨t26,l26⟩
    · exact aKM 7 4 47 [] [2] f0 hM rfl (by decide) (fun hm=>(aAj (xs:=[aF3]) hm (aAB hs24 hM.fr hG) (fun k h=>by rw [aDH (b:=rb) rfl h];exact hrB) (aD4 (hM.get 3 rfl) (hM.notin (i:=3) (js:=[2]) rfl rfl (by decide)) fun w9 h=>StV.one h) 4).mono fun e w8 h=>by unfold aBf at h;rw [htk26] at h;exact h) (fun a w9 f9 hd=>pn_ (P:=Tryz.prog) (fn:=Tryz.f135) hd (hΦ _ _ ((by rw [hP,aBn (by unfold aDF;rw [hck24];(try simp only);rw [htk26];(try simp only))];exact ⟨rfl,f9⟩))))
    refine aB3 7 4 47 [] (K:=fun u Mn=>u=vA (tkL t26)∧∃ p' c',aAl B p24 cc24 l24 p' c' l26∧Mn=[bk rb #[vL p' l26.length c',vI en,vL q (ss++acc).length cq] 184]) [0,1,3] [2] f0 hM rfl rfl (by decide) (fun hm=>(aAj (xs:=[aF3]) hm (aAB hs24 hM.fr hG) (fun k h=>by rw [aDH (b:=rb) rfl h];exact hrB) (aD4 (hM.get 3 rfl) (hM.notin (i:=3) (js:=[2]) rfl rfl (by decide)) fun w9 h=>StV.one h) 4).mono fun e w8 h=>by unfold aBf at h;rw [htk26] at h;obtain ⟨h1,p',c',h2,h3⟩:=h;exact ⟨_,_,h1,⟨rfl,p',c',h2,rfl⟩,h3⟩) fun u Mn w1 hK hM=>?_;obtain ⟨rfl,p26,cc26,hb26,rfl⟩:=hK;have hs26:=hb26 _ hs24;have hB26:aAl B p c ts p26 cc26 l26:=fun w1 h=>hb26 w1 (hB24 w1 h);obtain ⟨hto26,hkd26,hk⟩:=aAD hk htk26;have hin26:=(aAv htk26).2.2;rcases hck27:clock en 24 l26 with ⟨c27,x27⟩ | ⟨⟨aa,y27⟩,l27⟩
    · exact aKM 8 1 50 [(49,vP rb 0)] [3] f0 hM rfl (by decide) (fun hm=>(aAZ (most:=24) hm (aAB hs26 hM.fr hG) (fun k h=>by rw [aDH (b:=rb) rfl h];exact hrB) hk).mono fun e w8 h=>by unfold aBf at h;rw [hck27] at h;exact h) (fun a w9 f9 hd=>pn_ (P:=Tryz.prog) (fn:=Tryz.f135) hd (hΦ _ _ ((by rw [hP,aBn (by unfold aDF;rw [hck24];(try simp only);rw [htk26];(try simp only);rw [hck27];(try simp only))];exact ⟨rfl,f9⟩))))
    refine aB3 8 1 50 [(49,vP rb 0)] (K:=fun u Mn=>u = .tuple #[vI aa,vI y27]∧∃ p' c',aAl B p26 cc26 l26 p' c' l27∧Mn=[bk rb #[vL p' l27.length c',vI en,vL q (ss++acc).length cq] 184]) [0,1,2] [3] f0 hM rfl rfl (by decide) (fun hm=>(aAZ (most:=24) hm (aAB hs26 hM.fr hG) (fun k h=>by rw [aDH (b:=rb) rfl h];exact hrB) hk).mono fun e w8 h=>by unfold aBf at h;rw [hck27] at h;obtain ⟨h1,p',c',h2,h3⟩:=h;exact ⟨_,_,h1,⟨rfl,p',c',h2,rfl⟩,h3⟩) fun u Mn w1 hK hM=>?_;obtain ⟨rfl,p27,cc27,hb27,rfl⟩:=hK;have hs27:=hb27 _ hs26;have hB27:aAl B p c ts p27 cc27 l27:=fun w1 h=>hb27 w1 (hB26 w1 h);obtain ⟨b5,b6,b7,hk⟩:=aC6 hk hck27;refine seg 9 4 [(7,vI aa),(8,vI y27),(53,vB (ac==aa))] f0 ?_;cases h28:(ac==aa)
    rotate_left
    ·have ar:=et h28;exact pan 10 3 [(59,aHh 10 y27)] 179 (.agg #[vI 10,vI y27]) f0 hM (fun a f9 hd=>pn_ (P:=Tryz.prog) (fn:=Tryz.f135) hd (hΦ _ _ ((by rw [hP,aBn (by unfold aDF;rw [hck24];(try simp only);rw [htk26];(try simp only);rw [hck27];(try simp only);rw [if_pos h28])];exact ⟨rfl,f9⟩))))
    have ar:=ef h28;refine seg 11 4 [(60,vB (decide (aa<ac)))] f0 ?_;cases h29:(decide (aa<ac))
    ·have au:=df h29;refine seg 14 0 [(71,vI ((((f-f)+7)%7)+1)),(72,vI 0)] (fc (aC8 f f u3_) (fc (aAh (f-f) 7 u3_) (fc (aNr ((f-f)+7) 7 u3_) (fc (aAh (((f-f)+7)%7) 1 u3_) f0)))) ?_;obtain ⟨n,hn⟩:∃ n:Nat,n=((f-f+7)%7+1).toNat:=⟨_,rfl⟩;have hnn:((((f-f)+7)%7)+1)=(n:Int):=by omega
     have hn7:n≤7:=by omega
     rw [hnn];have hM:Mm G w _ [bk bd (aHR.map fun l=>Value.string (ofL l)).toArray 9,rw_ spL 2 260 (vL q (ss++acc).length cq) (ss++acc),bk rb #[vL p27 l27.length cc27,vI en,vL q (ss++acc).length cq] 184]:=(hM.pick [0,1,3])
     have av:∀ (ak:Nat) (i:Nat) (q2:Option Addr) (cq2:Nat) (w2:World),i≤n→Mm G w w2 [bk bd (aHR.map fun l=>Value.string (ofL l)).toArray 9,rw_ spL 2 260 (vL q2 (ss++acc++aBp f ac aa i).length cq2) (ss++acc++aBp f ac aa i),bk rb #[vL p27 l27.length cc27,vI en,vL q2 (ss++acc++aBp f ac aa i).length cq2] 184]→ak=n-i→aRr Φ (some (14,0)) [(72,vI (i:Int)),(71,vI (n:Int)),(7,vI aa),(5,vI ac),(4,vI f),(3,vI f),(0,vP rb 0)] w2:=by
      refine aBh fun ak aw i q2 cq2 w2 hi hM b8=>seg 14 1 [(73,vB (decide ((i:Int)<(n:Int))))] f0 ?_;cases h33:(decide ((i:Int)<(n:Int)))
      rotate_left
      ·have ax:=dt h33;refine aB3 17 7 87 [(80,vP rb 0),(83,vI ((((f+(i:Int))%7)*1440)+ac)),(86,vI ((((f+(i:Int))%7)*1440)+aa))] (K:=fun u Mn=>u = .tuple #[]∧∃ q2 c2,Mn=[bk rb #[vL p27 l27.length cc27,vI en,vL q2 ((ss++acc++aBp f ac aa i)++aCN ((((f+(i:Int))%7)*1440)+ac) ((((f+(i:Int))%7)*1440)+aa)).length c2] 184,rw_ spL 2 260 (vL q2 ((ss++acc++aBp f ac aa i)++aCN ((((f+(i:Int))%7)*1440)+ac) ((((f+(i:Int))%7)*1440)+aa)).length c2) ((ss++acc++aBp f ac aa i)++aCN ((((f+(i:Int))%7)*1440)+ac) ((((f+(i:Int))%7)*1440)+aa))]) [0] [2,1] (fc (aAh f (i:Int) u3_) (fc (aNr (f+(i:Int)) 7 u3_) (fc (aNs ((f+(i:Int))%7) 1440 u3_) (fc (aAh (((f+(i:Int))%7)*1440) ac u3_) (fc (aAh (((f+(i:Int))%7)*1440) aa u3_) f0))))) hM rfl rfl (by decide) (fun hm=>aDj (by omega) (by omega) (by have:=aBL f ac aa i;simp only [List.length_append];omega) hm) fun u Mn w1 hK hM=>?_;obtain ⟨rfl,ay,az,rfl⟩:=hK;refine seg 14 0 [(72,vI ((i:Int)+1))] (fc (aAh (i:Int) 1 u3_) f0) ?_;have e9:((ss++acc++aBp f ac aa i)++aCN ((((f+(i:Int))%7)*1440)+ac) ((((f+(i:Int))%7)*1440)+aa))=ss++acc++aBp f ac aa (i+1):=by rw [aDh,tm7 hf0.1,←List.append_assoc]
       rw [e9] at hM;exact aAb _ (aw _ (by omega) (i+1) ay az _ (by omega) (hM.pick [0,2,1]) rfl)
      have ax:=df h33;have hti:aDF en f f l = .ok ((aBp f ac aa n),l27):=(by unfold aDF;rw [hck24];simp only;rw [htk26];simp only;rw [hck27];simp only;rw [if_neg (by rw [h28];simp),if_neg (of_decide_eq_false h29),aKH hf0.1 hf0.2 hf0.1 hf0.2,show (f-f+7)%7+1=(n:Int) from hnn];rfl);have hie:i=n:=by omega
      rw [hie] at hM;replace hM:Mm G w _ [bk bd (aHR.map fun l=>Value.string (ofL l)).toArray 9,_,bk rb #[vL p27 l27.length cc27,vI en,vL q2 (ss++acc++(aBp f ac aa n)).length cq2] 184]:=hM;refine aAn 19 3 92 [(91,vP rb 0)] (cs:=#[vS [44]]) (T:=9) (v:=fun b=>vL (some ⟨b,0,none⟩) 1 1) f0 hM fun b9 w1 hM=>aAq 19 4 93 [] f0 hM (aBc (xs:=[aBb]) (hM.get 2 rfl) (aAB hs27 hM.fr hG) (StV.one (hM.get 3 rfl)) 4) fun w1 hM=>seg 19 7 [(95,vB (!(aCt 4 [aBb] l27)))] f0 ?_;cases h35:(aCt 4 [aBb] l27)
      ·rw [List.append_assoc] at hM;exact rt0 rfl f0 (hΦ _ _ (by rw [hP,aA9 hti (aET h35)];exact ⟨rfl,_,_,_,_,hB27,hM.pick [2,1]⟩))
      refine seg 19 16 [(104,vB (decide ((l27.length:Int)<2)))] (fc (ldm 175 2 0 hM rfl rfl) f0) ?_;cases h36:(decide ((l27.length:Int)<2))
      rotate_left
      ·have a0:=dt h36;rw [List.append_assoc] at hM;exact rt0 rfl f0 (hΦ _ _ (by rw [hP,aA9 hti (aDq (by omega))];exact ⟨rfl,_,_,_,_,hB27,hM.pick [2,1]⟩))
      have a0:=df h36;obtain ⟨y37,ae,ca,cb,q37,a1,n37⟩:=(hs27).eb hG (i:=1) (by omega);refine seg 19 26 [(114,vB (!(y37.1==2)))] (fc (ldm 175 2 0 hM rfl rfl) (fc (ix 175 cc27 q37 (gl ae)) (fc (ld0 3 hM (a1 0 _ rfl) n37) f0))) ?_;cases h38:(y37.1==2)
      ·have a2:=ef h38;rw [List.append_assoc] at hM;exact rt0 rfl f0 (hΦ _ _ (by rw [hP,aA9 hti ((by rw [aDb ae,h38,Bool.and_false]))];exact ⟨rfl,_,_,_,_,hB27,hM.pick [2,1]⟩))
      have a2:=et h38;have hmo:more l27=true:=by rw [aDb ae,h35,h38];rfl
      rcases htk39:take en 4 ([]:List Bys) l27 with ⟨c39,x39⟩ | ⟨t39,l39⟩
      · exfalso;obtain ⟨t9,l9,h9,_⟩:=aCf (en:=en) h35;rw [h9] at htk39;cases htk39
      refine aB3 20 3 118 [(117,vP rb 0)] (K:=fun u Mn=>u=vA (tkL t39)∧∃ p' c',aAl B p27 cc27 l27 p' c' l39∧Mn=[bk rb #[vL p' l39.length c',vI en,vL q2 (ss++acc++(aBp f ac aa n)).length cq2] 184]) [0,1,3] [2] f0 hM rfl rfl (by decide) (fun hm=>(aAj (xs:=([]:List Bys)) hm (aAB hs27 hM.fr hG) (fun k h=>by rw [aDH (b:=rb) rfl h];exact hrB) aBG 4).mono fun e w8 h=>by unfold aBf at h;rw [htk39] at h;obtain ⟨h1,p',c',h2,h3⟩:=h;exact ⟨_,_,h1,⟨rfl,p',c',h2,rfl⟩,h3⟩) fun u Mn w1 hK hM=>?_;obtain ⟨rfl,p39,cc39,hb39,rfl⟩:=hK;have hs39:=hb39 _ hs27;have hB39:aAl B p c ts p39 cc39 l39:=fun w1 h=>hb39 w1 (hB27 w1 h);obtain ⟨hto39,hkd39,hk⟩:=aAD hk htk39;have hin39:=(aAv htk39).2.2;have htl39:l27=t39::l39:=(aAv htk39).1;refine seg 6 0 [] f0 ?_;have hPn:part en ts=pre (acc++(aBp f ac aa n)) (aB9 en f f l39):=by rw [hP,aCB hti hmo,htl39];rfl
      have hl9:=aCC hti;have hl8:l27.length=l39.length+1:=by rw [htl39];rfl
      have hdn:=aBL f ac aa n;rw [List.append_assoc] at hM;exact aAb _ (aj _ (by omega) l39 (acc++(aBp f ac aa n)) p39 cc39 q2 cq2 _ (hs39) (hB39) hk hPn (by simp only [List.length_append];omega) (hM.pick [0,1,3]) rfl)
     exact aAb _ (av _ 0 q cq _ (Nat.zero_le _) (hM.cast (by simp only [show aBp f ac aa 0=[] from rfl,List.append_nil])) rfl)
    have au:=dt h29;refine seg 14 0 [(7,vI (aa+1440)),(71,vI ((((f-f)+7)%7)+1)),(72,vI 0)] (fc (aAh aa 1440 u3_) (fc (aC8 f f u3_) (fc (aAh (f-f) 7 u3_) (fc (aNr ((f-f)+7) 7 u3_) (fc (aAh (((f-f)+7)%7) 1 u3_) f0))))) ?_;obtain ⟨n,hn⟩:∃ n:Nat,n=((f-f+7)%7+1).toNat:=⟨_,rfl⟩;have hnn:((((f-f)+7)%7)+1)=(n:Int):=by omega
    have hn7:n≤7:=by omega
    rw [hnn];have hM:Mm G w _ [bk bd (aHR.map fun l=>Value.string (ofL l)).toArray 9,rw_ spL 2 260 (vL q (ss++acc).length cq) (ss++acc),bk rb #[vL p27 l27.length cc27,vI en,vL q (ss++acc).length cq] 184]:=(hM.pick [0,1,3])
    have a3:∀ (al:Nat) (i:Nat) (q2:Option Addr) (cq2:Nat) (w2:World),i≤n→Mm G w w2 [bk bd (aHR.map fun l=>Value.string (ofL l)).toArray 9,rw_ spL 2 260 (vL q2 (ss++acc++aBp f ac (aa+1440) i).length cq2) (ss++acc++aBp f ac (aa+1440) i),bk rb #[vL p27 l27.length cc27,vI en,vL q2 (ss++acc++aBp f ac (aa+1440) i).length cq2] 184]→al=n-i→aRr Φ (some (14,0)) [(72,vI (i:Int)),(71,vI (n:Int)),(7,vI (aa+1440)),(5,vI ac),(4,vI f),(3,vI f),(0,vP rb 0)] w2:=by
     refine aBh fun al a4 i q2 cq2 w2 hi hM cc=>seg 14 1 [(73,vB (decide ((i:Int)<(n:Int))))] f0 ?_;cases h44:(decide ((i:Int)<(n:Int)))
     rotate_left
     ·have a5:=dt h44;refine aB3 17 7 87 [(80,vP rb 0),(83,vI ((((f+(i:Int))%7)*1440)+ac)),(86,vI ((((f+(i:Int))%7)*1440)+(aa+1440)))] (K:=fun u Mn=>u = .tuple #[]∧∃ q2 c2,Mn=[bk rb #[vL p27 l27.length cc27,vI en,vL q2 ((ss++acc++aBp f ac (aa+1440) i)++aCN ((((f+(i:Int))%7)*1440)+ac) ((((f+(i:Int))%7)*1440)+(aa+1440))).length c2] 184,rw_ spL 2 260 (vL q2 ((ss++acc++aBp f ac (aa+1440) i)++aCN ((((f+(i:Int))%7)*1440)+ac) ((((f+(i:Int))%7)*1440)+(aa+1440))).length c2) ((ss++acc++aBp f ac (aa+1440) i)++aCN ((((f+(i:Int))%7)*1440)+ac) ((((f+(i:Int))%7)*1440)+(aa+1440)))]) [0] [2,1] (fc (aAh f (i:Int) u3_) (fc (aNr (f+(i:Int)) 7 u3_) (fc (aNs ((f+(i:Int))%7) 1440 u3_) (fc (aAh (((f+(i:Int))%7)*1440) ac u3_) (fc (aAh (((f+(i:Int))%7)*1440) (aa+1440) u3_) f0))))) hM rfl rfl (by decide) (fun hm=>aDj (by omega) (by omega) (by have:=aBL f ac (aa+1440) i;simp only [List.length_append];omega) hm) fun u Mn w1 hK hM=>?_;obtain ⟨rfl,a6,a7,rfl⟩:=hK;refine seg 14 0 [(72,vI ((i:Int)+1))] (fc (aAh (i:Int) 1 u3_) f0) ?_;have e9:((ss++acc++aBp f ac (aa+1440) i)++aCN ((((f+(i:Int))%7)*1440)+ac) ((((f+(i:Int))%7)*1440)+(aa+1440)))=ss++acc++aBp f ac (aa+1440) (i+1):=by rw [aDh,tm7 hf0.1,←List.append_assoc]
      rw [e9] at hM;exact aAb _ (a4 _ (by omega) (i+1) a6 a7 _ (by omega) (hM.pick [0,2,1]) rfl)
     have a5:=df h44;have hti:aDF en f f l = .ok ((aBp f ac (aa+1440) n),l27):=(by unfold aDF;rw [hck24];simp only;rw [htk26];simp only;rw [hck27];simp only;rw [if_neg (by rw [h28];simp),if_pos (of_decide_eq_true h29),aKH hf0.1 hf0.2 hf0.1 hf0.2,show (f-f+7)%7+1=(n:Int) from hnn];rfl);have hie:i=n:=by omega
     rw [hie] at hM;replace hM:Mm G w _ [bk bd (aHR.map fun l=>Value.string (ofL l)).toArray 9,_,bk rb #[vL p27 l27.length cc27,vI en,vL q2 (ss++acc++(aBp f ac (aa+1440) n)).length cq2] 184]:=hM;refine aAn 19 3 92 [(91,vP rb 0)] (cs:=#[vS [44]]) (T:=9) (v:=fun b=>vL (some ⟨b,0,none⟩) 1 1) f0 hM fun cd w1 hM=>aAq 19 4 93 [] f0 hM (aBc (xs:=[aBb]) (hM.get 2 rfl) (aAB hs27 hM.fr hG) (StV.one (hM.get 3 rfl)) 4) fun w1 hM=>seg 19 7 [(95,vB (!(aCt 4 [aBb] l27)))] f0 ?_;cases h46:(aCt 4 [aBb] l27)
     ·rw [List.append_assoc] at hM;exact rt0 rfl f0 (hΦ _ _ (by rw [hP,aA9 hti (aET h46)];exact ⟨rfl,_,_,_,_,hB27,hM.pick [2,1]⟩))
     refine seg 19 16 [(104,vB (decide ((l27.length:Int)<2)))] (fc (ldm 175 2 0 hM rfl rfl) f0) ?_;cases h47:(decide ((l27.length:Int)<2))
     rotate_left
     ·have a8:=dt h47;rw [List.append_assoc] at hM;exact rt0 rfl f0 (hΦ _ _ (by rw [hP,aA9 hti (aDq (by omega))];exact ⟨rfl,_,_,_,_,hB27,hM.pick [2,1]⟩))
     have a8:=df h47;obtain ⟨y48,af,ce,cf,q48,a9,n48⟩:=(hs27).eb hG (i:=1) (by omega);refine seg 19 26 [(114,vB (!(y48.1==2)))] (fc (ldm 175 2 0 hM rfl rfl) (fc (ix 175 cc27 q48 (gl af)) (fc (ld0 3 hM (a9 0 _ rfl) n48) f0))) ?_;cases h49:(y48.1==2)
     ·have ba:=ef h49;rw [List.append_assoc] at hM;exact rt0 rfl f0 (hΦ _ _ (by rw [hP,aA9 hti ((by rw [aDb af,h49,Bool.and_false]))];exact ⟨rfl,_,_,_,_,hB27,hM.pick [2,1]⟩))
     have ba:=et h49;have hmo:more l27=true:=by rw [aDb af,h46,h49];rfl
     rcases htk50:take en 4 ([]:List Bys) l27 with ⟨c50,x50⟩ | ⟨t50,l50⟩
     · exfalso;obtain ⟨t9,l9,h9,_⟩:=aCf (en:=en) h46;rw [h9] at htk50;cases htk50
     refine aB3 20 3 118 [(117,vP rb 0)] (K:=fun u Mn=>u=vA (tkL t50)∧∃ p' c',aAl B p27 cc27 l27 p' c' l50∧Mn=[bk rb #[vL p' l50.length c',vI en,vL q2 (ss++acc++(aBp f ac (aa+1440) n)).length cq2] 184]) [0,1,3] [2] f0 hM rfl rfl (by decide) (fun hm=>(aAj (xs:=([]:List Bys)) hm (aAB hs27 hM.fr hG) (fun k h=>by rw [aDH (b:=rb) rfl h];exact hrB) aBG 4).mono fun e w8 h=>by unfold aBf at h;rw [htk50] at h;obtain ⟨h1,p',c',h2,h3⟩:=h;exact ⟨_,_,h1,⟨rfl,p',c',h2,rfl⟩,h3⟩) fun u Mn w1 hK hM=>?_;obtain ⟨rfl,p50,cc50,hb50,rfl⟩:=hK;have hs50:=hb50 _ hs27;have hB50:aAl B p c ts p50 cc50 l50:=fun w1 h=>hb50 w1 (hB27 w1 h);obtain ⟨hto50,hkd50,hk⟩:=aAD hk htk50;have hin50:=(aAv htk50).2.2;have htl50:l27=t50::l50:=(aAv htk50).1;refine seg 6 0 [] f0 ?_;have hPn:part en ts=pre (acc++(aBp f ac (aa+1440) n)) (aB9 en f f l50):=by rw [hP,aCB hti hmo,htl50];rfl
     have hl9:=aCC hti;have hl8:l27.length=l50.length+1:=by rw [htl50];rfl
     have hdn:=aBL f ac (aa+1440) n;rw [List.append_assoc] at hM;exact aAb _ (aj _ (by omega) l50 (acc++(aBp f ac (aa+1440) n)) p50 cc50 q2 cq2 _ (hs50) (hB50) hk hPn (by simp only [List.length_append];omega) (hM.pick [0,1,3]) rfl)
    exact aAb _ (a3 _ 0 q cq _ (Nat.zero_le _) (hM.cast (by simp only [show aBp f ac (aa+1440) 0=[] from rfl,List.append_nil])) rfl)
   exact aAb _ (aq _ l18 [] p18 cc18 q cq _ (hs18) (hB18) hk hP (by simp only [List.length_nil];omega) (hM.cast (by simp only [List.append_nil])) rfl)
  rcases htk52:take en 4 ([]:List Bys) l18 with ⟨c52,x52⟩ | ⟨t52,l52⟩
  · exfalso;obtain ⟨t9,l9,h9,_⟩:=aCf (en:=en) h20;rw [h9] at htk52;cases htk52
  refine aB3 4 3 29 [(28,vP rb 0)] (K:=fun u Mn=>u=vA (tkL t52)∧∃ p' c',aAl B p18 cc18 l18 p' c' l52∧Mn=[bk rb #[vL p' l52.length c',vI en,vL q ss.length cq] 184]) [0,1,3] [2] f0 hM rfl rfl (by decide) (fun hm=>(aAj (xs:=([]:List Bys)) hm (aAB hs18 hM.fr hG) (fun k h=>by rw [aDH (b:=rb) rfl h];exact hrB) aBG 4).mono fun e w8 h=>by unfold aBf at h;rw [htk52] at h;obtain ⟨h1,p',c',h2,h3⟩:=h;exact ⟨_,_,h1,⟨rfl,p',c',h2,rfl⟩,h3⟩) fun u Mn w1 hK hM=>?_;obtain ⟨rfl,p52,cc52,hb52,rfl⟩:=hK;have hs52:=hb52 _ hs18;have hB52:aAl B p c ts p52 cc52 l52:=fun w1 h=>hb52 w1 (hB18 w1 h);obtain ⟨hto52,hkd52,hk⟩:=aAD hk htk52;have hin52:=(aAv htk52).2.2;have htl52:l18=t52::l52:=(aAv htk52).1;rcases htk53:take en 1 aHR l52 with ⟨c53,x53⟩ | ⟨t53,l53⟩
  · exact aKM 5 5 35 [(30,vL (some ⟨bd,0,none⟩) 7 7),(33,vP rb 0),(34,vL (some ⟨bd,0,none⟩) 7 7)] [3] f0 hM rfl (by decide) (fun hm=>(aAj (xs:=aHR) hm (aAB hs52 hM.fr hG) (fun k h=>by rw [aDH (b:=rb) rfl h];exact hrB) (aD4 (hM.get 1 rfl) (hM.notin (i:=1) (js:=[3]) rfl rfl (by decide)) fun w9 h=>aJX.st h) 1).mono fun e w8 h=>by unfold aBf at h;rw [htk53] at h;exact h) (fun a w9 f9 hd=>pn_ (P:=Tryz.prog) (fn:=Tryz.f135) hd (hΦ _ _ ((by rw [aMb (by unfold dys;rw [htk18];(try simp only);rw [if_pos h20,htl52];simp only [List.drop_succ_cons,List.drop_zero];rw [htk53];(try simp only);(try rfl))];exact ⟨rfl,f9⟩))))
  refine aB3 5 5 35 [(30,vL (some ⟨bd,0,none⟩) 7 7),(33,vP rb 0),(34,vL (some ⟨bd,0,none⟩) 7 7)] (K:=fun u Mn=>u=vA (tkL t53)∧∃ p' c',aAl B p52 cc52 l52 p' c' l53∧Mn=[bk rb #[vL p' l53.length c',vI en,vL q ss.length cq] 184]) [0,1,2] [3] f0 hM rfl rfl (by decide) (fun hm=>(aAj (xs:=aHR) hm (aAB hs52 hM.fr hG) (fun k h=>by rw [aDH (b:=rb) rfl h];exact hrB) (aD4 (hM.get 1 rfl) (hM.notin (i:=1) (js:=[3]) rfl rfl (by decide)) fun w9 h=>aJX.st h) 1).mono fun e w8 h=>by unfold aBf at h;rw [htk53] at h;obtain ⟨h1,p',c',h2,h3⟩:=h;exact ⟨_,_,h1,⟨rfl,p',c',h2,rfl⟩,h3⟩) fun u Mn w1 hK hM=>?_;obtain ⟨rfl,p53,cc53,hb53,rfl⟩:=hK;have hs53:=hb53 _ hs52;have hB53:aAl B p c ts p53 cc53 l53:=fun w1 h=>hb53 w1 (hB52 w1 h);obtain ⟨hto53,hkd53,hk⟩:=aAD hk htk53;have hin53:=(aAv htk53).2.2;have hid53:t53.2.1∈aHR:=hin53.resolve_left (by decide);have hir53:=aMA hid53;refine aAq 5 7 37 [(36,vS t53.2.1)] f0 hM (aFu (aJX.st (hM.get 1 rfl)) hid53) fun w1 hM=>seg 6 0 [(4,vI (idx t53.2.1))] f0 ?_;have hdy:dys en ts = .ok (((idx t18.2.1),(idx t53.2.1)),l53):=(by unfold dys;rw [htk18];simp only;rw [if_pos h20,htl52];simp only [List.drop_succ_cons,List.drop_zero];rw [htk53]);obtain ⟨f,hfe⟩:∃ f,f=(idx t18.2.1):=⟨_,rfl⟩;have hf0:0≤f∧f<7:=by rw [hfe];omega
  rw [←hfe];rw [←hfe] at hdy;obtain ⟨t,hte⟩:∃ t,t=(idx t53.2.1):=⟨_,rfl⟩;have ht0:0≤t∧t<7:=by rw [hte];omega
  rw [←hte];rw [←hte] at hdy;have hP:=aMc hdy;have hlen0:l53.length≤ts.length:=by have:=aFz hdy;omega
  have hM:Mm G w _ [bk bd (aHR.map fun l=>Value.string (ofL l)).toArray 9,rw_ spL 2 260 (vL q ss.length cq) ss,bk rb #[vL p53 l53.length cc53,vI en,vL q ss.length cq] 184]:=(hM.pick [1,0,3])
  have bb:∀ (am:Nat) (l:List (Tok Int)) (acc:List Sp) (pl:Option Addr) (cl:Nat) (q:Option Addr) (cq:Nat) (w2:World),SrcB tkL 3 w B pl cl l→aAl B p c ts pl cl l→Tk l→part en ts=pre acc (aB9 en f t l)→acc.length+14*l.length≤14*ts.length→Mm G w w2 [bk bd (aHR.map fun l=>Value.string (ofL l)).toArray 9,rw_ spL 2 260 (vL q (ss++acc).length cq) (ss++acc),bk rb #[vL pl l.length cl,vI en,vL q (ss++acc).length cq] 184]→am=l.length→aRr Φ (some (6,0)) [(4,vI t),(3,vI f),(0,vP rb 0)] w2:=by
   refine aBh fun am an l acc pl cl q cq w2 hs2 hB2 hk hP hal hM cg=>?_;rcases hck57:clock en 23 l with ⟨c57,x57⟩ | ⟨⟨ad,y57⟩,l57⟩
   · exact aKM 6 1 40 [(39,vP rb 0)] [2] f0 hM rfl (by decide) (fun hm=>(aAZ (most:=23) hm (aAB hs2 hM.fr hG) (fun k h=>by rw [aDH (b:=rb) rfl h];exact hrB) hk).mono fun e w8 h=>by unfold aBf at h;rw [hck57] at h;exact h) (fun a w9 f9 hd=>pn_ (P:=Tryz.prog) (fn:=Tryz.f135) hd (hΦ _ _ ((by rw [hP,aBn (by unfold aDF;rw [hck57];(try simp only))];exact ⟨rfl,f9⟩))))
   refine aB3 6 1 40 [(39,vP rb 0)] (K:=fun u Mn=>u = .tuple #[vI ad,vI y57]∧∃ p' c',aAl B pl cl l p' c' l57∧Mn=[bk rb #[vL p' l57.length c',vI en,vL q (ss++acc).length cq] 184]) [0,1] [2] f0 hM rfl rfl (by decide) (fun hm=>(aAZ (most:=23) hm (aAB hs2 hM.fr hG) (fun k h=>by rw [aDH (b:=rb) rfl h];exact hrB) hk).mono fun e w8 h=>by unfold aBf at h;rw [hck57] at h;obtain ⟨h1,p',c',h2,h3⟩:=h;exact ⟨_,_,h1,⟨rfl,p',c',h2,rfl⟩,h3⟩) fun u Mn w1 hK hM=>?_;obtain ⟨rfl,p57,cc57,hb57,rfl⟩:=hK;have hs57:=hb57 _ hs2;have hB57:aAl B p c ts p57 cc57 l57:=fun w1 h=>hb57 w1 (hB2 w1 h);obtain ⟨ch,ci,cj,hk⟩:=aC6 hk hck57;refine aAn 7 3 46 [(5,vI ad),(45,vP rb 0)] (cs:=#[vS [45]]) (T:=9) (v:=fun b=>vL (some ⟨b,0,none⟩) 1 1) f0 hM fun ck w1 hM=>?_;rcases htk59:take en 4 [aF3] l57 with ⟨c59,x59⟩ | ⟨t59,l59⟩
   · exact aKM 7 4 47 [] [2] f0 hM rfl (by decide) (fun hm=>(aAj (xs:=[aF3]) hm (aAB hs57 hM.fr hG) (fun k h=>by rw [aDH (b:=rb) rfl h];exact hrB) (aD4 (hM.get 3 rfl) (hM.notin (i:=3) (js:=[2]) rfl rfl (by decide)) fun w9 h=>StV.one h) 4).mono fun e w8 h=>by unfold aBf at h;rw [htk59] at h;exact h) (fun a w9 f9 hd=>pn_ (P:=Tryz.prog) (fn:=Tryz.f135) hd (hΦ _ _ ((by rw [hP,aBn (by unfold aDF;rw [hck57];(try simp only);rw [htk59];(try simp only))];exact ⟨rfl,f9⟩))))
   refine aB3 7 4 47 [] (K:=fun u Mn=>u=vA (tkL t59)∧∃ p' c',aAl B p57 cc57 l57 p' c' l59∧Mn=[bk rb #[vL p' l59.length c',vI en,vL q (ss++acc).length cq] 184]) [0,1,3] [2] f0 hM rfl rfl (by decide) (fun hm=>(aAj (xs:=[aF3]) hm (aAB hs57 hM.fr hG) (fun k h=>by rw [aDH (b:=rb) rfl h];exact hrB) (aD4 (hM.get 3 rfl) (hM.notin (i:=3) (js:=[2]) rfl rfl (by decide)) fun w9 h=>StV.one h) 4).mono fun e w8 h=>by unfold aBf at h;rw [htk59] at h;obtain ⟨h1,p',c',h2,h3⟩:=h;exact ⟨_,_,h1,⟨rfl,p',c',h2,rfl⟩,h3⟩) fun u Mn w1 hK hM=>?_;obtain ⟨rfl,p59,cc59,hb59,rfl⟩:=hK;have hs59:=hb59 _ hs57;have hB59:aAl B p c ts p59 cc59 l59:=fun w1 h=>hb59 w1 (hB57 w1 h);obtain ⟨hto59,hkd59,hk⟩:=aAD hk htk59;have hin59:=(aAv htk59).2.2;rcases hck60:clock en 24 l59 with ⟨c60,x60⟩ | ⟨⟨ab,y60⟩,l60⟩
   · exact aKM 8 1 50 [(49,vP rb 0)] [3] f0 hM rfl (by decide) (fun hm=>(aAZ (most:=24) hm (aAB hs59 hM.fr hG) (fun k h=>by rw [aDH (b:=rb) rfl h];exact hrB) hk).mono fun e w8 h=>by unfold aBf at h;rw [hck60] at h;exact h) (fun a w9 f9 hd=>pn_ (P:=Tryz.prog) (fn:=Tryz.f135) hd (hΦ _ _ ((by rw [hP,aBn (by unfold aDF;rw [hck57];(try simp only);rw [htk59];(try simp only);rw [hck60];(try simp only))];exact ⟨rfl,f9⟩))))
   refine aB3 8 1 50 [(49,vP rb 0)] (K:=fun u Mn=>u = .tuple #[vI ab,vI y60]∧∃ p' c',aAl B p59 cc59 l59 p' c' l60∧Mn=[bk rb #[vL p' l60.length c',vI en,vL q (ss++acc).length cq] 184]) [0,1,2] [3] f0 hM rfl rfl (by decide) (fun hm=>(aAZ (most:=24) hm (aAB hs59 hM.fr hG) (fun k h=>by rw [aDH (b:=rb) rfl h];exact hrB) hk).mono fun e w8 h=>by unfold aBf at h;rw [hck60] at h;obtain ⟨h1,p',c',h2,h3⟩:=h;exact ⟨_,_,h1,⟨rfl,p',c',h2,rfl⟩,h3⟩) fun u Mn w1 hK hM=>?_;obtain ⟨rfl,p60,cc60,hb60,rfl⟩:=hK;have hs60:=hb60 _ hs59;have hB60:aAl B p c ts p60 cc60 l60:=fun w1 h=>hb60 w1 (hB59 w1 h);obtain ⟨cm,co,cp,hk⟩:=aC6 hk hck60;refine seg 9 4 [(7,vI ab),(8,vI y60),(53,vB (ad==ab))] f0 ?_;cases h61:(ad==ab)
   rotate_left
   ·have bc:=et h61;exact pan 10 3 [(59,aHh 10 y60)] 179 (.agg #[vI 10,vI y60]) f0 hM (fun a f9 hd=>pn_ (P:=Tryz.prog) (fn:=Tryz.f135) hd (hΦ _ _ ((by rw [hP,aBn (by unfold aDF;rw [hck57];(try simp only);rw [htk59];(try simp only);rw [hck60];(try simp only);rw [if_pos h61])];exact ⟨rfl,f9⟩))))
   have bc:=ef h61;refine seg 11 4 [(60,vB (decide (ab<ad)))] f0 ?_;cases h62:(decide (ab<ad))
   ·have be:=df h62;refine seg 14 0 [(71,vI ((((t-f)+7)%7)+1)),(72,vI 0)] (fc (aC8 t f u3_) (fc (aAh (t-f) 7 u3_) (fc (aNr ((t-f)+7) 7 u3_) (fc (aAh (((t-f)+7)%7) 1 u3_) f0)))) ?_;obtain ⟨n,hn⟩:∃ n:Nat,n=((t-f+7)%7+1).toNat:=⟨_,rfl⟩;have hnn:((((t-f)+7)%7)+1)=(n:Int):=by omega
    have hn7:n≤7:=by omega
    rw [hnn];have hM:Mm G w _ [bk bd (aHR.map fun l=>Value.string (ofL l)).toArray 9,rw_ spL 2 260 (vL q (ss++acc).length cq) (ss++acc),bk rb #[vL p60 l60.length cc60,vI en,vL q (ss++acc).length cq] 184]:=(hM.pick [0,1,3])
    have bf:∀ (ao:Nat) (i:Nat) (q2:Option Addr) (cq2:Nat) (w2:World),i≤n→Mm G w w2 [bk bd (aHR.map fun l=>Value.string (ofL l)).toArray 9,rw_ spL 2 260 (vL q2 (ss++acc++aBp f ad ab i).length cq2) (ss++acc++aBp f ad ab i),bk rb #[vL p60 l60.length cc60,vI en,vL q2 (ss++acc++aBp f ad ab i).length cq2] 184]→ao=n-i→aRr Φ (some (14,0)) [(72,vI (i:Int)),(71,vI (n:Int)),(7,vI ab),(5,vI ad),(4,vI t),(3,vI f),(0,vP rb 0)] w2:=by
     refine aBh fun ao bg i q2 cq2 w2 hi hM cr=>seg 14 1 [(73,vB (decide ((i:Int)<(n:Int))))] f0 ?_;cases h66:(decide ((i:Int)<(n:Int)))
     rotate_left
     ·have bh:=dt h66;refine aB3 17 7 87 [(80,vP rb 0),(83,vI ((((f+(i:Int))%7)*1440)+ad)),(86,vI ((((f+(i:Int))%7)*1440)+ab))] (K:=fun u Mn=>u = .tuple #[]∧∃ q2 c2,Mn=[bk rb #[vL p60 l60.length cc60,vI en,vL q2 ((ss++acc++aBp f ad ab i)++aCN ((((f+(i:Int))%7)*1440)+ad) ((((f+(i:Int))%7)*1440)+ab)).length c2] 184,rw_ spL 2 260 (vL q2 ((ss++acc++aBp f ad ab i)++aCN ((((f+(i:Int))%7)*1440)+ad) ((((f+(i:Int))%7)*1440)+ab)).length c2) ((ss++acc++aBp f ad ab i)++aCN ((((f+(i:Int))%7)*1440)+ad) ((((f+(i:Int))%7)*1440)+ab))]) [0] [2,1] (fc (aAh f (i:Int) u3_) (fc (aNr (f+(i:Int)) 7 u3_) (fc (aNs ((f+(i:Int))%7) 1440 u3_) (fc (aAh (((f+(i:Int))%7)*1440) ad u3_) (fc (aAh (((f+(i:Int))%7)*1440) ab u3_) f0))))) hM rfl rfl (by decide) (fun hm=>aDj (by omega) (by omega) (by have:=aBL f ad ab i;simp only [List.length_append];omega) hm) fun u Mn w1 hK hM=>?_;obtain ⟨rfl,bi,bj,rfl⟩:=hK;refine seg 14 0 [(72,vI ((i:Int)+1))] (fc (aAh (i:Int) 1 u3_) f0) ?_;have e9:((ss++acc++aBp f ad ab i)++aCN ((((f+(i:Int))%7)*1440)+ad) ((((f+(i:Int))%7)*1440)+ab))=ss++acc++aBp f ad ab (i+1):=by rw [aDh,tm7 hf0.1,←List.append_assoc]
      rw [e9] at hM;exact aAb _ (bg _ (by omega) (i+1) bi bj _ (by omega) (hM.pick [0,2,1]) rfl)
     have bh:=df h66;have hti:aDF en f t l = .ok ((aBp f ad ab n),l60):=(by unfold aDF;rw [hck57];simp only;rw [htk59];simp only;rw [hck60];simp only;rw [if_neg (by rw [h61];simp),if_neg (of_decide_eq_false h62),aKH hf0.1 hf0.2 ht0.1 ht0.2,show (t-f+7)%7+1=(n:Int) from hnn];rfl);have hie:i=n:=by omega
     rw [hie] at hM;replace hM:Mm G w _ [bk bd (aHR.map fun l=>Value.string (ofL l)).toArray 9,_,bk rb #[vL p60 l60.length cc60,vI en,vL q2 (ss++acc++(aBp f ad ab n)).length cq2] 184]:=hM;refine aAn 19 3 92 [(91,vP rb 0)] (cs:=#[vS [44]]) (T:=9) (v:=fun b=>vL (some ⟨b,0,none⟩) 1 1) f0 hM fun ct w1 hM=>aAq 19 4 93 [] f0 hM (aBc (xs:=[aBb]) (hM.get 2 rfl) (aAB hs60 hM.fr hG) (StV.one (hM.get 3 rfl)) 4) fun w1 hM=>seg 19 7 [(95,vB (!(aCt 4 [aBb] l60)))] f0 ?_;cases h68:(aCt 4 [aBb] l60)
     ·rw [List.append_assoc] at hM;exact rt0 rfl f0 (hΦ _ _ (by rw [hP,aA9 hti (aET h68)];exact ⟨rfl,_,_,_,_,hB60,hM.pick [2,1]⟩))
     refine seg 19 16 [(104,vB (decide ((l60.length:Int)<2)))] (fc (ldm 175 2 0 hM rfl rfl) f0) ?_;cases h69:(decide ((l60.length:Int)<2))
     rotate_left
     ·have bl:=dt h69;rw [List.append_assoc] at hM;exact rt0 rfl f0 (hΦ _ _ (by rw [hP,aA9 hti (aDq (by omega))];exact ⟨rfl,_,_,_,_,hB60,hM.pick [2,1]⟩))
     have bl:=df h69;obtain ⟨y70,ag,cu,cv,q70,bm,n70⟩:=(hs60).eb hG (i:=1) (by omega);refine seg 19 26 [(114,vB (!(y70.1==2)))] (fc (ldm 175 2 0 hM rfl rfl) (fc (ix 175 cc60 q70 (gl ag)) (fc (ld0 3 hM (bm 0 _ rfl) n70) f0))) ?_;cases h71:(y70.1==2)
     ·have bo:=ef h71;rw [List.append_assoc] at hM;exact rt0 rfl f0 (hΦ _ _ (by rw [hP,aA9 hti ((by rw [aDb ag,h71,Bool.and_false]))];exact ⟨rfl,_,_,_,_,hB60,hM.pick [2,1]⟩))
     have bo:=et h71;have hmo:more l60=true:=by rw [aDb ag,h68,h71];rfl
     rcases htk72:take en 4 ([]:List Bys) l60 with ⟨c72,x72⟩ | ⟨t72,l72⟩
     · exfalso;obtain ⟨t9,l9,h9,_⟩:=aCf (en:=en) h68;rw [h9] at htk72;cases htk72
     refine aB3 20 3 118 [(117,vP rb 0)] (K:=fun u Mn=>u=vA (tkL t72)∧∃ p' c',aAl B p60 cc60 l60 p' c' l72∧Mn=[bk rb #[vL p' l72.length c',vI en,vL q2 (ss++acc++(aBp f ad ab n)).length cq2] 184]) [0,1,3] [2] f0 hM rfl rfl (by decide) (fun hm=>(aAj (xs:=([]:List Bys)) hm (aAB hs60 hM.fr hG) (fun k h=>by rw [aDH (b:=rb) rfl h];exact hrB) aBG 4).mono fun e w8 h=>by unfold aBf at h;rw [htk72] at h;obtain ⟨h1,p',c',h2,h3⟩:=h;exact ⟨_,_,h1,⟨rfl,p',c',h2,rfl⟩,h3⟩) fun u Mn w1 hK hM=>?_;obtain ⟨rfl,p72,cc72,hb72,rfl⟩:=hK;have hs72:=hb72 _ hs60;have hB72:aAl B p c ts p72 cc72 l72:=fun w1 h=>hb72 w1 (hB60 w1 h);obtain ⟨hto72,hkd72,hk⟩:=aAD hk htk72;have hin72:=(aAv htk72).2.2;have htl72:l60=t72::l72:=(aAv htk72).1;refine seg 6 0 [] f0 ?_;have hPn:part en ts=pre (acc++(aBp f ad ab n)) (aB9 en f t l72):=by rw [hP,aCB hti hmo,htl72];rfl
     have hl9:=aCC hti;have hl8:l60.length=l72.length+1:=by rw [htl72];rfl
     have hdn:=aBL f ad ab n;rw [List.append_assoc] at hM;exact aAb _ (an _ (by omega) l72 (acc++(aBp f ad ab n)) p72 cc72 q2 cq2 _ (hs72) (hB72) hk hPn (by simp only [List.length_append];omega) (hM.pick [0,1,3]) rfl)
    exact aAb _ (bf _ 0 q cq _ (Nat.zero_le _) (hM.cast (by simp only [show aBp f ad ab 0=[] from rfl,List.append_nil])) rfl)
   have be:=dt h62;refine seg 14 0 [(7,vI (ab+1440)),(71,vI ((((t-f)+7)%7)+1)),(72,vI 0)] (fc (aAh ab 1440 u3_) (fc (aC8 t f u3_) (fc (aAh (t-f) 7 u3_) (fc (aNr ((t-f)+7) 7 u3_) (fc (aAh (((t-f)+7)%7) 1 u3_) f0))))) ?_;obtain ⟨n,hn⟩:∃ n:Nat,n=((t-f+7)%7+1).toNat:=⟨_,rfl⟩;have hnn:((((t-f)+7)%7)+1)=(n:Int):=by omega
   have hn7:n≤7:=by omega
   rw [hnn];have hM:Mm G w _ [bk bd (aHR.map fun l=>Value.string (ofL l)).toArray 9,rw_ spL 2 260 (vL q (ss++acc).length cq) (ss++acc),bk rb #[vL p60 l60.length cc60,vI en,vL q (ss++acc).length cq] 184]:=(hM.pick [0,1,3])
   have bp:∀ (ap:Nat) (i:Nat) (q2:Option Addr) (cq2:Nat) (w2:World),i≤n→Mm G w w2 [bk bd (aHR.map fun l=>Value.string (ofL l)).toArray 9,rw_ spL 2 260 (vL q2 (ss++acc++aBp f ad (ab+1440) i).length cq2) (ss++acc++aBp f ad (ab+1440) i),bk rb #[vL p60 l60.length cc60,vI en,vL q2 (ss++acc++aBp f ad (ab+1440) i).length cq2] 184]→ap=n-i→aRr Φ (some (14,0)) [(72,vI (i:Int)),(71,vI (n:Int)),(7,vI (ab+1440)),(5,vI ad),(4,vI t),(3,vI f),(0,vP rb 0)] w2:=by
    refine aBh fun ap bq i q2 cq2 w2 hi hM cw=>seg 14 1 [(73,vB (decide ((i:Int)<(n:Int))))] f0 ?_;cases h77:(decide ((i:Int)<(n:Int)))
    rotate_left
    ·have br:=dt h77;refine aB3 17 7 87 [(80,vP rb 0),(83,vI ((((f+(i:Int))%7)*1440)+ad)),(86,vI ((((f+(i:Int))%7)*1440)+(ab+1440)))] (K:=fun u Mn=>u = .tuple #[]∧∃ q2 c2,Mn=[bk rb #[vL p60 l60.length cc60,vI en,vL q2 ((ss++acc++aBp f ad (ab+1440) i)++aCN ((((f+(i:Int))%7)*1440)+ad) ((((f+(i:Int))%7)*1440)+(ab+1440))).length c2] 184,rw_ spL 2 260 (vL q2 ((ss++acc++aBp f ad (ab+1440) i)++aCN ((((f+(i:Int))%7)*1440)+ad) ((((f+(i:Int))%7)*1440)+(ab+1440))).length c2) ((ss++acc++aBp f ad (ab+1440) i)++aCN ((((f+(i:Int))%7)*1440)+ad) ((((f+(i:Int))%7)*1440)+(ab+1440)))]) [0] [2,1] (fc (aAh f (i:Int) u3_) (fc (aNr (f+(i:Int)) 7 u3_) (fc (aNs ((f+(i:Int))%7) 1440 u3_) (fc (aAh (((f+(i:Int))%7)*1440) ad u3_) (fc (aAh (((f+(i:Int))%7)*1440) (ab+1440) u3_) f0))))) hM rfl rfl (by decide) (fun hm=>aDj (by omega) (by omega) (by have:=aBL f ad (ab+1440) i;simp only [List.length_append];omega) hm) fun u Mn w1 hK hM=>?_;obtain ⟨rfl,bs,bt,rfl⟩:=hK;refine seg 14 0 [(72,vI ((i:Int)+1))] (fc (aAh (i:Int) 1 u3_) f0) ?_;have e9:((ss++acc++aBp f ad (ab+1440) i)++aCN ((((f+(i:Int))%7)*1440)+ad) ((((f+(i:Int))%7)*1440)+(ab+1440)))=ss++acc++aBp f ad (ab+1440) (i+1):=by rw [aDh,tm7 hf0.1,←List.append_assoc]
     rw [e9] at hM;exact aAb _ (bq _ (by omega) (i+1) bs bt _ (by omega) (hM.pick [0,2,1]) rfl)
    have br:=df h77;have hti:aDF en f t l = .ok ((aBp f ad (ab+1440) n),l60):=(by unfold aDF;rw [hck57];simp only;rw [htk59];simp only;rw [hck60];simp only;rw [if_neg (by rw [h61];simp),if_pos (of_decide_eq_true h62),aKH hf0.1 hf0.2 ht0.1 ht0.2,show (t-f+7)%7+1=(n:Int) from hnn];rfl);have hie:i=n:=by omega
    rw [hie] at hM;replace hM:Mm G w _ [bk bd (aHR.map fun l=>Value.string (ofL l)).toArray 9,_,bk rb #[vL p60 l60.length cc60,vI en,vL q2 (ss++acc++(aBp f ad (ab+1440) n)).length cq2] 184]:=hM;refine aAn 19 3 92 [(91,vP rb 0)] (cs:=#[vS [44]]) (T:=9) (v:=fun b=>vL (some ⟨b,0,none⟩) 1 1) f0 hM fun cx w1 hM=>aAq 19 4 93 [] f0 hM (aBc (xs:=[aBb]) (hM.get 2 rfl) (aAB hs60 hM.fr hG) (StV.one (hM.get 3 rfl)) 4) fun w1 hM=>seg 19 7 [(95,vB (!(aCt 4 [aBb] l60)))] f0 ?_;cases h79:(aCt 4 [aBb] l60)
    ·rw [List.append_assoc] at hM;exact rt0 rfl f0 (hΦ _ _ (by rw [hP,aA9 hti (aET h79)];exact ⟨rfl,_,_,_,_,hB60,hM.pick [2,1]⟩))
    refine seg 19 16 [(104,vB (decide ((l60.length:Int)<2)))] (fc (ldm 175 2 0 hM rfl rfl) f0) ?_;cases h80:(decide ((l60.length:Int)<2))
    rotate_left
    ·have bu:=dt h80;rw [List.append_assoc] at hM;exact rt0 rfl f0 (hΦ _ _ (by rw [hP,aA9 hti (aDq (by omega))];exact ⟨rfl,_,_,_,_,hB60,hM.pick [2,1]⟩))
    have bu:=df h80;obtain ⟨y81,ah,cy,cz,q81,bv,n81⟩:=(hs60).eb hG (i:=1) (by omega);refine seg 19 26 [(114,vB (!(y81.1==2)))] (fc (ldm 175 2 0 hM rfl rfl) (fc (ix 175 cc60 q81 (gl ah)) (fc (ld0 3 hM (bv 0 _ rfl) n81) f0))) ?_;cases h82:(y81.1==2)
    ·have bw:=ef h82;rw [List.append_assoc] at hM;exact rt0 rfl f0 (hΦ _ _ (by rw [hP,aA9 hti ((by rw [aDb ah,h82,Bool.and_false]))];exact ⟨rfl,_,_,_,_,hB60,hM.pick [2,1]⟩))
    have bw:=et h82;have hmo:more l60=true:=by rw [aDb ah,h79,h82];rfl
    rcases htk83:take en 4 ([]:List Bys) l60 with ⟨c83,x83⟩ | ⟨t83,l83⟩
    · exfalso;obtain ⟨t9,l9,h9,_⟩:=aCf (en:=en) h79;rw [h9] at htk83;cases htk83
    refine aB3 20 3 118 [(117,vP rb 0)] (K:=fun u Mn=>u=vA (tkL t83)∧∃ p' c',aAl B p60 cc60 l60 p' c' l83∧Mn=[bk rb #[vL p' l83.length c',vI en,vL q2 (ss++acc++(aBp f ad (ab+1440) n)).length cq2] 184]) [0,1,3] [2] f0 hM rfl rfl (by decide) (fun hm=>(aAj (xs:=([]:List Bys)) hm (aAB hs60 hM.fr hG) (fun k h=>by rw [aDH (b:=rb) rfl h];exact hrB) aBG 4).mono fun e w8 h=>by unfold aBf at h;rw [htk83] at h;obtain ⟨h1,p',c',h2,h3⟩:=h;exact ⟨_,_,h1,⟨rfl,p',c',h2,rfl⟩,h3⟩) fun u Mn w1 hK hM=>?_;obtain ⟨rfl,p83,cc83,hb83,rfl⟩:=hK;have hs83:=hb83 _ hs60;have hB83:aAl B p c ts p83 cc83 l83:=fun w1 h=>hb83 w1 (hB60 w1 h);obtain ⟨hto83,hkd83,hk⟩:=aAD hk htk83;have hin83:=(aAv htk83).2.2;have htl83:l60=t83::l83:=(aAv htk83).1;refine seg 6 0 [] f0 ?_;have hPn:part en ts=pre (acc++(aBp f ad (ab+1440) n)) (aB9 en f t l83):=by rw [hP,aCB hti hmo,htl83];rfl
    have hl9:=aCC hti;have hl8:l60.length=l83.length+1:=by rw [htl83];rfl
    have hdn:=aBL f ad (ab+1440) n;rw [List.append_assoc] at hM;exact aAb _ (an _ (by omega) l83 (acc++(aBp f ad (ab+1440) n)) p83 cc83 q2 cq2 _ (hs83) (hB83) hk hPn (by simp only [List.length_append];omega) (hM.pick [0,1,3]) rfl)
   exact aAb _ (bp _ 0 q cq _ (Nat.zero_le _) (hM.cast (by simp only [show aBp f ad (ab+1440) 0=[] from rfl,List.append_nil])) rfl)
  exact aAb _ (bb _ l53 [] p53 cc53 q cq _ (hs53) (hB53) hk hP (by simp only [List.length_nil];omega) (hM.cast (by simp only [List.append_nil])) rfl)
section
variable {α:Type}{en:α}
def aEa (en:α) (l:List (Tok α)):Res α (List Sp×List (Tok α)):=aD8 en (l.length+1) l
def aKI (en:α) (acc:List Sp) (l:List (Tok α)):Res α (List Sp×List (Tok α)):=if aCt 4 [aBb] l=true then pre acc (aEa en (l.drop 1)) else .ok (acc,l)
theorem aGg {l:List (Tok α)}{e:Int×α}(h:part en l = .error e):aEa en l = .error e:=by
  unfold aEa aD8;rw [h]
theorem aHA {l l2:List (Tok α)}{s:List Sp}(h:part en l = .ok (s,l2)):aEa en l=aKI en s l2:=by
  have hl:=aGH h;unfold aEa aD8 aKI;rw [h];simp only
  split
  · rename_i hs
    have hne:l2≠[]:=by rintro rfl;cases hs
    have hl2:0<l2.length:=List.length_pos_iff.2 hne;unfold aEa;rw [aKx l.length ((l2.drop 1).length+1) (l2.drop 1) (by simp;omega) (by simp)];cases aD8 en ((l2.drop 1).length+1) (l2.drop 1)<;>rfl
  · rfl
theorem aOS {acc:List Sp}{l:List (Tok α)}{e:Int×α}(hs:aCt 4 [aBb] l=true) (h:part en (l.drop 1) = .error e):aKI en acc l = .error e:=by
  unfold aKI;rw [if_pos hs,aGg h];rfl
theorem aQS {acc s:List Sp}{l l2:List (Tok α)}(hs:aCt 4 [aBb] l=true) (h:part en (l.drop 1) = .ok (s,l2)):aKI en acc l=aKI en (acc++s) l2:=by
  unfold aKI;rw [if_pos hs,aHA h];unfold aKI
  split
  · cases aEa en (l2.drop 1) with
    | error e=>rfl
    | ok r=>simp [pre,List.append_assoc]
  · rfl
theorem aOT {acc:List Sp}{l:List (Tok α)}(hs:aCt 4 [aBb] l=false):aKI en acc l = .ok (acc,l):=by
  unfold aKI;rw [if_neg (by rw [hs];simp)]
def aTm:Res α (List Sp×List (Tok α))→Res α (List Sp×List (Tok α))
  | .error e => .error e
  | .ok (s,[]) => .ok (s,[])
  | .ok (_,t::_) => .error (5,t.2.2)
def aDQ (en:α) (ts:List (Tok α)):Res α (List Sp×List (Tok α)):=aTm (aCk en ts)
theorem aG0 (ts:List (Tok α)):aG1 en ts=match aDQ en ts with | .error e => .error e | .ok (s,_) => .ok s:=by
  unfold aG1 aDQ
  cases aCk en ts with
  | error e=>rfl
  | ok r =>
    obtain ⟨s,l⟩:=r;cases l<;>rfl
theorem aFb {ts:List (Tok α)}(h1:aCt 1 [aIm] ts=false) (h2:aCt 1 [aMn] ts=false):aCk en ts=aEa en ts:=by
  unfold aCk;rw [h1,h2];simp [aEa]
end
theorem aPn {w w':World}{F:Nat→Prop}{n:String}{cs:Array Value}{g:Nat}(hg:Tryz.prog.globalNamed n=some g) (h:w.var? Tryz.prog n=some cs) (f:Fr F w w') (hF:¬ F g):w'.var? Tryz.prog n=some cs:=by
  unfold World.var? at h ⊢;rw [hg] at h ⊢;simp only [Option.bind_some] at h ⊢
  cases hb:w.heap[g]? with
  | none=>rw [hb] at h;cases h
  | some ob=>rw [f.obj hb hF,←hb];exact h
theorem Tb.fr {w w':World}{F:Nat→Prop}(h:Tb w) (f:Fr F w w') (hF:∀ r,r<7→¬ F r):Tb w' :=
  ⟨aPn (g:=6) (by kernel_rfl) h.1 f (hF _ (by decide)),aPn (g:=5) (by kernel_rfl) h.2 f (hF _ (by decide))⟩
theorem aJM {f n a b:Int}(h:n≤7):(aSq f n a b).length≤14:=by
  have h6:=aBL f a b n.toNat;have h7:aSq f n a b=aBp f a b n.toNat:=rfl;rw [h7];omega
theorem aJ4 {en:Int}{ts l:List (Tok Int)}{s:List Sp}(hk:Tk ts) (h:part en ts = .ok (s,l)):s.length+14*l.length≤14*ts.length∧l.length<ts.length:=by
  have ht:∀ {f t:Int}{ts l:List (Tok Int)}{s:List Sp},0≤f→f<7→0≤t→t<7→aDF en f t ts = .ok (s,l)→s.length+14*l.length≤14*ts.length:=by
    intro f t ts l s h1 h2 h3 h4 h;have hl:=aCC h
    have:s.length≤14:=by
      unfold aDF at h
      split at h
      · cases h
      · split at h
        · cases h
        · split at h
          · cases h
          · split at h
            · cases h
            · cases h
              exact aJM (by rw [aKH h1 h2 h3 h4];omega)
    omega
  have hts:∀ {f t:Int},0≤f→f<7→0≤t→t<7→∀ (n:Nat) {ts l:List (Tok Int)}{s:List Sp},aCr en f t n ts = .ok (s,l)→s.length+14*l.length≤14*ts.length:=by
    intro f t h1 h2 h3 h4 n
    induction n with
    | zero=>intro ts l s h;cases h
    | succ n ih =>
      intro ts l s h;unfold aCr at h
      split at h
      · cases h
      · rename_i s1 ts1 he
        have:=ht h1 h2 h3 h4 he
        split at h
        · split at h
          · cases h
          · rename_i s2 ts2 he2
            have h5:=ih he2;cases h;simp only [List.length_append,List.length_drop] at h5 ⊢;omega
        · cases h;exact this
  refine ⟨?_,aGH h⟩;unfold part at h
  split at h
  · cases h
  · rename_i a b ts1 he
    obtain ⟨h1,h2,h3,h4,_⟩:=aMN hk he;have:=aFz he;have:=hts h1 h2 h3 h4 _ h;omega
theorem Tb.lt {w:World}(h:Tb w):7≤w.heap.size:=by
  have h1:=h.1;unfold Lib.TabIs World.var? at h1;have hg:Tryz.prog.globalNamed "internal/strconv.uint64pow10" = some 6:=by kernel_rfl
  rw [hg] at h1;simp only [Option.bind_some] at h1
  cases hb:w.heap[6]? with
  | none=>rw [hb] at h1;cases h1
  | some ob=>exact aAg hb
theorem _root_.Go.Pl.Mm.low {F0:Nat→Prop}{w0 w:World}{M Ms:List Ent}(h:Mm F0 w0 w M) {B:Nat}(hG:∀ k,F0 k→B≤k) (hB:B≤w0.heap.size) {js:List Nat}(hs:aBw M js=Ms) (hn:js.Nodup):∀ k,BlM Ms k→B≤k:=fun k ⟨e,he,hb⟩=>by
  rcases Nat.lt_or_ge k w0.heap.size with h9 | h9
  · exact hG k ((h.pick js hs hn).own e he k hb h9)
  · omega
theorem aIP {α:Type}{s:List Sp}{l:List (Tok α)}{t:Tok α}(h:l[0]?=some t):aTm (.ok (s,l)) = .error (5,t.2.2):=by
  cases l with
  | nil=>cases h
  | cons a l=>cases h;rfl
theorem aIO {α:Type}{s:List Sp}{l:List (Tok α)}(h:l=[]):aTm (.ok (s,l)) = .ok (s,l):=by subst h;rfl
abbrev A95 (Φ:Ending→World→Prop):=AtO Tryz.prog (aAr Tryz.f85) (aA2 (bodyPost Tryz.prog Tryz.f85 Φ)) [] 54
theorem aFT {w:World}{G:Nat→Prop}{B rb c cq:Nat}{p q:Option Addr}{en:Int}{ts:List (Tok Int)}{ss:List Sp}(hM0:Mm G w w [bk rb #[vL p ts.length c,vI en,vL q ss.length cq] 184,rw_ spL 2 260 (vL q ss.length cq) ss]) (hs:SrcB tkL 3 w B p c ts) (hG:∀ k,G k→B≤k) (hr4:7≤B) (hk:Tk ts) (hT:Tb w) (hlen:ss.length+14*ts.length≤100000000):Calls Tryz.prog 85 #[vP rb 0] w fun e w'=>aIo w G B rb en ss p c ts (aDQ en ts) e w':=by
  refine beg Tryz.func85 rfl rfl [(0,vP rb 0)] rfl rfl fun Φ hΦ=>?_;have hM:=hM0;have hrB:B≤rb:=hG rb (hM0.own _ (.head _) rb rfl (aAg (hM0.get 0 rfl)));have hB0:aAl B p c ts p c ts:=fun _ h=>h;have hBw:B≤w.heap.size:=by have:=aAg (hM0.get 0 rfl);omega
  refine aAn 4 3 19 [(18,vP rb 0)] (cs:=#[vS [97,108,119,97,121,115]]) (T:=9) (v:=fun b=>vL (some ⟨b,0,none⟩) 1 1) f0 hM fun aq w1 hM=>aAq 4 4 20 [] f0 hM (aBc (xs:=[aIm]) (hM.get 0 rfl) (aAB hs hM.fr hG) (StV.one (hM.get 2 rfl)) 1) fun w1 hM=>seg 4 6 [(15,vB (aCt 1 [aIm] ts))] f0 ?_;cases h19:(aCt 1 [aIm] ts)
  rotate_left
  ·rcases htk35:take en 1 ([]:List Bys) ts with ⟨c35,x35⟩ | ⟨t35,l35⟩
   · exfalso;obtain ⟨t9,l9,h9,_⟩:=aCf (en:=en) h19;rw [h9] at htk35;cases htk35
   refine aB3 5 3 24 [(23,vP rb 0)] (K:=fun u Mn=>u=vA (tkL t35)∧∃ p' c',aAl B p c ts p' c' l35∧Mn=[bk rb #[vL p' l35.length c',vI en,vL q ss.length cq] 184]) [1,2] [0] f0 hM rfl rfl (by decide) (fun hm=>(aAj (xs:=([]:List Bys)) hm (aAB hs hM.fr hG) (fun k h=>by rw [aDH (b:=rb) rfl h];exact hrB) aBG 1).mono fun e w8 h=>by unfold aBf at h;rw [htk35] at h;obtain ⟨h1,p',c',h2,h3⟩:=h;exact ⟨_,_,h1,⟨rfl,p',c',h2,rfl⟩,h3⟩) fun u Mn w1 hK hM=>?_;obtain ⟨rfl,p35,cc35,hb35,rfl⟩:=hK;have hs35:=hb35 _ hs;have hB35:aAl B p c ts p35 cc35 l35:=fun w1 h=>hb35 w1 (hB0 w1 h);obtain ⟨hto35,hkd35,hk⟩:=aAD hk htk35;have hin35:=(aAv htk35).2.2;have htl35:ts=t35::l35:=(aAv htk35).1;refine aB3 6 1 26 [(25,vP rb 0)] (K:=fun u Mn=>u = .tuple #[]∧∃ q2 c2,Mn=[bk rb #[vL p35 l35.length cc35,vI en,vL q2 (ss++aCN 0 10080).length c2] 184,rw_ spL 2 260 (vL q2 (ss++aCN 0 10080).length c2) (ss++aCN 0 10080)]) [1] [2,0] f0 hM rfl rfl (by decide) (fun hm=>aDj (by omega) (by omega) (by omega) hm) fun u Mn w1 hK hM=>?_;obtain ⟨rfl,ar,au,rfl⟩:=hK;have hQ9:aCk en ts = .ok (aCN 0 10080,l35):=by unfold aCk;rw [if_pos h19,htl35];rfl
   refine seg 9 7 [(43,vB (decide (0<(l35.length:Int))))] (fc (ldm 175 1 0 hM rfl rfl) f0) ?_;cases h37:(decide (0<(l35.length:Int)))
   ·have ag:=df h37;have hnil:l35=[]:=List.eq_nil_of_length_eq_zero (by omega);exact rt0 rfl f0 (hΦ _ _ (by unfold aDQ;rw [hQ9,aIO hnil];exact ⟨rfl,_,_,_,_,hB35,hM.pick [1,2]⟩))
   have ag:=dt h37;obtain ⟨y38,ac,av,aw,q38,ah,n38⟩:=(hs35).eb hG (i:=0) (by omega);exact pan 10 10 [(53,aHh 5 y38.2.2)] 179 (.agg #[vI 5,vI y38.2.2]) (fc (ldm 175 1 0 hM rfl rfl) (fc (ix 175 cc35 q38 (gl ac)) (fc (ld0 3 hM (ah 2 _ rfl) n38) f0))) hM (fun a f9 hd=>pn_ (P:=Tryz.prog) (fn:=Tryz.f85) hd (hΦ _ _ ((by unfold aDQ;rw [hQ9,aIP ac];exact ⟨rfl,f9⟩))))
  refine aAn 7 3 31 [(30,vP rb 0)] (cs:=#[vS [110,101,118,101,114]]) (T:=9) (v:=fun b=>vL (some ⟨b,0,none⟩) 1 1) f0 hM fun ax w1 hM=>aAq 7 4 32 [] f0 hM (aBc (xs:=[aMn]) (hM.get 0 rfl) (aAB hs hM.fr hG) (StV.one (hM.get 3 rfl)) 1) fun w1 hM=>seg 7 6 [(27,vB (aCt 1 [aMn] ts))] f0 ?_;cases h21:(aCt 1 [aMn] ts)
  rotate_left
  ·rcases htk32:take en 1 ([]:List Bys) ts with ⟨c32,x32⟩ | ⟨t32,l32⟩
   · exfalso;obtain ⟨t9,l9,h9,_⟩:=aCf (en:=en) h21;rw [h9] at htk32;cases htk32
   refine aB3 8 3 36 [(35,vP rb 0)] (K:=fun u Mn=>u=vA (tkL t32)∧∃ p' c',aAl B p c ts p' c' l32∧Mn=[bk rb #[vL p' l32.length c',vI en,vL q ss.length cq] 184]) [1,2,3] [0] f0 hM rfl rfl (by decide) (fun hm=>(aAj (xs:=([]:List Bys)) hm (aAB hs hM.fr hG) (fun k h=>by rw [aDH (b:=rb) rfl h];exact hrB) aBG 1).mono fun e w8 h=>by unfold aBf at h;rw [htk32] at h;obtain ⟨h1,p',c',h2,h3⟩:=h;exact ⟨_,_,h1,⟨rfl,p',c',h2,rfl⟩,h3⟩) fun u Mn w1 hK hM=>?_;obtain ⟨rfl,p32,cc32,hb32,rfl⟩:=hK;have hs32:=hb32 _ hs;have hB32:aAl B p c ts p32 cc32 l32:=fun w1 h=>hb32 w1 (hB0 w1 h);obtain ⟨hto32,hkd32,hk⟩:=aAD hk htk32;have hin32:=(aAv htk32).2.2;have htl32:ts=t32::l32:=(aAv htk32).1;have hQ9:aCk en ts = .ok (([]:List Sp),l32):=by unfold aCk;rw [if_neg (by rw [h19];simp),if_pos h21,htl32];rfl
   refine seg 9 7 [(43,vB (decide (0<(l32.length:Int))))] (fc (ldm 175 3 0 hM rfl rfl) f0) ?_;cases h33:(decide (0<(l32.length:Int)))
   ·have ai:=df h33;have hnil:l32=[]:=List.eq_nil_of_length_eq_zero (by omega);exact rt0 rfl f0 (hΦ _ _ (by unfold aDQ;rw [hQ9,aIO hnil];exact ⟨rfl,_,_,_,_,hB32,(by rw [List.append_nil];exact hM.pick [3,0])⟩))
   have ai:=dt h33;obtain ⟨y34,ad,ay,az,q34,aj,n34⟩:=(hs32).eb hG (i:=0) (by omega);exact pan 10 10 [(53,aHh 5 y34.2.2)] 179 (.agg #[vI 5,vI y34.2.2]) (fc (ldm 175 3 0 hM rfl rfl) (fc (ix 175 cc32 q34 (gl ad)) (fc (ld0 3 hM (aj 2 _ rfl) n34) f0))) hM (fun a f9 hd=>pn_ (P:=Tryz.prog) (fn:=Tryz.f85) hd (hΦ _ _ ((by unfold aDQ;rw [hQ9,aIP ad];exact ⟨rfl,f9⟩))))
  have hTn22:Tb _:=hT.fr hM.fr fun k hk e=>by have:=hG k e;omega
  rcases hpt22:part en ts with ⟨c22,x22⟩ | ⟨s22,l22⟩
  · exact aKM 0 1 3 [(2,vP rb 0)] [0,1] f0 hM rfl (by decide) (fun hm=>(aDn (ss:=ss) hm (aAB hs hM.fr hG) (hM.low hG hBw (js:=[0,1]) rfl (by decide)) hk hTn22 (by omega)).mono fun e w8 h=>by unfold aIo at h;rw [hpt22] at h;exact h) (fun a w9 f9 hd=>pn_ (P:=Tryz.prog) (fn:=Tryz.f85) hd (hΦ _ _ ((by unfold aDQ;rw [aFb h19 h21,aGg hpt22];exact ⟨rfl,f9⟩))))
  refine aB3 0 1 3 [(2,vP rb 0)] (K:=fun u Mn=>u = .tuple #[]∧∃ p' c' q' cq',aAl B p c ts p' c' l22∧Mn=[bk rb #[vL p' l22.length c',vI en,vL q' (ss++s22).length cq'] 184,rw_ spL 2 260 (vL q' (ss++s22).length cq') (ss++s22)]) [2,3] [0,1] f0 hM rfl rfl (by decide) (fun hm=>(aDn (ss:=ss) hm (aAB hs hM.fr hG) (hM.low hG hBw (js:=[0,1]) rfl (by decide)) hk hTn22 (by omega)).mono fun e w8 h=>by unfold aIo at h;rw [hpt22] at h;obtain ⟨h1,p',c',q',cq',h2,h3⟩:=h;exact ⟨_,_,h1,⟨rfl,p',c',q',cq',h2,rfl⟩,h3⟩) fun u Mn w1 hK hM=>?_;obtain ⟨rfl,p22,cc22,aa,ab,hb22,rfl⟩:=hK;have hs22:=hb22 _ hs;have hB22:aAl B p c ts p22 cc22 l22:=fun w1 h=>hb22 w1 (hB0 w1 h);have hpc22:=aJ4 hk hpt22;have hk:=(aGG hk hpt22).2;have hQ:aCk en ts=aKI en s22 l22:=by rw [aFb h19 h21,aHA hpt22]
  have hM:Mm G w _ [rw_ spL 2 260 (vL aa (ss++s22).length ab) (ss++s22),bk rb #[vL p22 l22.length cc22,vI en,vL aa (ss++s22).length ab] 184]:=(hM.pick [3,2]);refine seg 1 0 [] f0 ?_
  have ak:∀ (ae:Nat) (l:List (Tok Int)) (acc:List Sp) (pl:Option Addr) (cl:Nat) (q:Option Addr) (cq:Nat) (w2:World),SrcB tkL 3 w B pl cl l→aAl B p c ts pl cl l→Tk l→aCk en ts=aKI en acc l→acc.length+14*l.length≤14*ts.length→Mm G w w2 [rw_ spL 2 260 (vL q (ss++acc).length cq) (ss++acc),bk rb #[vL pl l.length cl,vI en,vL q (ss++acc).length cq] 184]→ae=l.length→A95 Φ (some (1,0)) [(0,vP rb 0)] w2:=by
   refine aBh fun ae al l acc pl cl q cq w2 hs2 hB2 hk hQ hal hM a0=>aAn 1 3 7 [(6,vP rb 0)] (cs:=#[vS [44]]) (T:=9) (v:=fun b=>vL (some ⟨b,0,none⟩) 1 1) f0 hM fun a1 w1 hM=>aAq 1 4 8 [] f0 hM (aBc (xs:=[aBb]) (hM.get 1 rfl) (aAB hs2 hM.fr hG) (StV.one (hM.get 2 rfl)) 4) fun w1 hM=>?_;cases h27:(aCt 4 [aBb] l)
   ·have hQ9:aCk en ts = .ok (acc,l):=by rw [hQ];exact aOT h27
    refine seg 9 7 [(43,vB (decide (0<(l.length:Int))))] (fc (ldm 175 1 0 hM rfl rfl) f0) ?_;cases h28:(decide (0<(l.length:Int)))
    ·have am:=df h28;have hnil:l=[]:=List.eq_nil_of_length_eq_zero (by omega);exact rt0 rfl f0 (hΦ _ _ (by unfold aDQ;rw [hQ9,aIO hnil];exact ⟨rfl,_,_,_,_,hB2,hM.pick [1,0]⟩))
    have am:=dt h28;obtain ⟨y29,af,a2,a3,q29,an,n29⟩:=(hs2).eb hG (i:=0) (by omega);exact pan 10 10 [(53,aHh 5 y29.2.2)] 179 (.agg #[vI 5,vI y29.2.2]) (fc (ldm 175 1 0 hM rfl rfl) (fc (ix 175 cl q29 (gl af)) (fc (ld0 3 hM (an 2 _ rfl) n29) f0))) hM (fun a f9 hd=>pn_ (P:=Tryz.prog) (fn:=Tryz.f85) hd (hΦ _ _ ((by unfold aDQ;rw [hQ9,aIP af];exact ⟨rfl,f9⟩))))
   rcases htk30:take en 4 ([]:List Bys) l with ⟨c30,x30⟩ | ⟨t30,l30⟩
   · exfalso;obtain ⟨t9,l9,h9,_⟩:=aCf (en:=en) h27;rw [h9] at htk30;cases htk30
   refine aB3 2 3 12 [(11,vP rb 0)] (K:=fun u Mn=>u=vA (tkL t30)∧∃ p' c',aAl B pl cl l p' c' l30∧Mn=[bk rb #[vL p' l30.length c',vI en,vL q (ss++acc).length cq] 184]) [0,2] [1] f0 hM rfl rfl (by decide) (fun hm=>(aAj (xs:=([]:List Bys)) hm (aAB hs2 hM.fr hG) (fun k h=>by rw [aDH (b:=rb) rfl h];exact hrB) aBG 4).mono fun e w8 h=>by unfold aBf at h;rw [htk30] at h;obtain ⟨h1,p',c',h2,h3⟩:=h;exact ⟨_,_,h1,⟨rfl,p',c',h2,rfl⟩,h3⟩) fun u Mn w1 hK hM=>?_;obtain ⟨rfl,p30,cc30,hb30,rfl⟩:=hK;have hs30:=hb30 _ hs2;have hB30:aAl B p c ts p30 cc30 l30:=fun w1 h=>hb30 w1 (hB2 w1 h);obtain ⟨hto30,hkd30,hk⟩:=aAD hk htk30;have hin30:=(aAv htk30).2.2;have htl30:l=t30::l30:=(aAv htk30).1;have hl6:l.length=l30.length+1:=by rw [htl30];rfl
   have hTn31:Tb _:=hT.fr hM.fr fun k hk e=>by have:=hG k e;omega
   rcases hpt31:part en l30 with ⟨c31,x31⟩ | ⟨s31,l31⟩
   · exact aKM 3 1 14 [(13,vP rb 0)] [2,0] f0 hM rfl (by decide) (fun hm=>(aDn (ss:=(ss++acc)) hm (aAB hs30 hM.fr hG) (hM.low hG hBw (js:=[2,0]) rfl (by decide)) hk hTn31 (by simp only [List.length_append];omega)).mono fun e w8 h=>by unfold aIo at h;rw [hpt31] at h;exact h) (fun a w9 f9 hd=>pn_ (P:=Tryz.prog) (fn:=Tryz.f85) hd (hΦ _ _ ((by unfold aDQ;rw [hQ,aOS h27 (by rw [htl30];exact hpt31)];exact ⟨rfl,f9⟩))))
   refine aB3 3 1 14 [(13,vP rb 0)] (K:=fun u Mn=>u = .tuple #[]∧∃ p' c' q' cq',aAl B p30 cc30 l30 p' c' l31∧Mn=[bk rb #[vL p' l31.length c',vI en,vL q' ((ss++acc)++s31).length cq'] 184,rw_ spL 2 260 (vL q' ((ss++acc)++s31).length cq') ((ss++acc)++s31)]) [1] [2,0] f0 hM rfl rfl (by decide) (fun hm=>(aDn (ss:=(ss++acc)) hm (aAB hs30 hM.fr hG) (hM.low hG hBw (js:=[2,0]) rfl (by decide)) hk hTn31 (by simp only [List.length_append];omega)).mono fun e w8 h=>by unfold aIo at h;rw [hpt31] at h;obtain ⟨h1,p',c',q',cq',h2,h3⟩:=h;exact ⟨_,_,h1,⟨rfl,p',c',q',cq',h2,rfl⟩,h3⟩) fun u Mn w1 hK hM=>?_;obtain ⟨rfl,p31,cc31,ao,ap,hb31,rfl⟩:=hK;have hs31:=hb31 _ hs30;have hB31:aAl B p c ts p31 cc31 l31:=fun w1 h=>hb31 w1 (hB30 w1 h);have hpc31:=aJ4 hk hpt31;have hk:=(aGG hk hpt31).2;refine seg 1 0 [] f0 ?_;have hQn:aCk en ts=aKI en (acc++s31) l31:=by rw [hQ];exact aQS h27 (by rw [htl30];exact hpt31)
   have hl7:l.length=l30.length+1:=by rw [htl30];rfl
   rw [List.append_assoc ss acc] at hM;exact aAb _ (al _ (by omega) l31 (acc++s31) p31 cc31 ao ap _ (hs31) (hB31) hk hQn (by simp only [List.length_append];omega) (hM.pick [2,1]) rfl)
  exact aAb _ (ak _ l22 s22 p22 cc22 aa ab _ (hs22) (hB22) hk hQ (by omega) hM rfl)
theorem aNM {en:Int}{ts l:List (Tok Int)}{s:List Sp}(hk:Tk ts) (h:aDQ en ts = .ok (s,l)):s.length≤2*ts.length+2:=by
  have ht:∀ {f t:Int}{ts l:List (Tok Int)}{s:List Sp},0≤f→f<7→0≤t→t<7→aDF en f t ts = .ok (s,l)→s.length+2*l.length≤2*ts.length:=by
    intro f t ts l s h1 h2 h3 h4 h;have hl:=aCC h
    have:s.length≤14:=by
      unfold aDF at h
      split at h
      · cases h
      · split at h
        · cases h
        · split at h
          · cases h
          · split at h
            · cases h
            · cases h
              exact aJM (by rw [aKH h1 h2 h3 h4];omega)
    omega
  have hts:∀ {f t:Int},0≤f→f<7→0≤t→t<7→∀ (n:Nat) {ts l:List (Tok Int)}{s:List Sp},aCr en f t n ts = .ok (s,l)→s.length+2*l.length≤2*ts.length:=by
    intro f t h1 h2 h3 h4 n
    induction n with
    | zero=>intro ts l s h;cases h
    | succ n ih =>
      intro ts l s h;unfold aCr at h
      split at h
      · cases h
      · rename_i s1 ts1 he
        have:=ht h1 h2 h3 h4 he
        split at h
        · split at h
          · cases h
          · rename_i s2 ts2 he2
            have h5:=ih he2;cases h;simp only [List.length_append,List.length_drop] at h5 ⊢;omega
        · cases h;exact this
  have hp:∀ {ts l:List (Tok Int)}{s:List Sp},Tk ts→part en ts = .ok (s,l)→s.length+2*l.length≤2*ts.length:=by
    intro ts l s hk h;unfold part at h
    split at h
    · cases h
    · rename_i a b ts1 he
      obtain ⟨h1,h2,h3,h4,_⟩:=aMN hk he;have:=aFz he;have:=hts h1 h2 h3 h4 _ h;omega
  have hps:∀ (n:Nat) {ts l:List (Tok Int)}{s:List Sp},Tk ts→aD8 en n ts = .ok (s,l)→s.length+2*l.length≤2*ts.length:=by
    intro n
    induction n with
    | zero=>intro ts l s _ h;cases h
    | succ n ih =>
      intro ts l s hk h;unfold aD8 at h
      split at h
      · cases h
      · rename_i s1 ts1 he
        have h1:=hp hk he;have k1:=(aGG hk he).2
        split at h
        · split at h
          · cases h
          · rename_i s2 ts2 he2
            have h5:=ih (k1.drop 1) he2;cases h;simp only [List.length_append,List.length_drop] at h5 ⊢;omega
        · cases h;exact h1
  have hq:∀ {l:List (Tok Int)}{s:List Sp},aCk en ts = .ok (s,l)→s.length≤2*ts.length+2:=by
    intro l s h;unfold aCk at h
    split at h
    · cases h;unfold aCN;split<;>simp
    · split at h
      · cases h;simp
      · have:=hps _ hk h;omega
  unfold aDQ at h
  cases hqq:aCk en ts with
  | error e=>rw [hqq] at h;cases h
  | ok r =>
    obtain ⟨s1,l1⟩:=r;rw [hqq] at h;have:=hq hqq
    cases l1 with
    | nil=>cases h;exact this
    | cons t l1=>cases h
abbrev aSW (fn:Func):Code:=match fn.body with | some (.seq _ y)=>y | _ => .skip
theorem aOW {w:World}{G:Nat→Prop}{b2 b3 b4 m k:Nat}{p:Option Addr}{e0 x0 c x:Int}{Q:Exit→Act→World→Prop}(hM0:Mm G w w [bk b2 #[vL p m k] 98,bk b3 #[vI e0] 31,bk b4 #[vI x0] 3]) (hQ:∀ a w',a.defers=[]→Mm G w w' [bk b2 #[vL none 0 0] 98,bk b3 #[vI c] 31,bk b4 #[vI x] 3]→Q .ret a w'∧Q .normal a w'):AtO Tryz.prog (aSW Tryz.f84) (aA2 Q) [] 14 none [(0,vP b2 0),(1,vP b3 0),(2,vP b4 0),(3,aHh c x)] w:=by
  have hM:=hM0;refine opp 1 1 7 [(6,aHh c x)] (v:=vB true) f0 (opp 2 1 9 [(8,aHh c x)] (v := .agg #[vI c,vI x]) f0 (aBD 2 2 4 [] [] 179 (.agg #[vI c,vI x]) f0 hM fun aa w1 hM=>seg 3 0 [] f0 (drx [4,5,6] (fun γ=>[none,none,none]) _ (fun γ l=>[bk b2 #[(bif l.getD 0 false then vL none 0 0 else vL p m k)] 98,bk b3 #[(bif l.getD 1 false then vI c else vI e0)] 31,bk b4 #[(bif l.getD 2 false then vI x else vI x0)] 3,bk aa #[vI c,vI x] 179]) (fun γ=>[]) hM (fun γ=>rfl) (fun γ l w5 hM=>(fc (ldm 31 3 0 hM rfl rfl) (fc (ldm 3 3 1 hM rfl rfl) f0))) ⟨aA6 0 4 98 0 0 (fun γ=>b2) (fun γ l=>#[(bif l.getD 0 false then vL none 0 0 else vL p m k)]) 98 (fun γ=>vL none 0 0),aA6 1 5 31 1 0 (fun γ=>b3) (fun γ l=>#[(bif l.getD 1 false then vI c else vI e0)]) 31 (fun γ=>vI c),aA6 2 6 3 2 0 (fun γ=>b4) (fun γ l=>#[(bif l.getD 2 false then vI x else vI x0)]) 3 (fun γ=>vI x),trivial⟩ fun ab w1 hM=>?_)));replace hM:Mm G w w1 [bk b2 #[vL none 0 0] 98,bk b3 #[vI c] 31,bk b4 #[vI x] 3,bk aa #[vI c,vI x] 179]:=hM;exact aMH [] f0 (by kernel_rfl) fun a E=>hQ a _ E.df (hM.pick [0,1,2])
theorem aJb {w:World}{G:Nat→Prop}{b2 b3 b4 m k:Nat}{p:Option Addr}{e0 x0:Int}(c x:Int) (hM0:Mm G w w [bk b2 #[vL p m k] 98,bk b3 #[vI e0] 31,bk b4 #[vI x0] 3]):CallsD Tryz.prog 84 #[vP b2 0,vP b3 0,vP b4 0] (.panicking (pn c x)) w fun e u w'=>e = .returned (.tuple #[])∧u = .panicking [{ v:=aHh c x,recovered:=true }]∧Mm G w w' [bk b2 #[vL none 0 0] 98,bk b3 #[vI c] 31,bk b4 #[vI x] 3]:=by
  refine callsD_of_wpS Tryz.func84 rfl fun c₀ cs hu=>?_;apply wpS_seq;apply wpS_region;simp [wpOpsS,go_sem,recoverD,hu,Tryz.ntmps94,Exit.thenS];refine wpS_of_wp ((fun (H:∀ a,EnvS [] 14 [(0,vP b2 0),(1,vP b3 0),(2,vP b4 0),(3,aHh c x)] a→Code.wp Tryz.prog _ _ a w)=>H _ ⟨by rfl,fun s v hs=>by (have hz:=aAU hs;simp at hz;rcases hz with ⟨rfl,rfl⟩ | ⟨rfl,rfl⟩ | ⟨rfl,rfl⟩ | ⟨rfl,rfl⟩<;>rfl),rfl⟩) fun a E=>?_)
  exact wpIn_wide.1 (aOW (Q:=_) hM0 (fun a w' hd h=>by
    have hr:(results Tryz.f84 a.tmps).run Tryz.prog w' = .ok (.tuple #[]) w':=by simp [results,Tryz.results94]
    exact ⟨⟨hd,_,rfl,.tuple #[],hr,rfl,rfl,h⟩,⟨hd,_,rfl,.tuple #[],hr,rfl,rfl,h⟩⟩) a E)
theorem aGm (b2 b3 b4:Nat) (w:World):CallsD Tryz.prog 84 #[vP b2 0,vP b3 0,vP b4 0] .returning w fun e u w'=>e = .returned (.tuple #[])∧u = .returning∧w'=w:=by
  refine callsD_of_wpS Tryz.func84 rfl fun c₀ cs hu=>?_;apply wpS_seq;apply wpS_region;simp [wpOpsS,go_sem,recoverD,hu,Tryz.ntmps94,Exit.thenS];apply wpS_seq;apply wpS_region;simp [wpOpsS,go_sem,Exit.thenS];refine wpS_cond (t:=false) (by simp [Act.eval,Array.replicate]) ?_;simp only [Bool.false_eq_true,if_false];refine wpS_of_wp (k_ ?_);cases c₀
  simp_all [bodyPostS,results,Tryz.results94]
def aGh (s:Bys) (w w':World) (e:Ending):Prop:=match aCL s with
  | .error (c,x)=>e = .returned (.tuple #[vL none 0 0,vI c,vI x])
  | .ok l=>∃ v,e = .returned (.tuple #[v,vI 0,vI 0])∧aHj spL 2 260 w w' v l
theorem aIC {s:Bys}(hl:s.length≤4900) {w:World}(hT:Tb w):Calls Tryz.prog 38 #[vS s] w fun e w'=>aGh s w w' e∧Fr (fun _=>False) w w':=by
  rcases hlx:aNv s with ⟨c,x⟩ | ts
  · rcases aEz s with ⟨c9,x9,h9,hc8,-⟩ | ⟨h9,-⟩
    · rw [hlx] at h9
      have hc9:c≠0:=by cases h9;exact hc8
      clear h9 hc8 c9 x9;refine aTL Tryz.func38 rfl rfl [(0,vS s)] rfl rfl fun Φ hΦ=>?_;have hM:=Mm.nil (fun _=>False) w;refine aAn 0 0 2 [] (cs:=#[vL none 0 0]) (T:=98) (v:=fun b=>vP b 0) f0 hM fun ac w1 hM=>aAn 0 1 3 [] (cs:=#[vI 0]) (T:=31) (v:=fun b=>vP b 0) f0 hM fun ad w1 hM=>aAn 0 2 4 [] (cs:=#[vI 0]) (T:=3) (v:=fun b=>vP b 0) f0 hM fun ab w1 hM=>aTp 1 1 10 [(9,vS s)] (v := .tuple #[vL none 0 0,vI c,vI x]) (K:=fun w8=>Fr (fun _=>False) _ w8) f0 ((aHE (s:=s) (by omega) _).mono fun e w8 h=>by unfold aRX at h;rw [hlx] at h;obtain ⟨⟨v,h1,h2⟩,h3⟩:=h;subst h2;exact ⟨h1,h3⟩) fun w1 f1=>?_;have hM:=hM.q f1;refine stm 1 8 [(13,vI x),(5,vL none 0 0),(6,vI c)] 3 2 0 (vI x) f0 hM rfl fun w1 hM=>seg 2 2 [(15,vB (!(c==0)))] f0 ?_;cases h44:(c==0)
      rotate_left
      ·have aj:=et h44;exact absurd aj hc9
      have aj:=ef h44;refine seg 3 0 [] f0 (drx [1,2,3,4] (fun γ=>[some (vI x),none,none,none]) _ (fun γ l=>[bk ac #[(bif l.getD 1 false then vL none 0 0 else vL none 0 0)] 98,bk ad #[(bif l.getD 2 false then vI c else vI 0)] 31,bk ab #[(bif l.getD 3 false then vI x else vI x)] 3]) (fun γ=>[]) hM (fun γ=>rfl) (fun γ l w5 hM=>f0) ⟨aHb 0 1 3 2 0 17 (fun γ=>ab) (fun γ l=>#[(bif l.getD 3 false then vI x else vI x)]) 3 (fun γ=>vI x),aA6 1 2 98 0 0 (fun γ=>ac) (fun γ l=>#[(bif l.getD 1 false then vL none 0 0 else vL none 0 0)]) 98 (fun γ=>vL none 0 0),aA6 2 3 31 1 0 (fun γ=>ad) (fun γ l=>#[(bif l.getD 2 false then vI c else vI 0)]) 31 (fun γ=>vI c),aA6 3 4 3 2 0 (fun γ=>ab) (fun γ l=>#[(bif l.getD 3 false then vI x else vI x)]) 3 (fun γ=>vI x),trivial⟩ fun al w1 hM=>?_);replace hM:Mm (fun _=>False) w w1 [bk ac #[vL none 0 0] 98,bk ad #[vI c] 31,bk ab #[vI x] 3]:=hM;replace hM:Mm (fun _=>False) w _ [bk ac #[vL none 0 0] 98,bk ad #[vI c] 31,bk ab #[vI x] 3]:=hM;exact aST 0 1 2 rfl f0 hM rfl rfl rfl (hΦ _ _ ⟨by unfold aGh aCL;rw [hlx],hM.fr⟩)
    · rw [hlx] at h9;cases h9
  · obtain ⟨-,-,hk,-,hlt⟩:=aMx hlx
    refine aTL Tryz.func38 rfl rfl [(0,vS s)] rfl rfl fun Φ hΦ=>?_;have hM:=Mm.nil (fun _=>False) w;refine aAn 0 0 2 [] (cs:=#[vL none 0 0]) (T:=98) (v:=fun b=>vP b 0) f0 hM fun ae w1 hM=>aAn 0 1 3 [] (cs:=#[vI 0]) (T:=31) (v:=fun b=>vP b 0) f0 hM fun af w1 hM=>aAn 0 2 4 [] (cs:=#[vI 0]) (T:=3) (v:=fun b=>vP b 0) f0 hM fun ag w1 hM=>cal 1 1 10 [(9,vS s)] (K:=fun u w8=>∃ v,u = .tuple #[v,vI 0,vI 0]∧aHj tkL 3 253 w1 w8 v ts∧Fr (fun _=>False) w1 w8) f0 ((aHE (s:=s) (by omega) _).mono fun e w8 h=>by unfold aRX at h;rw [hlx] at h;obtain ⟨⟨v,h1,h2⟩,h3⟩:=h;exact ⟨_,h1,v,rfl,h2,h3⟩) fun u w1 ⟨v,hu,hO,f1⟩=>?_;subst hu;have hM:=hM.add f1 (rw_ tkL 3 253 v ts) hO.1 hO.2;obtain ⟨pt,ct,rfl,-⟩:=hO.op tkT.len;refine stm 1 8 [(13,vI 0),(5,vL pt ts.length ct),(6,vI 0)] 3 2 0 (vI 0) f0 hM rfl fun w1 hM=>dfr 4 1 [(18,.func (.func 84) #[] #[vP ae 0,vP af 0,vP ag 0])] 84 #[vP ae 0,vP af 0,vP ag 0] f0 ?_ rfl;obtain ⟨B,hB⟩:∃ B,B=w1.heap.size:=⟨_,rfl⟩;have hst:SrcB tkL 3 w1 B pt ct ts:=by rw [hB];obtain ⟨pt9,ct9,h9,h8⟩:=(hM.src (j:=3) rfl tkT.len).op;cases h9;exact h8.b (Fr.refl _ _)
    have hB5:7≤B:=by have:=hM.fr.size;have:=hT.lt;omega
    refine aTf 5 5 24 [(23,.agg #[vL pt ts.length ct,vI (s.length:Int),vL none 0 0])] (cs:=#[vL pt ts.length ct,vI (s.length:Int),vL none 0 0]) (T:=184) (v:=fun b=>vP b 0) (fc (aGz 9 s) f0) hM fun aa w1 f170 hrb hM=>?_;have hrb:=hB▸hrb;have hst:=aAB hst f170 fun _ h=>h.elim;have hM:=hM.row (f:=spL) (c:=2) (E:=260);have hTn:Tb _:=hT.fr hM.fr fun _ _ h=>h
    skip
    rcases hqt:aDQ (s.length:Int) ts with ⟨c,x⟩ | ⟨sp,l9⟩
    · refine aTq 6 1 26 [(7,vP aa 0),(25,vP aa 0)] (ch:=pn c x) [0,1,2] [4,5] f0 hM rfl rfl (by decide) (fun hm=>(aFT (ss:=[]) (en:=(s.length:Int)) hm hst (fun k h=>(aTJ rfl h).elim (fun h=>by rw [h];exact hrb) fun h=>by cases h) hB5 hk hTn (by simp only [List.length_nil];omega)).mono fun e w8 h=>by unfold aIo at h;rw [hqt] at h;exact h) fun a w9 hM9 E=>?_
      refine aTc (v2:=vL none 0 0) (v3:=vI c) (v4:=vI x) (ch':=[{ v:=aHh c x,recovered:=true }]) (fun _=>by simp [go_sem]) rfl E rfl rfl rfl (by kernel_rfl) rfl ((aJb c x (hM9.re (G:=BlM _) fun e he k hk=>⟨e,he,hk⟩)).mono ?_);rintro e u w8 ⟨rfl,rfl,h9⟩;have hM8:=hM9.call (A:=[]) h9 fun _ _ h=>h;refine ⟨rfl,rfl,h9.get 0 rfl,h9.get 1 rfl,h9.get 2 rfl,hΦ _ _ ⟨?_,hM8.fr⟩⟩;unfold aGh aCL;rw [hlx];simp only;rw [aG0,hqt]
    refine aB3 6 1 26 [(7,vP aa 0),(25,vP aa 0)] (K:=fun u Mn=>u = .tuple #[]∧∃ p' c' q' cq',Mn=[bk aa #[vL p' l9.length c',vI (s.length:Int),vL q' sp.length cq'] 184,rw_ spL 2 260 (vL q' sp.length cq') sp]) [0,1,2,3] [4,5] f0 hM rfl rfl (by decide) (fun hm=>(aFT (ss:=[]) (en:=(s.length:Int)) hm hst (fun k h=>(aTJ rfl h).elim (fun h=>by rw [h];exact hrb) fun h=>by cases h) hB5 hk hTn (by simp only [List.length_nil];omega)).mono fun e w8 h=>by unfold aIo at h;rw [hqt] at h;obtain ⟨h1,p',c',q',cq',h2,h3⟩:=h;exact ⟨_,_,h1,⟨rfl,p',c',q',cq',rfl⟩,h3⟩) fun u Mn w1 hK hM=>?_;obtain ⟨rfl,p9,c9,q9,cq9,rfl⟩:=hK;have hcn:=aNM hk hqt;have hwk:wk sp:=aJo hk (by rw [aG0,hqt]);refine aHY 7 4 31 [(30,vL q9 sp.length cq9)] (f:=spL) (c:=2) (E:=260) (A:=(aE6 sp)) (fc (ldm 98 4 2 hM rfl rfl) f0) hM (aHq (hM.src (j:=5) rfl spT.len) hwk (by omega)) fun u w1 hM=>?_;obtain ⟨ah,ai,eqa50,sqa50⟩:=(hM.src (j:=6) rfl spT.len).op;subst eqa50;refine stm 7 5 [] 98 0 0 (vL ah (aE6 sp).length ai) f0 hM rfl fun w1 hM=>seg 8 3 [(34,vB (decide (60<((aE6 sp).length:Int))))] (fc (ldm 98 0 0 hM rfl rfl) f0) ?_;cases h51:(decide (60<((aE6 sp).length:Int)))
    ·have ak:=df h51;refine stm 10 1 [(37,vL ah (aE6 sp).length ai)] 98 0 0 (vL ah (aE6 sp).length ai) (fc (ldm 98 0 0 hM rfl rfl) f0) hM rfl fun w1 hM=>stm 10 2 [] 31 1 0 (vI 0) f0 hM rfl fun w1 hM=>stm 10 3 [] 3 2 0 (vI 0) f0 hM rfl fun w1 hM=>?_;replace hM:Mm (fun _=>False) w _ [bk ae #[vL ah (aE6 sp).length ai] 98,bk af #[vI 0] 31,bk ag #[vI 0] 3,_,bk aa #[vL p9 l9.length c9,vI (s.length:Int),vL q9 sp.length cq9] 184,_,_]:=hM
     have hP:aCL s = .ok (aE6 sp):=by
       unfold aCL;rw [hlx];simp only;rw [aG0,hqt];simp only;rw [if_neg (by have:=of_decide_eq_false h51;omega)]
     exact aRD (fun _=>by simp [go_sem]) 0 1 2 rfl (aGm _ _ _ _) f0 hM rfl rfl rfl (hΦ _ _ ⟨by unfold aGh;rw [hP];exact ⟨_,rfl,hM.nrow (j:=6) rfl⟩,hM.fr⟩)
    have ak:=dt h51;refine stm 9 2 [(36,vI (s.length:Int))] 98 0 0 (vL none 0 0) (fc (aGz 9 s) f0) hM rfl fun w1 hM=>stm 9 3 [] 31 1 0 (vI 2) f0 hM rfl fun w1 hM=>stm 9 4 [] 3 2 0 (vI (s.length:Int)) f0 hM rfl fun w1 hM=>?_;replace hM:Mm (fun _=>False) w _ [bk ae #[vL none 0 0] 98,bk af #[vI 2] 31,bk ag #[vI (s.length:Int)] 3,_,bk aa #[vL p9 l9.length c9,vI (s.length:Int),vL q9 sp.length cq9] 184,_,_]:=hM
    have hP:aCL s = .error (2,(s.length:Int)):=by
      unfold aCL;rw [hlx];simp only;rw [aG0,hqt];simp only;rw [if_pos (by have:=of_decide_eq_true h51;omega)]
    exact aRD (fun _=>by simp [go_sem]) 0 1 2 rfl (aGm _ _ _ _) f0 hM rfl rfl rfl (hΦ _ _ ⟨by unfold aGh;rw [hP],hM.fr⟩)
def aTy (w:World) (g:Nat):Prop:=∃ ev,w.cell? ⟨g,0,none⟩=some ev∧(ev = .nilIface∨∃ te pe,ev = .iface te pe)
structure Te (w:World):Prop where
  tb:Tb w
  e0:aTy w 3
  e1:aTy w 4
theorem Te.fr {w w':World}(h:Te w) (f:Fr (fun _=>False) w w'):Te w' :=
  ⟨h.tb.fr f fun _ _ h=>h,let ⟨ev,h1,h2⟩:=h.e0;⟨ev,f.cell h1 id,h2⟩,let ⟨ev,h1,h2⟩:=h.e1;⟨ev,f.cell h1 id,h2⟩⟩
theorem aMg (s:Bys):(ofL s).data.toList=s:=by unfold ofL;simp
def aJd (s:Bys):Option Int:=match Lib.atoiAll s with
  | .ok v=>some v
  | _=>none
theorem aGn {w:World}{s:Bys}(hs:s.length≤281474976710656) (hT:Te w):Calls Tryz.prog 87 #[vS s] w fun e w'=>(∃ n ev,e = .returned (.tuple #[vI n,ev])∧((aJd s=some n∧ev = .nilIface ∧ -9223372036854775808≤n∧n≤9223372036854775807)∨(aJd s=none∧∃ T v,ev = .iface T v)))∧Fr (fun _=>False) w w':=by
  have hsz:(ofL s).size=s.length:=aBk s;cases h:Lib.atoiAll s
  · rename_i v
    have h1:=h;rw [←aMg s] at h1;refine (Go.Proofs.Any.strconv_Atoi_ok Tryz.laysC172 (ofL s) (by omega) v h1 w).mono ?_;rintro e w' ⟨rfl,hw⟩;obtain ⟨b1,b2⟩:=Lib.atoiAll_bounds h;refine ⟨⟨v,.nilIface,rfl,.inl ⟨by unfold aJd;rw [h],rfl,b1,b2⟩⟩,?_⟩;rcases hw with rfl | ⟨t,rfl⟩
    · exact Fr.refl _ _
    · exact aIb _ _ _
  · have h1:=h
    rw [←aMg s] at h1;obtain ⟨ev,hv,hev⟩:=hT.e0;refine (Go.Proofs.Any.strconv_Atoi_syntax Tryz.laysC172 (ofL s) (by omega) h1 ev w hv hev).mono ?_;rintro e w' ⟨N,rfl,_,_,hb⟩;exact ⟨⟨_,_,rfl,.inr ⟨by unfold aJd;rw [h],_,_,rfl⟩⟩,Fr.of_below hb⟩
  · have h1:=h
    rw [←aMg s] at h1;obtain ⟨ev,hv,hev⟩:=hT.e1;refine (Go.Proofs.Any.strconv_Atoi_range Tryz.laysC172 (ofL s) (by omega) h1 ev w hv hev).mono ?_;rintro e w' ⟨N,rfl,_,_,hb⟩;exact ⟨⟨_,_,rfl,.inr ⟨by unfold aJd;rw [h],_,_,rfl⟩⟩,Fr.of_below hb⟩
theorem Fr.grow_ (w:World) (k:Nat) (os:Array Obj):Fr (fun _=>False) w (Go.Sort.grow (w.drewN k) os) :=
  ⟨rfl,rfl,rfl,by show _≤(w.heap++os).size;simp,fun r hr _=>by show (w.heap++os)[r]?=_;rw [Array.getElem?_append_left hr]⟩
theorem aK6 {w:World}(n:Int) (h0 : -9223372036854775808≤n) (h1:n≤9223372036854775807) (hT:Te w):Calls Tryz.prog 88 #[vI n] w fun e w'=>e = .returned (vS (Lib.itoa n))∧Fr (fun _=>False) w w' :=
  (Tryz.strconv_Itoa n h0 h1 w hT.tb.1).mono fun e w' ⟨h2,k,os,h3⟩=>⟨h2,h3▸Fr.grow_ w k os⟩
def aA7 (s:Bys):Int:=match aJd s with
  | some n=>bif decide (n<1)||decide (9999999<n) || !(Lib.itoa n==s) then 100 else n
  | none=>100
theorem aCD {w:World}{s:Bys}(hs:s.length≤281474976710656) (hT:Te w):Calls Tryz.prog 39 #[vS s] w fun e w'=>e = .returned (vI (aA7 s))∧Fr (fun _=>False) w w':=by
  cases hat:aJd s with
  | none =>
    refine beg Tryz.func39 rfl rfl [(0,vS s)] rfl rfl fun Φ hΦ=>?_;have hM:=Mm.nil (fun _=>False) w;refine cal 1 1 7 [(6,vS s)] (K:=fun u w8=>∃ n T v,u = .tuple #[vI n,.iface T v]∧Fr (fun _=>False) w w8) f0 ((aGn hs (hT.fr hM.fr)).mono fun e w8 ⟨⟨n1,ev,h1,h2⟩,h3⟩=>by rcases h2 with ⟨h4,_⟩ | ⟨h4,T,v,rfl⟩<;>rw [hat] at h4<;>cases h4;exact ⟨_,h1,n1,T,v,rfl,h3⟩) fun u w1 ⟨n,T,v,hu,f1⟩=>?_;subst hu;have hM:=hM.q f1;refine opp 2 1 11 [(3,vI n),(10,.iface T v)] (v:=vB true) f0 (rt1 2 (vI 100) rfl f0 (hΦ _ _ ⟨by unfold aA7;rw [hat],hM.fr⟩))
  | some n =>
    refine beg Tryz.func39 rfl rfl [(0,vS s)] rfl rfl fun Φ hΦ=>?_;have hM:=Mm.nil (fun _=>False) w;refine aTp 1 1 7 [(6,vS s)] (v := .tuple #[vI n,.nilIface]) (K:=fun w8=>Fr (fun _=>False) _ w8) f0 ((aGn hs (hT.fr hM.fr)).mono fun e w8 ⟨⟨n1,ev,h1,h2⟩,h3⟩=>by rcases h2 with ⟨h4,rfl,_⟩ | ⟨h4,_⟩<;>rw [hat] at h4<;>cases h4;exact ⟨h1,h3⟩) fun w1 f1=>?_;have hM:=hM.q f1;refine opp 2 1 11 [(3,vI n),(10,.nilIface)] (v:=vB false) f0 (seg 2 7 [(16,vB (decide (n<1)))] f0 ?_);cases h78:(decide (n<1))
    rotate_left
    ·have aa:=dt h78;exact rt1 2 (vI 100) rfl f0 (hΦ _ _ ⟨by unfold aA7;rw [hat];simp only [h78]<;>rfl,hM.fr⟩)
    have aa:=df h78;refine seg 2 11 [(20,vB (decide (9999999<n)))] f0 ?_;cases h79:(decide (9999999<n))
    rotate_left
    ·have ab:=dt h79;exact rt1 2 (vI 100) rfl f0 (hΦ _ _ ⟨by unfold aA7;rw [hat];simp only [h78,h79]<;>rfl,hM.fr⟩)
    have ab:=df h79;refine aAq 2 12 22 [(21,vI n)] f0 hM (aK6 n (by omega) (by omega) (hT.fr hM.fr)) fun w1 hM=>seg 2 16 [(25,vB (!((Lib.itoa n)==s)))] (fc (sne 9 (Lib.itoa n) s) f0) ?_;cases h80:((Lib.itoa n)==s)
    ·have ac:=ef h80;exact rt1 2 (vI 100) rfl f0 (hΦ _ _ ⟨by unfold aA7;rw [hat];simp only [h78,h79,h80]<;>rfl,hM.fr⟩)
    have ac:=et h80;exact rt1 2 (vI n) rfl f0 (hΦ _ _ ⟨by unfold aA7;rw [hat];simp only [h78,h79,h80]<;>rfl,hM.fr⟩)
def aAV {α:Type}(f:α→List Value) (c:Nat) (E:TypeId) (L:List (Value×List α)):Ent where
  B:=fun k=>∃ x∈L,x.1.ownBlock=some k
  H:=fun w=>(∀ x∈L,ow f c E w 0 x.1 x.2)∧L.Pairwise fun x y=>∀ k,x.1.ownBlock=some k→y.1.ownBlock≠some k
  lt:=fun h ⟨x,hx,hk⟩=>(rw_ f c E x.1 x.2).lt (h.1 x hx) hk
  fr:=fun h k hd=>⟨fun x hx=>(rw_ f c E x.1 x.2).fr (h.1 x hx) k fun b hb=>hd b ⟨x,hx,hb⟩,h.2⟩
theorem aNg {α:Type}{f:α→List Value}{c:Nat}{E:TypeId}{F0:Nat→Prop}{w0 w:World}{M:List Ent}(h:Mm F0 w0 w M):Mm F0 w0 w (M++[aAV f c E ([]:List (Value×List α))]) :=
  h.add (Fr.refl _ _) _ ⟨fun x hx=>(by cases hx),.nil⟩ fun k ⟨x,hx,_⟩=>(by cases hx)
theorem aIh {α:Type}{f:α→List Value}{c:Nat}{E:TypeId}{F0:Nat→Prop}{w0 w:World}{A:List Ent}{L L':List (Value×List α)}{v:Value}{r:List α}(h:Mm F0 w0 w (A++[aAV f c E L,rw_ f c E v r])) (hL:L'.Perm ((v,r)::L)):Mm F0 w0 w (A++[aAV f c E L']):=by
  have hb:=h.at_ (aAV f c E L) (by simp);have hr:=h.at_ (rw_ f c E v r) (by simp);have hnd:=List.pairwise_append.1 h.nd
  have hmem:∀ {k},(aAV f c E L').B k→(aAV f c E L).B k∨(rw_ f c E v r).B k:=fun ⟨x,hx,hk⟩=>by
    rcases List.mem_cons.1 (hL.mem_iff.1 hx) with rfl | hx
    · exact .inr hk
    · exact .inl ⟨x,hx,hk⟩
  have hdis:∀ k,(aAV f c E L).B k→¬ (rw_ f c E v r).B k:=(List.pairwise_cons.1 hnd.2.1).1 _ (by simp);refine ⟨h.fr,fun x hx=>?_,fun x hx k hk hl=>?_,?_⟩
  · rcases List.mem_append.1 hx with hx | hx
    · exact h.at_ x (List.mem_append_left _ hx)
    · rw [List.mem_singleton] at hx
      subst hx;refine ⟨fun x hx=>?_,(hL.pairwise_iff (fun {x y} hxy k hy hx=>hxy k hx hy)).2 (List.pairwise_cons.2 ⟨fun y hy k hk hy2=>hdis k ⟨y,hy,hy2⟩ hk,hb.2⟩)⟩;rcases List.mem_cons.1 (hL.mem_iff.1 hx) with rfl | hx
      · exact hr
      · exact hb.1 x hx
  · rcases List.mem_append.1 hx with hx | hx
    · exact h.own x (List.mem_append_left _ hx) k hk hl
    · rw [List.mem_singleton] at hx
      subst hx;rcases hmem hk with h1 | h1
      · exact h.own _ (by simp) k h1 hl
      · exact h.own (rw_ f c E v r) (by simp) k h1 hl
  · refine List.pairwise_append.2 ⟨hnd.1,List.pairwise_singleton _ _,fun x hx y hy k hxk hyk=>?_⟩
    rw [List.mem_singleton] at hy;subst hy;rcases hmem hyk with h1 | h1
    · exact hnd.2.2 x hx _ (by simp) k hxk h1
    · exact hnd.2.2 x hx (rw_ f c E v r) (by simp) k hxk h1
theorem aRa {α:Type}{f:α→List Value}{c:Nat}{E:TypeId}{F0:Nat→Prop}{w0 w:World}{A:List Ent}{L L':List (Value×List α)}{v:Value}{r:List α}(h:Mm F0 w0 w (A++[aAV f c E L'])) (hL:L'.Perm ((v,r)::L)):Mm F0 w0 w (A++[aAV f c E L,rw_ f c E v r]):=by
  have hb:=h.at_ (aAV f c E L') (by simp);have hnd:=List.pairwise_append.1 h.nd;have hp:=List.pairwise_cons.1 ((hL.pairwise_iff (fun {x y} hxy k hy hx=>hxy k hx hy)).1 hb.2);have m1:∀ {k},(aAV f c E L).B k→(aAV f c E L').B k:=fun ⟨x,hx,hk⟩=>⟨x,hL.mem_iff.2 (.tail _ hx),hk⟩;have m2:∀ {k},(rw_ f c E v r).B k→(aAV f c E L').B k:=fun hk=>⟨(v,r),hL.mem_iff.2 (.head _),hk⟩;refine ⟨h.fr,fun x hx=>?_,fun x hx k hk hl=>?_,?_⟩
  · rcases List.mem_append.1 hx with hx | hx
    · exact h.at_ x (List.mem_append_left _ hx)
    · simp only [List.mem_cons,List.not_mem_nil,or_false] at hx
      rcases hx with rfl | rfl
      · exact ⟨fun x hx=>hb.1 x (hL.mem_iff.2 (.tail _ hx)),hp.2⟩
      · exact hb.1 (v,r) (hL.mem_iff.2 (.head _))
  · rcases List.mem_append.1 hx with hx | hx
    · exact h.own x (List.mem_append_left _ hx) k hk hl
    · simp only [List.mem_cons,List.not_mem_nil,or_false] at hx
      rcases hx with rfl | rfl
      · exact h.own _ (by simp) k (m1 hk) hl
      · exact h.own (aAV f c E L') (by simp) k (m2 hk) hl
  · refine List.pairwise_append.2 ⟨hnd.1,List.pairwise_cons.2 ⟨fun y hy k hk hy2=>?_,List.pairwise_singleton _ _⟩,fun x hx y hy k hxk hyk=>?_⟩
    · rw [List.mem_singleton] at hy
      subst hy;obtain ⟨x,hx,hk⟩:=hk;exact hp.1 x hx k hy2 hk
    · simp only [List.mem_cons,List.not_mem_nil,or_false] at hy
      rcases hy with rfl | rfl
      · exact hnd.2.2 x hx _ (by simp) k hxk (m1 hyk)
      · exact hnd.2.2 x hx (aAV f c E L') (by simp) k hxk (m2 hyk)
def inL (n:Int):List Value:=[vI n]
theorem inT:ElT Tryz.prog inL 1 28 3:=⟨fun _=>rfl,by decide,fun x u hu=>by
  unfold inL at hu;rw [List.mem_singleton] at hu;subst hu;rfl,Tryz.underlying28,aBj (by kernel_rfl)⟩
abbrev aDI:=List (Bys×Value×List Int)
def aCg (T:aDI):Value→Option Value
  | .string s=>(T.find? fun x=>x.1==s.toList).map (·.2.1)
  | _=>none
theorem aID (T:aDI) (s:Bys):aCg T (vS s)=(T.find? fun x=>x.1==s).map (·.2.1):=by
  show (T.find? fun x=>x.1==(ofL s).toList).map _=_;rw [aAA]
def aD7 (T:aDI) (s:Bys):List Int:=match T.find? fun x=>x.1==s with
  | some x=>x.2.2
  | none=>[]
def aBR (T:aDI) (s:Bys):aDI:=T.filter fun x => !(x.1==s)
theorem aH6 {T:aDI}{s t:Bys}(h:¬ t=s):(aBR T s).find? (fun x=>x.1==t)=T.find? fun x=>x.1==t:=by
  unfold aBR;rw [List.find?_filter];congr 1;funext x
  by_cases e:x.1=t
  · have h1:(x.1==t)=true:=by simpa using e
    have h2:(x.1==s)=false:=by simpa using fun e2:x.1=s=>h (e.symm.trans e2)
    rw [h1,h2];rfl
  · have h1:(x.1==t)=false:=by simpa using e
    rw [h1];simp
theorem aOy:aCg []=fun _=>none:=by funext v;cases v<;>rfl
theorem aOx (T:aDI) (s:Bys) (v:Value) (r:List Int):upd (aCg T) (vS s) v=aCg ((s,v,r)::aBR T s):=by
  funext z
  by_cases e:z=vS s
  · subst e;rw [aBI,aID];simp
  · rw [aBs _ e]
    cases z with
    | string b =>
      have hne:¬ b.toList=s:=aLk e;show (T.find? fun x=>x.1==b.toList).map _=(List.find? _ ((s,v,r)::aBR T s)).map _;rw [List.find?_cons,show (s==b.toList)=false by simpa using fun h:s=b.toList=>hne h.symm];simp only;rw [aH6 hne]
    | _=>rfl
theorem aKn (T:aDI) (s t:Bys) (v:Value) (r:List Int):aD7 ((s,v,r)::aBR T s) t=bif s==t then r else aD7 T t:=by
  unfold aD7;rw [List.find?_cons]
  cases h:s==t with
  | true=>rfl
  | false =>
    simp only;rw [aH6 (by simpa using fun e:t=s=>(by simp [e] at h))];rfl
theorem aKr {T:aDI}(h:(T.map (·.1)).Nodup) (s:Bys) (v:Value) (r:List Int):(((s,v,r)::aBR T s).map (·.1)).Nodup:=by
  rw [List.map_cons,List.nodup_cons];refine ⟨fun hm=>?_,?_⟩
  · obtain ⟨x,hx,e⟩:=List.mem_map.1 hm
    have:=(List.mem_filter.1 hx).2;simp [e] at this
  · exact (List.Sublist.map _ List.filter_sublist).nodup h
theorem aH5:∀ {T:aDI},(T.map (·.1)).Nodup→∀ {x:Bys×Value×List Int}{s:Bys},T.find? (fun y=>y.1==s)=some x→x.1=s∧T.Perm (x::aBR T s)
  | [],_,x,s,h=>by cases h
  | y::T,hn,x,s,h=>by
    rw [List.map_cons,List.nodup_cons] at hn;rw [List.find?_cons] at h
    cases hy:y.1==s with
    | true =>
      rw [hy] at h;cases h;have hys:y.1=s:=by simpa using hy
      refine ⟨hys,?_⟩
      have:aBR (y::T) s=T:=by
        unfold aBR;rw [List.filter_cons,hy];simp only [Bool.not_true,Bool.false_eq_true,if_false];rw [List.filter_eq_self];intro z hz;have:¬ z.1=s:=fun e=>hn.1 (by rw [hys,←e];exact List.mem_map.2 ⟨z,hz,rfl⟩);simpa using this
      rw [this]
    | false =>
      rw [hy] at h;obtain ⟨h1,h2⟩:=aH5 hn.2 h;refine ⟨h1,?_⟩;have:aBR (y::T) s=y::aBR T s:=by unfold aBR;rw [List.filter_cons,hy];rfl
      rw [this];exact (h2.cons y).trans (List.Perm.swap x y _)
theorem aLS {T:aDI}{s:Bys}(h:T.find? (fun y=>y.1==s)=none):aBR T s=T:=by
  unfold aBR;rw [List.filter_eq_self];intro z hz;have:=List.find?_eq_none.1 h z hz;simpa using this
theorem aOv {F0:Nat→Prop}{w0 w:World}{A:List Ent}{T:aDI}(s:Bys) (hn:(T.map (·.1)).Nodup) (h:Mm F0 w0 w (A++[aAV inL 1 3 (T.map (·.2))])):∃ v r,(aCg T (vS s)).getD (vL none 0 0)=v∧r=aD7 T s∧Mm F0 w0 w (A++[aAV inL 1 3 ((aBR T s).map (·.2)),rw_ inL 1 3 v r]):=by
  rw [aID];unfold aD7
  cases hf:T.find? (fun y=>y.1==s) with
  | none =>
    refine ⟨vL none 0 0,[],rfl,rfl,?_⟩;rw [aLS hf];have:=h.row (f:=inL) (c:=1) (E:=3)
    rwa [List.append_assoc] at this
  | some x =>
    obtain ⟨h1,h2⟩:=aH5 hn hf;exact ⟨x.2.1,x.2.2,rfl,rfl,aRa h (h2.map (·.2))⟩
def aCa (l:List Arc) (s:Bys):List Int:=(l.zipIdx.filter fun x=>x.1.1==s).map fun x=>(x.2:Int)
theorem aM8 (l:List Arc) (a:Arc) (s:Bys):aCa (l++[a]) s=bif a.1==s then aCa l s++[(l.length:Int)] else aCa l s:=by
  unfold aCa;rw [List.zipIdx_append,List.filter_append,List.map_append];cases h:a.1==s<;>simp [h]
theorem aOw {T:aDI}{l:List Arc}{a:Arc}{i:Nat}{v:Value}(hT:∀ s,aD7 T s=aCa (l.take i) s) (ha:l[i]?=some a):∀ s,aD7 ((a.1,v,aD7 T a.1++[(i:Int)])::aBR T a.1) s=aCa (l.take (i+1)) s:=by
  intro s;rw [aKn,gt_ ha,aM8,List.length_take,Nat.min_eq_left (Nat.le_of_lt (gl ha)),hT,hT]
  cases h:a.1==s with
  | true =>
    have:a.1=s:=by simpa using h
    rw [this]
  | false=>rfl
structure Road where
  closed:Bool
  oneway:Bool
  limited:Bool
  speed:Int
  hours:List Sp
  refs:List Bys
def aIp:Bys:=[102,111,111,116]
def aFv (o:Ob):Except (Int×Int) (List Sp):=aCL (aA8 o.tags [104,111,117,114,115]).1
def aAc (o:Ob):List Sp:=match aFv o with
  | .ok l=>l
  | .error _=>[]
def aDe (o:Ob):Bool:=match aFv o with
  | .ok _=>true
  | .error _=>false
def aAp (prof:Bys) (o:Ob):Road :=
  { closed:=(aA8 o.tags prof).1==[110,111]
    oneway:=((aA8 o.tags [111,110,101,119,97,121]).1==[121,101,115]) && !(prof==aIp)
    limited:=(aA8 o.tags [104,111,117,114,115]).2&&aDe o
    speed:=aA7 (aA8 o.tags [115,112,101,101,100]).1
    hours:=aAc o
    refs:=o.refs }
abbrev aEH (prof:Bys) (b:ObR) (hv:Value):Value := .agg #[vB (aAp prof b.o).closed,vB (aAp prof b.o).oneway,vB (aAp prof b.o).limited,vI (aAp prof b.o).speed,hv,rfV b]
abbrev RdT:=List (ObR×Value)
def rdF (prof:Bys) (T:RdT):Value→Option Value
  | .string s=>(T.find? fun x=>x.1.o.id==s.toList).map fun x=>aEH prof x.1 x.2
  | _=>none
theorem aPw (prof:Bys) (T:RdT) (s:Bys):rdF prof T (vS s)=(T.find? fun x=>x.1.o.id==s).map fun x=>aEH prof x.1 x.2:=by
  show (T.find? fun x=>x.1.o.id==(ofL s).toList).map _=_;rw [aAA]
theorem aQq (prof:Bys):rdF prof []=fun _=>none:=by funext v;cases v<;>rfl
theorem aGD (prof:Bys) (T:RdT) (b:ObR) (hv:Value):upd (rdF prof T) (vS b.o.id) (aEH prof b hv)=rdF prof ((b,hv)::T):=by
  funext z
  by_cases e:z=vS b.o.id
  · subst e;rw [aBI,aPw];simp
  · rw [aBs _ e]
    cases z with
    | string s =>
      have hne:¬ s.toList=b.o.id:=aLk e;show (T.find? _).map _=(List.find? _ ((b,hv)::T)).map _;rw [List.find?_cons,show (b.o.id==s.toList)=false by simpa using fun h:b.o.id=s.toList=>hne h.symm]
    | _=>rfl
def hrB (T:RdT):List (Value×List Sp):=T.map fun x=>(x.2,aAc x.1.o)
def aBv (os:List ObR):List ObR:=(os.filter fun b=>b.o.kind==2).reverse
theorem aDM {os:List ObR}{b:ObR}(h:(b.o.kind==2)=true):aBv (os++[b])=b::aBv os:=by unfold aBv;rw [List.filter_append];simp [h]
theorem aGt {os:List ObR}{b:ObR}(h:(b.o.kind==2)=false):aBv (os++[b])=aBv os:=by unfold aBv;rw [List.filter_append];simp [h]
abbrev Tri:=Bys×Bys×Bys
abbrev aPq (t:Tri):Value := .agg #[vS t.1,vS t.2.1,vS t.2.2]
open Classical in
noncomputable def setT (S:List Tri):Value→Option Value:=fun v=>if ∃ a∈S,v=aPq a then some (vB true) else none
theorem aNH {a b:Tri}(h:aPq a=aPq b):a=b:=by
  obtain ⟨a1,a2,a3⟩:=a;obtain ⟨b1,b2,b3⟩:=b;have h:Value.agg #[vS a1,vS a2,vS a3] = .agg #[vS b1,vS b2,vS b3]:=h;simp only [Value.agg.injEq,Array.mk.injEq,List.cons.injEq,and_true] at h;obtain ⟨h1,h2,h3⟩:=h;rw [aFS h1,aFS h2,aFS h3]
theorem aLF (S:List Tri) (x:Tri):((setT S) (aPq x)).getD (vB false)=vB (S.contains x):=by
  unfold setT
  by_cases h:x∈S
  · rw [if_pos ⟨x,h,rfl⟩,show S.contains x=true by simpa using h];rfl
  · rw [if_neg (fun ⟨a,ha,e⟩=>h (by rw [aNH e];exact ha)),show S.contains x=false by simpa using h];rfl
theorem aNX (S:List Tri) (x:Tri):upd (setT S) (aPq x) (vB true)=setT (S++[x]):=by
  funext v;unfold setT
  by_cases e:v=aPq x
  · subst e;rw [aBI,if_pos ⟨x,by simp,rfl⟩]
  · rw [aBs _ e]
    by_cases h:∃ a∈S,v=aPq a
    · obtain ⟨a,ha,rfl⟩:=h
      rw [if_pos ⟨a,ha,rfl⟩,if_pos ⟨a,List.mem_append_left _ ha,rfl⟩]
    · rw [if_neg h,if_neg]
      rintro ⟨a,ha,rfl⟩;rw [List.mem_append,List.mem_singleton] at ha;rcases ha with ha | rfl
      · exact h ⟨a,ha,rfl⟩
      · exact e rfl
theorem aNY:setT []=fun _=>none:=by funext v;unfold setT;rw [if_neg (by rintro ⟨a,ha,-⟩;cases ha)]
def aRk (o:Ob):Tri:=(o.refs.getD 0 [],o.refs.getD 1 [],o.refs.getD 2 [])
def aB8 (prof:Bys) (os:List ObR):List Tri:=bif prof==aIp then [] else (os.filter fun b=>b.o.kind==5).map fun b=>aRk b.o
theorem aBX (prof:Bys) (os:List ObR) (b:ObR):aB8 prof (os++[b])=bif !(prof==aIp)&&(b.o.kind==5) then aB8 prof os++[aRk b.o] else aB8 prof os:=by
  unfold aB8;rw [List.filter_append,List.map_append];cases h1:prof==aIp<;>cases h2:b.o.kind==5<;>simp [h2]
theorem aP6:Maps.Keyed Tryz.prog 104:=Maps.Keyed.of_law (deep_law (m:=2) (by decide) (by kernel_rfl) (by kernel_rfl) (by kernel_rfl))
theorem aP8 {a:Tri}(h1:B63 a.1) (h2:B63 a.2.1) (h3:B63 a.2.2):∃ l,keyOf Tryz.prog 104 (aPq a)=some l:=by
  obtain ⟨m,hm⟩:=tsz;unfold keyOf;rw [u104_];simp only;rw [if_pos (by kernel_rfl),hm];refine ⟨.string (keyBytes [.string (ofL a.1).data.toList,.string (ofL a.2.1).data.toList,.string (ofL a.2.2).data.toList]),?_⟩
  have hk:Tryz.prog.keyLits (m+1+1) 104 [vS a.1,vS a.2.1,vS a.2.2]=some [.string (ofL a.1).data.toList,.string (ofL a.2.1).data.toList,.string (ofL a.2.2).data.toList]:=by
    unfold Program.keyLits;simp only [u104_];rw [if_pos (by kernel_rfl)];simp [List.range_succ,co9,kl9 h1,kl9 h2,kl9 h3]
  show (Tryz.prog.keyLits (m+1+1) 104 [vS a.1,vS a.2.1,vS a.2.2]).map _=_;rw [hk];rfl
theorem aDa {l:List Arc}{a:Arc}(h:a∈aBF l):a∈l:=by
  have key:∀ (l r:List Arc),a∈l.foldl (fun r a=>bif r.contains a then r else r++[a]) r→a∈r∨a∈l:=by
    intro l
    induction l with
    | nil=>intro r h;exact .inl h
    | cons b l ih =>
      intro r h;rw [List.foldl_cons] at h;rcases ih _ h with h | h
      · cases hb:r.contains b with
        | true=>rw [hb] at h;exact .inl h
        | false =>
          rw [hb] at h;rcases List.mem_append.1 h with h | h
          · exact .inl h
          · rw [List.mem_singleton] at h;exact .inr (h ▸ .head _)
      · exact .inr (.tail _ h)
  rcases key l [] h with h | h
  · cases h
  · exact h
theorem aOH (l:List Arc) (s:Bys):(aCa l s).length≤l.length:=by
  unfold aCa;rw [List.length_map];exact Nat.le_trans (List.length_filter_le _ _) (by rw [List.length_zipIdx];exact Nat.le_refl _)
theorem aKY (w:World):(zeroValue 28).run Tryz.prog w = .ok (vL none 0 0) w:=by kernel_rfl
abbrev AS (os:List ObR):List Arc:=aBF (aAm os)
theorem aPd (prof:Bys):aB8 prof []=[]:=by unfold aB8;cases prof==aIp<;>rfl
theorem aUJ {w:World}{p:Option Addr}{cap:Nat}{a b c:Bys}(h:SrcP stL 1 w p cap [a,b,c]):∃ g off,p=some ⟨g,off,none⟩∧w.rangeAt g off [vS a,vS b,vS c]:=by
  rcases h.at_ with h | ⟨g,off,h1,h2,h3⟩
  · cases h
  · refine ⟨g,off,h1,fun j u hu=>?_⟩
    have h0:=h3 0 a rfl 0 (vS a) rfl;have h1:=h3 1 b rfl 0 (vS b) rfl;have h2:=h3 2 c rfl 0 (vS c) rfl
    match j,hu with
    | 0,hu=>cases hu;exact h0
    | 1,hu=>cases hu;exact h1
    | 2,hu=>cases hu;exact h2
theorem aTY {P:Program}{w:World}{T e:TypeId}{p:Option Addr}{n c g off:Nat}(hT:P.underlying T=some (.array 3 e)) (hp:p=some ⟨g,off,none⟩) (hn:3≤n):Ft.ok P w (.g1 (fun x => .sliceToArrayPointer T x) (vL p n c) (vP g off)):=fun o ρ x ho hx=>by
  subst hp;have:=run_arrayAt (P:=P) (w:=w) T e 3 (some ⟨g,off,none⟩) n c hT hn;simp only [execOp,ho,hx,Sem.run_bind,this,Result.andThen_ok,Sem.run_pure]
theorem aHB {w:World}{o:Ob}(hT:Tb w) (hl:(aA8 o.tags [104,111,117,114,115]).1.length≤4900):Calls Tryz.prog 38 #[vS (aA8 o.tags [104,111,117,114,115]).1] w fun e w'=>∃ v c x,e = .returned (.tuple #[v,vI c,vI x])∧(c==0)=aDe o∧aHj spL 2 260 w w' v (aAc o)∧Fr (fun _=>False) w w':=by
  refine (aIC hl hT).mono ?_;rintro e w' ⟨h1,h2⟩;unfold aGh at h1;rcases aFh (aA8 o.tags [104,111,117,114,115]).1 with ⟨c,x,hp,hc,-⟩ | ⟨l,hp,-⟩
  · rw [hp] at h1
    refine ⟨_,c,x,h1,?_,?_,h2⟩
    · unfold aDe aFv;rw [hp];simpa using hc
    · unfold aAc aFv;rw [hp];exact ⟨aPz _,fun k h=>by cases h⟩
  · rw [hp] at h1
    obtain ⟨v,h1,h3⟩:=h1;refine ⟨v,0,0,h1,?_,?_,h2⟩
    · unfold aDe aFv;rw [hp];rfl
    · unfold aAc aFv;rw [hp];exact h3
theorem aGv {k:Bys}:∀ {l:List Ob},aMw k l=true→∀ o∈l,aAG o=true
  | [],_,o,h=>by cases h
  | b::l,hm,o,h=>by
    unfold aMw at hm;simp only [Bool.and_eq_true] at hm;rcases List.mem_cons.1 h with rfl | h
    · exact hm.1.1
    · exact aGv hm.2 o h
theorem aJp {k:Bys}:∀ {l:List Tag},aL1 k l=true→∀ t∈l,t.2.length≤200
  | [],_,t,h=>by cases h
  | b::l,hm,t,h=>by
    unfold aL1 at hm;simp only [Bool.and_eq_true,decide_eq_true_eq] at hm;rcases List.mem_cons.1 h with rfl | h
    · have:=hm.1.2;omega
    · exact aJp hm.2 t h
theorem aOK {l:List Tag}(h:∀ t∈l,t.2.length≤200) (k:Bys):(aA8 l k).1.length≤200:=by
  induction l with
  | nil=>simp [aA8]
  | cons t l ih =>
    unfold aA8
    cases t.1==k with
    | true=>exact h t (.head _)
    | false=>exact ih fun t ht=>h t (.tail _ ht)
theorem aBM {o:Ob}(h:aAG o=true) (k:Bys):(aA8 o.tags k).1.length≤200:=by
  unfold aAG at h;simp only [Bool.and_eq_true] at h;have h1:=h.1.1.1.1.2;unfold aG3 at h1;rw [Bool.and_eq_true] at h1;exact aOK (aJp h1.1) k
theorem aKb {o:Ob}(h:aAG o=true) (hk:o.kind=5):o.refs.length=3:=by
  unfold aAG at h;rw [hk] at h;simp only [Bool.and_eq_true] at h;have:=h.2;simp at this;omega
noncomputable abbrev stM (bs ca bo br bb no nr nb:Nat) (qa:Option Addr) (prof:Bys) (os:List ObR) (T:aDI) (T2:RdT):List Ent :=
  [bk bs #[vS prof,vL qa (AS os).length ca,.map (some bo),.map (some br),.map (some bb)] 66,rw_ arL 4 68 (vL qa (AS os).length ca) (AS os),mp Tryz.prog 9 bo no (aCg T),aAV inL 1 3 (T.map (·.2)),mp Tryz.prog 9 br nr (rdF prof T2),aAV spL 2 260 (hrB T2),mp Tryz.prog 104 bb nb (setT (aB8 prof os))]
abbrev A29 (Φ:Ending→World→Prop):=AtO Tryz.prog (aAr Tryz.f13) (aA2 (bodyPost Tryz.prog Tryz.f13 Φ)) [] 137
theorem aEC {w:World}{v:Value}{os:List ObR}{prof:Bys}(hm:aDy w v os) (hvm:aAe (aAa os)=true) (hlen:(aAm os).length≤300000000) (hTe:Te w):Calls Tryz.prog 13 #[.agg #[v],vS prof] w fun e w'=>∃ bs ca bo br bb no nr nb qa T T2,e = .returned (vP bs 0)∧(T.map (·.1)).Nodup∧(∀ s,aD7 T s=aCa (AS os) s)∧T2.map (·.1)=aBv os∧Mm (fun _=>False) w w' (stM bs ca bo br bb no nr nb qa prof os T T2):=by
  have hm0:=hm;obtain ⟨hs0,hob⟩:=hm0;have hll:(AS os).length≤300000000:=Nat.le_trans (aFi _) hlen;obtain ⟨p0,cp0,hp0,sp0⟩:=hs0.op;subst hp0;have bp0:=sp0.bnd;refine beg Tryz.func13 rfl rfl [(0,.agg #[vL p0 os.length cp0]),(1,vS prof)] rfl rfl fun Φ hΦ=>?_;have hM:=Mm.nil (fun _=>False) w;refine aAn 0 0 2 [] (cs:=#[vL p0 os.length cp0]) (T:=24) (v:=fun b=>vP b 0) f0 hM fun ag w1 hM=>aHY 1 2 23 [(21,vS prof),(22,.agg #[vL p0 os.length cp0])] (f:=arL) (c:=4) (E:=68) (A:=(AS os)) (fc (lam 24 0 0 1 hM rfl) f0) hM (aGo (hm.fr hM.fr) hvm hlen) fun u w1 hM=>?_;obtain ⟨ad,ab,eqa79,sqa79⟩:=(hM.src (j:=1) rfl arT.len).op;subst eqa79;refine aFk 1 3 24 [] 9 f0 hM fun ac w1 hM=>aFk 1 4 25 [] 9 f0 hM fun aa w1 hM=>aFk 1 5 26 [] 104 f0 hM fun ae w1 hM=>aAn 1 7 28 [(27,.agg #[vS prof,vL ad (AS os).length ab,.map (some ac),.map (some aa),.map (some ae)])] (cs:=#[vS prof,vL ad (AS os).length ab,.map (some ac),.map (some aa),.map (some ae)]) (T:=66) (v:=fun b=>vP b 0) f0 hM fun af w1 hM=>seg 3 0 [(5,vP af 0),(32,vL ad (AS os).length ab),(33,vI ((AS os).length:Int)),(34,vI 0)] (fc (ldm 34 5 1 hM rfl rfl) f0) ?_;have hM:=aNg (f:=inL) (c:=1) (E:=3) hM;have hM:Mm (fun _=>False) w _ [bk ag #[vL p0 os.length cp0] 24,rw_ arL 4 68 (vL ad (AS os).length ab) (AS os),mp Tryz.prog 9 aa 0 (fun _=>none),mp Tryz.prog 104 ae 0 (fun _=>none),bk af #[vS prof,vL ad (AS os).length ab,.map (some ac),.map (some aa),.map (some ae)] 66,mp Tryz.prog 9 ac 0 (fun _=>none),aAV inL 1 3 (([]:aDI).map (·.2))]:=hM.pick [0,1,3,4,5,2,6];have hM:=hM.cast (M':=[bk ag #[vL p0 os.length cp0] 24,rw_ arL 4 68 (vL ad (AS os).length ab) (AS os),mp Tryz.prog 9 aa 0 (fun _=>none),mp Tryz.prog 104 ae 0 (fun _=>none),bk af #[vS prof,vL ad (AS os).length ab,.map (some ac),.map (some aa),.map (some ae)] 66,mp Tryz.prog 9 ac 0 (aCg []),aAV inL 1 3 (([]:aDI).map (·.2))]) (by rw [aOy])
  have ap:∀ (al:Nat) (i:Nat) (n:Nat) (T:aDI) (w2:World),i≤(AS os).length→(T.map (·.1)).Nodup→(∀ s,aD7 T s=aCa ((AS os).take i) s)→Mm (fun _=>False) w w2 [bk ag #[vL p0 os.length cp0] 24,rw_ arL 4 68 (vL ad (AS os).length ab) (AS os),mp Tryz.prog 9 aa 0 (fun _=>none),mp Tryz.prog 104 ae 0 (fun _=>none),bk af #[vS prof,vL ad (AS os).length ab,.map (some ac),.map (some aa),.map (some ae)] 66,mp Tryz.prog 9 ac n (aCg T),aAV inL 1 3 (T.map (·.2))]→al=(AS os).length-i→A29 Φ (some (3,0)) [(34,vI (i:Int)),(33,vI ((AS os).length:Int)),(32,vL ad (AS os).length ab),(5,vP af 0),(2,vP ag 0),(1,vS prof)] w2:=by
   refine aBh fun al aq i n T w2 hi hnd hT hM a1=>seg 3 1 [(35,vB (decide ((i:Int)<((AS os).length:Int))))] f0 ?_;cases h87:(decide ((i:Int)<((AS os).length:Int)))
   rotate_left
   ·have ar:=dt h87;obtain ⟨y,hy⟩:=geb (l:=AS os) (i:=i) (by omega);obtain ⟨a2,am,-⟩:=hM.el arT (j:=1) rfl hy;refine aAn 4 3 7 [(36,vI (i:Int)),(38,.agg #[vS y.1,vS y.2.1,vS y.2.2.1,vI y.2.2.2])] (cs:=#[vS [],vS [],vS [],vI 0]) (T:=68) (v:=fun b=>vP b 0) (fc (ix 34 ab am (gl hy)) (fc (lar 68 1 0 4 arT hM rfl am hy) f0)) hM fun ak w1 hM=>stm 4 5 [(6,vI (i:Int))] 68 7 0 (.agg #[vS y.1,vS y.2.1,vS y.2.2.1,vI y.2.2.2]) f0 hM rfl fun w1 hM=>?_;have hM:Mm (fun _=>False) w _ ([bk ag #[vL p0 os.length cp0] 24,rw_ arL 4 68 (vL ad (AS os).length ab) (AS os),mp Tryz.prog 9 aa 0 (fun _=>none),mp Tryz.prog 104 ae 0 (fun _=>none),bk af #[vS prof,vL ad (AS os).length ab,.map (some ac),.map (some aa),.map (some ae)] 66,bk ak #[vS y.1,vS y.2.1,vS y.2.2.1,vI y.2.2.2] 68,mp Tryz.prog 9 ac n (aCg T)]++[aAV inL 1 3 (T.map (·.2))]):=hM.pick [0,1,2,3,4,7,5,6];obtain ⟨v9,ro,hov,hro,hM⟩:=aOv y.1 hnd hM;obtain ⟨qo,co,rfl,-⟩:=(hM.src (j:=8) rfl inT.len).op;have hab:=aF7 (fun b hb=>(hob b hb).bnd) y (aDa (gm hy));have hrl:ro.length≤300000000:=by rw [hro,hT];exact Nat.le_trans (aOH _ _) (Nat.le_trans (by rw [List.length_take];exact Nat.min_le_right _ _) hll)
    replace hM:Mm (fun _=>False) w _ [bk ag #[vL p0 os.length cp0] 24,_,_,_,bk af #[vS prof,vL ad (AS os).length ab,.map (some ac),.map (some aa),.map (some ae)] 66,bk ak #[vS y.1,vS y.2.1,vS y.2.2.1,vI y.2.2.2] 68,_,_,_]:=hM;refine seg 5 0 [] f0 ?_;have hM:=hM.nl;refine drx [12,14,15,16] (fun γ=>[some (vL qo ro.length co),some (vL (some ⟨(bn (γ 1)),0,none⟩) 1 1),some ((γ 2)),none]) _ (fun γ l=>[bk ag #[vL p0 os.length cp0] 24,rw_ arL 4 68 (vL ad (AS os).length ab) (AS os),mp Tryz.prog 9 aa 0 (fun _=>none),mp Tryz.prog 104 ae 0 (fun _=>none),bk af #[vS prof,vL ad (AS os).length ab,.map (some ac),.map (some aa),.map (some ae)] 66,bk ak #[vS y.1,vS y.2.1,vS y.2.2.1,vI y.2.2.2] 68,(bif l.getD 3 false then mp Tryz.prog 9 ac (n+1) (upd (aCg T) (vS y.1) ((γ 2))) else mp Tryz.prog 9 ac n (aCg T)),aAV inL 1 3 ((aBR T y.1).map (·.2)),(bif l.getD 2 false then rw_ inL 1 3 (γ 2) (ro++[(i:Int)]) else rw_ inL 1 3 (vL qo ro.length co) ro),(bif l.getD 1 false then bk (bn (γ 1)) #[vI (i:Int)] 3 else aEc)]) (fun γ=>[]) hM (fun γ=>rfl) (fun γ l w5 hM=>(fc (ldm 62 4 2 hM rfl rfl) (fc (ldm 9 5 0 hM rfl rfl) (fc (ldm 62 4 2 hM rfl rfl) (fc (ldm 9 5 0 hM rfl rfl) f0))))) ⟨aTw 0 12 62 6 51 n ac (aCg T) (vS y.1) (vL none 0 0) (vL qo ro.length co) aDw u62_ (aDx hab.f1) aKY hov,aBY 1 14 9 53 (fun γ=>#[vI (i:Int)]) 3 (fun b=>vL (some ⟨b,0,none⟩) 1 1),aS2 2 15 8 54 28 3 0 (fun γ=>vL qo ro.length co) ro [(i:Int)] (fun γ=>(bn (γ 1))) 1 inT (by simp only [List.length_cons,List.length_nil];omega) (fun γ fr wm hM=>aAE (f:=inL) (x:=(i:Int)) (hM.get 9 (e:=bk ((bn (γ 1))) (inL (i:Int)).toArray 3) (by kernel_rfl)) (Nat.lt_succ_self _)),aEm 3 16 62 6 (fun γ=>ac) n (aCg T) (fun γ=>vS y.1) (fun γ=>(γ 2)) aDw u62_ (fun γ=>(aDx hab.f1)),trivial⟩ fun ai w1 hM=>?_;replace hM:Mm (fun _=>False) w w1 [bk ag #[vL p0 os.length cp0] 24,_,_,_,bk af #[vS prof,vL ad (AS os).length ab,.map (some ac),.map (some aa),.map (some ae)] 66,bk ak #[vS y.1,vS y.2.1,vS y.2.2.1,vI y.2.2.2] 68,_,_,_,bk (bn (ai 1)) #[vI (i:Int)] 3]:=hM;have hM:Mm (fun _=>False) w _ ([bk ag #[vL p0 os.length cp0] 24,rw_ arL 4 68 (vL ad (AS os).length ab) (AS os),mp Tryz.prog 9 aa 0 (fun _=>none),mp Tryz.prog 104 ae 0 (fun _=>none),bk af #[vS prof,vL ad (AS os).length ab,.map (some ac),.map (some aa),.map (some ae)] 66,mp Tryz.prog 9 ac (n+1) (upd (aCg T) (vS y.1) ((ai 2)))]++[aAV inL 1 3 ((aBR T y.1).map (·.2)),rw_ inL 1 3 (ai 2) (ro++[(i:Int)])]):=hM.pick [0,1,2,3,4,6,7,8];have hM:=aIh (L':=((y.1,(ai 2),ro++[(i:Int)])::aBR T y.1).map (·.2)) hM (.refl _);have e9:(upd (aCg T) (vS y.1) ((ai 2)))=aCg ((y.1,(ai 2),ro++[(i:Int)])::aBR T y.1):=aOx T y.1 _ _;have hM:=hM.cast (M':=[bk ag #[vL p0 os.length cp0] 24,rw_ arL 4 68 (vL ad (AS os).length ab) (AS os),mp Tryz.prog 9 aa 0 (fun _=>none),mp Tryz.prog 104 ae 0 (fun _=>none),bk af #[vS prof,vL ad (AS os).length ab,.map (some ac),.map (some aa),.map (some ae)] 66,mp Tryz.prog 9 ac (n+1) (aCg ((y.1,(ai 2),ro++[(i:Int)])::aBR T y.1)),aAV inL 1 3 (((y.1,(ai 2),ro++[(i:Int)])::aBR T y.1).map (·.2))]) (by rw [e9];rfl);refine seg 3 0 [(34,vI ((i:Int)+1))] (fc (aAh (i:Int) 1 u3_) f0) (aAb _ (aq _ (by omega) (i+1) (n+1) ((y.1,(ai 2),ro++[(i:Int)])::aBR T y.1) _ (gl hy) (aKr hnd _ _ _) (hro▸aOw hT hy) hM rfl))
   have ar:=df h87;refine seg 8 0 [(57,vL p0 os.length cp0),(58,vI (os.length:Int)),(59,vI 0)] (fc (ldm 22 0 0 hM rfl rfl) f0) ?_;have hM:=aNg (f:=spL) (c:=2) (E:=260) hM;have et9:(AS os).take i=AS os:=List.take_of_length_le (by omega);rw [et9] at hT;clear et9;have hM:Mm (fun _=>False) w _ [bk ag #[vL p0 os.length cp0] 24,rw_ arL 4 68 (vL ad (AS os).length ab) (AS os),bk af #[vS prof,vL ad (AS os).length ab,.map (some ac),.map (some aa),.map (some ae)] 66,mp Tryz.prog 9 ac n (aCg T),aAV inL 1 3 (T.map (·.2)),mp Tryz.prog 9 aa 0 (fun _=>none),mp Tryz.prog 104 ae 0 (fun _=>none),aAV spL 2 260 ([]:List (Value×List Sp))]:=hM.pick [0,1,4,5,6,2,3,7];have hM:=hM.cast (M':=[bk ag #[vL p0 os.length cp0] 24,rw_ arL 4 68 (vL ad (AS os).length ab) (AS os),bk af #[vS prof,vL ad (AS os).length ab,.map (some ac),.map (some aa),.map (some ae)] 66,mp Tryz.prog 9 ac n (aCg T),aAV inL 1 3 (T.map (·.2)),mp Tryz.prog 9 aa 0 (rdF prof []),mp Tryz.prog 104 ae 0 (setT (aB8 prof (os.take 0))),aAV spL 2 260 (hrB [])]) (by rw [aQq,List.take_zero,aPd,aNY];rfl)
   have au:∀ (an:Nat) (i2:Nat) (n3:Nat) (n4:Nat) (T2:RdT) (w2:World),i2≤os.length→T2.map (·.1)=aBv (os.take i2)→Mm (fun _=>False) w w2 [bk ag #[vL p0 os.length cp0] 24,rw_ arL 4 68 (vL ad (AS os).length ab) (AS os),bk af #[vS prof,vL ad (AS os).length ab,.map (some ac),.map (some aa),.map (some ae)] 66,mp Tryz.prog 9 ac n (aCg T),aAV inL 1 3 (T.map (·.2)),mp Tryz.prog 9 aa n3 (rdF prof T2),mp Tryz.prog 104 ae n4 (setT (aB8 prof (os.take i2))),aAV spL 2 260 (hrB T2)]→an=os.length-i2→A29 Φ (some (8,0)) [(59,vI (i2:Int)),(58,vI (os.length:Int)),(57,vL p0 os.length cp0),(5,vP af 0),(1,vS prof)] w2:=by
    refine aBh fun an aj i2 n3 n4 T2 w2 hi2 hT2 hM a3=>seg 8 1 [(60,vB (decide ((i2:Int)<(os.length:Int))))] f0 ?_;cases h91:(decide ((i2:Int)<(os.length:Int)))
    ·have av:=df h91;have e9:os.take i2=os:=List.take_of_length_le (by omega);rw [e9] at hT2 hM;exact rt1 4 (vP af 0) rfl f0 (hΦ _ _ ⟨_,_,_,_,_,_,_,_,_,T,T2,rfl,hnd,hT,hT2,hM.pick [2,1,3,4,5,7,6]⟩)
    have av:=dt h91;obtain ⟨y2,hy2,a4,a5,q92,aw⟩:=sp0.el (i:=i2) (by omega);refine aBD 9 2 9 [(62,.agg #[vS y2.o.id,vI y2.o.kind,vI y2.o.x,vI y2.o.y,vL y2.pr y2.o.refs.length y2.cr,vL y2.pt y2.o.tags.length y2.ct])] [] 52 (.agg #[vS y2.o.id,vI y2.o.kind,vI y2.o.x,vI y2.o.y,vL y2.pr y2.o.refs.length y2.cr,vL y2.pt y2.o.tags.length y2.ct]) (fc (ix 22 cp0 q92 (gl hy2)) (fc (la0 52 hM aw) f0)) hM fun ah w1 hM=>?_;have hvo:aAG y2.o=true:=by unfold aAe at hvm;rw [Bool.and_eq_true] at hvm;exact aGv hvm.1 _ (List.mem_map.2 ⟨y2,gm hy2,rfl⟩)
    refine seg 11 2 [(64,vI y2.o.kind),(65,vB (y2.o.kind==2))] (fc (ldm 3 8 1 hM rfl rfl) f0) ?_;cases h94:(y2.o.kind==2)
    ·have ax:=ef h94;refine seg 18 2 [(123,vB (y2.o.kind==5))] f0 ?_;cases h95:(y2.o.kind==5)
     ·have ay:=ef h95;refine seg 8 0 [(59,vI ((i2:Int)+1))] (fc (aAh (i2:Int) 1 u3_) f0) ?_;have hM:Mm (fun _=>False) w _ [bk ag #[vL p0 os.length cp0] 24,rw_ arL 4 68 (vL ad (AS os).length ab) (AS os),bk af #[vS prof,vL ad (AS os).length ab,.map (some ac),.map (some aa),.map (some ae)] 66,mp Tryz.prog 9 ac n (aCg T),aAV inL 1 3 (T.map (·.2)),mp Tryz.prog 9 aa n3 (rdF prof T2),mp Tryz.prog 104 ae n4 (setT (aB8 prof (os.take i2))),aAV spL 2 260 (hrB T2)]:=hM.pick [0,1,2,3,4,5,6,7];have e9:(rdF prof T2)=rdF prof T2:=rfl;have e8:(setT (aB8 prof (os.take i2)))=(setT (aB8 prof (os.take (i2+1)))):=by rw [gt_ hy2,aBX,h95,Bool.and_false];(try rfl)
      have hM:=hM.cast (M':=[bk ag #[vL p0 os.length cp0] 24,rw_ arL 4 68 (vL ad (AS os).length ab) (AS os),bk af #[vS prof,vL ad (AS os).length ab,.map (some ac),.map (some aa),.map (some ae)] 66,mp Tryz.prog 9 ac n (aCg T),aAV inL 1 3 (T.map (·.2)),mp Tryz.prog 9 aa n3 (rdF prof T2),mp Tryz.prog 104 ae n4 (setT (aB8 prof (os.take (i2+1)))),aAV spL 2 260 (hrB T2)]) (by rw [e9,e8];(try rfl));exact aAb _ (aj _ (by omega) (i2+1) n3 n4 T2 _ (gl hy2) (by rw [gt_ hy2,aGt h94,←hT2]) hM rfl)
     have ay:=et h95;refine seg 19 2 [(126,vB (!(prof==[102,111,111,116])))] (fc (sne 9 prof [102,111,111,116]) f0) ?_;cases h96:(prof==[102,111,111,116])
     rotate_left
     ·have az:=et h96;refine seg 8 0 [(59,vI ((i2:Int)+1))] (fc (aAh (i2:Int) 1 u3_) f0) ?_;have hM:Mm (fun _=>False) w _ [bk ag #[vL p0 os.length cp0] 24,rw_ arL 4 68 (vL ad (AS os).length ab) (AS os),bk af #[vS prof,vL ad (AS os).length ab,.map (some ac),.map (some aa),.map (some ae)] 66,mp Tryz.prog 9 ac n (aCg T),aAV inL 1 3 (T.map (·.2)),mp Tryz.prog 9 aa n3 (rdF prof T2),mp Tryz.prog 104 ae n4 (setT (aB8 prof (os.take i2))),aAV spL 2 260 (hrB T2)]:=hM.pick [0,1,2,3,4,5,6,7];have e9:(rdF prof T2)=rdF prof T2:=rfl;have e8:(setT (aB8 prof (os.take i2)))=(setT (aB8 prof (os.take (i2+1)))):=by rw [gt_ hy2,aBX,show (prof==aIp)=true from h96];(try rfl)
      have hM:=hM.cast (M':=[bk ag #[vL p0 os.length cp0] 24,rw_ arL 4 68 (vL ad (AS os).length ab) (AS os),bk af #[vS prof,vL ad (AS os).length ab,.map (some ac),.map (some aa),.map (some ae)] 66,mp Tryz.prog 9 ac n (aCg T),aAV inL 1 3 (T.map (·.2)),mp Tryz.prog 9 aa n3 (rdF prof T2),mp Tryz.prog 104 ae n4 (setT (aB8 prof (os.take (i2+1)))),aAV spL 2 260 (hrB T2)]) (by rw [e9,e8];(try rfl));exact aAb _ (aj _ (by omega) (i2+1) n3 n4 T2 _ (gl hy2) (by rw [gt_ hy2,aGt h94,←hT2]) hM rfl)
     have az:=ef h96;have hl3:=aKb hvo (et h95)
     obtain ⟨t0,t1,t2,hr3⟩:∃ t0 t1 t2,y2.o.refs=[t0,t1,t2]:=by
                match h:y2.o.refs,hl3 with
                | [a,b,c],_=>exact ⟨a,b,c,rfl⟩
     obtain ⟨ga,oa,hqa,hra⟩:=aUJ (hr3▸(hob _ (gm hy2)).refs);have hb3:=(hob _ (gm hy2)).bnd.refs;rw [hr3] at hb3;refine seg 20 0 [] f0 (drx [8] (fun γ=>[none]) _ (fun γ l=>[bk ag #[vL p0 os.length cp0] 24,rw_ arL 4 68 (vL ad (AS os).length ab) (AS os),bk af #[vS prof,vL ad (AS os).length ab,.map (some ac),.map (some aa),.map (some ae)] 66,mp Tryz.prog 9 ac n (aCg T),aAV inL 1 3 (T.map (·.2)),mp Tryz.prog 9 aa n3 (rdF prof T2),(bif l.getD 0 false then mp Tryz.prog 104 ae (n4+1) (upd (setT (aB8 prof (os.take i2))) (.agg #[vS t0,vS t1,vS t2]) (vB true)) else mp Tryz.prog 104 ae n4 (setT (aB8 prof (os.take i2)))),aAV spL 2 260 (hrB T2),bk ah #[vS y2.o.id,vI y2.o.kind,vI y2.o.x,vI y2.o.y,vL y2.pr y2.o.refs.length y2.cr,vL y2.pt y2.o.tags.length y2.ct] 52]) (fun γ=>[]) hM (fun γ=>rfl) (fun γ l w5 hM=>(fc (ldm 64 2 4 hM rfl rfl) (fc (ldm 27 8 4 hM rfl rfl) (fc (aTY (n:=y2.o.refs.length) (c:=y2.cr) u104_ hqa (by omega)) (fc (la0 104 hM hra) f0))))) ⟨aEm 0 8 64 6 (fun γ=>ae) n4 (setT (aB8 prof (os.take i2))) (fun γ => .agg #[vS t0,vS t1,vS t2]) (fun γ=>vB true) aP6 Tryz.underlying64 (fun γ=>(aP8 (a:=(t0,t1,t2)) (hb3 t0 (by simp)) (hb3 t1 (by simp)) (hb3 t2 (by simp)))),trivial⟩ fun a6 w1 hM=>?_);replace hM:Mm (fun _=>False) w w1 [bk ag #[vL p0 os.length cp0] 24,_,bk af #[vS prof,vL ad (AS os).length ab,.map (some ac),.map (some aa),.map (some ae)] 66,_,_,_,_,_,bk ah #[vS y2.o.id,vI y2.o.kind,vI y2.o.x,vI y2.o.y,vL y2.pr y2.o.refs.length y2.cr,vL y2.pt y2.o.tags.length y2.ct] 52]:=hM;refine seg 8 0 [(59,vI ((i2:Int)+1))] (fc (aAh (i2:Int) 1 u3_) f0) ?_;have hM:Mm (fun _=>False) w _ [bk ag #[vL p0 os.length cp0] 24,rw_ arL 4 68 (vL ad (AS os).length ab) (AS os),bk af #[vS prof,vL ad (AS os).length ab,.map (some ac),.map (some aa),.map (some ae)] 66,mp Tryz.prog 9 ac n (aCg T),aAV inL 1 3 (T.map (·.2)),mp Tryz.prog 9 aa n3 (rdF prof T2),mp Tryz.prog 104 ae (n4+1) (upd (setT (aB8 prof (os.take i2))) (.agg #[vS t0,vS t1,vS t2]) (vB true)),aAV spL 2 260 (hrB T2)]:=hM.pick [0,1,2,3,4,5,6,7];have e9:(rdF prof T2)=rdF prof T2:=rfl;have e8:(upd (setT (aB8 prof (os.take i2))) (.agg #[vS t0,vS t1,vS t2]) (vB true))=(setT (aB8 prof (os.take (i2+1)))):=by rw [gt_ hy2,aBX,show (prof==aIp)=false from h96,h95,show aRk y2.o=(t0,t1,t2) by unfold aRk;rw [hr3];rfl];exact aNX _ (t0,t1,t2)
     have hM:=hM.cast (M':=[bk ag #[vL p0 os.length cp0] 24,rw_ arL 4 68 (vL ad (AS os).length ab) (AS os),bk af #[vS prof,vL ad (AS os).length ab,.map (some ac),.map (some aa),.map (some ae)] 66,mp Tryz.prog 9 ac n (aCg T),aAV inL 1 3 (T.map (·.2)),mp Tryz.prog 9 aa n3 (rdF prof T2),mp Tryz.prog 104 ae (n4+1) (setT (aB8 prof (os.take (i2+1)))),aAV spL 2 260 (hrB T2)]) (by rw [e9,e8];(try rfl));exact aAb _ (aj _ (by omega) (i2+1) n3 (n4+1) T2 _ (gl hy2) (by rw [gt_ hy2,aGt h94,←hT2]) hM rfl)
    have ax:=et h94;refine aAq 12 3 71 [(69,vL y2.pt y2.o.tags.length y2.ct),(70,vS prof)] (fc (ldm 50 8 5 hM rfl rfl) f0) hM (aC0 ((hob _ (gm hy2)).tags.src.fr hM.fr) prof) fun w1 hM=>aAq 13 2 77 [(10,vS ((aA8 y2.o.tags prof).1)),(76,vL y2.pt y2.o.tags.length y2.ct)] (fc (ldm 50 8 5 hM rfl rfl) f0) hM (aC0 ((hob _ (gm hy2)).tags.src.fr hM.fr) [111,110,101,119,97,121]) fun w1 hM=>aAq 14 2 83 [(12,vS ((aA8 y2.o.tags [111,110,101,119,97,121]).1)),(82,vL y2.pt y2.o.tags.length y2.ct)] (fc (ldm 50 8 5 hM rfl rfl) f0) hM (aC0 ((hob _ (gm hy2)).tags.src.fr hM.fr) [115,112,101,101,100]) fun w1 hM=>aAq 15 2 89 [(14,vS ((aA8 y2.o.tags [115,112,101,101,100]).1)),(88,vL y2.pt y2.o.tags.length y2.ct)] (fc (ldm 50 8 5 hM rfl rfl) f0) hM (aC0 ((hob _ (gm hy2)).tags.src.fr hM.fr) [104,111,117,114,115]) fun w1 hM=>cal 16 1 94 [(17,vB (aA8 y2.o.tags [104,111,117,114,115]).2),(93,vS ((aA8 y2.o.tags [104,111,117,114,115]).1))] (K:=fun u w8=>∃ v c x,u = .tuple #[v,vI c,vI x]∧(c==0)=aDe y2.o∧aHj spL 2 260 w1 w8 v (aAc y2.o)∧Fr (fun _=>False) w1 w8) f0 ((aHB (hTe.fr hM.fr).tb (Nat.le_trans (aBM hvo _) (by decide))).mono fun e w8 ⟨v,c,x,h1,h2⟩=>⟨_,h1,v,c,x,rfl,h2⟩) fun u w1 ⟨v,c,x,hu,hco,hO,f1⟩=>?_;subst hu;have hM:=hM.add f1 (rw_ spL 2 260 v (aAc y2.o)) hO.1 hO.2;obtain ⟨qh,ch,rfl,-⟩:=hO.op spT.len;refine seg 17 0 [(18,vL qh (aAc y2.o).length ch),(19,vI c)] f0 ?_;cases h98:((aA8 y2.o.tags [111,110,101,119,97,121]).1==[121,101,115])
    ·have a0:=ef h98
     cases h99:(aA8 y2.o.tags [104,111,117,114,115]).2 with
     | false =>
      refine drx [25] (fun γ=>[none]) _ (fun γ l=>[bk ag #[vL p0 os.length cp0] 24,rw_ arL 4 68 (vL ad (AS os).length ab) (AS os),bk af #[vS prof,vL ad (AS os).length ab,.map (some ac),.map (some aa),.map (some ae)] 66,mp Tryz.prog 9 ac n (aCg T),aAV inL 1 3 (T.map (·.2)),(bif l.getD 0 false then mp Tryz.prog 9 aa (n3+1) (upd (rdF prof T2) (vS y2.o.id) (.agg #[vB ((aA8 y2.o.tags prof).1==[110,111]),vB false,vB false,vI (aA7 (aA8 y2.o.tags [115,112,101,101,100]).1),vL qh (aAc y2.o).length ch,vL y2.pr y2.o.refs.length y2.cr])) else mp Tryz.prog 9 aa n3 (rdF prof T2)),mp Tryz.prog 104 ae n4 (setT (aB8 prof (os.take i2))),aAV spL 2 260 (hrB T2),bk ah #[vS y2.o.id,vI y2.o.kind,vI y2.o.x,vI y2.o.y,vL y2.pr y2.o.refs.length y2.cr,vL y2.pt y2.o.tags.length y2.ct] 52,rw_ spL 2 260 (vL qh (aAc y2.o).length ch) (aAc y2.o)]) (fun γ=>[]) hM (fun γ=>rfl) (fun γ l w5 hM=>(fc (ldm 63 2 3 hM rfl rfl) (fc (ldm 9 8 0 hM rfl rfl) (fc (seq 9 ((aA8 y2.o.tags prof).1) [110,111]) (fc (rz (seq 9 ((aA8 y2.o.tags [111,110,101,119,97,121]).1) [121,101,115]) h98) (fc (tcl (aCD (s:=(aA8 y2.o.tags [115,112,101,101,100]).1) (Nat.le_trans (aBM hvo _) (by decide)) (hTe.fr hM.fr))) (fc (ldm 27 8 4 hM rfl rfl) f0))))))) ⟨aEm 0 25 63 5 (fun γ=>aa) n3 (rdF prof T2) (fun γ=>vS y2.o.id) (fun γ => .agg #[vB ((aA8 y2.o.tags prof).1==[110,111]),vB false,vB false,vI (aA7 (aA8 y2.o.tags [115,112,101,101,100]).1),vL qh (aAc y2.o).length ch,vL y2.pr y2.o.refs.length y2.cr]) aDw u63_ (fun γ=>(aDx (hob _ (gm hy2)).bnd.id)),trivial⟩ fun a7 w1 hM=>?_;replace hM:Mm (fun _=>False) w w1 [bk ag #[vL p0 os.length cp0] 24,_,bk af #[vS prof,vL ad (AS os).length ab,.map (some ac),.map (some aa),.map (some ae)] 66,_,_,_,_,_,bk ah #[vS y2.o.id,vI y2.o.kind,vI y2.o.x,vI y2.o.y,vL y2.pr y2.o.refs.length y2.cr,vL y2.pt y2.o.tags.length y2.ct] 52,_]:=hM;refine seg 8 0 [(59,vI ((i2:Int)+1))] (fc (aAh (i2:Int) 1 u3_) f0) ?_;have hM:Mm (fun _=>False) w _ ([bk ag #[vL p0 os.length cp0] 24,rw_ arL 4 68 (vL ad (AS os).length ab) (AS os),bk af #[vS prof,vL ad (AS os).length ab,.map (some ac),.map (some aa),.map (some ae)] 66,mp Tryz.prog 9 ac n (aCg T),aAV inL 1 3 (T.map (·.2)),mp Tryz.prog 9 aa (n3+1) (upd (rdF prof T2) (vS y2.o.id) (.agg #[vB ((aA8 y2.o.tags prof).1==[110,111]),vB false,vB false,vI (aA7 (aA8 y2.o.tags [115,112,101,101,100]).1),vL qh (aAc y2.o).length ch,vL y2.pr y2.o.refs.length y2.cr])),mp Tryz.prog 104 ae n4 (setT (aB8 prof (os.take i2)))]++[aAV spL 2 260 (hrB T2),rw_ spL 2 260 (vL qh (aAc y2.o).length ch) (aAc y2.o)]):=hM.pick [0,1,2,3,4,5,6,7,9];have hM:=aIh (L':=hrB ((y2,vL qh (aAc y2.o).length ch)::T2)) hM (.refl _)
      have hrv : (.agg #[vB ((aA8 y2.o.tags prof).1 == [110, 111]), vB false, vB false, vI (aA7 (aA8 y2.o.tags [115, 112, 101, 101, 100]).1), vL qh (aAc y2.o).length ch, vL y2.pr y2.o.refs.length y2.cr]) = aEH prof y2 (vL qh (aAc y2.o).length ch) := by
                 have hf:(prof==aIp)=(prof==[102,111,111,116]):=rfl;simp only [aEH,aAp,rfV,hf,←hco,h87,h91,h98,h99]<;>rfl
      have e9:(upd (rdF prof T2) (vS y2.o.id) (.agg #[vB ((aA8 y2.o.tags prof).1==[110,111]),vB false,vB false,vI (aA7 (aA8 y2.o.tags [115,112,101,101,100]).1),vL qh (aAc y2.o).length ch,vL y2.pr y2.o.refs.length y2.cr]))=rdF prof ((y2,vL qh (aAc y2.o).length ch)::T2):=(congrArg (upd (rdF prof T2) (vS y2.o.id)) hrv).trans (aGD prof T2 y2 _);have e8:(setT (aB8 prof (os.take i2)))=(setT (aB8 prof (os.take (i2+1)))):=by rw [gt_ hy2,aBX,show (y2.o.kind==5)=false by rw [et h94];rfl,Bool.and_false];(try rfl)
      have hM:=hM.cast (M':=[bk ag #[vL p0 os.length cp0] 24,rw_ arL 4 68 (vL ad (AS os).length ab) (AS os),bk af #[vS prof,vL ad (AS os).length ab,.map (some ac),.map (some aa),.map (some ae)] 66,mp Tryz.prog 9 ac n (aCg T),aAV inL 1 3 (T.map (·.2)),mp Tryz.prog 9 aa (n3+1) (rdF prof ((y2,vL qh (aAc y2.o).length ch)::T2)),mp Tryz.prog 104 ae n4 (setT (aB8 prof (os.take (i2+1)))),aAV spL 2 260 (hrB ((y2,vL qh (aAc y2.o).length ch)::T2))]) (by rw [e9,e8];(try rfl));exact aAb _ (aj _ (by omega) (i2+1) (n3+1) n4 ((y2,vL qh (aAc y2.o).length ch)::T2) _ (gl hy2) (by rw [gt_ hy2,aDM h94,←hT2];rfl) hM rfl)
     | true =>
      refine drx [25] (fun γ=>[none]) _ (fun γ l=>[bk ag #[vL p0 os.length cp0] 24,rw_ arL 4 68 (vL ad (AS os).length ab) (AS os),bk af #[vS prof,vL ad (AS os).length ab,.map (some ac),.map (some aa),.map (some ae)] 66,mp Tryz.prog 9 ac n (aCg T),aAV inL 1 3 (T.map (·.2)),(bif l.getD 0 false then mp Tryz.prog 9 aa (n3+1) (upd (rdF prof T2) (vS y2.o.id) (.agg #[vB ((aA8 y2.o.tags prof).1==[110,111]),vB false,vB (c==0),vI (aA7 (aA8 y2.o.tags [115,112,101,101,100]).1),vL qh (aAc y2.o).length ch,vL y2.pr y2.o.refs.length y2.cr])) else mp Tryz.prog 9 aa n3 (rdF prof T2)),mp Tryz.prog 104 ae n4 (setT (aB8 prof (os.take i2))),aAV spL 2 260 (hrB T2),bk ah #[vS y2.o.id,vI y2.o.kind,vI y2.o.x,vI y2.o.y,vL y2.pr y2.o.refs.length y2.cr,vL y2.pt y2.o.tags.length y2.ct] 52,rw_ spL 2 260 (vL qh (aAc y2.o).length ch) (aAc y2.o)]) (fun γ=>[]) hM (fun γ=>rfl) (fun γ l w5 hM=>(fc (ldm 63 2 3 hM rfl rfl) (fc (ldm 9 8 0 hM rfl rfl) (fc (seq 9 ((aA8 y2.o.tags prof).1) [110,111]) (fc (rz (seq 9 ((aA8 y2.o.tags [111,110,101,119,97,121]).1) [121,101,115]) h98) (fc (tcl (aCD (s:=(aA8 y2.o.tags [115,112,101,101,100]).1) (Nat.le_trans (aBM hvo _) (by decide)) (hTe.fr hM.fr))) (fc (ldm 27 8 4 hM rfl rfl) f0))))))) ⟨aEm 0 25 63 5 (fun γ=>aa) n3 (rdF prof T2) (fun γ=>vS y2.o.id) (fun γ => .agg #[vB ((aA8 y2.o.tags prof).1==[110,111]),vB false,vB (c==0),vI (aA7 (aA8 y2.o.tags [115,112,101,101,100]).1),vL qh (aAc y2.o).length ch,vL y2.pr y2.o.refs.length y2.cr]) aDw u63_ (fun γ=>(aDx (hob _ (gm hy2)).bnd.id)),trivial⟩ fun a8 w1 hM=>?_;replace hM:Mm (fun _=>False) w w1 [bk ag #[vL p0 os.length cp0] 24,_,bk af #[vS prof,vL ad (AS os).length ab,.map (some ac),.map (some aa),.map (some ae)] 66,_,_,_,_,_,bk ah #[vS y2.o.id,vI y2.o.kind,vI y2.o.x,vI y2.o.y,vL y2.pr y2.o.refs.length y2.cr,vL y2.pt y2.o.tags.length y2.ct] 52,_]:=hM;refine seg 8 0 [(59,vI ((i2:Int)+1))] (fc (aAh (i2:Int) 1 u3_) f0) ?_;have hM:Mm (fun _=>False) w _ ([bk ag #[vL p0 os.length cp0] 24,rw_ arL 4 68 (vL ad (AS os).length ab) (AS os),bk af #[vS prof,vL ad (AS os).length ab,.map (some ac),.map (some aa),.map (some ae)] 66,mp Tryz.prog 9 ac n (aCg T),aAV inL 1 3 (T.map (·.2)),mp Tryz.prog 9 aa (n3+1) (upd (rdF prof T2) (vS y2.o.id) (.agg #[vB ((aA8 y2.o.tags prof).1==[110,111]),vB false,vB (c==0),vI (aA7 (aA8 y2.o.tags [115,112,101,101,100]).1),vL qh (aAc y2.o).length ch,vL y2.pr y2.o.refs.length y2.cr])),mp Tryz.prog 104 ae n4 (setT (aB8 prof (os.take i2)))]++[aAV spL 2 260 (hrB T2),rw_ spL 2 260 (vL qh (aAc y2.o).length ch) (aAc y2.o)]):=hM.pick [0,1,2,3,4,5,6,7,9];have hM:=aIh (L':=hrB ((y2,vL qh (aAc y2.o).length ch)::T2)) hM (.refl _)
      have hrv : (.agg #[vB ((aA8 y2.o.tags prof).1 == [110, 111]), vB false, vB (c == 0), vI (aA7 (aA8 y2.o.tags [115, 112, 101, 101, 100]).1), vL qh (aAc y2.o).length ch, vL y2.pr y2.o.refs.length y2.cr]) = aEH prof y2 (vL qh (aAc y2.o).length ch) := by
                 have hf:(prof==aIp)=(prof==[102,111,111,116]):=rfl;simp only [aEH,aAp,rfV,hf,←hco,h87,h91,h98,h99]<;>rfl
      have e9:(upd (rdF prof T2) (vS y2.o.id) (.agg #[vB ((aA8 y2.o.tags prof).1==[110,111]),vB false,vB (c==0),vI (aA7 (aA8 y2.o.tags [115,112,101,101,100]).1),vL qh (aAc y2.o).length ch,vL y2.pr y2.o.refs.length y2.cr]))=rdF prof ((y2,vL qh (aAc y2.o).length ch)::T2):=(congrArg (upd (rdF prof T2) (vS y2.o.id)) hrv).trans (aGD prof T2 y2 _);have e8:(setT (aB8 prof (os.take i2)))=(setT (aB8 prof (os.take (i2+1)))):=by rw [gt_ hy2,aBX,show (y2.o.kind==5)=false by rw [et h94];rfl,Bool.and_false];(try rfl)
      have hM:=hM.cast (M':=[bk ag #[vL p0 os.length cp0] 24,rw_ arL 4 68 (vL ad (AS os).length ab) (AS os),bk af #[vS prof,vL ad (AS os).length ab,.map (some ac),.map (some aa),.map (some ae)] 66,mp Tryz.prog 9 ac n (aCg T),aAV inL 1 3 (T.map (·.2)),mp Tryz.prog 9 aa (n3+1) (rdF prof ((y2,vL qh (aAc y2.o).length ch)::T2)),mp Tryz.prog 104 ae n4 (setT (aB8 prof (os.take (i2+1)))),aAV spL 2 260 (hrB ((y2,vL qh (aAc y2.o).length ch)::T2))]) (by rw [e9,e8];(try rfl));exact aAb _ (aj _ (by omega) (i2+1) (n3+1) n4 ((y2,vL qh (aAc y2.o).length ch)::T2) _ (gl hy2) (by rw [gt_ hy2,aDM h94,←hT2];rfl) hM rfl)
    have a0:=et h98
    cases ao:(aA8 y2.o.tags [104,111,117,114,115]).2 with
    | false =>
     refine drx [25] (fun γ=>[none]) _ (fun γ l=>[bk ag #[vL p0 os.length cp0] 24,rw_ arL 4 68 (vL ad (AS os).length ab) (AS os),bk af #[vS prof,vL ad (AS os).length ab,.map (some ac),.map (some aa),.map (some ae)] 66,mp Tryz.prog 9 ac n (aCg T),aAV inL 1 3 (T.map (·.2)),(bif l.getD 0 false then mp Tryz.prog 9 aa (n3+1) (upd (rdF prof T2) (vS y2.o.id) (.agg #[vB ((aA8 y2.o.tags prof).1==[110,111]),vB (!(prof==[102,111,111,116])),vB false,vI (aA7 (aA8 y2.o.tags [115,112,101,101,100]).1),vL qh (aAc y2.o).length ch,vL y2.pr y2.o.refs.length y2.cr])) else mp Tryz.prog 9 aa n3 (rdF prof T2)),mp Tryz.prog 104 ae n4 (setT (aB8 prof (os.take i2))),aAV spL 2 260 (hrB T2),bk ah #[vS y2.o.id,vI y2.o.kind,vI y2.o.x,vI y2.o.y,vL y2.pr y2.o.refs.length y2.cr,vL y2.pt y2.o.tags.length y2.ct] 52,rw_ spL 2 260 (vL qh (aAc y2.o).length ch) (aAc y2.o)]) (fun γ=>[]) hM (fun γ=>rfl) (fun γ l w5 hM=>(fc (ldm 63 2 3 hM rfl rfl) (fc (ldm 9 8 0 hM rfl rfl) (fc (seq 9 ((aA8 y2.o.tags prof).1) [110,111]) (fc (rz (seq 9 ((aA8 y2.o.tags [111,110,101,119,97,121]).1) [121,101,115]) h98) (fc (sne 9 prof [102,111,111,116]) (fc (tcl (aCD (s:=(aA8 y2.o.tags [115,112,101,101,100]).1) (Nat.le_trans (aBM hvo _) (by decide)) (hTe.fr hM.fr))) (fc (ldm 27 8 4 hM rfl rfl) f0)))))))) ⟨aEm 0 25 63 5 (fun γ=>aa) n3 (rdF prof T2) (fun γ=>vS y2.o.id) (fun γ => .agg #[vB ((aA8 y2.o.tags prof).1==[110,111]),vB (!(prof==[102,111,111,116])),vB false,vI (aA7 (aA8 y2.o.tags [115,112,101,101,100]).1),vL qh (aAc y2.o).length ch,vL y2.pr y2.o.refs.length y2.cr]) aDw u63_ (fun γ=>(aDx (hob _ (gm hy2)).bnd.id)),trivial⟩ fun a9 w1 hM=>?_;replace hM:Mm (fun _=>False) w w1 [bk ag #[vL p0 os.length cp0] 24,_,bk af #[vS prof,vL ad (AS os).length ab,.map (some ac),.map (some aa),.map (some ae)] 66,_,_,_,_,_,bk ah #[vS y2.o.id,vI y2.o.kind,vI y2.o.x,vI y2.o.y,vL y2.pr y2.o.refs.length y2.cr,vL y2.pt y2.o.tags.length y2.ct] 52,_]:=hM;refine seg 8 0 [(59,vI ((i2:Int)+1))] (fc (aAh (i2:Int) 1 u3_) f0) ?_;have hM:Mm (fun _=>False) w _ ([bk ag #[vL p0 os.length cp0] 24,rw_ arL 4 68 (vL ad (AS os).length ab) (AS os),bk af #[vS prof,vL ad (AS os).length ab,.map (some ac),.map (some aa),.map (some ae)] 66,mp Tryz.prog 9 ac n (aCg T),aAV inL 1 3 (T.map (·.2)),mp Tryz.prog 9 aa (n3+1) (upd (rdF prof T2) (vS y2.o.id) (.agg #[vB ((aA8 y2.o.tags prof).1==[110,111]),vB (!(prof==[102,111,111,116])),vB false,vI (aA7 (aA8 y2.o.tags [115,112,101,101,100]).1),vL qh (aAc y2.o).length ch,vL y2.pr y2.o.refs.length y2.cr])),mp Tryz.prog 104 ae n4 (setT (aB8 prof (os.take i2)))]++[aAV spL 2 260 (hrB T2),rw_ spL 2 260 (vL qh (aAc y2.o).length ch) (aAc y2.o)]):=hM.pick [0,1,2,3,4,5,6,7,9];have hM:=aIh (L':=hrB ((y2,vL qh (aAc y2.o).length ch)::T2)) hM (.refl _)
     have hrv : (.agg #[vB ((aA8 y2.o.tags prof).1 == [110, 111]), vB (!(prof == [102, 111, 111, 116])), vB false, vI (aA7 (aA8 y2.o.tags [115, 112, 101, 101, 100]).1), vL qh (aAc y2.o).length ch, vL y2.pr y2.o.refs.length y2.cr]) = aEH prof y2 (vL qh (aAc y2.o).length ch) := by
                have hf:(prof==aIp)=(prof==[102,111,111,116]):=rfl;simp only [aEH,aAp,rfV,hf,←hco,h87,h91,h98,ao]<;>rfl
     have e9:(upd (rdF prof T2) (vS y2.o.id) (.agg #[vB ((aA8 y2.o.tags prof).1==[110,111]),vB (!(prof==[102,111,111,116])),vB false,vI (aA7 (aA8 y2.o.tags [115,112,101,101,100]).1),vL qh (aAc y2.o).length ch,vL y2.pr y2.o.refs.length y2.cr]))=rdF prof ((y2,vL qh (aAc y2.o).length ch)::T2):=(congrArg (upd (rdF prof T2) (vS y2.o.id)) hrv).trans (aGD prof T2 y2 _);have e8:(setT (aB8 prof (os.take i2)))=(setT (aB8 prof (os.take (i2+1)))):=by rw [gt_ hy2,aBX,show (y2.o.kind==5)=false by rw [et h94];rfl,Bool.and_false];(try rfl)
     have hM:=hM.cast (M':=[bk ag #[vL p0 os.length cp0] 24,rw_ arL 4 68 (vL ad (AS os).length ab) (AS os),bk af #[vS prof,vL ad (AS os).length ab,.map (some ac),.map (some aa),.map (some ae)] 66,mp Tryz.prog 9 ac n (aCg T),aAV inL 1 3 (T.map (·.2)),mp Tryz.prog 9 aa (n3+1) (rdF prof ((y2,vL qh (aAc y2.o).length ch)::T2)),mp Tryz.prog 104 ae n4 (setT (aB8 prof (os.take (i2+1)))),aAV spL 2 260 (hrB ((y2,vL qh (aAc y2.o).length ch)::T2))]) (by rw [e9,e8];(try rfl));exact aAb _ (aj _ (by omega) (i2+1) (n3+1) n4 ((y2,vL qh (aAc y2.o).length ch)::T2) _ (gl hy2) (by rw [gt_ hy2,aDM h94,←hT2];rfl) hM rfl)
    | true =>
     refine drx [25] (fun γ=>[none]) _ (fun γ l=>[bk ag #[vL p0 os.length cp0] 24,rw_ arL 4 68 (vL ad (AS os).length ab) (AS os),bk af #[vS prof,vL ad (AS os).length ab,.map (some ac),.map (some aa),.map (some ae)] 66,mp Tryz.prog 9 ac n (aCg T),aAV inL 1 3 (T.map (·.2)),(bif l.getD 0 false then mp Tryz.prog 9 aa (n3+1) (upd (rdF prof T2) (vS y2.o.id) (.agg #[vB ((aA8 y2.o.tags prof).1==[110,111]),vB (!(prof==[102,111,111,116])),vB (c==0),vI (aA7 (aA8 y2.o.tags [115,112,101,101,100]).1),vL qh (aAc y2.o).length ch,vL y2.pr y2.o.refs.length y2.cr])) else mp Tryz.prog 9 aa n3 (rdF prof T2)),mp Tryz.prog 104 ae n4 (setT (aB8 prof (os.take i2))),aAV spL 2 260 (hrB T2),bk ah #[vS y2.o.id,vI y2.o.kind,vI y2.o.x,vI y2.o.y,vL y2.pr y2.o.refs.length y2.cr,vL y2.pt y2.o.tags.length y2.ct] 52,rw_ spL 2 260 (vL qh (aAc y2.o).length ch) (aAc y2.o)]) (fun γ=>[]) hM (fun γ=>rfl) (fun γ l w5 hM=>(fc (ldm 63 2 3 hM rfl rfl) (fc (ldm 9 8 0 hM rfl rfl) (fc (seq 9 ((aA8 y2.o.tags prof).1) [110,111]) (fc (rz (seq 9 ((aA8 y2.o.tags [111,110,101,119,97,121]).1) [121,101,115]) h98) (fc (sne 9 prof [102,111,111,116]) (fc (tcl (aCD (s:=(aA8 y2.o.tags [115,112,101,101,100]).1) (Nat.le_trans (aBM hvo _) (by decide)) (hTe.fr hM.fr))) (fc (ldm 27 8 4 hM rfl rfl) f0)))))))) ⟨aEm 0 25 63 5 (fun γ=>aa) n3 (rdF prof T2) (fun γ=>vS y2.o.id) (fun γ => .agg #[vB ((aA8 y2.o.tags prof).1==[110,111]),vB (!(prof==[102,111,111,116])),vB (c==0),vI (aA7 (aA8 y2.o.tags [115,112,101,101,100]).1),vL qh (aAc y2.o).length ch,vL y2.pr y2.o.refs.length y2.cr]) aDw u63_ (fun γ=>(aDx (hob _ (gm hy2)).bnd.id)),trivial⟩ fun ba w1 hM=>?_;replace hM:Mm (fun _=>False) w w1 [bk ag #[vL p0 os.length cp0] 24,_,bk af #[vS prof,vL ad (AS os).length ab,.map (some ac),.map (some aa),.map (some ae)] 66,_,_,_,_,_,bk ah #[vS y2.o.id,vI y2.o.kind,vI y2.o.x,vI y2.o.y,vL y2.pr y2.o.refs.length y2.cr,vL y2.pt y2.o.tags.length y2.ct] 52,_]:=hM;refine seg 8 0 [(59,vI ((i2:Int)+1))] (fc (aAh (i2:Int) 1 u3_) f0) ?_;have hM:Mm (fun _=>False) w _ ([bk ag #[vL p0 os.length cp0] 24,rw_ arL 4 68 (vL ad (AS os).length ab) (AS os),bk af #[vS prof,vL ad (AS os).length ab,.map (some ac),.map (some aa),.map (some ae)] 66,mp Tryz.prog 9 ac n (aCg T),aAV inL 1 3 (T.map (·.2)),mp Tryz.prog 9 aa (n3+1) (upd (rdF prof T2) (vS y2.o.id) (.agg #[vB ((aA8 y2.o.tags prof).1==[110,111]),vB (!(prof==[102,111,111,116])),vB (c==0),vI (aA7 (aA8 y2.o.tags [115,112,101,101,100]).1),vL qh (aAc y2.o).length ch,vL y2.pr y2.o.refs.length y2.cr])),mp Tryz.prog 104 ae n4 (setT (aB8 prof (os.take i2)))]++[aAV spL 2 260 (hrB T2),rw_ spL 2 260 (vL qh (aAc y2.o).length ch) (aAc y2.o)]):=hM.pick [0,1,2,3,4,5,6,7,9];have hM:=aIh (L':=hrB ((y2,vL qh (aAc y2.o).length ch)::T2)) hM (.refl _)
     have hrv : (.agg #[vB ((aA8 y2.o.tags prof).1 == [110, 111]), vB (!(prof == [102, 111, 111, 116])), vB (c == 0), vI (aA7 (aA8 y2.o.tags [115, 112, 101, 101, 100]).1), vL qh (aAc y2.o).length ch, vL y2.pr y2.o.refs.length y2.cr]) = aEH prof y2 (vL qh (aAc y2.o).length ch) := by
                have hf:(prof==aIp)=(prof==[102,111,111,116]):=rfl;simp only [aEH,aAp,rfV,hf,←hco,h87,h91,h98,ao]<;>rfl
     have e9:(upd (rdF prof T2) (vS y2.o.id) (.agg #[vB ((aA8 y2.o.tags prof).1==[110,111]),vB (!(prof==[102,111,111,116])),vB (c==0),vI (aA7 (aA8 y2.o.tags [115,112,101,101,100]).1),vL qh (aAc y2.o).length ch,vL y2.pr y2.o.refs.length y2.cr]))=rdF prof ((y2,vL qh (aAc y2.o).length ch)::T2):=(congrArg (upd (rdF prof T2) (vS y2.o.id)) hrv).trans (aGD prof T2 y2 _);have e8:(setT (aB8 prof (os.take i2)))=(setT (aB8 prof (os.take (i2+1)))):=by rw [gt_ hy2,aBX,show (y2.o.kind==5)=false by rw [et h94];rfl,Bool.and_false];(try rfl)
     have hM:=hM.cast (M':=[bk ag #[vL p0 os.length cp0] 24,rw_ arL 4 68 (vL ad (AS os).length ab) (AS os),bk af #[vS prof,vL ad (AS os).length ab,.map (some ac),.map (some aa),.map (some ae)] 66,mp Tryz.prog 9 ac n (aCg T),aAV inL 1 3 (T.map (·.2)),mp Tryz.prog 9 aa (n3+1) (rdF prof ((y2,vL qh (aAc y2.o).length ch)::T2)),mp Tryz.prog 104 ae n4 (setT (aB8 prof (os.take (i2+1)))),aAV spL 2 260 (hrB ((y2,vL qh (aAc y2.o).length ch)::T2))]) (by rw [e9,e8];(try rfl));exact aAb _ (aj _ (by omega) (i2+1) (n3+1) n4 ((y2,vL qh (aAc y2.o).length ch)::T2) _ (gl hy2) (by rw [gt_ hy2,aDM h94,←hT2];rfl) hM rfl)
   exact aAb _ (au _ 0 0 0 [] _ (Nat.zero_le _) rfl hM rfl)
  exact aAb _ (ap _ 0 0 [] _ (Nat.zero_le _) List.nodup_nil (fun s=>rfl) hM rfl)
end Go.Proofs.YtnhljdeohelgjaaGreatDoor
