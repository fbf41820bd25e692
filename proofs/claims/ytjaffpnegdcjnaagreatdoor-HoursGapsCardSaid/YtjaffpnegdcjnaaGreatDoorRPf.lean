/- The canonical text of spans, and what it is read as, in plain Lean. -/
import Derived.Test.YtjaffpnegdcjnaaGreatDoorRPe
set_option linter.unusedVariables false
set_option linter.unusedSimpArgs false
namespace Go.Proofs.YtjaffpnegdcjnaaGreatDoor
def dg (n : Nat) : UInt8 := UInt8.ofNat (48 + n)
def decS (n : Nat) : Bys := if n < 10 then [dg n] else [dg (n / 10), dg (n % 10)]
def dec2 (n : Nat) : Bys := [dg (n / 10), dg (n % 10)]
/-- The clock of a minute of the day. -/
def clk (m : Int) : Bys := decS (m / 60).toNat ++ 58 :: dec2 (m % 60).toNat
/-- The days of some minutes, with the minutes of the day. -/
def pcsF : Nat → Int → Int → List (Int × Int × Int)
  | 0, _, _ => []
  | n + 1, f, t => if f < t then (f / 1440, f - f / 1440 * 1440, min t ((f / 1440 + 1) * 1440) - f / 1440 * 1440) :: pcsF n (min t ((f / 1440 + 1) * 1440)) t else []
def pcs (s : Sp) : List (Int × Int × Int) := pcsF 8 s.1 s.2
def dayT (d : Int) : Bys := days.getD d.toNat []
def pcT (p : Int × Int × Int) : Bys := dayT p.1 ++ 32 :: (clk p.2.1 ++ 45 :: clk p.2.2)
def joinC : List Bys → Bys
  | [] => []
  | [x] => x
  | x :: y :: l => x ++ 44 :: 32 :: joinC (y :: l)
def textC (l : List Sp) : Bys := match l with
  | [] => never
  | s :: _ => if s == (0, 10080) then always else joinC ((l.flatMap pcs).map pcT)
/-- hours.Text: the text and the error. -/
def textR (l : List Sp) : Bys × Int := if vl (-1) l = false then ([], 1) else if l.length > 60 then ([], 2) else (textC l, 0)
def absP (p : Int × Int × Int) : Sp := (p.1 * 1440 + p.2.1, p.1 * 1440 + p.2.2)
def pcOK (p : Int × Int × Int) : Prop := 0 ≤ p.1 ∧ p.1 < 7 ∧ 0 ≤ p.2.1 ∧ p.2.1 < p.2.2 ∧ p.2.2 ≤ 1440
theorem pcsF_ok : ∀ (n : Nat) {f t : Int}, 0 ≤ f → t ≤ 10080 → ∀ p ∈ pcsF n f t, pcOK p := by
  intro n
  induction n with
  | zero => intro f t _ _ p hp; cases hp
  | succ n ih =>
    intro f t h0 h1 p hp
    unfold pcsF at hp
    split at hp
    · rcases List.mem_cons.1 hp with rfl | hp
      · unfold pcOK; simp only; omega
      · exact ih (by omega) h1 p hp
    · cases hp
theorem pcsF_same (n : Nat) (t : Int) : pcsF n t t = [] := by
  cases n with
  | zero => rfl
  | succ n => unfold pcsF; rw [if_neg (by omega)]
theorem pcsF_mn : ∀ (n : Nat) {f t : Int}, t ≤ (f / 1440 + n) * 1440 → ∀ m, mn ((pcsF n f t).map absP) m ↔ f ≤ m ∧ m < t := by
  intro n
  induction n with
  | zero =>
    intro f t h m
    simp only [pcsF, List.map_nil]
    refine ⟨fun k => (mn_nil m k).elim, fun k => ?_⟩
    omega
  | succ n ih =>
    intro f t h m
    unfold pcsF
    split
    · rename_i hft
      rw [List.map_cons, mn_cons]
      by_cases ht : t ≤ (f / 1440 + 1) * 1440
      · rw [show min t ((f / 1440 + 1) * 1440) = t by omega, pcsF_same]
        simp only [absP, List.map_nil, mn_nil, or_false]
        omega
      · rw [show min t ((f / 1440 + 1) * 1440) = (f / 1440 + 1) * 1440 by omega, ih (by rw [show (f / 1440 + 1) * 1440 / 1440 = f / 1440 + 1 by omega]; omega)]
        simp only [absP]
        omega
    · simp only [List.map_nil]
      refine ⟨fun k => (mn_nil m k).elim, fun k => ?_⟩
      omega
theorem pcs_mn {l : List Sp} (hw : wk l) (m : Int) : mn ((l.flatMap pcs).map absP) m ↔ mn l m := by
  induction l with
  | nil => rfl
  | cons s l ih =>
    obtain ⟨h0, h1, h2⟩ := hw s List.mem_cons_self
    rw [List.flatMap_cons, List.map_append, mn_append, mn_cons, ih fun x hx => hw x (List.mem_cons_of_mem _ hx)]
    unfold pcs
    rw [pcsF_mn 8 (by omega)]
theorem pcs_ok {l : List Sp} (hw : wk l) : ∀ p ∈ l.flatMap pcs, pcOK p := by
  intro p hp
  obtain ⟨s, hs, hp⟩ := List.mem_flatMap.1 hp
  obtain ⟨h0, h1, h2⟩ := hw s hs
  exact pcsF_ok 8 h0 h2 p hp
theorem pcs_ne {s : Sp} (h : s.1 < s.2) : pcs s ≠ [] := by
  unfold pcs pcsF; rw [if_pos h]; simp
theorem wk_pcs {l : List (Int × Int × Int)} (h : ∀ p ∈ l, pcOK p) : wk (l.map absP) := by
  intro s hs
  obtain ⟨p, hp, rfl⟩ := List.mem_map.1 hs
  obtain ⟨h1, h2, h3, h4, h5⟩ := h p hp
  simp only [absP]; omega
/-- The spans of the pieces of a valid list are those of the list. -/
theorem canon_pcs {l : List Sp} (h : vl (-1) l = true) : canon ((l.flatMap pcs).map absP) = l := by
  have hw := vl_wk (Int.le_refl _) h
  have h1 := canon_un (wk_pcs (pcs_ok hw))
  exact vl_uniq h1.ok h fun m => (h1.at_ m).trans (pcs_mn hw m)
-- ---- tokens
def ptok (p : Int × Int × Int) : List (Tok Unit) := [(1, dayT p.1, ()), (2, decS (p.2.1 / 60).toNat, ()), (4, cColon, ()), (2, dec2 (p.2.1 % 60).toNat, ()), (4, cDash, ()), (2, decS (p.2.2 / 60).toNat, ()), (4, cColon, ()), (2, dec2 (p.2.2 % 60).toNat, ())]
def toksJ : List (Int × Int × Int) → List (Tok Unit)
  | [] => []
  | [p] => ptok p
  | p :: q :: l => ptok p ++ (4, cComma, ()) :: toksJ (q :: l)
def bare (x : Tok Int × Int) : Tok Unit × Int := ((x.1.1, x.1.2.1, ()), x.2)
theorem dg_dig {n : Nat} (h : n < 10) : isDig (dg n) = true := by
  have : ∀ n : Fin 10, isDig (dg n) = true := by decide +kernel
  exact this ⟨n, h⟩
theorem decS_w {n : Nat} (h : n < 100) : tokW ((2, decS n, ()) : Tok Unit) := by
  refine .inr (.inl ⟨rfl, ?_⟩)
  unfold decS
  split
  · exact ⟨_, [], rfl, dg_dig (by omega), (fun b hb => by cases hb), by simp⟩
  · exact ⟨_, [_], rfl, dg_dig (by omega), (fun b hb => by rw [List.mem_singleton] at hb; subst hb; exact dg_dig (by omega)), by simp⟩
theorem dec2_w {n : Nat} (h : n < 60) : tokW ((2, dec2 n, ()) : Tok Unit) := .inr (.inl ⟨rfl, _, [_], rfl, dg_dig (by omega), (fun b hb => by rw [List.mem_singleton] at hb; subst hb; exact dg_dig (by omega)), by simp⟩)
theorem day_w {d : Int} (h : 0 ≤ d) (h2 : d < 7) : tokW ((1, dayT d, ()) : Tok Unit) := by
  have : ∀ k : Fin 7, tokW ((1, dayT (k.val : Nat), ()) : Tok Unit) := by
    intro k
    refine .inl ⟨rfl, ?_⟩
    have h1 : ∀ k : Fin 7, (match dayT (k.val : Nat) with | [c, e] => isLet c && isWrd e | _ => false) = true := by decide +kernel
    have := h1 k
    split at this
    · rename_i c e he
      rw [Bool.and_eq_true] at this
      exact ⟨c, [e], he, this.1, (fun b hb => by rw [List.mem_singleton] at hb; subst hb; exact this.2), by simp⟩
    · cases this
  have := this ⟨d.toNat, by omega⟩
  rwa [show (((⟨d.toNat, by omega⟩ : Fin 7).val : Nat) : Int) = d by simp only; omega] at this
theorem sym_w {c : UInt8} (h : isSym c = true) : tokW ((4, [c], ()) : Tok Unit) := .inr (.inr ⟨rfl, c, rfl, h⟩)
theorem lexB_tok {t : Tok Unit} (h : tokW t) {r : Bys} (hr : t.1 ≠ 4 → ∀ b, r.head? = some b → isWrd b = false) (a : Int) : (lexL (t.2.1 ++ r) a).map bare = (t, 0) :: (lexL r (a + t.2.1.length)).map bare := by
  rw [lexL_tok h hr]; rfl
theorem lexB_any (r : Bys) (a b : Int) : (lexL r a).map bare = (lexL r b).map bare := by
  have := lexL_sh _ r b (a - b) (Nat.le_refl _)
  rw [show b + (a - b) = a by omega] at this
  rw [this, List.map_map]; rfl
/-- The tokens without offsets. -/
def lexB (r : Bys) : List (Tok Unit × Int) := (lexL r 0).map bare
theorem lexB_step {t : Tok Unit} (h : tokW t) {r : Bys} (hr : t.1 ≠ 4 → ∀ b, r.head? = some b → isWrd b = false) : lexB (t.2.1 ++ r) = (t, 0) :: lexB r := by
  unfold lexB
  rw [lexB_tok h hr, lexB_any r _ 0]
theorem lexB_blk {c : UInt8} (h : isBlk c = true) (r : Bys) : lexB (c :: r) = lexB r := by
  unfold lexB
  rw [lexL_blk h, lexB_any r _ 0]
theorem pc_lex {p : Int × Int × Int} (hp : pcOK p) {r : Bys} (hr : ∀ b, r.head? = some b → isWrd b = false) : lexB (pcT p ++ r) = (ptok p).map (·, 0) ++ lexB r := by
  obtain ⟨h1, h2, h3, h4, h5⟩ := hp
  have e : pcT p ++ r = dayT p.1 ++ 32 :: (decS (p.2.1 / 60).toNat ++ ([58] ++ (dec2 (p.2.1 % 60).toNat ++ ([45] ++ (decS (p.2.2 / 60).toNat ++ ([58] ++ (dec2 (p.2.2 % 60).toNat ++ r))))))) := by
    simp [pcT, clk]
  have w1 := day_w h1 h2
  have w2 := decS_w (n := (p.2.1 / 60).toNat) (by omega)
  have w3 := sym_w (c := 58) (by decide)
  have w4 := dec2_w (n := (p.2.1 % 60).toNat) (by omega)
  have w5 := sym_w (c := 45) (by decide)
  have w6 := decS_w (n := (p.2.2 / 60).toNat) (by omega)
  have w8 := dec2_w (n := (p.2.2 % 60).toNat) (by omega)
  rw [e, lexB_step w1 (fun _ b hb => by cases hb; decide), lexB_blk (by decide), lexB_step w2 (fun _ b hb => by cases hb; decide), lexB_step w3 (fun h => absurd rfl h),
    lexB_step w4 (fun _ b hb => by cases hb; decide), lexB_step w5 (fun h => absurd rfl h), lexB_step w6 (fun _ b hb => by cases hb; decide), lexB_step w3 (fun h => absurd rfl h), lexB_step w8 (fun _ => hr)]
  rfl
theorem join_lex : ∀ (l : List (Int × Int × Int)), (∀ p ∈ l, pcOK p) → lexB (joinC (l.map pcT)) = (toksJ l).map (·, 0) := by
  intro l
  induction l with
  | nil => intro _; rfl
  | cons p l ih =>
    intro h
    have hp := h p List.mem_cons_self
    cases l with
    | nil =>
      have := pc_lex hp (r := []) (fun b hb => by cases hb)
      rw [List.append_nil] at this
      simp only [List.map_cons, List.map_nil, joinC, toksJ, this]
      simp [lexB, lexL_nil]
    | cons q l =>
      have ih := ih fun x hx => h x (List.mem_cons_of_mem _ hx)
      simp only [List.map_cons, joinC, toksJ] at ih ⊢
      have h2 := lexB_step (sym_w (c := 44) (by decide)) (r := 32 :: joinC (pcT q :: l.map pcT)) (fun h => absurd rfl h)
      simp only [List.singleton_append] at h2
      rw [pc_lex hp (fun b hb => by cases hb; decide), h2, lexB_blk (by decide), ih]
      simp [cComma]
-- ---- reading
theorem num_decS {n : Nat} (h : n < 100) : numT (decS n) = n := by
  have : ∀ n : Fin 100, numT (decS n.val) = (n.val : Int) := by decide +kernel
  exact this ⟨n, h⟩
theorem num_dec2 {n : Nat} (h : n < 100) : numT (dec2 n) = n := by
  have : ∀ n : Fin 100, numT (dec2 n.val) = (n.val : Int) := by decide +kernel
  exact this ⟨n, h⟩
theorem take_hd {α : Type} {en x : α} {k : Int} {xs : List Bys} {s : Bys} {ts : List (Tok α)} (hx : xs = [] ∨ s ∈ xs) : take en k xs ((k, s, x) :: ts) = .ok ((k, s, x), ts) := by
  unfold take sees
  simp only
  rw [if_pos]
  simp only [beq_self_eq_true, Bool.true_and, Bool.or_eq_true, List.isEmpty_iff, List.contains_eq_mem, decide_eq_true_eq]
  exact hx
theorem clock_pc {most m : Int} (h0 : 0 ≤ m) (h1 : m ≤ 1440) (h2 : m / 60 ≤ most) (ts : List (Tok Unit)) : clock () most ((2, decS (m / 60).toNat, ()) :: (4, cColon, ()) :: (2, dec2 (m % 60).toNat, ()) :: ts) = .ok ((m, ()), ts) := by
  have e1 := num_decS (n := (m / 60).toNat) (by omega)
  have e2 := num_dec2 (n := (m % 60).toNat) (by omega)
  unfold clock
  rw [take_hd (.inl rfl)]
  simp only
  rw [e1, if_neg (by omega), take_hd (.inr List.mem_cons_self)]
  simp only
  rw [take_hd (.inl rfl)]
  simp only
  rw [e2, if_neg (by
    simp only [dec2, List.length_cons, List.length_nil, Bool.or_eq_true, bne_iff_ne, decide_eq_true_eq, Bool.and_eq_true, beq_iff_eq, not_or, not_and]
    omega)]
  congr 3
  omega
theorem idx_day {d : Int} (h : 0 ≤ d) (h2 : d < 7) : idx (dayT d) = d ∧ dayT d ∈ days := by
  have : ∀ k : Fin 7, idx (dayT (k.val : Nat)) = (k.val : Nat) ∧ dayT (k.val : Nat) ∈ days := by decide +kernel
  have := this ⟨d.toNat, by omega⟩
  rwa [show (((⟨d.toNat, by omega⟩ : Fin 7).val : Nat) : Int) = d by simp only; omega] at this
theorem part_pc {p : Int × Int × Int} (hp : pcOK p) {R : List (Tok Unit)} (hR : R = [] ∨ ∃ t ts, R = (4, cComma, ()) :: t :: ts ∧ t.1 ≠ 2) : part () (ptok p ++ R) = .ok ([absP p], R) := by
  obtain ⟨h1, h2, h3, h4, h5⟩ := hp
  obtain ⟨i1, i2⟩ := idx_day h1 h2
  unfold part dys ptok
  simp only [List.cons_append, List.nil_append]
  rw [take_hd (.inr i2)]
  simp only
  rw [if_neg (by simp [sees])]
  simp only [i1]
  unfold times time
  rw [clock_pc h3 (by omega) (by omega)]
  simp only
  rw [take_hd (.inr List.mem_cons_self)]
  simp only
  rw [clock_pc (by omega) h5 (by omega)]
  simp only
  rw [if_neg (by simp only [beq_iff_eq]; omega)]
  simp only
  rw [if_neg (by omega : ¬ p.2.2 < p.2.1)]
  have hm : more R = false := by
    rcases hR with rfl | ⟨t, ts, rfl, ht⟩
    · rfl
    · simp [more, ht]
  rw [hm]
  simp only [Bool.false_eq_true, if_false]
  congr 2
  have e : (p.1 - p.1 + 7).tmod 7 + 1 = 1 := by rw [Int.sub_self]; rfl
  have e2 : (p.1 + ((0 : Nat) : Int)).tmod 7 = p.1 := by rw [Int.tmod_eq_emod_of_nonneg (by omega)]; omega
  unfold dayL
  rw [e]
  show List.flatMap _ [0] = _
  simp only [List.flatMap_cons, List.flatMap_nil, List.append_nil, e2]
  unfold addL absP
  rw [if_neg (by omega)]
  congr 2
  omega
theorem parts_pc : ∀ (n : Nat) (l : List (Int × Int × Int)), l.length ≤ n → l ≠ [] → (∀ p ∈ l, pcOK p) → parts () n (toksJ l) = .ok (l.map absP, []) := by
  intro n
  induction n with
  | zero => intro l h h2; exact absurd (List.eq_nil_of_length_eq_zero (by omega)) h2
  | succ n ih =>
    intro l h _ hp
    cases l with
    | nil => rename_i h2; exact absurd rfl h2
    | cons p l =>
      have hp0 := hp p List.mem_cons_self
      cases l with
      | nil =>
        have := part_pc hp0 (R := []) (.inl rfl)
        rw [List.append_nil] at this
        unfold parts
        simp only [toksJ, this]
        rfl
      | cons q l =>
        have h3 : ∃ t ts, toksJ (q :: l) = t :: ts ∧ t.1 ≠ 2 := by
          cases l with
          | nil => exact ⟨_, _, rfl, by simp⟩
          | cons r l => exact ⟨_, _, rfl, by simp⟩
        obtain ⟨t, ts, h3, h4⟩ := h3
        unfold parts
        simp only [toksJ]
        rw [part_pc hp0 (.inr ⟨t, ts, by rw [h3], h4⟩)]
        simp only
        rw [if_pos (by simp [sees, cComma])]
        simp only [List.drop_succ_cons, List.drop_zero]
        rw [ih (q :: l) (by simp only [List.length_cons] at h ⊢; omega) (by simp) fun x hx => hp x (List.mem_cons_of_mem _ hx)]
        rfl
theorem toks_len : ∀ (l : List (Int × Int × Int)), l.length ≤ (toksJ l).length := by
  intro l
  induction l with
  | nil => simp [toksJ]
  | cons p l ih =>
    cases l with
    | nil => simp [toksJ, ptok]
    | cons q l => simp only [toksJ, List.length_append, List.length_cons] at ih ⊢; omega
theorem errOf_none : ∀ (l : List (Tok Int × Int)), errOf l = none ↔ ∀ x ∈ l, x.2 = 0 := by
  intro l
  induction l with
  | nil => exact ⟨(fun _ x hx => by cases hx), fun _ => rfl⟩
  | cons x l ih =>
    unfold errOf
    by_cases h : x.2 = 0
    · rw [if_neg (by simp [h]), ih]
      exact ⟨fun k y hy => by rcases List.mem_cons.1 hy with rfl | hy; exact h; exact k y hy, fun k y hy => k y (List.mem_cons_of_mem _ hy)⟩
    · rw [if_pos (by simpa using h)]
      exact ⟨(fun k => by cases k), fun k => absurd (k x List.mem_cons_self) h⟩
theorem nat_ok {α β : Type} (φ : α → β) {en : α} {ts : List (Tok α)} {s : List Sp} (h : textP (φ en) (ts.map (mT φ)) = .ok s) : textP en ts = .ok s := by
  rw [textP_nat] at h
  cases hq : textP en ts with
  | error e => rw [hq] at h; cases h
  | ok q => rw [hq] at h; cases h; rfl
/-- What the canonical text is read as. -/
theorem parse_join {l : List Sp} (h : vl (-1) l = true) (hn : l.length ≤ 60) (hl : l ≠ []) : parseP (joinC ((l.flatMap pcs).map pcT)) = .ok l := by
  have hw := vl_wk (Int.le_refl _) h
  have hok := pcs_ok hw
  have hlex := join_lex _ hok
  obtain ⟨x, hx⟩ : ∃ x, x = joinC ((l.flatMap pcs).map pcT) := ⟨_, rfl⟩
  rw [← hx] at hlex ⊢
  have he : errOf (lexL x 0) = none := by
    rw [errOf_none]
    intro y hy
    have : bare y ∈ (toksJ (l.flatMap pcs)).map (·, (0 : Int)) := by rw [← hlex]; exact List.mem_map_of_mem hy
    obtain ⟨t, _, ht⟩ := List.mem_map.1 this
    have := congrArg Prod.snd ht
    exact this.symm
  have hm : ((lexL x 0).map (·.1)).map (mT fun _ => ()) = toksJ (l.flatMap pcs) := by
    have := congrArg (List.map Prod.fst) hlex
    simp only [List.map_map] at this
    rw [show (Prod.fst ∘ fun x : Tok Unit => (x, (0 : Int))) = id from rfl, List.map_id] at this
    rw [← this]
    unfold lexB
    rw [List.map_map, List.map_map]; rfl
  have hne : l.flatMap pcs ≠ [] := by
    obtain ⟨s, l', rfl⟩ := List.exists_cons_of_ne_nil hl
    have := pcs_ne (hw s List.mem_cons_self).2.1
    simp [this]
  have hT : textP () (toksJ (l.flatMap pcs)) = .ok ((l.flatMap pcs).map absP) := by
    obtain ⟨p, q, hpq⟩ := List.exists_cons_of_ne_nil hne
    have hp := hok p (by rw [hpq]; exact List.mem_cons_self)
    have hd := (idx_day hp.1 hp.2.1).2
    have hs : ∃ ts, toksJ (l.flatMap pcs) = (1, dayT p.1, ()) :: ts := by
      rw [hpq]; cases q with
      | nil => exact ⟨_, rfl⟩
      | cons q r => exact ⟨_, rfl⟩
    obtain ⟨ts, hs⟩ := hs
    have hdn : ∀ b ∈ days, ([always].contains b) = false ∧ ([never].contains b) = false := by decide +kernel
    unfold textP textQ
    rw [hs]
    simp only [sees, (hdn _ hd).1, (hdn _ hd).2, List.isEmpty_cons, Bool.or_self, Bool.and_false, Bool.false_eq_true, if_false]
    rw [← hs, parts_pc _ _ (by have := toks_len (l.flatMap pcs); omega) hne hok]
    rfl
  have hT2 : textP ((x.length : Nat) : Int) ((lexL x 0).map (·.1)) = .ok ((l.flatMap pcs).map absP) := nat_ok (fun _ => ()) (by rw [hm]; exact hT)
  unfold parseP lexP
  rw [he]
  simp only
  rw [hT2]
  simp only
  rw [canon_pcs h, if_neg (by omega)]
theorem parse_text {l : List Sp} (h : vl (-1) l = true) (hn : l.length ≤ 60) : parseP (textC l) = .ok l := by
  cases l with
  | nil => kernel_rfl
  | cons s l =>
    unfold textC
    simp only
    split
    · rename_i hs
      have hs : s = (0, 10080) := by simpa using hs
      subst hs
      cases l with
      | nil => exact (by kernel_rfl : parseP always = .ok [(0, 10080)])
      | cons q l =>
        have h2 := (vl_cons.1 (vl_cons.1 h).2.2.2)
        simp only at h2
        omega
    · exact parse_join h hn (by simp)
end Go.Proofs.YtjaffpnegdcjnaaGreatDoor
