/- A machine for a part of the programs' language, and the proof that it tells what the model tells (part 4 of 4): it runs a function's code over pure data; nothing here names the program. -/
import Derived.Carry
import Derived.ChangeShapes
import Derived.Lib.Bytealg
import Derived.LoopN
import Derived.OpenShut
import Derived.RowKit
import Derived.SizedLaws
import Derived.Test.YtilhlmedhgonbaaDoorTMC
/-! ## ToI -/
namespace Go.TM
set_option autoImplicit false
section
variable {E : Env}

def Wants (ops : List Oper) (o : Oper) (t : St) (b : Bool) : Prop :=
  match o.guard with
  | none => b = true
  | some (j, want) => ∃ (d : Nat) (x : Bool), (ops[j]?).bind (·.dst) = some d ∧ ((t.get d = .dat .bool x ∧ decide (x = want) = b) ∨ (t.get d = .tup .unit ∧ b = false))

/-- one operation of a drawn region, in the text's order -/
def Step1 (E : Env) (ops : List Oper) (o : Oper) (t t' : St) : Prop :=
  (Wants ops o t true ∧ ∃ v new, t' = t.step o.dst v new ∧ Loc E o t v new ∧ ∀ {σ : Type} (s : St) (k : St → Option σ), opD E o s k = opK E o s k) ∨
  (Wants ops o t false ∧ t' = t.step o.dst (.tup .unit) [])

theorem drawK_cons {ρ : Type} {ops : List Oper} {k : St → Option ρ} {o : Oper} {bar : Bool} {rest : List (Oper × Bool)} {t : St} {r : ρ} (h : drawK E ops k ((o, bar) :: rest) t = some r) :
    (Wants ops o t true ∧ softD E bar o t (drawK E ops k rest) = some r) ∨ (Wants ops o t false ∧ drawK E ops k rest (t.step o.dst (.tup .unit) []) = some r) := by
  unfold drawK at h
  cases hg : o.guard with
  | none => rw [hg] at h; exact .inl ⟨by simp [Wants, hg], h⟩
  | some jw =>
    obtain ⟨j, want⟩ := jw
    rw [hg] at h
    simp only at h
    cases hd : (ops[j]?).bind (·.dst) with
    | none => rw [hd] at h; cases h
    | some d =>
      rw [hd] at h
      simp only at h
      have w : ∀ (x : Bool) b, t.get d = .dat .bool x → decide (x = want) = b → Wants ops o t b := fun x b e1 e2 => by
        unfold Wants; rw [hg]; exact ⟨d, x, hd, .inl ⟨e1, e2⟩⟩
      split at h
      · rename_i x hx
        have hx : t.get d = .dat .bool (show Bool from x) := hx
        revert h hx
        generalize (show Bool from x) = y
        intro h hx
        cases y with
        | true =>
          simp only at h
          split at h
          · rename_i hw; exact .inl ⟨w true _ hx (by simp [hw]), h⟩
          · rename_i hw; exact .inr ⟨w true _ hx (by simp [hw]), by cases ho : o.dst <;> rw [ho] at h <;> exact h⟩
        | false =>
          simp only at h
          split at h
          · rename_i hw; exact .inr ⟨w false _ hx (by simp [hw]), by cases ho : o.dst <;> rw [ho] at h <;> exact h⟩
          · rename_i hw; exact .inl ⟨w false _ hx (by simp [hw]), h⟩
      · rename_i hx
        refine .inr ⟨?_, by cases ho : o.dst <;> rw [ho] at h <;> exact h⟩
        unfold Wants
        rw [hg]
        exact ⟨d, true, hd, .inr ⟨hx, rfl⟩⟩
      · cases h

/-- the operations from lo to hi, in the text's order -/
structure Seg (E : Env) (ops : List Oper) (zs : List (Oper × Bool)) {ρ : Type} (kn : St → Option ρ) (rn : ρ) (lo hi : Nat) (T : Nat → St) : Prop where
  le : lo ≤ hi
  len : hi ≤ ops.length
  step : ∀ i o, lo ≤ i → i < hi → ops[i]? = some o → Step1 E ops o (T i) (T (i + 1))
  stop : (hi = ops.length ∧ kn (T hi) = some rn) ∨ (∃ o, zs[hi]? = some (o, true) ∧ drawK E ops kn (zs.drop hi) (T hi) = some rn)

theorem seg_of (hL : ∀ f ids c, E.fn f ids = some c → c.Law) (ops : List Oper) (zs : List (Oper × Bool)) (hz : zs.map Prod.fst = ops) {ρ : Type} (kn : St → Option ρ) (rn : ρ) : ∀ (n lo : Nat) (t : St), lo + n = ops.length → drawK E ops kn (zs.drop lo) t = some rn →
    ∃ hi T, T lo = t ∧ Seg E ops zs kn rn lo hi T := by
  have hlen : zs.length = ops.length := by rw [← hz, List.length_map]
  intro n
  induction n with
  | zero =>
    intro lo t hn h
    rw [List.drop_of_length_le (by omega)] at h
    exact ⟨lo, fun _ => t, rfl, Nat.le_refl _, by omega, fun i o h1 h2 => by omega, .inl ⟨by omega, h⟩⟩
  | succ n ih =>
    intro lo t hn h
    have hlt : lo < zs.length := by omega
    have hz0 : zs[lo]? = some zs[lo] := List.getElem?_eq_getElem hlt
    have hop : ops[lo]? = some zs[lo].1 := by rw [← hz, List.getElem?_map, hz0]; rfl
    cases hb : zs[lo].2 with
    | true =>
      refine ⟨lo, fun _ => t, rfl, Nat.le_refl _, by omega, fun i o h1 h2 => by omega, .inr ⟨zs[lo].1, ?_, h⟩⟩
      rw [hz0, ← hb]
    | false =>
      rw [List.drop_eq_getElem_cons hlt] at h
      have e : zs[lo] = (zs[lo].1, false) := by rw [← hb]
      rw [e] at h
      have fin : ∀ t1, Step1 E ops zs[lo].1 t t1 → drawK E ops kn (zs.drop (lo + 1)) t1 = some rn → ∃ hi T, T lo = t ∧ Seg E ops zs kn rn lo hi T := by
        intro t1 hs h1
        obtain ⟨hi, T, hT, S⟩ := ih (lo + 1) t1 (by omega) h1
        refine ⟨hi, fun m => if m = lo then t else T m, by simp, ⟨Nat.le_of_succ_le S.le, S.len, fun i o h1 h2 ho => ?_, ?_⟩⟩
        · by_cases e : i = lo
          · subst e
            rw [hop] at ho
            obtain rfl := Option.some.inj ho
            simp only [if_true]
            rw [if_neg (by omega), hT]
            exact hs
          · simp only [e, if_false]
            rw [if_neg (by omega)]
            exact S.step i o (by omega) h2 ho
        · have : hi ≠ lo := by have := S.le; omega
          simp only [this, if_false]
          exact S.stop
      rcases drawK_cons h with ⟨h1, h2⟩ | ⟨h1, h2⟩
      · obtain ⟨v, new, h3, h4, h5⟩ := softD_local hL h2
        exact fin _ (.inl ⟨h1, v, new, rfl, h4, h5⟩) h3
      · exact fin _ (.inr ⟨h1, rfl⟩) h2

theorem step_get (s : St) (dst : Option Nat) (v : TV) (new : List (Nat × Box)) (n : Nat) : (s.step dst v new).get n = if dst = some n then v else s.get n := by
  unfold St.step St.get
  cases dst with
  | none => simp
  | some d =>
    simp only [lk_cons, Option.some.injEq]
    split <;> rfl

theorem step_box (s : St) (dst : Option Nat) (v : TV) (new : List (Nat × Box)) (b : Nat) : (s.step dst v new).box b = (lk new b).or (s.box b) := by
  unfold St.step St.box
  cases dst <;> exact lk_app _ _ _

section
variable {ρ : Type} {kn : St → Option ρ} {rn : ρ} {ops : List Oper} {zs : List (Oper × Bool)} {lo hi : Nat} {T : Nat → St}

theorem step1_get {o : Oper} {t t' : St} (h : Step1 E ops o t t') {n : Nat} (hn : o.dst ≠ some n) : t'.get n = t.get n := by
  rcases h with ⟨_, v, new, rfl, _⟩ | ⟨_, rfl⟩ <;> rw [step_get, if_neg hn]

theorem step1_box {o : Oper} {t t' : St} (h : Step1 E ops o t t') {b : Nat} (hn : o.dst ≠ some (b / 32)) : t'.box b = t.box b := by
  rcases h with ⟨_, v, new, rfl, hl, _⟩ | ⟨_, rfl⟩
  · rw [step_box, lk_none (fun x hx e => ?_)]; rfl
    obtain ⟨d, h1, h2, _⟩ := hl.1 x hx
    subst e; subst h2
    exact hn h1
  · rw [step_box]; rfl

theorem step1_mono {o : Oper} {t t' : St} (h : Step1 E ops o t t') {b : Nat} {y : Box} (hy : t.box b = some y) : t'.box b = some y := by
  rcases h with ⟨_, v, new, rfl, hl, _⟩ | ⟨_, rfl⟩
  · rw [step_box, lk_none (fun x hx e => ?_), hy]; rfl
    obtain ⟨d, h1, h2, h3⟩ := hl.1 x hx
    subst e
    rw [h3] at hy; cases hy
  · rw [step_box, hy]; rfl

theorem Seg.op (S : Seg E ops zs kn rn lo hi T) {i : Nat} (hi' : i < hi) : ∃ o, ops[i]? = some o := ⟨_, List.getElem?_eq_getElem (Nat.lt_of_lt_of_le hi' S.len)⟩

theorem Seg.mono (S : Seg E ops zs kn rn lo hi T) {b : Nat} {y : Box} {m : Nat} (h1 : lo ≤ m) : ∀ (n : Nat), m + n ≤ hi → (T m).box b = some y → (T (m + n)).box b = some y := by
  intro n
  induction n with
  | zero => intro _ h; exact h
  | succ n ih =>
    intro hn h
    obtain ⟨o, ho⟩ := S.op (i := m + n) (by omega)
    exact step1_mono (S.step (m + n) o (by omega) (by omega) ho) (ih (by omega) h)

theorem Seg.keepG (S : Seg E ops zs kn rn lo hi T) {x : Nat} {m : Nat} (h1 : lo ≤ m) : ∀ (n : Nat), m + n ≤ hi → (∀ i o, m ≤ i → i < m + n → ops[i]? = some o → o.dst ≠ some x) → (T (m + n)).get x = (T m).get x := by
  intro n
  induction n with
  | zero => intro _ _; rfl
  | succ n ih =>
    intro hn h
    obtain ⟨o, ho⟩ := S.op (i := m + n) (by omega)
    rw [← ih (by omega) (fun i o h1 h2 => h i o h1 (by omega))]
    exact step1_get (S.step (m + n) o (by omega) (by omega) ho) (h _ _ (by omega) (by omega) ho)

theorem Seg.keepB (S : Seg E ops zs kn rn lo hi T) {b : Nat} {m : Nat} (h1 : lo ≤ m) : ∀ (n : Nat), m + n ≤ hi → (∀ i o, m ≤ i → i < m + n → ops[i]? = some o → o.dst ≠ some (b / 32)) → (T (m + n)).box b = (T m).box b := by
  intro n
  induction n with
  | zero => intro _ _; rfl
  | succ n ih =>
    intro hn h
    obtain ⟨o, ho⟩ := S.op (i := m + n) (by omega)
    rw [← ih (by omega) (fun i o h1 h2 => h i o h1 (by omega))]
    exact step1_box (S.step (m + n) o (by omega) (by omega) ho) (h _ _ (by omega) (by omega) ho)
end

/-- what drawOk says -/
structure DOk (ops : List Oper) : Prop where
  back : ∀ (i : Nat) (o : Oper), ops[i]? = some o → ∀ j ∈ aftOf o, j < i
  guard : ∀ (i : Nat) (o : Oper), ops[i]? = some o → ∀ j w, o.guard = some (j, w) → j ∈ aftOf o
  looks : ∀ (i : Nat) (o : Oper), ops[i]? = some o → ∀ x ∈ looksOf ops o, ∀ (j : Nat) (o' : Oper), ops[j]? = some o' → o'.dst = some x → j ∈ aftOf o
  one : ∀ (i : Nat) (o : Oper), ops[i]? = some o → ∀ d, o.dst = some d → ∀ (j : Nat) (o' : Oper), ops[j]? = some o' → o'.dst = some d → j = i

theorem mem_iff (l : List Nat) (n : Nat) : mem l n = true ↔ n ∈ l := by
  induction l with
  | nil => simp [mem]
  | cons k l ih =>
    simp only [mem]
    by_cases e : k = n
    · subst e; simp
    · simp [beq_false e, ih, Ne.symm e]

theorem isDst_iff (t : Nat) (o : Oper) : isDst t o = true ↔ o.dst = some t := by
  unfold isDst
  cases o.dst with
  | none => simp
  | some d =>
    simp only [Option.some.injEq]
    exact ⟨fun h => Nat.eq_of_beq_eq_true h, fun h => by subst h; exact Nat.beq_refl _⟩

theorem dok_of {ops : List Oper} (h : drawOk ops = true) : DOk ops := by
  have key : ∀ (i : Nat) (o : Oper), ops[i]? = some o → drawOne ops i o = true := by
    intro i o ho
    have := List.all_eq_true.1 h (o, i) (by
      rw [List.mem_iff_getElem?]
      exact ⟨i, by simp [ho]⟩)
    exact this
  have all : ∀ {p : Oper × Nat → Bool}, ops.zipIdx.all p = true → ∀ (j : Nat) (o' : Oper), ops[j]? = some o' → p (o', j) = true := by
    intro p hp j o' ho
    exact List.all_eq_true.1 hp (o', j) (by
      rw [List.mem_iff_getElem?]
      exact ⟨j, by simp [ho]⟩)
  refine ⟨fun i o ho j hj => ?_, fun i o ho j w hg => ?_, fun i o ho x hx j o' ho' hd => ?_, fun i o ho d hd j o' ho' hd' => ?_⟩
  all_goals
    have hk := key i o ho
    simp only [drawOne, Bool.and_eq_true] at hk
    obtain ⟨⟨⟨k1, k2⟩, k3⟩, k4⟩ := hk
  · have := List.all_eq_true.1 k1 j hj
    simpa [Nat.blt_eq] using this
  · rw [hg] at k2
    exact (mem_iff _ _).1 k2
  · have := all (List.all_eq_true.1 k3 x hx) j o' ho'
    simp only [(isDst_iff x o').2 hd, Bool.not_true, Bool.false_or] at this
    exact (mem_iff _ _).1 this
  · rw [hd] at k4
    have := all k4 j o' ho'
    simp only [(isDst_iff d o').2 hd', Bool.not_true, Bool.false_or] at this
    exact Nat.eq_of_beq_eq_true this
end
end Go.TM
/-! ## ToJ -/
namespace Go.TM
set_option autoImplicit false

theorem testBit_zero' (k : Nat) : (0 : Nat).testBit k = false := by simp

theorem mask_bit (acc : List Nat) (k : Nat) : ∀ (l : List Nat), (l.foldr (fun j m => (2 ^ j ||| acc.getD j 0) ||| m) 0).testBit k = true → ∃ j ∈ l, j = k ∨ (acc.getD j 0).testBit k = true := by
  intro l
  induction l with
  | nil => intro h; simp at h
  | cons j l ih =>
    intro h
    simp only [List.foldr_cons, Nat.testBit_or, Bool.or_eq_true, Nat.testBit_two_pow, decide_eq_true_eq] at h
    rcases h with (h | h) | h
    · exact ⟨j, by simp, .inl h⟩
    · exact ⟨j, by simp, .inr h⟩
    · obtain ⟨i, hi, e⟩ := ih h
      exact ⟨i, by simp [hi], e⟩

theorem befGo_spec : ∀ (ops : List Oper) (acc : List Nat), ∃ l, befGo ops acc = acc ++ l ∧ l.length = ops.length ∧
    ∀ (i : Nat) (o : Oper), ops[i]? = some o → ∀ k, (l.getD i 0).testBit k = true → ∃ j ∈ aftOf o, j = k ∨ ((befGo ops acc).getD j 0).testBit k = true := by
  intro ops
  induction ops with
  | nil => intro acc; exact ⟨[], by simp [befGo], rfl, fun i o h => by simp at h⟩
  | cons o ops ih =>
    intro acc
    obtain ⟨l, h1, h2, h3⟩ := ih (acc ++ [(aftOf o).foldr (fun j m => (2 ^ j ||| acc.getD j 0) ||| m) 0])
    refine ⟨(aftOf o).foldr (fun j m => (2 ^ j ||| acc.getD j 0) ||| m) 0 :: l, ?_, by simp [h2], fun i o' ho k hk => ?_⟩
    · simp only [befGo]; rw [h1]; simp
    · cases i with
      | zero =>
        simp only [List.getElem?_cons_zero, Option.some.injEq] at ho
        subst ho
        simp only [List.getD_cons_zero] at hk
        obtain ⟨j, hj, e⟩ := mask_bit _ _ _ hk
        refine ⟨j, hj, e.imp id fun e => ?_⟩
        have hlt : j < acc.length := by
          apply Classical.byContradiction
          intro hn
          rw [List.getD_eq_getElem?_getD, List.getElem?_eq_none (by omega)] at e
          simp at e
        simp only [befGo]
        rw [h1, List.append_assoc, List.getD_eq_getElem?_getD, List.getElem?_append_left hlt, ← List.getD_eq_getElem?_getD]
        exact e
      | succ i =>
        simp only [List.getElem?_cons_succ] at ho
        simp only [List.getD_cons_succ] at hk
        simpa only [befGo] using h3 i o' ho k hk

/-- L holds with each operation all that it waits for -/
def Closed (ops : List Oper) (L : Nat → Prop) : Prop := ∀ (i : Nat) (o : Oper), ops[i]? = some o → L i → ∀ j ∈ aftOf o, L j

theorem bits_of {ops : List Oper} (hk : DOk ops) {L : Nat → Prop} (hc : Closed ops L) : ∀ (n i : Nat) (o : Oper), i < n → ops[i]? = some o → (∀ j ∈ aftOf o, L j) → ∀ k, ((befGo ops []).getD i 0).testBit k = true → L k := by
  obtain ⟨l, h1, _, h3⟩ := befGo_spec ops []
  rw [List.nil_append] at h1
  intro n
  induction n with
  | zero => intro i o h; omega
  | succ n ih =>
    intro i o hi ho hj k hb
    obtain ⟨j, hj', e⟩ := h3 i o ho k (by rw [← h1]; exact hb)
    rcases e with rfl | e
    · exact hj j hj'
    · have hlt := hk.back i o ho j hj'
      have hjn : j < ops.length := Nat.lt_trans hlt (List.getElem?_eq_some_iff.1 ho).1
      have hoj : ops[j]? = some ops[j] := List.getElem?_eq_getElem hjn
      exact ih j _ (by omega) hoj (hc j _ hoj (hj j hj')) k e

theorem bar_spec {ops : List Oper} {hi : Nat} {o : Oper} (h : (ops.zip (bars ops))[hi]? = some (o, true)) :
    ops[hi]? = some o ∧ ∀ j, j < ops.length → (j < hi → ((befGo ops []).getD hi 0).testBit j = true) ∧ (hi < j → ((befGo ops []).getD j 0).testBit hi = true) := by
  obtain ⟨l, h1, h2, _⟩ := befGo_spec ops []
  rw [List.nil_append] at h1
  obtain ⟨a, b, ha, hb, hab⟩ : ∃ a b, ops[hi]? = some a ∧ (bars ops)[hi]? = some b ∧ (a, b) = (o, true) := by
    rw [List.getElem?_zip_eq_some] at h
    exact ⟨o, true, h.1, h.2, rfl⟩
  simp only [Prod.mk.injEq] at hab
  obtain ⟨rfl, rfl⟩ := hab
  refine ⟨ha, fun j hj => ?_⟩
  have hlt : hi < ops.length := (List.getElem?_eq_some_iff.1 ha).1
  have hbar : isBar (befGo ops []) hi = true := by
    unfold bars at hb
    rw [List.getElem?_map, List.getElem?_range hlt] at hb
    simpa using hb
  have := List.all_eq_true.1 hbar j (List.mem_range.2 (by rw [h1, h2]; exact hj))
  constructor
  · intro hl
    have e : Nat.beq j hi = false := beq_false (by omega)
    have e2 : Nat.blt j hi = true := by simpa [Nat.blt_eq] using hl
    rw [e, e2] at this
    simpa using this
  · intro hl
    have e : Nat.beq j hi = false := beq_false (by omega)
    have e2 : Nat.blt j hi = false := by
      cases h : Nat.blt j hi with
      | false => rfl
      | true => simp [Nat.blt_eq] at h; omega
    rw [e, e2] at this
    simpa using this

section
variable {P : Program} {E : Env} {F : Fr} {Q : Exit → Act → World → Prop}

theorem Rel.congr {G : Nat → Gh} {s s' : St} {a : Act} {w : World} (h : Rel F G s a w) (hg : ∀ n, s'.get n = s.get n) (hb : ∀ b, s'.box b = s.box b) : Rel F G s' a w := by
  have e : s'.box = s.box := funext hb
  refine ⟨fun i x hx => ?_, fun i x hx => ?_, fun i j x y hx hy => ?_, fun i x hx => ?_, fun i x hx => ?_, h.R, fun n => ?_, h.agree, h.gro, h.defers, h.nt, fun i x hx => ?_⟩
  · rw [e] at hx ⊢; exact h.box i x hx
  · rw [e] at hx; exact h.fine i x hx
  · rw [e] at hx hy; exact h.apart i j x y hx hy
  · rw [e] at hx; exact h.nodup i x hx
  · rw [e] at hx; exact h.mine i x hx
  · rw [e, hg]; exact h.tmps n
  · rw [e] at hx; exact h.par i x hx

/-- what a value leads into is there -/
theorem VRc.refs {B : Nat → Option Box} {G : Nat → Gh} {w : World} {R : Nat → Prop} : ∀ (v : TV) (cs : List Value), VRc (adr B G) w R v cs → ∀ b ∈ v.refs, ∃ z, B b = some z := by
  have have1 : ∀ b p u, adr B G b p = some u → ∃ z, B b = some z := by
    intro b p u h
    unfold adr at h
    split at h
    · rename_i z hz; exact ⟨z, hz⟩
    · cases h
  intro v
  induction v with
  | ref b p => intro cs h b' hb; simp only [TV.refs, List.mem_singleton] at hb; subst hb; obtain ⟨_, _, _, _, h, _⟩ := h; exact have1 _ _ _ h
  | sl b p => intro cs h b' hb; simp only [TV.refs, List.mem_singleton] at hb; subst hb; obtain ⟨_, _, _, _, _, h, _⟩ := h; exact have1 _ _ _ h
  | slw b p lo n => intro cs h b' hb; simp only [TV.refs, List.mem_singleton] at hb; subst hb; obtain ⟨_, _, _, _, _, h, _⟩ := h; exact have1 _ _ _ h
  | cons a d iha ihd =>
    intro cs h b' hb
    obtain ⟨c1, c2, _, h1, h2⟩ := h
    simp only [TV.refs, List.mem_append] at hb
    rcases hb with hb | hb
    · exact iha c1 h1 b' hb
    · exact ihd c2 h2 b' hb
  | clo f c ih =>
    intro cs h b' hb
    obtain ⟨vs, h1, _⟩ := h
    exact ih vs h1 b' hb
  | tup a _ => intro cs h; exact h.elim
  | _ => intro cs h b' hb; simp [TV.refs] at hb

theorem VR1.refs {B : Nat → Option Box} {G : Nat → Gh} {w : World} {R : Nat → Prop} {v : TV} {x : Value} (h : VR1 (adr B G) w R v x) : ∀ b ∈ v.refs, ∃ z, B b = some z := by
  rcases h with rfl | ⟨cs, h, _⟩
  · intro b hb; simp [TV.refs] at hb
  · exact VRc.refs v cs h

theorem VRt.refs {B : Nat → Option Box} {G : Nat → Gh} {w : World} {R : Nat → Prop} : ∀ (v : TV) (xs : List Value), VRt (adr B G) w R v xs → ∀ b ∈ v.refs, ∃ z, B b = some z := by
  intro v
  induction v with
  | cons a r _ ihr =>
    intro xs h b hb
    cases xs with
    | nil => exact h.elim
    | cons x xs =>
      simp only [TV.refs, List.mem_append] at hb
      rcases hb with hb | hb
      · exact VR1.refs h.1 b hb
      · exact ihr xs h.2 b hb
  | unit => intro xs h b hb; simp [TV.refs] at hb
  | _ => intro xs h; exact h.elim

theorem VR.refs {B : Nat → Option Box} {G : Nat → Gh} {w : World} {R : Nat → Prop} {v : TV} {x : Value} (h : VR (adr B G) w R v x) : ∀ b ∈ v.refs, ∃ z, B b = some z := by
  by_cases ht : ∃ a, v = .tup a
  · obtain ⟨a, rfl⟩ := ht
    obtain ⟨xs, h, _⟩ := h
    exact VRt.refs a xs h
  · rw [VR_iff (fun a e => ht ⟨a, e⟩)] at h
    exact VR1.refs h
end
end Go.TM
/-! ## ToK -/
namespace Go.TM
set_option autoImplicit false
section
variable {P : Program} {E : Env} {F : Fr} {Q : Exit → Act → World → Prop}

def Lst (listed : Array Bool) (i : Nat) : Prop := listed.getD i false = true

theorem ready_iff {ops : Array Oper} {listed : Array Bool} (hsz : listed.size = ops.size) (i : Nat) :
    i ∈ Region.ready .any ops listed ↔ ∃ o, ops.toList[i]? = some o ∧ ¬ Lst listed i ∧ ∀ j ∈ aftOf o, Lst listed j := by
  have e : ∀ o : Oper, (o.after.all fun e => !Region.binds .any e || listed.getD e.on false) = true ↔ ∀ j ∈ aftOf o, Lst listed j := by
    intro o
    rw [← Array.all_toList, List.all_eq_true]
    constructor
    · intro h j hj
      simp only [aftOf, List.mem_map, List.mem_filter] at hj
      obtain ⟨e, ⟨he, hb⟩, rfl⟩ := hj
      have := h e he
      rw [hb, Bool.not_true, Bool.false_or] at this
      exact this
    · intro h e he
      by_cases hb : Region.binds .any e = true
      · have := h e.on (by simp only [aftOf, List.mem_map, List.mem_filter]; exact ⟨e, ⟨he, hb⟩, rfl⟩)
        unfold Lst at this
        rw [this]; simp
      · simp [hb]
  unfold Region.ready
  rw [List.mem_filter]
  simp only [List.mem_range, Bool.and_eq_true, Bool.not_eq_true']
  have hd : ∀ i, i < ops.size → (listed.getD i true = false ↔ ¬ Lst listed i) := by
    intro i hi
    have hi' : i < listed.size := by omega
    unfold Lst
    rw [Array.getD_eq_getD_getElem?, Array.getD_eq_getD_getElem?, Array.getElem?_eq_getElem hi']
    simp
  constructor
  · rintro ⟨hi, h1, h2⟩
    have ho : ops[i]? = some ops[i] := Array.getElem?_eq_getElem hi
    rw [ho] at h2
    exact ⟨ops[i], by rw [Array.getElem?_toList]; exact ho, (hd i hi).1 h1, (e _).1 (by simpa using h2)⟩
  · rintro ⟨o, ho, h1, h2⟩
    rw [Array.getElem?_toList] at ho
    have hi : i < ops.size := by
      rw [Array.getElem?_eq_some_iff] at ho
      exact ho.1
    exact ⟨hi, (hd i hi).2 h1, by rw [ho]; simpa using (e o).2 h2⟩

theorem lst_set {listed : Array Bool} {i : Nat} (hi : i < listed.size) (j : Nat) : Lst (listed.setIfInBounds i true) j ↔ j = i ∨ Lst listed j := by
  unfold Lst
  rw [Array.getD_eq_getD_getElem?, Array.getD_eq_getD_getElem?, Array.getElem?_setIfInBounds]
  by_cases e : i = j
  · subst e; simp [hi]
  · simp [e, Ne.symm e]

/-- what is listed has written x -/
def Wrote (ops : List Oper) (L : Nat → Prop) (lo hi : Nat) (x : Nat) : Prop := ∃ (i : Nat) (o : Oper), lo ≤ i ∧ i < hi ∧ L i ∧ ops[i]? = some o ∧ o.dst = some x

structure Jn (ops : List Oper) (L : Nat → Prop) (lo hi : Nat) (T : Nat → St) (s : St) : Prop where
  get1 : ∀ x, Wrote ops L lo hi x → s.get x = (T hi).get x
  get0 : ∀ x, ¬ Wrote ops L lo hi x → s.get x = (T lo).get x
  box1 : ∀ b, Wrote ops L lo hi (b / 32) → s.box b = (T hi).box b
  box0 : ∀ b, ¬ Wrote ops L lo hi (b / 32) → s.box b = (T lo).box b

section
variable {ρ : Type} {kn : St → Option ρ} {rn : ρ} {ops : List Oper} {zs : List (Oper × Bool)} {lo hi : Nat} {T : Nat → St} {L : Nat → Prop} {s : St}

theorem Jn.full (S : Seg E ops zs kn rn lo hi T) (J : Jn ops L lo hi T s) (h : ∀ i, lo ≤ i → i < hi → L i) : (∀ n, (T hi).get n = s.get n) ∧ ∀ b, (T hi).box b = s.box b := by
  obtain ⟨m, hm⟩ : ∃ m, hi = lo + m := ⟨hi - lo, by have := S.le; omega⟩
  constructor
  · intro n
    by_cases hw : Wrote ops L lo hi n
    · exact (J.get1 n hw).symm
    · rw [J.get0 n hw, hm]
      refine S.keepG (Nat.le_refl _) m (by omega) fun i o h1 h2 ho hd => hw ⟨i, o, h1, by omega, h i h1 (by omega), ho, hd⟩
  · intro b
    by_cases hw : Wrote ops L lo hi (b / 32)
    · exact (J.box1 b hw).symm
    · rw [J.box0 b hw, hm]
      refine S.keepB (Nat.le_refl _) m (by omega) fun i o h1 h2 ho hd => hw ⟨i, o, h1, by omega, h i h1 (by omega), ho, hd⟩

/-- what an operation that may be done next looks at is as in the text's order -/
theorem Jn.look (hk : DOk ops) (S : Seg E ops zs kn rn lo hi T) (J : Jn ops L lo hi T s) {i : Nat} {o : Oper} (h1 : lo ≤ i) (h2 : i < hi) (ho : ops[i]? = some o) (ha : ∀ j ∈ aftOf o, L j) {x : Nat} (hx : x ∈ looksOf ops o) :
    s.get x = (T i).get x := by
  by_cases hw : Wrote ops L lo hi x
  · rw [J.get1 x hw]
    obtain ⟨j, oj, j1, j2, j3, j4, j5⟩ := hw
    have hj := hk.back i o ho j (hk.looks i o ho x hx j oj j4 j5)
    obtain ⟨m, hm⟩ : ∃ m, hi = i + m := ⟨hi - i, by omega⟩
    rw [hm]
    refine S.keepG h1 m (by omega) fun i' o' q1 q2 ho' hd => ?_
    have := hk.one j oj j4 x j5 i' o' ho' hd
    omega
  · rw [J.get0 x hw]
    obtain ⟨m, hm⟩ : ∃ m, i = lo + m := ⟨i - lo, by omega⟩
    rw [hm]
    refine (S.keepG (Nat.le_refl _) m (by omega) fun i' o' q1 q2 ho' hd => ?_).symm
    exact hw ⟨i', o', q1, by omega, ha i' (hk.looks i o ho x hx i' o' ho' hd), ho', hd⟩

/-- both lie in what will be -/
theorem Jn.same (S : Seg E ops zs kn rn lo hi T) (J : Jn ops L lo hi T s) {i : Nat} (h1 : lo ≤ i) (h2 : i ≤ hi) {b : Nat} {y z : Box} (hy : (T i).box b = some y) (hz : s.box b = some z) : y = z := by
  by_cases hw : Wrote ops L lo hi (b / 32)
  · rw [J.box1 b hw] at hz
    obtain ⟨m, hm⟩ : ∃ m, hi = i + m := ⟨hi - i, by omega⟩
    have := S.mono h1 m (by omega) hy
    rw [← hm, hz] at this
    exact (Option.some.inj this).symm
  · rw [J.box0 b hw] at hz
    obtain ⟨m, hm⟩ : ∃ m, i = lo + m := ⟨i - lo, by omega⟩
    have := S.mono (Nat.le_refl _) m (by omega) hz
    rw [← hm, hy] at this
    exact Option.some.inj this

theorem Jn.like {G : Nat → Gh} {a : Act} {w : World} (h : Rel F G s a w) (hk : DOk ops) (S : Seg E ops zs kn rn lo hi T) (J : Jn ops L lo hi T s) {i : Nat} {o : Oper} (h1 : lo ≤ i) (h2 : i < hi) (ho : ops[i]? = some o) (ha : ∀ j ∈ aftOf o, L j) :
    Like o s (T i) := by
  intro x hx
  have e : s.ev x = (T i).ev x := by
    cases x with
    | tmp t =>
      refine J.look hk S h1 h2 ho ha ?_
      unfold looksOf
      refine List.mem_append.2 (.inl (List.mem_filterMap.2 ⟨_, hx, rfl⟩))
    | _ => rfl
  refine ⟨e, fun b hb => ?_⟩
  obtain ⟨z, hz⟩ := VR.refs (ev_sound h x) b (by rw [e]; exact hb)
  exact ⟨z, hz, fun y hy => J.same S h1 (by omega) hy hz⟩

theorem Jn.wants {ops : Array Oper} {G : Nat → Gh} {a : Act} {w : World} (h : Rel F G s a w) (hk : DOk ops.toList) (S : Seg E ops.toList zs kn rn lo hi T) (J : Jn ops.toList L lo hi T s) {i : Nat} {o : Oper} (h1 : lo ≤ i) (h2 : i < hi) (ho : ops.toList[i]? = some o) (ha : ∀ j ∈ aftOf o, L j) {b : Bool}
    (hb : Wants ops.toList o (T i) b) : Region.wanted o (yielded ops a.tmps) = b := by
  unfold Wants at hb
  cases hg : o.guard with
  | none => rw [hg] at hb; simp only at hb; simp [Region.wanted, hg, hb]
  | some jw =>
    obtain ⟨j, want⟩ := jw
    rw [hg] at hb
    simp only at hb
    obtain ⟨d, x, e1, e23⟩ := hb
    have hd : d ∈ looksOf ops.toList o := by
      unfold looksOf
      rw [hg]
      simp only
      rw [e1]
      exact List.mem_append.2 (.inr (by simp))
    have e := J.look hk S h1 h2 ho ha hd
    rcases e23 with ⟨e2, e3⟩ | ⟨e2, e3⟩
    rotate_left
    · rw [e2] at e
      rw [Array.getElem?_toList] at e1
      have hy := guard_none h e1 e
      simp only [Region.wanted, hg, hy]
      rw [e3]
      cases want <;> rfl
    rw [e2] at e
    have hv := guard_bool h e
    have hy : yielded ops a.tmps j = some x := by
      have hv2 : a.tmps[d]? = some (.bool x) := by
        rw [Array.getD_eq_getD_getElem?] at hv
        cases ht : a.tmps[d]? with
        | none => rw [ht] at hv; cases hv
        | some v => rw [ht] at hv; exact congrArg some hv
      rw [Array.getElem?_toList] at e1
      cases hj : ops[j]? with
      | none => rw [hj] at e1; cases e1
      | some oj =>
        rw [hj] at e1
        have e1 : oj.dst = some d := e1
        simp only [yielded, hj, e1, hv2, Option.bind_some]
    simp only [Region.wanted, hg, hy]
    rw [← e3]
    cases x <;> cases want <;> rfl

theorem Jn.next (hk : DOk ops) (S : Seg E ops zs kn rn lo hi T) (J : Jn ops L lo hi T s) {i : Nat} {o : Oper} (h1 : lo ≤ i) (h2 : i < hi) (ho : ops[i]? = some o) (hi' : ¬ L i) {v : TV} {new : List (Nat × Box)}
    (hT : T (i + 1) = (T i).step o.dst v new) (hn : ∀ x ∈ new, ∃ d, o.dst = some d ∧ x.1 / 32 = d) {L' : Nat → Prop} (hL : ∀ j, L' j ↔ j = i ∨ L j) : Jn ops L' lo hi T (s.step o.dst v new) := by
  obtain ⟨m, hm⟩ : ∃ m, hi = (i + 1) + m := ⟨hi - (i + 1), by omega⟩
  obtain ⟨m0, hm0⟩ : ∃ m, i = lo + m := ⟨i - lo, by omega⟩
  have own : ∀ x, o.dst = some x → ¬ Wrote ops L lo hi x := fun x hx ⟨j, oj, _, _, j3, j4, j5⟩ => by
    have := hk.one i o ho x hx j oj j4 j5
    subst this
    exact hi' j3
  have oth : ∀ x, o.dst ≠ some x → (Wrote ops L' lo hi x ↔ Wrote ops L lo hi x) := fun x hx => by
    constructor
    · rintro ⟨j, oj, j1, j2, j3, j4, j5⟩
      rcases (hL j).1 j3 with rfl | h
      · rw [ho] at j4; obtain rfl := Option.some.inj j4; exact absurd j5 hx
      · exact ⟨j, oj, j1, j2, h, j4, j5⟩
    · rintro ⟨j, oj, j1, j2, j3, j4, j5⟩
      exact ⟨j, oj, j1, j2, (hL j).2 (.inr j3), j4, j5⟩
  have lkn : ∀ b, o.dst ≠ some (b / 32) → lk new b = none := fun b hb => lk_none fun x hx e => by
    obtain ⟨d, q1, q2⟩ := hn x hx
    subst e; subst q2
    exact hb q1
  have wr : ∀ x, o.dst = some x → Wrote ops L' lo hi x := fun x hx => ⟨i, o, h1, h2, (hL i).2 (.inl rfl), ho, hx⟩
  refine ⟨fun x hw => ?_, fun x hw => ?_, fun b hw => ?_, fun b hw => ?_⟩
  · rw [step_get]
    by_cases e : o.dst = some x
    · rw [if_pos e, hm]
      rw [S.keepG (m := i + 1) (by omega) m (by omega) (fun j oj q1 q2 q3 q4 => by have := hk.one i o ho x e j oj q3 q4; omega), hT, step_get, if_pos e]
    · rw [if_neg e]
      exact J.get1 x ((oth x e).1 hw)
  · rw [step_get]
    have e : o.dst ≠ some x := fun e => hw (wr x e)
    rw [if_neg e]
    exact J.get0 x (fun h => hw ((oth x e).2 h))
  · rw [step_box]
    by_cases e : o.dst = some (b / 32)
    · rw [J.box0 b (own _ e)]
      have e1 : (T hi).box b = (T (i + 1)).box b := by
        rw [hm]
        exact S.keepB (m := i + 1) (by omega) m (by omega) (fun j oj q1 q2 q3 q4 => by have := hk.one i o ho _ e j oj q3 q4; omega)
      have e2 : (T i).box b = (T lo).box b := by
        rw [hm0]
        exact S.keepB (m := lo) (by omega) m0 (by omega) (fun j oj q1 q2 q3 q4 => by have := hk.one i o ho _ e j oj q3 q4; omega)
      rw [e1, hT, step_box, e2]
    · rw [lkn b e]
      exact J.box1 b ((oth _ e).1 hw)
  · rw [step_box]
    have e : o.dst ≠ some (b / 32) := fun e => hw (wr _ e)
    rw [lkn b e]
    exact J.box0 b (fun h => hw ((oth _ e).2 h))
end
end
end Go.TM
/-! ## ToL -/
namespace Go.TM
set_option autoImplicit false
section
variable {P : Program} {E : Env} {F : Fr} {Q : Exit → Act → World → Prop}

theorem draw_any (hE : TyOk P E F) (hV : EnvOk P E) {ops : Array Oper} {ρ : Type} {kn : St → Option ρ} {rn : ρ} (hk : DOk ops.toList) (hQ : ∀ G s a w, Rel F G s a w → kn s = some rn → Q .normal a w) :
    ∀ (fuel : Nat) (listed : Array Bool) (a : Act) (w : World) (lo hi : Nat) (T : Nat → St) (G : Nat → Gh) (s : St), listed.size = ops.size → Seg E ops.toList (ops.toList.zip (bars ops.toList)) kn rn lo hi T → Rel F G s a w →
      Closed ops.toList (Lst listed) → (∀ i, i < lo → Lst listed i) → (∀ i, hi ≤ i → i < ops.size → ¬ Lst listed i) → Jn ops.toList (Lst listed) lo hi T s →
      (∃ U : List Nat, U.length ≤ fuel ∧ ∀ i, i < ops.size → ¬ Lst listed i → i ∈ U) → wpAny P .any ops Q fuel listed a w := by
  have hlen : ops.toList.length = ops.size := rfl
  have hops : ∀ i, i < ops.size → ops.toList[i]? = some ops[i]! := by
    intro i hi
    rw [Array.getElem?_toList, Array.getElem?_eq_getElem hi, getElem!_pos ops i hi]
  -- where nothing is ready all is listed
  have hnil : ∀ (listed : Array Bool), listed.size = ops.size → Region.ready .any ops listed = [] → ∀ n i, i < n → i < ops.size → Lst listed i := by
    intro listed hsz hr n
    induction n with
    | zero => intro i h; omega
    | succ n ih =>
      intro i hi hio
      apply Classical.byContradiction
      intro hn
      have : i ∈ Region.ready .any ops listed := (ready_iff hsz i).2 ⟨_, hops i hio, hn, fun j hj => by
        have := hk.back i _ (hops i hio) j hj
        exact ih j (by omega) (by omega)⟩
      rw [hr] at this
      cases this
  have hfin : ∀ (listed : Array Bool) (a : Act) (w : World) (lo hi : Nat) (T : Nat → St) (G : Nat → Gh) (s : St), Seg E ops.toList (ops.toList.zip (bars ops.toList)) kn rn lo hi T → Rel F G s a w →
      (∀ i, hi ≤ i → i < ops.size → ¬ Lst listed i) → Jn ops.toList (Lst listed) lo hi T s → (∀ i, i < ops.size → Lst listed i) → Q .normal a w := by
    intro listed a w lo hi T G s S h hhi J hall
    have hle := S.len
    obtain ⟨g1, g2⟩ := J.full S (fun i _ hi' => hall i (by omega))
    rcases S.stop with ⟨_, e⟩ | ⟨o, ho, _⟩
    · exact hQ G (T hi) a w (h.congr g1 g2) e
    · obtain ⟨ho, _⟩ := bar_spec ho
      have hlt := (List.getElem?_eq_some_iff.1 ho).1
      exact absurd (hall hi hlt) (hhi hi (Nat.le_refl _) hlt)
  intro fuel
  induction fuel with
  | zero =>
    intro listed a w lo hi T G s hsz S h hc hlo hhi J hU
    obtain ⟨U, hU1, hU2⟩ := hU
    have hU0 : U = [] := List.length_eq_zero_iff.1 (Nat.le_zero.1 hU1)
    have hall : ∀ i, i < ops.size → Lst listed i := fun i hi => Classical.byContradiction fun hn => by have := hU2 i hi hn; rw [hU0] at this; cases this
    refine ⟨?_, hfin listed a w lo hi T G s S h hhi J hall⟩
    apply List.eq_nil_iff_forall_not_mem.2
    intro i hi
    obtain ⟨o, ho, hn, _⟩ := (ready_iff hsz i).1 hi
    exact hn (hall i (List.getElem?_eq_some_iff.1 ho).1)
  | succ fuel ih =>
    intro listed a w lo hi T G s hsz S h hc hlo hhi J hU
    refine ⟨fun hr => hfin listed a w lo hi T G s S h hhi J (fun i hi => hnil listed hsz hr (i + 1) i (Nat.lt_succ_self i) hi), fun i hir => ?_⟩
    obtain ⟨o, ho, hn, ha⟩ := (ready_iff hsz i).1 hir
    have hio : i < ops.size := (List.getElem?_eq_some_iff.1 ho).1
    have hil : i < listed.size := by omega
    obtain ⟨U, hU1, hU2⟩ := hU
    have hU' : ∃ U : List Nat, U.length ≤ fuel ∧ ∀ j, j < ops.size → ¬ Lst (listed.setIfInBounds i true) j → j ∈ U := by
      have hm := hU2 i hio hn
      refine ⟨U.erase i, by rw [List.length_erase_of_mem hm]; omega, fun j hj hjn => ?_⟩
      rw [lst_set hil] at hjn
      have hne : j ≠ i := fun e => hjn (.inl e)
      exact (List.mem_erase_of_ne hne).2 (hU2 j hj (fun e => hjn (.inr e)))
    have hsz' : (listed.setIfInBounds i true).size = ops.size := by rw [Array.size_setIfInBounds]; exact hsz
    have hc' : Closed ops.toList (Lst (listed.setIfInBounds i true)) := by
      intro j oj hoj hj k hk'
      rw [lst_set hil] at hj ⊢
      rcases hj with rfl | hj
      · rw [ho] at hoj; obtain rfl := Option.some.inj hoj; exact .inr (ha k hk')
      · exact .inr (hc j oj hoj hj k hk')
    have hops' : ops[i]? = some o := by rw [← Array.getElem?_toList]; exact ho
    have hilo : lo ≤ i := Nat.le_of_not_lt fun hlt => hn (hlo i hlt)
    by_cases hfull : ∀ j, lo ≤ j → j < hi → Lst listed j
    · -- the segment is done: i is the barrier
      obtain ⟨g1, g2⟩ := J.full S hfull
      have hhi' : hi ≤ i := Nat.le_of_not_lt fun hlt => hn (hfull i hilo hlt)
      rcases S.stop with ⟨e, _⟩ | ⟨ob, hob, hdr⟩
      · omega
      · obtain ⟨hob', hbar⟩ := bar_spec hob
        have hihi : i = hi := by
          apply Classical.byContradiction
          intro hne
          have hb := (hbar i hio).2 (by omega)
          have := bits_of hk hc (i + 1) i o (Nat.lt_succ_self i) ho ha hi hb
          exact hhi hi (Nat.le_refl _) (by omega) this
        subst hihi
        rw [hob'] at ho
        obtain rfl := Option.some.inj ho
        have hdrop : (ops.toList.zip (bars ops.toList)).drop i = (ob, true) :: (ops.toList.zip (bars ops.toList)).drop (i + 1) := by
          have hlt : i < (ops.toList.zip (bars ops.toList)).length := (List.getElem?_eq_some_iff.1 hob).1
          rw [List.drop_eq_getElem_cons hlt]
          congr 1
          rw [List.getElem?_eq_getElem hlt] at hob
          exact Option.some.inj hob
        rw [hdrop] at hdr
        have hrel := h.congr g1 g2
        have hfst : (ops.toList.zip (bars ops.toList)).map Prod.fst = ops.toList := by
          rw [List.map_fst_zip]
          simp [bars]
        -- behind the barrier
        have next : ∀ (a' : Act) (w' : World) (G' : Nat → Gh) (t : St), Rel F G' t a' w' → drawK E ops.toList kn ((ops.toList.zip (bars ops.toList)).drop (i + 1)) t = some rn → wpAny P .any ops Q fuel (listed.setIfInBounds i true) a' w' := by
          intro a' w' G' t hr hd
          obtain ⟨hi2, T2, hT2, S2⟩ := seg_of (fun f ids c h => (hV f ids c h).law) ops.toList _ hfst kn rn (ops.size - (i + 1)) (i + 1) t (by rw [hlen]; omega) hd
          have hnone : ∀ j, i + 1 ≤ j → j < ops.size → ¬ Lst (listed.setIfInBounds i true) j := by
            intro j hj hjo
            rw [lst_set hil]
            rintro (e | e)
            · omega
            · exact hhi j (by omega) hjo e
          have hw : ∀ x, ¬ Wrote ops.toList (Lst (listed.setIfInBounds i true)) (i + 1) hi2 x := by
            rintro x ⟨j, oj, j1, j2, j3, j4, _⟩
            exact hnone j j1 (List.getElem?_eq_some_iff.1 j4).1 j3
          refine ih _ a' w' (i + 1) hi2 T2 G' t hsz' S2 hr hc' (fun j hj => ?_) (fun j hj hjo => hnone j (by have := S2.le; omega) hjo) ⟨fun x hx => absurd hx (hw x), fun x _ => by rw [hT2], fun b hx => absurd hx (hw _), fun b _ => by rw [hT2]⟩ hU'
          rw [lst_set hil]
          by_cases e : j = i
          · exact .inl e
          · right
            by_cases hjlo : j < lo
            · exact hlo j hjlo
            · exact hfull j (by omega) (by omega)
        unfold wpOp
        rw [hops']
        simp only
        have hwant : ∀ b, Wants ops.toList ob (T i) b → Region.wanted ob (yielded ops a.tmps) = b := by
          intro b hb
          unfold Wants at hb
          cases hg : ob.guard with
          | none => rw [hg] at hb; simp only at hb; simp [Region.wanted, hg, hb]
          | some jw =>
            obtain ⟨j, want⟩ := jw
            rw [hg] at hb
            simp only at hb
            obtain ⟨d, x, e1, e23⟩ := hb
            rcases e23 with ⟨e2, e3⟩ | ⟨e2, e3⟩
            rotate_left
            · rw [Array.getElem?_toList] at e1
              have hy := guard_none hrel e1 e2
              simp only [Region.wanted, hg, hy]
              rw [e3]
              cases want <;> rfl
            have hv := guard_bool hrel e2
            have hy : yielded ops a.tmps j = some x := by
              have hv2 : a.tmps[d]? = some (.bool x) := by
                rw [Array.getD_eq_getD_getElem?] at hv
                cases ht : a.tmps[d]? with
                | none => rw [ht] at hv; cases hv
                | some v => rw [ht] at hv; exact congrArg some hv
              rw [Array.getElem?_toList] at e1
              cases hj : ops[j]? with
              | none => rw [hj] at e1; cases e1
              | some oj =>
                rw [hj] at e1
                have e1 : oj.dst = some d := e1
                simp only [yielded, hj, e1, hv2, Option.bind_some]
            simp only [Region.wanted, hg, hy]
            rw [← e3]
            cases x <;> cases want <;> rfl
        rcases drawK_cons hdr with ⟨h1, h2⟩ | ⟨h1, h2⟩
        · rw [hwant true h1, if_pos rfl]
          left
          have h2 : opD E ob (T i) (drawK E ops.toList kn ((ops.toList.zip (bars ops.toList)).drop (i + 1))) = some rn := by
            unfold softD at h2
            simpa using h2
          exact Oper.wp_mono (fun a' w' ⟨G', s', hr, hd⟩ => next a' w' G' s' hr hd) (opD_sound hE hV G (T i) a w Q ob _ rn hrel h2)
        · rw [hwant false h1, if_neg (by simp)]
          cases hdst : ob.dst with
          | none => rw [hdst] at h2; exact next _ _ G _ hrel h2
          | some e => rw [hdst] at h2; exact next _ _ G _ (hrel.putNo e) h2
    · -- a soft operation
      have hihi : i < hi := by
        apply Nat.lt_of_not_le
        intro hge
        rcases S.stop with ⟨e, _⟩ | ⟨ob, hob, _⟩
        · omega
        · obtain ⟨hob', hbar⟩ := bar_spec hob
          by_cases e : i = hi
          · subst e
            refine hfull fun j j1 j2 => ?_
            exact bits_of hk hc (i + 1) i o (Nat.lt_succ_self i) ho ha j ((hbar j (by omega)).1 j2)
          · have hb := (hbar i hio).2 (by omega)
            exact hhi hi (Nat.le_refl _) (by omega) (bits_of hk hc (i + 1) i o (Nat.lt_succ_self i) ho ha hi hb)
      have hlike := J.like h hk S hilo hihi ho ha
      have hhi2 : ∀ j, hi ≤ j → j < ops.size → ¬ Lst (listed.setIfInBounds i true) j := by
        intro j hj hjo
        rw [lst_set hil]
        rintro (e | e)
        · omega
        · exact hhi j hj hjo e
      have hlo2 : ∀ j, j < lo → Lst (listed.setIfInBounds i true) j := fun j hj => (lst_set hil j).2 (.inr (hlo j hj))
      unfold wpOp
      rw [hops']
      simp only
      rcases S.step i o hilo hihi ho with ⟨h1, v, new, hT, hloc, hD⟩ | ⟨h1, hT⟩
      · rw [J.wants h hk S hilo hihi ho ha h1, if_pos rfl]
        left
        have hnew : ∀ x ∈ new, s.box x.1 = none := by
          intro x hx
          obtain ⟨d, q1, q2, q3⟩ := hloc.1 x hx
          have hw : ¬ Wrote ops.toList (Lst listed) lo hi (x.1 / 32) := by
            rintro ⟨j, oj, _, _, j3, j4, j5⟩
            have := hk.one i o ho (x.1 / 32) (by rw [q1, q2]) j oj j4 j5
            subst this
            exact hn j3
          rw [J.box0 _ hw]
          cases hb : (T lo).box x.1 with
          | none => rfl
          | some y =>
            obtain ⟨m, hm⟩ : ∃ m, i = lo + m := ⟨i - lo, by omega⟩
            have := S.mono (Nat.le_refl _) m (by omega) hb
            rw [← hm, q3] at this
            cases this
        have hrun : opD E o s some = some (s.step o.dst v new) := by rw [hD, hloc.2 s hlike hnew]
        refine Oper.wp_mono (fun a' w' hp => ?_) (opD_sound hE hV G s a w Q o some _ h hrun)
        obtain ⟨G', s', hr, e⟩ := hp
        obtain rfl := Option.some.inj e
        exact ih _ a' w' lo hi T G' _ hsz' S hr hc' hlo2 hhi2 (J.next hk S hilo hihi ho hn hT (fun x hx => (hloc.1 x hx).imp fun d hd => ⟨hd.1, hd.2.1⟩) (fun j => lst_set hil j)) hU'
      · rw [J.wants h hk S hilo hihi ho ha h1, if_neg (by simp)]
        have hr : Rel F G (s.step o.dst (.tup .unit) []) (a.put o.dst undef) w := by
          cases hdst : o.dst with
          | none => exact h
          | some e => exact h.putNo e
        exact ih _ _ w lo hi T G _ hsz' S hr hc' hlo2 hhi2 (J.next hk S hilo hihi ho hn hT (fun x hx => by cases hx) (fun j => lst_set hil j)) hU'

/-- all regions are sound -/
theorem reg_sound {ρ : Type} (hE : TyOk P E F) (hV : EnvOk P E) (hm : P.follows .mixedOrders = true) : RegSound ρ P E F := by
  intro G s a w id ops dr k r h hk
  simp only [exec] at hk
  unfold regionK at hk
  cases dr with
  | false =>
    simp only at hk
    refine wp_region_list ?_
    exact (opsK_sound (opD_sound hE hV) ops (k .normal) r _ (fun a w hp => hp) ops.toList G s a w h hk)
  | true =>
    simp only at hk
    split at hk
    · cases hk
    · rename_i hok
      rw [drawR_eq] at hk
      have hkd := dok_of hok
      refine wp_region_any hm ?_
      have hfst : (ops.toList.zip (bars ops.toList)).map Prod.fst = ops.toList := by
        rw [List.map_fst_zip]
        simp [bars]
      obtain ⟨hi, T, hT, S⟩ := seg_of (fun f ids c h => (hV f ids c h).law) ops.toList _ hfst (k .normal) r ops.size 0 s (by simp) (by simpa using hk)
      have hrel : Rel F G s a { w with drawn := w.drawn + 1 } := h.shift ⟨Nat.le_refl _, rfl, rfl⟩ (fun _ _ => rfl) (fun _ _ _ _ _ => rfl) (fun _ _ _ => rfl)
      have hno : ∀ i, ¬ Lst (Array.replicate ops.size false) i := by
        intro i hi'
        unfold Lst at hi'
        rw [Array.getD_eq_getD_getElem?, Array.getElem?_replicate] at hi'
        split at hi' <;> simp at hi'
      have hw : ∀ x, ¬ Wrote ops.toList (Lst (Array.replicate ops.size false)) 0 hi x := fun x ⟨i, o, _, _, h3, _⟩ => hno i h3
      refine draw_any hE hV hkd (fun G s a w hr hs => ⟨G, s, hr, hs⟩) ops.size _ a _ 0 hi T G s (by simp) S hrel (fun i o _ hi' => absurd hi' (hno i)) (fun i hi' => absurd hi' (Nat.not_lt_zero i)) (fun i _ _ => hno i)
        ⟨fun x hx => absurd hx (hw x), fun x _ => by rw [hT], fun b hx => absurd hx (hw _), fun b _ => by rw [hT]⟩ ⟨List.range ops.size, by simp, fun i hi' _ => List.mem_range.2 hi'⟩
end
end Go.TM
/-! ## ToLa -/
namespace Go.TM
set_option autoImplicit false
section
variable {ρ : Type} {P : Program} {E : Env} {F : Fr} {G : Nat → Gh} {s : St} {a : Act} {w : World}

theorem reown_sound : ∀ (l : List (Nat × Ty)) (G : Nat → Gh) (s : St) (k : St → Option ρ) (r : ρ), Rel F G s a w → reown s l k = some r → Post F k r a w := by
  intro l
  induction l with
  | nil => intro G s k r h hk; exact ⟨G, s, h, hk⟩
  | cons x l ih =>
    intro G s k r h hk
    obtain ⟨t, T⟩ := x
    simp only [reown] at hk
    split at hk
    rotate_left
    · cases hk
    rename_i hfine
    have x1 := (h.tmps t).single (absorb_slice hk)
    obtain ⟨G1, s1, c, f, κ, hk1, T1⟩ := absorb_sound (.slice T) _ G s _ _ r h x1 hk
    split at hk1
    rotate_left
    · cases hk1
    rename_i y hy
    obtain ⟨f', fb, fo⟩ := asOwn_own (.slice T) c f _ y T1.con hy
    obtain ⟨n1, n2, n3⟩ := newBox_sound hk1
    have hd := T1.rel.drop (t * 32 + 1)
    obtain ⟨_, hbox⟩ := dropped T1.rel (t * 32 + 1)
    have hok : NewOk F G1 (s1.drop (t * 32 + 1)) w ⟨none, f'⟩ := by
      refine ⟨by simpa [Gh.blocks, fb] using T1.fresh.nodup, fun b hb j z hz => ?_, fun b hb => ?_⟩
      · have hb : b ∈ f.blocks := by simpa [Gh.blocks, fb] using hb
        rw [hbox] at hz
        split at hz
        · cases hz
        · cases hj : s1.box j with
          | none => rw [hj] at hz; cases hz
          | some z' => exact T1.fresh.out b hb j z' hj
      · exact T1.fresh.mine b (by simpa [Gh.blocks, fb] using hb)
    have hr := hd.addBox (x := ⟨.slice T, true, false, .own (.slice T) y⟩) (g := ⟨none, f'⟩) n1 n2 rfl (Ty.fine_of (t := .slice T) hfine) ⟨rfl, ⟨T, rfl⟩, _, ⟨rfl, fo⟩⟩ hok
    refine ih _ _ k r (hr.reput ?_) n3
    obtain ⟨b, cap, ks, e1, e2, _, _, hl, _⟩ := fo
    refine vr_of (v := .sl (t * 32 + 1) []) (cs := [_]) ⟨T, b, cap, ks, none, ?_, by rw [e2, hl]⟩ rfl
    rw [adr_eq (box_add _ _ _ _ |>.trans (if_pos rfl))]
    simp only [addG, if_true]
    rw [e1]
    rfl

theorem normB_sound : ∀ (l : List Nat) (G : Nat → Gh) (s : St) (k : St → Option ρ) (r : ρ), Rel F G s a w → normB s l k = some r → Post F k r a w := by
  intro l
  induction l with
  | nil => intro G s k r h hk; exact ⟨G, s, h, hk⟩
  | cons b l ih =>
    intro G s k r h hk
    simp only [normB] at hk
    unfold withBox at hk
    split at hk
    rotate_left
    · cases hk
    rename_i x hx
    try dsimp only at hk
    split at hk
    · cases hk
    · rename_i hv
      have hv : x.virt = false := by simpa using hv
      split at hk
      · rename_i y hy
        have hold := h.box b x hx
        unfold BoxRel at hold
        rw [if_neg (by simp [hv])] at hold
        obtain ⟨blk, row, e, h1, h2, h3, h4⟩ := hold
        obtain ⟨f', fb, fo⟩ := asOwn_own _ _ _ _ _ h4 hy
        have hgb : (Gh.mk (some blk) f').blocks = (G b).blocks := by simp [Gh.blocks, h1, fb]
        have hrel := back_ptr (w2 := w) (g' := ⟨some blk, f'⟩) (X := .pointer (some ⟨blk, 0, none⟩)) h hx hv (Gro.refl _) (fun _ _ => rfl) (fun _ _ _ _ _ _ => rfl) (fun _ _ _ => rfl) h1.symm ⟨blk, row, e, rfl, rfl, h2, h3, fo⟩ rfl (by rw [hgb]; exact h.nodup b x hx)
          (fun b' hb' => .inl (by rw [← fb]; exact hb')) (fun b' hb' => h.mine b x hx b' (by simp only [Gh.blocks, List.mem_append]; exact .inr (by rw [← fb]; exact hb')))
        exact ih _ _ k r hrel hk
      · cases hk

theorem keepK_sound (h : Rel F G s a w) {id : Nat} {k : St → Option ρ} {r : ρ} (hk : keepK E id s k = some r) : Post F k r a w := by
  unfold keepK at hk
  split at hk
  · exact ⟨G, s, h, hk⟩
  · obtain ⟨G1, s1, h1, hk1⟩ := reown_sound _ G s _ r h hk
    obtain ⟨G2, s2, h2, hk2⟩ := normB_sound _ G1 s1 _ r h1 hk1
    exact ⟨G2, _, h2.keepOnly _ _, hk2⟩

theorem exec_sound (hR : RegSound ρ P E F) (n : Nat) : ∀ (c : Code) (k : Ex → St → Option ρ) (r : ρ) (G : Nat → Gh) (s : St) (a : Act) (w : World), Rel F G s a w → exec E n c k s = some r → c.wp P (PostE F k r) a w := by
  intro c
  induction c with
  | skip => intro k r G s a w h hk; exact wp_skip ⟨G, s, h, hk⟩
  | ret => intro k r G s a w h hk; exact wp_ret ⟨G, s, h, hk⟩
  | exit id => intro k r G s a w h hk; exact wp_exit ⟨G, s, h, hk⟩
  | region id ops dr =>
    intro k r G s a w h hk
    exact hR G s a w id ops dr k r h hk
  | seq x y ihx ihy =>
    intro k r G s a w h hk
    refine wp_seq (wp_mono (ihx _ r G s a w h hk) fun e a w q => ?_)
    cases e with
    | normal =>
      obtain ⟨G', s', h', hk'⟩ := q
      obtain ⟨G2, s2, h2, hk2⟩ := keepK_sound h' hk'
      exact ihy _ _ G2 s2 _ _ h2 hk2
    | exit id => exact q
    | ret => exact q
    | _ => exact q.elim
  | cond c x y ihx ihy =>
    intro k r G s a w h hk
    simp only [exec] at hk
    have hc := ev_sound h c
    split at hk
    · rename_i t e
      rw [e] at hc
      have hcv := hc.bool
      split at hk
      · cases c with
        | tmp d => exact wp_cond_true hcv (ihx _ _ G _ _ _ (h.reput hc) hk)
        | _ => exact wp_cond_true hcv (ihx _ _ G _ _ _ h hk)
      · cases c with
        | tmp d => exact wp_cond_false hcv (ihy _ _ G _ _ _ (h.reput hc) hk)
        | _ => exact wp_cond_false hcv (ihy _ _ G _ _ _ h hk)
    · cases hk
  | block id c ih =>
    intro k r G s a w h hk
    refine wp_block (wp_mono (ih _ r G s a w h hk) fun e a w q => ?_)
    cases e with
    | normal => exact q
    | exit j =>
      obtain ⟨G', s', h', hk'⟩ := q
      simp only [Exit.inBlock]
      by_cases e : j = id
      · subst e
        rw [if_pos rfl]
        simp only [Nat.beq_refl, if_true] at hk'
        exact ⟨G', s', h', hk'⟩
      · rw [if_neg e]
        simp only [beq_false e, Bool.false_eq_true, if_false] at hk'
        exact ⟨G', s', h', hk'⟩
    | ret => exact q
    | _ => exact q.elim
  | loop c ih =>
    intro k r G s a w h hk
    have out : ∀ (e : Exit) (a : Act) (w : World), PostE F (exitK E (firstRegion c) k) r e a w → PostE F k r e a w := by
      intro e a w q
      have one : ∀ e, Post F (exitK E (firstRegion c) k e) r a w → Post F (k e) r a w := fun e ⟨G, s, h, hk⟩ => keepK_sound h hk
      cases e with
      | normal => exact one _ q
      | exit id => exact one _ q
      | ret => exact one _ q
      | _ => exact q.elim
    obtain ⟨G0, s0, h0, hk0⟩ := keepK_sound h hk
    refine wp_loop_rounds n ?_
    have key : ∀ (m : Nat) (G : Nat → Gh) (s : St) (a : Act) (w : World), Rel F G s a w → loopK (exec E n c) (keepK E (firstRegion c)) (exitK E (firstRegion c) k) m s = some r → Code.rounds P c (PostE F k r) m a w := by
      intro m
      induction m with
      | zero => intro G s a w _ hk; cases hk
      | succ m ihm =>
        intro G s a w h hk
        refine wp_mono (ih _ r G s a w h hk) fun e a w q => ?_
        cases e with
        | normal =>
          obtain ⟨G', s', h', hk'⟩ := q
          obtain ⟨G2, s2, h2, hk2⟩ := keepK_sound h' hk'
          exact ihm G2 _ a w h2 hk2
        | exit id => exact out (.exit id) a w q
        | ret => exact out .ret a w q
        | _ => exact q.elim
    exact key n G0 s0 a w h0 hk0
  | _ => intro k r G s a w h hk; simp [exec] at hk
end
end Go.TM
/-! ## ToM -/
namespace Go.TM
set_option autoImplicit false
section
variable {ρ : Type} {P : Program} {E : Env} {F : Fr} {G : Nat → Gh} {s : St} {a : Act} {w : World}

def resV (E : Env) (s : St) (t : Ty) : ResultVar → Option TV
  | .tmp t => some (s.get t)
  | .cell a u => if decide (E.tyOf u = some t) then loadK s t (s.get a) some else none

def resAll (E : Env) (s : St) : List ResultVar → List Ty → Option (List (Ty × TV))
  | [], [] => some []
  | r :: rs, t :: ts => match resV E s t r with
    | some v => match resAll E s rs ts with
      | some l => some ((t, v) :: l)
      | none => none
    | none => none
  | _, _ => none

def finish (E : Env) (ps : List PM) (rt : List Ty) (rv : List ResultVar) (s : St) (kf : List D → List D → Option ρ) : Option ρ :=
  match resAll E s rv rt with
  | some l => endR s id l fun s rs => endM s 0 ps fun ms => kf rs ms
  | none => none

def endK (E : Env) (ps : List PM) (rt : List Ty) (fn : Func) (kf : List D → List D → Option ρ) : Ex → St → Option ρ := fun e s => match e with
  | .exit _ => none
  | _ => finish E ps rt fn.results.toList s kf

def codeOf (fn : Func) : Code := match fn.body with
  | some c => c
  | none => .skip

/-- a call of fn, and what is done with what it hands back -/
def runC (E : Env) (n : Nat) (ps : List PM) (rt : List Ty) (fn : Func) (ds : List D) (kf : List D → List D → Option ρ) : Option ρ :=
  initAll 0 ps ds fun ts bs => exec { E with nt := fn.ntmps } n (codeOf fn) (endK { E with nt := fn.ntmps } ps rt fn kf) { tmps := ts, boxes := bs }

theorem load_val (h : Rel F G s a w) {T : Ty} {v : TV} {t : Nat} {k : TV → Option ρ} {r : ρ} (ht : TyIs P T t) {x : Value} (hx : VR (adr s.box G) w F.R v x) (hk : loadK s T v k = some r) :
    ∃ u y, k u = some r ∧ (do loadVar t (← asAddr x) : Sem Value).run P w = .ok y w ∧ VR (adr s.box G) w F.R u y := by
  have e : ∀ b, (Instr.loadAt t (.pointer (some b))).run P w = (do loadVar t (← asAddr (.pointer (some b))) : Sem Value).run P w := by
    intro b
    simp [Instr.loadAt, Instr.sureAddr, asAddr]
  unfold loadK at hk
  split at hk
  · rename_i b p
    have hx := hx.one (by simp) (by simp) rfl
    obtain ⟨u, ft, blk, off, hA, hv⟩ := hx
    simp only [List.cons.injEq, and_true] at hv
    unfold withBox at hk
    split at hk
    · rename_i bx hbx
      dsimp only at hk
      split at hk
      · rename_i hty
        have hty : tyAt bx.ty p = some T := of_decide_eq_true hty
        have hu := adr_tyAt hbx hA
        rw [hty] at hu
        obtain rfl := Option.some.inj hu
        obtain ⟨cs0, hcon0, hbase⟩ := (h.box b bx hbx).con
        obtain ⟨c', u, ft', a', cs', e1, e2, e3, e4⟩ := Con.get bx.c bx.ty (G b).ft cs0 ((G b).base.map (·, 0)) p _ r hcon0 (fun b' o e => (hbase b' o e).1) hk
        rw [adr_eq hbx, e2] at hA
        simp only [Option.some.injEq, Prod.mk.injEq] at hA
        obtain ⟨rfl, rfl, rfl⟩ := hA
        have hat := e4 blk off rfl
        have hfi := tyAt_fine _ _ _ (h.fine b bx hbx) hty
        obtain ⟨v, r1, r2⟩ := run_loadAt_of ht hat (size_one u)
        have hpl : Place (adr s.box G) b u ft' (some (blk, off)) p 0 := Place.here (fun q => adr_app (by rw [adr_eq hbx]; exact e2))
        obtain ⟨v1, v2⟩ := viewC_val c' u ft' cs' b _ p 0 hfi e3 hpl (fun _ => rfl)
        refine ⟨_, v, e1, by rw [hv, ← e, r1], vr_of v1 (by rw [v2]; exact r2)⟩
      · cases hk
    · cases hk
  · rename_i u y
    have hx := hx.one (by simp) (by simp) rfl
    obtain ⟨blk, off, c, hv, hR, hat, hrd⟩ := hx
    simp only [List.cons.injEq, and_true] at hv
    split at hk
    · rename_i hu
      have hu : u = T := of_decide_eq_true hu
      subst hu
      obtain ⟨v, r1, r2⟩ := run_loadAt_of ht hat (size_one u)
      exact ⟨_, v, hk, by rw [hv, ← e, r1], vr_of (v := .dat u y) hrd r2⟩
    · cases hk
  · cases hk

/-- how a result is fetched -/
def fetch (tmps : Array Value) : ResultVar → Sem Value
  | .tmp t => pure (tmps.getD t undef)
  | .cell a t => do loadVar t (← asAddr (tmps.getD a undef))

theorem resV_sound (h : Rel F G s a w) (hty : ∀ t T, E.tyOf t = some T → TyIs P T t) {t : Ty} {rv : ResultVar} {v : TV} (hv : resV E s t rv = some v) : ∃ x, (fetch a.tmps rv).run P w = .ok x w ∧ VR (adr s.box G) w F.R v x := by
  cases rv with
  | tmp n =>
    simp only [resV, Option.some.injEq] at hv
    subst hv
    exact ⟨_, rfl, h.tmps n⟩
  | cell n u =>
    simp only [resV] at hv
    split at hv
    · rename_i hu
      have hu : E.tyOf u = some t := of_decide_eq_true hu
      obtain ⟨v', y, e1, e2, e3⟩ := load_val h (hty u t hu) (h.tmps n) hv
      obtain rfl := Option.some.inj e1
      exact ⟨y, e2, e3⟩
    · cases hv

theorem resAll_sound (h : Rel F G s a w) (hty : ∀ t T, E.tyOf t = some T → TyIs P T t) : ∀ (rvs : List ResultVar) (ts : List Ty) (l : List (Ty × TV)), resAll E s rvs ts = some l →
    l.map Prod.fst = ts ∧ ∃ xs, (rvs.mapM (fetch a.tmps)).run P w = .ok xs w ∧ VRs (adr s.box G) w F.R (l.map Prod.snd) xs := by
  intro rvs
  induction rvs with
  | nil =>
    intro ts l hl
    cases ts with
    | nil =>
      simp only [resAll, Option.some.injEq] at hl
      subst hl
      exact ⟨rfl, [], rfl, trivial⟩
    | cons _ _ => simp [resAll] at hl
  | cons rv rvs ih =>
    intro ts l hl
    cases ts with
    | nil => simp [resAll] at hl
    | cons t ts =>
      simp only [resAll] at hl
      split at hl
      · rename_i v hv
        split at hl
        · rename_i l' hl'
          simp only [Option.some.injEq] at hl
          subst hl
          obtain ⟨e1, xs, e2, e3⟩ := ih ts l' hl'
          obtain ⟨x, e4, e5⟩ := resV_sound h hty hv
          refine ⟨by simp [e1], x :: xs, ?_, e5, e3⟩
          simp only [List.mapM_cons, Sem.run_bind, e4, Result.andThen_ok, e2, Sem.run_pure]
        · cases hl
      · cases hl

theorem results_run {fn : Func} {xs : List Value} (h : (fn.results.toList.mapM (fetch a.tmps)).run P w = .ok xs w) :
    (results fn a.tmps).run P w = .ok (if h : xs.length = 1 then xs[0] else .tuple xs.toArray) w := by
  have e : results fn a.tmps = (do
    let vs ← List.toArray <$> fn.results.toList.mapM (fetch a.tmps)
    pure (if h : vs.size = 1 then vs[0] else .tuple vs)) := by
    unfold results
    rw [← Array.mapM_eq_mapM_toList]
    rfl
  rw [e, Sem.run_bind, map_eq_pure_bind, Sem.run_bind, h]
  simp
end
end Go.TM
/-! ## ToN -/
namespace Go.TM
set_option autoImplicit false
section
variable {ρ : Type} {P : Program} {E : Env} {F : Fr} {G : Nat → Gh} {s : St} {a : Act} {w : World}

theorem absorb_agg {s : St} : ∀ (t : Ty) (v : TV) (k : St → TV → (TV → TV) → Option ρ) (r : ρ), absorb s t v k = some r → v.agg = t.agg ∧ v ≠ .un ∧ ∀ b, v ≠ .tup b := by
  intro t v k r h
  cases t <;> cases v <;> first
    | (simp [absorb] at h; done)
    | exact ⟨rfl, by simp, by simp⟩
    | (simp only [absorb] at h
       split at h
       · rename_i e
         have e := of_decide_eq_true e
         subst e
         exact ⟨rfl, by simp, by simp⟩
       · cases h)

structure Out (F : Fr) (G : Nat → Gh) (s : St) (a : Act) (w : World) (bl : List Nat) (G' : Nat → Gh) (s' : St) : Prop where
  rel : Rel F G' s' a w
  nodup : bl.Nodup
  out : ∀ b ∈ bl, ∀ j y, s'.box j = some y → b ∉ (G' j).blocks
  mine : ∀ b ∈ bl, ¬ F.R b ∧ b < w.heap.size ∧ (b ∈ F.M ∨ F.w0.heap.size ≤ b)
  had : ∀ b ∈ bl, ∃ i x, s.box i = some x ∧ b ∈ (G i).blocks
  less : Less G s G' s'

theorem endR_sound {A : AdrF} {R : Nat → Prop} : ∀ (l : List (Ty × TV)) (xs : List Value) (G : Nat → Gh) (s : St) (kl : TV → TV) (k : St → List D → Option ρ) (r : ρ), Rel F G s a w →
    VRs A w R (l.map Prod.snd) xs → (∀ v y, VR A w R v y → VR (adr s.box G) w F.R (kl v) y) → endR s kl l k = some r →
    ∃ G' s' ds fs, k s' ds = some r ∧ ds.map D.t = l.map Prod.fst ∧ ResVs w ds xs fs ∧ Out F G s a w (FT.blocksL fs) G' s' := by
  intro l
  induction l with
  | nil =>
    intro xs G s kl k r h hv hκ hk
    match xs, hv with
    | [], _ => exact ⟨G, s, [], [], hk, rfl, trivial, h, List.nodup_nil, fun b hb => (by cases hb), fun b hb => (by cases hb), fun b hb => (by cases hb), Less.refl⟩
  | cons e l ih =>
    intro xs G s kl k r h hv hκ hk
    obtain ⟨t, v⟩ := e
    match xs, hv with
    | x :: xs, hv =>
      simp only [endR] at hk
      have hv1 := hκ _ _ hv.1
      split at hk
      · rename_i hf
        obtain ⟨g1, g2, g3⟩ := readR_agg t _ _ r hk
        obtain ⟨cs, x1, x2⟩ := hv1.cells g2 g3
        obtain ⟨y, e1, hr⟩ := readR_sound h t _ cs _ r x1 hk
        obtain ⟨f1, f2⟩ := Rd.flat hf hr
        obtain ⟨G', s', ds, fs, k1, k2, k3, k4⟩ := ih xs G s kl _ r h hv.2 hκ e1
        refine ⟨G', s', ⟨t, y⟩ :: ds, .leaf :: fs, k1, by simp [k2], ⟨⟨cs, ?_, by rw [← g1]; exact x2⟩, k3⟩, ?_⟩
        · rw [f2]; exact Own.of_flat hf f1 rfl
        · have e2 : FT.blocksL (.leaf :: fs) = FT.blocksL fs := by simp [FT.blocksL, FT.blocks]
          rw [e2]; exact k4
      · obtain ⟨g1, g2, g3⟩ := absorb_agg t _ _ r hk
        obtain ⟨cs, x1, x2⟩ := hv1.cells g2 g3
        obtain ⟨G1, s1, c, f, κ, e1, T1⟩ := absorb_sound t _ G s cs _ r h x1 hk
        split at e1
        · rename_i y hy
          obtain ⟨f', fb, fo⟩ := asOwn_own t c f cs y T1.con hy
          obtain ⟨G', s', ds, fs, k1, k2, k3, k4⟩ := ih xs G1 s1 _ _ r T1.rel hv.2 (fun v y hvy => T1.vr _ _ (hκ v y hvy)) e1
          have fr := T1.fresh.less k4.less
          refine ⟨G', s', ⟨t, y⟩ :: ds, f' :: fs, k1, by simp [k2], ⟨⟨cs, fo, by rw [← g1]; exact x2⟩, k3⟩, ⟨k4.rel, ?_, ?_, ?_, ?_, T1.less.trans k4.less⟩⟩
          · simp only [FT.blocksL, List.nodup_append, fb]
            refine ⟨fr.nodup, k4.nodup, fun b hb c hc e => ?_⟩
            subst e
            obtain ⟨i, z, hz, hm⟩ := k4.had b hc
            exact T1.fresh.out b hb i z hz hm
          all_goals
            intro b hb
            simp only [FT.blocksL, List.mem_append, fb] at hb
          · rcases hb with hb | hb
            · exact fr.out b hb
            · exact k4.out b hb
          · rcases hb with hb | hb
            · exact fr.mine b hb
            · exact k4.mine b hb
          · rcases hb with hb | hb
            · exact T1.had b hb
            · obtain ⟨i, z, hz, hm⟩ := k4.had b hb
              exact T1.less.sub i z hz b hm
        · cases e1
    | [], hv => exact hv.elim

/-- what a parameter was at the call -/
def ParM (F : Fr) (m : PM) (v : Value) (g : Gh) (id : Nat) : Prop :=
  match m with
  | .ptr _ => F.base id = g.base ∧ ∃ blk, g.base = some blk ∧ v = .pointer (some ⟨blk, 0, none⟩)
  | .mut t => (∃ u, t = .slice u) ∧ F.hdr id = g.ft.hdr ∧ ∃ b cap ks, g.ft = .node b cap ks ∧ v = .slice (b.map (⟨·, 0, none⟩)) ks.length cap
  | _ => True

def ParMs (F : Fr) : Nat → List PM → List Value → List Gh → Prop
  | _, [], [], [] => True
  | i, m :: ms, v :: vs, g :: gs => ParM F m v g (i * 32) ∧ ParMs F (i + 1) ms vs gs
  | _, _, _, _ => False

theorem endM_sound (h : Rel F G s a w) : ∀ (ms : List PM) (i : Nat) (vs : List Value) (gs : List Gh) (k : List D → Option ρ) (r : ρ), ParMs F i ms vs gs → endM s i ms k = some r →
    ∃ ds gs', k ds = some r ∧ MutR w ms ds vs gs gs' ∧ (ghBlocks gs').Nodup ∧ ∀ b ∈ ghBlocks gs', ∃ j x, i ≤ j ∧ s.box (j * 32) = some x ∧ b ∈ (G (j * 32)).blocks := by
  intro ms
  induction ms with
  | nil =>
    intro i vs gs k r hp hk
    match vs, gs, hp with
    | [], [], _ => exact ⟨[], [], hk, trivial, List.nodup_nil, fun b hb => (by cases hb)⟩
  | cons m ms ih =>
    intro i vs gs k r hp hk
    match vs, gs, hp with
    | v :: vs, g :: gs, hp =>
      have more : ∀ (g' : Gh) (ds' : List D) (gs'' : List Gh) (x : Box), s.box (i * 32) = some x → (∀ b ∈ g'.blocks, b ∈ (G (i * 32)).blocks) → g'.blocks.Nodup → (ghBlocks gs'').Nodup →
          (∀ b ∈ ghBlocks gs'', ∃ j x, i + 1 ≤ j ∧ s.box (j * 32) = some x ∧ b ∈ (G (j * 32)).blocks) →
          (ghBlocks (g' :: gs'')).Nodup ∧ ∀ b ∈ ghBlocks (g' :: gs''), ∃ j x, i ≤ j ∧ s.box (j * 32) = some x ∧ b ∈ (G (j * 32)).blocks := by
        intro g' ds' gs'' x hx h1 h2 h3 h4
        rw [gh_cons]
        refine ⟨List.nodup_append.2 ⟨h2, h3, fun b hb c hc e => ?_⟩, fun b hb => ?_⟩
        · subst e
          obtain ⟨j, y, hj, hy, hm⟩ := h4 b hc
          exact h.apart (i * 32) (j * 32) x y hx hy (by omega) b (h1 b hb) hm
        · rcases List.mem_append.1 hb with hb | hb
          · exact ⟨i, x, Nat.le_refl _, hx, h1 b hb⟩
          · obtain ⟨j, y, hj, hy, hm⟩ := h4 b hb
            exact ⟨j, y, by omega, hy, hm⟩
      have skip : m.lends = false → endM s (i + 1) ms k = some r → ∃ ds gs', k ds = some r ∧ MutR w (m :: ms) ds (v :: vs) (g :: gs) gs' ∧ (ghBlocks gs').Nodup ∧ ∀ b ∈ ghBlocks gs', ∃ j x, i ≤ j ∧ s.box (j * 32) = some x ∧ b ∈ (G (j * 32)).blocks := by
        intro hm hk
        obtain ⟨ds, gs', k1, k2, k3, k4⟩ := ih (i + 1) vs gs k r hp.2 hk
        have e : ghBlocks ((⟨none, .leaf⟩ : Gh) :: gs') = ghBlocks gs' := by simp [ghBlocks, Gh.blocks, FT.blocks]
        refine ⟨ds, ⟨none, .leaf⟩ :: gs', k1, ?_, by rw [e]; exact k3, fun b hb => ?_⟩
        · cases m <;> first | exact ⟨rfl, k2⟩ | simp [PM.lends] at hm
        · rw [e] at hb
          obtain ⟨j, y, hj, hy, hm⟩ := k4 b hb
          exact ⟨j, y, by omega, hy, hm⟩
      cases m with
      | ptr t =>
        simp only [endM] at hk
        unfold withBox at hk
        split at hk
        rotate_left
        · cases hk
        rename_i bx hbx
        try dsimp only at hk
        split at hk
        · cases hk
        · rename_i hc
          simp only [Bool.or_eq_true, Bool.not_eq_true', decide_eq_false_iff_not, not_or, Classical.not_not, Bool.not_eq_true] at hc
          obtain ⟨c1, c2⟩ := hc
          split at hk
          · rename_i y hy
            obtain ⟨ds, gs', k1, k2, k3, k4⟩ := ih (i + 1) vs gs _ r hp.2 hk
            have hold := h.box _ bx hbx
            unfold BoxRel at hold
            rw [if_neg (by simp [c1])] at hold
            obtain ⟨blk, row, e, h1, h2, h3, h4⟩ := hold
            subst c2
            obtain ⟨f', fb, fo⟩ := asOwn_own _ _ _ _ _ h4 hy
            obtain ⟨hbase, blk', hb1, hv⟩ := hp.1
            have hpar := (h.par _ bx hbx).1 (by omega)
            rw [h1, hbase, hb1] at hpar
            obtain rfl := Option.some.inj hpar
            have hgb : (Gh.mk (some blk) f').blocks = (G (i * 32)).blocks := by simp [Gh.blocks, h1, fb]
            obtain ⟨m1, m2⟩ := more ⟨some blk, f'⟩ ds gs' bx hbx (fun b hb => by rw [← hgb]; exact hb) (by rw [hgb]; exact h.nodup _ bx hbx) k3 k4
            exact ⟨⟨_, y⟩ :: ds, ⟨some blk, f'⟩ :: gs', k1, ⟨⟨rfl, hb1.symm, blk, row, e, rfl, hv, h2, h3, fo⟩, k2⟩, m1, m2⟩
          · cases hk
      | «mut» t =>
        simp only [endM] at hk
        unfold withBox at hk
        split at hk
        rotate_left
        · cases hk
        rename_i bx hbx
        try dsimp only at hk
        split at hk
        · cases hk
        · rename_i hc
          simp only [Bool.or_eq_true, Bool.not_eq_true', decide_eq_false_iff_not, not_or, Classical.not_not, Bool.not_eq_false] at hc
          obtain ⟨⟨c1, c2⟩, c3⟩ := hc
          split at hk
          · rename_i u y hy
            obtain ⟨ds, gs', k1, k2, k3, k4⟩ := ih (i + 1) vs gs _ r hp.2 hk
            have hold := h.box _ bx hbx
            unfold BoxRel at hold
            rw [if_pos c1] at hold
            obtain ⟨h1, ⟨t', h2⟩, cs, h3⟩ := hold
            rw [hy] at h3
            obtain ⟨e1, h3⟩ := h3
            have hut : u = t := e1.trans c3
            subst hut
            obtain ⟨⟨u', hu'⟩, hhdr, b0, cap0, ks0, hg, hv⟩ := hp.1
            subst hu'
            have hpar := ((h.par _ bx hbx).2 c2).2
            rw [hhdr, hg] at hpar
            have ho := h3
            obtain ⟨b, cap, ks, e2, e3, _, _, hl, _⟩ := h3
            rw [e2] at hpar
            simp only [FT.hdr, Option.some.injEq, Prod.mk.injEq] at hpar
            obtain ⟨rfl, rfl, q3⟩ := hpar
            have hcs : cs = [v] := by rw [e3, hv, ← hl, q3]
            rw [hcs] at ho
            have hgb : (Gh.mk none (G (i * 32)).ft).blocks = (G (i * 32)).ft.blocks := by simp [Gh.blocks]
            have hnd := h.nodup _ bx hbx
            simp only [Gh.blocks, List.nodup_append] at hnd
            obtain ⟨m1, m2⟩ := more ⟨none, (G (i * 32)).ft⟩ ds gs' bx hbx (fun b hb => by rw [hgb] at hb; simp only [Gh.blocks, List.mem_append]; exact .inr hb) (by rw [hgb]; exact hnd.2.1) k3 k4
            exact ⟨⟨_, y⟩ :: ds, ⟨none, (G (i * 32)).ft⟩ :: gs', k1, ⟨⟨rfl, rfl, ho⟩, k2⟩, m1, m2⟩
          · cases hk
      | ro t => exact skip rfl (by simpa only [endM] using hk)
      | rop t => exact skip rfl (by simpa only [endM] using hk)
      | own t => exact skip rfl (by simpa only [endM] using hk)
      | clo f c => exact skip rfl (by simpa only [endM] using hk)
    | [], _, hp => exact hp.elim
    | _ :: _, [], hp => exact hp.elim
end
end Go.TM
/-! ## ToO -/
namespace Go.TM
set_option autoImplicit false
section
variable {ρ : Type} {P : Program} {E : Env} {w : World} {R : Nat → Prop}

def PM.fineB : PM → Bool
  | .ptr t | .mut t | .own t => t.fineB
  | .clo _ ms => ms.all fun m => match m with
    | .rop _ => true
    | _ => false
  | _ => true

/-- a parameter's box -/
def IB (w : World) (g : Gh) (x : Value) (b : Box) : Prop :=
  (∃ (t : Ty) (y : t.den), b = ⟨t, false, false, .own t y⟩ ∧ OwnVar w t y g x ∧ t.fine) ∨
  ∃ (u : Ty) (y : (Ty.slice u).den) (fix : Bool), b = ⟨.slice u, true, fix, .own (.slice u) y⟩ ∧ g.base = none ∧ Own w (.slice u) y g.ft [x] ∧ (Ty.slice u).fine

def IV (w : World) (R : Nat → Prop) (id : Nat) (g : Gh) (x : Value) (v : TV) (b : Option Box) : Prop :=
  VR A0 w R v x ∨ ∃ y, b = some y ∧ IB w g x y ∧ (y.virt = false → v = .ref id []) ∧ (y.virt = true → v = .sl id [])

theorem initRs_sound : ∀ (ms : List PM) (ds rest : List D) (vs : List Value) (k : List TV → List D → Option ρ) (r : ρ), ArgRos w R ms ds vs → (ms.all fun m => match m with
    | .rop _ => true
    | _ => false) = true → initRs ms (ds ++ rest) k = some r → ∃ us, k us rest = some r ∧ VRc A0 w R (us.foldr TV.cons .unit) vs := by
  intro ms
  induction ms with
  | nil =>
    intro ds rest vs k r ha _ hk
    match ds, vs, ha with
    | [], [], _ => exact ⟨[], hk, rfl⟩
  | cons m ms ih =>
    intro ds rest vs k r ha hm hk
    match ds, vs, ha with
    | d :: ds, v :: vs, ha =>
      simp only [List.all_cons, Bool.and_eq_true] at hm
      obtain ⟨h1, h2⟩ := ha
      cases m with
      | rop t =>
        obtain ⟨e, hv⟩ := h1
        simp only [List.cons_append, initRs] at hk
        split at hk
        · rename_i x hx
          obtain ⟨e', rfl⟩ := castTo_eq hx
          obtain ⟨us, k1, k2⟩ := ih ds rest vs _ r h2 hm.2 hk
          obtain ⟨dt, dx⟩ := d
          have e' : dt = t := e'
          subst e'
          exact ⟨_, k1, [v], vs, rfl, hv.one (by simp) (by simp) rfl, k2⟩
        · cases hk
      | _ => simp at hm
    | [], _ :: _, ha => exact ha.elim
    | [], [], ha => exact ha.elim
    | _ :: _, [], ha => exact ha.elim

theorem initP_sound {m : PM} {d1 ds : List D} {x : Value} {g : Gh} {id : Nat} (hf : m.fineB = true) (ha : ArgR w R m d1 x g) {k : TV → List (Nat × Box) → List D → Option ρ} {r : ρ} (hk : initP id m (d1 ++ ds) k = some r) :
    ∃ v bx, k v bx ds = some r ∧ ((bx = [] ∧ VR A0 w R v x) ∨ ∃ b, bx = [(id, b)] ∧ IB w g x b ∧ (b.virt = false → v = .ref id []) ∧ (b.virt = true → v = .sl id [])) := by
  cases m with
  | ro t =>
    match d1, ha with
    | [d], ha =>
      obtain ⟨_, e, hv⟩ := ha
      obtain ⟨dt, dx⟩ := d
      have e : dt = t := e
      subst e
      simp only [List.cons_append, List.nil_append, initP, castTo_self] at hk
      exact ⟨_, _, hk, .inl ⟨rfl, hv⟩⟩
  | rop t =>
    match d1, ha with
    | [d], ha =>
      obtain ⟨_, e, hv⟩ := ha
      obtain ⟨dt, dx⟩ := d
      have e : dt = t := e
      subst e
      simp only [List.cons_append, List.nil_append, initP, castTo_self] at hk
      exact ⟨_, _, hk, .inl ⟨rfl, hv⟩⟩
  | ptr t =>
    match d1, ha with
    | [d], ha =>
      obtain ⟨e, hv⟩ := ha
      obtain ⟨dt, dx⟩ := d
      have e : dt = t := e
      subst e
      simp only [List.cons_append, List.nil_append, initP, castTo_self] at hk
      exact ⟨_, _, hk, .inr ⟨_, rfl, .inl ⟨_, _, rfl, hv, Ty.fine_of hf⟩, fun _ => rfl, fun h => (by cases h)⟩⟩
  | «mut» t =>
    match d1, ha with
    | [d], ha =>
      obtain ⟨e, ⟨u, rfl⟩, hb, hv⟩ := ha
      obtain ⟨dt, dx⟩ := d
      have e : dt = .slice u := e
      subst e
      simp only [List.cons_append, List.nil_append, initP, castTo_self] at hk
      exact ⟨_, _, hk, .inr ⟨_, rfl, .inr ⟨_, _, _, rfl, hb, hv, Ty.fine_of hf⟩, fun h => (by cases h), fun _ => rfl⟩⟩
  | own t =>
    match d1, ha with
    | [d], ha =>
      obtain ⟨e, ⟨u, rfl⟩, hb, hv⟩ := ha
      obtain ⟨dt, dx⟩ := d
      have e : dt = .slice u := e
      subst e
      simp only [List.cons_append, List.nil_append, initP, castTo_self] at hk
      exact ⟨_, _, hk, .inr ⟨_, rfl, .inr ⟨_, _, _, rfl, hb, hv, Ty.fine_of hf⟩, fun h => (by cases h), fun _ => rfl⟩⟩
  | clo f ms =>
    obtain ⟨_, vs, rfl, hv⟩ := ha
    simp only [initP] at hk
    obtain ⟨us, k1, k2⟩ := initRs_sound ms d1 ds vs _ r hv hf hk
    exact ⟨_, _, k1, .inl ⟨rfl, vr_of (cs := [_]) ⟨vs, k2, rfl⟩ rfl⟩⟩

theorem initAll_sound : ∀ (ms : List PM) (i : Nat) (ds : List D) (vs : List Value) (gs : List Gh) (k : List (Nat × TV) → List (Nat × Box) → Option ρ) (r : ρ), (∀ m ∈ ms, m.fineB = true) → ArgsR w R ms ds vs gs → initAll i ms ds k = some r →
    ∃ ts bs, k ts bs = some r ∧
      (∀ n v, lk ts n = some v → ∃ j x g, n = i + j ∧ vs[j]? = some x ∧ gs[j]? = some g ∧ IV w R (n * 32) g x v (lk bs (n * 32))) ∧
      (∀ id b, lk bs id = some b → ∃ j x g, id = (i + j) * 32 ∧ vs[j]? = some x ∧ gs[j]? = some g ∧ IB w g x b) := by
  intro ms
  induction ms with
  | nil =>
    intro i ds vs gs k r _ ha hk
    match ds, vs, gs, ha with
    | [], [], [], _ => exact ⟨[], [], hk, fun n v h => (by cases h), fun n v h => (by cases h)⟩
  | cons m ms ih =>
    intro i ds vs gs k r hf ha hk
    match vs, gs, ha with
    | x :: vs, g :: gs, ha =>
      obtain ⟨d1, d2, rfl, h1, h2⟩ := ha
      have hk : initP (i * 32) m (d1 ++ d2) (fun v b ds => initAll (i + 1) ms ds fun ts bs => k ((i, v) :: ts) (b ++ bs)) = some r := by
        cases h : d1 ++ d2 with
        | nil => rw [h] at hk; exact hk
        | cons _ _ => rw [h] at hk; exact hk
      obtain ⟨v, bx, k1, hv⟩ := initP_sound (hf m (by simp)) h1 hk
      obtain ⟨ts, bs, k2, hT, hB⟩ := ih (i + 1) d2 vs gs _ r (fun m h => hf m (by simp [h])) h2 k1
      have hid : ∀ b, lk bs (i * 32) ≠ some b := by
        intro b hb
        obtain ⟨j, _, _, e, _⟩ := hB _ _ hb
        omega
      refine ⟨_, _, k2, fun n u hn => ?_, fun id b hb => ?_⟩
      · rw [lk_cons] at hn
        split at hn
        · rename_i e
          subst e
          obtain rfl := Option.some.inj hn
          refine ⟨0, x, g, rfl, rfl, rfl, ?_⟩
          rcases hv with ⟨rfl, hv⟩ | ⟨b, rfl, hb, hv⟩
          · exact .inl hv
          · refine .inr ⟨b, ?_, hb, hv⟩
            rw [lk_app, lk_cons, if_pos rfl]; rfl
        · obtain ⟨j, y, g', e, q1, q2, q3⟩ := hT n u hn
          refine ⟨j + 1, y, g', by omega, by simpa using q1, by simpa using q2, ?_⟩
          have e2 : lk (bx ++ bs) (n * 32) = lk bs (n * 32) := by
            rw [lk_app]
            rcases hv with ⟨rfl, _⟩ | ⟨b, rfl, _⟩
            · rfl
            · rw [lk_cons, if_neg (by omega)]; rfl
          rw [e2]; exact q3
      · rw [lk_app] at hb
        rcases hv with ⟨rfl, _⟩ | ⟨b', rfl, hb', _⟩
        · obtain ⟨j, y, g', e, q1, q2, q3⟩ := hB id b hb
          exact ⟨j + 1, y, g', by omega, by simpa using q1, by simpa using q2, q3⟩
        · rw [lk_cons] at hb
          split at hb
          · rename_i e
            obtain rfl := Option.some.inj hb
            exact ⟨0, x, g, e.symm, rfl, rfl, hb'⟩
          · obtain ⟨j, y, g', e, q1, q2, q3⟩ := hB id b hb
            exact ⟨j + 1, y, g', by omega, by simpa using q1, by simpa using q2, q3⟩
    | [], _, ha => exact ha.elim
    | _ :: _, [], ha => exact ha.elim

def gOf (gs : List Gh) (id : Nat) : Gh := if id % 32 = 0 then (gs[id / 32]?).getD ⟨none, .leaf⟩ else ⟨none, .leaf⟩

theorem gOf_at {gs : List Gh} {j : Nat} {g : Gh} (h : gs[j]? = some g) : gOf gs (j * 32) = g := by
  unfold gOf
  rw [if_pos (by omega), Nat.mul_div_cancel _ (by omega), h]; rfl

theorem gh_mem {gs : List Gh} {j : Nat} {g : Gh} (h : gs[j]? = some g) {b : Nat} (hb : b ∈ g.blocks) : b ∈ ghBlocks gs := by
  unfold ghBlocks
  exact List.mem_flatten.2 ⟨g.blocks, List.mem_map.2 ⟨g, List.mem_of_getElem? h, rfl⟩, hb⟩

theorem gh_nodup : ∀ {gs : List Gh}, (ghBlocks gs).Nodup → (∀ (j : Nat) (g : Gh), gs[j]? = some g → g.blocks.Nodup) ∧ ∀ (i j : Nat) (g g' : Gh), gs[i]? = some g → gs[j]? = some g' → i ≠ j → ∀ b ∈ g.blocks, b ∉ g'.blocks := by
  intro gs
  induction gs with
  | nil => intro _; exact ⟨fun j g h => (by simp at h), fun i j g g' h => (by simp at h)⟩
  | cons g0 gs ih =>
    intro h
    rw [gh_cons, List.nodup_append] at h
    obtain ⟨h1, h2, h3⟩ := h
    obtain ⟨i1, i2⟩ := ih h2
    refine ⟨fun j g hj => ?_, fun i j g g' hi hj hne b hb hb' => ?_⟩
    · cases j with
      | zero => simp at hj; subst hj; exact h1
      | succ j => exact i1 j g (by simpa using hj)
    · cases i with
      | zero =>
        simp at hi
        subst hi
        cases j with
        | zero => exact hne rfl
        | succ j => exact h3 b hb b (gh_mem (by simpa using hj) hb') rfl
      | succ i =>
        cases j with
        | zero =>
          simp at hj
          subst hj
          exact h3 b hb' b (gh_mem (by simpa using hi) hb) rfl
        | succ j => exact i2 i j g g' (by simpa using hi) (by simpa using hj) (by omega) b hb hb'

theorem parMs_of {F : Fr} : ∀ (ms : List PM) (i : Nat) (ds : List D) (vs : List Value) (gs : List Gh), ArgsR w R ms ds vs gs → (∀ j g, gs[j]? = some g → F.base ((i + j) * 32) = g.base ∧ F.hdr ((i + j) * 32) = g.ft.hdr) → ParMs F i ms vs gs := by
  intro ms
  induction ms with
  | nil =>
    intro i ds vs gs ha _
    match ds, vs, gs, ha with
    | [], [], [], _ => trivial
  | cons m ms ih =>
    intro i ds vs gs ha hF
    match vs, gs, ha with
    | x :: vs, g :: gs, ha =>
      obtain ⟨d1, d2, rfl, h1, h2⟩ := ha
      refine ⟨?_, ih (i + 1) d2 vs gs h2 (fun j g hj => by have := hF (j + 1) g (by simpa using hj); rw [show i + (j + 1) = i + 1 + j by omega] at this; exact this)⟩
      have hF0 := hF 0 g rfl
      cases m with
      | ptr t =>
        match d1, h1 with
        | [d], h1 =>
          obtain ⟨_, blk, row, e, q1, q2, _⟩ := h1
          exact ⟨hF0.1, blk, q1, q2⟩
      | «mut» t =>
        match d1, h1 with
        | [d], h1 =>
          obtain ⟨e, ⟨u, rfl⟩, _, ho⟩ := h1
          obtain ⟨dt, dx⟩ := d
          have e : dt = .slice u := e
          subst e
          obtain ⟨b, cap, ks, e2, e3, _, _, hl, _⟩ := ho
          refine ⟨⟨u, rfl⟩, hF0.2, b, cap, ks, e2, ?_⟩
          rw [hl]
          exact (List.cons.inj e3).1
      | _ => trivial
    | [], _, ha => exact ha.elim
    | _ :: _, [], ha => exact ha.elim

theorem argsR_len : ∀ (ms : List PM) (ds : List D) (vs : List Value) (gs : List Gh), ArgsR w R ms ds vs gs → vs.length = ms.length := by
  intro ms
  induction ms with
  | nil =>
    intro ds vs gs ha
    match ds, vs, gs, ha with
    | [], [], [], _ => rfl
  | cons m ms ih =>
    intro ds vs gs ha
    match vs, gs, ha with
    | x :: vs, g :: gs, ha =>
      obtain ⟨d1, d2, rfl, h1, h2⟩ := ha
      simp [ih d2 vs gs h2]
    | [], _, ha => exact ha.elim
    | _ :: _, [], ha => exact ha.elim

/-- the start of a call -/
theorem rel_start {c : FnC} {ds : List D} {vs : List Value} {gs : List Gh} (hp : Pre w R c ds vs gs) (hf : ∀ m ∈ c.params, m.fineB = true) {nt : Nat} (hnt : c.params.length ≤ nt)
    {k : List (Nat × TV) → List (Nat × Box) → Option ρ} {r : ρ} (hk : initAll 0 c.params ds k = some r) :
    ∃ ts bs, k ts bs = some r ∧ Rel ⟨R, ghBlocks gs, w, nt, fun id => (gOf gs id).base, fun id => (gOf gs id).ft.hdr⟩ (gOf gs) { tmps := ts, boxes := bs } { tmps := vs.toArray ++ Array.replicate (nt - vs.length) undef, defers := [] } w := by
  obtain ⟨ts, bs, k1, hT, hB⟩ := initAll_sound c.params 0 ds vs gs k r hf hp.args hk
  obtain ⟨n1, n2⟩ := gh_nodup hp.nodup
  have hlen := argsR_len _ _ _ _ hp.args
  have hB' : ∀ id b, St.box { tmps := ts, boxes := bs } id = some b → ∃ j x g, id = j * 32 ∧ gs[j]? = some g ∧ gOf gs id = g ∧ IB w g x b := by
    intro id b hb
    obtain ⟨j, x, g, e, _, q2, q3⟩ := hB id b hb
    rw [Nat.zero_add] at e
    subst e
    exact ⟨j, x, g, rfl, q2, gOf_at q2, q3⟩
  refine ⟨ts, bs, k1, ⟨fun i x hx => ?_, fun i x hx => ?_, fun i j x y hx hy hne b hb => ?_, fun i x hx => ?_, fun i x hx b hb => ?_, fun b hb => ⟨hp.R b hb, fun hm => (hp.mine b hm).1 hb⟩, fun n => ?_, fun _ _ _ => rfl, Gro.refl _, rfl, ?_, fun i x hx => ?_⟩⟩
  · obtain ⟨j, v, g, rfl, q1, q2, q3⟩ := hB' i x hx
    rw [q2]
    unfold BoxRel
    rcases q3 with ⟨t, y, rfl, ho, _⟩ | ⟨u, y, fix, rfl, hb, ho, _⟩
    · rw [if_neg (by simp)]
      obtain ⟨blk, row, e, h1, _, h2, h3, h4⟩ := ho
      exact ⟨blk, row, e, h1, h2, h3, rfl, h4⟩
    · rw [if_pos rfl]
      exact ⟨hb, ⟨u, rfl⟩, [v], rfl, ho⟩
  · obtain ⟨j, v, g, rfl, q1, q2, q3⟩ := hB' i x hx
    rcases q3 with ⟨t, y, rfl, _, hfi⟩ | ⟨u, y, fix, rfl, _, _, hfi⟩ <;> exact hfi
  · obtain ⟨i', _, g, rfl, q1, q2, _⟩ := hB' i x hx
    obtain ⟨j', _, g', rfl, q1', q2', _⟩ := hB' j y hy
    rw [q2] at hb
    rw [q2']
    exact n2 i' j' g g' q1 q1' (fun e => hne (by rw [e])) b hb
  · obtain ⟨i', _, g, rfl, q1, q2, _⟩ := hB' i x hx
    rw [q2]
    exact n1 i' g q1
  · obtain ⟨i', _, g, rfl, q1, q2, _⟩ := hB' i x hx
    rw [q2] at hb
    have hm := gh_mem q1 hb
    exact ⟨(hp.mine b hm).1, (hp.mine b hm).2, .inl hm⟩
  · show VR _ w R ((lk ts n).getD .un) _
    cases hn : lk ts n with
    | none => exact .inl rfl
    | some v =>
      obtain ⟨j, x, g, e, q1, q2, q3⟩ := hT n v hn
      rw [Nat.zero_add] at e
      subst e
      have hx : (vs.toArray ++ Array.replicate (nt - vs.length) undef).getD n undef = x := by
        have hlt := (List.getElem?_eq_some_iff.1 q1).1
        rw [Array.getD_eq_getD_getElem?, Array.getElem?_append_left (by simpa using hlt)]
        simp [q1]
      rw [hx]
      simp only [Option.getD_some]
      rcases q3 with q3 | ⟨y, q3, q4, q5, q6⟩
      · exact VR.mono (fun _ _ _ _ _ h => by cases h) (fun _ _ => rfl) q3
      · have hbox : St.box { tmps := ts, boxes := bs } (n * 32) = some y := q3
        rcases q4 with ⟨t, y', rfl, ho, _⟩ | ⟨u, y', fix, rfl, hb, ho, _⟩
        · rw [q5 rfl]
          obtain ⟨blk, row, e, h1, h2, _⟩ := ho
          refine vr_of (cs := [x]) ⟨t, g.ft, blk, 0, ?_, by rw [h2]⟩ rfl
          rw [adr_eq hbox, gOf_at q2, h1]
          cases t <;> rfl
        · rw [q6 rfl]
          obtain ⟨b, cap, ks, e2, e3, _, _, hl, _⟩ := ho
          refine vr_of (cs := [x]) ⟨u, b, cap, ks, none, ?_, by rw [e3, hl]⟩ rfl
          rw [adr_eq hbox, gOf_at q2, hb, e2]
          rfl
  · simp only [Array.size_append, List.size_toArray, Array.size_replicate]
    omega
  · obtain ⟨i', _, g, rfl, q1, q2, q3⟩ := hB' i x hx
    refine ⟨fun _ => rfl, fun hfx => ?_⟩
    rcases q3 with ⟨t, y, rfl, _⟩ | ⟨u, y, fix, rfl, _⟩
    · cases hfx
    · exact ⟨rfl, rfl⟩

theorem resVs_len : ∀ (ds : List D) (xs : List Value) (fs : List FT), ResVs w ds xs fs → ds.length = xs.length := by
  intro ds
  induction ds with
  | nil =>
    intro xs fs h
    match xs, fs, h with
    | [], [], _ => rfl
  | cons d ds ih =>
    intro xs fs h
    match xs, fs, h with
    | x :: xs, f :: fs, h => simp [ih xs fs h.2]
    | [], _, h => exact h.elim
    | _ :: _, [], h => exact h.elim

theorem resR_of {rs : List D} {xs : List Value} {fs : List FT} (h : ResVs w rs xs fs) : ResR w rs (if h : xs.length = 1 then xs[0] else .tuple xs.toArray) fs := by
  match rs, xs, fs, h with
  | [], [], [], _ => exact ⟨rfl, rfl⟩
  | [d], [x], [f], h => exact ⟨f, rfl, h.1⟩
  | d :: d' :: rs, x :: x' :: xs, f :: f' :: fs, h => exact ⟨x :: x' :: xs, by simp, h⟩
  | [], _ :: _, _, h => exact h.elim
  | [], [], _ :: _, h => exact h.elim
  | _ :: _, [], _, h => exact h.elim
  | _ :: _, _ :: _, [], h => exact h.elim
  | [_], _ :: _ :: _, _ :: _, h => exact h.2.elim
  | [_], [_], _ :: _ :: _, h => exact h.2.elim
  | _ :: _ :: _, [_], _ :: _, h => exact h.2.elim
  | _ :: _ :: _, _ :: _ :: _, [_], h => exact h.2.elim

/-- THE LAW: what the machine of pure data computes, the function does. -/
theorem calls_of_run {f : Nat} {fn : Func} {c : FnC} (hf : P.funcs[f]? = some fn) (hb : fn.body.isSome = true) (hm : P.follows .mixedOrders = true)
    (hty : ∀ t T, E.tyOf t = some T → TyIs P T t) (hE : EnvOk P E) (hpf : c.params.all PM.fineB = true) (hnt : c.params.length ≤ fn.ntmps)
    {n : Nat} {ds : List D} {kf : List D → List D → Option ρ} {r : ρ} (hr : runC E n c.params c.results fn ds kf = some r) {vs : List Value} {gs : List Gh} (hp : Pre w R c ds vs gs) :
    Calls P f vs.toArray w fun e w' => match e with
      | .returned v => ∃ rs ms fs gs', kf rs ms = some r ∧ Done w c vs gs rs ms v w' fs gs'
      | _ => False := by
  have hE' : EnvOk P { E with nt := fn.ntmps } := hE
  have hb' : fn.body = some (codeOf fn) := by
    unfold codeOf
    cases h : fn.body with
    | none => rw [h] at hb; cases hb
    | some c => rfl
  unfold runC at hr
  have hlen := argsR_len _ _ _ _ hp.args
  obtain ⟨ts, bs, k1, hrel⟩ := rel_start hp (fun m h => List.all_eq_true.1 hpf m h) (nt := fn.ntmps) hnt hr
  have hTy : TyOk P { E with nt := fn.ntmps } ⟨R, ghBlocks gs, w, fn.ntmps, fun id => (gOf gs id).base, fun id => (gOf gs id).ft.hdr⟩ := ⟨hty, rfl⟩
  refine calls_of_wp hf hb' ?_
  have hsz : vs.toArray.size = vs.length := by simp
  rw [hsz]
  refine wp_mono (exec_sound (reg_sound hTy hE' hm) n (codeOf fn) _ _ _ _ _ _ hrel k1) fun e a w' q => ?_
  have done : Post ⟨R, ghBlocks gs, w, fn.ntmps, fun id => (gOf gs id).base, fun id => (gOf gs id).ft.hdr⟩ (fun s => finish { E with nt := fn.ntmps } c.params c.results fn.results.toList s kf) r a w' →
      a.defers = [] ∧ ∃ v, (results fn a.tmps).run P w' = .ok v w' ∧ ∃ rs ms fs gs', kf rs ms = some r ∧ Done w c vs gs rs ms v w' fs gs' := by
    rintro ⟨G, s, hr2, hk⟩
    unfold finish at hk
    dsimp only at hk
    split at hk
    rotate_left
    · cases hk
    rename_i l hl
    obtain ⟨e1, xs, e2, e3⟩ := resAll_sound (E := { E with nt := fn.ntmps }) hr2 hty _ _ l hl
    have e2 := results_run e2
    obtain ⟨G', s', ds', fs, k2, k3, k4, k5⟩ := endR_sound l xs G s id _ _ hr2 e3 (fun v y h => h) hk
    obtain ⟨ms', gs', k6, k7, k8, k9⟩ := endM_sound k5.rel c.params 0 vs gs _ _ (parMs_of c.params 0 ds vs gs hp.args (fun j g hj => by
      rw [Nat.zero_add]
      simp only [gOf_at hj]
      exact ⟨trivial, trivial⟩)) k2
    refine ⟨hr2.defers, _, e2, ds', ms', fs, gs', k6, resR_of k4, k3.trans e1, k7, ?_, fun b hb => ?_, k5.rel.gro, k5.rel.agree⟩
    · refine List.nodup_append.2 ⟨k5.nodup, k8, fun b hb c hc e => ?_⟩
      subst e
      obtain ⟨j, x, _, hx, hm⟩ := k9 b hc
      exact k5.out b hb _ x hx hm
    · rcases List.mem_append.1 hb with hb | hb
      · exact (k5.mine b hb).2
      · obtain ⟨j, x, _, hx, hm⟩ := k9 b hb
        exact (k5.rel.mine _ x hx b hm).2
  cases e with
  | normal => exact done q
  | ret => exact done q
  | exit id => obtain ⟨G, s, _, hk⟩ := q; cases hk
  | _ => exact q.elim

/-- typed data, in a row -/
def Tup : List Ty → Type
  | [] => Unit
  | T :: Ts => T.den × Tup Ts

def decT : (Ts : List Ty) → List D → Option (Tup Ts)
  | [], ds => match ds with
    | [] => some ()
    | _ :: _ => none
  | T :: Ts, ds => match ds with
    | [] => none
    | d :: ds => match castTo d.t T d.x with
      | none => none
      | some x => match decT Ts ds with
        | none => none
        | some r => some (x, r)

def encT : (Ts : List Ty) → Tup Ts → List D
  | [], _ => []
  | T :: Ts, x => ⟨T, x.1⟩ :: encT Ts x.2

theorem decT_enc : ∀ {Ts : List Ty} {ds : List D} {v : Tup Ts}, decT Ts ds = some v → ds = encT Ts v := by
  intro Ts
  induction Ts with
  | nil =>
    intro ds v h
    cases ds with
    | nil => rfl
    | cons _ _ => simp [decT] at h
  | cons T Ts ih =>
    intro ds v h
    cases ds with
    | nil => simp [decT] at h
    | cons d ds =>
      simp only [decT] at h
      split at h
      · cases h
      · rename_i x hx
        obtain ⟨e, rfl⟩ := castTo_eq hx
        split at h
        · cases h
        · rename_i r hr
          have := ih hr
          subst this
          obtain rfl := Option.some.inj h
          obtain ⟨t, x⟩ := d
          have e : t = T := e
          subst e
          rfl

def mutTys : List PM → List Ty
  | [] => []
  | .ptr t :: ms => t :: mutTys ms
  | .mut t :: ms => t :: mutTys ms
  | _ :: ms => mutTys ms

def decR (ps : List PM) (rt : List Ty) (rs ms : List D) : Option (Tup rt × Tup (mutTys ps)) :=
  match decT rt rs with
  | none => none
  | some a => match decT (mutTys ps) ms with
    | none => none
    | some b => some (a, b)

/-- what a function computes -/
def runP (E : Env) (n : Nat) (ps : List PM) (rt : List Ty) (fn : Func) (ds : List D) : Option (Tup rt × Tup (mutTys ps)) :=
  runC E n ps rt fn ds (decR ps rt)

/-- a function's contract: what it computes -/
def runFn (E : Env) (n : Nat) (ps : List PM) (rt : List Ty) (fn : Func) : FnC :=
  { params := ps, results := rt, h := fun ds k => match runP E n ps rt fn ds with
    | none => none
    | some v => k (encT rt v.1) (encT (mutTys ps) v.2) }

theorem valid_fn {f : Nat} {fn : Func} {ps : List PM} {rt : List Ty} (n : Nat) (hf : P.funcs[f]? = some fn) (hent : ∀ args w, (callFunc f args).run P w = .ok (.enter f args) w) (hb : fn.body.isSome = true) (hm : P.follows .mixedOrders = true)
    (hty : ∀ t T, E.tyOf t = some T → TyIs P T t) (hE : EnvOk P E) (hok : (ps.all PM.fineB && rt.all Ty.fineB && Nat.ble ps.length fn.ntmps) = true) : Valid P f (runFn E n ps rt fn) := by
  simp only [Bool.and_eq_true] at hok
  obtain ⟨⟨hpf, hrf⟩, hnt⟩ := hok
  have hnt : ps.length ≤ fn.ntmps := by simpa [Nat.ble_eq] using hnt
  refine ⟨fun ρ ds k => ?_, fun t ht => Ty.fine_of (List.all_eq_true.1 hrf t ht), fun w R ds vs gs rs ms hp hg => .inl ⟨hent, ?_⟩⟩
  · show (match runP E n ps rt fn ds with
      | none => none
      | some v => k (encT rt v.1) (encT (mutTys ps) v.2)) = _
    unfold FnC.g runFn
    simp only
    cases runP E n ps rt fn ds <;> rfl
  · unfold FnC.g runFn at hg
    simp only at hg
    split at hg
    · cases hg
    · rename_i v hv
      simp only [Option.some.injEq, Prod.mk.injEq] at hg
      obtain ⟨rfl, rfl⟩ := hg
      refine (calls_of_run (c := runFn E n ps rt fn) hf hb hm hty hE hpf hnt hv hp).mono fun e w' q => ?_
      cases e with
      | returned x =>
        obtain ⟨rs, ms, fs, gs', h1, h2⟩ := q
        unfold decR at h1
        split at h1
        · cases h1
        · rename_i a ha
          split at h1
          · cases h1
          · rename_i b hb'
            obtain rfl := Option.some.inj h1
            rw [decT_enc ha, decT_enc hb'] at h2
            exact ⟨fs, gs', h2⟩
      | _ => exact q.elim
end
end Go.TM
/-! ## ToP -/
namespace Go.TM
set_option autoImplicit false

/-- nothing veiled inside; no slice of nothings -/
def Ty.solidB : Ty → Bool
  | .opq => false
  | .slice t => t.solidB && !(t.size == 0)
  | .cons t r => t.solidB && r.solidB
  | .arr _ t => t.solidB
  | _ => true

/-- the integers are in their ranges -/
def wfD : (t : Ty) → t.den → Prop
  | .int k, x => (Lit.int k x).wf = true
  | .str, x => List.length (α := UInt8) x ≤ reachBytes
  | .slice t, xs => List.length (α := t.den) xs ≤ reachBytes ∧ ∀ x ∈ (show List t.den from xs), wfD t x
  | .cons t r, x => wfD t x.1 ∧ wfD r x.2
  | .arr _ t, xs => ∀ x ∈ (show List t.den from xs), wfD t x
  | _, _ => True

theorem mapM_some {α β : Type} {f : α → Option β} : ∀ {l : List α} {r : List β}, l.mapM f = some r → r.length = l.length ∧ ∀ (i : Nat) (x : α), l[i]? = some x → ∃ y, r[i]? = some y ∧ f x = some y := by
  intro l
  induction l with
  | nil => intro r h; simp at h; subst h; exact ⟨rfl, fun i x hx => (by simp at hx)⟩
  | cons a l ih =>
    intro r h
    rw [List.mapM_cons] at h
    cases ha : f a with
    | none => rw [ha] at h; cases h
    | some b =>
      rw [ha] at h
      cases hl : l.mapM f with
      | none => rw [hl] at h; cases h
      | some r' =>
        rw [hl] at h
        have h : some (b :: r') = some r := h
        obtain rfl := Option.some.inj h
        obtain ⟨h1, h2⟩ := ih hl
        refine ⟨by simp [h1], fun i x hx => ?_⟩
        cases i with
        | zero => simp at hx; subst hx; exact ⟨b, rfl, ha⟩
        | succ i => simpa using h2 i x (by simpa using hx)

theorem choose_list {α : Type} {Q : Nat → α → Prop} : ∀ (n : Nat), (∀ i, i < n → ∃ x, Q i x) → ∃ xs : List α, xs.length = n ∧ ∀ (i : Nat) (x : α), xs[i]? = some x → Q i x := by
  intro n
  induction n with
  | zero => intro _; exact ⟨[], rfl, fun i x hx => (by simp at hx)⟩
  | succ n ih =>
    intro h
    obtain ⟨xs, h1, h2⟩ := ih (fun i hi => h i (by omega))
    obtain ⟨y, hy⟩ := h n (by omega)
    refine ⟨xs ++ [y], by simp [h1], fun i x hx => ?_⟩
    by_cases hi : i < xs.length
    · rw [List.getElem?_append_left hi] at hx
      exact h2 i x hx
    · rw [List.getElem?_append_right (by omega)] at hx
      have : i - xs.length = 0 := by
        have := (List.getElem?_eq_some_iff.1 hx).1
        simp at this; omega
      rw [this] at hx
      simp at hx
      subst hx
      have : i = n := by omega
      subst this
      exact hy

theorem add_blk (a : Addr) (n : Nat) : (a.add n).block = a.block := by unfold Addr.add; split <;> rfl
theorem add_off (a : Addr) (n : Nat) : (a.add n).off = a.off + n := by
  unfold Addr.add
  split
  · rename_i h; rw [h]; rfl
  · rfl
theorem add_spot (a : Addr) (n : Nat) (h : a.spot = none) : (a.add n).spot = none := by
  unfold Addr.add
  split
  · exact h
  · rfl

theorem cells_at {w : World} {a : Addr} {n : Nat} {cs : List Value} (h : w.cells? 0 a n = some cs) (hn : n ≠ 0) : a.spot = none ∧ a.block < w.heap.size ∧ At w a.block a.off n cs := by
  unfold World.cells? at h
  rw [if_pos (Nat.zero_le _)] at h
  obtain ⟨h1, h2⟩ := mapM_some h
  rw [List.length_range] at h1
  have hi : ∀ i, i < n → ∃ y, cs[i]? = some y ∧ w.cell? (a.add i) = some y := fun i hi => h2 i i (by rw [List.getElem?_range hi])
  obtain ⟨y0, _, hy0⟩ := hi 0 (by omega)
  unfold World.cell? at hy0
  split at hy0
  · rename_i row e fz hrow
    split at hy0
    · cases hy0
    · rename_i hsp
      have hsp : a.spot = none := by
        have : (a.add 0).spot = a.spot := rfl
        rw [this] at hsp
        cases hs : a.spot with
        | none => rfl
        | some _ => rw [hs] at hsp; simp at hsp
      have hrow : w.heap[a.block]? = some (.cells row e fz) := by rw [add_blk] at hrow; exact hrow
      have hget : ∀ i, i < n → ∃ y, cs[i]? = some y ∧ row[a.off + i]? = some y := by
        intro i hi'
        obtain ⟨y, q1, q2⟩ := hi i hi'
        refine ⟨y, q1, ?_⟩
        unfold World.cell? at q2
        rw [add_blk, hrow, add_spot a i hsp, add_off] at q2
        simpa using q2
      have hle : a.off + n ≤ row.size := by
        obtain ⟨y, _, hy⟩ := hget (n - 1) (by omega)
        have := (Array.getElem?_eq_some_iff.1 hy).1
        omega
      refine ⟨hsp, (Array.getElem?_eq_some_iff.1 hrow).1, row, e, fz, hrow, hle, ?_⟩
      apply List.ext_getElem?
      intro i
      by_cases hin : i < n
      · obtain ⟨y, q1, q2⟩ := hget i hin
        rw [q1, List.getElem?_take_of_lt hin, List.getElem?_drop, Array.getElem?_toList, q2]
      · rw [List.getElem?_eq_none (by simp; omega), List.getElem?_eq_none (by omega)]
  · cases hy0

section
variable {H : Type} {enc : TypeId × Value → H} {P : Program} {w : World}

abbrev below (w : World) : Nat → Prop := fun b => b < w.heap.size

theorem weightsAll_mem {e : TypeId} : ∀ (l : List (DataW H)) (d : DataW H), d ∈ l → ∀ n ∈ d.weights P e, n ∈ DataW.weightsAll P e l := by
  intro l
  induction l with
  | nil => intro d h; cases h
  | cons a l ih =>
    intro d h n hn
    simp only [DataW.weightsAll, List.mem_append]
    rcases List.mem_cons.1 h with rfl | h
    · exact .inl hn
    · exact .inr (ih d h n hn)

/-- pieces of one length, side by side -/
theorem chunks {cs : List Value} {m : Nat} : ∀ (l : List (List Value)), cs.length = l.length * m → (∀ (i : Nat) (c : List Value), l[i]? = some c → c = (cs.drop (i * m)).take m) → l.flatten = cs := by
  intro l
  induction l generalizing cs with
  | nil => intro h _; simp at h; subst h; rfl
  | cons c l ih =>
    intro h hc
    have h0 := hc 0 c rfl
    simp at h0
    rw [List.flatten_cons]
    have hl : (cs.drop m).length = l.length * m := by
      rw [List.length_drop, h, List.length_cons, Nat.succ_mul]; omega
    rw [ih (cs := cs.drop m) hl (fun i c' hc' => by
      have := hc (i + 1) c' (by simpa using hc')
      rw [this, List.drop_drop, Nat.succ_mul, Nat.add_comm]), h0, List.take_append_drop]

theorem trod_int {k : IntKind} {t : TypeId} (hu : P.underlying t = some (.int k)) {fuel : Nat} {cs : List Value} {d : DataW H} {ps : List MemPlace} (h : DataW.trod enc P w 0 (fun _ => true) true fuel t cs = some (d, ps)) :
    ∃ n, cs = [.int k n] ∧ (Lit.int k n).wf = true := by
  cases fuel with
  | zero => cases h
  | succ fuel =>
    rcases cs with _ | ⟨v, _ | ⟨v2, r⟩⟩
    · simp [DataW.trod, hu] at h
    · cases v <;> simp [DataW.trod, hu] at h
      obtain ⟨⟨rfl, h2⟩, _⟩ := h
      exact ⟨_, rfl, h2⟩
    · simp [DataW.trod, hu] at h

theorem trod_bool {t : TypeId} (hu : P.underlying t = some .bool) {fuel : Nat} {cs : List Value} {d : DataW H} {ps : List MemPlace} (h : DataW.trod enc P w 0 (fun _ => true) true fuel t cs = some (d, ps)) :
    ∃ b, cs = [.bool b] := by
  cases fuel with
  | zero => cases h
  | succ fuel =>
    rcases cs with _ | ⟨v, _ | ⟨v2, r⟩⟩
    · simp [DataW.trod, hu] at h
    · cases v <;> simp [DataW.trod, hu] at h
      exact ⟨_, rfl⟩
    · simp [DataW.trod, hu] at h

theorem trod_str {t : TypeId} (hu : P.underlying t = some .string) {fuel : Nat} {cs : List Value} {d : DataW H} {ps : List MemPlace} (h : DataW.trod enc P w 0 (fun _ => true) true fuel t cs = some (d, ps)) :
    ∃ s, cs = [.string s] ∧ d = .lit (.string s.data.toList) := by
  cases fuel with
  | zero => cases h
  | succ fuel =>
    rcases cs with _ | ⟨v, _ | ⟨v2, r⟩⟩
    · simp [DataW.trod, hu] at h
    · cases v <;> simp [DataW.trod, hu] at h
      obtain ⟨_, h2, _⟩ := h
      exact ⟨_, rfl, h2.symm⟩
    · simp [DataW.trod, hu] at h

theorem trod_slice {t e : TypeId} (hu : P.underlying t = some (.slice e)) {fuel : Nat} {cs : List Value} {d : DataW H} {ps : List MemPlace} (h : DataW.trod enc P w 0 (fun _ => true) true fuel t cs = some (d, ps)) :
    cs = [.slice none 0 0] ∨ ∃ fu a len cap elems rest, cs = [.slice (some a) len cap] ∧ len ≤ cap ∧
      ((List.range len).mapM fun i => (w.cells? 0 (a.add (i * P.cellsOf e)) (P.cellsOf e)).bind (DataW.trod enc P w 0 (fun _ => true) true fu e)) = some elems ∧ d = .slice (elems.map (·.1)) rest := by
  cases fuel with
  | zero => cases h
  | succ fuel =>
    rcases cs with _ | ⟨v, _ | ⟨v2, r⟩⟩
    · simp [DataW.trod, hu] at h
    · cases v with
      | slice a len cap =>
        cases a with
        | none =>
          left
          cases len <;> cases cap <;> first | rfl | simp [DataW.trod, hu] at h
        | some a =>
          right
          unfold DataW.trod at h
          rw [hu] at h
          simp only at h
          split at h
          · rename_i hc
            rw [Option.bind_eq_some_iff] at h
            obtain ⟨elems, h1, h2⟩ := h
            rw [Option.map_eq_some_iff] at h2
            obtain ⟨rest, _, h3⟩ := h2
            simp only [Prod.mk.injEq] at h3
            exact ⟨fuel, a, len, cap, elems, _, rfl, hc.2.1, h1, h3.1.symm⟩
          · cases h
      | _ => simp [DataW.trod, hu] at h
    · simp [DataW.trod, hu] at h

theorem trod_struct {t : TypeId} {fs : Array Field} (hu : P.underlying t = some (.struct fs)) {fuel : Nat} {cs : List Value} {d : DataW H} {ps : List MemPlace} (h : DataW.trod enc P w 0 (fun _ => true) true fuel t cs = some (d, ps)) :
    ∃ fu xs, cs.length = P.cellsOf t ∧ (fs.toList.mapM fun f => DataW.trod enc P w 0 (fun _ => true) true fu f.type ((cs.drop f.offset).take (P.cellsOf f.type))) = some xs ∧ d = .agg (xs.map (·.1)) := by
  cases fuel with
  | zero => cases h
  | succ fuel =>
    unfold DataW.trod at h
    rw [hu] at h
    simp only at h
    split at h
    · rename_i hc
      rw [Option.map_eq_some_iff] at h
      obtain ⟨xs, h1, h2⟩ := h
      simp only [Prod.mk.injEq] at h2
      exact ⟨fuel, xs, hc, h1, h2.1.symm⟩
    · cases h

theorem trod_array {t e : TypeId} {n : Nat} (hu : P.underlying t = some (.array n e)) {fuel : Nat} {cs : List Value} {d : DataW H} {ps : List MemPlace} (h : DataW.trod enc P w 0 (fun _ => true) true fuel t cs = some (d, ps)) :
    ∃ fu xs, cs.length = P.cellsOf t ∧ ((List.range n).mapM fun i => DataW.trod enc P w 0 (fun _ => true) true fu e ((cs.drop (i * P.cellsOf e)).take (P.cellsOf e))) = some xs ∧ d = .agg (xs.map (·.1)) := by
  cases fuel with
  | zero => cases h
  | succ fuel =>
    unfold DataW.trod at h
    rw [hu] at h
    simp only at h
    split at h
    · rename_i hc
      rw [Option.map_eq_some_iff] at h
      obtain ⟨xs, h1, h2⟩ := h
      simp only [Prod.mk.injEq] at h2
      exact ⟨fuel, xs, hc, h1, h2.1.symm⟩
    · cases h

theorem trod_rd_both (T : Ty) : (∀ (t : TypeId), TyIs P T t → T.solidB = true → ∀ (fuel : Nat) (cs : List Value) (d : DataW H) (ps : List MemPlace), DataW.trod enc P w 0 (fun _ => true) true fuel t cs = some (d, ps) →
      (∀ n ∈ d.weights P t, n ≤ reachBytes) → ∃ x : T.den, Rd w (below w) T x cs ∧ wfD T x) ∧
    (∀ (l : List Field) (o : Nat), fieldsB P T l o = true → T.solidB = true → ∀ (fuel : Nat) (cs : List Value) (xs : List (DataW H × List MemPlace)),
      (l.mapM fun f => DataW.trod enc P w 0 (fun _ => true) true fuel f.type ((cs.drop f.offset).take (P.cellsOf f.type))) = some xs → (∀ n ∈ DataW.weightsEach P (l.map (·.type)) (xs.map (·.1)), n ≤ reachBytes) →
      o + T.size ≤ cs.length → ∃ x : T.den, Rd w (below w) T x ((cs.drop o).take T.size) ∧ wfD T x) := by
  have szc : ∀ (T : Ty) (t : TypeId), TyIs P T t → P.cellsOf t = T.size := by
    intro T t h
    obtain ⟨i, hi, hs, _⟩ := h.info
    unfold Program.cellsOf
    rw [hi]
    exact hs
  have hlim : reachBytes ≤ lim := by decide
  induction T with
  | int k =>
    refine ⟨fun t ht _ fuel cs d ps h _ => ?_, fun l o h => by cases l <;> simp [fieldsB] at h⟩
    have hu : P.underlying t = some (.int k) := by
      have ht' := ht
      simp only [TyIs, tyB, Bool.and_eq_true] at ht'
      obtain ⟨_, hu⟩ := ht'
      split at hu
      · rename_i k' hk'
        have hu : k = k' := of_decide_eq_true hu
        rw [hk', hu]
      · cases hu
    obtain ⟨n, rfl, hw⟩ := trod_int hu h
    exact ⟨(n : Int), ⟨rfl, trivial, rfl⟩, hw⟩
  | bool =>
    refine ⟨fun t ht _ fuel cs d ps h _ => ?_, fun l o h => by cases l <;> simp [fieldsB] at h⟩
    have hu : P.underlying t = some .bool := by
      have ht' := ht
      simp only [TyIs, tyB, Bool.and_eq_true] at ht'
      obtain ⟨_, hu⟩ := ht'
      split at hu
      · rename_i hk'; exact hk'
      · cases hu
    obtain ⟨b, rfl⟩ := trod_bool hu h
    exact ⟨(b : Bool), ⟨rfl, trivial, rfl⟩, trivial⟩
  | str =>
    refine ⟨fun t ht _ fuel cs d ps h hw => ?_, fun l o h => by cases l <;> simp [fieldsB] at h⟩
    obtain ⟨s, rfl, rfl⟩ := trod_str ht.str h
    have hl : s.data.toList.length ≤ reachBytes := hw _ (by simp [DataW.weights])
    refine ⟨s.data.toList, ⟨rfl, Nat.le_trans hl hlim, ?_⟩, hl⟩
    simp only [fcells]
  | opq => exact ⟨fun t ht hs => by simp [Ty.solidB] at hs, fun l o h => by cases l <;> simp [fieldsB] at h⟩
  | slice T ih =>
    refine ⟨fun t ht hs fuel cs d ps h hw => ?_, fun l o h => by cases l <;> simp [fieldsB] at h⟩
    simp only [Ty.solidB, Bool.and_eq_true, Bool.not_eq_true', beq_eq_false_iff_ne] at hs
    obtain ⟨e, hu, he⟩ := ht.slice
    rcases trod_slice hu h with rfl | ⟨fu, ad, len, cap, elems, rest, rfl, hlc, hm, rfl⟩
    · exact ⟨([] : List T.den), ⟨none, 0, rfl, ⟨Nat.le_refl _, Nat.zero_le _⟩, fun hne => absurd rfl hne⟩, Nat.zero_le _, fun x hx => by cases hx⟩
    · obtain ⟨h1, h2⟩ := mapM_some hm
      rw [List.length_range] at h1
      obtain ⟨i0, hi0, hs0, hb0⟩ := he.bytes hs.2
      have hbytes : 1 ≤ P.bytesOf e := by unfold Program.bytesOf; rw [hi0]; exact hb0
      have hlen : len ≤ reachBytes := by
        have := hw ((elems.map (·.1)).length + rest.length |> (· * P.bytesOf e)) (by simp [DataW.weights, hu])
        simp only [List.length_map, h1] at this
        have h3 : (len + rest.length) * 1 ≤ (len + rest.length) * P.bytesOf e := Nat.mul_le_mul_left _ hbytes
        omega
      have hw2 : ∀ n ∈ DataW.weightsAll P e (elems.map (·.1)), n ≤ reachBytes := fun n hn => hw n (by simp only [DataW.weights, hu]; exact List.mem_cons_of_mem _ (List.mem_append.2 (.inl hn)))
      rw [szc T e he] at h2
      have key : ∀ i, i < len → ∃ x : T.den, (∃ c, (i = 0 → ad.spot = none) ∧ ad.block < w.heap.size ∧ At w ad.block (ad.off + i * T.size) T.size c ∧ Rd w (below w) T x c) ∧ wfD T x := by
        intro i hi
        obtain ⟨y, q1, q2⟩ := h2 i i (by rw [List.getElem?_range hi])
        rw [Option.bind_eq_some_iff] at q2
        obtain ⟨c, q3, q4⟩ := q2
        obtain ⟨a1, a2, a3⟩ := cells_at q3 hs.2
        obtain ⟨x, b1, b2⟩ := ih.1 e he hs.1 fu c y.1 y.2 q4 (fun n hn => hw2 n (weightsAll_mem _ y.1 (List.mem_map.2 ⟨y, List.mem_of_getElem? q1, rfl⟩) n hn))
        rw [add_blk] at a2
        rw [add_blk, add_off] at a3
        exact ⟨x, ⟨c, fun e => by subst e; rw [Nat.zero_mul] at a1; simpa [Addr.add] using a1, a2, a3, b1⟩, b2⟩
      obtain ⟨xs, x1, x2⟩ := choose_list len key
      refine ⟨xs, ⟨some ad, cap, by rw [← x1], ⟨by rw [show List.length (α := T.den) xs = len from x1]; exact hlc, Nat.le_trans (Nat.le_of_eq x1) (Nat.le_trans hlen hlim)⟩, fun hne => ?_⟩, Nat.le_trans (Nat.le_of_eq x1) hlen, fun x hx => ?_⟩
      · have h0 : 0 < len := by
          rw [← x1]
          exact List.length_pos_iff.2 hne
        obtain ⟨_, ⟨_, a1, a2, _⟩, _⟩ := key 0 h0
        refine ⟨ad.block, ad.off, ?_, a2, fun i x hx => ?_⟩
        · obtain ⟨b, o, sp⟩ := ad
          have : sp = none := a1 rfl
          rw [this]
        · obtain ⟨⟨c, _, _, a3, a4⟩, _⟩ := x2 i x hx
          exact ⟨c, a3, a4⟩
      · obtain ⟨i, hi⟩ := List.mem_iff_getElem?.1 hx
        exact (x2 i x hi).2
  | unit =>
    refine ⟨fun t ht _ fuel cs d ps h _ => ?_, fun l o h _ fuel cs xs hm _ _ => ⟨(), ⟨rfl, trivial, by simp [Ty.size, fcells]⟩, trivial⟩⟩
    have ht' := ht
    simp only [TyIs, tyB, Bool.and_eq_true] at ht'
    obtain ⟨_, hu⟩ := ht'
    split at hu
    · rename_i fs hfs
      obtain ⟨fu, xs, h1, _⟩ := trod_struct hfs h
      rw [szc _ _ ht] at h1
      have : cs = [] := List.length_eq_zero_iff.1 h1
      subst this
      exact ⟨(), ⟨rfl, trivial, rfl⟩, trivial⟩
    · cases hu
  | cons a r iha ihr =>
    -- the fields, from a place on
    have fields : ∀ (f : Field) (l : List Field) (o : Nat), f.offset = o → TyIs P a f.type → fieldsB P r l (o + a.size) = true → a.solidB = true → r.solidB = true → ∀ (fuel : Nat) (cs : List Value) (xs : List (DataW H × List MemPlace)),
        ((f :: l).mapM fun f => DataW.trod enc P w 0 (fun _ => true) true fuel f.type ((cs.drop f.offset).take (P.cellsOf f.type))) = some xs → (∀ n ∈ DataW.weightsEach P ((f :: l).map (·.type)) (xs.map (·.1)), n ≤ reachBytes) →
        o + (Ty.cons a r).size ≤ cs.length → ∃ x : (Ty.cons a r).den, Rd w (below w) (Ty.cons a r) x ((cs.drop o).take (Ty.cons a r).size) ∧ wfD (Ty.cons a r) x := by
      intro f l o ho ha hl sa sr fuel cs xs hm hw hlen
      rw [List.mapM_cons] at hm
      cases h1 : DataW.trod enc P w 0 (fun _ => true) true fuel f.type ((cs.drop f.offset).take (P.cellsOf f.type)) with
      | none => rw [h1] at hm; cases hm
      | some y =>
        rw [h1] at hm
        cases h2 : (l.mapM fun f => DataW.trod enc P w 0 (fun _ => true) true fuel f.type ((cs.drop f.offset).take (P.cellsOf f.type))) with
        | none => rw [h2] at hm; cases hm
        | some ys =>
          rw [h2] at hm
          have hm : some (y :: ys) = some xs := hm
          obtain rfl := Option.some.inj hm
          simp only [List.map_cons, DataW.weightsEach, List.mem_append] at hw
          rw [szc _ _ ha, ho] at h1
          obtain ⟨x, r1, w1⟩ := iha.1 _ ha sa fuel _ y.1 y.2 h1 (fun n hn => hw n (.inl hn))
          simp only [Ty.size] at hlen
          obtain ⟨z, r2, w2⟩ := ihr.2 l (o + a.size) hl sr fuel cs ys h2 (fun n hn => hw n (.inr hn)) (by omega)
          refine ⟨(x, z), ⟨_, _, ?_, r1, r2⟩, w1, w2⟩
          simp only [Ty.size]
          rw [← List.drop_drop, List.take_add]
    refine ⟨fun t ht hs fuel cs d ps h hw => ?_, fun l o h hs fuel cs xs hm hw hlen => ?_⟩
    · simp only [Ty.solidB, Bool.and_eq_true] at hs
      have ht' := ht
      simp only [TyIs, tyB, Bool.and_eq_true] at ht'
      obtain ⟨_, hu⟩ := ht'
      split at hu
      · rename_i fs hfs
        split at hu
        · rename_i f l hl
          simp only [Bool.and_eq_true, beq_iff_eq] at hu
          obtain ⟨⟨⟨⟨h1, _⟩, _⟩, h3⟩, h4⟩ := hu
          obtain ⟨fu, xs, q1, q2, rfl⟩ := trod_struct hfs h
          rw [hl] at q2
          rw [szc _ _ ht] at q1
          simp only [DataW.weights, hfs, hl] at hw
          obtain ⟨x, r1, w1⟩ := fields f l 0 h1 h3 (by rw [Nat.zero_add]; exact h4) hs.1 hs.2 fu cs xs q2 hw (by omega)
          rw [List.drop_zero, List.take_of_length_le (by omega)] at r1
          exact ⟨x, r1, w1⟩
        · cases hu
      · cases hu
    · simp only [Ty.solidB, Bool.and_eq_true] at hs
      cases l with
      | nil => simp [fieldsB] at h
      | cons f l =>
        simp only [fieldsB, Bool.and_eq_true, beq_iff_eq] at h
        obtain ⟨⟨⟨⟨h1, _⟩, _⟩, h3⟩, h4⟩ := h
        exact fields f l o h1 h3 h4 hs.1 hs.2 fuel cs xs hm hw hlen
  | arr n T ih =>
    refine ⟨fun t ht hs fuel cs d ps h hw => ?_, fun l o h => by cases l <;> simp [fieldsB] at h⟩
    simp only [Ty.solidB] at hs
    obtain ⟨e, hu, he, hf⟩ := ht.arr
    obtain ⟨fu, xs, h1, h2, rfl⟩ := trod_array hu h
    rw [szc _ _ ht] at h1
    obtain ⟨h3, h4⟩ := mapM_some h2
    rw [List.length_range] at h3
    simp only [DataW.weights, hu] at hw
    rw [szc T e he] at h4
    have key : ∀ i, i < n → ∃ x : T.den, fok T x ∧ fcells T x = (cs.drop (i * T.size)).take T.size ∧ wfD T x := by
      intro i hi
      obtain ⟨y, q1, q2⟩ := h4 i i (by rw [List.getElem?_range hi])
      obtain ⟨x, b1, b2⟩ := ih.1 e he hs fu _ y.1 y.2 q2 (fun m hm => hw m (weightsAll_mem _ y.1 (List.mem_map.2 ⟨y, List.mem_of_getElem? q1, rfl⟩) m hm))
      obtain ⟨b3, b4⟩ := Rd.flat hf b1
      exact ⟨x, b3, b4.symm, b2⟩
    obtain ⟨ys, y1, y2⟩ := choose_list n key
    refine ⟨ys, ⟨hf, ⟨y1, fun x hx => ?_⟩, ?_⟩, fun x hx => ?_⟩
    · obtain ⟨i, hi⟩ := List.mem_iff_getElem?.1 hx
      exact (y2 i x hi).1
    · rw [fcells_arr]
      refine (chunks (m := T.size) _ ?_ (fun i c hc => ?_)).symm
      · rw [List.length_map, h1]
        simp only [Ty.size]
        rw [show List.length (α := T.den) ys = n from y1]
      · rw [List.getElem?_map] at hc
        cases hy : (show List T.den from ys)[i]? with
        | none =>
          have : (List.map (fcells T) ys)[i]? = none := by rw [List.getElem?_map]; rw [show (show List T.den from ys)[i]? = none from hy]; rfl
          rw [show Option.map (fcells T) (ys[i]?) = none from by rw [show ys[i]? = none from hy]; rfl] at hc
          cases hc
        | some x =>
          rw [show Option.map (fcells T) (ys[i]?) = some (fcells T x) from by rw [show ys[i]? = some x from hy]; rfl] at hc
          obtain rfl := Option.some.inj hc
          exact (y2 i x hy).2.1
    · obtain ⟨i, hi⟩ := List.mem_iff_getElem?.1 hx
      exact (y2 i x hi).2.2
end
end Go.TM
/-! ## ToQ -/
namespace Go.TM
set_option autoImplicit false
open Go.ChangeShapes Go.WideShapes Go.RowKit Go.ChangeMaps
section
variable {H : Type} {enc : TypeId × Value → H} {P : Program} {w : World}

/-- data of these types, in their ranges -/
def WfDs : List Ty → List D → Prop
  | [], [] => True
  | T :: Ts, d :: ds => (∃ x : T.den, d = ⟨T, x⟩ ∧ wfD T x) ∧ WfDs Ts ds
  | _, _ => False

def parOk (P : Program) (T : Ty) (t : TypeId) : Bool := tyB P T t && T.solidB && P.readableRec t && decide (t < P.types.size)
def parsOk (P : Program) : List Ty → List TypeId → Bool
  | [], [] => true
  | T :: Ts, t :: ts => parOk P T t && parsOk P Ts ts
  | _, _ => false

theorem vr_arg {T : Ty} {t : TypeId} (ht : TyIs P T t) {r : Reach} {b : Nat} {v : Value} (hv : Value.okWide P w r b t v) {x : T.den} (hx : Rd w (below w) T x v.cells.toList) : VR A0 w (below w) (.dat T x) v := by
  refine vr_of (cs := v.cells.toList) hx ?_
  have hrow := ht.row
  obtain ⟨d, hd, hagg⟩ := hrow
  show if T.agg then v = .agg v.cells.toList.toArray else v.cells.toList = [v]
  cases hT : T.agg with
  | true =>
    rw [if_pos rfl]
    rw [hT] at hagg
    unfold Value.okWide at hv
    rw [hd] at hv
    cases d <;> simp [TypeDesc.isRow] at hagg
    all_goals
      obtain ⟨cs, rfl, _⟩ := hv
      simp [Value.cells]
  | false =>
    rw [if_neg (by simp)]
    have fin : (∀ cs, v ≠ .agg cs) → v.cells.toList = [v] := by
      intro h
      cases v <;> first | rfl | exact absurd rfl (h _)
    apply fin
    rintro cs rfl
    cases T with
    | int k =>
      have ht' := ht
      simp only [TyIs, tyB, Bool.and_eq_true] at ht'
      obtain ⟨_, hu⟩ := ht'
      split at hu
      · rename_i k' hk'; obtain ⟨n, e⟩ := okWide_int hk' hv; cases e
      · cases hu
    | bool =>
      have ht' := ht
      simp only [TyIs, tyB, Bool.and_eq_true] at ht'
      obtain ⟨_, hu⟩ := ht'
      split at hu
      · rename_i hk'; obtain ⟨n, e⟩ := okWide_bool hk' hv; cases e
      · cases hu
    | str => obtain ⟨n, e⟩ := okWide_string ht.str hv; cases e
    | slice T => obtain ⟨e, he, _⟩ := ht.slice; obtain ⟨a, l, c, e⟩ := okWide_slice he hv; cases e
    | opq => exact hx.elim
    | _ => simp [Ty.agg] at hT

theorem args_law : ∀ (Ts : List Ty) (ts : List TypeId) (vs : List Value) (ds : List (DataW H)) (ps : List MemPlace), parsOk P Ts ts = true → DataW.TrodAll enc P w 0 (fun _ => true) true ts vs ds ps →
    (∀ n ∈ DataW.weightsEach P ts ds, n ≤ reachBytes) → (∀ (j : Nat) t v, ts[j]? = some t → vs[j]? = some v → ∃ r b, Value.okWide P w r b t v) →
    ∃ Ds gs, WfDs Ts Ds ∧ ArgsR w (below w) (Ts.map .ro) Ds vs gs ∧ ghBlocks gs = [] ∧ ds.length = Ts.length := by
  intro Ts
  induction Ts with
  | nil =>
    intro ts vs ds ps hp h _ _
    cases ts with
    | nil =>
      obtain ⟨rfl, rfl, rfl⟩ := trodAll_nil h
      exact ⟨[], [], trivial, trivial, rfl, rfl⟩
    | cons _ _ => simp [parsOk] at hp
  | cons T Ts ih =>
    intro ts vs ds ps hp h hw hval
    cases ts with
    | nil => simp [parsOk] at hp
    | cons t ts =>
      simp only [parsOk, parOk, Bool.and_eq_true, decide_eq_true_eq] at hp
      obtain ⟨⟨⟨⟨p1, p2⟩, p3⟩, p4⟩, p5⟩ := hp
      obtain ⟨v, vs, d, ds, p, q, rfl, rfl, rfl, h1, h2⟩ := trodAll_cons h
      simp only [DataW.weightsEach, List.mem_append] at hw
      obtain ⟨fuel, hf⟩ := h1
      obtain ⟨x, hx, wx⟩ := (trod_rd_both T).1 t p1 p2 fuel _ d p hf (fun n hn => hw n (.inl hn))
      obtain ⟨r, b, hv⟩ := hval 0 t v rfl rfl
      obtain ⟨Ds, gs, a1, a2, a3, a4⟩ := ih ts vs ds q p5 h2 (fun n hn => hw n (.inr hn)) (fun j t' v' h1 h2 => hval (j + 1) t' v' (by simpa using h1) (by simpa using h2))
      refine ⟨⟨T, x⟩ :: Ds, ⟨none, .leaf⟩ :: gs, ⟨⟨x, rfl, wx⟩, a1⟩, ⟨[⟨T, x⟩], Ds, rfl, ⟨rfl, rfl, vr_arg p1 hv hx⟩, a2⟩, by simp [ghBlocks, Gh.blocks, FT.blocks] at a3 ⊢; exact a3, by simp [a4]⟩

theorem stays_law {W' : World} (hl : laidOutB P = true) (hW : ∀ b, b < w.heap.size → W'.heap[b]? = w.heap[b]?) : ∀ (Ts : List Ty) (ts : List TypeId) (vs : List Value) (ds : List (DataW H)) (ps : List MemPlace), parsOk P Ts ts = true → DataW.TrodAll enc P w 0 (fun _ => true) true ts vs ds ps →
    DataW.TrodAll enc P W' 0 (fun b => decide (b < w.heap.size)) true ts vs ds ps := by
  intro Ts
  induction Ts with
  | nil =>
    intro ts vs ds ps hp h
    cases ts with
    | nil => obtain ⟨rfl, rfl, rfl⟩ := trodAll_nil h; exact trodAll_mk0
    | cons _ _ => simp [parsOk] at hp
  | cons T Ts ih =>
    intro ts vs ds ps hp h
    cases ts with
    | nil => simp [parsOk] at hp
    | cons t ts =>
      simp only [parsOk, parOk, Bool.and_eq_true, decide_eq_true_eq] at hp
      obtain ⟨⟨⟨⟨p1, p2⟩, p3⟩, p4⟩, p5⟩ := hp
      obtain ⟨v, vs, d, ds, p, q, rfl, rfl, rfl, h1, h2⟩ := trodAll_cons h
      have hlt : ∀ x ∈ p, x.block < w.heap.size := by obtain ⟨m, hm⟩ := h1; exact DataW.trod_lt m _ _ _ hm
      refine trodAll_cons_mk (WideElems.Trod_stays hl p3 p4 h1 (fun x hx => ?_) (fun x hx => by simpa using hlt x hx)) (ih ts vs ds q p5 h2)
      cases x with
      | cell b o =>
        have := hW b (hlt _ hx)
        show W'.cell? ⟨b, o, none⟩ = w.cell? ⟨b, o, none⟩
        unfold World.cell?
        rw [this]
      | map b => exact hW b (hlt _ hx)

/-- THE ROW's CONTRACT, out of the law's. -/
theorem contract_law {f : FuncId} {fn : Func} {s : ChangeSpec} {Ts : List Ty} {h : {ρ : Type} → List D → (List D → List D → Option ρ) → Option ρ} (hv : Valid P f ⟨Ts.map .ro, [.bool], h⟩) (hent : ∀ args w, (callFunc f args).run P w = .ok (.enter f args) w) (hg : ∀ ds, WfDs Ts ds → FnC.g ⟨Ts.map .ro, [.bool], h⟩ ds = some ([⟨.bool, true⟩], []))
    (hvars : s.vars = []) (hvt : s.plain.varTypes P = []) (hspec : ∀ ds : List (DataW H), ds.length = Ts.length → s.fn H ds = { results := [.lit (.bool true)], args := ds })
    (hp : parsOk P Ts fn.params.toList = true) {tb : TypeId} (hres : fn.resultTypes = #[tb]) (htb : P.underlying tb = some .bool) (hl : laidOutB P = true) {apart fresh handsOn : Bool}
    (W : World) (base : Nat) (args : Array Value) (ds gs : List (DataW H)) (before : List MemPlace)
    (hval : ∀ (j : Nat) t v, fn.params[j]? = some t → args[j]? = some v → Value.okWide P W .any base t v)
    (hW : DataW.Whole enc P fn.params.toList s.vars apart W args.toList ds gs before)
    (hsz : (DataW.weightsEach P (fn.params.toList ++ s.plain.varTypes P) (ds ++ gs)).all (· ≤ reachBytes) = true) :
    Calls P f args W fun e W' => ∃ v, e = .returned v ∧ s.post enc P fn apart fresh handsOn false W args v W' := by
  have hW0 := hW
  obtain ⟨p, q, hA, hV, rfl, hfz, hnd⟩ := hW
  rw [hvars] at hV
  obtain ⟨rfl, rfl⟩ := trodVars_none hV
  rw [hvt, List.append_nil, List.append_nil] at hsz
  have hw : ∀ n ∈ DataW.weightsEach P fn.params.toList ds, n ≤ reachBytes := fun n hn => by simpa using List.all_eq_true.1 hsz n hn
  obtain ⟨Ds, gs', a1, a2, a3, a4⟩ := args_law Ts fn.params.toList args.toList ds p hp hA hw (fun j t v h1 h2 => ⟨.any, base, hval j t v (by rw [← Array.getElem?_toList]; exact h1) (by rw [← Array.getElem?_toList]; exact h2)⟩)
  have hpre : Pre W (below W) ⟨Ts.map .ro, [.bool], h⟩ Ds args.toList gs' := ⟨a2, by rw [a3]; exact List.nodup_nil, fun b hb => (by rw [a3] at hb; cases hb), fun b hb => hb⟩
  rcases hv.calls W (below W) Ds args.toList gs' _ _ hpre (hg Ds a1) with ⟨_, hc⟩ | ⟨v, w', hrun, _⟩
  rotate_left
  · rw [hent] at hrun
    cases hrun
  rw [Array.toArray_toList] at hc
  refine hc.mono fun e W' he => ?_
  cases e with
  | returned v =>
    obtain ⟨fs, gs2, D⟩ := he
    have hag : ∀ b, b < W.heap.size → W'.heap[b]? = W.heap[b]? := fun b hb => D.agree b hb (by rw [a3]; exact fun h => by cases h)
    have hvv : v = .bool true := by
      obtain ⟨f, _, cs, ho, hx⟩ := D.res
      obtain ⟨_, _, _, rfl⟩ := ho
      simpa [Ty.agg, fcells] using hx.symm
    subst hvv
    refine ⟨_, rfl, ds, [], p ++ [], [], p, [], hW0, ?_, ?_, ?_, ⟨D.gro.os, D.gro.output, fun i hi => ?_⟩, fun h => by cases h⟩
    · rw [List.append_nil, hspec ds a4, hres]
      exact trodAll_mk1 (shut_bool htb _)
    · rw [List.append_nil, hspec ds a4]
      exact stays_law hl hag Ts _ _ ds p hp hA
    · rw [List.append_nil, hspec ds a4, hvars]
      exact rfl
    · rw [hag i hi]
      split <;> simp_all
  | _ => exact he.elim
end
end Go.TM
/-! ## ToR -/
namespace Go.TM
set_option autoImplicit false

def nb : List Nat → List Nat → Bool
  | [], [] => true
  | a :: l, b :: m => match Nat.beq a b with
    | true => nb l m
    | false => false
  | _, _ => false

/-- contracts by their numbers, and by the closures that they are handed -/
def lkF : List (Nat × List Nat × FnC) → Nat → List Nat → Option FnC
  | [], _, _ => none
  | (k, is, c) :: r, n, ids => match Nat.beq k n with
    | true => match nb is ids with
      | true => some c
      | false => lkF r n ids
    | false => lkF r n ids

/-- the surroundings in which a function is looked at: the types, the contracts of what it calls, what its loops keep -/
def mkE (ty : List (Nat × Ty)) (cs : List (Nat × List Nat × FnC)) (keep : List (Nat × Keep)) : Env :=
  { nt := 0, ty := ty, fn := fun f ids => lkF cs f ids, keep := keep }

theorem envOk_nil (P : Program) (ty : List (Nat × Ty)) (keep : List (Nat × Keep)) : EnvOk P (mkE ty [] keep) := by
  intro f ids c h
  cases h

theorem envOk_cons {P : Program} {ty : List (Nat × Ty)} {keep : List (Nat × Keep)} {f : Nat} {is : List Nat} {c : FnC} {cs : List (Nat × List Nat × FnC)} (h : Valid P f c) (hs : EnvOk P (mkE ty cs keep)) : EnvOk P (mkE ty ((f, is, c) :: cs) keep) := by
  intro g ids d hd
  simp only [mkE, lkF] at hd
  split at hd
  · rename_i e
    split at hd
    · obtain rfl := Nat.eq_of_beq_eq_true e
      obtain rfl := Option.some.inj hd
      exact h
    · exact hs g ids d hd
  · exact hs g ids d hd

theorem ty_of_tab {P : Program} {tab : List (Nat × Ty)} (h : tab.all (fun x => tyB P x.2 x.1) = true) {cs : List (Nat × List Nat × FnC)} {keep : List (Nat × Keep)} : ∀ t T, (mkE tab cs keep).tyOf t = some T → TyIs P T t := by
  intro t T hT
  have : ∀ l : List (Nat × Ty), l.all (fun x => tyB P x.2 x.1) = true → lk l t = some T → tyB P T t = true := by
    intro l
    induction l with
    | nil => intro _ h; cases h
    | cons x l ih =>
      intro ha hl
      obtain ⟨k, v⟩ := x
      simp only [List.all_cons, Bool.and_eq_true] at ha
      rw [lk_cons] at hl
      split at hl
      · rename_i e; subst e; obtain rfl := Option.some.inj hl; exact ha.1
      · exact ih ha.2 hl
  exact this tab h hT

/-- the bodies of the loops, the outer ones first -/
def loopsOf : Code → List Code
  | .seq a b => loopsOf a ++ loopsOf b
  | .cond _ a b => loopsOf a ++ loopsOf b
  | .block _ c => loopsOf c
  | .loop c => c :: loopsOf c
  | _ => []

def loopAt (fn : Func) (n : Nat) : Code :=
  match fn.body with
  | some c => (loopsOf c).getD n .skip
  | none => .skip

section
variable {ρ : Type}
/-- what follows the i-th loop of a piece of code; m: the rounds that the loops round it have left -/
def contAt (E : Env) (n : Nat) : Code → Nat → List Nat → (Ex → St → Option ρ) → (Ex → St → Option ρ)
  | .seq a b, i, ms, k => if Nat.blt i (loopsOf a).length then contAt E n a i ms (fun e s' => match e with
      | .normal => keepK E (firstRegion b + 2000000) s' (exec E n b k)
      | e => k e s') else contAt E n b (i - (loopsOf a).length) ms k
  | .cond _ a b, i, ms, k => if Nat.blt i (loopsOf a).length then contAt E n a i ms k else contAt E n b (i - (loopsOf a).length) ms k
  | .block id c, i, ms, k => contAt E n c i ms (fun e s' => match e with
      | .exit j => if Nat.beq j id then k .normal s' else k (.exit j) s'
      | e => k e s')
  | .loop c, 0, _, k => k
  | .loop c, i + 1, ms, k => contAt E n c i ms.tail (fun e s' => match e with
      | .normal => keepK E (firstRegion c) s' (loopK (exec E n c) (keepK E (firstRegion c)) (exitK E (firstRegion c) k) (ms.headD 0))
      | e => exitK E (firstRegion c) k e s')
  | _, _, _, k => k

/-- the i-th loop of fn, with m rounds left -/
def loopG (ρ : Type) (E : Env) (fn : Func) (n : Nat) (i : Nat) (m : Nat) (k : Ex → St → Option ρ) (s : St) : Option ρ :=
  loopK (exec { E with nt := fn.ntmps } n (loopAt fn i)) (keepK { E with nt := fn.ntmps } (firstRegion (loopAt fn i))) (exitK { E with nt := fn.ntmps } (firstRegion (loopAt fn i)) k) m s

/-- what follows the i-th loop of fn -/
def contG (E : Env) (n : Nat) (ps : List PM) (rt : List Ty) (fn : Func) (i : Nat) : Ex → St → Option (Tup rt × Tup (mutTys ps)) :=
  contAt { E with nt := fn.ntmps } n (codeOf fn) i [] (endK { E with nt := fn.ntmps } ps rt fn (decR ps rt))

/-- what follows the i-th loop that lies in the j-th loop of fn; m: the rounds that the j-th one has left -/
def contI {ρ : Type} (E : Env) (n : Nat) (fn : Func) (j i : Nat) (m : Nat) (k : Ex → St → Option ρ) : Ex → St → Option ρ :=
  contAt { E with nt := fn.ntmps } n (.loop (loopAt fn j)) (i - j) [m] k
end
end Go.TM
/-! ## ToS -/
namespace Go.TM
set_option autoImplicit false

theorem geti_nat {α : Type} (l : List α) (n : Nat) : geti l (n : Int) = l[n]? := rfl

theorem idx_nat {ρ : Type} {n m : Nat} (h : m < n) (k : Nat → Option ρ) : idx n (m : Int) k = k m := by
  show (match Nat.blt m n with | true => k m | false => none) = _
  have : Nat.blt m n = true := by simpa [Nat.blt_eq] using h
  rw [this]

theorem wrap_succ {n : Nat} (h : n < 4611686018427387904) : IntKind.i64.wrap ((n : Int) + 1) = ((n + 1 : Nat) : Int) := by
  simp [IntKind.wrap, IntKind.signed, IntKind.bits]
  split <;> omega

theorem wrap64 {x : Int} (h1 : -9223372036854775808 ≤ x) (h2 : x ≤ 9223372036854775807) : IntKind.i64.wrap x = x := by
  simp [IntKind.wrap, IntKind.signed, IntKind.bits]
  split <;> omega

/-- a function that answers yes just when p is so -/
def Tells (x : Option ((Bool × Unit) × Unit)) (p : Prop) : Prop := ∃ v, x = some ((v, ()), ()) ∧ (v = true ↔ p)

theorem tells_true {x : Option ((Bool × Unit) × Unit)} {p : Prop} (h : x = some ((true, ()), ())) (hp : p) : Tells x p := ⟨true, h, by simp [hp]⟩
theorem tells_false {x : Option ((Bool × Unit) × Unit)} {p : Prop} (h : x = some ((false, ()), ())) (hp : ¬ p) : Tells x p := ⟨false, h, by simp [hp]⟩

/-- two lists, held against each other from the i-th place on -/
theorem eq_loop {α ρ : Type} {a b : List α} {k0 k1 : Option ρ} (L : Nat → Int → Option ρ) (hl : a.length = b.length)
    (h0 : ∀ m, L (m + 1) (a.length : Int) = k1)
    (h1 : ∀ (m i : Nat) (x y : α), i < a.length → a[i]? = some x → b[i]? = some y → (x = y → L (m + 1) (i : Int) = L m ((i + 1 : Nat) : Int)) ∧ (x ≠ y → L (m + 1) (i : Int) = k0)) :
    ∀ (m i : Nat), a.length < m + i → i ≤ a.length → (a.drop i = b.drop i → L m (i : Int) = k1) ∧ (a.drop i ≠ b.drop i → L m (i : Int) = k0) := by
  intro m
  induction m with
  | zero => intro i h1 h2; omega
  | succ m ih =>
    intro i hm hi
    by_cases he : i = a.length
    · subst he
      refine ⟨fun _ => h0 m, fun h => ?_⟩
      exfalso
      apply h
      rw [List.drop_eq_nil_of_le (Nat.le_refl _), List.drop_eq_nil_of_le (by omega)]
    · have hlt : i < a.length := by omega
      have hlb : i < b.length := by omega
      obtain ⟨s1, s2⟩ := h1 m i a[i] b[i] hlt (List.getElem?_eq_getElem hlt) (List.getElem?_eq_getElem hlb)
      obtain ⟨r1, r2⟩ := ih (i + 1) (by omega) (by omega)
      rw [List.drop_eq_getElem_cons hlt, List.drop_eq_getElem_cons hlb]
      by_cases hxy : a[i] = b[i]
      · rw [s1 hxy]
        refine ⟨fun h => r1 (List.cons.inj h).2, fun h => r2 (fun h' => h (by rw [hxy, h']))⟩
      · rw [s2 hxy]
        refine ⟨fun h => absurd (List.cons.inj h).1 hxy, fun _ => rfl⟩

/-- a function that holds two lists against each other -/
theorem eq_list {α : Type} {N : Nat} (hN : 1125899906842624 ≤ N) {a b : List α} (ha : a.length ≤ reachBytes) {t : Option ((Bool × Unit) × Unit)} (L : Nat → Int → Option ((Bool × Unit) × Unit))
    (ht : t = match (((a.length : Nat) : Int) != ((b.length : Nat) : Int)) with | true => some ((false, ()), ()) | false => L N (0 : Int))
    (h0 : ∀ m, L (m + 1) (a.length : Int) = some ((true, ()), ()))
    (h1 : ∀ (m i : Nat) (x y : α), i < a.length → a[i]? = some x → b[i]? = some y → (x = y → L (m + 1) (i : Int) = L m ((i + 1 : Nat) : Int)) ∧ (x ≠ y → L (m + 1) (i : Int) = some ((false, ()), ()))) :
    Tells t (a = b) := by
  by_cases hl : a.length = b.length
  · have : (((a.length : Nat) : Int) != ((b.length : Nat) : Int)) = false := by simp [hl]
    rw [this] at ht
    simp only at ht
    have hr : a.length < N + 0 := by
      have : reachBytes = 140737488351232 := rfl
      omega
    obtain ⟨r1, r2⟩ := eq_loop L hl h0 h1 N 0 hr (Nat.zero_le _)
    simp only [List.drop_zero] at r1 r2
    by_cases h : a = b
    · exact tells_true (by rw [ht]; exact r1 h) h
    · exact tells_false (by rw [ht]; exact r2 h) h
  · have : (((a.length : Nat) : Int) != ((b.length : Nat) : Int)) = true := by simp; omega
    rw [this] at ht
    exact tells_false ht (fun h => hl (by rw [h]))

/-- a list, copied place by place -/
theorem copy_loop {α ρ : Type} {a : List α} (L : Nat → List α → Int → Option ρ) (k : List α → Option ρ)
    (h0 : ∀ m out, L (m + 1) out (a.length : Int) = k out)
    (h1 : ∀ (m : Nat) (out : List α) (i : Nat) (x : α), out.length = a.length → i < a.length → a[i]? = some x → L (m + 1) out (i : Int) = L m (out.set i x) ((i + 1 : Nat) : Int)) :
    ∀ (m i : Nat) (out : List α), a.length < m + i → i ≤ a.length → out.length = a.length → out.take i = a.take i → L m out (i : Int) = k a := by
  intro m
  induction m with
  | zero => intro i out h1 h2; omega
  | succ m ih =>
    intro i out hm hi ho ht
    by_cases he : i = a.length
    · subst he
      rw [h0 m out]
      rw [List.take_of_length_le (by omega), List.take_of_length_le (by omega)] at ht
      rw [ht]
    · have hlt : i < a.length := by omega
      rw [h1 m out i a[i] ho hlt (List.getElem?_eq_getElem hlt)]
      refine ih (i + 1) _ (by omega) (by omega) (by simpa using ho) ?_
      rw [List.take_succ_eq_append_getElem (by simpa using (by omega : i < out.length)), List.take_succ_eq_append_getElem hlt]
      rw [List.take_set_of_le (Nat.le_refl i), ht]
      simp

/-- all lists in it are short -/
def smD : (t : Ty) → t.den → Prop
  | .slice t, xs => List.length (α := t.den) xs ≤ 1048576 ∧ ∀ x ∈ (show List t.den from xs), smD t x
  | .cons t r, x => smD t x.1 ∧ smD r x.2
  | .str, x => List.length (α := UInt8) x ≤ 1048576
  | _, _ => True

/-- a function that counts down from n: less than 0 where it does not suffice -/
def Sized (x : Option ((Int × Unit) × Unit)) (n : Int) (p : Prop) : Prop := ∃ r, x = some ((r, ()), ()) ∧ -1 ≤ r ∧ r ≤ n ∧ (0 ≤ r → p)

theorem sz_loop {α ρ : Type} {a : List α} (L : Nat → Int → Int → Option ρ) (ok : α → Prop) (k0 k1 : Int → Option ρ)
    (h0 : ∀ m n, L (m + 1) n (a.length : Int) = k1 n)
    (h1 : ∀ (m : Nat) (n : Int) (i : Nat) (x : α), i < a.length → a[i]? = some x → 0 ≤ n → n ≤ 1048576 → ∃ r, r ≤ n ∧ (r < 0 → L (m + 1) n (i : Int) = k0 r) ∧ (0 ≤ r → L (m + 1) n (i : Int) = L m r ((i + 1 : Nat) : Int) ∧ ok x)) :
    ∀ (m : Nat) (n : Int) (i : Nat), a.length < m + i → i ≤ a.length → 0 ≤ n → n ≤ 1048576 →
      (∃ r, L m n (i : Int) = k0 r ∧ r < 0) ∨ (∃ r, L m n (i : Int) = k1 r ∧ 0 ≤ r ∧ r ≤ n ∧ ∀ x ∈ a.drop i, ok x) := by
  intro m
  induction m with
  | zero => intro n i h1 h2; omega
  | succ m ih =>
    intro n i hm hi hn hn2
    by_cases he : i = a.length
    · subst he
      right
      refine ⟨n, h0 m n, hn, Int.le_refl _, ?_⟩
      rw [List.drop_eq_nil_of_le (Nat.le_refl _)]
      intro x hx
      cases hx
    · have hlt : i < a.length := by omega
      obtain ⟨r, hr, s1, s2⟩ := h1 m n i a[i] hlt (List.getElem?_eq_getElem hlt) hn hn2
      by_cases hr0 : r < 0
      · exact .inl ⟨r, s1 hr0, hr0⟩
      · obtain ⟨e, hok⟩ := s2 (by omega)
        rcases ih r (i + 1) (by omega) (by omega) (by omega) (by omega) with ⟨r2, q1, q2⟩ | ⟨r2, q1, q2, q3, q4⟩
        · exact .inl ⟨r2, by rw [e]; exact q1, q2⟩
        · refine .inr ⟨r2, by rw [e]; exact q1, q2, by omega, ?_⟩
          rw [List.drop_eq_getElem_cons hlt]
          intro x hx
          rcases List.mem_cons.1 hx with rfl | hx
          · exact hok
          · exact q4 x hx
end Go.TM
/-! ## ToT -/
namespace Go.TM
set_option autoImplicit false

/-- the contract of a function that the model answers at once: a word and a letter in, a whole number out -/
def sbC (q : List UInt8 → Int → Int) : FnC :=
  { params := [.ro .str, .ro (.int .u8)], results := [.int .i64], h := fun ds k => match ds with
    | [⟨.str, s⟩, ⟨.int .u8, c⟩] => match (some ((q s c, ()), ()) : Option ((Int × Unit) × Unit)) with
      | none => none
      | some v => k [⟨.int .i64, v.1.1⟩] []
    | _ => none }

theorem sb_g (q : List UInt8 → Int → Int) (s : List UInt8) (c : Int) : FnC.g (sbC q) [⟨.str, s⟩, ⟨.int .u8, c⟩] = some ([⟨.int .i64, q s c⟩], []) := rfl

theorem run_callFunc_ext {P : Program} {f : FuncId} {fn : Func} {e : Array Value → Sem Value} (hf : P.funcs[f]? = some fn) (hname : (fn.name == "runtime.NumGoroutine") = false) (hb : fn.body = none) (hx : Extern.findNext fn = none) (he : Extern.find fn = some e)
    {args : Array Value} {w w' : World} {v : Value} (hr : (e args).run P w = .ok v w') : (callFunc f args).run P w = .ok (.value v) w' := by
  have h1 : fn.name ≠ "runtime.NumGoroutine" := by simpa using hname
  simp [callFunc, hf, h1, hb, mark, hx, he]
  rw [show Sem.run P (Sem.mark (Mark.extern f) (Sem.pure ())) w = .ok () w from rfl]
  simp [Result.andThen, hr]

theorem argR_ro {w : World} {R : Nat → Prop} {T : Ty} {d : List D} {v : Value} {g : Gh} (h : ArgR w R (.ro T) d v g) : ∃ x, d = [⟨T, x⟩] ∧ g.blocks = [] ∧ VR A0 w R (.dat T x) v := by
  cases d with
  | nil => exact h.elim
  | cons d ds =>
    cases ds with
    | cons _ _ => exact h.elim
    | nil =>
      obtain ⟨hb, ht, hv⟩ := h
      obtain ⟨t, x⟩ := d
      dsimp only at ht hv
      subst ht
      exact ⟨x, rfl, hb, hv⟩

theorem sb_valid {P : Program} {f : Nat} {q : List UInt8 → Int → Int} (hrun : ∀ (s : ByteArray) (c : Int) (w : World), (callFunc f #[.string s, .int .u8 c]).run P w = .ok (.value (.int .i64 (q s.data.toList c))) w) : Valid P f (sbC q) := by
  refine ⟨fun ρ ds k => ?_, fun t ht => ?_, fun w R ds vs gs rs ms hp hg => ?_⟩
  · unfold FnC.g sbC
    simp only
    split <;> rfl
  · obtain rfl : t = .int .i64 := by simpa [sbC] using ht
    exact Ty.fine_of (by decide)
  · have ha : ArgsR w R [.ro .str, .ro (.int .u8)] ds vs gs := hp.args
    cases vs with
    | nil => cases gs <;> exact ha.elim
    | cons v1 vs =>
      cases gs with
      | nil => exact ha.elim
      | cons g1 gs =>
        obtain ⟨d1, d2, rfl, a1, ha⟩ := ha
        cases vs with
        | nil => cases gs <;> exact ha.elim
        | cons v2 vs =>
          cases gs with
          | nil => exact ha.elim
          | cons g2 gs =>
            obtain ⟨d3, d4, rfl, a2, ha⟩ := ha
            cases vs with
            | cons _ _ => cases gs <;> cases d4 <;> exact ha.elim
            | nil =>
              cases gs with
              | cons _ _ => cases d4 <;> exact ha.elim
              | nil =>
                cases d4 with
                | cons _ _ => exact ha.elim
                | nil =>
                  obtain ⟨x1, rfl, b1, r1⟩ := argR_ro a1
                  obtain ⟨x2, rfl, b2, r2⟩ := argR_ro a2
                  have hg' : some ([⟨.int .i64, q x1 x2⟩], []) = some (rs, ms) := hg
                  simp only [Option.some.injEq, Prod.mk.injEq] at hg'
                  obtain ⟨rfl, rfl⟩ := hg'
                  rcases r1 with h | ⟨c1, ⟨_, _, rfl⟩, h1⟩
                  · cases h
                  rcases r2 with h | ⟨c2, ⟨_, _, rfl⟩, h2⟩
                  · cases h
                  have h1 : [Value.string ⟨List.toArray (α := UInt8) x1⟩] = [v1] := h1
                  have h2 : [Value.int .u8 x2] = [v2] := h2
                  simp only [List.cons.injEq, and_true] at h1 h2
                  subst h1
                  subst h2
                  refine .inr ⟨.int .i64 (q x1 x2), w, by simpa using hrun ⟨List.toArray (α := UInt8) x1⟩ x2 w, [.leaf], [g1, g2], ?_, rfl, ⟨b1, b2, trivial⟩, ?_, ?_, Gro.refl _, fun _ _ _ => rfl⟩
                  · refine ⟨.leaf, rfl, [.int .i64 (q x1 x2)], ?_, rfl⟩
                    exact Own.of_flat (t := .int .i64) rfl trivial rfl
                  · simp [ghBlocks, FT.blocksL, FT.blocks, b1, b2]
                  · intro b hb
                    simp [ghBlocks, FT.blocksL, FT.blocks, b1, b2] at hb
end Go.TM
