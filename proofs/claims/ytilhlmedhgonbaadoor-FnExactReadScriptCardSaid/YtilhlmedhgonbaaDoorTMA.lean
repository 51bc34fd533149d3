/- A machine for a part of the programs' language, and the proof that it tells what the model tells (part 1 of 4): it runs a function's code over pure data; nothing here names the program. -/
import Derived.Orders
import Derived.Tactics
/-! ## TmA -/
namespace Go.TM
set_option autoImplicit false

inductive Ty where
  | int (k : IntKind) | bool | str | opq
  | slice (t : Ty)
  | unit | cons (t r : Ty)
  | arr (n : Nat) (t : Ty)
  deriving DecidableEq

def Ty.den : Ty → Type
  | .int _ => Int
  | .bool => Bool
  | .str => List UInt8
  | .opq => Unit
  | .slice t => List t.den
  | .unit => Unit
  | .cons t r => t.den × r.den
  | .arr _ t => List t.den

def Ty.size : Ty → Nat
  | .unit => 0
  | .cons t r => t.size + r.size
  | .arr n t => n * t.size
  | _ => 1

/-- no slices inside -/
def Ty.flat : Ty → Bool
  | .slice _ => false
  | .opq => false
  | .cons t r => t.flat && r.flat
  | .arr _ t => t.flat
  | _ => true

def Ty.agg : Ty → Bool
  | .unit | .cons _ _ | .arr _ _ => true
  | _ => false

/-- a struct's rest is a struct or nothing -/
def Ty.fine : Ty → Prop
  | .cons t r => t.fine ∧ r.fine ∧ (r = .unit ∨ ∃ c d, r = .cons c d)
  | .slice t => t.fine
  | .arr _ t => t.fine
  | _ => True

def Ty.fineB : Ty → Bool
  | .cons t r => t.fineB && r.fineB && (match r with
    | .unit => true
    | .cons _ _ => true
    | _ => false)
  | .slice t => t.fineB
  | .arr _ t => t.fineB
  | _ => true

theorem Ty.fine_of {t : Ty} (h : t.fineB = true) : t.fine := by
  induction t with
  | slice t ih => exact ih h
  | arr n t ih => exact ih h
  | cons t r iht ihr =>
    simp only [Ty.fineB, Bool.and_eq_true] at h
    refine ⟨iht h.1.1, ihr h.1.2, ?_⟩
    have := h.2
    split at this
    · exact .inl rfl
    · exact .inr ⟨_, _, rfl⟩
    · cases this
  | _ => trivial

/-- The tree of blocks of an owned value. -/
inductive FT where
  | leaf
  | node (b : Option Nat) (cap : Nat) (kids : List FT)
  | pair (a r : FT)

def FT.fst : FT → FT
  | .pair a _ => a
  | _ => .leaf
def FT.snd : FT → FT
  | .pair _ r => r
  | _ => .leaf

mutual
def FT.blocks : FT → List Nat
  | .leaf => []
  | .node b _ ks => b.toList ++ FT.blocksL ks
  | .pair a r => a.blocks ++ r.blocks
def FT.blocksL : List FT → List Nat
  | [] => []
  | k :: ks => k.blocks ++ FT.blocksL ks
end

/-- the cells that lie at an address -/
def At (w : World) (b o n : Nat) (cs : List Value) : Prop :=
  ∃ row e fz, w.heap[b]? = some (.cells row e fz) ∧ o + n ≤ row.size ∧ (row.toList.drop o).take n = cs

/-- the block is a row that may be written -/
def Free (w : World) (b : Nat) : Prop := ∃ row e, w.heap[b]? = some (.cells row e (0, 0))

def lim : Nat := 140737488355328

def sub (cs : List Value) (o n : Nat) : List Value := (cs.drop o).take n

/-- the cells of flat data -/
def fcells : (t : Ty) → t.den → List Value
  | .int k, x => [.int k x]
  | .bool, x => [.bool x]
  | .str, x => [.string ⟨List.toArray (α := UInt8) x⟩]
  | .cons t r, x => fcells t x.1 ++ fcells r x.2
  | .arr _ t, xs => (List.map (fcells t) xs).flatten
  | _, _ => []

/-- flat data that the model can hold -/
def fok : (t : Ty) → t.den → Prop
  | .str, x => List.length (α := UInt8) x ≤ lim
  | .cons t r, x => fok t x.1 ∧ fok r x.2
  | .arr n t, xs => List.length (α := t.den) xs = n ∧ ∀ x ∈ (show List t.den from xs), fok t x
  | .slice _, _ => False
  | .opq, _ => False
  | _, _ => True

/-- 'cs' are the cells of a value that reads as x, all of whose slices are its own alone: their blocks are those of ft. -/
def Own (w : World) : (t : Ty) → t.den → FT → List Value → Prop
  | .slice t, xs, ft, cs => ∃ b cap ks, ft = .node b cap ks ∧ cs = [.slice (b.map (⟨·, 0, none⟩)) (List.length (α := t.den) xs) cap] ∧
      List.length (α := t.den) xs ≤ cap ∧ List.length (α := t.den) xs ≤ lim ∧ ks.length = List.length (α := t.den) xs ∧
      (match b with
       | none => cap = 0
       | some b => (∃ row e, w.heap[b]? = some (.cells row e (0, 0)) ∧ cap * t.size = row.size) ∧
          ∀ (i : Nat) (x : t.den) (k : FT), (show List t.den from xs)[i]? = some x → ks[i]? = some k → ∃ c, At w b (i * t.size) t.size c ∧ Own w t x k c)
  | .cons t r, x, ft, cs => ft.blocks = ft.fst.blocks ++ ft.snd.blocks ∧ ∃ c1 c2, cs = c1 ++ c2 ∧ Own w t x.1 ft.fst c1 ∧ Own w r x.2 ft.snd c2
  | .opq, _, _, _ => False
  | t, x, ft, cs => t.flat = true ∧ fok t x ∧ ft.blocks = [] ∧ cs = fcells t x

/-- 'cs' are the cells of a value that reads as x, all of whose slices lie in blocks of R. -/
def Rd (w : World) (R : Nat → Prop) : (t : Ty) → t.den → List Value → Prop
  | .slice t, xs, cs => ∃ a cap, cs = [.slice a (List.length (α := t.den) xs) cap] ∧ (List.length (α := t.den) xs ≤ cap ∧ List.length (α := t.den) xs ≤ lim) ∧
      ((show List t.den from xs) ≠ [] → ∃ b o, a = some ⟨b, o, none⟩ ∧ R b ∧
        ∀ (i : Nat) (x : t.den), (show List t.den from xs)[i]? = some x → ∃ c, At w b (o + i * t.size) t.size c ∧ Rd w R t x c)
  | .cons t r, x, cs => ∃ c1 c2, cs = c1 ++ c2 ∧ Rd w R t x.1 c1 ∧ Rd w R r x.2 c2
  | .opq, _, _ => False
  | t, x, cs => t.flat = true ∧ fok t x ∧ cs = fcells t x

theorem At.len {w : World} {b o n : Nat} {cs : List Value} (h : At w b o n cs) : cs.length = n := by
  obtain ⟨row, e, fz, _, hs, rfl⟩ := h
  simp; omega

theorem At.agree {w w' : World} {b o n : Nat} {cs : List Value} (hb : w'.heap[b]? = w.heap[b]?) (h : At w b o n cs) : At w' b o n cs := by
  unfold At at *; rw [hb]; exact h

theorem fcells_len : ∀ (t : Ty) (x : t.den), t.flat = true → fok t x → (fcells t x).length = t.size
  | .int _, _, _, _ => rfl
  | .bool, _, _, _ => rfl
  | .str, _, _, _ => rfl
  | .opq, _, h, _ => by simp [Ty.flat] at h
  | .slice _, _, h, _ => by simp [Ty.flat] at h
  | .unit, _, _, _ => rfl
  | .cons t r, x, h, hk => by
    simp only [Ty.flat, Bool.and_eq_true] at h
    simp only [fcells, List.length_append, Ty.size]
    rw [fcells_len t x.1 h.1 hk.1, fcells_len r x.2 h.2 hk.2]
  | .arr n t, xs, h, hk => by
    have hk1 : List.length (α := t.den) xs = n := hk.1
    have hk2 := hk.2
    simp only [fcells, Ty.size]
    rw [← hk1]
    clear hk hk1
    revert hk2
    generalize hl : (show List t.den from xs) = l
    change (∀ x ∈ l, fok t x) → _
    have : xs = l := hl
    subst this
    intro hk2
    have key : ∀ l : List t.den, (∀ x ∈ l, fok t x) → ((l.map (fcells t)).flatten).length = l.length * t.size := by
      intro l
      induction l with
      | nil => intro _; simp
      | cons a l ih =>
        intro hl
        simp only [List.map_cons, List.flatten_cons, List.length_append, List.length_cons]
        rw [fcells_len t a h (hl a (by simp)), ih (fun x hx => hl x (by simp [hx]))]
        rw [Nat.succ_mul]; omega
    exact key _ hk2

theorem Own.agree {w w' : World} : ∀ (t : Ty) (x : t.den) (ft : FT) (cs : List Value), (∀ b ∈ ft.blocks, w'.heap[b]? = w.heap[b]?) → Own w t x ft cs → Own w' t x ft cs
  | .int _, _, _, _, _, h => h
  | .bool, _, _, _, _, h => h
  | .str, _, _, _, _, h => h
  | .opq, _, _, _, _, h => h
  | .unit, _, _, _, _, h => h
  | .arr _ _, _, _, _, _, h => h
  | .cons t r, x, ft, cs, hb, h => by
    obtain ⟨h0, c1, c2, rfl, h1, h2⟩ := h
    exact ⟨h0, c1, c2, rfl, Own.agree t x.1 ft.fst c1 (fun b m => hb b (by simp [h0, m])) h1, Own.agree r x.2 ft.snd c2 (fun b m => hb b (by simp [h0, m])) h2⟩
  | .slice t, xs, ft, cs, hb, h => by
    obtain ⟨b, cap, ks, rfl, rfl, h1, h2, h3, h4⟩ := h
    refine ⟨b, cap, ks, rfl, rfl, h1, h2, h3, ?_⟩
    cases b with
    | none => exact h4
    | some b =>
      obtain ⟨⟨row, e, h5, h6⟩, h7⟩ := h4
      have e0 : w'.heap[b]? = w.heap[b]? := hb b (by simp [FT.blocks])
      refine ⟨⟨row, e, by rw [e0]; exact h5, h6⟩, fun i x k hx hk => ?_⟩
      obtain ⟨c, hc, ho⟩ := h7 i x k hx hk
      refine ⟨c, hc.agree e0, Own.agree t x k c (fun b' m => hb b' ?_) ho⟩
      have hmem : k ∈ ks := List.mem_of_getElem? hk
      clear hk hx ho hc h7 h3 hb h5 h6 e0
      simp only [FT.blocks, List.mem_append]
      right
      induction ks with
      | nil => cases hmem
      | cons k' ks ih =>
        simp only [FT.blocksL, List.mem_append]
        rcases List.mem_cons.1 hmem with rfl | hm
        · exact .inl m
        · exact .inr (ih hm)

theorem Rd.agree {w w' : World} {R R' : Nat → Prop} (hR : ∀ b, R b → R' b) (hb : ∀ b, R b → w'.heap[b]? = w.heap[b]?) : ∀ (t : Ty) (x : t.den) (cs : List Value), Rd w R t x cs → Rd w' R' t x cs
  | .int _, _, _, h => h
  | .bool, _, _, h => h
  | .str, _, _, h => h
  | .opq, _, _, h => h
  | .unit, _, _, h => h
  | .arr _ _, _, _, h => h
  | .cons t r, x, cs, h => by
    obtain ⟨c1, c2, rfl, h1, h2⟩ := h
    exact ⟨c1, c2, rfl, Rd.agree hR hb t x.1 c1 h1, Rd.agree hR hb r x.2 c2 h2⟩
  | .slice t, xs, cs, h => by
    obtain ⟨a, cap, rfl, h1, h2⟩ := h
    refine ⟨a, cap, rfl, h1, fun hne => ?_⟩
    obtain ⟨b, o, rfl, hRb, h3⟩ := h2 hne
    refine ⟨b, o, rfl, hR b hRb, fun i x hx => ?_⟩
    obtain ⟨c, hc, ho⟩ := h3 i x hx
    exact ⟨c, hc.agree (hb b hRb), Rd.agree hR hb t x c ho⟩

theorem Own.len {w : World} : ∀ (t : Ty) (x : t.den) (ft : FT) (cs : List Value), Own w t x ft cs → cs.length = t.size
  | .int _, _, _, _, h => by obtain ⟨_, _, _, rfl⟩ := h; rfl
  | .bool, _, _, _, h => by obtain ⟨_, _, _, rfl⟩ := h; rfl
  | .str, _, _, _, h => by obtain ⟨_, _, _, rfl⟩ := h; rfl
  | .opq, _, _, _, h => h.elim
  | .unit, _, _, _, h => by obtain ⟨_, _, _, rfl⟩ := h; rfl
  | .arr _ _, _, _, _, h => by obtain ⟨h1, h2, _, rfl⟩ := h; exact fcells_len _ _ h1 h2
  | .cons t r, x, _, _, h => by
    obtain ⟨_, c1, c2, rfl, h1, h2⟩ := h
    simp [Ty.size, Own.len t x.1 _ c1 h1, Own.len r x.2 _ c2 h2]
  | .slice t, xs, ft, cs, h => by obtain ⟨b, cap, ks, _, rfl, _⟩ := h; rfl

theorem Rd.len {w : World} {R : Nat → Prop} : ∀ (t : Ty) (x : t.den) (cs : List Value), Rd w R t x cs → cs.length = t.size
  | .int _, _, _, h => by obtain ⟨_, _, rfl⟩ := h; rfl
  | .bool, _, _, h => by obtain ⟨_, _, rfl⟩ := h; rfl
  | .str, _, _, h => by obtain ⟨_, _, rfl⟩ := h; rfl
  | .opq, _, _, h => h.elim
  | .unit, _, _, h => by obtain ⟨_, _, rfl⟩ := h; rfl
  | .arr _ _, _, _, h => by obtain ⟨h1, h2, rfl⟩ := h; exact fcells_len _ _ h1 h2
  | .cons t r, x, _, h => by
    obtain ⟨c1, c2, rfl, h1, h2⟩ := h
    simp [Ty.size, Rd.len t x.1 c1 h1, Rd.len r x.2 c2 h2]
  | .slice t, xs, cs, h => by obtain ⟨a, cap, rfl, _⟩ := h; rfl

/-- what is owned can be read -/
theorem Own.rd {w : World} {R : Nat → Prop} : ∀ (t : Ty) (x : t.den) (ft : FT) (cs : List Value), (∀ b ∈ ft.blocks, R b) → Own w t x ft cs → Rd w R t x cs
  | .int _, _, _, _, _, h => ⟨h.1, h.2.1, h.2.2.2⟩
  | .bool, _, _, _, _, h => ⟨h.1, h.2.1, h.2.2.2⟩
  | .str, _, _, _, _, h => ⟨h.1, h.2.1, h.2.2.2⟩
  | .opq, _, _, _, _, h => h
  | .unit, _, _, _, _, h => ⟨h.1, h.2.1, h.2.2.2⟩
  | .arr _ _, _, _, _, _, h => ⟨h.1, h.2.1, h.2.2.2⟩
  | .cons t r, x, ft, cs, hb, h => by
    obtain ⟨h0, c1, c2, rfl, h1, h2⟩ := h
    exact ⟨c1, c2, rfl, Own.rd t x.1 _ c1 (fun b m => hb b (by simp [h0, m])) h1, Own.rd r x.2 _ c2 (fun b m => hb b (by simp [h0, m])) h2⟩
  | .slice t, xs, ft, cs, hb, h => by
    obtain ⟨b, cap, ks, rfl, rfl, h1, h2, h3, h4⟩ := h
    refine ⟨_, cap, rfl, ⟨h1, h2⟩, fun hne => ?_⟩
    cases b with
    | none =>
      subst h4
      exact absurd (List.length_eq_zero_iff.1 (Nat.le_zero.1 h1)) hne
    | some b =>
      refine ⟨b, 0, rfl, hb b (by simp [FT.blocks]), fun i x hx => ?_⟩
      have hi : i < ks.length := by
        rw [h3]
        exact (List.getElem?_eq_some_iff.1 hx).1
      obtain ⟨c, hc, ho⟩ := h4.2 i x ks[i] hx (List.getElem?_eq_getElem hi)
      refine ⟨c, by rw [Nat.zero_add]; exact hc, Own.rd t x ks[i] c (fun b' m => hb b' ?_) ho⟩
      have hmem : ks[i] ∈ ks := List.getElem_mem hi
      revert m hmem
      generalize ks[i] = k
      clear hx ho hc h4 h3 hb hi
      intro m hmem
      simp only [FT.blocks, List.mem_append]
      right
      induction ks with
      | nil => cases hmem
      | cons k' ks ih =>
        simp only [FT.blocksL, List.mem_append]
        rcases List.mem_cons.1 hmem with rfl | hm
        · exact .inl m
        · exact .inr (ih hm)
end Go.TM
/-! ## TmB -/
namespace Go.TM
set_option autoImplicit false

inductive Step where
  | f (n : Nat)
  | i (n : Nat)
  deriving DecidableEq
abbrev Path := List Step

def Path.deref : Path → Bool
  | [] => false
  | .i _ :: _ => true
  | .f _ :: p => Path.deref p

/-- the type that lies at a path -/
def tyAt : Ty → Path → Option Ty
  | t, [] => some t
  | .cons t _, .f 0 :: p => tyAt t p
  | .cons _ r, .f (n + 1) :: p => tyAt r (.f n :: p)
  | .slice t, .i _ :: p => tyAt t p
  | .arr _ t, [.i _] => if t.agg then none else some t
  | _, _ => none

inductive TV where
  | un
  | dat (t : Ty) (x : t.den)
  | own (t : Ty) (x : t.den)
  | nil
  | unit
  | cons (a r : TV)
  | tup (a : TV)
  | ref (b : Nat) (p : Path)
  | sl (b : Nat) (p : Path)
  | slw (b : Nat) (p : Path) (lo len : Nat)
  | rop (t : Ty) (x : t.den)
  | clo (f : Nat) (caps : TV)

structure Box where
  ty : Ty
  virt : Bool
  fix : Bool
  c : TV

structure St where
  tmps : List (Nat × TV)
  boxes : List (Nat × Box)

def lk {α : Type} (l : List (Nat × α)) (n : Nat) : Option α :=
  match l with
  | [] => none
  | (k, v) :: r => if Nat.beq k n then some v else lk r n

def St.get (s : St) (n : Nat) : TV := (lk s.tmps n).getD .un
def St.put (s : St) (n : Nat) (v : TV) : St := { s with tmps := (n, v) :: s.tmps }
def St.box (s : St) (n : Nat) : Option Box := lk s.boxes n

def upd {α : Type} (l : List (Nat × α)) (n : Nat) (v : α) : List (Nat × α) :=
  match l with
  | [] => []
  | (k, x) :: r => if Nat.beq k n then (k, v) :: r else (k, x) :: upd r n v
def St.setBox (s : St) (n : Nat) (b : Box) : St := { s with boxes := upd s.boxes n b }

/-- x as a value of type t -/
def castTo (a b : Ty) (x : a.den) : Option b.den :=
  match decEq a b with
  | .isTrue h => some (h ▸ x)
  | .isFalse _ => none

def geti {α : Type} (l : List α) (i : Int) : Option α :=
  match i with
  | .ofNat n => l[n]?
  | .negSucc _ => none

def geN {α : Type} (l : List α) (n : Nat) : Option α := l[n]?

section
variable {ρ : Type}
/-- typed lens: read -/
def getT : (t : Ty) → t.den → Path → ((u : Ty) → u.den → Option ρ) → Option ρ
  | t, x, [], k => k t x
  | .cons t _, x, .f 0 :: p, k => getT t x.1 p k
  | .cons _ r, x, .f (n + 1) :: p, k => getT r x.2 (.f n :: p) k
  | .slice t, xs, .i n :: p, k => match geN (α := t.den) xs n with
    | some x => getT t x p k
    | none => none
  | .arr _ t, xs, .i n :: p, k => if t.agg then none else match geN (α := t.den) xs n with
    | some x => getT t x p k
    | none => none
  | _, _, _, _ => none

/-- typed lens: write -/
def setT : (t : Ty) → t.den → Path → (u : Ty) → u.den → (t.den → Option ρ) → Option ρ
  | t, _, [], u, y, k => match castTo u t y with
    | some z => k z
    | none => none
  | .cons t _, x, .f 0 :: p, u, y, k => setT t x.1 p u y fun a => k (a, x.2)
  | .cons _ r, x, .f (n + 1) :: p, u, y, k => setT r x.2 (.f n :: p) u y fun a => k (x.1, a)
  | .slice t, xs, .i n :: p, u, y, k => match geN (α := t.den) xs n with
    | some x => setT t x p u y fun a => k (List.set (α := t.den) xs n a)
    | none => none
  | .arr _ t, xs, .i n :: p, u, y, k => if t.agg then none else match geN (α := t.den) xs n with
    | some x => setT t x p u y fun a => k (List.set (α := t.den) xs n a)
    | none => none
  | _, _, _, _, _, _ => none

/-- what lies at a path of a content -/
def getC : TV → Path → (TV → Option ρ) → Option ρ
  | c, [], k => k c
  | .own t x, p, k => getT t x p fun u y => k (.own u y)
  | .dat t x, p, k => if Path.deref p then none else getT t x p fun u y => k (.dat u y)
  | .cons a _, .f 0 :: p, k => getC a p k
  | .cons _ r, .f (n + 1) :: p, k => getC r (.f n :: p) k
  | _, _, _ => none

/-- a content, one step taken apart -/
def TV.apart : TV → TV
  | .own (.cons t r) x => .cons (.own t x.1) (.own r x.2)
  | .own .unit _ => .unit
  | .dat (.cons t r) x => .cons (.dat t x.1) (.dat r x.2)
  | .dat .unit _ => .unit
  | c => c

/-- a content read as a value of type t that owns all its slices -/
def TV.asOwn : (t : Ty) → TV → Option t.den
  | t, .own u x => castTo u t x
  | .int k, .dat u x => castTo u (.int k) x
  | .bool, .dat u x => castTo u .bool x
  | .str, .dat u x => castTo u .str x
  | .slice t, .nil => some ([] : List t.den)
  | .unit, .unit => some ()
  | .unit, .dat .unit _ => some ()
  | .cons t r, .cons a d => match asOwn t a with
    | some x => match asOwn r d with
      | some y => some (x, y)
      | none => none
    | none => none
  | .cons t r, .dat (.cons t' r') x => match asOwn t (.dat t' x.1) with
    | some a => match asOwn r (.dat r' x.2) with
      | some y => some (a, y)
      | none => none
    | none => none
  | _, _ => none

/-- put a content into an unparted one: it is taken apart on the way -/
def setO (mk : (t : Ty) → t.den → TV) : (t : Ty) → t.den → Path → TV → (TV → Option ρ) → Option ρ
  | _, _, [], v, k => k v
  | .cons t r, x, .f 0 :: p, v, k => setO mk t x.1 p v fun a => k (.cons a (mk r x.2))
  | .cons t r, x, .f (n + 1) :: p, v, k => setO mk r x.2 (.f n :: p) v fun a => k (.cons (mk t x.1) a)
  | _, _, _, _, _ => none

/-- put a content at a path -/
def setC : TV → Path → TV → (TV → Option ρ) → Option ρ
  | _, [], v, k => k v
  | .own t x, p, v, k => match v with
    | .own u y => setT t x p u y fun z => k (.own t z)
    | .dat u y => if u.flat then setT t x p u y fun z => k (.own t z) else setO .own t x p (.dat u y) k
    | v => setO .own t x p v k
  | .dat t x, p, v, k => setO .dat t x p v k
  | .cons a r, .f 0 :: p, v, k => setC a p v fun a => k (.cons a r)
  | .cons a r, .f (n + 1) :: p, v, k => setC r (.f n :: p) v fun r => k (.cons a r)
  | _, _, _, _ => none
end
end Go.TM
/-! ## TmC -/
namespace Go.TM
set_option autoImplicit false

structure D where
  t : Ty
  x : t.den

inductive PM where
  | ro (t : Ty)
  | rop (t : Ty)
  | ptr (t : Ty)
  | mut (t : Ty)
  | own (t : Ty)
  | clo (f : Nat) (caps : List PM)

structure FnC where
  params : List PM
  results : List Ty
  h : {ρ : Type} → List D → (List D → List D → Option ρ) → Option ρ

/-- what it hands back, and what it leaves in what was lent -/
def FnC.g (c : FnC) (ds : List D) : Option (List D × List D) := c.h ds fun rs ms => some (rs, ms)
/-- what is done with it hangs on that alone -/
def FnC.Law (c : FnC) : Prop := ∀ (ρ : Type) (ds : List D) (k : List D → List D → Option ρ), c.h ds k = match c.g ds with
  | none => none
  | some (rs, ms) => k rs ms

/-- what is kept at a place: slices that become their temporary's own; variables laid together; temporaries and boxes -/
structure Keep where
  own : List (Nat × Ty)
  norm : List Nat
  ts : List Nat
  bs : List Nat

structure Env where
  nt : Nat
  ty : List (Nat × Ty)
  fn : Nat → List Nat → Option FnC
  /-- per region id of a loop's first region: temporaries and boxes kept at the loop's head -/
  keep : List (Nat × Keep)

/-- does q lead through what lies at p? -/
def Path.thru : Path → Path → Option Path
  | [], q => some q
  | .f m :: p, .f n :: q => if Nat.beq m n then Path.thru p q else none
  | .i _ :: p, .i _ :: q => Path.thru p q
  | _, _ => none

def TV.kill (b : Nat) (p : Path) : TV → TV
  | .ref c q => if Nat.beq b c then (match Path.thru p q with | some r => if Path.deref r then .un else .ref c q | none => .ref c q) else .ref c q
  | .sl c q => if Nat.beq b c then (match Path.thru p q with | some _ => .un | none => .sl c q) else .sl c q
  | .slw c q lo n => if Nat.beq b c then (match Path.thru p q with | some _ => .un | none => .slw c q lo n) else .slw c q lo n
  | .cons a r => .cons (a.kill b p) (r.kill b p)
  | .tup a => .tup (a.kill b p)
  | .clo f caps => .clo f (caps.kill b p)
  | v => v

def Box.kill (b : Nat) (p : Path) (x : Box) : Box := { x with c := x.c.kill b p }
def St.kill (s : St) (b : Nat) (p : Path) : St :=
  { tmps := s.tmps.map fun x => (x.1, x.2.kill b p), boxes := s.boxes.map fun x => (x.1, x.2.kill b p) }

def constTV : Value → TV
  | .int k n => .dat (.int k) n
  | .bool b => .dat .bool b
  | .string s => if Nat.ble s.data.toList.length lim then .dat .str s.data.toList else .un
  | .slice none 0 0 => .nil
  | _ => .un

def St.ev (s : St) : Operand → TV
  | .tmp t => s.get t
  | .const v => constTV v
  | .func f => .clo f .unit
  | .global _ => .un

/-- a loaded content, as a temporary has it -/
def viewF (b : Nat) : (t : Ty) → t.den → Path → Nat → TV
  | .slice _, _, p, _ => .sl b p
  | .cons t r, x, p, n =>
    if (Ty.cons t r).flat then .dat (.cons t r) x
    else .cons (viewF b t x.1 (p ++ [.f n]) 0) (viewF b r x.2 p (n + 1))
  | .unit, _, _, _ => .unit
  | t, x, _, _ => if t.flat then .dat t x else .un

def viewC (b : Nat) : TV → Path → Nat → TV
  | .own (.cons t r) x, p, n => viewF b (.cons t r) x p n
  | .own t x, p, _ => viewF b t x p 0
  | .cons a r, p, n => .cons (viewC b a (p ++ [.f n]) 0) (viewC b r p (n + 1))
  | c, _, _ => c

section
variable {ρ : Type}

def withBox (s : St) (b : Nat) (k : Box → Option ρ) : Option ρ :=
  match s.box b with
  | some x => k x
  | none => none

/-- the list that a slice refers to -/
def sliceD (s : St) (t : Ty) : TV → (List t.den → Option ρ) → Option ρ
  | .nil, k => k []
  | .dat u x, k => match castTo u (.slice t) x with
    | some xs => k xs
    | none => none
  | .sl b p, k => withBox s b fun x => getC x.c p fun c => match c with
    | .own u y => match castTo u (.slice t) y with
      | some xs => k xs
      | none => none
    | _ => none
  | .slw b p lo n, k => withBox s b fun x => getC x.c p fun c => match c with
    | .own u y => match castTo u (.slice t) y with
      | some xs => k ((List.drop (α := t.den) lo xs).take n)
      | none => none
    | _ => none
  | _, _ => none

/-- a value read as data of type t -/
def readR (s : St) : (t : Ty) → TV → (t.den → Option ρ) → Option ρ
  | .slice t, v, k => sliceD s t v k
  | .cons t r, .cons a d, k => readR s t a fun x => readR s r d fun y => k (x, y)
  | .unit, .unit, k => k ()
  | t, .dat u x, k => match castTo u t x with
    | some y => k y
    | none => none
  | _, _, _ => none

/-- a content read as data of type t, slices of whatever kind -/
def contR : (t : Ty) → TV → (t.den → Option ρ) → Option ρ
  | t, .own u x, k => match castTo u t x with
    | some y => k y
    | none => none
  | t, .dat u x, k => match castTo u t x with
    | some y => k y
    | none => none
  | .slice _, .nil, k => k []
  | .cons t r, .cons a d, k => contR t a fun x => contR r d fun y => k (x, y)
  | .unit, .unit, k => k ()
  | _, _, _ => none

def asInt (v : TV) (k : IntKind → Int → Option ρ) : Option ρ :=
  match v with
  | .dat (.int kd) n => k kd n
  | _ => none

def TV.isPtr : TV → Bool
  | .ref _ _ => true
  | .rop _ _ => true
  | _ => false

/-- what a closure has captured -/
def TV.capsO : TV → Option (List TV)
  | .unit => some []
  | .cons a r => if a.isPtr then (match r.capsO with
    | some l => some (a :: l)
    | none => none) else none
  | _ => none

def cloId : TV → Nat
  | .clo f _ => f + 1
  | _ => 0

/-- every way that leads into another box than these is forgotten -/
def TV.within (p : Nat → Bool) : TV → TV
  | .ref c q => if p c then .ref c q else .un
  | .sl c q => if p c then .sl c q else .un
  | .slw c q lo n => if p c then .slw c q lo n else .un
  | .cons a r => .cons (a.within p) (r.within p)
  | .tup a => .tup (a.within p)
  | .clo f caps => .clo f (caps.within p)
  | v => v
def TV.drop (b : Nat) (v : TV) : TV := v.within fun c => !Nat.beq b c
def del {α : Type} (l : List (Nat × α)) (n : Nat) : List (Nat × α) :=
  match l with
  | [] => []
  | (k, x) :: r => if Nat.beq k n then del r n else (k, x) :: del r n
def Box.within (p : Nat → Bool) (x : Box) : Box := { x with c := x.c.within p }
/-- box b is gone -/
def St.drop (s : St) (b : Nat) : St :=
  { tmps := s.tmps.map fun x => (x.1, x.2.drop b), boxes := (del s.boxes b).map fun x => (x.1, x.2.within fun c => !Nat.beq b c) }
def mem (l : List Nat) (n : Nat) : Bool :=
  match l with
  | [] => false
  | k :: r => if Nat.beq k n then true else mem r n
end
end Go.TM
/-! ## TmD -/
namespace Go.TM
set_option autoImplicit false

inductive Ex where
  | normal
  | exit (n : Nat)
  | ret

def zeroD : (t : Ty) → t.den
  | .int _ => (0 : Int)
  | .bool => false
  | .str => ([] : List UInt8)
  | .opq => ()
  | .slice t => ([] : List t.den)
  | .unit => ()
  | .cons t r => (zeroD t, zeroD r)
  | .arr n t => List.replicate n (zeroD t)

def zeroTV (t : Ty) : TV := match t with
  | .slice _ => .nil
  | .cons t r => .cons (zeroTV t) (zeroTV r)
  | .unit => .unit
  | .opq => .un
  | t => .dat t (zeroD t)

def Ty.nopq : Ty → Bool
  | .opq => false
  | .slice t => t.nopq
  | .cons t r => t.nopq && r.nopq
  | .arr _ t => t.nopq
  | _ => true

def bnd : Nat := 4294967296

def Env.tyOf (E : Env) (t : Nat) : Option Ty := lk E.ty t

def TV.isRef : TV → Bool
  | .ref _ _ => true
  | _ => false

section
variable {ρ : Type}

/-- a value to be stored as content of type t; the last argument: what becomes of other values -/
def absorb (s : St) : (t : Ty) → TV → (St → TV → (TV → TV) → Option ρ) → Option ρ
  | .slice t, .nil, k => k s (.own (.slice t) ([] : List t.den)) id
  | .slice t, .sl b p, k => if Path.deref p then k s (.sl b p) id else
    withBox s b fun x => getC x.c p fun c => match c with
    | .own u y => if x.fix || !decide (u = .slice t) then none else setC x.c p .un fun c' => k ((s.setBox b { x with c := c' }).kill b p) (.own u y) (fun e => e.kill b p)
    | _ => none
  | .slice t, .slw b p lo n, k => if Path.deref p || !Nat.beq lo 0 then none else
    withBox s b fun x => getC x.c p fun c => match c with
    | .own u y => if x.fix then none else (match castTo u (.slice t) y with
      | some z => setC x.c p .un fun c' => k ((s.setBox b { x with c := c' }).kill b p) (.own (.slice t) (List.take (α := t.den) n z)) (fun e => e.kill b p)
      | none => none)
    | _ => none
  | .cons t r, .cons a d, k => absorb s t a fun s a' κ => absorb s r (κ d) fun s d' κ' => k s (.cons (κ' a') d') (fun e => κ' (κ e))
  | .unit, .unit, k => k s .unit id
  | t, .dat u x, k => if decide (u = t) then k s (.dat u x) id else none
  | .opq, .ref b p, k => k s (.ref b p) id
  | .opq, .rop t x, k => k s (.rop t x) id
  | .opq, .clo f c, k => k s (.clo f c) id
  | _, _, _ => none

/-- a content that goes behind an index is laid together; an array is had for good -/
def ownUp (t : Ty) (p : Path) (c : TV) : TV :=
  match c with
  | .cons a d => if Path.deref p then (match TV.asOwn t (.cons a d) with
      | some y => .own t y
      | none => .cons a d) else .cons a d
  | .dat (.arr n u) x => if (Ty.arr n u).flat then .own (.arr n u) x else .dat (.arr n u) x
  | c => c

def storeK (s : St) (t : Ty) (a v : TV) (k : St → Option ρ) : Option ρ :=
  match a with
  | .ref b0 p0 => absorb s t v fun s c κ => match κ (.ref b0 p0) with
    | .ref b p => withBox s b fun x => if (x.virt && p.isEmpty) || !decide (tyAt x.ty p = some t) then none else setC x.c p (ownUp t p c) fun c' =>
      match c with
      | .dat u _ => if u.flat then k (s.setBox b { x with c := c' }) else k ((s.setBox b { x with c := c' }).kill b p)
      | _ => k ((s.setBox b { x with c := c' }).kill b p)
    | _ => none
  | _ => none

def loadK (s : St) (t : Ty) (a : TV) (k : TV → Option ρ) : Option ρ :=
  match a with
  | .ref b p => withBox s b fun x => if decide (tyAt x.ty p = some t) then getC x.c p fun c => k (viewC b c p 0) else none
  | .rop u x => if decide (u = t) then k (.dat u x) else none
  | _ => none

def cmpInt (op : BinOp) (x y : Int) : Option Bool :=
  match op with
  | .eql => some (x == y)
  | .neq => some (x != y)
  | .lss => some (decide (x < y))
  | .leq => some (decide (x ≤ y))
  | .gtr => some (decide (x > y))
  | .geq => some (decide (x ≥ y))
  | _ => none

def Ty.rank : Ty → Nat
  | .cons t r => max (t.rank + 1) r.rank
  | _ => 0
/-- no slices, no arrays -/
def Ty.plain : Ty → Bool
  | .int _ | .bool | .str | .unit => true
  | .cons t r => t.plain && r.plain
  | _ => false

/-- comparison of flat data -/
def eqD : (t : Ty) → t.den → t.den → Bool
  | .int _, x, y => (show Int from x) == (show Int from y)
  | .bool, x, y => (show Bool from x) == (show Bool from y)
  | .str, x, y => (show List UInt8 from x) == (show List UInt8 from y)
  | .unit, _, _ => true
  | .cons t r, x, y => eqD t x.1 y.1 && eqD r x.2 y.2
  | _, _, _ => false

def binInt (op : BinOp) (kd : IntKind) (x y : Int) (k : TV → Option ρ) : Option ρ :=
  match op with
  | .shl => match y with
    | .ofNat n => k (.dat (.int kd) (kd.wrap (x * 2 ^ (min n kd.bits))))
    | .negSucc _ => none
  | .shr => match y with
    | .ofNat n => k (.dat (.int kd) (Int.fdiv x (2 ^ (min n kd.bits))))
    | .negSucc _ => none
  | .add => k (.dat (.int kd) (kd.wrap (x + y)))
  | .sub => k (.dat (.int kd) (kd.wrap (x - y)))
  | .mul => k (.dat (.int kd) (kd.wrap (x * y)))
  | .quo => match y with
    | .ofNat 0 => none
    | .ofNat (n + 1) => k (.dat (.int kd) (kd.wrap (Int.tdiv x (.ofNat (n + 1)))))
    | .negSucc n => k (.dat (.int kd) (kd.wrap (Int.tdiv x (.negSucc n))))
  | .rem => match y with
    | .ofNat 0 => none
    | .ofNat (n + 1) => k (.dat (.int kd) (Int.tmod x (.ofNat (n + 1))))
    | .negSucc n => k (.dat (.int kd) (Int.tmod x (.negSucc n)))
  | .and => k (.dat (.int kd) (kd.wrap ((BitVec.ofInt kd.bits x &&& BitVec.ofInt kd.bits y).toNat : Int)))
  | .or => k (.dat (.int kd) (kd.wrap ((BitVec.ofInt kd.bits x ||| BitVec.ofInt kd.bits y).toNat : Int)))
  | .xor => k (.dat (.int kd) (kd.wrap ((BitVec.ofInt kd.bits x ^^^ BitVec.ofInt kd.bits y).toNat : Int)))
  | op => match cmpInt op x y with
    | some b => k (.dat .bool b)
    | none => none

def shifts : BinOp → Bool
  | .shl | .shr => true
  | _ => false

def binK (op : BinOp) (T : Option Ty) (a b : TV) (k : TV → Option ρ) : Option ρ :=
  match a, b with
  | .dat (.int kd) x, .dat (.int kd') y => if shifts op || decide (kd = kd') then binInt op kd x y k else none
  | .dat .str x, .dat .str y =>
    match op with
    | .add => if decide (List.length (α := UInt8) x + List.length (α := UInt8) y ≤ bnd) then k (.dat .str (List.append (α := UInt8) x y)) else none
    | .eql => k (.dat .bool ((show List UInt8 from x) == (show List UInt8 from y)))
    | .neq => k (.dat .bool (!((show List UInt8 from x) == (show List UInt8 from y))))
    | _ => none
  | .dat .bool x, .dat .bool y => if !decide (T = some .bool) then none else
    match op with
    | .eql => k (.dat .bool ((show Bool from x) == (show Bool from y)))
    | .neq => k (.dat .bool (!((show Bool from x) == (show Bool from y))))
    | _ => none
  | .dat (.cons t r) x, .dat u y =>
    if (Ty.cons t r).plain && Nat.blt (Ty.cons t r).rank 9999 && decide (T = some (.cons t r)) then match castTo u (.cons t r) y with
      | some y => match op with
        | .eql => k (.dat .bool (eqD (.cons t r) x y))
        | .neq => k (.dat .bool (!(eqD (.cons t r) x y)))
        | _ => none
      | none => none
    else none
  | _, _ => none

def lenD (s : St) : TV → (Nat → Option ρ) → Option ρ
  | .nil, k => k 0
  | .dat (.slice t) x, k => k (List.length (α := t.den) x)
  | .sl b p, k => withBox s b fun x => getC x.c p fun c => match c with
    | .own (.slice t) y => k (List.length (α := t.den) y)
    | _ => none
  | .slw _ _ _ n, k => k n
  | _, _ => none

def idx (n : Nat) (i : Int) (k : Nat → Option ρ) : Option ρ :=
  match i with
  | .ofNat m => match Nat.blt m n with
    | true => k m
    | false => none
  | .negSucc _ => none

def indexAddrK (s : St) (T : Ty) (x i : TV) (k : TV → Option ρ) : Option ρ :=
  asInt i fun _ i => match x with
  | .dat (.slice t) xs => if decide (T = .slice t) then (match geti (α := t.den) xs i with
    | some a => k (.rop t a)
    | none => none) else none
  | .sl b p => withBox s b fun x => if decide (tyAt x.ty p = some T) then (lenD s (.sl b p) fun n => idx n i fun m => k (.ref b (p ++ [.i m]))) else none
  | .slw b p lo n => withBox s b fun x => if decide (tyAt x.ty p = some T) then idx n i fun m => k (.ref b (p ++ [.i (lo + m)])) else none
  | .ref b p => withBox s b fun x => if decide (tyAt x.ty p = some T) then (match T with
    | .arr n t => if t.agg || Nat.ble n 1 then none else idx n i fun m => k (.ref b (p ++ [.i m]))
    | _ => none) else none
  | _ => none

def nthF : TV → Nat → Option TV
  | .cons a _, 0 => some a
  | .cons _ r, n + 1 => nthF r n
  | .dat (.cons t _) x, 0 => some (.dat t x.1)
  | .dat (.cons _ r) x, n + 1 => nthF (.dat r x.2) n
  | _, _ => none

def TV.sz : TV → Nat
  | .dat t _ => t.size
  | .unit => 0
  | .cons a r => a.sz + r.sz
  | _ => 1

def TV.solid : TV → Bool
  | .un | .tup _ | .own _ _ => false
  | _ => true

/-- parts sorted by their fields -/
def insP {β : Type} (x : Nat × β) : List (Nat × β) → List (Nat × β)
  | [] => [x]
  | y :: l => match Nat.blt y.1 x.1 with
    | true => y :: insP x l
    | false => x :: y :: l
def sortP {β : Type} : List (Nat × β) → List (Nat × β)
  | [] => []
  | x :: l => insP x (sortP l)

/-- the parts of a struct's value, in order; what is not given is nought -/
def buildP (s : St) : (t : Ty) → Nat → List (Nat × Operand) → (TV → Option ρ) → Option ρ
  | .cons t r, n, (i, x) :: ps, k => match Nat.beq i n with
    | true => if (s.ev x).solid && Nat.beq (s.ev x).sz t.size then buildP s r (n + 1) ps fun d => k (.cons (s.ev x) d) else none
    | false => buildP s r (n + 1) ((i, x) :: ps) fun d => k (.cons (zeroTV t) d)
  | .cons t r, n, [], k => buildP s r (n + 1) [] fun d => k (.cons (zeroTV t) d)
  | .unit, _, [], k => k .unit
  | _, _, _, _ => none

/-- the parts are in order -/
def seqB : Nat → List (Nat × Operand) → Bool
  | _, [] => true
  | n, x :: l => Nat.beq x.1 n && seqB (n + 1) l

/-- the elements of a literal, each its own -/
def elemsK (s : St) (t : Ty) (kl : TV → TV) : List TV → (St → List t.den → Option ρ) → Option ρ
  | [], k => k s []
  | v :: vs, k => absorb s t (kl v) fun s c κ => match c.asOwn t with
    | some x => elemsK s t (fun d => κ (kl d)) vs fun s xs => k s (x :: xs)
    | none => none

def newBox (s : St) (id : Nat) (x : Box) (k : St → Option ρ) : Option ρ :=
  match Nat.beq (id % 32) 0 with
  | true => none
  | false => match s.box id with
    | some _ => none
    | none => k { s with boxes := (id, x) :: s.boxes }

def newSl (s : St) (d : Nat) (t : Ty) (xs : List t.den) (k : St → Option ρ) : Option ρ :=
  newBox s (d * 32 + 1) ⟨.slice t, true, false, .own (.slice t) xs⟩ fun s => k (s.put d (.sl (d * 32 + 1) []))

def newVar (s : St) (d : Nat) (t : Ty) (c : TV) (k : St → Option ρ) : Option ρ :=
  newBox s (d * 32 + 1) ⟨t, false, false, c⟩ fun s => k (s.put d (.ref (d * 32 + 1) []))

/-- what is given away for good -/
def passO (s : St) : List PM → List TV → (St → List TV → (TV → TV) → Option ρ) → Option ρ
  | [], [], k => k s [] id
  | m :: ms, v :: vs, k => match m with
    | .own (.slice t) => absorb s (.slice t) v fun s c κ => match c.asOwn (.slice t) with
      | some x => passO s ms (vs.map κ) fun s vs κ' => k s (.own (.slice t) x :: vs) (fun e => κ' (κ e))
      | none => none
    | .own _ => none
    | _ => passO s ms vs fun s vs κ => k s (κ v :: vs) κ
  | _, _, _ => none

def PM.lends : PM → Bool
  | .ptr _ | .mut _ => true
  | _ => false

/-- what is lent to be changed (one at most): the state without it -/
def passM (s : St) : List PM → List TV → (St → List TV → (TV → TV) → Option ρ) → Option ρ
  | [], [], k => k s [] id
  | m :: ms, v :: vs, k => match m, v with
    | .ptr t, .ref b [] => withBox s b fun x => if x.virt || ms.any PM.lends || !decide (x.ty = t) then none else match x.c.asOwn t with
      | some y => k (s.drop b) (.own t y :: vs.map (TV.drop b)) (TV.drop b)
      | none => none
    | .ptr _, _ => none
    | .mut (.slice t), .nil => if ms.any PM.lends then none else k s (.own (.slice t) ([] : List t.den) :: vs) id
    | .mut (.slice t), .sl b p => if Path.deref p || ms.any PM.lends then none else withBox s b fun x => getC x.c p fun c => match c with
      | .own u y => if decide (u = .slice t) then setC x.c p .un fun c' => k (((s.setBox b { x with fix := false }).setBox b { x with fix := false, c := c' }).kill b p) (.own u y :: vs.map (TV.kill b p)) (TV.kill b p) else none
      | _ => none
    | .mut _, _ => none
    | _, v => passM s ms vs fun s vs κ => k s (κ v :: vs) κ
  | _, _, _ => none

/-- what is only read -/
def lendR (s : St) : PM → TV → (D → Option ρ) → Option ρ
  | .ro t, v, k => readR s t v fun x => k ⟨t, x⟩
  | .rop t, .rop u x, k => match castTo u t x with
    | some y => k ⟨t, y⟩
    | none => none
  | .rop t, .ref b p, k => withBox s b fun x => if decide (tyAt x.ty p = some t) then (getC x.c p fun c => contR t c fun y => k ⟨t, y⟩) else none
  | _, _, _ => none

def lendRs (s : St) : List PM → List TV → (List D → Option ρ) → Option ρ
  | [], [], k => k []
  | m :: ms, v :: vs, k => lendR s m v fun d => lendRs s ms vs fun ds => k (d :: ds)
  | _, _, _ => none

def lend (s : St) : PM → TV → (List D → Option ρ) → Option ρ
  | .ptr t, .own u x, k => if decide (u = t) then k [⟨u, x⟩] else none
  | .mut t, .own u x, k => if decide (u = t) then k [⟨u, x⟩] else none
  | .own t, .own u x, k => if decide (u = t) then k [⟨u, x⟩] else none
  | .clo f ms, .clo g caps, k => if Nat.beq f g then (match caps.capsO with
    | some l => lendRs s ms l k
    | none => none) else none
  | m, v, k => lendR s m v fun d => k [d]

def lendAll (s : St) : List PM → List TV → (List D → Option ρ) → Option ρ
  | [], [], k => k []
  | m :: ms, v :: vs, k => lend s m v fun d => lendAll s ms vs fun ds => k (d ++ ds)
  | _, _, _ => none

/-- take back what was lent -/
def back (s : St) : PM → TV → List D → (St → List D → Option ρ) → Option ρ
  | .ptr t, .ref b [], d :: ds, k => if decide (d.t = t) then withBox s b fun x => k ((s.setBox b { x with c := .own d.t d.x }).kill b []) ds else none
  | .mut _, .nil, _ :: ds, k => k s ds
  | .mut t, .sl b p, d :: ds, k => if decide (d.t = t) then withBox s b fun x => setC x.c p (.own d.t d.x) fun c =>
      match t with
      | .slice u => if u.flat then k (s.setBox b { x with c := c }) ds else k ((s.setBox b { x with c := c }).kill b p) ds
      | _ => none
    else none
  | .ptr _, _, _, _ => none
  | .mut _, _, _, _ => none
  | _, _, ds, k => k s ds

def backAll (s : St) : List PM → List TV → List D → (St → Option ρ) → Option ρ
  | [], [], [], k => k s
  | m :: ms, v :: vs, ds, k => back s m v ds fun s ds => backAll s ms vs ds k
  | _, _, _, _ => none

/-- what a callee hands back -/
def takeD (s : St) (id : Nat) : (t : Ty) → t.den → (St → Nat → TV → Option ρ) → Option ρ
  | .slice t, x, k => newBox s id ⟨.slice t, true, false, .own (.slice t) x⟩ fun s => k s (id + 1) (.sl id [])
  | .cons t r, x, k => if (Ty.cons t r).flat then k s id (.dat (.cons t r) x) else takeD s id t x.1 fun s id a => takeD s id r x.2 fun s id d => k s id (.cons a d)
  | .unit, _, k => k s id .unit
  | t, x, k => if t.flat then k s id (.dat t x) else none

def takeAll (s : St) (id : Nat) : List D → (St → TV → Option ρ) → Option ρ
  | [], k => k s .unit
  | d :: ds, k => takeD s id d.t d.x fun s id a => takeAll s id ds fun s r => k s (.cons a r)

/-- a callee's results are put into the state -/
def resK (s : St) (dst : Option Nat) (rs : List D) (k : St → Option ρ) : Option ρ :=
  match dst with
  | none => k s
  | some d => takeAll s (d * 32 + 1) rs fun s v => match rs, v with
    | [_], .cons a .unit => k (s.put d a)
    | _, v => k (s.put d (.tup v))

def callK (E : Env) (s : St) (f : Nat) (vs : List TV) (dst : Option Nat) (k : St → Option ρ) : Option ρ :=
  match E.fn f (vs.map cloId) with
  | none => none
  | some c => passO s c.params vs fun s vs _ => passM s c.params vs fun s1 vs1 _ => lendAll s1 c.params vs1 fun ds => c.h ds fun rs ms => backAll s c.params vs ms fun s => resK s dst rs k

/-- what is appended: a moved list, or a copy of flat elements -/
def moreD (s : St) (t : Ty) (T2 : Ty) (v : TV) (k : St → List t.den → (TV → TV) → Option ρ) : Option ρ :=
  match T2 with
  | .str => match v with
    | .dat .str x => match castTo (.slice (.int .u8)) (.slice t) (List.map (fun c : UInt8 => (c.toNat : Int)) x) with
      | some xs => k s xs id
      | none => none
    | _ => none
  | .slice _ => if t.flat then sliceD s t v fun xs => k s xs id
    else absorb s (.slice t) v fun s c κ => match c.asOwn (.slice t) with
      | some xs => k s xs κ
      | none => none
  | _ => none

def appendK (s : St) (d : Nat) (t T2 : Ty) (x y : TV) (k : St → Option ρ) : Option ρ := if !t.nopq then none else
  moreD s t T2 y fun s ys κ => absorb s (.slice t) (κ x) fun s c _ => match c.asOwn (.slice t) with
    | some xs => match Nat.ble (List.length (α := t.den) xs + ys.length) bnd with
      | true => newSl s d t (List.append (α := t.den) xs ys) k
      | false => none
    | none => none

def putK (o : Oper) (s : St) (k : St → Option ρ) (v : TV) : Option ρ :=
  match o.dst with
  | some d => k (s.put d v)
  | none => k s

def builtinK (E : Env) (o : Oper) (s : St) (b : Builtin) (ts : List Nat) (vs : List TV) (k : St → Option ρ) : Option ρ :=
  match b, ts, vs with
  | .len, t :: _, [v] => match E.tyOf t with
    | some (.slice _) => lenD s v fun n => putK o s k (.dat (.int .i64) (n : Int))
    | some .str => match v with
      | .dat .str x => putK o s k (.dat (.int .i64) (List.length (α := UInt8) x : Int))
      | _ => none
    | _ => none
  | .append, [t, tx], [x, y] => match E.tyOf t, E.tyOf tx, o.dst with
    | some (.slice t), some T2, some d => appendK s d t T2 x y k
    | _, _, _ => none
  | .min, _, [x, y] => asInt x fun kd a => asInt y fun kd' b => if decide (kd = kd') then putK o s k (.dat (.int kd) (min (α := Int) a b)) else none
  | .max, _, [x, y] => asInt x fun kd a => asInt y fun kd' b => if decide (kd = kd') then putK o s k (.dat (.int kd) (max (α := Int) a b)) else none
  | _, _, _ => none

/-- the bounds of a slice expression -/
def boundsK (n : Nat) (lo hi : Option TV) (k : Nat → Nat → Option ρ) : Option ρ :=
  match hi with
  | none => match lo with
    | none => k 0 n
    | some v => asInt v fun _ l => idx (n + 1) l fun l => k l n
  | some v => asInt v fun _ h => idx (n + 1) h fun h => match lo with
    | none => k 0 h
    | some v => asInt v fun _ l => idx (h + 1) l fun l => k l h

def sliceK (s : St) (T : Ty) (x : TV) (lo hi : Option TV) (k : TV → Option ρ) : Option ρ :=
  match T with
  | .str => match x with
    | .dat .str x => boundsK (List.length (α := UInt8) x) lo hi fun l h => k (.dat .str ((List.take (α := UInt8) h x).drop l))
    | _ => none
  | .slice t => lenD s x fun n => boundsK n lo hi fun l h => match x with
    | .dat (.slice u) x => if decide (u = t) then k (.dat (.slice u) ((List.take (α := u.den) h x).drop l)) else none
    | .sl b p => withBox s b fun bx => if decide (tyAt bx.ty p = some (.slice t)) then (match lo.isNone && (Nat.beq l 0 && Nat.beq h n) with
        | true => k (.sl b p)
        | false => k (.slw b p l (h - l))) else none
    | .slw b p lo0 _ => withBox s b fun bx => if decide (tyAt bx.ty p = some (.slice t)) then k (.slw b p (lo0 + l) (h - l)) else none
    | .nil => k .nil
    | _ => none
  | _ => none

def tyK (E : Env) (t : Nat) (k : Ty → Option ρ) : Option ρ :=
  match E.tyOf t with
  | some T => k T
  | none => none

def opK (E : Env) (o : Oper) (s : St) (k : St → Option ρ) : Option ρ :=
  match o.op with
  | .move x | .assign x => putK o s k (s.ev x)
  | .pick c a b => match s.ev c with
    | .dat .bool t => match t with
      | true => putK o s k (s.ev a)
      | false => putK o s k (s.ev b)
    | _ => none
  | .alloc t => match o.dst with
    | some d => tyK E t fun T => if T.nopq then newVar s d T (.own T (zeroD T)) k else match T with
      | .opq => newVar s d T .un k
      | _ => none
    | none => none
  | .box t x => match o.dst with
    | some d => tyK E t fun T => absorb s T (s.ev x) fun s c _ => newVar s d T c k
    | none => none
  | .build t parts => tyK E t fun T => match T with
    | .cons a r => if (Ty.cons a r).nopq then buildP s (.cons a r) 0 (sortP parts.toList) fun v => if (Ty.cons a r).flat then readR s (.cons a r) v fun x => putK o s k (.dat (.cons a r) x) else putK o s k v else none
    | .arr n u => match parts.toList with
      | [] => putK o s k (.dat (.arr n u) (zeroD (.arr n u)))
      | _ => none
    | _ => none
  | .buildSlice t len parts => match o.dst with
    | some d => tyK E t fun T => match T with
      | .slice u => if Nat.beq parts.toList.length len && seqB 0 parts.toList && u.nopq && Nat.ble (len * u.size) 16777216 && (Nat.blt 0 u.size) then elemsK s u id (parts.toList.map fun x => s.ev x.2) fun s xs => newSl s d u xs k else none
      | _ => none
    | none => none
  | .load t a => tyK E t fun T => loadK s T (s.ev a) (putK o s k)
  | .store t a x => tyK E t fun T => storeK s T (s.ev a) (s.ev x) k
  | .nilCheck x => match s.ev x with
    | .ref b p => putK o s k (.ref b p)
    | .rop t y => putK o s k (.rop t y)
    | .clo f c => putK o s k (.clo f c)
    | _ => none
  | .binOp op t x y _ => binK op (E.tyOf t) (s.ev x) (s.ev y) (putK o s k)
  | .unOp op _ x => match op, s.ev x with
    | .not, .dat .bool b => putK o s k (.dat .bool (!(show Bool from b)))
    | .neg, .dat (.int kd) n => binInt .sub kd 0 n (putK o s k)
    | _, _ => none
  | .convert u t x => tyK E u fun U => tyK E t fun T => match U, T, s.ev x with
    | .int _, .int kd, .dat (.int _) n => putK o s k (.dat (.int kd) (kd.wrap n))
    | .slice (.int .u8), .str, v => sliceD s (.int .u8) v fun xs => putK o s k (.dat .str (List.map (fun n : Int => UInt8.ofNat n.toNat) xs))
    | _, _, _ => none
  | .makeSlice t n c => match o.dst with
    | some d => tyK E t fun T => match T with
      | .slice u => asInt (s.ev n) fun _ n => asInt (s.ev c) fun _ c => match n, c with
        | .ofNat n, .ofNat c => if Nat.beq n c && Nat.ble n bnd && u.nopq then newSl s d u (List.replicate n (zeroD u)) k else none
        | _, _ => none
      | _ => none
    | none => none
  | .slice xt x lo hi max => match max with
    | none => tyK E xt fun T => sliceK s T (s.ev x) (lo.map s.ev) (hi.map s.ev) (putK o s k)
    | some _ => none
  | .fieldAddr t x n => tyK E t fun T => match s.ev x with
    | .ref b p => withBox s b fun bx => if decide (tyAt bx.ty p = some T) then (match tyAt T [.f n] with
      | some _ => putK o s k (.ref b (p ++ [.f n]))
      | none => none) else none
    | .rop u y => if decide (u = T) then getT u y [.f n] fun u z => putK o s k (.rop u z) else none
    | _ => none
  | .field t x n => tyK E t fun T => match s.ev x with
    | .dat u y => if decide (u = T) then getT u y [.f n] fun u z => putK o s k (.dat u z) else none
    | _ => none
  | .indexAddr t x i => tyK E t fun T => indexAddrK s T (s.ev x) (s.ev i) (putK o s k)
  | .index t x i => tyK E t fun T => asInt (s.ev i) fun _ i => match T, s.ev x with
    | .str, .dat .str y => match geti (α := UInt8) y i with
      | some c => putK o s k (.dat (.int .u8) (c.toNat : Int))
      | none => none
    | .arr n t, .dat (.arr m u) y => if decide (Ty.arr m u = Ty.arr n t) then (match geti (α := u.den) y i with
      | some c => putK o s k (.dat u c)
      | none => none) else none
    | _, _ => none
  | .extract x n => match s.ev x with
    | .tup v => match nthF v n with
      | some v => putK o s k v
      | none => none
    | _ => none
  | .makeFunc fn first caps => match fn, first.toList with
    | .func f, [] => if caps.toList.all fun x => (s.ev x).isRef then putK o s k (.clo f (caps.toList.foldr (fun x r => .cons (s.ev x) r) .unit)) else none
    | _, _ => none
  | .call c => match c.callee with
    | .builtin b => builtinK E o s b c.argTypes.toList (c.args.toList.map s.ev) k
    | .value f => match s.ev f with
      | .clo f caps => match caps.capsO with
        | some l => callK E s f (c.args.toList.map s.ev ++ l) o.dst k
        | none => none
      | _ => none
    | _ => none
  | _ => none

def opD (E : Env) (o : Oper) (s : St) (k : St → Option ρ) : Option ρ :=
  match o.dst with
  | some d => match Nat.blt d E.nt with
    | true => match o.op with
      | .store _ _ _ => none
      | _ => opK E o s k
    | false => none
  | none => opK E o s k

def opsK (E : Env) (ops : Array Oper) (k : St → Option ρ) : List Oper → St → Option ρ
  | [], s => k s
  | o :: rest, s => match o.guard with
    | none => opD E o s (opsK E ops k rest)
    | some (j, want) => match (ops[j]?).bind (·.dst) with
      | none => none
      | some d => match s.get d with
        | .dat .bool b => match b with
          | true => if want then opD E o (s.put d (.dat .bool true)) (opsK E ops k rest) else opsK E ops k rest (match o.dst with | some e => (s.put d (.dat .bool true)).put e (.tup .unit) | none => s.put d (.dat .bool true))
          | false => if want then opsK E ops k rest (match o.dst with | some e => (s.put d (.dat .bool false)).put e (.tup .unit) | none => s.put d (.dat .bool false)) else opD E o (s.put d (.dat .bool false)) (opsK E ops k rest)
        | .tup .unit => opsK E ops k rest (match o.dst with | some e => s.put e (.tup .unit) | none => s)
        | _ => none

/-- the operations that o waits for -/
def aftOf (o : Oper) : List Nat := (o.after.toList.filter fun e => Region.binds .any e).map (·.on)
def tmpOf : Operand → Option Nat
  | .tmp t => some t
  | _ => none
/-- the temporaries that o looks at -/
def looksOf (ops : List Oper) (o : Oper) : List Nat :=
  o.op.operands.toList.filterMap tmpOf ++ (match o.guard with
  | some (j, _) => ((ops[j]?).bind (·.dst)).toList
  | none => [])
def isDst (t : Nat) (o : Oper) : Bool := match o.dst with
  | some d => Nat.beq d t
  | none => false
/-- all that comes ahead of each operation: a set of bits -/
def befGo : List Oper → List Nat → List Nat
  | [], acc => acc
  | o :: r, acc => befGo r (acc ++ [(aftOf o).foldr (fun j m => (2 ^ j ||| acc.getD j 0) ||| m) 0])
/-- x is the i-th operation of ops: is it ordered with all others? -/
def isBar (bs : List Nat) (i : Nat) : Bool :=
  (List.range bs.length).all fun j => Nat.beq j i || (if Nat.blt j i then (bs.getD i 0).testBit j else (bs.getD j 0).testBit i)
def drawOne (ops : List Oper) (i : Nat) (o : Oper) : Bool :=
  ((aftOf o).all fun j => Nat.blt j i) && (match o.guard with
    | some (j, _) => mem (aftOf o) j
    | none => true) &&
  ((looksOf ops o).all fun t => ops.zipIdx.all fun x => !isDst t x.1 || mem (aftOf o) x.2) &&
  (match o.dst with
    | some d => ops.zipIdx.all fun x => !isDst d x.1 || Nat.beq x.2 i
    | none => true)
def drawOk (ops : List Oper) : Bool := ops.zipIdx.all fun x => drawOne ops x.2 x.1
def bars (ops : List Oper) : List Bool := (List.range ops.length).map (isBar (befGo ops []))

/-- it only puts a value -/
def pureOp : Op → Bool
  | .move _ | .assign _ | .pick _ _ _ | .load _ _ | .nilCheck _ | .binOp _ _ _ _ _ | .unOp _ _ _ | .convert _ _ _ | .slice _ _ _ _ _
  | .fieldAddr _ _ _ | .field _ _ _ | .indexAddr _ _ _ | .index _ _ _ | .extract _ _ | .build _ _ | .alloc _ | .makeSlice _ _ _ => true
  | .call c => match c.callee with
    | .builtin .len => true
    | _ => false
  | _ => false

def PM.soft : PM → Bool
  | .ro _ | .rop _ => true
  | _ => false

def softD (E : Env) (bar : Bool) (o : Oper) (s : St) (k : St → Option ρ) : Option ρ :=
  if bar || pureOp o.op then opD E o s k else
  match o.op with
  | .call c => match c.callee with
    | .value g => match s.ev g with
      | .clo f .unit => match E.fn f ((c.args.toList.map s.ev).map cloId) with
        | some c' => if c'.params.all PM.soft then opD E o s k else none
        | none => none
      | _ => none
    | _ => none
  | _ => none

/-- a region that draws its order, in the text's order -/
def drawK (E : Env) (ops : List Oper) (k : St → Option ρ) : List (Oper × Bool) → St → Option ρ
  | [], s => k s
  | (o, bar) :: rest, s => match o.guard with
    | none => softD E bar o s (drawK E ops k rest)
    | some (j, want) => match (ops[j]?).bind (·.dst) with
      | none => none
      | some d => match s.get d with
        | .dat .bool b => match b with
          | true => if want then softD E bar o s (drawK E ops k rest) else drawK E ops k rest (match o.dst with | some e => s.put e (.tup .unit) | none => s)
          | false => if want then drawK E ops k rest (match o.dst with | some e => s.put e (.tup .unit) | none => s) else softD E bar o s (drawK E ops k rest)
        | .tup .unit => drawK E ops k rest (match o.dst with | some e => s.put e (.tup .unit) | none => s)
        | _ => none

/-- a temporary that is known by now, put in its place -/
def St.ref (s : St) (d : Nat) (b : Bool) : St := { s with tmps := upd s.tmps d (.dat .bool b) }

/-- the same, with each guard's answer put in its place -/
def drawR (E : Env) (ops : List Oper) (k : St → Option ρ) : List (Oper × Bool) → St → Option ρ
  | [], s => k s
  | (o, bar) :: rest, s => match o.guard with
    | none => softD E bar o s (drawR E ops k rest)
    | some (j, want) => match (ops[j]?).bind (·.dst) with
      | none => none
      | some d => match s.get d with
        | .dat .bool b => match b with
          | true => if want then softD E bar o (s.ref d true) (drawR E ops k rest) else drawR E ops k rest (match o.dst with | some e => (s.ref d true).put e (.tup .unit) | none => s.ref d true)
          | false => if want then drawR E ops k rest (match o.dst with | some e => (s.ref d false).put e (.tup .unit) | none => s.ref d false) else softD E bar o (s.ref d false) (drawR E ops k rest)
        | .tup .unit => drawR E ops k rest (match o.dst with | some e => s.put e (.tup .unit) | none => s)
        | _ => none

theorem upd_self {α : Type} {l : List (Nat × α)} {n : Nat} {v : α} (h : lk l n = some v) : upd l n v = l := by
  induction l with
  | nil => rfl
  | cons x l ih =>
    obtain ⟨k, y⟩ := x
    unfold lk at h
    unfold upd
    split
    · rename_i e
      rw [e] at h
      simp only [if_true, Option.some.injEq] at h
      rw [h]
    · rename_i e
      simp only [e] at h
      rw [ih h]

theorem ref_self {s : St} {d : Nat} {b : Bool} (h : s.get d = .dat .bool b) : s.ref d b = s := by
  unfold St.get at h
  cases hl : lk s.tmps d with
  | none => rw [hl] at h; cases h
  | some v =>
    rw [hl] at h
    simp only [Option.getD_some] at h
    subst h
    unfold St.ref
    rw [upd_self hl]

theorem drawR_eq (E : Env) (ops : List Oper) (k : St → Option ρ) : ∀ (rest : List (Oper × Bool)), drawR E ops k rest = drawK E ops k rest := by
  intro rest
  induction rest with
  | nil => rfl
  | cons x rest ih =>
    obtain ⟨o, bar⟩ := x
    funext s
    unfold drawR drawK
    rw [ih]
    cases o.guard with
    | none => rfl
    | some g =>
      obtain ⟨j, want⟩ := g
      simp only
      cases (ops[j]?).bind (·.dst) with
      | none => rfl
      | some d =>
        simp only
        cases hg : s.get d with
        | dat t b =>
          cases t with
          | bool =>
            cases b
            all_goals
              simp only
              rw [ref_self hg]
          | _ => rfl
        | tup c => cases c <;> rfl
        | _ => rfl

def regionK (E : Env) (ops : Array Oper) (dr : Bool) (k : St → Option ρ) (s : St) : Option ρ :=
  match dr with
  | false => opsK E ops k ops.toList s
  | true => match drawOk ops.toList with
    | false => none
    | true => drawR E ops.toList k (ops.toList.zip (bars ops.toList)) s

def firstRegion : Code → Nat
  | .region id _ _ => id
  | .seq a _ => firstRegion a
  | .block _ c => firstRegion c
  | .loop c => firstRegion c
  | _ => 0

def St.keepOnly (s : St) (ts bs : List Nat) : St :=
  { tmps := ts.map fun n => (n, (s.get n).within (mem bs)), boxes := bs.filterMap fun n => (s.box n).map fun b => (n, b.within (mem bs)) }

/-- slices are made their temporary's own -/
def reown (s : St) : List (Nat × Ty) → (St → Option ρ) → Option ρ
  | [], k => k s
  | (t, T) :: l, k => if T.fineB then absorb s (.slice T) (s.get t) fun s c _ => match c.asOwn (.slice T) with
      | some x => newBox (s.drop (t * 32 + 1)) (t * 32 + 1) ⟨.slice T, true, false, .own (.slice T) x⟩ fun s => reown (s.put t (.sl (t * 32 + 1) [])) l k
      | none => none
    else none

/-- variables are laid together -/
def normB (s : St) : List Nat → (St → Option ρ) → Option ρ
  | [], k => k s
  | b :: l, k => withBox s b fun x => if x.virt then none else match x.c.asOwn x.ty with
    | some y => normB ((s.setBox b { x with c := .own x.ty y }).kill b []) l k
    | none => none

def keepK (E : Env) (id : Nat) (s : St) (k : St → Option ρ) : Option ρ :=
  match lk E.keep id with
  | none => k s
  | some K => reown s K.own fun s => normB s K.norm fun s => k (s.keepOnly K.ts K.bs)

def exitK (E : Env) (id : Nat) (k : Ex → St → Option ρ) : Ex → St → Option ρ := fun e s => keepK E (id + 1000000) s (k e)

def loopK (f : (Ex → St → Option ρ) → St → Option ρ) (kp : St → (St → Option ρ) → Option ρ) (k : Ex → St → Option ρ) : Nat → St → Option ρ
  | 0, _ => none
  | n + 1, s => f (fun e s' => match e with
    | .normal => kp s' (loopK f kp k n)
    | e => k e s') s

def exec (E : Env) (n : Nat) : Code → (Ex → St → Option ρ) → St → Option ρ
  | .skip, k, s => k .normal s
  | .region _ ops dr, k, s => regionK E ops dr (k .normal) s
  | .seq a b, k, s => exec E n a (fun e s' => match e with
    | .normal => keepK E (firstRegion b + 2000000) s' (exec E n b k)
    | e => k e s') s
  | .cond c a b, k, s => match s.ev c with
    | .dat .bool t => match t with
      | true => exec E n a k (match c with | .tmp d => s.put d (.dat .bool true) | _ => s)
      | false => exec E n b k (match c with | .tmp d => s.put d (.dat .bool false) | _ => s)
    | _ => none
  | .block id c, k, s => exec E n c (fun e s' => match e with
    | .exit j => if Nat.beq j id then k .normal s' else k (.exit j) s'
    | e => k e s') s
  | .loop c, k, s => keepK E (firstRegion c) s (loopK (exec E n c) (keepK E (firstRegion c)) (exitK E (firstRegion c) k) n)
  | .exit id, k, s => k (.exit id) s
  | .ret, k, s => k .ret s
  | _, _, _ => none
end
end Go.TM
/-! ## TmE -/
namespace Go.TM
set_option autoImplicit false
section
variable {ρ : Type}

/-- what a function finds in a parameter that it only reads -/
def initRs : List PM → List D → (List TV → List D → Option ρ) → Option ρ
  | [], ds, k => k [] ds
  | m :: ms, d :: ds, k => match m with
    | .ro t => match castTo d.t t d.x with
      | some x => initRs ms ds fun vs ds => k (.dat t x :: vs) ds
      | none => none
    | .rop t => match castTo d.t t d.x with
      | some x => initRs ms ds fun vs ds => k (.rop t x :: vs) ds
      | none => none
    | _ => none
  | _, _, _ => none

/-- what a function finds in its parameters -/
def initP (i : Nat) : PM → List D → (TV → List (Nat × Box) → List D → Option ρ) → Option ρ
  | .ro t, d :: ds, k => match castTo d.t t d.x with
    | some x => k (.dat t x) [] ds
    | none => none
  | .rop t, d :: ds, k => match castTo d.t t d.x with
    | some x => k (.rop t x) [] ds
    | none => none
  | .ptr t, d :: ds, k => match castTo d.t t d.x with
    | some x => k (.ref i []) [(i, ⟨t, false, false, .own t x⟩)] ds
    | none => none
  | .mut (.slice t), d :: ds, k => match castTo d.t (.slice t) d.x with
    | some x => k (.sl i []) [(i, ⟨.slice t, true, true, .own (.slice t) x⟩)] ds
    | none => none
  | .own (.slice t), d :: ds, k => match castTo d.t (.slice t) d.x with
    | some x => k (.sl i []) [(i, ⟨.slice t, true, false, .own (.slice t) x⟩)] ds
    | none => none
  | .clo f ms, ds, k => initRs ms ds fun vs ds => k (.clo f (vs.foldr TV.cons .unit)) [] ds
  | _, _, _ => none

def initAll (i : Nat) : List PM → List D → (List (Nat × TV) → List (Nat × Box) → Option ρ) → Option ρ
  | [], [], k => k [] []
  | m :: ms, ds, k => initP (i * 32) m ds fun v b ds => initAll (i + 1) ms ds fun ts bs => k ((i, v) :: ts) (b ++ bs)
  | _, _, _ => none

def endR (s : St) (kl : TV → TV) : List (Ty × TV) → (St → List D → Option ρ) → Option ρ
  | [], k => k s []
  | (t, v) :: r, k => if t.flat then readR s t (kl v) fun x => endR s kl r fun s ds => k s (⟨t, x⟩ :: ds)
    else absorb s t (kl v) fun s c κ => match c.asOwn t with
      | some x => endR s (fun e => κ (kl e)) r fun s ds => k s (⟨t, x⟩ :: ds)
      | none => none

def endM (s : St) (i : Nat) : List PM → (List D → Option ρ) → Option ρ
  | [], k => k []
  | .ptr t :: ms, k => withBox s (i * 32) fun b => if b.virt || !decide (b.ty = t) then none else match b.c.asOwn t with
    | some x => endM s (i + 1) ms fun ds => k (⟨t, x⟩ :: ds)
    | none => none
  | .mut t :: ms, k => withBox s (i * 32) fun b => if !b.virt || !b.fix || !decide (b.ty = t) then none else match b.c with
    | .own u x => endM s (i + 1) ms fun ds => k (⟨u, x⟩ :: ds)
    | _ => none
  | _ :: ms, k => endM s (i + 1) ms k

end
end Go.TM
/-! ## TmF -/
namespace Go.TM
set_option autoImplicit false

theorem castTo_eq {a b : Ty} {x : a.den} {y : b.den} (h : castTo a b x = some y) : ∃ e : a = b, e ▸ x = y := by
  unfold castTo at h
  split at h
  · rename_i e _; exact ⟨e, by simpa using h⟩
  · cases h

theorem castTo_self {a : Ty} (x : a.den) : castTo a a x = some x := by
  unfold castTo
  split
  · rfl
  · rename_i h _; exact absurd rfl h

/-- where a path leads: the type, the tree of blocks and the address -/
def addr : Ty → FT → Option (Nat × Nat) → Path → Option (Ty × FT × Option (Nat × Nat))
  | t, ft, a, [] => some (t, ft, a)
  | .cons t _, ft, a, .f 0 :: p => addr t ft.fst a p
  | .cons t r, ft, a, .f (n + 1) :: p => addr r ft.snd (a.map fun x => (x.1, x.2 + t.size)) (.f n :: p)
  | .slice t, .node (some b) _ ks, _, .i n :: p => match ks[n]? with
    | some k => addr t k (some (b, n * t.size)) p
    | none => none
  | .arr m t, _, a, [.i n] => if t.agg || Nat.ble m n then none else some (t, .leaf, a.map fun x => (x.1, x.2 + n * t.size))
  | _, _, _, _ => none

def setF : Ty → FT → Path → FT → FT
  | _, _, [], f => f
  | .cons t _, ft, .f 0 :: p, f => .pair (setF t ft.fst p f) ft.snd
  | .cons _ r, ft, .f (n + 1) :: p, f => .pair ft.fst (setF r ft.snd (.f n :: p) f)
  | .slice t, .node (some b) cap ks, .i n :: p, f => match ks[n]? with
    | some k => .node (some b) cap (ks.set n (setF t k p f))
    | none => .node (some b) cap ks
  | _, ft, _, _ => ft

theorem blocksL_mem {b : Nat} {k : FT} {ks : List FT} (hm : k ∈ ks) (hb : b ∈ k.blocks) : b ∈ FT.blocksL ks := by
  induction ks with
  | nil => cases hm
  | cons k' ks ih =>
    simp only [FT.blocksL, List.mem_append]
    rcases List.mem_cons.1 hm with rfl | hm
    · exact .inl hb
    · exact .inr (ih hm)

theorem mem_blocksL {b : Nat} {ks : List FT} (h : b ∈ FT.blocksL ks) : ∃ k ∈ ks, b ∈ k.blocks := by
  induction ks with
  | nil => simp [FT.blocksL] at h
  | cons k' ks ih =>
    simp only [FT.blocksL, List.mem_append] at h
    rcases h with h | h
    · exact ⟨k', by simp, h⟩
    · obtain ⟨k, hk, hb⟩ := ih h; exact ⟨k, by simp [hk], hb⟩

theorem fst_sub {ft : FT} {b : Nat} (h : b ∈ ft.fst.blocks) : b ∈ ft.blocks := by
  cases ft <;> simp_all [FT.fst, FT.blocks]
theorem snd_sub {ft : FT} {b : Nat} (h : b ∈ ft.snd.blocks) : b ∈ ft.blocks := by
  cases ft <;> simp_all [FT.snd, FT.blocks]

/-- the tree at a path is a part; the address is in it, or in the base's block -/
theorem addr_sub : ∀ (t : Ty) (ft : FT) (a : Option (Nat × Nat)) (p : Path) {u : Ty} {ft' : FT} {a' : Option (Nat × Nat)}, addr t ft a p = some (u, ft', a') →
    (∀ b ∈ ft'.blocks, b ∈ ft.blocks) ∧ ((∃ b o, a' = some (b, o) ∧ b ∈ ft.blocks ∧ Path.deref p = true) ∨
      (∃ d, a' = a.map (fun x => (x.1, x.2 + d)) ∧ d + u.size ≤ t.size)) := by
  intro t
  induction t with
  | cons t r iht ihr =>
    intro ft a p u ft' a' h
    match p, h with
    | [], h => simp only [addr, Option.some.injEq, Prod.mk.injEq] at h; obtain ⟨rfl, rfl, rfl⟩ := h; exact ⟨fun _ h => h, .inr ⟨0, by simp, by simp⟩⟩
    | .f 0 :: p, h =>
      simp only [addr] at h
      obtain ⟨h1, h2⟩ := iht _ _ _ h
      refine ⟨fun b hb => fst_sub (h1 b hb), ?_⟩
      rcases h2 with ⟨b, o, e, hb, hd⟩ | ⟨d, e, hd⟩
      · exact .inl ⟨b, o, e, fst_sub hb, by simpa [Path.deref] using hd⟩
      · exact .inr ⟨d, e, by simp only [Ty.size]; omega⟩
    | .f (n + 1) :: p, h =>
      simp only [addr] at h
      obtain ⟨h1, h2⟩ := ihr _ _ _ h
      refine ⟨fun b hb => snd_sub (h1 b hb), ?_⟩
      rcases h2 with ⟨b, o, e, hb, hd⟩ | ⟨d, e, hd⟩
      · exact .inl ⟨b, o, e, snd_sub hb, by simpa [Path.deref] using hd⟩
      · refine .inr ⟨t.size + d, ?_, by simp only [Ty.size]; omega⟩
        rw [e]; cases a <;> simp; omega
    | .i n :: p, h => simp [addr] at h
  | slice t iht =>
    intro ft a p u ft' a' h
    match p, h with
    | [], h => simp only [addr, Option.some.injEq, Prod.mk.injEq] at h; obtain ⟨rfl, rfl, rfl⟩ := h; exact ⟨fun _ h => h, .inr ⟨0, by simp, by simp⟩⟩
    | .f n :: p, h => simp [addr] at h
    | .i n :: p, h =>
      match ft, h with
      | .node (some b) cap ks, h =>
        simp only [addr] at h
        split at h
        · rename_i k hk
          obtain ⟨h1, h2⟩ := iht _ _ _ h
          have hm := List.mem_of_getElem? hk
          refine ⟨fun b' hb => by simp only [FT.blocks, List.mem_append]; exact .inr (blocksL_mem hm (h1 b' hb)), .inl ?_⟩
          rcases h2 with ⟨b', o, e, hb, _⟩ | ⟨d, e, _⟩
          · exact ⟨b', o, e, by simp only [FT.blocks, List.mem_append]; exact .inr (blocksL_mem hm hb), rfl⟩
          · exact ⟨b, _, by rw [e]; rfl, by simp [FT.blocks], rfl⟩
        · cases h
      | .leaf, h => simp [addr] at h
      | .pair _ _, h => simp [addr] at h
      | .node none _ _, h => simp [addr] at h
  | arr m t _ =>
    intro ft a p u ft' a' h
    match p, h with
    | [], h => simp only [addr, Option.some.injEq, Prod.mk.injEq] at h; obtain ⟨rfl, rfl, rfl⟩ := h; exact ⟨fun _ h => h, .inr ⟨0, by simp, by simp⟩⟩
    | [.i n], h =>
      simp only [addr] at h
      split at h
      · cases h
      · rename_i hc
        simp only [Option.some.injEq, Prod.mk.injEq] at h
        obtain ⟨rfl, rfl, rfl⟩ := h
        refine ⟨fun b hb => by simp [FT.blocks] at hb, .inr ⟨n * t.size, rfl, ?_⟩⟩
        simp only [Bool.or_eq_true, Nat.ble_eq, not_or, Nat.not_le] at hc
        simp only [Ty.size]
        have := Nat.mul_le_mul_right t.size (Nat.succ_le_of_lt hc.2)
        rw [Nat.succ_mul] at this; exact this
    | .f n :: p, h => simp [addr] at h
    | .i n :: q :: p, h => simp [addr] at h
  | _ =>
    intro ft a p u ft' a' h
    cases p with
    | nil => simp only [addr, Option.some.injEq, Prod.mk.injEq] at h; obtain ⟨rfl, rfl, rfl⟩ := h; exact ⟨fun _ h => h, .inr ⟨0, by simp, by simp⟩⟩
    | cons q p => simp [addr] at h

theorem At.sub {w : World} {b o n : Nat} {cs : List Value} (h : At w b o n cs) (i m : Nat) (hi : i + m ≤ n) : At w b (o + i) m ((cs.drop i).take m) := by
  obtain ⟨row, e, fz, h1, h2, rfl⟩ := h
  refine ⟨row, e, fz, h1, by omega, ?_⟩
  rw [List.drop_take, List.take_take, List.drop_drop]
  congr 1; omega

theorem At.join {w : World} {b o n m : Nat} {c d : List Value} (h : At w b o n c) (h' : At w b (o + n) m d) : At w b o (n + m) (c ++ d) := by
  obtain ⟨row, e, fz, h1, h2, rfl⟩ := h
  obtain ⟨row', e', fz', h1', h2', rfl⟩ := h'
  rw [h1] at h1'
  simp only [Option.some.injEq, Obj.cells.injEq] at h1'
  obtain ⟨rfl, _, _⟩ := h1'
  refine ⟨row, e, fz, h1, by omega, ?_⟩
  rw [← List.drop_drop, List.take_add]

/-- cells of a part of a row -/
theorem At.fst {w : World} {b o n m : Nat} {c d : List Value} (h : At w b o (n + m) (c ++ d)) (hc : c.length = n) : At w b o n c := by
  have := h.sub 0 n (by omega)
  rw [Nat.add_zero, List.drop_zero, List.take_left' hc] at this
  exact this
theorem At.snd {w : World} {b o n m : Nat} {c d : List Value} (h : At w b o (n + m) (c ++ d)) (hc : c.length = n) : At w b (o + n) m d := by
  have hd : d.length = m := by have := h.len; simp at this; omega
  have := h.sub n m (by omega)
  rw [List.drop_left' hc, List.take_of_length_le (by omega)] at this
  exact this

end Go.TM
/-! ## TmG -/
namespace Go.TM
set_option autoImplicit false

theorem fcells_arr (n : Nat) (t : Ty) (l : List t.den) : fcells (.arr n t) l = (l.map (fcells t)).flatten := rfl

theorem flatten_at {t : Ty} (hf : t.flat = true) : ∀ (l : List t.den) (_ : ∀ x ∈ l, fok t x) (i : Nat) (x : t.den), l[i]? = some x →
    (((l.map (fcells t)).flatten.drop (i * t.size)).take t.size) = fcells t x := by
  intro l
  induction l with
  | nil => intro _ i x h; simp at h
  | cons a l ih =>
    intro hok i x h
    have hl : (fcells t a).length = t.size := fcells_len t a hf (hok a (by simp))
    cases i with
    | zero =>
      simp only [List.getElem?_cons_zero, Option.some.injEq] at h
      subst h
      simp only [Nat.zero_mul, List.drop_zero, List.map_cons, List.flatten_cons]
      exact List.take_left' hl
    | succ i =>
      simp only [List.getElem?_cons_succ] at h
      simp only [List.map_cons, List.flatten_cons]
      rw [← ih (fun x hx => hok x (by simp [hx])) i x h, Nat.succ_mul, Nat.add_comm, ← List.drop_drop, List.drop_left' hl]

theorem Own.flat {w : World} {t : Ty} {x : t.den} {ft : FT} {cs : List Value} (hf : t.flat = true) (ha : t.agg = false) (h : Own w t x ft cs) :
    fok t x ∧ ft.blocks = [] ∧ cs = fcells t x := by
  cases t <;> first | exact ⟨h.2.1, h.2.2.1, h.2.2.2⟩ | (exfalso; simp [Ty.agg] at ha; done) | (exfalso; simp [Ty.flat] at hf; done)

theorem fst_nil {ft : FT} (h : ft.blocks = []) : ft.fst.blocks = [] := by
  cases ft <;> simp_all [FT.fst, FT.blocks]
theorem snd_nil {ft : FT} (h : ft.blocks = []) : ft.snd.blocks = [] := by
  cases ft <;> simp_all [FT.snd, FT.blocks]

theorem Own.of_flat {w : World} : ∀ {t : Ty} {x : t.den} {ft : FT}, t.flat = true → fok t x → ft.blocks = [] → Own w t x ft (fcells t x)
  | .int _, _, _, hf, hk, hb => ⟨hf, hk, hb, rfl⟩
  | .bool, _, _, hf, hk, hb => ⟨hf, hk, hb, rfl⟩
  | .str, _, _, hf, hk, hb => ⟨hf, hk, hb, rfl⟩
  | .unit, _, _, hf, hk, hb => ⟨hf, hk, hb, rfl⟩
  | .arr _ _, _, _, hf, hk, hb => ⟨hf, hk, hb, rfl⟩
  | .opq, _, _, hf, _, _ => by simp [Ty.flat] at hf
  | .slice _, _, _, hf, _, _ => by simp [Ty.flat] at hf
  | .cons t r, x, ft, hf, hk, hb => by
    simp only [Ty.flat, Bool.and_eq_true] at hf
    exact ⟨by rw [hb, fst_nil hb, snd_nil hb]; rfl, fcells t x.1, fcells r x.2, rfl, Own.of_flat hf.1 hk.1 (fst_nil hb), Own.of_flat hf.2 hk.2 (snd_nil hb)⟩

theorem Rd.flat {w : World} {R : Nat → Prop} : ∀ {t : Ty} {x : t.den} {cs : List Value}, t.flat = true → Rd w R t x cs → fok t x ∧ cs = fcells t x
  | .int _, _, _, _, h => ⟨h.2.1, h.2.2⟩
  | .bool, _, _, _, h => ⟨h.2.1, h.2.2⟩
  | .str, _, _, _, h => ⟨h.2.1, h.2.2⟩
  | .unit, _, _, _, h => ⟨h.2.1, h.2.2⟩
  | .arr _ _, _, _, _, h => ⟨h.2.1, h.2.2⟩
  | .opq, _, _, hf, _ => by simp [Ty.flat] at hf
  | .slice _, _, _, hf, _ => by simp [Ty.flat] at hf
  | .cons t r, x, cs, hf, h => by
    simp only [Ty.flat, Bool.and_eq_true] at hf
    obtain ⟨c1, c2, rfl, h1, h2⟩ := h
    obtain ⟨a1, rfl⟩ := Rd.flat hf.1 h1
    obtain ⟨a2, rfl⟩ := Rd.flat hf.2 h2
    exact ⟨⟨a1, a2⟩, rfl⟩

theorem Own.flatc {w : World} : ∀ {t : Ty} {x : t.den} {ft : FT} {cs : List Value}, t.flat = true → Own w t x ft cs → fok t x ∧ cs = fcells t x ∧ ft.blocks = []
  | .int _, _, _, _, _, h => ⟨h.2.1, h.2.2.2, h.2.2.1⟩
  | .bool, _, _, _, _, h => ⟨h.2.1, h.2.2.2, h.2.2.1⟩
  | .str, _, _, _, _, h => ⟨h.2.1, h.2.2.2, h.2.2.1⟩
  | .unit, _, _, _, _, h => ⟨h.2.1, h.2.2.2, h.2.2.1⟩
  | .arr _ _, _, _, _, _, h => ⟨h.2.1, h.2.2.2, h.2.2.1⟩
  | .opq, _, _, _, hf, _ => by simp [Ty.flat] at hf
  | .slice _, _, _, _, hf, _ => by simp [Ty.flat] at hf
  | .cons t r, x, ft, cs, hf, h => by
    simp only [Ty.flat, Bool.and_eq_true] at hf
    obtain ⟨h0, c1, c2, rfl, h1, h2⟩ := h
    obtain ⟨a1, rfl, b1⟩ := Own.flatc hf.1 h1
    obtain ⟨a2, rfl, b2⟩ := Own.flatc hf.2 h2
    exact ⟨⟨a1, a2⟩, rfl, by rw [h0, b1, b2]; rfl⟩

section
variable {ρ : Type} {w : World}

/-- the typed lens reads what lies at its address -/
theorem Own.get : ∀ (t : Ty) (x : t.den) (ft : FT) (cs : List Value) (a : Option (Nat × Nat)) (p : Path) (k : (u : Ty) → u.den → Option ρ) (r : ρ),
    Own w t x ft cs → (∀ b o, a = some (b, o) → At w b o t.size cs) → getT t x p k = some r →
    ∃ (u : Ty) (y : u.den) (ft' : FT) (a' : Option (Nat × Nat)) (cs' : List Value), k u y = some r ∧ addr t ft a p = some (u, ft', a') ∧ Own w u y ft' cs' ∧
      (∀ b o, a' = some (b, o) → At w b o u.size cs') := by
  intro t
  induction t with
  | cons t r iht ihr =>
    intro x ft cs a p k res h hb hg
    match p, hg with
    | [], hg => exact ⟨_, x, ft, a, cs, by simpa [getT] using hg, rfl, h, hb⟩
    | .f 0 :: p, hg =>
      simp only [getT] at hg
      obtain ⟨h0, c1, c2, rfl, h1, h2⟩ := h
      exact iht x.1 ft.fst c1 a p k res h1 (fun b o e => (hb b o e).fst (Own.len t x.1 _ c1 h1)) hg
    | .f (n + 1) :: p, hg =>
      simp only [getT] at hg
      obtain ⟨h0, c1, c2, rfl, h1, h2⟩ := h
      refine ihr x.2 ft.snd c2 (a.map fun x => (x.1, x.2 + t.size)) (.f n :: p) k res h2 (fun b o e => ?_) hg
      cases a with
      | none => cases e
      | some a => simp only [Option.map_some, Option.some.injEq, Prod.mk.injEq] at e; obtain ⟨rfl, rfl⟩ := e; exact (hb _ _ rfl).snd (Own.len t x.1 _ c1 h1)
    | .i n :: p, hg => simp [getT] at hg
  | slice t iht =>
    intro x ft cs a p k res h hb hg
    match p, hg with
    | [], hg => exact ⟨_, x, ft, a, cs, by simpa [getT] using hg, rfl, h, hb⟩
    | .f n :: p, hg => simp [getT] at hg
    | .i n :: p, hg =>
      simp only [getT] at hg
      split at hg
      · rename_i xn hx
        unfold geN at hx
        obtain ⟨b, cap, ks, rfl, rfl, h1, h2, h3, h4⟩ := h
        have hn : n < List.length (α := t.den) x := (List.getElem?_eq_some_iff.1 hx).1
        cases b with
        | none => subst h4; omega
        | some b =>
          have hk : ks[n]? = some (ks[n]'(by omega)) := List.getElem?_eq_getElem _
          obtain ⟨c, hc, ho⟩ := h4.2 n xn _ hx hk
          obtain ⟨u, y, ft', a', cs', e1, e2, e3, e4⟩ := iht xn _ c (some (b, n * t.size)) p k res ho (fun b' o' e => by simp only [Option.some.injEq, Prod.mk.injEq] at e; obtain ⟨rfl, rfl⟩ := e; exact hc) hg
          exact ⟨u, y, ft', a', cs', e1, by simp only [addr, hk]; exact e2, e3, e4⟩
      · cases hg
  | arr m t _ =>
    intro x ft cs a p k res h hb hg
    match p, hg with
    | [], hg => exact ⟨_, x, ft, a, cs, by simpa [getT] using hg, rfl, h, hb⟩
    | .f n :: p, hg => simp [getT] at hg
    | .i n :: p, hg =>
      simp only [getT] at hg
      split at hg
      · cases hg
      · rename_i hag
        split at hg
        · rename_i xn hx
          unfold geN at hx
          obtain ⟨hf, ⟨hl, hok⟩, hbl, rfl⟩ := h
          have hf : t.flat = true := hf
          have hn : n < List.length (α := t.den) x := (List.getElem?_eq_some_iff.1 hx).1
          have hag' : t.agg = false := by simpa using hag
          have hxk : fok t xn := hok xn (List.mem_of_getElem? hx)
          match p, hg with
          | [], hg =>
            refine ⟨t, xn, .leaf, a.map fun x => (x.1, x.2 + n * t.size), fcells t xn, by simpa [getT] using hg, ?_, Own.of_flat hf hxk rfl, ?_⟩
            · simp only [addr, hag', Bool.false_or]
              rw [if_neg (by simp; omega)]
            · intro b o e
              cases a with
              | none => cases e
              | some a =>
                simp only [Option.map_some, Option.some.injEq, Prod.mk.injEq] at e
                obtain ⟨rfl, rfl⟩ := e
                have := (hb _ _ rfl).sub (n * t.size) t.size (by
                  simp only [Ty.size]; rw [← hl]
                  have := Nat.mul_le_mul_right t.size (Nat.succ_le_of_lt hn)
                  rw [Nat.succ_mul] at this; exact this)
                rw [show fcells (.arr m t) x = ((show List t.den from x).map (fcells t)).flatten from rfl, flatten_at hf (show List t.den from x) hok n xn hx] at this
                exact this
          | q :: p, hg => cases t <;> first | (exfalso; simp [getT] at hg; done) | (exfalso; simp [Ty.agg] at hag'; done) | (exfalso; simp [Ty.flat] at hf; done)
        · cases hg
  | _ =>
    intro x ft cs a p k res h hb hg
    cases p with
    | nil => exact ⟨_, x, ft, a, cs, by simpa [getT] using hg, rfl, h, hb⟩
    | cons q p => simp [getT] at hg

/-- reading in what is only read -/
theorem Rd.get {R : Nat → Prop} : ∀ (t : Ty) (x : t.den) (cs : List Value) (a : Option (Nat × Nat)) (p : Path) (k : (u : Ty) → u.den → Option ρ) (r : ρ),
    Rd w R t x cs → (∀ b o, a = some (b, o) → At w b o t.size cs) → getT t x p k = some r → Path.deref p = false →
    ∃ (u : Ty) (y : u.den) (a' : Option (Nat × Nat)) (cs' : List Value), k u y = some r ∧ (∀ ft : FT, ft.blocks = [] → ∃ ft', ft'.blocks = [] ∧ addr t ft a p = some (u, ft', a')) ∧ Rd w R u y cs' ∧
      (∀ b o, a' = some (b, o) → At w b o u.size cs') := by
  intro t
  induction t with
  | cons t r iht ihr =>
    intro x cs a p k res h hb hg hd
    match p, hg with
    | [], hg => exact ⟨_, x, a, cs, by simpa [getT] using hg, fun ft hf => ⟨ft, hf, rfl⟩, h, hb⟩
    | .f 0 :: p, hg =>
      simp only [getT] at hg
      obtain ⟨c1, c2, rfl, h1, h2⟩ := h
      obtain ⟨u, y, a', cs', e1, e2, e3, e4⟩ := iht x.1 c1 a p k res h1 (fun b o e => (hb b o e).fst (Rd.len t x.1 c1 h1)) hg (by simpa [Path.deref] using hd)
      exact ⟨u, y, a', cs', e1, fun ft hf => e2 ft.fst (fst_nil hf), e3, e4⟩
    | .f (n + 1) :: p, hg =>
      simp only [getT] at hg
      obtain ⟨c1, c2, rfl, h1, h2⟩ := h
      obtain ⟨u, y, a', cs', e1, e2, e3, e4⟩ := ihr x.2 c2 (a.map fun x => (x.1, x.2 + t.size)) (.f n :: p) k res h2 (fun b o e => by
        cases a with
        | none => cases e
        | some a => simp only [Option.map_some, Option.some.injEq, Prod.mk.injEq] at e; obtain ⟨rfl, rfl⟩ := e; exact (hb _ _ rfl).snd (Rd.len t x.1 c1 h1)) hg (by simpa [Path.deref] using hd)
      exact ⟨u, y, a', cs', e1, fun ft hf => e2 ft.snd (snd_nil hf), e3, e4⟩
    | .i n :: p, hg => simp [getT] at hg
  | _ =>
    intro x cs a p k res h hb hg hd
    cases p with
    | nil => exact ⟨_, x, a, cs, by simpa [getT] using hg, fun ft hf => ⟨ft, hf, rfl⟩, h, hb⟩
    | cons q p => cases q <;> simp [getT, Path.deref] at hg hd
end
end Go.TM
/-! ## TmH -/
namespace Go.TM
set_option autoImplicit false

/-- n cells are written at an address -/
structure Wr (w w2 : World) (b o n : Nat) (cs : List Value) : Prop where
  len : cs.length = n
  ex : ∃ row row2 e fz, w.heap[b]? = some (.cells row e fz) ∧ w2.heap[b]? = some (.cells row2 e fz) ∧ o + n ≤ row.size ∧
    row2.toList = row.toList.take o ++ cs ++ row.toList.drop (o + n)

theorem Wr.same {w w2 : World} {b o n : Nat} {cs : List Value} (h : Wr w w2 b o n cs) : At w2 b o n cs := by
  obtain ⟨row, row2, e, fz, h1, h2, h3, h4⟩ := h.ex
  have hl := h.len
  have hs : row2.toList.length = row.toList.length := by rw [h4]; simp; omega
  refine ⟨row2, e, fz, h2, by simp at hs; omega, ?_⟩
  rw [h4, List.append_assoc, List.drop_left' (by simp; omega), List.take_left' hl]

theorem Wr.apart {w w2 : World} {b o n : Nat} {cs : List Value} (h : Wr w w2 b o n cs) {o' m : Nat} {c : List Value} (hc : At w b o' m c) (hd : o' + m ≤ o ∨ o + n ≤ o') : At w2 b o' m c := by
  obtain ⟨row, row2, e, fz, h1, h2, h3, h4⟩ := h.ex
  obtain ⟨row', e', fz', h1', h2', rfl⟩ := hc
  rw [h1] at h1'
  simp only [Option.some.injEq, Obj.cells.injEq] at h1'
  obtain ⟨rfl, rfl, rfl⟩ := h1'
  have hl := h.len
  have hs : row2.toList.length = row.toList.length := by rw [h4]; simp; omega
  refine ⟨row2, e, fz, h2, by simp at hs; omega, ?_⟩
  rw [h4]
  rcases hd with hd | hd
  · rw [List.append_assoc, List.drop_append_of_le_length (by simp; omega), List.take_append_of_le_length (by simp; omega), List.drop_take, List.take_take]
    congr 1; omega
  · rw [List.drop_append, List.drop_of_length_le (by simp; omega), List.nil_append, List.drop_drop]
    congr 2
    simp; omega

theorem Wr.free {w w2 : World} {b o n : Nat} {cs : List Value} (h : Wr w w2 b o n cs) {k : Nat} (hf : ∃ row e, w.heap[b]? = some (.cells row e (0, 0)) ∧ k = row.size) :
    ∃ row e, w2.heap[b]? = some (.cells row e (0, 0)) ∧ k = row.size := by
  obtain ⟨row, row2, e, fz, h1, h2, h3, h4⟩ := h.ex
  obtain ⟨row', e', h1', rfl⟩ := hf
  rw [h1] at h1'
  simp only [Option.some.injEq, Obj.cells.injEq] at h1'
  obtain ⟨rfl, rfl, rfl⟩ := h1'
  have hl := h.len
  have hs : row2.toList.length = row.toList.length := by rw [h4]; simp; omega
  exact ⟨row2, e, h2, by simpa using hs.symm⟩

/-- a range that holds what is written -/
theorem Wr.inside {w w2 : World} {b o n : Nat} {cs : List Value} (h : Wr w w2 b o n cs) {o' m d : Nat} {c : List Value} (hc : At w b o' m c) (ho : o = o' + d) (hd : d + n ≤ m) :
    At w2 b o' m (c.take d ++ cs ++ c.drop (d + n)) := by
  subst ho
  have h1 := h.apart (hc.sub 0 d (by omega)) (.inl (by omega))
  have h3 := h.apart (hc.sub (d + n) (m - (d + n)) (by omega)) (.inr (by omega))
  have hcl := hc.len
  rw [Nat.add_zero, List.drop_zero] at h1
  rw [List.take_of_length_le (by simp; omega)] at h3
  have := (h1.join h.same).join (by rw [show o' + (d + n) = o' + (d + n) from rfl] at h3; exact h3)
  rw [show d + n + (m - (d + n)) = m by omega] at this
  exact this

theorem flatten_set {t : Ty} (hf : t.flat = true) (y : t.den) : ∀ (l : List t.den) (_ : ∀ x ∈ l, fok t x) (n : Nat), n < l.length →
    ((l.set n y).map (fcells t)).flatten = ((l.map (fcells t)).flatten.take (n * t.size)) ++ fcells t y ++ ((l.map (fcells t)).flatten.drop (n * t.size + t.size)) := by
  intro l
  induction l with
  | nil => intro _ n h; simp at h
  | cons a l ih =>
    intro hok n h
    have hl : (fcells t a).length = t.size := fcells_len t a hf (hok a (by simp))
    cases n with
    | zero => simp [List.drop_left' hl]
    | succ n =>
      have := ih (fun x hx => hok x (by simp [hx])) n (by simpa using h)
      simp only [List.set_cons_succ, List.map_cons, List.flatten_cons, this]
      have e1 : (n + 1) * t.size = (fcells t a).length + n * t.size := by rw [Nat.succ_mul]; omega
      have e2 : (n + 1) * t.size + t.size = (fcells t a).length + (n * t.size + t.size) := by rw [Nat.succ_mul]; omega
      rw [e2, e1, List.take_length_add_append, List.drop_length_add_append]
      simp only [List.append_assoc]

theorem blocksL_set_nodup {ks : List FT} {n : Nat} {k : FT} (hk : ks[n]? = some k) (h : (FT.blocksL ks).Nodup) : k.blocks.Nodup ∧
    (∀ i k', i ≠ n → ks[i]? = some k' → ∀ b ∈ k'.blocks, b ∉ k.blocks) := by
  induction ks generalizing n with
  | nil => simp at hk
  | cons k0 ks ih =>
    simp only [FT.blocksL, List.nodup_append] at h
    obtain ⟨h1, h2, h3⟩ := h
    cases n with
    | zero =>
      simp only [List.getElem?_cons_zero, Option.some.injEq] at hk
      subst hk
      refine ⟨h1, fun i k' hi hk' b hb hb' => ?_⟩
      cases i with
      | zero => exact hi rfl
      | succ i => exact h3 b hb' b (blocksL_mem (List.mem_of_getElem? (by simpa using hk')) hb) rfl
    | succ n =>
      obtain ⟨h4, h5⟩ := ih (by simpa using hk) h2
      refine ⟨h4, fun i k' hi hk' b hb hb' => ?_⟩
      cases i with
      | zero =>
        simp only [List.getElem?_cons_zero, Option.some.injEq] at hk'
        subst hk'
        exact h3 b hb b (blocksL_mem (List.mem_of_getElem? (by simpa using hk)) hb') rfl
      | succ i => exact h5 i k' (by omega) (by simpa using hk') b hb hb'

section
variable {ρ : Type} {w w2 : World}

/-- the typed lens writes at its address -/
theorem Own.set {b' o' : Nat} {cs2 : List Value} {u : Ty} {y : u.den} {ft' ft2 : FT} (hW : Wr w w2 b' o' u.size cs2) (hy : Own w2 u y ft2 cs2) :
    ∀ (t : Ty) (x : t.den) (ft : FT) (cs : List Value) (a : Option (Nat × Nat)) (p : Path) (v : Ty) (k : t.den → Option ρ) (r : ρ),
    Own w t x ft cs → (∀ b o, a = some (b, o) → At w b o t.size cs ∧ b ∉ ft.blocks ∧ (b ≠ b' → w2.heap[b]? = w.heap[b]?)) → ft.blocks.Nodup →
    addr t ft a p = some (v, ft', some (b', o')) → setT t x p u y k = some r →
    (∀ b ∈ ft.blocks, b ∉ ft'.blocks → b ≠ b' → w2.heap[b]? = w.heap[b]?) → b' ∉ ft'.blocks →
    v = u ∧ ∃ (x' : t.den) (cs' : List Value), k x' = some r ∧ Own w2 t x' (setF t ft p ft2) cs' ∧ cs'.length = cs.length ∧ (∀ b o, a = some (b, o) → At w2 b o t.size cs') := by
  intro t
  induction t with
  | cons t r iht ihr =>
    intro x ft cs a p v k res h hb hnd hA hS hag hb'
    match p, hA, hS with
    | [], hA, hS =>
      simp only [addr, Option.some.injEq, Prod.mk.injEq] at hA
      obtain ⟨rfl, rfl, rfl⟩ := hA
      simp only [setT] at hS
      split at hS
      · rename_i z hz
        obtain ⟨rfl, rfl⟩ := castTo_eq hz
        exact ⟨rfl, y, cs2, hS, hy, by rw [Own.len _ _ _ _ h, hW.len], fun b o e => by simp only [Option.some.injEq, Prod.mk.injEq] at e; obtain ⟨rfl, rfl⟩ := e; exact hW.same⟩
      · cases hS
    | .f 0 :: p, hA, hS =>
      simp only [setT] at hS
      obtain ⟨h0, c1, c2, rfl, h1, h2⟩ := h
      simp only [addr] at hA
      have hl1 := Own.len t x.1 _ c1 h1
      have hl2 := Own.len r x.2 _ c2 h2
      simp only [h0, List.nodup_append] at hnd
      obtain ⟨hn1, hn2, hn3⟩ := hnd
      obtain ⟨hs1, hs2⟩ := addr_sub _ _ _ _ hA
      obtain ⟨rfl, x', c1', e1, e2, e3, e4⟩ := iht x.1 ft.fst c1 a p v _ res h1 (fun b o e => ⟨(hb b o e).1.fst hl1, fun hm => (hb b o e).2.1 (by simp [h0, hm]), (hb b o e).2.2⟩) hn1 hA hS (fun b hm => hag b (by simp [h0, hm])) hb'
      have hd2 : Own w2 r x.2 ft.snd c2 := Own.agree r x.2 _ c2 (fun b hm => hag b (by simp [h0, hm]) (fun hm' => hn3 b (hs1 b hm') b hm rfl) (fun e => by
        subst e
        rcases hs2 with ⟨b0, o0, e0, hm0, _⟩ | ⟨d, e0, _⟩
        · simp only [Option.some.injEq, Prod.mk.injEq] at e0; obtain ⟨rfl, rfl⟩ := e0; exact hn3 _ hm0 _ hm rfl
        · cases a with
          | none => cases e0
          | some a => simp only [Option.map_some, Option.some.injEq, Prod.mk.injEq] at e0; obtain ⟨rfl, _⟩ := e0; exact (hb _ _ rfl).2.1 (by simp [h0, hm]))) h2
      refine ⟨rfl, (x', x.2), c1' ++ c2, e1, ⟨by simp [setF, FT.blocks, FT.fst, FT.snd], c1', c2, rfl, e2, hd2⟩, by simp [e3], fun b o e => ?_⟩
      simp only [Ty.size]
      refine (e4 b o e).join ?_
      have hat : At w b (o + t.size) r.size c2 := (hb b o e).1.snd hl1
      by_cases hbb : b = b'
      · subst hbb
        refine hW.apart hat (.inr ?_)
        rcases hs2 with ⟨b0, o0, e0, hm0, _⟩ | ⟨d, e0, hd⟩
        · simp only [Option.some.injEq, Prod.mk.injEq] at e0; obtain ⟨rfl, rfl⟩ := e0; exact absurd (by simp [h0, hm0]) (hb _ _ e).2.1
        · subst e; simp only [Option.map_some, Option.some.injEq, Prod.mk.injEq] at e0; obtain ⟨_, rfl⟩ := e0; omega
      · exact hat.agree ((hb b o e).2.2 hbb)
    | .f (n + 1) :: p, hA, hS =>
      simp only [setT] at hS
      obtain ⟨h0, c1, c2, rfl, h1, h2⟩ := h
      simp only [addr] at hA
      have hl1 := Own.len t x.1 _ c1 h1
      have hl2 := Own.len r x.2 _ c2 h2
      simp only [h0, List.nodup_append] at hnd
      obtain ⟨hn1, hn2, hn3⟩ := hnd
      obtain ⟨hs1, hs2⟩ := addr_sub _ _ _ _ hA
      obtain ⟨rfl, x', c2', e1, e2, e3, e4⟩ := ihr x.2 ft.snd c2 (a.map fun x => (x.1, x.2 + t.size)) (.f n :: p) v _ res h2 (fun b o e => by
        cases a with
        | none => cases e
        | some a =>
          simp only [Option.map_some, Option.some.injEq, Prod.mk.injEq] at e
          obtain ⟨rfl, rfl⟩ := e
          exact ⟨(hb _ _ rfl).1.snd hl1, fun hm => (hb _ _ rfl).2.1 (by simp [h0, hm]), (hb _ _ rfl).2.2⟩) hn2 hA hS (fun b hm => hag b (by simp [h0, hm])) hb'
      have hd1 : Own w2 t x.1 ft.fst c1 := Own.agree t x.1 _ c1 (fun b hm => hag b (by simp [h0, hm]) (fun hm' => hn3 b hm b (hs1 b hm') rfl) (fun e => by
        subst e
        rcases hs2 with ⟨b0, o0, e0, hm0, _⟩ | ⟨d, e0, _⟩
        · simp only [Option.some.injEq, Prod.mk.injEq] at e0; obtain ⟨rfl, rfl⟩ := e0; exact hn3 _ hm _ hm0 rfl
        · cases a with
          | none => cases e0
          | some a => simp only [Option.map_some, Option.some.injEq, Prod.mk.injEq] at e0; obtain ⟨rfl, _⟩ := e0; exact (hb _ _ rfl).2.1 (by simp [h0, hm]))) h1
      refine ⟨rfl, (x.1, x'), c1 ++ c2', e1, ⟨by simp [setF, FT.blocks, FT.fst, FT.snd], c1, c2', rfl, hd1, e2⟩, by simp [e3], fun b o e => ?_⟩
      simp only [Ty.size]
      have hat : At w b o t.size c1 := (hb b o e).1.fst hl1
      have hjoin : At w2 b (o + t.size) r.size c2' := e4 b (o + t.size) (by subst e; rfl)
      refine At.join ?_ hjoin
      by_cases hbb : b = b'
      · subst hbb
        refine hW.apart hat (.inl ?_)
        rcases hs2 with ⟨b0, o0, e0, hm0, _⟩ | ⟨d, e0, hd⟩
        · simp only [Option.some.injEq, Prod.mk.injEq] at e0; obtain ⟨rfl, rfl⟩ := e0; exact absurd (by simp [h0, hm0]) (hb _ _ e).2.1
        · subst e; simp only [Option.map_some, Option.some.injEq, Prod.mk.injEq] at e0; obtain ⟨_, rfl⟩ := e0; omega
      · exact hat.agree ((hb b o e).2.2 hbb)
    | .i n :: p, hA, hS => simp [addr] at hA
  | slice t iht =>
    intro x ft cs a p v k res h hb hnd hA hS hag hb'
    match p, hA, hS with
    | [], hA, hS =>
      simp only [addr, Option.some.injEq, Prod.mk.injEq] at hA
      obtain ⟨rfl, rfl, rfl⟩ := hA
      simp only [setT] at hS
      split at hS
      · rename_i z hz
        obtain ⟨rfl, rfl⟩ := castTo_eq hz
        exact ⟨rfl, y, cs2, hS, hy, by rw [Own.len _ _ _ _ h, hW.len], fun b o e => by simp only [Option.some.injEq, Prod.mk.injEq] at e; obtain ⟨rfl, rfl⟩ := e; exact hW.same⟩
      · cases hS
    | .f n :: p, hA, hS => simp [addr] at hA
    | .i n :: p, hA, hS =>
      simp only [setT] at hS
      split at hS
      · rename_i xn hx
        unfold geN at hx
        obtain ⟨b, cap, ks, rfl, rfl, h1, h2, h3, h4⟩ := h
        have hn : n < List.length (α := t.den) x := (List.getElem?_eq_some_iff.1 hx).1
        cases b with
        | none => subst h4; omega
        | some b =>
          have hk : ks[n]? = some (ks[n]'(by omega)) := List.getElem?_eq_getElem _
          generalize ks[n]'(by omega) = kn at hk
          simp only [addr, hk] at hA
          obtain ⟨c, hc, ho⟩ := h4.2 n xn _ hx hk
          simp only [FT.blocks, Option.toList_some, List.singleton_append, List.nodup_cons] at hnd
          obtain ⟨hn1, hn2⟩ := blocksL_set_nodup hk hnd.2
          have hmk := List.mem_of_getElem? hk
          obtain ⟨hs1, hs2⟩ := addr_sub _ _ _ _ hA
          have hbk : b ∉ kn.blocks := fun hm => hnd.1 (blocksL_mem hmk hm)
          have hbft : b ∉ ft'.blocks := fun hm => hbk (hs1 b hm)
          have hbag : b ≠ b' → w2.heap[b]? = w.heap[b]? := fun hne => hag b (by simp [FT.blocks]) hbft hne
          obtain ⟨rfl, x', c', e1, e2, e3, e4⟩ := iht xn kn c (some (b, n * t.size)) p v _ res ho (fun b0 o0 e => by
            simp only [Option.some.injEq, Prod.mk.injEq] at e; obtain ⟨rfl, rfl⟩ := e; exact ⟨hc, hbk, hbag⟩) hn1 hA hS
            (fun b0 hm => hag b0 (by simp only [FT.blocks, List.mem_append]; exact .inr (blocksL_mem hmk hm))) hb'
          have hc' := e4 b (n * t.size) rfl
          have hbin : b' = b ∨ b' ∈ kn.blocks := by
            rcases hs2 with ⟨b0, o0, e0, hm0, _⟩ | ⟨d, e0, _⟩
            · simp only [Option.some.injEq, Prod.mk.injEq] at e0; obtain ⟨rfl, rfl⟩ := e0; exact .inr hm0
            · simp only [Option.map_some, Option.some.injEq, Prod.mk.injEq] at e0; exact .inl e0.1
          refine ⟨rfl, List.set (α := t.den) x n x', [.slice (some ⟨b, 0, none⟩) (List.length (α := t.den) x) cap], e1, ?_, rfl, ?_⟩
          · have hls : List.length (α := t.den) (List.set (α := t.den) x n x') = List.length (α := t.den) x := List.length_set
            refine ⟨some b, cap, ks.set n (setF t kn p ft2), by simp only [setF, hk], by rw [hls]; rfl, by rw [hls]; exact h1, by rw [hls]; exact h2, by rw [hls]; simpa using h3, ?_, ?_⟩
            · by_cases hbb : b = b'
              · subst hbb; exact hW.free h4.1
              · rw [hbag hbb]; exact h4.1
            · intro i xi ki hxi hki
              by_cases hin : i = n
              · subst hin
                have hx0 : xi = x' := by
                  have : (List.set (α := t.den) x i x')[i]? = some x' := by rw [List.getElem?_set_self hn]
                  exact Option.some.inj (hxi.symm.trans this)
                have hk0 : ki = setF t kn p ft2 := by
                  have : (ks.set i (setF t kn p ft2))[i]? = some (setF t kn p ft2) := by rw [List.getElem?_set_self (by omega)]
                  exact Option.some.inj (hki.symm.trans this)
                subst hx0 hk0
                exact ⟨c', hc', e2⟩
              · have hxi' : (show List t.den from x)[i]? = some xi := by
                  have := List.getElem?_set_ne (l := (show List t.den from x)) (a := x') (Ne.symm hin)
                  exact this.symm.trans hxi
                have hki' : ks[i]? = some ki := by
                  rw [List.getElem?_set_ne (Ne.symm hin)] at hki; exact hki
                obtain ⟨ci, hci, hoi⟩ := h4.2 i xi ki hxi' hki'
                have hmi := List.mem_of_getElem? hki'
                refine ⟨ci, ?_, Own.agree t xi ki ci (fun b0 hm0 => hag b0 (by simp only [FT.blocks, List.mem_append]; exact .inr (blocksL_mem hmi hm0)) (fun hm' => hn2 i ki hin hki' b0 hm0 (hs1 b0 hm')) (fun e => ?_)) hoi⟩
                · by_cases hbb : b = b'
                  · subst hbb
                    refine hW.apart hci ?_
                    rcases hs2 with ⟨b0, o0, e0, hm0, _⟩ | ⟨d, e0, hd⟩
                    · simp only [Option.some.injEq, Prod.mk.injEq] at e0; obtain ⟨rfl, rfl⟩ := e0; exact absurd hm0 hbk
                    · simp only [Option.map_some, Option.some.injEq, Prod.mk.injEq] at e0
                      obtain ⟨_, rfl⟩ := e0
                      rcases Nat.lt_or_gt_of_ne hin with hlt | hgt
                      · left
                        have := Nat.mul_le_mul_right t.size (Nat.succ_le_of_lt hlt)
                        rw [Nat.succ_mul] at this; omega
                      · right
                        have := Nat.mul_le_mul_right t.size (Nat.succ_le_of_lt hgt)
                        rw [Nat.succ_mul] at this; omega
                  · exact hci.agree (hbag hbb)
                · subst e
                  rcases hbin with rfl | hm
                  · exact hnd.1 (blocksL_mem hmi hm0)
                  · exact hn2 i ki hin hki' _ hm0 hm
          · intro b0 o0 e
            obtain ⟨hat, hni, hagb⟩ := hb b0 o0 e
            refine hat.agree (hagb fun e => hni ?_)
            subst e
            simp only [FT.blocks, Option.toList_some, List.singleton_append, List.mem_cons]
            rcases hbin with rfl | hm
            · exact .inl rfl
            · exact .inr (blocksL_mem hmk hm)
      · cases hS
  | arr m t _ =>
    intro x ft cs a p v k res h hb hnd hA hS hag hb'
    match p, hA, hS with
    | [], hA, hS =>
      simp only [addr, Option.some.injEq, Prod.mk.injEq] at hA
      obtain ⟨rfl, rfl, rfl⟩ := hA
      simp only [setT] at hS
      split at hS
      · rename_i z hz
        obtain ⟨rfl, rfl⟩ := castTo_eq hz
        exact ⟨rfl, y, cs2, hS, hy, by rw [Own.len _ _ _ _ h, hW.len], fun b o e => by simp only [Option.some.injEq, Prod.mk.injEq] at e; obtain ⟨rfl, rfl⟩ := e; exact hW.same⟩
      · cases hS
    | .f n :: p, hA, hS => simp [addr] at hA
    | .i n :: q :: p, hA, hS => simp [addr] at hA
    | [.i n], hA, hS =>
      obtain ⟨hf, ⟨hl, hok⟩, hbl, rfl⟩ := h
      have hf : t.flat = true := hf
      simp only [addr] at hA
      split at hA
      · cases hA
      · rename_i hag0
        simp only [Bool.or_eq_true, Nat.ble_eq, not_or, Bool.not_eq_true, Nat.not_le] at hag0
        simp only [Option.some.injEq, Prod.mk.injEq] at hA
        obtain ⟨hv, _, hA2⟩ := hA
        subst hv
        cases a with
        | none => cases hA2
        | some a =>
          simp only [Option.map_some, Option.some.injEq, Prod.mk.injEq] at hA2
          obtain ⟨rfl, rfl⟩ := hA2
          simp only [setT] at hS
          split at hS
          · cases hS
          · split at hS
            · rename_i xn hx
              unfold geN at hx
              split at hS
              · rename_i z hz
                obtain ⟨rfl, rfl⟩ := castTo_eq hz
                obtain ⟨hyk, _, rfl⟩ := Own.flat hf hag0.1 hy
                have hn : n < (show List u.den from x).length := (List.getElem?_eq_some_iff.1 hx).1
                have hls : List.length (α := u.den) (List.set (α := u.den) x n y) = List.length (α := u.den) x := List.length_set
                have hat := hW.inside (d := n * u.size) (hb _ _ rfl).1 rfl (by
                  simp only [Ty.size]
                  have := Nat.mul_le_mul_right u.size (Nat.succ_le_of_lt hag0.2)
                  rw [Nat.succ_mul] at this; exact this)
                have hfs := flatten_set hf y (show List u.den from x) hok n hn
                have hok2 : fok (.arr m u) (List.set (α := u.den) x n y) := ⟨hls.trans hl, fun x0 hx0 => by
                  rcases List.mem_or_eq_of_mem_set hx0 with h | h
                  · exact hok _ h
                  · subst h; exact hyk⟩
                have hok1 : fok (.arr m u) x := ⟨hl, hok⟩
                refine ⟨rfl, List.set (α := u.den) x n y, fcells (.arr m u) (List.set (α := u.den) x n y), hS, ⟨hf, hok2, by rw [show setF (.arr m u) ft [.i n] ft2 = ft by cases ft <;> rfl]; exact hbl, rfl⟩, (fcells_len (.arr m u) _ hf hok2).trans (fcells_len (.arr m u) x hf hok1).symm, ?_⟩
                · intro b o e
                  simp only [Option.some.injEq] at e
                  subst e
                  rw [show fcells (.arr m u) (List.set (α := u.den) x n y) = (((show List u.den from x).set n y).map (fcells u)).flatten from rfl, hfs]
                  exact hat
              · cases hS
            · cases hS
  | _ =>
    intro x ft cs a p v k res h hb hnd hA hS hag hb'
    cases p with
    | cons q p => simp [addr] at hA
    | nil =>
      simp only [addr, Option.some.injEq, Prod.mk.injEq] at hA
      obtain ⟨rfl, rfl, rfl⟩ := hA
      simp only [setT] at hS
      split at hS
      · rename_i z hz
        obtain ⟨rfl, rfl⟩ := castTo_eq hz
        exact ⟨rfl, y, cs2, hS, hy, by rw [Own.len _ _ _ _ h, hW.len], fun b o e => by simp only [Option.some.injEq, Prod.mk.injEq] at e; obtain ⟨rfl, rfl⟩ := e; exact hW.same⟩
      · cases hS
end
end Go.TM
/-! ## TmI -/
namespace Go.TM
set_option autoImplicit false

abbrev AdrF := Nat → Path → Option (Ty × FT × Option (Nat × Nat))

structure Gh where
  base : Option Nat
  ft : FT
def Gh.blocks (g : Gh) : List Nat := g.base.toList ++ g.ft.blocks

def adr (B : Nat → Option Box) (G : Nat → Gh) : AdrF := fun b p =>
  match B b with
  | some x => addr x.ty (G b).ft ((G b).base.map (·, 0)) p
  | none => none

/-- the cells of a value -/
def VRc (A : AdrF) (w : World) (R : Nat → Prop) : TV → List Value → Prop
  | .dat t x, cs => Rd w R t x cs
  | .nil, cs => cs = [.slice none 0 0]
  | .unit, cs => cs = []
  | .cons a r, cs => ∃ c1 c2, cs = c1 ++ c2 ∧ VRc A w R a c1 ∧ VRc A w R r c2
  | .ref b p, cs => ∃ t ft blk off, A b p = some (t, ft, some (blk, off)) ∧ cs = [.pointer (some ⟨blk, off, none⟩)]
  | .sl b p, cs => ∃ t bk cap ks a, A b p = some (.slice t, .node bk cap ks, a) ∧ cs = [.slice (bk.map (⟨·, 0, none⟩)) ks.length cap]
  | .slw b p lo n, cs => ∃ t bk cap ks a, A b p = some (.slice t, .node bk cap ks, a) ∧ (lo + n ≤ ks.length ∧ n ≤ lim) ∧
      ∃ a' c, cs = [.slice a' n c] ∧ (n ≤ c ∧ (lo = 0 → c = cap ∧ a' = bk.map (⟨·, 0, none⟩))) ∧ (0 < n → ∃ blk, bk = some blk ∧ a' = some ⟨blk, lo * t.size, none⟩)
  | .rop t x, cs => ∃ blk off c, cs = [.pointer (some ⟨blk, off, none⟩)] ∧ R blk ∧ At w blk off t.size c ∧ Rd w R t x c
  | .clo f caps, cs => ∃ vs, VRc A w R caps vs ∧ cs = [.func (.func f) #[] vs.toArray]
  | .un, cs => ∃ v, cs = [v]
  | .tup _, _ => False
  | .own _ _, _ => False

def TV.agg : TV → Bool
  | .dat t _ => t.agg
  | .unit | .cons _ _ => true
  | _ => false

/-- a value that is no tuple -/
def VR1 (A : AdrF) (w : World) (R : Nat → Prop) (v : TV) (x : Value) : Prop :=
  v = .un ∨ ∃ cs, VRc A w R v cs ∧ (if v.agg then x = .agg cs.toArray else cs = [x])

def VRt (A : AdrF) (w : World) (R : Nat → Prop) : TV → List Value → Prop
  | .cons a r, x :: xs => VR1 A w R a x ∧ VRt A w R r xs
  | .unit, [] => True
  | _, _ => False

def VR (A : AdrF) (w : World) (R : Nat → Prop) (v : TV) (x : Value) : Prop :=
  match v with
  | .tup a => ∃ xs, VRt A w R a xs ∧ x = .tuple xs.toArray
  | v => VR1 A w R v x

/-- the cells of a content -/
def Con (A : AdrF) (w : World) (R : Nat → Prop) : TV → Ty → FT → List Value → Prop
  | .own u x, t, ft, cs => u = t ∧ Own w u x ft cs
  | .dat u x, t, ft, cs => u = t ∧ ft.blocks = [] ∧ Rd w R u x cs
  | .cons a d, .cons t r, ft, cs => ft.blocks = ft.fst.blocks ++ ft.snd.blocks ∧ ∃ c1 c2, cs = c1 ++ c2 ∧ c1.length = t.size ∧ Con A w R a t ft.fst c1 ∧ Con A w R d r ft.snd c2
  | .cons _ _, _, _, _ => False
  | .unit, t, ft, cs => t = .unit ∧ ft.blocks = [] ∧ cs = []
  | .un, t, ft, cs => ft.blocks = [] ∧ t.size = 1 ∧ t.agg = false ∧ cs.length = 1
  | .tup _, _, _, _ => False
  | v, t, ft, cs => t.size = 1 ∧ t.agg = false ∧ ft.blocks = [] ∧ VRc A w R v cs

def BoxRel (A : AdrF) (w : World) (R : Nat → Prop) (g : Gh) (x : Box) : Prop :=
  if x.virt then g.base = none ∧ (∃ t, x.ty = .slice t) ∧ ∃ cs, Con A w R x.c x.ty g.ft cs
  else ∃ blk row e, g.base = some blk ∧ w.heap[blk]? = some (.cells row e (0, 0)) ∧ row.size = x.ty.size ∧ Con A w R x.c x.ty g.ft row.toList

/-- the frame of a function's run: what is only read, what may be written, where it began -/
structure Fr where
  R : Nat → Prop
  M : List Nat
  w0 : World
  nt : Nat
  base : Nat → Option Nat
  hdr : Nat → Option (Option Nat × Nat × Nat)

def FT.hdr : FT → Option (Option Nat × Nat × Nat)
  | .node b cap ks => some (b, cap, ks.length)
  | _ => none

/-- no block has gone; nothing was said to the world outside -/
structure Gro (w w2 : World) : Prop where
  size : w.heap.size ≤ w2.heap.size
  os : w2.os = w.os
  output : w2.output = w.output
theorem Gro.refl (w : World) : Gro w w := ⟨Nat.le_refl _, rfl, rfl⟩
theorem Gro.trans {a b c : World} (h : Gro a b) (k : Gro b c) : Gro a c := ⟨Nat.le_trans h.size k.size, k.os.trans h.os, k.output.trans h.output⟩

structure Rel (F : Fr) (G : Nat → Gh) (s : St) (a : Act) (w : World) : Prop where
  box : ∀ i x, s.box i = some x → BoxRel (adr s.box G) w F.R (G i) x
  fine : ∀ i x, s.box i = some x → x.ty.fine
  apart : ∀ i j x y, s.box i = some x → s.box j = some y → i ≠ j → ∀ b ∈ (G i).blocks, b ∉ (G j).blocks
  nodup : ∀ i x, s.box i = some x → (G i).blocks.Nodup
  mine : ∀ i x, s.box i = some x → ∀ b ∈ (G i).blocks, ¬ F.R b ∧ b < w.heap.size ∧ (b ∈ F.M ∨ F.w0.heap.size ≤ b)
  R : ∀ b, F.R b → b < F.w0.heap.size ∧ b ∉ F.M
  tmps : ∀ n, VR (adr s.box G) w F.R (s.get n) (a.tmps.getD n undef)
  agree : ∀ b, b < F.w0.heap.size → b ∉ F.M → w.heap[b]? = F.w0.heap[b]?
  gro : Gro F.w0 w
  defers : a.defers = []
  nt : a.tmps.size = F.nt
  par : ∀ i x, s.box i = some x → (i % 32 = 0 → (G i).base = F.base i) ∧ (x.fix = true → x.virt = true ∧ (G i).ft.hdr = F.hdr i)

theorem Rel.size {F : Fr} {G : Nat → Gh} {s : St} {a : Act} {w : World} (h : Rel F G s a w) : F.w0.heap.size ≤ w.heap.size := h.gro.size

def hdrT : Ty → FT → Option (Option Nat × Nat × Nat)
  | .slice _, ft => ft.hdr
  | _, _ => none

/-- A' leads where A led -/
def ALe (A A' : AdrF) : Prop := ∀ b p t ft a, A b p = some (t, ft, a) → ∃ ft', A' b p = some (t, ft', a) ∧ hdrT t ft' = hdrT t ft

/-- A' leads where A led, but through what lies at p of box b -/
def ALeBut (b : Nat) (p : Path) (A A' : AdrF) : Prop := ∀ c q t ft a, A c q = some (t, ft, a) →
  (b ≠ c ∨ Path.thru p q = none → ∃ ft', A' c q = some (t, ft', a) ∧ hdrT t ft' = hdrT t ft) ∧
  (∀ r, b = c → Path.thru p q = some r → Path.deref r = false → ∃ ft', A' c q = some (t, ft', a))

theorem hdr_node {ft : FT} {bk : Option Nat} {cap : Nat} {ks : List FT} (h : ft.hdr = (FT.node bk cap ks).hdr) : ∃ ks', ft = .node bk cap ks' ∧ ks'.length = ks.length := by
  cases ft <;> simp [FT.hdr] at h
  obtain ⟨rfl, rfl, h⟩ := h
  exact ⟨_, rfl, h⟩

section
variable {A A' : AdrF} {w w' : World} {R : Nat → Prop}

theorem VRc.mono (hA : ALe A A') (hw : ∀ b, R b → w'.heap[b]? = w.heap[b]?) : ∀ (v : TV) (cs : List Value), VRc A w R v cs → VRc A' w' R v cs
  | .dat t x, cs, h => Rd.agree (fun _ h => h) hw t x cs h
  | .nil, _, h => h
  | .unit, _, h => h
  | .un, _, h => h
  | .tup _, _, h => h
  | .own _ _, _, h => h
  | .cons a r, cs, h => by
    obtain ⟨c1, c2, rfl, h1, h2⟩ := h
    exact ⟨c1, c2, rfl, VRc.mono hA hw a c1 h1, VRc.mono hA hw r c2 h2⟩
  | .ref b p, cs, h => by
    obtain ⟨t, ft, blk, off, h1, rfl⟩ := h
    obtain ⟨ft', h2, _⟩ := hA _ _ _ _ _ h1
    exact ⟨t, ft', blk, off, h2, rfl⟩
  | .sl b p, cs, h => by
    obtain ⟨t, bk, cap, ks, a, h1, rfl⟩ := h
    obtain ⟨ft', h2, h3⟩ := hA _ _ _ _ _ h1
    obtain ⟨ks', rfl, h4⟩ := hdr_node h3
    exact ⟨t, bk, cap, ks', a, h2, by rw [h4]⟩
  | .slw b p lo n, cs, h => by
    obtain ⟨t, bk, cap, ks, a, h1, hn, h5⟩ := h
    obtain ⟨ft', h2, h3⟩ := hA _ _ _ _ _ h1
    obtain ⟨ks', rfl, h4⟩ := hdr_node h3
    exact ⟨t, bk, cap, ks', a, h2, ⟨by omega, hn.2⟩, h5⟩
  | .rop t x, cs, h => by
    obtain ⟨blk, off, c, rfl, h1, h2, h3⟩ := h
    exact ⟨blk, off, c, rfl, h1, h2.agree (hw _ h1), Rd.agree (fun _ h => h) hw t x c h3⟩
  | .clo f caps, cs, h => by
    obtain ⟨vs, h1, rfl⟩ := h
    exact ⟨vs, VRc.mono hA hw caps vs h1, rfl⟩

theorem kill_agg (b : Nat) (p : Path) (v : TV) : (v.kill b p).agg = v.agg := by
  cases v
  case ref => simp only [TV.kill]; split <;> (try split) <;> (try split) <;> rfl
  case sl => simp only [TV.kill]; split <;> (try split) <;> (try split) <;> rfl
  case slw => simp only [TV.kill]; split <;> (try split) <;> (try split) <;> rfl
  all_goals rfl

theorem VRc.kill {b : Nat} {p : Path} (hA : ALeBut b p A A') (hw : ∀ b, R b → w'.heap[b]? = w.heap[b]?) : ∀ (v : TV) (cs : List Value), VRc A w R v cs → VRc A' w' R (v.kill b p) cs
  | .dat t x, cs, h => Rd.agree (fun _ h => h) hw t x cs h
  | .nil, _, h => h
  | .unit, _, h => h
  | .un, _, h => h
  | .tup _, _, h => h.elim
  | .own _ _, _, h => h.elim
  | .cons a r, cs, h => by
    obtain ⟨c1, c2, rfl, h1, h2⟩ := h
    exact ⟨c1, c2, rfl, VRc.kill hA hw a c1 h1, VRc.kill hA hw r c2 h2⟩
  | .ref c q, cs, h => by
    obtain ⟨t, ft, blk, off, h1, rfl⟩ := h
    obtain ⟨h2, h3⟩ := hA _ _ _ _ _ h1
    simp only [TV.kill]
    split
    · rename_i e
      split
      · rename_i r hr
        split
        · exact ⟨_, rfl⟩
        · rename_i hd
          obtain ⟨ft', h4⟩ := h3 r (Nat.eq_of_beq_eq_true e) hr (by simpa using hd)
          exact ⟨t, ft', blk, off, h4, rfl⟩
      · rename_i hr
        obtain ⟨ft', h4, _⟩ := h2 (.inr hr)
        exact ⟨t, ft', blk, off, h4, rfl⟩
    · rename_i e
      obtain ⟨ft', h4, _⟩ := h2 (.inl (fun e' => e (by rw [e', Nat.beq_refl])))
      exact ⟨t, ft', blk, off, h4, rfl⟩
  | .sl c q, cs, h => by
    obtain ⟨t, bk, cap, ks, a, h1, rfl⟩ := h
    obtain ⟨h2, h3⟩ := hA _ _ _ _ _ h1
    simp only [TV.kill]
    split
    · rename_i e
      split
      · exact ⟨_, rfl⟩
      · rename_i hr
        obtain ⟨ft', h4, h5⟩ := h2 (.inr hr)
        obtain ⟨ks', rfl, h6⟩ := hdr_node h5
        exact ⟨t, bk, cap, ks', a, h4, by rw [h6]⟩
    · rename_i e
      obtain ⟨ft', h4, h5⟩ := h2 (.inl (fun e' => e (by rw [e', Nat.beq_refl])))
      obtain ⟨ks', rfl, h6⟩ := hdr_node h5
      exact ⟨t, bk, cap, ks', a, h4, by rw [h6]⟩
  | .slw c q lo n, cs, h => by
    obtain ⟨t, bk, cap, ks, a, h1, hn, a', c', rfl, h0⟩ := h
    obtain ⟨h2, h3⟩ := hA _ _ _ _ _ h1
    simp only [TV.kill]
    split
    · rename_i e
      split
      · exact ⟨_, rfl⟩
      · rename_i hr
        obtain ⟨ft', h4, h5⟩ := h2 (.inr hr)
        obtain ⟨ks', rfl, h6⟩ := hdr_node h5
        exact ⟨t, bk, cap, ks', a, h4, ⟨by omega, hn.2⟩, a', c', rfl, h0⟩
    · rename_i e
      obtain ⟨ft', h4, h5⟩ := h2 (.inl (fun e' => e (by rw [e', Nat.beq_refl])))
      obtain ⟨ks', rfl, h6⟩ := hdr_node h5
      exact ⟨t, bk, cap, ks', a, h4, ⟨by omega, hn.2⟩, a', c', rfl, h0⟩
  | .rop t x, cs, h => by
    obtain ⟨blk, off, c, rfl, h1, h2, h3⟩ := h
    exact ⟨blk, off, c, rfl, h1, h2.agree (hw _ h1), Rd.agree (fun _ h => h) hw t x c h3⟩
  | .clo f caps, cs, h => by
    obtain ⟨vs, h1, rfl⟩ := h
    exact ⟨vs, VRc.kill hA hw caps vs h1, rfl⟩

theorem VR1.mono (hA : ALe A A') (hw : ∀ b, R b → w'.heap[b]? = w.heap[b]?) {v : TV} {x : Value} (h : VR1 A w R v x) : VR1 A' w' R v x :=
  h.imp id fun ⟨cs, h1, h2⟩ => ⟨cs, VRc.mono hA hw v cs h1, h2⟩

theorem VRt.mono (hA : ALe A A') (hw : ∀ b, R b → w'.heap[b]? = w.heap[b]?) : ∀ (v : TV) (xs : List Value), VRt A w R v xs → VRt A' w' R v xs
  | .cons _ r, _ :: xs, h => ⟨VR1.mono hA hw h.1, VRt.mono hA hw r xs h.2⟩
  | .unit, [], _ => trivial
  | .cons _ _, [], h => h.elim
  | .unit, _ :: _, h => h.elim
  | .un, _, h => h.elim
  | .dat _ _, _, h => h.elim
  | .own _ _, _, h => h.elim
  | .nil, _, h => h.elim
  | .tup _, _, h => h.elim
  | .ref _ _, _, h => h.elim
  | .sl _ _, _, h => h.elim
  | .slw _ _ _ _, _, h => h.elim
  | .rop _ _, _, h => h.elim
  | .clo _ _, _, h => h.elim

theorem VR.mono (hA : ALe A A') (hw : ∀ b, R b → w'.heap[b]? = w.heap[b]?) {v : TV} {x : Value} (h : VR A w R v x) : VR A' w' R v x := by
  unfold VR at *
  split
  · rename_i a
    obtain ⟨xs, h1, h2⟩ := h
    exact ⟨xs, VRt.mono hA hw a xs h1, h2⟩
  · rename_i hn
    split at h
    · rename_i a; exact absurd rfl (hn a)
    · exact VR1.mono hA hw h

theorem VR1.kill {b : Nat} {p : Path} (hA : ALeBut b p A A') (hw : ∀ b, R b → w'.heap[b]? = w.heap[b]?) {v : TV} {x : Value} (h : VR1 A w R v x) : VR1 A' w' R (v.kill b p) x := by
  rcases h with rfl | ⟨cs, h1, h2⟩
  · exact .inl rfl
  · exact .inr ⟨cs, VRc.kill hA hw v cs h1, by rw [kill_agg]; exact h2⟩

theorem VRt.kill {b : Nat} {p : Path} (hA : ALeBut b p A A') (hw : ∀ b, R b → w'.heap[b]? = w.heap[b]?) : ∀ (v : TV) (xs : List Value), VRt A w R v xs → VRt A' w' R (v.kill b p) xs
  | .cons _ r, _ :: xs, h => ⟨VR1.kill hA hw h.1, VRt.kill hA hw r xs h.2⟩
  | .unit, [], _ => trivial
  | .cons _ _, [], h => h.elim
  | .unit, _ :: _, h => h.elim
  | .un, _, h => h.elim
  | .dat _ _, _, h => h.elim
  | .own _ _, _, h => h.elim
  | .nil, _, h => h.elim
  | .tup _, _, h => h.elim
  | .ref _ _, _, h => h.elim
  | .sl _ _, _, h => h.elim
  | .slw _ _ _ _, _, h => h.elim
  | .rop _ _, _, h => h.elim
  | .clo _ _, _, h => h.elim

theorem VR_iff {v : TV} {x : Value} (h : ∀ a, v ≠ .tup a) : VR A w R v x = VR1 A w R v x := by
  cases v <;> first | rfl | exact absurd rfl (h _)

theorem kill_tup (b : Nat) (p : Path) {v : TV} (h : ∀ a, v ≠ .tup a) : ∀ a, v.kill b p ≠ .tup a := by
  intro a
  cases v
  case tup a => exact absurd rfl (h a)
  case ref => simp only [TV.kill]; split <;> (try split) <;> (try split) <;> simp
  case sl => simp only [TV.kill]; split <;> (try split) <;> (try split) <;> simp
  case slw => simp only [TV.kill]; split <;> (try split) <;> (try split) <;> simp
  all_goals simp [TV.kill]

theorem VR.kill {b : Nat} {p : Path} (hA : ALeBut b p A A') (hw : ∀ b, R b → w'.heap[b]? = w.heap[b]?) {v : TV} {x : Value} (h : VR A w R v x) : VR A' w' R (v.kill b p) x := by
  by_cases ht : ∃ a, v = .tup a
  · obtain ⟨a, rfl⟩ := ht
    obtain ⟨xs, h1, h2⟩ := h
    exact ⟨xs, VRt.kill hA hw a xs h1, h2⟩
  · have hn : ∀ a, v ≠ .tup a := fun a e => ht ⟨a, e⟩
    rw [VR_iff hn] at h
    rw [VR_iff (kill_tup b p hn)]
    exact VR1.kill hA hw h
end
end Go.TM
/-! ## TmJ -/
namespace Go.TM
set_option autoImplicit false

theorem addr_plain : ∀ (t : Ty) (ft : FT) (a : Option (Nat × Nat)) (q : Path) {v : Ty} {fq : FT} {aq : Option (Nat × Nat)}, addr t ft a q = some (v, fq, aq) → Path.deref q = false →
    ∀ ft2, ∃ fq2, addr t ft2 a q = some (v, fq2, aq) := by
  intro t
  induction t with
  | cons t r iht ihr =>
    intro ft a q v fq aq h hd ft2
    match q, h with
    | [], h => simp only [addr, Option.some.injEq, Prod.mk.injEq] at h; obtain ⟨rfl, rfl, rfl⟩ := h; exact ⟨ft2, rfl⟩
    | .f 0 :: q, h => exact iht _ _ _ h (by simpa [Path.deref] using hd) _
    | .f (n + 1) :: q, h => exact ihr _ _ _ h (by simpa [Path.deref] using hd) _
    | .i n :: q, h => simp [addr] at h
  | _ =>
    intro ft a q v fq aq h hd ft2
    cases q with
    | nil => simp only [addr, Option.some.injEq, Prod.mk.injEq] at h; obtain ⟨rfl, rfl, rfl⟩ := h; exact ⟨ft2, rfl⟩
    | cons s q => cases s <;> simp [addr, Path.deref] at h hd

theorem addr_setF : ∀ (t : Ty) (ft : FT) (a : Option (Nat × Nat)) (p q : Path) (f : FT) {u v : Ty} {fp fq : FT} {ap aq : Option (Nat × Nat)},
    addr t ft a p = some (u, fp, ap) → addr t ft a q = some (v, fq, aq) →
    (Path.thru p q = none → ∃ fq', addr t (setF t ft p f) a q = some (v, fq', aq) ∧ hdrT v fq' = hdrT v fq) ∧
    (∀ r, Path.thru p q = some r → Path.deref r = false → ∃ fq', addr t (setF t ft p f) a q = some (v, fq', aq)) := by
  intro t
  induction t with
  | cons t r iht ihr =>
    intro ft a p q f u v fp fq ap aq hp hq
    match p, hp with
    | [], hp => exact ⟨fun h => by simp [Path.thru] at h, fun s h hd => by simp only [Path.thru, Option.some.injEq] at h; subst h; exact addr_plain _ _ _ _ hq hd _⟩
    | .i n :: p, hp => simp [addr] at hp
    | .f 0 :: p, hp =>
      match q, hq with
      | [], hq =>
        simp only [addr, Option.some.injEq, Prod.mk.injEq] at hq; obtain ⟨rfl, rfl, rfl⟩ := hq
        exact ⟨fun _ => ⟨_, rfl, rfl⟩, fun s h => by simp [Path.thru] at h⟩
      | .i n :: q, hq => simp [addr] at hq
      | .f 0 :: q, hq =>
        simp only [addr] at hp hq
        have := iht _ _ p q f hp hq
        simpa [Path.thru, addr, setF, FT.fst] using this
      | .f (n + 1) :: q, hq =>
        simp only [addr] at hq
        exact ⟨fun _ => ⟨fq, by simpa [addr, setF, FT.snd] using hq, rfl⟩, fun s h => by simp [Path.thru] at h⟩
    | .f (m + 1) :: p, hp =>
      match q, hq with
      | [], hq =>
        simp only [addr, Option.some.injEq, Prod.mk.injEq] at hq; obtain ⟨rfl, rfl, rfl⟩ := hq
        exact ⟨fun _ => ⟨_, rfl, rfl⟩, fun s h => by simp [Path.thru] at h⟩
      | .i n :: q, hq => simp [addr] at hq
      | .f 0 :: q, hq =>
        simp only [addr] at hq
        exact ⟨fun _ => ⟨fq, by simpa [addr, setF, FT.fst] using hq, rfl⟩, fun s h => by simp [Path.thru] at h⟩
      | .f (n + 1) :: q, hq =>
        simp only [addr] at hp hq
        have := ihr _ _ (.f m :: p) (.f n :: q) f hp hq
        simp only [Path.thru] at this ⊢
        simp only [addr, setF, FT.snd]
        exact this
  | slice t iht =>
    intro ft a p q f u v fp fq ap aq hp hq
    match p, hp with
    | [], hp => exact ⟨fun h => by simp [Path.thru] at h, fun s h hd => by simp only [Path.thru, Option.some.injEq] at h; subst h; exact addr_plain _ _ _ _ hq hd _⟩
    | .f n :: p, hp => simp [addr] at hp
    | .i n :: p, hp =>
      match ft, hp, hq with
      | .leaf, hp, _ => simp [addr] at hp
      | .pair _ _, hp, _ => simp [addr] at hp
      | .node none _ _, hp, _ => simp [addr] at hp
      | .node (some b) cap ks, hp, hq =>
        simp only [addr] at hp
        split at hp
        · rename_i kn hk
          match q, hq with
          | [], hq =>
            simp only [addr, Option.some.injEq, Prod.mk.injEq] at hq; obtain ⟨rfl, rfl, rfl⟩ := hq
            refine ⟨fun _ => ⟨_, rfl, ?_⟩, fun s h => by simp [Path.thru] at h⟩
            simp [hdrT, FT.hdr, setF, hk]
          | .f n :: q, hq => simp [addr] at hq
          | .i m :: q, hq =>
            simp only [addr] at hq
            split at hq
            · rename_i km hm
              by_cases hmn : m = n
              · subst hmn
                rw [hk] at hm
                obtain rfl := Option.some.inj hm
                have hset : (ks.set m (setF t kn p f))[m]? = some (setF t kn p f) := by
                  rw [List.getElem?_set_self (List.getElem?_eq_some_iff.1 hk).1]
                have := iht _ _ p q f hp hq
                simpa [Path.thru, addr, setF, hk, hset] using this
              · have hset : (ks.set n (setF t kn p f))[m]? = some km := by rw [List.getElem?_set_ne (Ne.symm hmn)]; exact hm
                refine ⟨fun _ => ⟨fq, by simp only [setF, hk, addr, hset]; exact hq, rfl⟩, fun s _ _ => ⟨fq, by simp only [setF, hk, addr, hset]; exact hq⟩⟩
            · cases hq
        · cases hp
  | arr m t _ =>
    intro ft a p q f u v fp fq ap aq hp hq
    match p, hp with
    | [], hp => exact ⟨fun h => by simp [Path.thru] at h, fun s h hd => by simp only [Path.thru, Option.some.injEq] at h; subst h; exact addr_plain _ _ _ _ hq hd _⟩
    | .f n :: p, hp => simp [addr] at hp
    | .i n :: s :: p, hp => simp [addr] at hp
    | [.i n], hp =>
      have e : setF (.arr m t) ft [.i n] f = ft := by cases ft <;> rfl
      rw [e]
      exact ⟨fun _ => ⟨fq, hq, rfl⟩, fun _ _ _ => ⟨fq, hq⟩⟩
  | _ =>
    intro ft a p q f u v fp fq ap aq hp hq
    cases p with
    | nil => exact ⟨fun h => by simp [Path.thru] at h, fun s h hd => by simp only [Path.thru, Option.some.injEq] at h; subst h; exact addr_plain _ _ _ _ hq hd _⟩
    | cons s p => simp [addr] at hp

section
variable {A A' : AdrF} {w w' : World} {R : Nat → Prop}

theorem Con.len : ∀ (c : TV) (t : Ty) (ft : FT) (cs : List Value), Con A w R c t ft cs → cs.length = t.size := by
  intro c
  induction c with
  | own u x => intro t ft cs h; obtain ⟨rfl, h⟩ := h; exact Own.len _ _ _ _ h
  | dat u x => intro t ft cs h; obtain ⟨rfl, _, h⟩ := h; exact Rd.len _ _ _ h
  | cons a d iha ihd =>
    intro t ft cs h
    cases t <;> try exact h.elim
    obtain ⟨_, c1, c2, rfl, h1, _, h3⟩ := h
    simp [Ty.size, h1, ihd _ _ _ h3]
  | unit => intro t ft cs h; obtain ⟨rfl, _, rfl⟩ := h; rfl
  | un => intro t ft cs h; rw [h.2.1]; exact h.2.2.2
  | tup a _ => intro t ft cs h; exact h.elim
  | nil => intro t ft cs h; obtain ⟨h1, _, _, rfl⟩ := h; rw [h1]; rfl
  | ref b p => intro t ft cs h; obtain ⟨h1, _, _, _, _, _, _, _, rfl⟩ := h; rw [h1]; rfl
  | sl b p => intro t ft cs h; obtain ⟨h1, _, _, _, _, _, _, _, _, rfl⟩ := h; rw [h1]; rfl
  | slw b p lo n => intro t ft cs h; obtain ⟨h1, _, _, _, _, _, _, _, _, _, _, _, rfl, _⟩ := h; rw [h1]; rfl
  | rop u x => intro t ft cs h; obtain ⟨h1, _, _, _, _, _, rfl, _⟩ := h; rw [h1]; rfl
  | clo f c _ => intro t ft cs h; obtain ⟨h1, _, _, _, _, rfl⟩ := h; rw [h1]; rfl

theorem Con.mono (hA : ALe A A') (hw : ∀ b, R b → w'.heap[b]? = w.heap[b]?) : ∀ (c : TV) (t : Ty) (ft : FT) (cs : List Value), (∀ b ∈ ft.blocks, w'.heap[b]? = w.heap[b]?) → Con A w R c t ft cs → Con A' w' R c t ft cs := by
  intro c
  induction c with
  | own u x => intro t ft cs hb h; exact ⟨h.1, Own.agree _ _ _ _ hb h.2⟩
  | dat u x => intro t ft cs hb h; exact ⟨h.1, h.2.1, Rd.agree (fun _ h => h) hw _ _ _ h.2.2⟩
  | cons a d iha ihd =>
    intro t ft cs hb h
    cases t <;> try exact h.elim
    obtain ⟨h0, c1, c2, rfl, h1, h2, h3⟩ := h
    exact ⟨h0, c1, c2, rfl, h1, iha _ _ _ (fun b hm => hb b (fst_sub hm)) h2, ihd _ _ _ (fun b hm => hb b (snd_sub hm)) h3⟩
  | unit => intro t ft cs _ h; exact h
  | un => intro t ft cs _ h; exact h
  | tup a _ => intro t ft cs _ h; exact h.elim
  | nil => intro t ft cs _ h; exact h
  | ref b p => intro t ft cs _ h; exact ⟨h.1, h.2.1, h.2.2.1, VRc.mono hA hw _ _ h.2.2.2⟩
  | sl b p => intro t ft cs _ h; exact ⟨h.1, h.2.1, h.2.2.1, VRc.mono hA hw _ _ h.2.2.2⟩
  | slw b p lo n => intro t ft cs _ h; exact ⟨h.1, h.2.1, h.2.2.1, VRc.mono hA hw _ _ h.2.2.2⟩
  | rop u x => intro t ft cs _ h; exact ⟨h.1, h.2.1, h.2.2.1, VRc.mono hA hw _ _ h.2.2.2⟩
  | clo f c _ => intro t ft cs _ h; exact ⟨h.1, h.2.1, h.2.2.1, VRc.mono hA hw _ _ h.2.2.2⟩

theorem un_con {v : TV} {b : Nat} {p : Path} {t : Ty} {ft : FT} {cs : List Value} (h1 : t.size = 1) (h2 : t.agg = false) (h3 : ft.blocks = []) (hn : v.kill b p = .un ∨ v.kill b p = v)
    (hv : ∀ (A : AdrF) (w : World) (R : Nat → Prop), (t.size = 1 ∧ t.agg = false ∧ ft.blocks = [] ∧ VRc A w R v cs) → Con A w R v t ft cs) (h : VRc A w R (v.kill b p) cs) : Con A w R (v.kill b p) t ft cs := by
  rcases hn with e | e
  · rw [e] at h ⊢
    obtain ⟨x, rfl⟩ := h
    exact ⟨h3, h1, h2, rfl⟩
  · rw [e] at h ⊢
    exact hv _ _ _ ⟨h1, h2, h3, h⟩

theorem kill_cases (b : Nat) (p : Path) (c : Nat) (q : Path) (lo n : Nat) :
    ((TV.ref c q).kill b p = .un ∨ (TV.ref c q).kill b p = .ref c q) ∧ ((TV.sl c q).kill b p = .un ∨ (TV.sl c q).kill b p = .sl c q) ∧ ((TV.slw c q lo n).kill b p = .un ∨ (TV.slw c q lo n).kill b p = .slw c q lo n) := by
  refine ⟨?_, ?_, ?_⟩ <;> simp only [TV.kill] <;> split <;> (try split) <;> (try split) <;> simp

theorem Con.kill {b : Nat} {p : Path} (hA : ALeBut b p A A') (hw : ∀ b, R b → w'.heap[b]? = w.heap[b]?) : ∀ (c : TV) (t : Ty) (ft : FT) (cs : List Value), (∀ b ∈ ft.blocks, w'.heap[b]? = w.heap[b]?) → Con A w R c t ft cs → Con A' w' R (c.kill b p) t ft cs := by
  intro c
  induction c with
  | own u x => intro t ft cs hb h; exact ⟨h.1, Own.agree _ _ _ _ hb h.2⟩
  | dat u x => intro t ft cs hb h; exact ⟨h.1, h.2.1, Rd.agree (fun _ h => h) hw _ _ _ h.2.2⟩
  | cons a d iha ihd =>
    intro t ft cs hb h
    cases t <;> try exact h.elim
    obtain ⟨h0, c1, c2, rfl, h1, h2, h3⟩ := h
    exact ⟨h0, c1, c2, rfl, h1, iha _ _ _ (fun b hm => hb b (fst_sub hm)) h2, ihd _ _ _ (fun b hm => hb b (snd_sub hm)) h3⟩
  | unit => intro t ft cs _ h; exact h
  | un => intro t ft cs _ h; exact h
  | tup a _ => intro t ft cs _ h; exact h.elim
  | nil => intro t ft cs _ h; exact h
  | ref c q => intro t ft cs _ h; exact un_con h.1 h.2.1 h.2.2.1 (kill_cases b p c q 0 0).1 (fun _ _ _ h => h) (VRc.kill hA hw _ _ h.2.2.2)
  | sl c q => intro t ft cs _ h; exact un_con h.1 h.2.1 h.2.2.1 (kill_cases b p c q 0 0).2.1 (fun _ _ _ h => h) (VRc.kill hA hw _ _ h.2.2.2)
  | slw c q lo n => intro t ft cs _ h; exact un_con h.1 h.2.1 h.2.2.1 (kill_cases b p c q lo n).2.2 (fun _ _ _ h => h) (VRc.kill hA hw _ _ h.2.2.2)
  | rop u x => intro t ft cs _ h; exact ⟨h.1, h.2.1, h.2.2.1, VRc.kill hA hw _ _ h.2.2.2⟩
  | clo f c _ => intro t ft cs _ h; exact ⟨h.1, h.2.1, h.2.2.1, VRc.kill hA hw _ _ h.2.2.2⟩
end
end Go.TM
/-! ## TmK -/
namespace Go.TM
set_option autoImplicit false

section
variable {ρ : Type} {A : AdrF} {w w2 : World} {R : Nat → Prop}

theorem Con.get : ∀ (c : TV) (t : Ty) (ft : FT) (cs : List Value) (a : Option (Nat × Nat)) (p : Path) (k : TV → Option ρ) (r : ρ),
    Con A w R c t ft cs → (∀ b o, a = some (b, o) → At w b o t.size cs) → getC c p k = some r →
    ∃ (c' : TV) (u : Ty) (ft' : FT) (a' : Option (Nat × Nat)) (cs' : List Value), k c' = some r ∧ addr t ft a p = some (u, ft', a') ∧ Con A w R c' u ft' cs' ∧
      (∀ b o, a' = some (b, o) → At w b o u.size cs') := by
  intro c
  induction c with
  | own u x =>
    intro t ft cs a p k r h hb hg
    cases p with
    | nil => exact ⟨_, t, ft, a, cs, by simpa [getC] using hg, by cases t <;> rfl, h, hb⟩
    | cons s p =>
      obtain ⟨rfl, h⟩ := h
      obtain ⟨v, y, ft', a', cs', e1, e2, e3, e4⟩ := Own.get u x ft cs a (s :: p) _ r h hb (by simpa [getC] using hg)
      exact ⟨_, v, ft', a', cs', e1, e2, ⟨rfl, e3⟩, e4⟩
  | dat u x =>
    intro t ft cs a p k r h hb hg
    cases p with
    | nil => exact ⟨_, t, ft, a, cs, by simpa [getC] using hg, by cases t <;> rfl, h, hb⟩
    | cons s p =>
      obtain ⟨rfl, hbl, h⟩ := h
      simp only [getC] at hg
      split at hg
      · cases hg
      · rename_i hd
        obtain ⟨v, y, a', cs', e1, e2, e3, e4⟩ := Rd.get u x cs a (s :: p) _ r h hb hg (by simpa using hd)
        obtain ⟨ft', hbl', e2⟩ := e2 ft hbl
        exact ⟨_, v, ft', a', cs', e1, e2, ⟨rfl, hbl', e3⟩, e4⟩
  | cons c d ihc ihd =>
    intro t ft cs a p k r h hb hg
    match p, hg with
    | [], hg => exact ⟨_, t, ft, a, cs, by simpa [getC] using hg, by cases t <;> rfl, h, hb⟩
    | .i n :: p, hg => simp [getC] at hg
    | .f 0 :: p, hg =>
      cases t <;> try exact h.elim
      obtain ⟨_, c1, c2, rfl, h1, h2, h3⟩ := h
      exact ihc _ _ c1 a p k r h2 (fun b o e => (hb b o e).fst h1) (by simpa [getC] using hg)
    | .f (n + 1) :: p, hg =>
      cases t <;> try exact h.elim
      rename_i t u
      obtain ⟨_, c1, c2, rfl, h1, h2, h3⟩ := h
      refine ihd _ _ c2 (a.map fun x => (x.1, x.2 + t.size)) (.f n :: p) k r h3 (fun b o e => ?_) (by simpa [getC] using hg)
      cases a with
      | none => cases e
      | some a => simp only [Option.map_some, Option.some.injEq, Prod.mk.injEq] at e; obtain ⟨rfl, rfl⟩ := e; exact (hb _ _ rfl).snd h1
  | _ =>
    intro t ft cs a p k r h hb hg
    cases p with
    | nil => exact ⟨_, t, ft, a, cs, by simpa [getC] using hg, by cases t <;> rfl, h, hb⟩
    | cons s p => simp [getC] at hg

/-- what is asked of the base of a content before a write -/
def Basis (w w2 : World) (b' : Nat) (a : Option (Nat × Nat)) (n : Nat) (ft : FT) (cs : List Value) : Prop :=
  ∀ b o, a = some (b, o) → At w b o n cs ∧ b ∉ ft.blocks ∧ (b ≠ b' → w2.heap[b]? = w.heap[b]?)

structure Keeps (w w2 : World) (R : Nat → Prop) (b' : Nat) (ft ft' : FT) : Prop where
  own : ∀ b ∈ ft.blocks, b ∉ ft'.blocks → b ≠ b' → w2.heap[b]? = w.heap[b]?
  not : b' ∉ ft'.blocks
  ro : ∀ b, R b → w2.heap[b]? = w.heap[b]?

theorem cons_fst {t r v : Ty} {ft ft' : FT} {c1 c2 : List Value} {a : Option (Nat × Nat)} {p : Path} {b' o' : Nat} {cs2 : List Value} {d : TV}
    (h0 : ft.blocks = ft.fst.blocks ++ ft.snd.blocks) (hl : c1.length = t.size) (hd : Con A w R d r ft.snd c2)
    (hB : Basis w w2 b' a (t.size + r.size) ft (c1 ++ c2)) (hn : ft.blocks.Nodup) (hA : addr t ft.fst a p = some (v, ft', some (b', o')))
    (hK : Keeps w w2 R b' ft ft') (hW : Wr w w2 b' o' v.size cs2) :
    Basis w w2 b' a t.size ft.fst c1 ∧ ft.fst.blocks.Nodup ∧ Keeps w w2 R b' ft.fst ft' ∧
    (∀ c' c1' f', Con A w2 R c' t f' c1' → c1'.length = c1.length → (∀ b o, a = some (b, o) → At w2 b o t.size c1') →
      Con A w2 R (.cons c' d) (.cons t r) (.pair f' ft.snd) (c1' ++ c2) ∧ (∀ b o, a = some (b, o) → At w2 b o (t.size + r.size) (c1' ++ c2))) := by
  rw [h0, List.nodup_append] at hn
  obtain ⟨hn1, hn2, hn3⟩ := hn
  obtain ⟨hs1, hs2⟩ := addr_sub _ _ _ _ hA
  refine ⟨fun b o e => ⟨(hB b o e).1.fst hl, fun hm => (hB b o e).2.1 (fst_sub hm), (hB b o e).2.2⟩, hn1, ⟨fun b hm => hK.own b (fst_sub hm), hK.not, hK.ro⟩, fun c' c1' f' hc hlen hat => ⟨⟨by simp [FT.blocks, FT.fst, FT.snd], c1', c2, rfl, by rw [hlen, hl], hc, ?_⟩, fun b o e => ?_⟩⟩
  · refine Con.mono (fun _ _ _ ft _ h => ⟨ft, h, rfl⟩) hK.ro d r ft.snd c2 (fun b hm => hK.own b (snd_sub hm) (fun hm' => hn3 b (hs1 b hm') b hm rfl) (fun e => ?_)) hd
    subst e
    rcases hs2 with ⟨b0, o0, e0, hm0, _⟩ | ⟨d, e0, _⟩
    · simp only [Option.some.injEq, Prod.mk.injEq] at e0; obtain ⟨rfl, rfl⟩ := e0; exact hn3 _ hm0 _ hm rfl
    · cases a with
      | none => cases e0
      | some a => simp only [Option.map_some, Option.some.injEq, Prod.mk.injEq] at e0; obtain ⟨rfl, _⟩ := e0; exact (hB _ _ rfl).2.1 (snd_sub hm)
  · refine (hat b o e).join ?_
    have hat2 : At w b (o + t.size) r.size c2 := (hB b o e).1.snd hl
    by_cases hbb : b = b'
    · subst hbb
      refine hW.apart hat2 (.inr ?_)
      rcases hs2 with ⟨b0, o0, e0, hm0, _⟩ | ⟨d, e0, hd⟩
      · simp only [Option.some.injEq, Prod.mk.injEq] at e0; obtain ⟨rfl, rfl⟩ := e0; exact absurd (fst_sub hm0) (hB _ _ e).2.1
      · subst e; simp only [Option.map_some, Option.some.injEq, Prod.mk.injEq] at e0; obtain ⟨_, rfl⟩ := e0; omega
    · exact hat2.agree ((hB b o e).2.2 hbb)

theorem cons_snd {t r v : Ty} {ft ft' : FT} {c1 c2 : List Value} {a : Option (Nat × Nat)} {p : Path} {b' o' : Nat} {cs2 : List Value} {d : TV}
    (h0 : ft.blocks = ft.fst.blocks ++ ft.snd.blocks) (hl : c1.length = t.size) (hd : Con A w R d t ft.fst c1)
    (hB : Basis w w2 b' a (t.size + r.size) ft (c1 ++ c2)) (hn : ft.blocks.Nodup) (hA : addr r ft.snd (a.map fun x => (x.1, x.2 + t.size)) p = some (v, ft', some (b', o')))
    (hK : Keeps w w2 R b' ft ft') (hW : Wr w w2 b' o' v.size cs2) :
    Basis w w2 b' (a.map fun x => (x.1, x.2 + t.size)) r.size ft.snd c2 ∧ ft.snd.blocks.Nodup ∧ Keeps w w2 R b' ft.snd ft' ∧
    (∀ c' c2' f', Con A w2 R c' r f' c2' → c2'.length = c2.length → (∀ b o, a.map (fun x => (x.1, x.2 + t.size)) = some (b, o) → At w2 b o r.size c2') →
      Con A w2 R (.cons d c') (.cons t r) (.pair ft.fst f') (c1 ++ c2') ∧ (∀ b o, a = some (b, o) → At w2 b o (t.size + r.size) (c1 ++ c2'))) := by
  rw [h0, List.nodup_append] at hn
  obtain ⟨hn1, hn2, hn3⟩ := hn
  obtain ⟨hs1, hs2⟩ := addr_sub _ _ _ _ hA
  refine ⟨fun b o e => ?_, hn2, ⟨fun b hm => hK.own b (snd_sub hm), hK.not, hK.ro⟩, fun c' c2' f' hc hlen hat => ⟨⟨by simp [FT.blocks, FT.fst, FT.snd], c1, c2', rfl, hl, ?_, hc⟩, fun b o e => ?_⟩⟩
  · cases a with
    | none => cases e
    | some a =>
      simp only [Option.map_some, Option.some.injEq, Prod.mk.injEq] at e
      obtain ⟨rfl, rfl⟩ := e
      exact ⟨(hB _ _ rfl).1.snd hl, fun hm => (hB _ _ rfl).2.1 (snd_sub hm), (hB _ _ rfl).2.2⟩
  · refine Con.mono (fun _ _ _ ft _ h => ⟨ft, h, rfl⟩) hK.ro d t ft.fst c1 (fun b hm => hK.own b (fst_sub hm) (fun hm' => hn3 b hm b (hs1 b hm') rfl) (fun e => ?_)) hd
    subst e
    rcases hs2 with ⟨b0, o0, e0, hm0, _⟩ | ⟨d, e0, _⟩
    · simp only [Option.some.injEq, Prod.mk.injEq] at e0; obtain ⟨rfl, rfl⟩ := e0; exact hn3 _ hm _ hm0 rfl
    · cases a with
      | none => cases e0
      | some a => simp only [Option.map_some, Option.some.injEq, Prod.mk.injEq] at e0; obtain ⟨rfl, _⟩ := e0; exact (hB _ _ rfl).2.1 (fst_sub hm)
  · have hat2 : At w b o t.size c1 := (hB b o e).1.fst hl
    refine At.join ?_ (hat b (o + t.size) (by subst e; rfl))
    by_cases hbb : b = b'
    · subst hbb
      refine hW.apart hat2 (.inl ?_)
      rcases hs2 with ⟨b0, o0, e0, hm0, _⟩ | ⟨d, e0, hd⟩
      · simp only [Option.some.injEq, Prod.mk.injEq] at e0; obtain ⟨rfl, rfl⟩ := e0; exact absurd (snd_sub hm0) (hB _ _ e).2.1
      · subst e; simp only [Option.map_some, Option.some.injEq, Prod.mk.injEq] at e0; obtain ⟨_, rfl⟩ := e0; omega
    · exact hat2.agree ((hB b o e).2.2 hbb)

/-- a way to take a content apart -/
def Parts (A : AdrF) (w : World) (R : Nat → Prop) (mk : (t : Ty) → t.den → TV) : Prop :=
  ∀ t r x ft cs, Con A w R (mk (.cons t r) x) (.cons t r) ft cs → ft.blocks = ft.fst.blocks ++ ft.snd.blocks ∧ ∃ c1 c2, cs = c1 ++ c2 ∧ c1.length = t.size ∧
    Con A w R (mk t x.1) t ft.fst c1 ∧ Con A w R (mk r x.2) r ft.snd c2

theorem parts_own : Parts A w R .own := by
  intro t r x ft cs h
  obtain ⟨_, h0, c1, c2, rfl, h1, h2⟩ := h
  exact ⟨h0, c1, c2, rfl, Own.len _ _ _ _ h1, ⟨rfl, h1⟩, ⟨rfl, h2⟩⟩

theorem parts_dat : Parts A w R .dat := by
  intro t r x ft cs h
  obtain ⟨_, hb, c1, c2, rfl, h1, h2⟩ := h
  exact ⟨by rw [hb, fst_nil hb, snd_nil hb]; rfl, c1, c2, rfl, Rd.len _ _ _ h1, ⟨rfl, fst_nil hb, h1⟩, ⟨rfl, snd_nil hb, h2⟩⟩

theorem setO_set {mk : (t : Ty) → t.den → TV} (hmk : Parts A w R mk) {b' o' : Nat} {cs2 : List Value} {u : Ty} {v : TV} {ft' ft2 : FT}
    (hW : Wr w w2 b' o' u.size cs2) (hv : Con A w2 R v u ft2 cs2) :
    ∀ (t : Ty) (x : t.den) (ft : FT) (cs : List Value) (a : Option (Nat × Nat)) (p : Path) (k : TV → Option ρ) (r : ρ),
    Con A w R (mk t x) t ft cs → Basis w w2 b' a t.size ft cs → ft.blocks.Nodup → addr t ft a p = some (u, ft', some (b', o')) → setO mk t x p v k = some r →
    Keeps w w2 R b' ft ft' →
    ∃ (c' : TV) (cs' : List Value), k c' = some r ∧ Con A w2 R c' t (setF t ft p ft2) cs' ∧ cs'.length = cs.length ∧ (∀ b o, a = some (b, o) → At w2 b o t.size cs') := by
  intro t
  induction t with
  | cons t r iht ihr =>
    intro x ft cs a p k res h hB hn hA hS hK
    match p, hA, hS with
    | [], hA, hS =>
      simp only [addr, Option.some.injEq, Prod.mk.injEq] at hA
      obtain ⟨rfl, rfl, rfl⟩ := hA
      exact ⟨v, cs2, by simpa [setO] using hS, hv, by rw [Con.len _ _ _ _ h, hW.len], fun b o e => by simp only [Option.some.injEq, Prod.mk.injEq] at e; obtain ⟨rfl, rfl⟩ := e; exact hW.same⟩
    | .i n :: p, hA, hS => simp [addr] at hA
    | .f 0 :: p, hA, hS =>
      obtain ⟨h0, c1, c2, rfl, hl, h1, h2⟩ := hmk t r x ft cs h
      simp only [addr] at hA
      simp only [setO] at hS
      obtain ⟨g1, g2, g3, g4⟩ := cons_fst h0 hl h2 hB hn hA hK hW
      obtain ⟨c', c1', e1, e2, e3, e4⟩ := iht x.1 ft.fst c1 a p _ res h1 g1 g2 hA hS g3
      obtain ⟨f1, f2⟩ := g4 c' c1' _ e2 e3 e4
      exact ⟨_, _, e1, f1, by simp [e3], f2⟩
    | .f (n + 1) :: p, hA, hS =>
      obtain ⟨h0, c1, c2, rfl, hl, h1, h2⟩ := hmk t r x ft cs h
      simp only [addr] at hA
      simp only [setO] at hS
      obtain ⟨g1, g2, g3, g4⟩ := cons_snd h0 hl h1 hB hn hA hK hW
      obtain ⟨c', c2', e1, e2, e3, e4⟩ := ihr x.2 ft.snd c2 _ (.f n :: p) _ res h2 g1 g2 hA hS g3
      obtain ⟨f1, f2⟩ := g4 c' c2' _ e2 e3 e4
      exact ⟨_, _, e1, f1, by simp [e3], f2⟩
  | _ =>
    intro x ft cs a p k res h hB hn hA hS hK
    cases p with
    | nil =>
      simp only [addr, Option.some.injEq, Prod.mk.injEq] at hA
      obtain ⟨rfl, rfl, rfl⟩ := hA
      exact ⟨v, cs2, by simpa [setO] using hS, hv, by rw [Con.len _ _ _ _ h, hW.len], fun b o e => by simp only [Option.some.injEq, Prod.mk.injEq] at e; obtain ⟨rfl, rfl⟩ := e; exact hW.same⟩
    | cons s p => simp [setO] at hS

theorem Con.set {b' o' : Nat} {cs2 : List Value} {u : Ty} {v : TV} {ft' ft2 : FT}
    (hW : Wr w w2 b' o' u.size cs2) (hv : Con A w2 R v u ft2 cs2) :
    ∀ (c : TV) (t : Ty) (ft : FT) (cs : List Value) (a : Option (Nat × Nat)) (p : Path) (k : TV → Option ρ) (r : ρ),
    Con A w R c t ft cs → Basis w w2 b' a t.size ft cs → ft.blocks.Nodup → addr t ft a p = some (u, ft', some (b', o')) → setC c p v k = some r →
    Keeps w w2 R b' ft ft' →
    ∃ (c' : TV) (cs' : List Value), k c' = some r ∧ Con A w2 R c' t (setF t ft p ft2) cs' ∧ cs'.length = cs.length ∧ (∀ b o, a = some (b, o) → At w2 b o t.size cs') := by
  have nilCase : ∀ (c : TV) (t : Ty) (ft : FT) (cs : List Value) (a : Option (Nat × Nat)) (k : TV → Option ρ) (r : ρ),
      Con A w R c t ft cs → addr t ft a [] = some (u, ft', some (b', o')) → setC c [] v k = some r →
      ∃ (c' : TV) (cs' : List Value), k c' = some r ∧ Con A w2 R c' t (setF t ft [] ft2) cs' ∧ cs'.length = cs.length ∧ (∀ b o, a = some (b, o) → At w2 b o t.size cs') := by
    intro c t ft cs a k r h hA hS
    have e : addr t ft a [] = some (t, ft, a) := by cases t <;> rfl
    have e' : setF t ft [] ft2 = ft2 := by cases t <;> rfl
    have e'' : setC c [] v k = k v := by cases c <;> rfl
    rw [e] at hA
    simp only [Option.some.injEq, Prod.mk.injEq] at hA
    obtain ⟨rfl, rfl, rfl⟩ := hA
    rw [e']
    exact ⟨v, cs2, by rw [← e'']; exact hS, hv, by rw [Con.len _ _ _ _ h, hW.len], fun b o e => by simp only [Option.some.injEq, Prod.mk.injEq] at e; obtain ⟨rfl, rfl⟩ := e; exact hW.same⟩
  intro c
  induction c with
  | own t0 x =>
    intro t ft cs a p k r h hB hn hA hS hK
    cases p with
    | nil => exact nilCase _ _ _ _ _ _ _ h hA hS
    | cons s p =>
      obtain ⟨rfl, h⟩ := h
      have viaT : ∀ (u0 : Ty) (y : u0.den) (hy : Own w2 u0 y ft2 cs2) (_ : u0 = u) , setT t0 x (s :: p) u0 y (fun z => k (.own t0 z)) = some r →
          ∃ (c' : TV) (cs' : List Value), k c' = some r ∧ Con A w2 R c' t0 (setF t0 ft (s :: p) ft2) cs' ∧ cs'.length = cs.length ∧ (∀ b o, a = some (b, o) → At w2 b o t0.size cs') := by
        intro u0 y hy e hS
        subst e
        obtain ⟨_, x', cs', e1, e2, e3, e4⟩ := Own.set hW hy t0 x ft cs a (s :: p) u0 _ r h hB hn hA hS hK.own hK.not
        exact ⟨_, cs', e1, ⟨rfl, e2⟩, e3, e4⟩
      have viaO : setO .own t0 x (s :: p) v k = some r →
          ∃ (c' : TV) (cs' : List Value), k c' = some r ∧ Con A w2 R c' t0 (setF t0 ft (s :: p) ft2) cs' ∧ cs'.length = cs.length ∧ (∀ b o, a = some (b, o) → At w2 b o t0.size cs') :=
        fun hS => setO_set parts_own hW hv t0 x ft cs a (s :: p) k r ⟨rfl, h⟩ hB hn hA hS hK
      simp only [setC] at hS
      split at hS
      · obtain ⟨e, hv⟩ := hv; exact viaT _ _ hv e hS
      · obtain ⟨e, hf, hv'⟩ := hv
        split at hS
        · rename_i hfl
          obtain ⟨hk, rfl⟩ := Rd.flat hfl hv'
          exact viaT _ _ (Own.of_flat hfl hk hf) e hS
        · exact viaO hS
      · exact viaO hS
  | dat t0 x =>
    intro t ft cs a p k r h hB hn hA hS hK
    cases p with
    | nil => exact nilCase _ _ _ _ _ _ _ h hA hS
    | cons s p =>
      have ht : t0 = t := h.1
      subst ht
      exact setO_set parts_dat hW hv t0 x ft cs a (s :: p) k r h hB hn hA (by simpa [setC] using hS) hK
  | cons c d ihc ihd =>
    intro t ft cs a p k r h hB hn hA hS hK
    match p, hA, hS with
    | [], hA, hS => exact nilCase _ _ _ _ _ _ _ h hA hS
    | .i n :: p, hA, hS => simp [setC] at hS
    | .f 0 :: p, hA, hS =>
      cases t <;> try exact h.elim
      obtain ⟨h0, c1, c2, rfl, hl, h1, h2⟩ := h
      simp only [addr] at hA
      simp only [setC] at hS
      obtain ⟨g1, g2, g3, g4⟩ := cons_fst h0 hl h2 hB hn hA hK hW
      obtain ⟨c', c1', e1, e2, e3, e4⟩ := ihc _ _ c1 a p _ r h1 g1 g2 hA hS g3
      obtain ⟨f1, f2⟩ := g4 c' c1' _ e2 e3 e4
      exact ⟨_, _, e1, f1, by simp [e3], f2⟩
    | .f (n + 1) :: p, hA, hS =>
      cases t <;> try exact h.elim
      obtain ⟨h0, c1, c2, rfl, hl, h1, h2⟩ := h
      simp only [addr] at hA
      simp only [setC] at hS
      obtain ⟨g1, g2, g3, g4⟩ := cons_snd h0 hl h1 hB hn hA hK hW
      obtain ⟨c', c2', e1, e2, e3, e4⟩ := ihd _ _ c2 _ (.f n :: p) _ r h2 g1 g2 hA hS g3
      obtain ⟨f1, f2⟩ := g4 c' c2' _ e2 e3 e4
      exact ⟨_, _, e1, f1, by simp [e3], f2⟩
  | _ =>
    intro t ft cs a p k r h hB hn hA hS hK
    cases p with
    | nil => exact nilCase _ _ _ _ _ _ _ h hA hS
    | cons s p => simp [setC] at hS
end
end Go.TM
/-! ## TmL -/
namespace Go.TM
set_option autoImplicit false

theorem flat_addr : ∀ (t : Ty) (ft : FT) (a : Option (Nat × Nat)) (q : Path) {v : Ty} {fq : FT} {aq : Option (Nat × Nat)}, t.flat = true → addr t ft a q = some (v, fq, aq) →
    v.flat = true ∧ ∀ ft2, ∃ fq2, addr t ft2 a q = some (v, fq2, aq) := by
  intro t
  induction t with
  | cons t r iht ihr =>
    intro ft a q v fq aq hf h
    simp only [Ty.flat, Bool.and_eq_true] at hf
    match q, h with
    | [], h => simp only [addr, Option.some.injEq, Prod.mk.injEq] at h; obtain ⟨rfl, rfl, rfl⟩ := h; exact ⟨by simp [Ty.flat, hf], fun ft2 => ⟨ft2, rfl⟩⟩
    | .f 0 :: q, h => obtain ⟨h1, h2⟩ := iht _ _ _ hf.1 h; exact ⟨h1, fun ft2 => h2 ft2.fst⟩
    | .f (n + 1) :: q, h => obtain ⟨h1, h2⟩ := ihr _ _ _ hf.2 h; exact ⟨h1, fun ft2 => h2 ft2.snd⟩
    | .i n :: q, h => simp [addr] at h
  | slice t _ => intro ft a q v fq aq hf h; simp [Ty.flat] at hf
  | opq => intro ft a q v fq aq hf h; simp [Ty.flat] at hf
  | arr m t _ =>
    intro ft a q v fq aq hf h
    match q, h with
    | [], h => simp only [addr, Option.some.injEq, Prod.mk.injEq] at h; obtain ⟨rfl, rfl, rfl⟩ := h; exact ⟨hf, fun ft2 => ⟨ft2, rfl⟩⟩
    | .f n :: q, h => simp [addr] at h
    | .i n :: s :: q, h => simp [addr] at h
    | [.i n], h =>
      simp only [addr] at h
      split at h
      · cases h
      · rename_i hc
        simp only [Option.some.injEq, Prod.mk.injEq] at h; obtain ⟨rfl, rfl, rfl⟩ := h
        exact ⟨hf, fun ft2 => ⟨.leaf, by simp only [addr]; rw [if_neg hc]⟩⟩
  | _ =>
    intro ft a q v fq aq hf h
    cases q with
    | nil => simp only [addr, Option.some.injEq, Prod.mk.injEq] at h; obtain ⟨rfl, rfl, rfl⟩ := h; exact ⟨hf, fun ft2 => ⟨ft2, rfl⟩⟩
    | cons s q => cases s <;> simp [addr] at h

theorem hdrT_flat {t : Ty} (h : t.flat = true) (f g : FT) : hdrT t f = hdrT t g := by
  cases t <;> first | rfl | simp [Ty.flat] at h

/-- where flat data is written nothing leads elsewhere -/
theorem addr_setF_flat : ∀ (t : Ty) (ft : FT) (a : Option (Nat × Nat)) (p q : Path) (f : FT) {u v : Ty} {fp fq : FT} {ap aq : Option (Nat × Nat)},
    u.flat = true → addr t ft a p = some (u, fp, ap) → addr t ft a q = some (v, fq, aq) →
    ∃ fq', addr t (setF t ft p f) a q = some (v, fq', aq) ∧ hdrT v fq' = hdrT v fq := by
  intro t
  have nilCase : ∀ (t : Ty) (ft : FT) (a : Option (Nat × Nat)) (q : Path) (f : FT) {u v : Ty} {fp fq : FT} {ap aq : Option (Nat × Nat)},
      u.flat = true → addr t ft a [] = some (u, fp, ap) → addr t ft a q = some (v, fq, aq) → ∃ fq', addr t f a q = some (v, fq', aq) ∧ hdrT v fq' = hdrT v fq := by
    intro t ft a q f u v fp fq ap aq hf hp hq
    have e : addr t ft a [] = some (t, ft, a) := by cases t <;> rfl
    rw [e] at hp
    simp only [Option.some.injEq, Prod.mk.injEq] at hp
    obtain ⟨rfl, rfl, rfl⟩ := hp
    obtain ⟨h1, h2⟩ := flat_addr _ _ _ _ hf hq
    obtain ⟨fq2, h3⟩ := h2 f
    exact ⟨fq2, h3, hdrT_flat h1 _ _⟩
  induction t with
  | cons t r iht ihr =>
    intro ft a p q f u v fp fq ap aq hf hp hq
    match p, hp with
    | [], hp => exact nilCase _ _ _ _ _ hf hp hq
    | .i n :: p, hp => simp [addr] at hp
    | .f 0 :: p, hp =>
      match q, hq with
      | [], hq => simp only [addr, Option.some.injEq, Prod.mk.injEq] at hq; obtain ⟨rfl, rfl, rfl⟩ := hq; exact ⟨_, rfl, rfl⟩
      | .i n :: q, hq => simp [addr] at hq
      | .f 0 :: q, hq =>
        simp only [addr] at hp hq
        simpa [addr, setF, FT.fst] using iht _ _ p q f hf hp hq
      | .f (n + 1) :: q, hq => simp only [addr] at hq; exact ⟨fq, by simpa [addr, setF, FT.snd] using hq, rfl⟩
    | .f (m + 1) :: p, hp =>
      match q, hq with
      | [], hq => simp only [addr, Option.some.injEq, Prod.mk.injEq] at hq; obtain ⟨rfl, rfl, rfl⟩ := hq; exact ⟨_, rfl, rfl⟩
      | .i n :: q, hq => simp [addr] at hq
      | .f 0 :: q, hq => simp only [addr] at hq; exact ⟨fq, by simpa [addr, setF, FT.fst] using hq, rfl⟩
      | .f (n + 1) :: q, hq =>
        simp only [addr] at hp hq
        have := ihr _ _ (.f m :: p) (.f n :: q) f hf hp hq
        simp only [addr, setF, FT.snd]
        exact this
  | slice t iht =>
    intro ft a p q f u v fp fq ap aq hf hp hq
    match p, hp with
    | [], hp => exact nilCase _ _ _ _ _ hf hp hq
    | .f n :: p, hp => simp [addr] at hp
    | .i n :: p, hp =>
      match ft, hp, hq with
      | .leaf, hp, _ => simp [addr] at hp
      | .pair _ _, hp, _ => simp [addr] at hp
      | .node none _ _, hp, _ => simp [addr] at hp
      | .node (some b) cap ks, hp, hq =>
        simp only [addr] at hp
        split at hp
        · rename_i kn hk
          match q, hq with
          | [], hq =>
            simp only [addr, Option.some.injEq, Prod.mk.injEq] at hq; obtain ⟨rfl, rfl, rfl⟩ := hq
            exact ⟨_, rfl, by simp [hdrT, FT.hdr, setF, hk]⟩
          | .f n :: q, hq => simp [addr] at hq
          | .i m :: q, hq =>
            simp only [addr] at hq
            split at hq
            · rename_i km hm
              by_cases hmn : m = n
              · subst hmn
                rw [hk] at hm
                obtain rfl := Option.some.inj hm
                have hset : (ks.set m (setF t kn p f))[m]? = some (setF t kn p f) := by
                  rw [List.getElem?_set_self (List.getElem?_eq_some_iff.1 hk).1]
                simpa [addr, setF, hk, hset] using iht _ _ p q f hf hp hq
              · have hset : (ks.set n (setF t kn p f))[m]? = some km := by rw [List.getElem?_set_ne (Ne.symm hmn)]; exact hm
                exact ⟨fq, by simp only [setF, hk, addr, hset]; exact hq, rfl⟩
            · cases hq
        · cases hp
  | arr m t _ =>
    intro ft a p q f u v fp fq ap aq hf hp hq
    match p, hp with
    | [], hp => exact nilCase _ _ _ _ _ hf hp hq
    | .f n :: p, hp => simp [addr] at hp
    | .i n :: s :: p, hp => simp [addr] at hp
    | [.i n], hp =>
      have e : setF (.arr m t) ft [.i n] f = ft := by cases ft <;> rfl
      rw [e]
      exact ⟨fq, hq, rfl⟩
  | _ =>
    intro ft a p q f u v fp fq ap aq hf hp hq
    cases p with
    | nil => exact nilCase _ _ _ _ _ hf hp hq
    | cons s p => simp [addr] at hp

theorem blocksL_set {ks : List FT} {n : Nat} {k k' : FT} (hk : ks[n]? = some k) {b : Nat} (h : b ∈ FT.blocksL (ks.set n k')) : b ∈ k'.blocks ∨ ∃ i ki, i ≠ n ∧ ks[i]? = some ki ∧ b ∈ ki.blocks := by
  obtain ⟨x, hx, hb⟩ := mem_blocksL h
  obtain ⟨i, hi⟩ := List.mem_iff_getElem?.1 hx
  by_cases e : i = n
  · subst e
    rw [List.getElem?_set_self (List.getElem?_eq_some_iff.1 hk).1] at hi
    obtain rfl := Option.some.inj hi
    exact .inl hb
  · rw [List.getElem?_set_ne (Ne.symm e)] at hi
    exact .inr ⟨i, x, e, hi, hb⟩

theorem nodup_blocksL_set {ks : List FT} {n : Nat} {k k' : FT} (hk : ks[n]? = some k) (h : (FT.blocksL ks).Nodup) (hk' : k'.blocks.Nodup)
    (hd : ∀ b ∈ k'.blocks, b ∈ k.blocks ∨ b ∉ FT.blocksL ks) : (FT.blocksL (ks.set n k')).Nodup := by
  induction ks generalizing n with
  | nil => simp at hk
  | cons k0 ks ih =>
    simp only [FT.blocksL, List.nodup_append] at h
    obtain ⟨h1, h2, h3⟩ := h
    cases n with
    | zero =>
      simp only [List.getElem?_cons_zero, Option.some.injEq] at hk
      subst hk
      simp only [List.set_cons_zero, FT.blocksL, List.nodup_append]
      refine ⟨hk', h2, fun b hb c hc e => ?_⟩
      subst e
      rcases hd b hb with h | h
      · exact h3 b h b hc rfl
      · exact h (by simp [FT.blocksL, hc])
    | succ n =>
      simp only [List.getElem?_cons_succ] at hk
      simp only [List.set_cons_succ, FT.blocksL, List.nodup_append]
      refine ⟨h1, ih hk h2 (fun b hb => (hd b hb).imp id fun h h' => h (by simp [FT.blocksL, h'])), fun b hb c hc e => ?_⟩
      subst e
      rcases blocksL_set hk hc with h | ⟨i, ki, _, hi, hb'⟩
      · rcases hd b h with h | h
        · exact h3 b hb b (blocksL_mem (List.mem_of_getElem? hk) h) rfl
        · exact h (by simp [FT.blocksL, hb])
      · exact h3 b hb b (blocksL_mem (List.mem_of_getElem? hi) hb') rfl

/-- the blocks of a tree of which a part is another one -/
theorem setF_blocks : ∀ (t : Ty) (ft : FT) (a : Option (Nat × Nat)) (p : Path) (f : FT) {u : Ty} {fp : FT} {ap : Option (Nat × Nat)},
    addr t ft a p = some (u, fp, ap) → ft.blocks.Nodup → f.blocks.Nodup → (∀ b ∈ f.blocks, b ∈ fp.blocks ∨ b ∉ ft.blocks) →
    (setF t ft p f).blocks.Nodup ∧ ∀ b ∈ (setF t ft p f).blocks, b ∈ f.blocks ∨ (b ∈ ft.blocks ∧ b ∉ fp.blocks) := by
  intro t
  have consB : ∀ ft : FT, ft.blocks.Nodup → (ft.fst.blocks ++ ft.snd.blocks).Nodup := by
    intro ft h
    cases ft with
    | pair a d => simpa [FT.blocks, FT.fst, FT.snd] using h
    | _ => simp [FT.blocks, FT.fst, FT.snd]
  induction t with
  | cons t r iht ihr =>
    intro ft a p f u fp ap hA hn hf hd
    match p, hA with
    | [], hA => simp only [addr, Option.some.injEq, Prod.mk.injEq] at hA; obtain ⟨rfl, rfl, rfl⟩ := hA; exact ⟨hf, fun b h => .inl h⟩
    | .i n :: p, hA => simp [addr] at hA
    | .f 0 :: p, hA =>
      have hn' := consB ft hn
      rw [List.nodup_append] at hn'
      obtain ⟨n1, n2, n3⟩ := hn'
      simp only [addr] at hA
      obtain ⟨s1, _⟩ := addr_sub _ _ _ _ hA
      obtain ⟨h1, h2⟩ := iht ft.fst a p f hA n1 hf (fun b hb => (hd b hb).imp id fun h h' => h (fst_sub h'))
      simp only [setF, FT.blocks, List.nodup_append, List.mem_append]
      refine ⟨⟨h1, n2, fun b hb c hc e => ?_⟩, fun b hb => ?_⟩
      · subst e
        rcases h2 b hb with h | h
        · rcases hd b h with h | h
          · exact n3 b (s1 b h) b hc rfl
          · exact h (snd_sub hc)
        · exact n3 b h.1 b hc rfl
      · rcases hb with hb | hb
        · exact (h2 b hb).imp id fun h => ⟨fst_sub h.1, h.2⟩
        · exact .inr ⟨snd_sub hb, fun h => n3 b (s1 b h) b hb rfl⟩
    | .f (n + 1) :: p, hA =>
      have hn' := consB ft hn
      rw [List.nodup_append] at hn'
      obtain ⟨n1, n2, n3⟩ := hn'
      simp only [addr] at hA
      obtain ⟨s1, _⟩ := addr_sub _ _ _ _ hA
      obtain ⟨h1, h2⟩ := ihr ft.snd _ (.f n :: p) f hA n2 hf (fun b hb => (hd b hb).imp id fun h h' => h (snd_sub h'))
      simp only [setF, FT.blocks, List.nodup_append, List.mem_append]
      refine ⟨⟨n1, h1, fun b hb c hc e => ?_⟩, fun b hb => ?_⟩
      · subst e
        rcases h2 b hc with h | h
        · rcases hd b h with h | h
          · exact n3 b hb b (s1 b h) rfl
          · exact h (fst_sub hb)
        · exact n3 b hb b h.1 rfl
      · rcases hb with hb | hb
        · exact .inr ⟨fst_sub hb, fun h => n3 b hb b (s1 b h) rfl⟩
        · exact (h2 b hb).imp id fun h => ⟨snd_sub h.1, h.2⟩
  | slice t iht =>
    intro ft a p f u fp ap hA hn hf hd
    match p, hA with
    | [], hA => simp only [addr, Option.some.injEq, Prod.mk.injEq] at hA; obtain ⟨rfl, rfl, rfl⟩ := hA; exact ⟨hf, fun b h => .inl h⟩
    | .f n :: p, hA => simp [addr] at hA
    | .i n :: p, hA =>
      match ft, hA, hn, hd with
      | .leaf, hA, _, _ => simp [addr] at hA
      | .pair _ _, hA, _, _ => simp [addr] at hA
      | .node none _ _, hA, _, _ => simp [addr] at hA
      | .node (some b0) cap ks, hA, hn, hd =>
        simp only [addr] at hA
        split at hA
        · rename_i kn hk
          simp only [FT.blocks, Option.toList_some, List.singleton_append, List.nodup_cons] at hn
          obtain ⟨m1, m2⟩ := blocksL_set_nodup hk hn.2
          have hmk := List.mem_of_getElem? hk
          obtain ⟨s1, _⟩ := addr_sub _ _ _ _ hA
          obtain ⟨h1, h2⟩ := iht kn _ p f hA m1 hf (fun b hb => (hd b hb).imp id fun h h' => h (by simp only [FT.blocks, List.mem_append]; exact .inr (blocksL_mem hmk h')))
          have hdk : ∀ b ∈ (setF t kn p f).blocks, b ∈ kn.blocks ∨ b ∉ FT.blocksL ks := fun b hb => by
            rcases h2 b hb with h | h
            · rcases hd b h with h | h
              · exact .inl (s1 b h)
              · exact .inr fun h' => h (by simp only [FT.blocks, List.mem_append]; exact .inr h')
            · exact .inl h.1
          simp only [setF, hk, FT.blocks, Option.toList_some, List.singleton_append, List.nodup_cons, List.mem_cons]
          refine ⟨⟨fun h => ?_, nodup_blocksL_set hk hn.2 h1 hdk⟩, fun b hb => ?_⟩
          · rcases blocksL_set hk h with h | ⟨i, ki, _, hi, hb⟩
            · rcases h2 _ h with h | h
              · rcases hd _ h with h | h
                · exact hn.1 (blocksL_mem hmk (s1 _ h))
                · exact h (by simp [FT.blocks])
              · exact hn.1 (blocksL_mem hmk h.1)
            · exact hn.1 (blocksL_mem (List.mem_of_getElem? hi) hb)
          · rcases hb with rfl | hb
            · exact .inr ⟨.inl rfl, fun h => hn.1 (blocksL_mem hmk (s1 _ h))⟩
            · rcases blocksL_set hk hb with h | ⟨i, ki, hin, hi, hb⟩
              · exact (h2 b h).imp id fun h => ⟨.inr (blocksL_mem hmk h.1), h.2⟩
              · exact .inr ⟨.inr (blocksL_mem (List.mem_of_getElem? hi) hb), fun h => m2 i ki hin hi b hb (s1 b h)⟩
        · cases hA
  | arr m t _ =>
    intro ft a p f u fp ap hA hn hf hd
    match p, hA with
    | [], hA => simp only [addr, Option.some.injEq, Prod.mk.injEq] at hA; obtain ⟨rfl, rfl, rfl⟩ := hA; exact ⟨hf, fun b h => .inl h⟩
    | .f n :: p, hA => simp [addr] at hA
    | .i n :: s :: p, hA => simp [addr] at hA
    | [.i n], hA =>
      have e : setF (.arr m t) ft [.i n] f = ft := by cases ft <;> rfl
      rw [e]
      simp only [addr] at hA
      split at hA
      · cases hA
      · simp only [Option.some.injEq, Prod.mk.injEq] at hA; obtain ⟨_, rfl, _⟩ := hA
        exact ⟨hn, fun b h => .inr ⟨h, by simp [FT.blocks]⟩⟩
  | _ =>
    intro ft a p f u fp ap hA hn hf hd
    cases p with
    | nil => simp only [addr, Option.some.injEq, Prod.mk.injEq] at hA; obtain ⟨rfl, rfl, rfl⟩ := hA; exact ⟨hf, fun b h => .inl h⟩
    | cons s p => simp [addr] at hA
end Go.TM
/-! ## TmM -/
namespace Go.TM
set_option autoImplicit false

theorem beq_false {m n : Nat} (h : m ≠ n) : Nat.beq m n = false := by
  cases e : Nat.beq m n
  · rfl
  · exact absurd (Nat.eq_of_beq_eq_true e) h

section
variable {α : Type}
theorem lk_cons (k : Nat) (v : α) (l : List (Nat × α)) (n : Nat) : lk ((k, v) :: l) n = if k = n then some v else lk l n := by
  simp only [lk]
  by_cases h : k = n
  · subst h; simp [Nat.beq_refl]
  · simp [beq_false h, h]

theorem lk_upd (l : List (Nat × α)) (n : Nat) (v : α) (m : Nat) : lk (upd l n v) m = if n = m then (lk l m).map (fun _ => v) else lk l m := by
  induction l with
  | nil => simp [upd, lk]
  | cons a l ih =>
    obtain ⟨k, x⟩ := a
    simp only [upd]
    by_cases hk : k = n
    · subst hk
      simp only [Nat.beq_refl, if_true, lk_cons]
      by_cases h : k = m <;> simp [h]
    · simp only [beq_false hk, Bool.false_eq_true, if_false, lk_cons, ih]
      by_cases h : k = m
      · subst h; simp [Ne.symm hk]
      · simp [h]

theorem lk_map {β : Type} (f : α → β) (l : List (Nat × α)) (n : Nat) : lk (l.map fun x => (x.1, f x.2)) n = (lk l n).map f := by
  induction l with
  | nil => rfl
  | cons a l ih =>
    obtain ⟨k, x⟩ := a
    simp only [List.map_cons, lk_cons, ih]
    by_cases h : k = n <;> simp [h]
end

theorem get_put (s : St) (d n : Nat) (v : TV) : (s.put d v).get n = if d = n then v else s.get n := by
  simp only [St.get, St.put, lk_cons]
  by_cases h : d = n <;> simp [h]
theorem box_put (s : St) (d : Nat) (v : TV) : (s.put d v).box = s.box := rfl
theorem get_kill (s : St) (b : Nat) (p : Path) (n : Nat) : (s.kill b p).get n = (s.get n).kill b p := by
  simp only [St.get, St.kill, lk_map]
  cases lk s.tmps n <;> rfl
theorem box_kill (s : St) (b : Nat) (p : Path) (n : Nat) : (s.kill b p).box n = (s.box n).map (Box.kill b p) := by
  simp only [St.box, St.kill, lk_map]
theorem get_setBox (s : St) (b : Nat) (x : Box) (n : Nat) : (s.setBox b x).get n = s.get n := rfl
theorem box_setBox (s : St) (b : Nat) (x y : Box) (h : s.box b = some y) (n : Nat) : (s.setBox b x).box n = if b = n then some x else s.box n := by
  simp only [St.box, St.setBox, lk_upd] at *
  by_cases e : b = n
  · subst e; simp [h]
  · simp [e]

section
variable {ρ : Type}

theorem setT_val : ∀ (t : Ty) (x : t.den) (p : Path) (u : Ty) (y : u.den) (k : t.den → Option ρ) (r : ρ), setT t x p u y k = some r →
    ∃ x' : t.den, k x' = some r ∧ ∀ {σ : Type} (k' : t.den → Option σ), setT t x p u y k' = k' x' := by
  intro t
  have nilCase : ∀ (t : Ty) (x : t.den) (u : Ty) (y : u.den) (k : t.den → Option ρ) (r : ρ), setT t x [] u y k = some r →
      ∃ x' : t.den, k x' = some r ∧ ∀ {σ : Type} (k' : t.den → Option σ), setT t x [] u y k' = k' x' := by
    intro t x u y k r h
    have e : ∀ {σ : Type} (k' : t.den → Option σ), setT t x [] u y k' = match castTo u t y with | some z => k' z | none => none := by cases t <;> intros <;> rfl
    rw [e] at h
    split at h
    · rename_i z hz; exact ⟨z, h, fun k' => by rw [e, hz]⟩
    · cases h
  induction t with
  | cons t r iht ihr =>
    intro x p u y k res h
    match p, h with
    | [], h => exact nilCase _ _ _ _ _ _ h
    | .f 0 :: p, h =>
      obtain ⟨a, h1, h2⟩ := iht x.1 p u y _ res (by simpa [setT] using h)
      exact ⟨_, h1, fun k' => by simp only [setT]; rw [h2]⟩
    | .f (n + 1) :: p, h =>
      obtain ⟨a, h1, h2⟩ := ihr x.2 (.f n :: p) u y _ res (by simpa [setT] using h)
      exact ⟨_, h1, fun k' => by simp only [setT]; rw [h2]⟩
    | .i n :: p, h => simp [setT] at h
  | slice t iht =>
    intro x p u y k res h
    match p, h with
    | [], h => exact nilCase _ _ _ _ _ _ h
    | .f n :: p, h => simp [setT] at h
    | .i n :: p, h =>
      simp only [setT] at h
      split at h
      · rename_i xn hx
        obtain ⟨a, h1, h2⟩ := iht xn p u y _ res h
        exact ⟨_, h1, fun k' => by simp only [setT, hx]; rw [h2]⟩
      · cases h
  | arr m t iht =>
    intro x p u y k res h
    match p, h with
    | [], h => exact nilCase _ _ _ _ _ _ h
    | .f n :: p, h => simp [setT] at h
    | .i n :: p, h =>
      simp only [setT] at h
      split at h
      · cases h
      · rename_i hag
        split at h
        · rename_i xn hx
          obtain ⟨a, h1, h2⟩ := iht xn p u y _ res h
          exact ⟨_, h1, fun k' => by simp only [setT, hx]; rw [if_neg hag, h2]⟩
        · cases h
  | _ =>
    intro x p u y k res h
    cases p with
    | nil => exact nilCase _ _ _ _ _ _ h
    | cons s p => simp [setT] at h

theorem setO_kill {mk : (t : Ty) → t.den → TV} (b : Nat) (q : Path) (hmk : ∀ t x, (mk t x).kill b q = mk t x) : ∀ (t : Ty) (x : t.den) (p : Path) (v : TV) (k : TV → Option ρ) (r : ρ), setO mk t x p v k = some r →
    ∃ c', k c' = some r ∧ ∀ {σ : Type} (k' : TV → Option σ), setO mk t x p (v.kill b q) k' = k' (c'.kill b q) := by
  intro t
  induction t with
  | cons t r iht ihr =>
    intro x p v k res h
    match p, h with
    | [], h => exact ⟨v, by simpa [setO] using h, fun k' => by simp [setO]⟩
    | .f 0 :: p, h =>
      obtain ⟨a, h1, h2⟩ := iht x.1 p v _ res (by simpa [setO] using h)
      exact ⟨_, h1, fun k' => by simp only [setO]; rw [h2]; simp only [TV.kill, hmk]⟩
    | .f (n + 1) :: p, h =>
      obtain ⟨a, h1, h2⟩ := ihr x.2 (.f n :: p) v _ res (by simpa [setO] using h)
      exact ⟨_, h1, fun k' => by simp only [setO]; rw [h2]; simp only [TV.kill, hmk]⟩
    | .i n :: p, h => simp [setO] at h
  | _ =>
    intro x p v k res h
    cases p with
    | nil => exact ⟨v, by simpa [setO] using h, fun k' => by simp [setO]⟩
    | cons s p => simp [setO] at h

theorem kill_own {b : Nat} {q : Path} {t : Ty} {x : t.den} : (TV.own t x).kill b q = .own t x := rfl
theorem kill_dat {b : Nat} {q : Path} {t : Ty} {x : t.den} : (TV.dat t x).kill b q = .dat t x := rfl

theorem setC_kill (b : Nat) (q : Path) : ∀ (c : TV) (p : Path) (v : TV) (k : TV → Option ρ) (r : ρ), setC c p v k = some r →
    ∃ c', k c' = some r ∧ ∀ {σ : Type} (k' : TV → Option σ), setC (c.kill b q) p (v.kill b q) k' = k' (c'.kill b q) := by
  have nilCase : ∀ (c : TV) (v : TV) (k : TV → Option ρ) (r : ρ), setC c [] v k = some r →
      ∃ c', k c' = some r ∧ ∀ {σ : Type} (k' : TV → Option σ), setC (c.kill b q) [] (v.kill b q) k' = k' (c'.kill b q) := by
    intro c v k r h
    have e : ∀ (c : TV) (v : TV) {σ : Type} (k' : TV → Option σ), setC c [] v k' = k' v := by intro c v σ k'; cases c <;> rfl
    exact ⟨v, by rw [e] at h; exact h, fun k' => e _ _ _⟩
  intro c
  induction c with
  | own t x =>
    intro p v k r h
    cases p with
    | nil => exact nilCase _ _ _ _ h
    | cons s p =>
      have viaO : ∀ v : TV, (∀ {σ : Type} (k' : TV → Option σ), setC (.own t x) (s :: p) (v.kill b q) k' = setO .own t x (s :: p) (v.kill b q) k') → setO .own t x (s :: p) v k = some r →
          ∃ c', k c' = some r ∧ ∀ {σ : Type} (k' : TV → Option σ), setC ((TV.own t x).kill b q) (s :: p) (v.kill b q) k' = k' (c'.kill b q) := by
        intro v e hS
        obtain ⟨c', h1, h2⟩ := setO_kill b q (fun _ _ => kill_own) t x (s :: p) v k r hS
        exact ⟨c', h1, fun k' => by rw [kill_own, e, h2]⟩
      cases v with
      | own u y =>
        obtain ⟨x', h1, h2⟩ := setT_val t x (s :: p) u y _ r (by simpa [setC] using h)
        exact ⟨_, h1, fun k' => by simp only [TV.kill, setC]; rw [h2]⟩
      | dat u y =>
        simp only [setC] at h
        split at h
        · rename_i hf
          obtain ⟨x', h1, h2⟩ := setT_val t x (s :: p) u y _ r h
          exact ⟨_, h1, fun k' => by simp only [TV.kill, setC, hf, if_true]; rw [h2]⟩
        · rename_i hf
          exact viaO _ (fun k' => by simp only [TV.kill, setC]; rw [if_neg hf]) h
      | ref c0 q0 =>
        refine viaO _ (fun k' => ?_) (by simpa [setC] using h)
        rcases (kill_cases b q c0 q0 0 0).1 with e | e <;> rw [e] <;> simp [setC]
      | sl c0 q0 =>
        refine viaO _ (fun k' => ?_) (by simpa [setC] using h)
        rcases (kill_cases b q c0 q0 0 0).2.1 with e | e <;> rw [e] <;> simp [setC]
      | slw c0 q0 lo n =>
        refine viaO _ (fun k' => ?_) (by simpa [setC] using h)
        rcases (kill_cases b q c0 q0 lo n).2.2 with e | e <;> rw [e] <;> simp [setC]
      | _ => exact viaO _ (fun k' => by simp [TV.kill, setC]) (by simpa [setC] using h)
  | dat t x =>
    intro p v k r h
    cases p with
    | nil => exact nilCase _ _ _ _ h
    | cons s p =>
      obtain ⟨c', h1, h2⟩ := setO_kill b q (fun _ _ => kill_dat) t x (s :: p) v k r (by simpa [setC] using h)
      exact ⟨c', h1, fun k' => by simp only [TV.kill, setC]; rw [h2]⟩
  | cons a d iha ihd =>
    intro p v k r h
    match p, h with
    | [], h => exact nilCase _ _ _ _ h
    | .i n :: p, h => simp [setC] at h
    | .f 0 :: p, h =>
      obtain ⟨c', h1, h2⟩ := iha p v _ r (by simpa [setC] using h)
      exact ⟨_, h1, fun k' => by simp only [TV.kill, setC]; rw [h2]⟩
    | .f (n + 1) :: p, h =>
      obtain ⟨c', h1, h2⟩ := ihd (.f n :: p) v _ r (by simpa [setC] using h)
      exact ⟨_, h1, fun k' => by simp only [TV.kill, setC]; rw [h2]⟩
  | _ =>
    intro p v k r h
    cases p with
    | nil => exact nilCase _ _ _ _ h
    | cons s p => simp [setC] at h

theorem setC_val (c : TV) (p : Path) (v : TV) (k : TV → Option ρ) (r : ρ) (h : setC c p v k = some r) :
    ∃ c', k c' = some r ∧ ∀ {σ : Type} (k' : TV → Option σ), setC c p v k' = k' c' := by
  have oCase : ∀ (mk : (t : Ty) → t.den → TV) (t : Ty) (x : t.den) (p : Path) (k : TV → Option ρ) (r : ρ), setO mk t x p v k = some r → ∃ c', k c' = some r ∧ ∀ {σ : Type} (k' : TV → Option σ), setO mk t x p v k' = k' c' := by
    intro mk t
    induction t with
    | cons t r iht ihr =>
      intro x p k res h
      match p, h with
      | [], h => exact ⟨v, by simpa [setO] using h, fun k' => by simp [setO]⟩
      | .f 0 :: p, h =>
        obtain ⟨a, h1, h2⟩ := iht x.1 p _ res (by simpa [setO] using h)
        exact ⟨_, h1, fun k' => by simp only [setO]; rw [h2]⟩
      | .f (n + 1) :: p, h =>
        obtain ⟨a, h1, h2⟩ := ihr x.2 (.f n :: p) _ res (by simpa [setO] using h)
        exact ⟨_, h1, fun k' => by simp only [setO]; rw [h2]⟩
      | .i n :: p, h => simp [setO] at h
    | _ =>
      intro x p k res h
      cases p with
      | nil => exact ⟨v, by simpa [setO] using h, fun k' => by simp [setO]⟩
      | cons s p => simp [setO] at h
  have key : ∀ (c : TV) (p : Path) (k : TV → Option ρ) (r : ρ), setC c p v k = some r → ∃ c', k c' = some r ∧ ∀ {σ : Type} (k' : TV → Option σ), setC c p v k' = k' c' := by
    intro c
    induction c with
    | own t x =>
      intro p k r h
      cases p with
      | nil => exact ⟨v, h, fun k' => rfl⟩
      | cons s p =>
        cases v with
        | own u y =>
          obtain ⟨x', h1, h2⟩ := setT_val t x (s :: p) u y _ r (by simpa [setC] using h)
          exact ⟨_, h1, fun k' => by simp only [setC]; rw [h2]⟩
        | dat u y =>
          simp only [setC] at h
          split at h
          · rename_i hf
            obtain ⟨x', h1, h2⟩ := setT_val t x (s :: p) u y _ r h
            exact ⟨_, h1, fun k' => by simp only [setC, hf, if_true]; rw [h2]⟩
          · rename_i hf
            obtain ⟨c', h1, h2⟩ := oCase .own t x (s :: p) k r h
            exact ⟨c', h1, fun k' => by simp only [setC]; rw [if_neg hf, h2]⟩
        | _ =>
          obtain ⟨c', h1, h2⟩ := oCase .own t x (s :: p) k r (by simpa [setC] using h)
          exact ⟨c', h1, fun k' => by simp only [setC]; rw [h2]⟩
    | dat t x =>
      intro p k r h
      cases p with
      | nil => exact ⟨v, h, fun k' => rfl⟩
      | cons s p =>
        obtain ⟨c', h1, h2⟩ := oCase .dat t x (s :: p) k r (by simpa [setC] using h)
        exact ⟨c', h1, fun k' => by simp only [setC]; rw [h2]⟩
    | cons a d iha ihd =>
      intro p k r h
      match p, h with
      | [], h => exact ⟨v, h, fun k' => rfl⟩
      | .i n :: p, h => simp [setC] at h
      | .f 0 :: p, h =>
        obtain ⟨c', h1, h2⟩ := iha p _ r (by simpa [setC] using h)
        exact ⟨_, h1, fun k' => by simp only [setC]; rw [h2]⟩
      | .f (n + 1) :: p, h =>
        obtain ⟨c', h1, h2⟩ := ihd (.f n :: p) _ r (by simpa [setC] using h)
        exact ⟨_, h1, fun k' => by simp only [setC]; rw [h2]⟩
    | _ =>
      intro p k r h
      cases p with
      | nil => exact ⟨v, h, fun k' => rfl⟩
      | cons s p => simp [setC] at h
  exact key c p k r h
end
end Go.TM
/-! ## TmN -/
namespace Go.TM
set_option autoImplicit false

def Box.with (x : Box) (c : TV) : Box := { x with c := c }

section
variable {F : Fr} {G : Nat → Gh} {s : St} {a : Act} {w : World}

theorem Rel.ro (h : Rel F G s a w) {i : Nat} {x : Box} (hx : s.box i = some x) {b : Nat} (hb : F.R b) : b ∉ (G i).blocks := fun hm => (h.mine i x hx b hm).1 hb
theorem Rel.ro_lt (h : Rel F G s a w) {b : Nat} (hb : F.R b) : b < w.heap.size := Nat.lt_of_lt_of_le (h.R b hb).1 h.size

/-- the base of a box -/
theorem BoxRel.con {A : AdrF} {R : Nat → Prop} {g : Gh} {x : Box} (h : BoxRel A w R g x) :
    ∃ cs, Con A w R x.c x.ty g.ft cs ∧ ∀ b o, g.base.map (·, 0) = some (b, o) → At w b o x.ty.size cs ∧ ∃ row e, w.heap[b]? = some (.cells row e (0, 0)) ∧ row.toList = cs ∧ o = 0 := by
  unfold BoxRel at h
  split at h
  · obtain ⟨h1, _, cs, h3⟩ := h
    exact ⟨cs, h3, fun b o e => by rw [h1] at e; cases e⟩
  · obtain ⟨blk, row, e, h1, h2, h3, h4⟩ := h
    refine ⟨row.toList, h4, fun b o eq => ?_⟩
    rw [h1] at eq
    simp only [Option.map_some, Option.some.injEq, Prod.mk.injEq] at eq
    obtain ⟨rfl, rfl⟩ := eq
    exact ⟨⟨row, e, (0, 0), h2, by omega, by rw [List.drop_zero, List.take_of_length_le (by simp; omega)]⟩, row, e, h2, rfl, rfl⟩

theorem Rel.core' (h : Rel F G s a w) {i : Nat} {x : Box} (hx : s.box i = some x) {p : Path} {u : Ty} {fp : FT} {ap : Option (Nat × Nat)}
    (hA : adr s.box G i p = some (u, fp, ap)) {w2 : World} {c' : TV} {f : FT} {s2 : St} {G2 : Nat → Gh} (kl : TV → TV)
    (hG : G2 = fun j => if j = i then ⟨(G i).base, setF x.ty (G i).ft p f⟩ else G j)
    (hg : ∀ n, s2.get n = kl (s.get n)) (hb : ∀ j, s2.box j = if j = i then some (x.with c') else (s.box j).map fun y => y.with (kl y.c))
    (hV : ∀ v y, VR (adr s.box G) w F.R v y → VR (adr s2.box G2) w2 F.R (kl v) y)
    (hC : ∀ c t ft cs, (∀ b ∈ ft.blocks, w2.heap[b]? = w.heap[b]?) → Con (adr s.box G) w F.R c t ft cs → Con (adr s2.box G2) w2 F.R (kl c) t ft cs)
    (hbox : BoxRel (adr s2.box G2) w2 F.R (G2 i) (x.with c'))
    (hsz : Gro w w2) (hB : ∀ j y, j ≠ i → s.box j = some y → ∀ b ∈ (G j).blocks, w2.heap[b]? = w.heap[b]?) (hO : ∀ b, b < F.w0.heap.size → b ∉ F.M → w2.heap[b]? = w.heap[b]?)
    (hf : f.blocks.Nodup) (hfd : ∀ b ∈ f.blocks, b ∈ fp.blocks ∨ ∀ j y, s.box j = some y → b ∉ (G j).blocks)
    (hfm : ∀ b ∈ f.blocks, ¬ F.R b ∧ b < w2.heap.size ∧ (b ∈ F.M ∨ F.w0.heap.size ≤ b))
    (hfix : x.fix = true → x.virt = true → (setF x.ty (G i).ft p f).hdr = (G i).ft.hdr) : Rel F G2 s2 a w2 := by
  subst hG
  have hA' : addr x.ty (G i).ft ((G i).base.map (·, 0)) p = some (u, fp, ap) := by simpa [adr, hx] using hA
  have hnd := h.nodup i x hx
  simp only [Gh.blocks, List.nodup_append] at hnd
  obtain ⟨nd1, nd2, nd3⟩ := hnd
  obtain ⟨s1, _⟩ := addr_sub _ _ _ _ hA'
  obtain ⟨b1, b2⟩ := setF_blocks x.ty (G i).ft _ p f hA' nd2 hf (fun b hb => (hfd b hb).imp id fun h0 h' => h0 i x hx (by simp [Gh.blocks, h']))
  have inv : ∀ j y, s2.box j = some y → ∃ y', s.box j = some y' := by
    intro j y hy
    rw [hb] at hy
    by_cases e : j = i
    · subst e; exact ⟨x, hx⟩
    · simp only [e, if_false] at hy
      cases hj : s.box j with
      | none => rw [hj] at hy; cases hy
      | some y' => exact ⟨y', rfl⟩
  have sub : ∀ b, b ∈ (Gh.mk (G i).base (setF x.ty (G i).ft p f)).blocks → b ∈ f.blocks ∨ (b ∈ (G i).blocks) := by
    intro b hm
    simp only [Gh.blocks, List.mem_append] at hm ⊢
    rcases hm with hm | hm
    · exact .inr (.inl hm)
    · rcases b2 b hm with h1 | h1
      · exact .inl h1
      · exact .inr (.inr h1.1)
  have away : ∀ j y, j ≠ i → s.box j = some y → ∀ b ∈ (G j).blocks, b ∉ f.blocks ∧ b ∉ (G i).blocks := by
    intro j y hj hy b hm
    refine ⟨fun hmf => ?_, fun hm' => h.apart j i y x hy hx hj b hm hm'⟩
    rcases hfd b hmf with h1 | h1
    · exact h.apart j i y x hy hx hj b hm (by simp [Gh.blocks, s1 b h1])
    · exact h1 j y hy hm
  refine ⟨?_, ?_, ?_, ?_, ?_, h.R, ?_, ?_, h.gro.trans hsz, h.defers, h.nt, ?hpar⟩
  case hpar =>
    intro j y hy
    rw [hb] at hy
    by_cases e : j = i
    · subst e
      simp only [if_true, Option.some.injEq] at hy
      subst hy
      simp only [if_true]
      obtain ⟨q1, q2⟩ := h.par j x hx
      refine ⟨q1, fun hx' => ?_⟩
      obtain ⟨q3, q4⟩ := q2 hx'
      exact ⟨q3, (hfix hx' q3).trans q4⟩
    · simp only [e, if_false] at hy ⊢
      cases hj : s.box j with
      | none => rw [hj] at hy; cases hy
      | some y' =>
        rw [hj] at hy
        simp only [Option.map_some, Option.some.injEq] at hy
        subst hy
        exact h.par j y' hj
  rotate_left
  · intro j y hy
    rw [hb] at hy
    by_cases e : j = i
    · subst e
      simp only [if_true, Option.some.injEq] at hy
      subst hy
      exact h.fine j x hx
    · simp only [e, if_false] at hy
      cases hj : s.box j with
      | none => rw [hj] at hy; cases hy
      | some y' =>
        rw [hj] at hy
        simp only [Option.map_some, Option.some.injEq] at hy
        subst hy
        exact h.fine j y' hj
  rotate_right
  · intro j y hy
    by_cases e : j = i
    · subst e
      rw [hb] at hy
      simp only [if_true, Option.some.injEq] at hy
      subst hy
      exact hbox
    · obtain ⟨y', hy'⟩ := inv j y hy
      rw [hb] at hy
      simp only [e, if_false, hy', Option.map_some, Option.some.injEq] at hy
      subst hy
      have hold := h.box j y' hy'
      have hag : ∀ b ∈ (G j).blocks, w2.heap[b]? = w.heap[b]? := fun b hm => hB j y' e hy' b hm
      unfold BoxRel at hold ⊢
      by_cases hv : y'.virt = true
      · rw [if_pos hv] at hold
        rw [if_neg e, if_pos (show (y'.with (kl y'.c)).virt = true from hv)]
        obtain ⟨h1, h2, cs, h3⟩ := hold
        exact ⟨h1, h2, cs, hC _ _ _ _ (fun b hm => hag b (by simp [Gh.blocks, hm])) h3⟩
      · rw [if_neg hv] at hold
        rw [if_neg e, if_neg (show ¬ (y'.with (kl y'.c)).virt = true from hv)]
        obtain ⟨blk, row, e', h1, h2, h3, h4⟩ := hold
        exact ⟨blk, row, e', h1, by rw [hag blk (by simp [Gh.blocks, h1])]; exact h2, h3, hC _ _ _ _ (fun b hm => hag b (by simp [Gh.blocks, hm])) h4⟩
  · intro j k y z hy hz hne b hm hm'
    obtain ⟨y', hy'⟩ := inv j y hy
    obtain ⟨z', hz'⟩ := inv k z hz
    by_cases e : j = i
    · subst e
      simp only [if_true, Ne.symm hne, if_false] at hm hm'
      obtain ⟨a1, a2⟩ := away k z' (Ne.symm hne) hz' b hm'
      rcases sub b hm with h1 | h1
      · exact a1 h1
      · exact a2 h1
    · by_cases e' : k = i
      · subst e'
        simp only [if_true, e, if_false] at hm hm'
        obtain ⟨a1, a2⟩ := away j y' e hy' b hm
        rcases sub b hm' with h1 | h1
        · exact a1 h1
        · exact a2 h1
      · simp only [e, e', if_false] at hm hm'
        exact h.apart j k y' z' hy' hz' hne b hm hm'
  · intro j y hy
    obtain ⟨y', hy'⟩ := inv j y hy
    by_cases e : j = i
    · subst e
      simp only [if_true, Gh.blocks, List.nodup_append]
      refine ⟨nd1, b1, fun b hm c hc e => ?_⟩
      subst e
      rcases b2 b hc with h1 | h1
      · rcases hfd b h1 with h2 | h2
        · exact nd3 b hm b (s1 b h2) rfl
        · exact h2 j x hx (by simp only [Gh.blocks, List.mem_append]; exact .inl hm)
      · exact nd3 b hm b h1.1 rfl
    · simp only [e, if_false]; exact h.nodup j y' hy'
  · intro j y hy b hm
    obtain ⟨y', hy'⟩ := inv j y hy
    by_cases e : j = i
    · subst e
      simp only [if_true] at hm
      rcases sub b hm with h1 | h1
      · exact hfm b h1
      · obtain ⟨m1, m2, m3⟩ := h.mine j x hx b h1
        exact ⟨m1, Nat.lt_of_lt_of_le m2 hsz.size, m3⟩
    · simp only [e, if_false] at hm
      obtain ⟨m1, m2, m3⟩ := h.mine j y' hy' b hm
      exact ⟨m1, Nat.lt_of_lt_of_le m2 hsz.size, m3⟩
  · intro n
    rw [hg]
    exact hV _ _ (h.tmps n)
  · intro b hlt hm
    rw [hO b hlt hm]
    exact h.agree b hlt hm

theorem Rel.core (h : Rel F G s a w) {i : Nat} {x : Box} (hx : s.box i = some x) {p : Path} {u : Ty} {fp : FT} {ap : Option (Nat × Nat)}
    (hA : adr s.box G i p = some (u, fp, ap)) {w2 : World} {c' : TV} {f : FT} {s2 : St} {G2 : Nat → Gh} (kl : TV → TV)
    (hG : G2 = fun j => if j = i then ⟨(G i).base, setF x.ty (G i).ft p f⟩ else G j)
    (hg : ∀ n, s2.get n = kl (s.get n)) (hb : ∀ j, s2.box j = if j = i then some (x.with c') else (s.box j).map fun y => y.with (kl y.c))
    (hV : ∀ v y, VR (adr s.box G) w F.R v y → VR (adr s2.box G2) w2 F.R (kl v) y)
    (hC : ∀ c t ft cs, (∀ b ∈ ft.blocks, w2.heap[b]? = w.heap[b]?) → Con (adr s.box G) w F.R c t ft cs → Con (adr s2.box G2) w2 F.R (kl c) t ft cs)
    (hbox : BoxRel (adr s2.box G2) w2 F.R (G2 i) (x.with c'))
    (hsz : Gro w w2) (hw : ∀ b, b < w.heap.size → b ∉ (G i).blocks → w2.heap[b]? = w.heap[b]?)
    (hf : f.blocks.Nodup) (hfd : ∀ b ∈ f.blocks, b ∈ fp.blocks ∨ ∀ j y, s.box j = some y → b ∉ (G j).blocks)
    (hfm : ∀ b ∈ f.blocks, ¬ F.R b ∧ b < w2.heap.size ∧ (b ∈ F.M ∨ F.w0.heap.size ≤ b))
    (hfix : x.fix = true → x.virt = true → (setF x.ty (G i).ft p f).hdr = (G i).ft.hdr) : Rel F G2 s2 a w2 := by
  refine h.core' hx hA kl hG hg hb hV hC hbox hsz (fun j y hj hy b hm => hw b (h.mine j y hy b hm).2.1 (fun hm' => h.apart j i y x hy hx hj b hm hm')) (fun b hlt hm => hw b (Nat.lt_of_lt_of_le hlt h.size) (fun hin => ?_)) hf hfd hfm hfix
  rcases (h.mine i x hx b hin).2.2 with h1 | h1
  · exact hm h1
  · omega

theorem Rel.put (h : Rel F G s a w) {d : Nat} {v : TV} {x : Value} (hd : d < F.nt) (hv : VR (adr s.box G) w F.R v x) : Rel F G (s.put d v) (a.put (some d) x) w := by
  refine ⟨h.box, h.fine, h.apart, h.nodup, h.mine, h.R, fun n => ?_, h.agree, h.gro, h.defers, by simpa [Act.put] using h.nt, h.par⟩
  rw [get_put, box_put]
  by_cases e : d = n
  · subst e
    have : (a.put (some d) x).tmps.getD d undef = x := by simp [Act.put, h.nt, hd]
    rw [this, if_pos rfl]; exact hv
  · have : (a.put (some d) x).tmps.getD n undef = a.tmps.getD n undef := by
      simp [Act.put, Array.getD_eq_getD_getElem?, Array.getElem?_setIfInBounds_ne e]
    rw [this, if_neg e]; exact h.tmps n

theorem Rel.putUn (h : Rel F G s a w) (d : Nat) (x : Value) : Rel F G (s.put d .un) (a.put (some d) x) w := by
  refine ⟨h.box, h.fine, h.apart, h.nodup, h.mine, h.R, fun n => ?_, h.agree, h.gro, h.defers, by simpa [Act.put] using h.nt, h.par⟩
  rw [get_put, box_put]
  by_cases e : d = n
  · rw [if_pos e]; exact .inl rfl
  · have : (a.put (some d) x).tmps.getD n undef = a.tmps.getD n undef := by
      simp [Act.put, Array.getD_eq_getD_getElem?, Array.getElem?_setIfInBounds_ne e]
    rw [this, if_neg e]; exact h.tmps n

theorem Rel.putNo (h : Rel F G s a w) (d : Nat) : Rel F G (s.put d (.tup .unit)) (a.put (some d) undef) w := by
  refine ⟨h.box, h.fine, h.apart, h.nodup, h.mine, h.R, fun n => ?_, h.agree, h.gro, h.defers, by simpa [Act.put] using h.nt, h.par⟩
  rw [get_put, box_put]
  by_cases e : d = n
  · subst e
    have : (a.put (some d) undef).tmps.getD d undef = undef := by
      simp only [Act.put, Array.getD_eq_getD_getElem?]
      by_cases hd : d < a.tmps.size
      · rw [Array.getElem?_setIfInBounds_self_of_lt hd]; rfl
      · rw [Array.getElem?_eq_none (by simpa using hd)]; rfl
    rw [this, if_pos rfl]
    exact ⟨[], trivial, rfl⟩
  · have : (a.put (some d) undef).tmps.getD n undef = a.tmps.getD n undef := by
      simp [Act.put, Array.getD_eq_getD_getElem?, Array.getElem?_setIfInBounds_ne e]
    rw [this, if_neg e]; exact h.tmps n

/-- a guard that was not asked for yields nothing -/
theorem guard_none (h : Rel F G s a w) {ops : Array Oper} {j d : Nat} (hd : (ops[j]?).bind (·.dst) = some d) (hn : s.get d = .tup .unit) : yielded ops a.tmps j = none := by
  have hv := h.tmps d
  rw [hn] at hv
  obtain ⟨xs, h1, h2⟩ := hv
  cases xs with
  | cons _ _ => exact h1.elim
  | nil =>
    rw [Array.getD_eq_getD_getElem?] at h2
    unfold yielded
    cases ht : a.tmps[d]? with
    | none => rw [hd]; simp [ht]
    | some v =>
      rw [ht] at h2
      simp only [Option.getD_some] at h2
      rw [hd]
      simp [ht, h2]

theorem Rel.reput (h : Rel F G s a w) {d : Nat} {v : TV} (hv : VR (adr s.box G) w F.R v (a.tmps.getD d undef)) : Rel F G (s.put d v) a w := by
  refine ⟨h.box, h.fine, h.apart, h.nodup, h.mine, h.R, fun n => ?_, h.agree, h.gro, h.defers, h.nt, h.par⟩
  rw [get_put, box_put]
  by_cases e : d = n
  · subst e; rw [if_pos rfl]; exact hv
  · rw [if_neg e]; exact h.tmps n

/-- the world grows -/
theorem Rel.grow (h : Rel F G s a w) {w2 : World} (hsz : Gro w w2) (hw : ∀ b, b < w.heap.size → w2.heap[b]? = w.heap[b]?) : Rel F G s a w2 := by
  have hR : ∀ b, F.R b → w2.heap[b]? = w.heap[b]? := fun b hb => hw b (h.ro_lt hb)
  have hA : ALe (adr s.box G) (adr s.box G) := fun _ _ _ ft _ e => ⟨ft, e, rfl⟩
  refine ⟨fun i x hx => ?_, h.fine, h.apart, h.nodup, fun i x hx b hb => ?_, h.R, fun n => VR.mono hA hR (h.tmps n), fun b hlt hm => ?_, h.gro.trans hsz, h.defers, h.nt, h.par⟩
  · have hag : ∀ b ∈ (G i).blocks, w2.heap[b]? = w.heap[b]? := fun b hm => hw b (h.mine i x hx b hm).2.1
    have hold := h.box i x hx
    unfold BoxRel at hold ⊢
    split
    · rename_i hv
      rw [if_pos hv] at hold
      obtain ⟨h1, h2, cs, h3⟩ := hold
      exact ⟨h1, h2, cs, Con.mono hA hR _ _ _ _ (fun b hm => hag b (by simp [Gh.blocks, hm])) h3⟩
    · rename_i hv
      rw [if_neg hv] at hold
      obtain ⟨blk, row, e', h1, h2, h3, h4⟩ := hold
      exact ⟨blk, row, e', h1, by rw [hag blk (by simp [Gh.blocks, h1])]; exact h2, h3, Con.mono hA hR _ _ _ _ (fun b hm => hag b (by simp [Gh.blocks, hm])) h4⟩
  · obtain ⟨m1, m2, m3⟩ := h.mine i x hx b hb
    exact ⟨m1, Nat.lt_of_lt_of_le m2 hsz.size, m3⟩
  · rw [hw b (Nat.lt_of_lt_of_le hlt h.size)]
    exact h.agree b hlt hm
end
end Go.TM
/-! ## TmO -/
namespace Go.TM
set_option autoImplicit false

theorem Wr.refl {w : World} {b o n : Nat} {cs : List Value} (h : At w b o n cs) : Wr w w b o n cs := by
  obtain ⟨row, e, fz, h1, h2, rfl⟩ := h
  refine ⟨by simp; omega, row, row, e, fz, h1, h1, h2, ?_⟩
  rw [List.append_assoc, ← List.drop_drop, List.take_append_drop, List.take_append_drop]

theorem adr_eq {B : Nat → Option Box} {G : Nat → Gh} {i : Nat} {x : Box} (h : B i = some x) (p : Path) : adr B G i p = addr x.ty (G i).ft ((G i).base.map (·, 0)) p := by
  simp [adr, h]

section
variable {ρ : Type} {F : Fr} {G : Nat → Gh} {s : St} {a : Act} {w : World}

/-- the addresses behind an update of one box: with the kill -/
theorem but_of_set {i : Nat} {x : Box} (hx : s.box i = some x) {p : Path} {u : Ty} {fp : FT} {ap : Option (Nat × Nat)}
    (hA : adr s.box G i p = some (u, fp, ap)) {f : FT} {s2 : St} {G2 : Nat → Gh} {c' : TV} {kl : TV → TV}
    (hG : G2 = fun j => if j = i then ⟨(G i).base, setF x.ty (G i).ft p f⟩ else G j)
    (hb : ∀ j, s2.box j = if j = i then some (x.with c') else (s.box j).map fun y => y.with (kl y.c)) : ALeBut i p (adr s.box G) (adr s2.box G2) := by
  subst hG
  intro c q t ft at' h
  have hA' : addr x.ty (G i).ft ((G i).base.map (·, 0)) p = some (u, fp, ap) := by rw [← adr_eq hx]; exact hA
  by_cases e : i = c
  · subst e
    rw [adr_eq hx] at h
    have hs : ∀ q, adr s2.box (fun j => if j = i then ⟨(G i).base, setF x.ty (G i).ft p f⟩ else G j) i q = addr x.ty (setF x.ty (G i).ft p f) ((G i).base.map (·, 0)) q := by
      intro q; simp [adr, hb, Box.with]
    obtain ⟨h1, h2⟩ := addr_setF x.ty (G i).ft _ p q f hA' h
    refine ⟨fun hc => ?_, fun r _ hr hd => ?_⟩
    · rcases hc with hc | hc
      · exact absurd rfl hc
      · rw [hs]; exact h1 hc
    · rw [hs]; exact h2 r hr hd
  · have hs : adr s2.box (fun j => if j = i then ⟨(G i).base, setF x.ty (G i).ft p f⟩ else G j) c q = adr s.box G c q := by
      have e' : ¬ c = i := fun h => e h.symm
      simp only [adr, hb, e', if_false]
      cases s.box c <;> rfl
    exact ⟨fun _ => ⟨ft, by rw [hs]; exact h, rfl⟩, fun r hc => absurd hc e⟩

/-- .. where flat data is written -/
theorem le_of_set {i : Nat} {x : Box} (hx : s.box i = some x) {p : Path} {u : Ty} {fp : FT} {ap : Option (Nat × Nat)}
    (hA : adr s.box G i p = some (u, fp, ap)) (hu : u.flat = true) {f : FT} {s2 : St} {G2 : Nat → Gh} {c' : TV} {kl : TV → TV}
    (hG : G2 = fun j => if j = i then ⟨(G i).base, setF x.ty (G i).ft p f⟩ else G j)
    (hb : ∀ j, s2.box j = if j = i then some (x.with c') else (s.box j).map fun y => y.with (kl y.c)) : ALe (adr s.box G) (adr s2.box G2) := by
  subst hG
  intro c q t ft at' h
  have hA' : addr x.ty (G i).ft ((G i).base.map (·, 0)) p = some (u, fp, ap) := by rw [← adr_eq hx]; exact hA
  by_cases e : i = c
  · subst e
    rw [adr_eq hx] at h
    have hs : adr s2.box (fun j => if j = i then ⟨(G i).base, setF x.ty (G i).ft p f⟩ else G j) i q = addr x.ty (setF x.ty (G i).ft p f) ((G i).base.map (·, 0)) q := by
      simp [adr, hb, Box.with]
    rw [hs]
    exact addr_setF_flat x.ty (G i).ft _ p q f hu hA' h
  · have hs : adr s2.box (fun j => if j = i then ⟨(G i).base, setF x.ty (G i).ft p f⟩ else G j) c q = adr s.box G c q := by
      have e' : ¬ c = i := fun h => e h.symm
      simp only [adr, hb, e', if_false]
      cases s.box c <;> rfl
    exact ⟨ft, by rw [hs]; exact h, rfl⟩

/-- blocks that are nobody's yet -/
structure Fresh (F : Fr) (G : Nat → Gh) (s : St) (w : World) (f : FT) : Prop where
  nodup : f.blocks.Nodup
  out : ∀ b ∈ f.blocks, ∀ j y, s.box j = some y → b ∉ (G j).blocks
  mine : ∀ b ∈ f.blocks, ¬ F.R b ∧ b < w.heap.size ∧ (b ∈ F.M ∨ F.w0.heap.size ≤ b)

/-- what a moving out leaves: nobody has a block that nobody had -/
structure Less (G : Nat → Gh) (s : St) (G' : Nat → Gh) (s' : St) : Prop where
  sub : ∀ j y, s'.box j = some y → ∀ b ∈ (G' j).blocks, ∃ i x, s.box i = some x ∧ b ∈ (G i).blocks

theorem Less.refl : Less G s G s := ⟨fun j y h b hb => ⟨j, y, h, hb⟩⟩
theorem Less.trans {G1 G2 : Nat → Gh} {s1 s2 : St} (h : Less G s G1 s1) (h' : Less G1 s1 G2 s2) : Less G s G2 s2 :=
  ⟨fun j y hy b hb => let ⟨i, x, hx, hb'⟩ := h'.sub j y hy b hb; h.sub i x hx b hb'⟩

def Had (G : Nat → Gh) (s : St) (f : FT) : Prop := ∀ b ∈ f.blocks, ∃ i x, s.box i = some x ∧ b ∈ (G i).blocks
theorem Had.less {G' : Nat → Gh} {s' : St} {f : FT} (h : Less G s G' s') (hf : Had G' s' f) : Had G s f := fun b hb =>
  let ⟨j, y, hy, hb'⟩ := hf b hb; h.sub j y hy b hb'

theorem Fresh.less {G' : Nat → Gh} {s' : St} {f : FT} (h : Less G s G' s') (hf : Fresh F G s w f) : Fresh F G' s' w f :=
  ⟨hf.nodup, fun b hb j y hy hm => let ⟨i, x, hx, hm'⟩ := h.sub j y hy b hm; hf.out b hb i x hx hm', hf.mine⟩
theorem Fresh.apart {f g : FT} (hf : Fresh F G s w f) (hg : Had G s g) : ∀ b ∈ g.blocks, b ∉ f.blocks := fun b hb hb' =>
  let ⟨i, x, hx, hm⟩ := hg b hb; hf.out b hb' i x hx hm

theorem Fresh.nil {f : FT} (h : f.blocks = []) : Fresh F G s w f := ⟨by rw [h]; exact List.nodup_nil, fun b hb => (by rw [h] at hb; cases hb), fun b hb => (by rw [h] at hb; cases hb)⟩

theorem box_kset {i : Nat} {x : Box} (hx : s.box i = some x) (c : TV) (p : Path) (j : Nat) :
    ((s.setBox i { x with c := c }).kill i p).box j = if j = i then some (x.with (c.kill i p)) else (s.box j).map fun y => y.with (y.c.kill i p) := by
  rw [box_kill, box_setBox s i _ x hx]
  by_cases e : j = i
  · subst e; simp [Box.kill, Box.with]
  · simp only [Ne.symm e, if_false, e]
    cases s.box j <;> rfl

/-- a list is moved out of its place -/
theorem Rel.move (h : Rel F G s a w) {b : Nat} {p : Path} {x : Box} (hx : s.box b = some x) (hfx : x.fix = false) (hd : Path.deref p = false) {u : Ty} {fp : FT} {ap : Option (Nat × Nat)} {cs : List Value} {t : Ty} {y : t.den} (hts : t.size = 1) (htg : t.agg = false)
    (hA : adr s.box G b p = some (u, fp, ap)) (hc : Con (adr s.box G) w F.R (.own t y) u fp cs) (hat : ∀ b o, ap = some (b, o) → At w b o u.size cs) {k : TV → Option ρ} {r : ρ} (hS : setC x.c p .un k = some r) :
    ∃ c' G', k c' = some r ∧ Rel F G' ((s.setBox b { x with c := c' }).kill b p) a w ∧ Fresh F G' ((s.setBox b { x with c := c' }).kill b p) w fp ∧
      ALeBut b p (adr s.box G) (adr ((s.setBox b { x with c := c' }).kill b p).box G') ∧ Own w t y fp cs ∧ t = u ∧
      Less G s G' ((s.setBox b { x with c := c' }).kill b p) ∧ Had G s fp := by
  obtain ⟨c', hk, hkill⟩ := setC_kill b p x.c p .un k r hS
  let s2 := (s.setBox b { x with c := c' }).kill b p
  let G2 : Nat → Gh := fun j => if j = b then ⟨(G b).base, setF x.ty (G b).ft p .leaf⟩ else G j
  have hA' : addr x.ty (G b).ft ((G b).base.map (·, 0)) p = some (u, fp, ap) := by rw [← adr_eq hx]; exact hA
  have hbut : ALeBut b p (adr s.box G) (adr s2.box G2) := but_of_set (kl := fun v => v.kill b p) hx hA rfl (box_kset hx c' p)
  obtain ⟨rfl, hown⟩ := hc
  obtain ⟨s1, s3⟩ := addr_sub _ _ _ _ hA'
  have hnd := h.nodup b x hx
  have hmine := h.mine b x hx
  simp only [Gh.blocks, List.nodup_append] at hnd
  obtain ⟨nd1, nd2, nd3⟩ := hnd
  obtain ⟨cs0, hcon0, hbase⟩ := (h.box b x hx).con
  have hsum : x.virt = true → (G b).base = none ∧ p = [] := by
    intro hv
    have := h.box b x hx
    unfold BoxRel at this
    rw [if_pos hv] at this
    obtain ⟨h1, ⟨t', h2⟩, _⟩ := this
    refine ⟨h1, ?_⟩
    rw [h2] at hA'
    cases p with
    | nil => rfl
    | cons q p => cases q <;> simp [addr, Path.deref] at hA' hd
  have hcon2 : Con (adr s2.box G2) w F.R (x.c.kill b p) x.ty (G b).ft cs0 := Con.kill hbut (fun _ _ => rfl) _ _ _ _ (fun _ _ => rfl) hcon0
  refine ⟨c', G2, hk, ?_, ?_, hbut, hown, rfl, ⟨fun j y hy b' hb' => ?_⟩, fun b' hb' => ⟨b, x, hx, by simp only [Gh.blocks, List.mem_append]; exact .inr (s1 b' hb')⟩⟩
  rotate_left 2
  · obtain ⟨_, q2⟩ := setF_blocks x.ty (G b).ft _ p .leaf hA' nd2 (by simp [FT.blocks]) (fun b hb => by simp [FT.blocks] at hb)
    rw [box_kset hx] at hy
    by_cases e : j = b
    · subst e
      simp only [G2, if_true, Gh.blocks, List.mem_append] at hb'
      refine ⟨j, x, hx, ?_⟩
      simp only [Gh.blocks, List.mem_append]
      rcases hb' with hm | hm
      · exact .inl hm
      · rcases q2 b' hm with h1 | h1
        · simp [FT.blocks] at h1
        · exact .inr h1.1
    · simp only [e, if_false] at hy
      simp only [G2, e, if_false] at hb'
      cases hj : s.box j with
      | none => rw [hj] at hy; cases hy
      | some y' => exact ⟨j, y', hj, hb'⟩
  · refine h.core hx hA (fun v => v.kill b p) rfl (get_kill _ b p) (box_kset hx c' p) (fun v y hv => VR.kill hbut (fun _ _ => rfl) hv) (fun c t ft cs hag hcn => Con.kill hbut (fun _ _ => rfl) c t ft cs hag hcn) ?_ (Gro.refl _) (fun _ _ _ => rfl) (by simp [FT.blocks]) (fun b hb => by simp [FT.blocks] at hb) (fun b hb => by simp [FT.blocks] at hb) (fun h' => by rw [hfx] at h'; cases h')
    unfold BoxRel
    by_cases hv : x.virt = true
    · obtain ⟨hbn, rfl⟩ := hsum hv
      rw [if_pos (show (x.with (c'.kill b [])).virt = true from hv)]
      have hob := h.box b x hx
      unfold BoxRel at hob
      rw [if_pos hv] at hob
      refine ⟨by simpa [G2] using hbn, hob.2.1, cs0, ?_⟩
      have e1 : ∀ {σ : Type} (c v : TV) (k : TV → Option σ), setC c [] v k = k v := by intro σ c v k; cases c <;> rfl
      have := hkill some
      rw [e1] at this
      have hun : c'.kill b [] = .un := (Option.some.inj this).symm
      have e3 : setF x.ty (G b).ft [] .leaf = .leaf := by cases x.ty <;> rfl
      change Con _ w F.R (c'.kill b []) x.ty (G2 b).ft cs0
      rw [hun]
      simp only [G2, if_true, e3]
      have hty : x.ty = t := by
        have e4 : addr x.ty (G b).ft ((G b).base.map (·, 0)) [] = some (x.ty, (G b).ft, (G b).base.map (·, 0)) := by cases x.ty <;> rfl
        rw [e4] at hA'
        simp only [Option.some.injEq, Prod.mk.injEq] at hA'
        exact hA'.1
      obtain ⟨t', ht'⟩ := hob.2.1
      exact ⟨rfl, by rw [ht']; rfl, by rw [ht']; rfl, by rw [Con.len _ _ _ _ hcon0, ht']; rfl⟩
    · rw [if_neg (show ¬ (x.with (c'.kill b p)).virt = true from hv)]
      have hob := h.box b x hx
      unfold BoxRel at hob
      rw [if_neg hv] at hob
      obtain ⟨blk, row, e, hb1, hb2, hb3, hb4⟩ := hob
      have hap : ∃ o, ap = some (blk, o) := by
        rcases s3 with ⟨b0, o0, _, _, hdd⟩ | ⟨d, e0, _⟩
        · rw [hd] at hdd; cases hdd
        · exact ⟨0 + d, by rw [e0, hb1]; rfl⟩
      obtain ⟨o, rfl⟩ := hap
      have hW : Wr w w blk o t.size cs := Wr.refl (hat blk o rfl)
      have hblk : blk ∉ (G b).ft.blocks := fun hm => nd3 blk (by simp [hb1]) blk hm rfl
      have hun : Con (adr s2.box G2) w F.R .un t .leaf cs := ⟨rfl, hts, htg, by rw [(hat blk o rfl).len, hts]⟩
      obtain ⟨c2, cs2, g1, g2, g3, g4⟩ := Con.set hW hun (x.c.kill b p) x.ty (G b).ft cs0 ((G b).base.map (·, 0)) p (fun c => some c) (c'.kill b p) hcon2
        (fun b' o' e' => by
          obtain ⟨hat', _⟩ := hbase b' o' e'
          rw [hb1] at e'
          simp only [Option.map_some, Option.some.injEq, Prod.mk.injEq] at e'
          obtain ⟨rfl, rfl⟩ := e'
          exact ⟨hat', hblk, fun hne => absurd rfl hne⟩) nd2 hA' (hkill some) ⟨fun _ _ _ _ => rfl, fun hm => hblk (s1 blk hm), fun _ _ => rfl⟩
      obtain rfl := Option.some.inj g1
      refine ⟨blk, row, e, by simp [G2, hb1], hb2, hb3, ?_⟩
      have hat4 := g4 blk 0 (by rw [hb1]; rfl)
      have hrow : cs2 = row.toList := by
        obtain ⟨row', e', fz', q1, q2, rfl⟩ := hat4
        rw [hb2] at q1
        simp only [Option.some.injEq, Obj.cells.injEq] at q1
        obtain ⟨rfl, _, _⟩ := q1
        rw [List.drop_zero, List.take_of_length_le (by simp; omega)]
      rw [← hrow]
      change Con _ w F.R (c'.kill b p) x.ty (G2 b).ft cs2
      simp only [G2, if_true]
      exact g2
  · have hin : ∀ b' ∈ fp.blocks, b' ∈ (G b).blocks := fun b' hb => by simp only [Gh.blocks, List.mem_append]; exact .inr (s1 b' hb)
    have hfpn : fp.blocks.Nodup := by
      have : ∀ (t : Ty) (ft : FT) (a : Option (Nat × Nat)) (p : Path) {u : Ty} {fp : FT} {ap : Option (Nat × Nat)}, addr t ft a p = some (u, fp, ap) → Path.deref p = false → ft.blocks.Nodup → fp.blocks.Nodup := by
        intro t
        induction t with
        | cons t r iht ihr =>
          intro ft a p u fp ap h1 h2 h3
          have h4 : ft.fst.blocks.Nodup ∧ ft.snd.blocks.Nodup := by
            cases ft with
            | pair a d => simp only [FT.blocks, List.nodup_append] at h3; exact ⟨h3.1, h3.2.1⟩
            | _ => simp [FT.fst, FT.snd, FT.blocks]
          match p, h1 with
          | [], h1 => simp only [addr, Option.some.injEq, Prod.mk.injEq] at h1; obtain ⟨_, rfl, _⟩ := h1; exact h3
          | .f 0 :: p, h1 => exact iht _ _ _ h1 (by simpa [Path.deref] using h2) h4.1
          | .f (n + 1) :: p, h1 => exact ihr _ _ _ h1 (by simpa [Path.deref] using h2) h4.2
          | .i n :: p, h1 => simp [addr] at h1
        | _ =>
          intro ft a p u fp ap h1 h2 h3
          cases p with
          | nil => simp only [addr, Option.some.injEq, Prod.mk.injEq] at h1; obtain ⟨_, rfl, _⟩ := h1; exact h3
          | cons q p => cases q <;> simp [addr, Path.deref] at h1 h2
      exact this _ _ _ _ hA' hd nd2
    obtain ⟨q1, q2⟩ := setF_blocks x.ty (G b).ft _ p .leaf hA' nd2 (by simp [FT.blocks]) (fun b hb => by simp [FT.blocks] at hb)
    refine ⟨hfpn, fun b' hb' j y hy hm => ?_, fun b' hb' => hmine b' (hin b' hb')⟩
    rw [box_kset hx] at hy
    by_cases e : j = b
    · subst e
      simp only [G2, if_true, Gh.blocks, List.mem_append] at hm
      rcases hm with hm | hm
      · exact nd3 b' hm b' (s1 b' hb') rfl
      · rcases q2 b' hm with h1 | h1
        · simp [FT.blocks] at h1
        · exact h1.2 hb'
    · simp only [e, if_false] at hy
      cases hj : s.box j with
      | none => rw [hj] at hy; cases hy
      | some y' =>
        simp only [G2, e, if_false] at hm
        exact h.apart b j x y' hx hj (Ne.symm e) b' (hin b' hb') hm
end
end Go.TM
