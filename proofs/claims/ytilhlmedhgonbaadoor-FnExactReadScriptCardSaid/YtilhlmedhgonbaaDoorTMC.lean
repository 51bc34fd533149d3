/- A machine for a part of the programs' language, and the proof that it tells what the model tells (part 3 of 4): it runs a function's code over pure data; nothing here names the program. -/
import Derived.LoopN
import Derived.Orders
import Derived.Test.YtilhlmedhgonbaaDoorTMB
/-! ## TnH -/
namespace Go.TM
set_option autoImplicit false
section
variable {ρ : Type} {P : Program} {E : Env} {F : Fr} {G : Nat → Gh} {s : St} {a : Act} {w w2 : World} {Q : Exit → Act → World → Prop}

theorem NewOk.row {o : Obj} {ks : List FT} (cap : Nat) (h : Rel F G s a w) (hn : (FT.blocksL ks).Nodup) (ho : ∀ b ∈ FT.blocksL ks, ∀ j y, s.box j = some y → b ∉ (G j).blocks)
    (hm : ∀ b ∈ FT.blocksL ks, ¬ F.R b ∧ b < w.heap.size ∧ (b ∈ F.M ∨ F.w0.heap.size ≤ b)) : NewOk F G s (w.alloc o) ⟨none, .node (some w.heap.size) cap ks⟩ := by
  refine ⟨?_, fun b hb j y hy hm' => ?_, fun b hb => ?_⟩
  · simp only [Gh.blocks, FT.blocks, Option.toList_none, List.nil_append, Option.toList_some, List.singleton_append, List.nodup_cons]
    refine ⟨fun hx => ?_, hn⟩
    have := (hm _ hx).2.1
    omega
  · simp only [Gh.blocks, FT.blocks, Option.toList_none, List.nil_append, Option.toList_some, List.singleton_append, List.mem_cons] at hb
    rcases hb with rfl | hb
    · have := (h.mine j y hy _ hm').2.1
      omega
    · exact ho b hb j y hy hm'
  · simp only [Gh.blocks, FT.blocks, Option.toList_none, List.nil_append, Option.toList_some, List.singleton_append, List.mem_cons] at hb
    rw [alloc_size]
    rcases hb with rfl | hb
    · refine ⟨fun hR => ?_, by omega, .inr h.size⟩
      have := h.ro_lt hR
      omega
    · obtain ⟨q1, q2, q3⟩ := hm b hb
      exact ⟨q1, by omega, q3⟩

theorem bnd_lim {n : Nat} (h : n ≤ bnd) : n ≤ lim := Nat.le_trans h (by simp [bnd, lim])

theorem makeSlice_sound (h : Rel F G s a w) (hE : TyOk P E F) {o : Oper} {t : TypeId} {n c : Operand} (ho : o.op = .makeSlice t n c) (hd : ∀ d, o.dst = some d → d < E.nt) {k : St → Option ρ} {r : ρ} (hk : opK E o s k = some r) :
    o.wp P a w (Post F k r) Q := by
  unfold opK at hk
  rw [ho] at hk
  simp only [tyK] at hk
  split at hk
  rotate_left
  · cases hk
  rename_i d hdst
  split at hk
  rotate_left
  · cases hk
  rename_i T hT
  split at hk
  rotate_left
  · cases hk
  rename_i u
  have ht := hE.ty t _ hT
  obtain ⟨kd1, i1, e1, hk⟩ := asInt_sound (ev_sound h n) hk
  obtain ⟨kd2, i2, e2, hk⟩ := asInt_sound (ev_sound h c) hk
  split at hk
  rotate_left
  · cases hk
  rename_i m m' _hk0
  split at hk
  rotate_left
  · cases hk
  rename_i hc
  simp only [Bool.and_eq_true] at hc
  obtain ⟨⟨c1, c2⟩, c3⟩ := hc
  have c1 : m = m' := Nat.eq_of_beq_eq_true c1
  have c2 : m ≤ bnd := Nat.le_of_ble_eq_true c2
  subst c1
  obtain ⟨e0, hu, hte⟩ := ht.slice
  obtain ⟨i, hi, hsz, hby, hz⟩ := hte.info
  obtain ⟨z, z1, z2, z3⟩ := hz c3
  have hb : (i.bytes : Int) * (m : Int) ≤ 281474976710656 := by
    have h1 : i.bytes * m ≤ 4096 * 4294967296 := Nat.mul_le_mul hby c2
    calc (i.bytes : Int) * (m : Int) = ((i.bytes * m : Nat) : Int) := by rw [Int.natCast_mul]
      _ ≤ ((4096 * 4294967296 : Nat) : Int) := Int.ofNat_le.2 h1
      _ ≤ _ := by decide
  have hm63 : (m : Int) ≤ 9223372036854775807 := by
    have : m ≤ 4294967296 := c2
    omega
  have hrun := run_make (P := P) w t e0 i z hu hi z1 kd1 kd2 m m (by omega) (by omega) hb hm63
  simp only [Int.toNat_natCast] at hrun
  have hzl : z.cells.size = u.size := by
    have := zcells_len u
    rw [← z2] at this
    simpa using this
  have hrow : (madeCells z.cells (m * i.size)).toList = (List.replicate m (zcells u)).flatten := by
    rw [hsz, ← hzl, madeCells_eq, z2]
  obtain ⟨ks, k1, k2⟩ := OwnL.zero c3 hte.arrf m
  have hown : Own (w.alloc (.cells (madeCells z.cells (m * i.size)) e0)) (.slice u) (List.replicate m (zeroD u)) (.node (some w.heap.size) m ks) [.slice (some ⟨w.heap.size, 0, none⟩) m m] := by
    have := OwnL.own (rest := []) (cap := m) (b := w.heap.size) (k2 (w.alloc (.cells (madeCells z.cells (m * i.size)) e0))) (alloc_new w _) (by rw [List.append_nil]; exact hrow) (by rw [size_madeCells, hsz]) (by simp) (by simp; exact bnd_lim c2)
    simpa using this
  have := newSl_post (h.alloc (.cells (madeCells z.cells (m * i.size)) e0)) hE hk (hd d hdst) (TyIs.fine u e0 hte) hown (NewOk.row m h (by rw [k1]; exact List.nodup_nil) (fun b hb => by rw [k1] at hb; cases hb) (fun b hb => by rw [k1] at hb; cases hb))
  refine wp_value (v := .slice (some ⟨w.heap.size, 0, none⟩) m m) (w' := w.alloc (.cells (madeCells z.cells (m * i.size)) e0)) ?_ (by rw [hdst]; exact this)
  unfold execOp
  rw [ho]
  simp only [Sem.run_bind]
  rw [e1, e2]
  erw [hrun]
  rfl

/-- what a list of elements leaves -/
theorem elemsK_sound (t : Ty) : ∀ (vs : List TV) (xs : List Value) (G : Nat → Gh) (s : St) (kl : TV → TV) (k : St → List t.den → Option ρ) (r : ρ), Rel F G s a w → vs.length = xs.length →
    (∀ (i : Nat) (v : TV) (x : Value), vs[i]? = some v → xs[i]? = some x → VR (adr s.box G) w F.R (kl v) x) → elemsK s t kl vs k = some r →
    ∃ G' s' ys ks cs, k s' ys = some r ∧ Rel F G' s' a w ∧ OwnL w t ys ks cs ∧ ys.length = vs.length ∧ cs = (xs.map fun x => x.cells.toList).flatten ∧ (∀ x ∈ xs, x.cells.size = t.size) ∧ (FT.blocksL ks).Nodup ∧
      (∀ b ∈ FT.blocksL ks, ∀ j y, s'.box j = some y → b ∉ (G' j).blocks) ∧ (∀ b ∈ FT.blocksL ks, ¬ F.R b ∧ b < w.heap.size ∧ (b ∈ F.M ∨ F.w0.heap.size ≤ b)) ∧
      (∀ b ∈ FT.blocksL ks, ∃ i x, s.box i = some x ∧ b ∈ (G i).blocks) ∧ Less G s G' s' := by
  intro vs
  induction vs with
  | nil =>
    intro xs G s kl k r h hl hv hk
    cases xs with
    | nil => exact ⟨G, s, [], [], [], hk, h, rfl, rfl, rfl, (fun x hx => by cases hx), List.nodup_nil, (fun b hb => by cases hb), (fun b hb => by cases hb), (fun b hb => by cases hb), Less.refl⟩
    | cons _ _ => simp at hl
  | cons v vs ih =>
    intro xs G s kl k r h hl hv hk
    cases xs with
    | nil => simp at hl
    | cons x xs =>
      simp only [elemsK] at hk
      have hx := hv 0 v x rfl rfl
      obtain ⟨cs, x1, x2⟩ := hx.cells (by intro e; rw [e] at hk; cases t <;> simp [absorb] at hk) (by intro b e; rw [e] at hk; cases t <;> simp [absorb] at hk)
      obtain ⟨G1, s1, c, f, κ, hk1, T1⟩ := absorb_sound t _ G s cs _ r h x1 hk
      split at hk1
      rotate_left
      · cases hk1
      rename_i y hy
      obtain ⟨f', fb, fo⟩ := asOwn_own t c f cs y T1.con hy
      have hcells : x.cells.toList = cs := cells_of x2 (fun ha => by
        rw [ha] at x2
        exact T1.ones _ (by rw [show cs = [x] from x2]; simp))
      obtain ⟨G2, s2, ys, ks, ds, hk2, R2, O2, L2, C2, S2, N2, B2, M2, H2, Ls2⟩ := ih xs G1 s1 _ _ r T1.rel (by simpa using hl) (fun i v' x' h1 h2 => T1.vr _ _ (hv (i + 1) v' x' (by simpa using h1) (by simpa using h2))) hk1
      have fr := T1.fresh.less Ls2
      have hsize : x.cells.size = t.size := by
        have := Con.len _ _ _ _ T1.con
        rw [← hcells] at this
        simpa using this
      refine ⟨G2, s2, y :: ys, f' :: ks, cs ++ ds, hk2, R2, ⟨cs, ds, rfl, fo, O2⟩, by simp [L2], by simp [C2, hcells], ?_, ?_, ?_, ?_, ?_, T1.less.trans Ls2⟩
      · intro z hz
        rcases List.mem_cons.1 hz with rfl | hz
        · exact hsize
        · exact S2 z hz
      · simp only [FT.blocksL, List.nodup_append, fb]
        refine ⟨fr.nodup, N2, fun b hb c hc e => ?_⟩
        subst e
        obtain ⟨i, z, hz, hm⟩ := H2 b hc
        exact T1.fresh.out b hb i z hz hm
      · intro b hb
        simp only [FT.blocksL, List.mem_append, fb] at hb
        rcases hb with hb | hb
        · exact fr.out b hb
        · exact B2 b hb
      · intro b hb
        simp only [FT.blocksL, List.mem_append, fb] at hb
        rcases hb with hb | hb
        · exact fr.mine b hb
        · exact M2 b hb
      · intro b hb
        simp only [FT.blocksL, List.mem_append, fb] at hb
        rcases hb with hb | hb
        · exact T1.had b hb
        · obtain ⟨i, z, hz, hm⟩ := H2 b hb
          exact T1.less.sub i z hz b hm
end
end Go.TM
/-! ## TnI -/
namespace Go.TM
set_option autoImplicit false
section
variable {ρ : Type} {P : Program} {E : Env} {F : Fr} {G : Nat → Gh} {s : St} {a : Act} {w w2 : World} {Q : Exit → Act → World → Prop}

theorem seqB_zip {f : Operand → Value} : ∀ (n : Nat) (l : List (Nat × Operand)), seqB n l = true → (l.map fun x => (x.1, f x.2)) = ((l.map fun x => f x.2).zipIdx n).map fun x => (x.2, x.1)
  | _, [], _ => rfl
  | n, x :: l, h => by
    simp only [seqB, Bool.and_eq_true] at h
    have e := Nat.eq_of_beq_eq_true h.1
    simp only [List.map_cons, List.zipIdx_cons]
    rw [← seqB_zip (n + 1) l h.2, e]

theorem buildSlice_sound (h : Rel F G s a w) (hE : TyOk P E F) {o : Oper} {t : TypeId} {len : Nat} {parts : Array (Nat × Operand)} (ho : o.op = .buildSlice t len parts) (hd : ∀ d, o.dst = some d → d < E.nt) {k : St → Option ρ} {r : ρ} (hk : opK E o s k = some r) :
    o.wp P a w (Post F k r) Q := by
  unfold opK at hk
  rw [ho] at hk
  simp only [tyK] at hk
  split at hk
  rotate_left
  · cases hk
  rename_i d hdst
  split at hk
  rotate_left
  · cases hk
  rename_i T hT
  split at hk
  rotate_left
  · cases hk
  rename_i u
  have ht := hE.ty t _ hT
  split at hk
  rotate_left
  · cases hk
  rename_i hc
  simp only [Bool.and_eq_true] at hc
  obtain ⟨⟨⟨⟨c1, c2⟩, c3⟩, c4⟩, c5⟩ := hc
  have c1 := Nat.eq_of_beq_eq_true c1
  have c4 := Nat.le_of_ble_eq_true c4
  have c5 : 0 < u.size := by simpa [Nat.blt_eq] using c5
  obtain ⟨e0, hu, hte⟩ := ht.slice
  obtain ⟨i, hi, hsz, hby, hz⟩ := hte.info
  obtain ⟨z, z1, z2, z3⟩ := hz c3
  obtain ⟨G1, s1, ys, ks, cs, hk1, R1, O1, L1, C1, S1, N1, B1, M1, H1, _⟩ := elemsK_sound u (parts.toList.map fun x => s.ev x.2) (parts.toList.map fun x => a.eval x.2) G s id _ r h (by simp)
    (fun i v x hv hx => by
      rw [List.getElem?_map] at hv hx
      cases hp : parts.toList[i]? with
      | none => rw [hp] at hv; cases hv
      | some q =>
        rw [hp] at hv hx
        obtain rfl := Option.some.inj hv
        obtain rfl := Option.some.inj hx
        exact ev_sound h q.2) hk
  have hlen : ys.length = len := by rw [L1, List.length_map, c1]
  have hlim : ys.length ≤ lim := by
    rw [hlen]
    have : len * 1 ≤ len * u.size := Nat.mul_le_mul_left _ c5
    exact Nat.le_trans (by omega : len ≤ 16777216) (by simp [lim])
  have hzl : z.cells.size = u.size := by
    have := zcells_len u
    rw [← z2] at this
    simpa using this
  have hfl : cs = ((parts.toList.map fun x => a.eval x.2).flatMap fun v => v.cells.toList) := by rw [C1, List.flatMap_def]
  have hparts : (parts.map fun (i, x) => (i, a.eval x)).toList = ((parts.toList.map fun x => a.eval x.2).zipIdx 0).map fun x => (x.2, x.1) := by
    rw [Array.toList_map]
    exact seqB_zip 0 _ c2
  have hrun : (Instr.buildSlice t len (parts.map fun (i, x) => (i, a.eval x))).run P w = .ok (.slice (some ⟨w.heap.size, 0, none⟩) len len) (w.alloc (.cells cs.toArray e0)) := by
    by_cases h0 : len = 0
    · subst h0
      have hpe : parts.toList = [] := List.length_eq_zero_iff.1 c1
      have hcs : cs = [] := by rw [C1, hpe]; rfl
      rw [hcs]
      have hp0 : parts = #[] := by simpa using hpe
      subst hp0
      simp [Instr.buildSlice, run_underlying hu, sizeOf, typeInfo, hi, Instr.fill, newRow, Array.range_zero']
    · refine run_buildSlice (P := P) w t e0 len _ cs.toArray i z hu hi z1 (by rw [hsz]; omega) (by rw [hsz]; exact Nat.mul_ne_zero h0 (by omega)) ?_
      rw [hparts, hsz, hfl]
      exact Great.fill_whole c5 _ _ (fun v hv => S1 v hv) (by simp [c1])
  have hown : Own (w.alloc (.cells cs.toArray e0)) (.slice u) ys (.node (some w.heap.size) len ks) [.slice (some ⟨w.heap.size, 0, none⟩) len len] := by
    have hcl := O1.len
    have := OwnL.own (rest := []) (cap := len) (b := w.heap.size) (OwnL.agree (fun b hb => alloc_get w (.cells cs.toArray e0) b (M1 b hb).2.1) O1) (alloc_new w _) (by simp) (by simp [hcl.1, hlen]) (by omega) hlim
    rw [hlen] at this
    exact this
  have := newSl_post (R1.alloc (.cells cs.toArray e0)) hE hk1 (hd d hdst) (TyIs.fine u e0 hte) hown (NewOk.row len R1 N1 B1 M1)
  refine wp_value (v := .slice (some ⟨w.heap.size, 0, none⟩) len len) (w' := w.alloc (.cells cs.toArray e0)) ?_ (by rw [hdst]; exact this)
  unfold execOp
  rw [ho]
  simp only [Sem.run_bind]
  erw [hrun]
  rfl
end
end Go.TM
/-! ## TnJ -/
namespace Go.TM
set_option autoImplicit false
section
variable {ρ : Type} {P : Program} {E : Env} {F : Fr} {G : Nat → Gh} {s : St} {a : Act} {w w2 : World} {Q : Exit → Act → World → Prop}

theorem at_cell {b o n : Nat} {cs : List Value} (h : At w b o n cs) {j : Nat} {u : Value} (hu : cs[j]? = some u) : w.cell? ⟨b, o + j, none⟩ = some u := by
  obtain ⟨row, e, fz, h1, h2, rfl⟩ := h
  have hj : j < n := by
    have := (List.getElem?_eq_some_iff.1 hu).1
    rw [List.length_take] at this
    omega
  rw [List.getElem?_take_of_lt hj, List.getElem?_drop] at hu
  simp only [World.cell?, h1]
  simpa using hu

theorem row_cell {b : Nat} {row : Array Value} {e : TypeId} {fz : Nat × Nat} (h : w.heap[b]? = some (.cells row e fz)) {j : Nat} {u : Value} (hu : row.toList[j]? = some u) : w.cell? ⟨b, j, none⟩ = some u := by
  simp only [World.cell?, h]
  simpa using hu

/-- cell number j of elements side by side -/
theorem flat_nth {α : Type} {n : Nat} (f : α → List Value) : ∀ (xs : List α), (∀ x ∈ xs, (f x).length = n) → ∀ (j : Nat) (u : Value), ((xs.map f).flatten)[j]? = some u → ∃ i k x, j = i * n + k ∧ k < n ∧ xs[i]? = some x ∧ (f x)[k]? = some u
  | [], _, j, u, h => by simp at h
  | x :: xs, hl, j, u, h => by
    have hx := hl x (by simp)
    simp only [List.map_cons, List.flatten_cons] at h
    by_cases hj : j < n
    · rw [List.getElem?_append_left (by omega)] at h
      exact ⟨0, j, x, by omega, hj, rfl, h⟩
    · rw [List.getElem?_append_right (by omega), hx] at h
      obtain ⟨i, k, y, e, hk, hy, hu⟩ := flat_nth f xs (fun y hy => hl y (by simp [hy])) (j - n) u h
      exact ⟨i + 1, k, y, by rw [Nat.succ_mul]; omega, hk, by simpa using hy, hu⟩

/-- a list of flat elements that is read, as a source -/
theorem src_flat {R : Nat → Prop} {t e' : TypeId} {T : Ty} (hf : T.flat = true) {tx : TypeId} (hk : P.underlying tx = some (.slice e')) {ys : List T.den} {Y : Value} (h : Rd w R (.slice T) ys [Y]) :
    Src P T.size tx Y ys.length (ys.map (fcells T)).flatten w ∧ ∀ y ∈ ys, fok T y := by
  obtain ⟨ad, cap, h1, ⟨h2, h3⟩, h4⟩ := h
  have h1 : Y = .slice ad ys.length cap := (List.cons.inj h1).1
  subst h1
  by_cases hne : ys = []
  · subst hne
    refine ⟨?_, fun y hy => by cases hy⟩
    cases ad with
    | none => exact Src.ofNil w hk cap
    | some ad => exact Src.ofSlice w hk ad 0 cap [] (by simp) (fun j u hu => by simp at hu) (fun u hu => by cases hu)
  · obtain ⟨b, o, rfl, _, hat⟩ := h4 hne
    have hfk : ∀ y ∈ ys, fok T y := by
      intro y hy
      obtain ⟨i, hi, rfl⟩ := List.mem_iff_getElem.1 hy
      obtain ⟨c, _, hr⟩ := hat i ys[i] (List.getElem?_eq_getElem hi)
      exact (Rd.flat hf hr).1
    refine ⟨Src.ofSlice w hk ⟨b, o, none⟩ ys.length cap _ ?_ (fun j u hu => ?_) (fun u hu => ?_), hfk⟩
    · have key : ∀ l : List T.den, (∀ x ∈ l, fok T x) → ((l.map (fcells T)).flatten).length = l.length * T.size := by
        intro l
        induction l with
        | nil => intro _; simp
        | cons a l ih =>
          intro hl
          simp only [List.map_cons, List.flatten_cons, List.length_append, List.length_cons]
          rw [fcells_len T a hf (hl a (by simp)), ih (fun x hx => hl x (by simp [hx])), Nat.succ_mul]; omega
      exact key ys hfk
    · obtain ⟨i, k, x, rfl, hk', hx, hu'⟩ := flat_nth (n := T.size) (fcells T) ys (fun x hx => fcells_len T x hf (hfk x hx)) j u hu
      obtain ⟨c, hc, hr⟩ := hat i x hx
      obtain ⟨_, hcc⟩ := Rd.flat hf hr
      rw [← hcc] at hu'
      have := at_cell hc hu'
      rw [add_plain, ← Nat.add_assoc]
      exact this
    · obtain ⟨l, hl, hu⟩ := List.mem_flatten.1 hu
      obtain ⟨x, _, rfl⟩ := List.mem_map.1 hl
      exact ones_fcells T x u hu

theorem src_str {tx : TypeId} (hk : P.underlying tx = some .string) (l : List UInt8) : Src P 1 tx (.string ⟨l.toArray⟩) l.length (l.map fun c => Value.int .u8 (c.toNat : Int)) w := by
  have := Src.ofString (P := P) w hk ⟨l.toArray⟩
  have hsz : (ByteArray.mk l.toArray).size = l.length := by simp [ByteArray.size]
  rw [hsz] at this
  simpa [byteCells] using this

theorem own_str : ∀ (l : List UInt8), ∃ ls : List FT, FT.blocksL ls = [] ∧ ∀ w, OwnL w (.int .u8) (List.map (fun c : UInt8 => (c.toNat : Int)) l) ls (l.map fun c => Value.int .u8 (c.toNat : Int))
  | [] => ⟨[], rfl, fun _ => rfl⟩
  | c :: l => by
    obtain ⟨ls, h1, h2⟩ := own_str l
    exact ⟨.leaf :: ls, by simp [FT.blocksL, FT.blocks, h1], fun w => ⟨[_], _, rfl, ⟨rfl, trivial, rfl, rfl⟩, h2 w⟩⟩

theorem str_len (l : List UInt8) : List.length (α := (Ty.int .u8).den) (List.map (fun c : UInt8 => (c.toNat : Int)) l) = l.length := List.length_map _

theorem absorb_slice {t : Ty} {v : TV} {k : St → TV → (TV → TV) → Option ρ} {r : ρ} (h : absorb s (.slice t) v k = some r) : v.agg = false ∧ v ≠ .un ∧ ∀ b, v ≠ .tup b := by
  cases v with
  | dat u x =>
    simp only [absorb] at h
    split at h
    · rename_i e
      have e := of_decide_eq_true e
      subst e
      exact ⟨rfl, by simp, by simp⟩
    · cases h
  | nil => exact ⟨rfl, by simp, by simp⟩
  | sl b p => exact ⟨rfl, by simp, by simp⟩
  | slw b p lo n => exact ⟨rfl, by simp, by simp⟩
  | _ => simp [absorb] at h

theorem VR.single {A : AdrF} {R : Nat → Prop} {v : TV} {x : Value} (h : VR A w R v x) (h1 : v.agg = false ∧ v ≠ .un ∧ ∀ b, v ≠ .tup b) : VRc A w R v [x] := h.one h1.2.1 h1.2.2 h1.1

structure More (F : Fr) (P : Program) (G : Nat → Gh) (s : St) (a : Act) (w : World) (tx : TypeId) (Y : Value) (κ : TV → TV) (t : Ty) (ys : List t.den) (ls : List FT) (ds : List Value) (G' : Nat → Gh) (s' : St) : Prop where
  rel : Rel F G' s' a w
  own : OwnL w t ys ls ds
  src : Src P t.size tx Y ys.length ds w
  nodup : (FT.blocksL ls).Nodup
  out : ∀ b ∈ FT.blocksL ls, ∀ j y, s'.box j = some y → b ∉ (G' j).blocks
  mine : ∀ b ∈ FT.blocksL ls, ¬ F.R b ∧ b < w.heap.size ∧ (b ∈ F.M ∨ F.w0.heap.size ≤ b)
  vr : ∀ d y, VR (adr s.box G) w F.R d y → VR (adr s'.box G') w F.R (κ d) y

theorem moreD_sound (h : Rel F G s a w) {t T2 : Ty} {tx : TypeId} (ht2 : TyIs P T2 tx) {v : TV} {Y : Value} (hv : VR (adr s.box G) w F.R v Y) {k : St → List t.den → (TV → TV) → Option ρ} {r : ρ} (hk : moreD s t T2 v k = some r) :
    ∃ G' s' ys ls ds κ, k s' ys κ = some r ∧ More F P G s a w tx Y κ t ys ls ds G' s' := by
  unfold moreD at hk
  split at hk
  · split at hk
    · rename_i x
      split at hk
      · rename_i xs hc
        obtain ⟨e, rfl⟩ := castTo_eq hc
        simp only [Ty.slice.injEq] at e
        subst e
        obtain ⟨hY, hl⟩ := VR.str hv
        subst hY
        obtain ⟨ls, l1, l2⟩ := own_str x
        have hsrc := src_str (P := P) (w := w) ht2.str x
        refine ⟨G, s, _, ls, _, id, hk, h, l2 w, ?_, by rw [l1]; exact List.nodup_nil, fun b hb => (by rw [l1] at hb; cases hb), fun b hb => (by rw [l1] at hb; cases hb), fun _ _ hd => hd⟩
        have := str_len x
        erw [this]
        exact hsrc
      · cases hk
    · cases hk
  · rename_i u
    obtain ⟨e', hu', _⟩ := ht2.slice
    split at hk
    · rename_i hf
      obtain ⟨ys, hk, hr⟩ := sliceD_sound h hv hk
      obtain ⟨q1, q2⟩ := src_flat (P := P) (t := tx) hf hu' hr
      obtain ⟨ls, l1, l2⟩ := OwnL.flat hf ys q2
      exact ⟨G, s, ys, ls, _, id, hk, h, l2 w, q1, by rw [l1]; exact List.nodup_nil, fun b hb => (by rw [l1] at hb; cases hb), fun b hb => (by rw [l1] at hb; cases hb), fun _ _ hd => hd⟩
    · have x1 := hv.single (absorb_slice hk)
      obtain ⟨G1, s1, c, f, κ, hk1, T1⟩ := absorb_sound (.slice t) _ G s [Y] _ r h x1 hk
      split at hk1
      rotate_left
      · cases hk1
      rename_i ys hy
      obtain ⟨f', fb, fo⟩ := asOwn_own (.slice t) c f [Y] ys T1.con hy
      have fo0 := fo
      obtain ⟨bk, cap, ks, rfl, hY, h1, h2, h3, h4⟩ := fo
      have hY : Y = .slice (bk.map (⟨·, 0, none⟩)) (List.length (α := t.den) ys) cap := (List.cons.inj hY).1
      subst hY
      have sub : ∀ b ∈ FT.blocksL ks, b ∈ f.blocks := fun b hb => by rw [← fb]; simp [FT.blocks, hb]
      have hnd : (FT.blocksL ks).Nodup := by
        have := T1.fresh.nodup
        rw [← fb] at this
        simp only [FT.blocks, List.nodup_append] at this
        exact this.2.1
      cases bk with
      | none =>
        subst h4
        have h0 : List.length (α := t.den) ys = 0 := Nat.le_zero.1 h1
        have hys : ys = ([] : List t.den) := List.length_eq_zero_iff.1 h0
        subst hys
        have hks : ks = [] := List.length_eq_zero_iff.1 h3
        subst hks
        exact ⟨G1, s1, _, [], [], κ, hk1, T1.rel, rfl, Src.ofNil w hu' 0, List.nodup_nil, fun b hb => (by cases hb), fun b hb => (by cases hb), T1.vr⟩
      | some blk =>
        obtain ⟨row, e, cc, rest, g1, g2, g3, g4, g5, g6, _⟩ := Own.toL fo0
        obtain ⟨q1, q2⟩ := g4.len
        refine ⟨G1, s1, ys, ks, cc, κ, hk1, T1.rel, g4, ?_, hnd, fun b hb => T1.fresh.out b (sub b hb), fun b hb => T1.fresh.mine b (sub b hb), T1.vr⟩
        exact Src.ofSlice w hu' ⟨blk, 0, none⟩ _ cap cc q1 (fun j u hu => by
          rw [add_plain, Nat.zero_add]
          refine row_cell g1 ?_
          rw [g3, List.getElem?_append_left (List.getElem?_eq_some_iff.1 hu).1]
          exact hu) g4.ones
  · cases hk
end
end Go.TM
/-! ## TnK -/
namespace Go.TM
set_option autoImplicit false
section
variable {ρ : Type} {P : Program} {E : Env} {F : Fr} {G : Nat → Gh} {s : St} {a : Act} {w w2 : World} {Q : Exit → Act → World → Prop}

theorem free_cell {b o n : Nat} {row : Array Value} {e : TypeId} (h : w.heap[b]? = some (.cells row e (0, 0))) (hs : o + n ≤ row.size) :
    (∀ j, j < n → (w.cell? ⟨b, o + j, none⟩).isSome = true) ∧ (∀ j, j < n → w.frozen? ⟨b, o + j, none⟩ = false) := by
  refine ⟨fun j hj => ?_, fun j hj => ?_⟩
  · simp only [World.cell?, h]
    simp
    omega
  · simp [World.frozen?, h]

theorem zeroCells_len (z : Array Value) (n : Nat) : (Builtin.zeroCells z n).size = n * z.size := by simp [Builtin.zeroCells]

/-- a longer row -/
theorem grow_post (h : Rel F G s a w) (hE : TyOk P E F) {d : Nat} {t : Ty} {e0 : TypeId} (hfine : t.fine) {xs : List t.den} {ks : List FT} {cs zs : List Value} {gc : Nat} {k : St → Option ρ} {r : ρ} (hk : newSl s d t xs k = some r) (hd : d < E.nt)
    (hO : OwnL w t xs ks cs) (hn : (FT.blocksL ks).Nodup) (ho : ∀ b ∈ FT.blocksL ks, ∀ j y, s.box j = some y → b ∉ (G j).blocks)
    (hm : ∀ b ∈ FT.blocksL ks, ¬ F.R b ∧ b < w.heap.size ∧ (b ∈ F.M ∨ F.w0.heap.size ≤ b)) {row : Array Value} (hrow : row.toList = cs ++ zs) (hsz : gc * t.size = row.size) (hle : xs.length ≤ gc) (hlim : xs.length ≤ lim) :
    Post F k r (a.put (some d) (.slice (some ⟨w.heap.size, 0, none⟩) xs.length gc)) (w.alloc (.cells row e0)) :=
  newSl_post (h.alloc _) hE hk hd hfine (OwnL.own (OwnL.agree (fun b hb => alloc_get w _ b (hm b hb).2.1) hO) (alloc_new w _) hrow hsz hle hlim) (NewOk.row gc h hn ho hm)

theorem append_sound (h : Rel F G s a w) (hE : TyOk P E F) {o : Oper} {c : Call} (ho : o.op = .call c) (hb : c.callee = .builtin .append) (hd : ∀ d, o.dst = some d → d < E.nt) {k : St → Option ρ} {r : ρ} (hk : opK E o s k = some r) :
    o.wp P a w (Post F k r) Q := by
  unfold opK at hk
  rw [ho] at hk
  simp only [hb] at hk
  unfold builtinK at hk
  split at hk
  · contradiction
  rotate_left
  · contradiction
  · contradiction
  · cases hk
  rename_i t tx vx vy _ hty hvs
  split at hk
  rotate_left
  · cases hk
  rename_i T T2 d hT hT2 hdst
  have ht := hE.ty t _ hT
  have ht2 := hE.ty tx _ hT2
  have hdd := hd d hdst
  obtain ⟨x, y, hargs, hxv, hyv⟩ : ∃ x y, c.args = #[x, y] ∧ s.ev x = vx ∧ s.ev y = vy := by
    match hl : c.args.toList, hvs with
    | [x, y], hvs =>
      simp only [List.map_cons, List.map_nil, List.cons.injEq, and_true] at hvs
      exact ⟨x, y, by rw [← Array.toArray_toList (xs := c.args), hl], hvs.1, hvs.2⟩
    | [], hvs => simp at hvs
    | [_], hvs => simp at hvs
    | _ :: _ :: _ :: _, hvs => simp at hvs
  have hty' : c.argTypes = #[t, tx] := by rw [← Array.toArray_toList (xs := c.argTypes), hty]
  have hx := ev_sound h x
  have hy := ev_sound h y
  rw [hxv] at hx
  rw [hyv] at hy
  unfold appendK at hk
  split at hk
  · cases hk
  rename_i hnopq
  have hnopq : T.nopq = true := by simpa using hnopq
  obtain ⟨G1, s1, ys, ls, ds, κ, hk1, M1⟩ := moreD_sound (P := P) h ht2 hy hk
  have hx1 := M1.vr _ _ hx
  have x1 := hx1.single (absorb_slice hk1)
  obtain ⟨G2, s2, cc, f, κ2, hk2, T1⟩ := absorb_sound (.slice T) _ G1 s1 [a.eval x] _ r M1.rel x1 hk1
  split at hk2
  rotate_left
  · cases hk2
  rename_i xs0 hxs0
  suffices key : ∀ (xs : List T.den), cc.asOwn (.slice T) = some xs → Nat.ble (xs.length + ys.length) bnd = true → newSl s2 d T (xs ++ ys) k = some r → o.wp P a w (Post F k r) Q by
    split at hk2
    · rename_i hle
      exact key xs0 hxs0 hle hk2
    · cases hk2
  clear hk2 hxs0 xs0
  intro xs hxs hle hk2
  have hle : xs.length + ys.length ≤ bnd := Nat.le_of_ble_eq_true hle
  obtain ⟨f', fb, fo⟩ := asOwn_own (.slice T) cc f [a.eval x] xs T1.con hxs
  obtain ⟨e0, hu, hte⟩ := ht.slice
  obtain ⟨i, hi, hsz, hby, hz⟩ := hte.info
  obtain ⟨z, z1, z2, z3⟩ := hz hnopq
  have hzl : z.cells.size = T.size := by
    have := zcells_len T
    rw [← z2] at this
    simpa using this
  have hfine := TyIs.fine T e0 hte
  have hsrc := M1.src
  rw [← hsz] at hsrc
  -- the blocks of both
  have lout : ∀ b ∈ FT.blocksL ls, ∀ j y, s2.box j = some y → b ∉ (G2 j).blocks := by
    intro b hb j y hy hm
    obtain ⟨i', x', hx', hm'⟩ := T1.less.sub j y hy b hm
    exact M1.out b hb i' x' hx' hm'
  have lapart : ∀ b ∈ f.blocks, b ∉ FT.blocksL ls := by
    intro b hb hb'
    obtain ⟨i', x', hx', hm'⟩ := T1.had b hb
    exact M1.out b hb' i' x' hx' hm'
  have hop : ∀ (X : Value), a.eval x = X → ∀ v w', (Builtin.append_ #[t, tx] o.type #[X, a.eval y]).run P w = .ok v w' → Post F k r (a.put (some d) v) w' → o.wp P a w (Post F k r) Q := by
    intro X hX v w' hrun hpost
    refine wp_value (v := v) (w' := w') ?_ (by rw [hdst]; exact hpost)
    rw [run_builtin ho hb, hty', hargs]
    simp only [List.map_toArray, List.map_cons, List.map_nil, hX, builtin, Sem.run_bind, hrun, Result.andThen_ok, Sem.run_pure]
  obtain ⟨bk, cap, ks, rfl, hX, h1, h2, h3, h4⟩ := id fo
  have hX : a.eval x = .slice (bk.map (⟨·, 0, none⟩)) (xs.length) cap := (List.cons.inj hX).1
  have ksub : ∀ b ∈ FT.blocksL ks, b ∈ f.blocks := fun b hb => by rw [← fb]; simp [FT.blocks, hb]
  have hfnd := T1.fresh.nodup
  rw [← fb] at hfnd
  simp only [FT.blocks, List.nodup_append] at hfnd
  obtain ⟨_, knd, kapart⟩ := hfnd
  have hall : (FT.blocksL (ks ++ ls)).Nodup ∧ (∀ b ∈ FT.blocksL (ks ++ ls), ∀ j y, s2.box j = some y → b ∉ (G2 j).blocks) ∧ (∀ b ∈ FT.blocksL (ks ++ ls), ¬ F.R b ∧ b < w.heap.size ∧ (b ∈ F.M ∨ F.w0.heap.size ≤ b)) := by
    rw [blocksL_append]
    refine ⟨?_, fun b hb => ?_, fun b hb => ?_⟩
    · rw [List.nodup_append]
      exact ⟨knd, M1.nodup, fun b hb c hc e => lapart b (ksub b hb) (e ▸ hc)⟩
    · rcases List.mem_append.1 hb with hb | hb
      · exact T1.fresh.out b (ksub b hb)
      · exact lout b hb
    · rcases List.mem_append.1 hb with hb | hb
      · exact T1.fresh.mine b (ksub b hb)
      · exact M1.mine b hb
  obtain ⟨a1, a2, a3⟩ := hall
  have hlen2 : (xs ++ ys : List T.den).length = xs.length + ys.length := List.length_append
  have hlim : (xs ++ ys : List T.den).length ≤ lim := by rw [hlen2]; exact bnd_lim hle
  -- a new row
  have grow : ∀ (olds : List Value) (base : Option Addr), a.eval x = .slice base (xs.length) cap → (Builtin.firstCells i.size (xs.length) (.slice base (xs.length) cap)).run P w.drew = .ok olds.toArray w.drew →
      OwnL w T xs ks olds → cap < xs.length + ys.length → o.wp P a w (Post F k r) Q := by
    intro olds base hXb hold hOL hg
    have hfit : Builtin.nextslicecap (xs.length + ys.length) cap * i.bytes ≤ 281474976710656 := by
      have q1 := nextslicecap_le hg
      have q2 : Builtin.nextslicecap (xs.length + ys.length) cap ≤ 8589934592 := Nat.le_trans q1 (by have : bnd = 4294967296 := rfl; omega)
      have q3 : Builtin.nextslicecap (xs.length + ys.length) cap * i.bytes ≤ 8589934592 * 4096 := Nat.mul_le_mul q2 hby
      exact Nat.le_trans q3 (by decide)
    have h63 : ((xs.length + ys.length : Nat) : Int) ≤ 9223372036854775807 := by
      have : bnd = 4294967296 := rfl
      omega
    have hrun := run_append_grow_src (P := P) w t tx o.type e0 i z hu hi z1 base (xs.length) cap olds hold (a.eval y) ys.length ds hsrc hg h63 hfit
    have hge := grownCap_ge w (xs.length + ys.length) cap e0
    have R2 : Rel F G2 s2 a w.drew := T1.rel.shift ⟨Nat.le_refl _, rfl, rfl⟩ (fun _ _ => rfl) (fun _ _ _ _ _ => rfl) (fun _ _ _ => rfl)
    have hO : OwnL w.drew T (xs ++ ys) (ks ++ ls) (olds ++ ds) := OwnL.agree (w := w) (fun _ _ => rfl) (OwnL.append hOL M1.own)
    have hOlen := hO.len.1
    have hpost := grow_post (e0 := e0) (zs := (Builtin.zeroCells z.cells (grownCap w (xs.length + ys.length) cap e0 - (xs.length + ys.length))).toList)
      (row := (olds ++ ds).toArray ++ Builtin.zeroCells z.cells (grownCap w (xs.length + ys.length) cap e0 - (xs.length + ys.length))) (gc := grownCap w (xs.length + ys.length) cap e0)
      R2 hE hfine hk2 hdd hO a1 a2 a3 (by simp) (by
        rw [Array.size_append, zeroCells_len, List.size_toArray, hOlen, hlen2, hzl, ← Nat.add_mul]
        congr 1
        omega) (by rw [hlen2]; exact hge) hlim
    rw [hlen2] at hpost
    exact hop _ hXb _ _ hrun hpost
  cases bk with
  | none =>
    subst h4
    have h0 : xs.length = 0 := Nat.le_zero.1 h1
    have hxs0 : xs = ([] : List T.den) := List.length_eq_zero_iff.1 h0
    subst hxs0
    have hks : ks = [] := List.length_eq_zero_iff.1 h3
    subst hks
    by_cases hys : ys.length = 0
    · have hys0 : ys = [] := List.length_eq_zero_iff.1 hys
      subst hys0
      have hl0 : ls = [] := List.length_eq_zero_iff.1 M1.own.len.2
      subst hl0
      refine hop (.slice none 0 0) hX (.slice none 0 0) w ?_ ?_
      · have q1 := hsrc.len
        have q2 := hsrc.cells
        rcases hsrc.kind with ⟨e', hk'⟩ | hk' <;> (simp [Builtin.append_, run_underlying hu, run_underlying hk', sizeOf, typeInfo, hi, q1]; rw [show (Builtin.firstCells i.size 0 (a.eval y)).run P w = .ok ds.toArray w from q2]; rfl)
      · exact newSl_post (xs := ([] : List T.den)) T1.rel hE hk2 hdd hfine (f := .node none 0 []) ⟨none, 0, [], rfl, rfl, Nat.le_refl _, Nat.zero_le _, rfl, rfl⟩ ⟨List.nodup_nil, fun b hb => (by cases hb), fun b hb => (by cases hb)⟩
    · exact grow [] none hX (run_firstCells_none w.drew i.size 0 0 0) rfl (by show 0 < 0 + ys.length; omega)
  | some blk =>
    obtain ⟨row, e, cs, rest, g1, g2, g3, g4, g5, g6, _⟩ := Own.toL fo
    obtain ⟨q1, q2⟩ := g4.len
    by_cases hroom : xs.length + ys.length ≤ cap
    · have hin : blk ∈ f.blocks := by rw [← fb]; simp [FT.blocks]
      obtain ⟨m1, m2, m3⟩ := T1.fresh.mine blk hin
      have hdl := M1.own.len.1
      have hsize : 0 + xs.length * T.size + ds.length ≤ row.size := by
        rw [← g2, hdl, Nat.zero_add, ← Nat.add_mul]
        exact Nat.mul_le_mul_right _ hroom
      obtain ⟨f1, f2⟩ := free_cell g1 hsize
      have hrun := run_append_room_src (P := P) w t tx o.type e0 i hu hi blk 0 xs.length cap (a.eval y) ys.length ds hsrc hroom (fun j hj => by rw [hsz]; exact f1 j hj) (fun j hj => by rw [hsz]; exact f2 j hj)
      rw [hsz, Nat.zero_add] at hrun
      have hoth : ∀ c, c ≠ blk → (w.setCells blk (xs.length * T.size) ds).heap[c]? = w.heap[c]? := fun c hc => setCells_other blk ds _ w c hc
      obtain ⟨row2, r1, r2⟩ := setCells_row blk ds (xs.length * T.size) w row e (0, 0) g1 (by rw [Nat.zero_add] at hsize; exact hsize)
      have hkout : ∀ b ∈ FT.blocksL (ks ++ ls), b ≠ blk := by
        intro b hb e
        subst e
        rw [blocksL_append] at hb
        rcases List.mem_append.1 hb with hb | hb
        · exact kapart b (by simp) b hb rfl
        · exact lapart b hin hb
      have hwsz := setCells_size blk ds (xs.length * T.size) w
      have R2 : Rel F G2 s2 a (w.setCells blk (xs.length * T.size) ds) := T1.rel.shift ⟨Nat.le_of_eq hwsz.symm, setCells_os _ _ _ _, setCells_output _ _ _ _⟩ (fun b hb => hoth b (fun e => m1 (e ▸ hb)))
        (fun i x hx b hb => hoth b (fun e => T1.fresh.out blk hin i x hx (e ▸ hb))) (fun b hb hbm => hoth b (fun e => by
          subst e
          rcases m3 with m3 | m3
          · exact hbm m3
          · omega))
      have hO : OwnL (w.setCells blk (xs.length * T.size) ds) T (xs ++ ys) (ks ++ ls) (cs ++ ds) := OwnL.agree (w := w) (fun b hb => hoth b (hkout b hb)) (OwnL.append g4 M1.own)
      have hrow2 : row2.toList = (cs ++ ds) ++ row.toList.drop (xs.length * T.size + ds.length) := by
        rw [r2, g3, ← q1, List.take_left]
      have hcap2 : cap * T.size = row2.size := by
        have := congrArg List.length r2
        simp only [Array.length_toList, List.length_append, List.length_take, List.length_drop] at this
        rw [Nat.zero_add] at hsize
        rw [g2, this]
        omega
      have hown := OwnL.own (b := blk) hO r1 hrow2 hcap2 (by rw [hlen2]; exact hroom) hlim
      have hpost := newSl_post R2 hE hk2 hdd hfine hown (by
        have hbl : ∀ b ∈ (Gh.mk none (.node (some blk) cap (ks ++ ls))).blocks, b = blk ∨ b ∈ FT.blocksL (ks ++ ls) := by
          intro b hb
          simpa [Gh.blocks, FT.blocks] using hb
        refine ⟨?_, fun b hb j y hy => ?_, fun b hb => ?_⟩
        · simp only [Gh.blocks, FT.blocks, Option.toList_none, List.nil_append, Option.toList_some, List.singleton_append, List.nodup_cons]
          exact ⟨fun hm => hkout blk hm rfl, a1⟩
        · rcases hbl b hb with rfl | hb
          · exact T1.fresh.out b hin j y hy
          · exact a2 b hb j y hy
        · rw [hwsz]
          rcases hbl b hb with rfl | hb
          · exact ⟨m1, m2, m3⟩
          · exact a3 b hb)
      rw [hlen2] at hpost
      exact hop _ hX _ _ hrun hpost
    · refine grow cs (some ⟨blk, 0, none⟩) hX ?_ g4 (by omega)
      have := run_firstCells_some (P := P) w.drew i.size (xs.length) ⟨blk, 0, none⟩ (xs.length) cap cs (by rw [hsz]; exact q1) (fun j u hu => by
        rw [add_plain, Nat.zero_add]
        refine row_cell (w := w.drew) (b := blk) (row := row) (e := e) (fz := (0, 0)) g1 ?_
        rw [g3, List.getElem?_append_left (List.getElem?_eq_some_iff.1 hu).1]
        exact hu)
      exact this
end
end Go.TM
/-! ## TnL -/
namespace Go.TM
set_option autoImplicit false

def A0 : AdrF := fun _ _ => none

/-- an argument that is only read -/
def ArgRo (w : World) (R : Nat → Prop) : PM → D → Value → Prop
  | .ro t, d, v => d.t = t ∧ VR A0 w R (.dat d.t d.x) v
  | .rop t, d, v => d.t = t ∧ VR A0 w R (.rop d.t d.x) v
  | _, _, _ => False

def ArgRos (w : World) (R : Nat → Prop) : List PM → List D → List Value → Prop
  | [], [], [] => True
  | m :: ms, d :: ds, v :: vs => ArgRo w R m d v ∧ ArgRos w R ms ds vs
  | _, _, _ => False

/-- a variable that is lent -/
def OwnVar (w : World) (t : Ty) (x : t.den) (g : Gh) (v : Value) : Prop :=
  ∃ blk row e, g.base = some blk ∧ v = .pointer (some ⟨blk, 0, none⟩) ∧ w.heap[blk]? = some (.cells row e (0, 0)) ∧ row.size = t.size ∧ Own w t x g.ft row.toList

/-- an argument -/
def ArgR (w : World) (R : Nat → Prop) : PM → List D → Value → Gh → Prop
  | .ptr t, [d], v, g => d.t = t ∧ OwnVar w d.t d.x g v
  | .mut t, [d], v, g => d.t = t ∧ (∃ u, t = .slice u) ∧ g.base = none ∧ Own w d.t d.x g.ft [v]
  | .own t, [d], v, g => d.t = t ∧ (∃ u, t = .slice u) ∧ g.base = none ∧ Own w d.t d.x g.ft [v]
  | .clo f ms, ds, v, g => g.blocks = [] ∧ ∃ vs, v = .func (.func f) #[] (List.toArray vs) ∧ ArgRos w R ms ds vs
  | m, [d], v, g => g.blocks = [] ∧ ArgRo w R m d v
  | _, _, _, _ => False

def ArgsR (w : World) (R : Nat → Prop) : List PM → List D → List Value → List Gh → Prop
  | [], [], [], [] => True
  | m :: ms, ds, v :: vs, g :: gs => ∃ d1 d2, ds = d1 ++ d2 ∧ ArgR w R m d1 v g ∧ ArgsR w R ms d2 vs gs
  | _, _, _, _ => False

def ghBlocks (gs : List Gh) : List Nat := (gs.map Gh.blocks).flatten

/-- a result -/
def ResV (w : World) (d : D) (v : Value) (ft : FT) : Prop := ∃ cs, Own w d.t d.x ft cs ∧ (if d.t.agg then v = .agg cs.toArray else cs = [v])

def ResVs (w : World) : List D → List Value → List FT → Prop
  | [], [], [] => True
  | d :: ds, v :: vs, f :: fs => ResV w d v f ∧ ResVs w ds vs fs
  | _, _, _ => False

def ResR (w : World) (rs : List D) (v : Value) (fs : List FT) : Prop :=
  match rs with
  | [] => v = .tuple #[] ∧ fs = []
  | [d] => ∃ f, fs = [f] ∧ ResV w d v f
  | rs => ∃ vs, v = .tuple (List.toArray vs) ∧ ResVs w rs vs fs

/-- what was lent, behind the call -/
def MutR (w : World) : List PM → List D → List Value → List Gh → List Gh → Prop
  | [], [], [], [], [] => True
  | m :: ms, ds, v :: vs, g :: gs, g' :: gs' => match m, ds with
    | .ptr t, d :: ds => (d.t = t ∧ g'.base = g.base ∧ OwnVar w d.t d.x g' v) ∧ MutR w ms ds vs gs gs'
    | .mut t, d :: ds => (d.t = t ∧ g'.base = none ∧ Own w d.t d.x g'.ft [v]) ∧ MutR w ms ds vs gs gs'
    | .ptr _, [] => False
    | .mut _, [] => False
    | _, ds => g'.blocks = [] ∧ MutR w ms ds vs gs gs'
  | _, _, _, _, _ => False

structure Pre (w : World) (R : Nat → Prop) (c : FnC) (ds : List D) (vs : List Value) (gs : List Gh) : Prop where
  args : ArgsR w R c.params ds vs gs
  nodup : (ghBlocks gs).Nodup
  mine : ∀ b ∈ ghBlocks gs, ¬ R b ∧ b < w.heap.size
  R : ∀ b, R b → b < w.heap.size

structure Done (w : World) (c : FnC) (vs : List Value) (gs : List Gh) (rs ms : List D) (v : Value) (w' : World) (fs : List FT) (gs' : List Gh) : Prop where
  res : ResR w' rs v fs
  types : rs.map D.t = c.results
  muts : MutR w' c.params ms vs gs gs'
  nodup : (FT.blocksL fs ++ ghBlocks gs').Nodup
  mine : ∀ b ∈ FT.blocksL fs ++ ghBlocks gs', b < w'.heap.size ∧ (b ∈ ghBlocks gs ∨ w.heap.size ≤ b)
  gro : Gro w w'
  agree : ∀ b, b < w.heap.size → b ∉ ghBlocks gs → w'.heap[b]? = w.heap[b]?

theorem Done.size {w : World} {c : FnC} {vs : List Value} {gs : List Gh} {rs ms : List D} {v : Value} {w' : World} {fs : List FT} {gs' : List Gh} (h : Done w c vs gs rs ms v w' fs gs') : w.heap.size ≤ w'.heap.size := h.gro.size

/-- a call of f: entered, or answered at once -/
def Runs (P : Program) (f : Nat) (vs : Array Value) (w : World) (Q : Ending → World → Prop) : Prop :=
  ((∀ args w, (callFunc f args).run P w = .ok (.enter f args) w) ∧ Calls P f vs w Q) ∨ (∃ v w', (callFunc f vs).run P w = .ok (.value v) w' ∧ Q (.returned v) w')

theorem Runs.mono {P : Program} {f : Nat} {vs : Array Value} {w : World} {Q Q' : Ending → World → Prop} (h : Runs P f vs w Q) (hQ : ∀ e w', Q e w' → Q' e w') : Runs P f vs w Q' := by
  rcases h with ⟨h1, h2⟩ | ⟨v, w', h1, h2⟩
  · exact .inl ⟨h1, h2.mono hQ⟩
  · exact .inr ⟨v, w', h1, hQ _ _ h2⟩

/-- THE CONTRACT: function f does what c says. -/
structure Valid (P : Program) (f : Nat) (c : FnC) : Prop where
  law : c.Law
  fine : ∀ t ∈ c.results, t.fine
  calls : ∀ (w : World) (R : Nat → Prop) (ds : List D) (vs : List Value) (gs : List Gh) (rs ms : List D), Pre w R c ds vs gs → c.g ds = some (rs, ms) →
    Runs P f vs.toArray w fun e w' => match e with
      | .returned v => ∃ fs gs', Done w c vs gs rs ms v w' fs gs'
      | _ => False

def EnvOk (P : Program) (E : Env) : Prop := ∀ f ids c, E.fn f ids = some c → Valid P f c
end Go.TM
/-! ## TnM -/
namespace Go.TM
set_option autoImplicit false
section
variable {ρ : Type} {P : Program} {E : Env} {F : Fr} {G : Nat → Gh} {s s2 : St} {a : Act} {w w2 : World} {Q : Exit → Act → World → Prop} {A A' : AdrF} {R : Nat → Prop} {p : Nat → Bool}

theorem within_agg (p : Nat → Bool) (v : TV) : (v.within p).agg = v.agg := by
  cases v <;> simp only [TV.within] <;> (try split) <;> rfl

theorem VRc.within (hA : ∀ c q, p c = true → A' c q = A c q) : ∀ (v : TV) (cs : List Value), VRc A w R v cs → VRc A' w R (v.within p) cs
  | .dat _ _, _, h => h
  | .nil, _, h => h
  | .unit, _, h => h
  | .un, _, h => h
  | .tup _, _, h => h.elim
  | .own _ _, _, h => h.elim
  | .cons a r, cs, h => by
    obtain ⟨c1, c2, rfl, h1, h2⟩ := h
    exact ⟨c1, c2, rfl, VRc.within hA a c1 h1, VRc.within hA r c2 h2⟩
  | .ref c q, cs, h => by
    simp only [TV.within]
    split
    · rename_i hp
      obtain ⟨t, ft, blk, off, h1, rfl⟩ := h
      exact ⟨t, ft, blk, off, by rw [hA c q hp]; exact h1, rfl⟩
    · obtain ⟨t, ft, blk, off, h1, rfl⟩ := h
      exact ⟨_, rfl⟩
  | .sl c q, cs, h => by
    simp only [TV.within]
    split
    · rename_i hp
      obtain ⟨t, bk, cap, ks, ad, h1, rfl⟩ := h
      exact ⟨t, bk, cap, ks, ad, by rw [hA c q hp]; exact h1, rfl⟩
    · obtain ⟨t, bk, cap, ks, ad, h1, rfl⟩ := h
      exact ⟨_, rfl⟩
  | .slw c q lo n, cs, h => by
    simp only [TV.within]
    split
    · rename_i hp
      obtain ⟨t, bk, cap, ks, ad, h1, h2⟩ := h
      exact ⟨t, bk, cap, ks, ad, by rw [hA c q hp]; exact h1, h2⟩
    · obtain ⟨t, bk, cap, ks, ad, h1, _, a', c', rfl, _⟩ := h
      exact ⟨_, rfl⟩
  | .rop _ _, _, h => h
  | .clo f caps, cs, h => by
    obtain ⟨vs, h1, rfl⟩ := h
    exact ⟨vs, VRc.within hA caps vs h1, rfl⟩

theorem VR1.within (hA : ∀ c q, p c = true → A' c q = A c q) {v : TV} {x : Value} (h : VR1 A w R v x) : VR1 A' w R (v.within p) x := by
  rcases h with rfl | ⟨cs, h1, h2⟩
  · exact .inl rfl
  · exact .inr ⟨cs, VRc.within hA v cs h1, by rw [within_agg]; exact h2⟩

theorem VRt.within (hA : ∀ c q, p c = true → A' c q = A c q) : ∀ (v : TV) (xs : List Value), VRt A w R v xs → VRt A' w R (v.within p) xs := by
  intro v
  induction v with
  | cons a r _ ihr =>
    intro xs h
    cases xs with
    | nil => exact h.elim
    | cons x xs => exact ⟨VR1.within hA h.1, ihr xs h.2⟩
  | unit =>
    intro xs h
    cases xs with
    | nil => trivial
    | cons _ _ => exact h.elim
  | _ => intro xs h; exact h.elim

theorem VR.within (hA : ∀ c q, p c = true → A' c q = A c q) {v : TV} {x : Value} (h : VR A w R v x) : VR A' w R (v.within p) x := by
  by_cases ht : ∃ a, v = .tup a
  · obtain ⟨a, rfl⟩ := ht
    obtain ⟨xs, h1, h2⟩ := h
    exact ⟨xs, VRt.within hA a xs h1, h2⟩
  · have hn : ∀ a, v ≠ .tup a := fun a e => ht ⟨a, e⟩
    rw [VR_iff hn] at h
    have hn' : ∀ a, v.within p ≠ .tup a := by
      intro a e
      cases v <;> simp only [TV.within] at e <;> first | exact hn _ rfl | (split at e <;> cases e) | cases e
    rw [VR_iff hn']
    exact VR1.within hA h

theorem Con.within (hA : ∀ c q, p c = true → A' c q = A c q) : ∀ (c : TV) (t : Ty) (ft : FT) (cs : List Value), Con A w R c t ft cs → Con A' w R (c.within p) t ft cs := by
  have other : ∀ (v : TV) (t : Ty) (ft : FT) (cs : List Value), t.size = 1 → t.agg = false → ft.blocks = [] → VRc A w R v cs → (v.within p = .un ∨ ∀ (t : Ty) (ft : FT) (cs : List Value), (t.size = 1 ∧ t.agg = false ∧ ft.blocks = [] ∧ VRc A' w R (v.within p) cs) → Con A' w R (v.within p) t ft cs) → cs.length = 1 →
      Con A' w R (v.within p) t ft cs := by
    intro v t ft cs h1 h2 h3 h4 h5 h6
    rcases h5 with h5 | h5
    · rw [h5]; exact ⟨h3, h1, h2, h6⟩
    · exact h5 t ft cs ⟨h1, h2, h3, VRc.within hA v cs h4⟩
  intro c
  induction c with
  | own u x => intro t ft cs h; exact h
  | dat u x => intro t ft cs h; exact h
  | cons a d iha ihd =>
    intro t ft cs h
    cases t with
    | cons t r =>
      obtain ⟨h0, c1, c2, rfl, hl, h1, h2⟩ := h
      exact ⟨h0, c1, c2, rfl, hl, iha _ _ _ h1, ihd _ _ _ h2⟩
    | _ => exact h.elim
  | unit => intro t ft cs h; exact h
  | un => intro t ft cs h; exact h
  | tup _ => intro t ft cs h; exact h.elim
  | nil => intro t ft cs h; exact h
  | rop u x => intro t ft cs h; exact h
  | ref b q =>
    intro t ft cs h
    obtain ⟨h1, h2, h3, h4⟩ := h
    refine other _ t ft cs h1 h2 h3 h4 ?_ (by have := VRc.len _ _ h4; exact this)
    simp only [TV.within]
    split
    · exact .inr fun _ _ _ h => h
    · exact .inl rfl
  | sl b q =>
    intro t ft cs h
    obtain ⟨h1, h2, h3, h4⟩ := h
    refine other _ t ft cs h1 h2 h3 h4 ?_ (by have := VRc.len _ _ h4; exact this)
    simp only [TV.within]
    split
    · exact .inr fun _ _ _ h => h
    · exact .inl rfl
  | slw b q lo n =>
    intro t ft cs h
    obtain ⟨h1, h2, h3, h4⟩ := h
    refine other _ t ft cs h1 h2 h3 h4 ?_ (by have := VRc.len _ _ h4; exact this)
    simp only [TV.within]
    split
    · exact .inr fun _ _ _ h => h
    · exact .inl rfl
  | clo f caps _ =>
    intro t ft cs h
    obtain ⟨h1, h2, h3, h4⟩ := h
    exact ⟨h1, h2, h3, VRc.within hA _ cs h4⟩

/-- boxes and values are forgotten -/
theorem Rel.forget (h : Rel F G s a w) (p : Nat → Bool) (hb : ∀ j, s2.box j = if p j then (s.box j).map (Box.within p) else none) (hg : ∀ n, s2.get n = (s.get n).within p ∨ s2.get n = .un) : Rel F G s2 a w := by
  have hA : ∀ c q, p c = true → adr s2.box G c q = adr s.box G c q := by
    intro c q hc
    unfold adr
    rw [hb, if_pos hc]
    cases s.box c <;> rfl
  have inv : ∀ {j y}, s2.box j = some y → ∃ y', s.box j = some y' ∧ y = y'.within p := by
    intro j y hy
    rw [hb] at hy
    split at hy
    · cases hj : s.box j with
      | none => rw [hj] at hy; cases hy
      | some y' => rw [hj] at hy; exact ⟨y', rfl, (Option.some.inj hy).symm⟩
    · cases hy
  refine ⟨fun i x hx => ?_, fun i x hx => ?_, fun i j x y hx hy => ?_, fun i x hx => ?_, fun i x hx => ?_, h.R, fun n => ?_, h.agree, h.gro, h.defers, h.nt, fun i x hx => ?_⟩
  · obtain ⟨y, hy, rfl⟩ := inv hx
    have hold := h.box i y hy
    unfold BoxRel at hold ⊢
    by_cases hv : y.virt = true
    · rw [if_pos hv] at hold
      rw [if_pos (show (y.within p).virt = true from hv)]
      obtain ⟨h1, h2, cs, h3⟩ := hold
      exact ⟨h1, h2, cs, Con.within hA _ _ _ _ h3⟩
    · rw [if_neg hv] at hold
      rw [if_neg (show ¬ (y.within p).virt = true from hv)]
      obtain ⟨blk, row, e, h1, h2, h3, h4⟩ := hold
      exact ⟨blk, row, e, h1, h2, h3, Con.within hA _ _ _ _ h4⟩
  · obtain ⟨y, hy, rfl⟩ := inv hx; exact h.fine i y hy
  · obtain ⟨x', hx', rfl⟩ := inv hx
    obtain ⟨y', hy', rfl⟩ := inv hy
    exact h.apart i j x' y' hx' hy'
  · obtain ⟨y, hy, rfl⟩ := inv hx; exact h.nodup i y hy
  · obtain ⟨y, hy, rfl⟩ := inv hx; exact h.mine i y hy
  · rcases hg n with e | e
    · rw [e]; exact VR.within hA (h.tmps n)
    · rw [e]; exact .inl rfl
  · obtain ⟨y, hy, rfl⟩ := inv hx; exact h.par i y hy

theorem lk_keep (f : Nat → TV) (ts : List Nat) (n : Nat) : (lk (ts.map fun n => (n, f n)) n).getD .un = f n ∨ (lk (ts.map fun n => (n, f n)) n).getD .un = .un := by
  induction ts with
  | nil => exact .inr rfl
  | cons t ts ih =>
    simp only [List.map_cons, lk_cons]
    split
    · rename_i e; subst e; exact .inl rfl
    · exact ih

theorem lk_boxes (f : Nat → Option Box) (bs : List Nat) (n : Nat) : lk (bs.filterMap fun n => (f n).map fun b => (n, b)) n = if mem bs n then f n else none := by
  induction bs with
  | nil => rfl
  | cons b bs ih =>
    have hm : mem (b :: bs) n = if b = n then true else mem bs n := by
      simp only [mem]
      by_cases e : b = n
      · subst e; simp
      · simp [e, beq_false e]
    rw [hm]
    simp only [List.filterMap_cons]
    by_cases e : b = n
    · subst e
      cases hf : f b with
      | none => simp [ih, hf]
      | some x => simp [lk_cons]
    · cases hf : f b with
      | none => simp [e, ih]
      | some x => simp [lk_cons, e, ih]

theorem Rel.keepOnly (h : Rel F G s a w) (ts bs : List Nat) : Rel F G (s.keepOnly ts bs) a w := by
  refine h.forget (mem bs) (fun j => ?_) (fun n => lk_keep (fun n => (s.get n).within (mem bs)) ts n)
  have := lk_boxes (fun n => (s.box n).map (Box.within (mem bs))) bs j
  rw [← this]
  show lk (bs.filterMap fun n => (s.box n).map fun b => (n, b.within (mem bs))) j = _
  congr 1
  congr 1
  funext n
  cases s.box n <;> rfl

theorem lk_del {α : Type} (l : List (Nat × α)) (b n : Nat) : lk (del l b) n = if b = n then none else lk l n := by
  induction l with
  | nil => simp [del, lk]
  | cons x l ih =>
    obtain ⟨k, v⟩ := x
    simp only [del]
    by_cases e : k = b
    · subst e
      rw [Nat.beq_refl]
      simp only [if_true, ih, lk_cons]
      by_cases e2 : k = n <;> simp [e2]
    · rw [beq_false e]
      simp only [Bool.false_eq_true, if_false, lk_cons, ih]
      by_cases e2 : k = n
      · subst e2; simp [Ne.symm e]
      · simp [e2]

theorem Rel.drop (h : Rel F G s a w) (b : Nat) : Rel F G (s.drop b) a w := by
  refine h.forget (fun c => !Nat.beq b c) (fun j => ?_) (fun n => .inl ?_)
  · unfold St.drop St.box
    simp only [lk_map, lk_del]
    by_cases e : b = j
    · subst e; simp
    · simp [e, beq_false e]
  · unfold St.drop St.get
    simp only [lk_map]
    cases lk s.tmps n <;> rfl
end
end Go.TM
/-! ## TnN -/
namespace Go.TM
set_option autoImplicit false
section
variable {ρ : Type} {P : Program} {E : Env} {F : Fr} {G : Nat → Gh} {s s2 : St} {a : Act} {w w2 : World}

/-- every operation is sound -/
def OpsSound (ρ : Type) (P : Program) (E : Env) (F : Fr) : Prop := ∀ (G : Nat → Gh) (s : St) (a : Act) (w : World) (Q : Exit → Act → World → Prop) (o : Oper) (k : St → Option ρ) (r : ρ),
  Rel F G s a w → opD E o s k = some r → o.wp P a w (Post F k r) Q

theorem guard_bool (h : Rel F G s a w) {d : Nat} {b : Bool} (e : s.get d = .dat .bool b) : a.tmps.getD d undef = .bool b := by
  have := h.tmps d
  rw [e] at this
  exact this.bool

theorem opsK_sound (hO : OpsSound ρ P E F) (ops : Array Oper) (k : St → Option ρ) (r : ρ) (Q : Exit → Act → World → Prop) (hQ : ∀ a w, Post F k r a w → Q .normal a w) :
    ∀ (l : List Oper) (G : Nat → Gh) (s : St) (a : Act) (w : World), Rel F G s a w → opsK E ops k l s = some r → wpList P ops Q l a w := by
  intro l
  induction l with
  | nil => intro G s a w h hk; exact hQ a w ⟨G, s, h, hk⟩
  | cons o rest ih =>
    intro G s a w h hk
    have step : ∀ {G s a w}, Rel F G s a w → opD E o s (opsK E ops k rest) = some r → ∀ K : Act → World → Prop, (∀ a w, wpList P ops Q rest a w → K a w) → o.wp P a w K Q := by
      intro G s a w h hk K hK
      exact Oper.wp_mono (fun a w hp => hK a w (by obtain ⟨G', s', h', hk'⟩ := hp; exact ih G' s' a w h' hk')) (hO G s a w Q o _ r h hk)
    refine wpList_step fun K hK => ?_
    simp only [opsK] at hk
    split at hk
    · rename_i hg
      rw [if_pos (by simp [Region.wanted, hg])]
      exact step h hk K hK
    · rename_i j want hg
      split at hk
      · cases hk
      · rename_i d hd
        split at hk
        · rename_i b hb
          have hv := guard_bool h hb
          have hy : yielded ops a.tmps j = some (show Bool from b) := by
            have hv2 : a.tmps[d]? = some (.bool b) := by
              rw [Array.getD_eq_getD_getElem?] at hv
              cases ht : a.tmps[d]? with
              | none => rw [ht] at hv; cases hv
              | some v => rw [ht] at hv; exact congrArg some hv
            cases hj : ops[j]? with
            | none => rw [hj] at hd; cases hd
            | some oj =>
              rw [hj] at hd
              have hd : oj.dst = some d := hd
              simp only [yielded, hj, hd, hv2, Option.bind_some]
          have hput : ∀ b', s.get d = .dat .bool b' → Rel F G (s.put d (.dat .bool b')) a w := fun b' hb' => h.reput (by have := h.tmps d; rwa [hb'] at this)
          have skip : ∀ b', s.get d = .dat .bool b' → opsK E ops k rest (match o.dst with | some e => (s.put d (.dat .bool b')).put e (.tup .unit) | none => s.put d (.dat .bool b')) = some r → K (a.put o.dst undef) w := by
            intro b' hb' hk
            have h1 := hput b' hb'
            refine hK _ _ ?_
            cases hdst : o.dst with
            | none => rw [hdst] at hk; exact ih G _ _ _ h1 hk
            | some e => rw [hdst] at hk; exact ih G _ _ _ (h1.putNo e) hk
          split at hk
          · have hwant : Region.wanted o (yielded ops a.tmps) = want := by
              simp only [Region.wanted, hg, hy]
              cases want <;> rfl
            rw [hwant]
            split at hk
            · rename_i hw
              rw [if_pos hw]
              exact step (hput _ hb) hk K hK
            · rename_i hw
              rw [if_neg hw]
              exact skip _ hb hk
          · have hwant : Region.wanted o (yielded ops a.tmps) = !want := by
              simp only [Region.wanted, hg, hy]
              cases want <;> rfl
            rw [hwant]
            split at hk
            · rename_i hw
              rw [if_neg (by simp [hw])]
              exact skip _ hb hk
            · rename_i hw
              rw [if_pos (by simpa using hw)]
              exact step (hput _ hb) hk K hK
        · rename_i hb
          have hy := guard_none h hd hb
          have hwant : Region.wanted o (yielded ops a.tmps) = false := by
            simp only [Region.wanted, hg, hy]
            cases want <;> rfl
          rw [hwant, if_neg (by simp)]
          refine hK _ _ ?_
          cases hdst : o.dst with
          | none => rw [hdst] at hk; exact ih G _ _ _ h hk
          | some e => rw [hdst] at hk; exact ih G _ _ _ (h.putNo e) hk
        · cases hk

/-- what holds behind a piece of code -/
def PostE (F : Fr) (k : Ex → St → Option ρ) (r : ρ) : Exit → Act → World → Prop
  | .normal, a, w => Post F (k .normal) r a w
  | .exit id, a, w => Post F (k (.exit id)) r a w
  | .ret, a, w => Post F (k .ret) r a w
  | _, _, _ => False

/-- regions are sound -/
def RegSound (ρ : Type) (P : Program) (E : Env) (F : Fr) : Prop := ∀ (G : Nat → Gh) (s : St) (a : Act) (w : World) (id : Nat) (ops : Array Oper) (dr : Bool) (k : Ex → St → Option ρ) (r : ρ),
  Rel F G s a w → exec E 0 (.region id ops dr) k s = some r → (Code.region id ops dr).wp P (PostE F k r) a w

end
end Go.TM
/-! ## TnO -/
namespace Go.TM
set_option autoImplicit false
section
variable {ρ : Type} {P : Program} {E : Env} {F : Fr} {G : Nat → Gh} {s s2 : St} {a : Act} {w w2 : World} {Q : Exit → Act → World → Prop}

/-- what the taking of results leaves -/
structure Got (F : Fr) (G : Nat → Gh) (s : St) (a : Act) (w : World) (bl : List Nat) (G' : Nat → Gh) (s' : St) : Prop where
  rel : Rel F G' s' a w
  le : ALe (adr s.box G) (adr s'.box G')
  sub : ∀ j y, s'.box j = some y → ∀ b ∈ (G' j).blocks, (∃ i x, s.box i = some x ∧ b ∈ (G i).blocks) ∨ b ∈ bl

theorem Got.refl (h : Rel F G s a w) (bl : List Nat) : Got F G s a w bl G s := ⟨h, fun _ _ _ ft _ e => ⟨ft, e, rfl⟩, fun j y hy b hb => .inl ⟨j, y, hy, hb⟩⟩

theorem ALe.trans {A B C : AdrF} (h : ALe A B) (h' : ALe B C) : ALe A C := fun b p t ft ad e => by
  obtain ⟨f1, e1, q1⟩ := h b p t ft ad e
  obtain ⟨f2, e2, q2⟩ := h' b p t f1 ad e1
  exact ⟨f2, e2, q2.trans q1⟩

theorem takeD_sound : ∀ (t : Ty) (x : t.den) (G : Nat → Gh) (s : St) (id : Nat) (ft : FT) (cs : List Value) (k : St → Nat → TV → Option ρ) (r : ρ), Rel F G s a w → t.fine → Own w t x ft cs →
    ft.blocks.Nodup → (∀ b ∈ ft.blocks, ∀ j y, s.box j = some y → b ∉ (G j).blocks) → (∀ b ∈ ft.blocks, ¬ F.R b ∧ b < w.heap.size ∧ (b ∈ F.M ∨ F.w0.heap.size ≤ b)) → takeD s id t x k = some r →
    ∃ G' s' id' v, k s' id' v = some r ∧ Got F G s a w ft.blocks G' s' ∧ VRc (adr s'.box G') w F.R v cs ∧ v.agg = t.agg := by
  have flat : ∀ (t : Ty) (x : t.den) (G : Nat → Gh) (s : St) (id : Nat) (ft : FT) (cs : List Value) (k : St → Nat → TV → Option ρ) (r : ρ), Rel F G s a w → Own w t x ft cs → t.flat = true → k s id (.dat t x) = some r →
      ∃ G' s' id' v, k s' id' v = some r ∧ Got F G s a w ft.blocks G' s' ∧ VRc (adr s'.box G') w F.R v cs ∧ v.agg = t.agg := by
    intro t x G s id ft cs k r h ho hf hk
    obtain ⟨q1, q2, q3⟩ := Own.flatc hf ho
    exact ⟨G, s, id, _, hk, .refl h _, by rw [q2]; exact Rd.of_flat hf q1, rfl⟩
  intro t
  induction t with
  | slice t _ =>
    intro x G s id ft cs k r h hfine ho h1 h2 h3 hk
    simp only [takeD] at hk
    obtain ⟨n1, n2, n3⟩ := newBox_sound hk
    have hok : NewOk F G s w ⟨none, ft⟩ := ⟨by simpa [Gh.blocks] using h1, fun b hb => h2 b (by simpa [Gh.blocks] using hb), fun b hb => h3 b (by simpa [Gh.blocks] using hb)⟩
    have hr := h.addBox (x := ⟨.slice t, true, false, .own (.slice t) x⟩) (g := ⟨none, ft⟩) n1 n2 rfl hfine ⟨rfl, ⟨t, rfl⟩, cs, ⟨rfl, ho⟩⟩ hok
    refine ⟨_, _, _, _, n3, ⟨hr, le_add n2 _ _, fun j y hy b hb => ?_⟩, ?_, rfl⟩
    · rw [box_add] at hy
      by_cases e : id = j
      · subst e
        simp only [addG, if_true, Gh.blocks, Option.toList_none, List.nil_append] at hb
        exact .inr hb
      · rw [if_neg e] at hy
        simp only [addG, Ne.symm e, if_false] at hb
        exact .inl ⟨j, y, hy, hb⟩
    · obtain ⟨b, cap, ks, rfl, hv, _, _, hl, _⟩ := ho
      refine ⟨t, b, cap, ks, none, ?_, by rw [hv, hl]⟩
      simp [adr, box_add, addG, addr]
  | cons t u iht ihu =>
    intro x G s id ft cs k r h hfine ho h1 h2 h3 hk
    simp only [takeD] at hk
    split at hk
    · rename_i hf; exact flat _ x G s id ft cs k r h ho hf hk
    · obtain ⟨h0, c1, c2, rfl, o1, o2⟩ := ho
      rw [h0, List.nodup_append] at h1
      obtain ⟨d1, d2, d3⟩ := h1
      obtain ⟨G1, s1, id1, v1, hk1, T1, V1, A1⟩ := iht x.1 G s id ft.fst c1 _ r h hfine.1 o1 d1 (fun b hb => h2 b (by rw [h0]; simp [hb])) (fun b hb => h3 b (by rw [h0]; simp [hb])) hk
      obtain ⟨G2, s2, id2, v2, hk2, T2, V2, A2⟩ := ihu x.2 G1 s1 id1 ft.snd c2 _ r T1.rel hfine.2.1 o2 d2 (fun b hb j y hy hm => by
        rcases T1.sub j y hy b hm with ⟨i, z, hz, hm'⟩ | hm'
        · exact h2 b (by rw [h0]; simp [hb]) i z hz hm'
        · exact d3 b hm' b hb rfl) (fun b hb => h3 b (by rw [h0]; simp [hb])) hk1
      refine ⟨G2, s2, id2, _, hk2, ⟨T2.rel, T1.le.trans T2.le, fun j y hy b hb => ?_⟩, ⟨c1, c2, rfl, VRc.mono T2.le (fun _ _ => rfl) _ _ V1, V2⟩, rfl⟩
      rcases T2.sub j y hy b hb with ⟨i, z, hz, hm⟩ | hm
      · rcases T1.sub i z hz b hm with hm' | hm'
        · exact .inl hm'
        · exact .inr (by rw [h0]; simp [hm'])
      · exact .inr (by rw [h0]; simp [hm])
  | unit =>
    intro x G s id ft cs k r h _ ho _ _ _ hk
    simp only [takeD] at hk
    obtain ⟨_, _, _, rfl⟩ := ho
    exact ⟨G, s, id, _, hk, .refl h _, rfl, rfl⟩
  | int kd => intro x G s id ft cs k r h _ ho _ _ _ hk; exact flat _ x G s id ft cs k r h ho rfl (by simpa [takeD, Ty.flat] using hk)
  | bool => intro x G s id ft cs k r h _ ho _ _ _ hk; exact flat _ x G s id ft cs k r h ho rfl (by simpa [takeD, Ty.flat] using hk)
  | str => intro x G s id ft cs k r h _ ho _ _ _ hk; exact flat _ x G s id ft cs k r h ho rfl (by simpa [takeD, Ty.flat] using hk)
  | opq => intro x G s id ft cs k r h _ ho _ _ _ hk; exact ho.elim
  | arr n t _ =>
    intro x G s id ft cs k r h _ ho _ _ _ hk
    simp only [takeD] at hk
    split at hk
    · rename_i hf; exact flat _ x G s id ft cs k r h ho hf hk
    · cases hk

theorem takeAll_sound : ∀ (rs : List D) (vs : List Value) (fs : List FT) (G : Nat → Gh) (s : St) (id : Nat) (k : St → TV → Option ρ) (r : ρ), Rel F G s a w → (∀ d ∈ rs, d.t.fine) → ResVs w rs vs fs →
    (FT.blocksL fs).Nodup → (∀ b ∈ FT.blocksL fs, ∀ j y, s.box j = some y → b ∉ (G j).blocks) → (∀ b ∈ FT.blocksL fs, ¬ F.R b ∧ b < w.heap.size ∧ (b ∈ F.M ∨ F.w0.heap.size ≤ b)) → takeAll s id rs k = some r →
    ∃ G' s' v, k s' v = some r ∧ Got F G s a w (FT.blocksL fs) G' s' ∧ VRt (adr s'.box G') w F.R v vs := by
  intro rs
  induction rs with
  | nil =>
    intro vs fs G s id k r h _ hv _ _ _ hk
    cases vs <;> cases fs <;> first | exact hv.elim | skip
    exact ⟨G, s, .unit, hk, .refl h _, trivial⟩
  | cons d rs ih =>
    intro vs fs G s id k r h hfine hv h1 h2 h3 hk
    match vs, fs, hv with
    | v :: vs, f :: fs, hv =>
      obtain ⟨⟨cs, o1, o2⟩, hv⟩ := hv
      simp only [FT.blocksL, List.nodup_append] at h1
      obtain ⟨d1, d2, d3⟩ := h1
      simp only [takeAll] at hk
      obtain ⟨G1, s1, id1, v1, hk1, T1, V1, A1⟩ := takeD_sound d.t d.x G s id f cs _ r h (hfine d (by simp)) o1 d1 (fun b hb => h2 b (by simp [FT.blocksL, hb])) (fun b hb => h3 b (by simp [FT.blocksL, hb])) hk
      obtain ⟨G2, s2, v2, hk2, T2, V2⟩ := ih vs fs G1 s1 id1 _ r T1.rel (fun d hd => hfine d (by simp [hd])) hv d2 (fun b hb j y hy hm => by
        rcases T1.sub j y hy b hm with ⟨i, z, hz, hm'⟩ | hm'
        · exact h2 b (by simp [FT.blocksL, hb]) i z hz hm'
        · exact d3 b hm' b hb rfl) (fun b hb => h3 b (by simp [FT.blocksL, hb])) hk1
      refine ⟨G2, s2, _, hk2, ⟨T2.rel, T1.le.trans T2.le, fun j y hy b hb => ?_⟩, ⟨?_, V2⟩⟩
      · rcases T2.sub j y hy b hb with ⟨i, z, hz, hm⟩ | hm
        · rcases T1.sub i z hz b hm with hm' | hm'
          · exact .inl hm'
          · exact .inr (by simp [FT.blocksL, hm'])
        · exact .inr (by simp [FT.blocksL, hm])
      · exact .inr ⟨cs, VRc.mono T2.le (fun _ _ => rfl) _ _ V1, by rw [A1]; exact o2⟩
    | [], _, hv => exact hv.elim
    | _ :: _, [], hv => exact hv.elim

theorem resK_sound (h : Rel F G s a w) (hnt : E.nt = F.nt) {dst : Option Nat} {rs : List D} {v : Value} {fs : List FT} (hfine : ∀ d ∈ rs, d.t.fine) (hv : ResR w rs v fs)
    (h1 : (FT.blocksL fs).Nodup) (h2 : ∀ b ∈ FT.blocksL fs, ∀ j y, s.box j = some y → b ∉ (G j).blocks) (h3 : ∀ b ∈ FT.blocksL fs, ¬ F.R b ∧ b < w.heap.size ∧ (b ∈ F.M ∨ F.w0.heap.size ≤ b))
    (hd : ∀ d, dst = some d → d < E.nt) {k : St → Option ρ} {r : ρ} (hk : resK s dst rs k = some r) : Post F k r (a.put dst v) w := by
  unfold resK at hk
  cases dst with
  | none => exact ⟨G, s, h, hk⟩
  | some d =>
    simp only at hk
    have hd := hd d rfl
    rw [hnt] at hd
    have two : ∀ (vs : List Value), v = .tuple (List.toArray vs) → ResVs w rs vs fs → (takeAll s (d * 32 + 1) rs fun s u => k (s.put d (.tup u))) = some r → Post F k r (a.put (some d) v) w := by
      intro vs e hvs hk
      obtain ⟨G', s', u, hk', T, V⟩ := takeAll_sound rs vs fs G s _ _ r h hfine hvs h1 h2 h3 hk
      exact ⟨G', _, T.rel.put hd (v := .tup u) ⟨vs, V, e⟩, hk'⟩
    match rs, hv, hk, two, hfine with
    | [], hv, hk, two, _ => exact two [] hv.1 (by rw [hv.2]; trivial) hk
    | [e], hv, hk, _, hfine =>
      obtain ⟨f, rfl, hv'⟩ := hv
      obtain ⟨G', s', u, hk', T, V⟩ := takeAll_sound [e] [v] [f] G s _ _ r h hfine ⟨hv', trivial⟩ h1 h2 h3 hk
      cases u with
      | cons x y =>
        cases y with
        | unit => exact ⟨G', _, T.rel.put hd V.1.vr, hk'⟩
        | _ => exact V.2.elim
      | _ => exact V.elim
    | e :: e' :: rs, hv, hk, two, _ =>
      obtain ⟨vs, hv1, hv2⟩ := hv
      exact two vs hv1 hv2 hk
end
end Go.TM
/-! ## TnP -/
namespace Go.TM
set_option autoImplicit false
section
variable {ρ : Type} {P : Program} {E : Env} {F : Fr} {G : Nat → Gh} {s s2 : St} {a : Act} {w w2 : World} {Q : Exit → Act → World → Prop}

def PM.gives : PM → Bool
  | .own _ => true
  | _ => false

/-- the arguments behind passO -/
def AfterO (A : AdrF) (w : World) (R : Nat → Prop) : List PM → List TV → List Value → List Gh → Prop
  | [], [], [], [] => True
  | m :: ms, v :: vs, x :: xs, g :: gs => (if m.gives then ∃ u y, m = .own (.slice u) ∧ v = .own (.slice u) y ∧ g.base = none ∧ Own w (.slice u) y g.ft [x] else VR A w R v x ∧ g = ⟨none, .leaf⟩) ∧ AfterO A w R ms vs xs gs
  | _, _, _, _ => False

def VRs (A : AdrF) (w : World) (R : Nat → Prop) : List TV → List Value → Prop
  | [], [] => True
  | v :: vs, x :: xs => VR A w R v x ∧ VRs A w R vs xs
  | _, _ => False

theorem VRs.map {A A' : AdrF} {R : Nat → Prop} {κ : TV → TV} (hκ : ∀ v y, VR A w R v y → VR A' w R (κ v) y) : ∀ (vs : List TV) (xs : List Value), VRs A w R vs xs → VRs A' w R (vs.map κ) xs
  | [], [], _ => trivial
  | _ :: vs, _ :: xs, h => ⟨hκ _ _ h.1, VRs.map hκ vs xs h.2⟩
  | [], _ :: _, h => h.elim
  | _ :: _, [], h => h.elim

/-- what a passing leaves: the blocks that are no box's any more -/
structure Gone (F : Fr) (G : Nat → Gh) (s : St) (a : Act) (w : World) (κ : TV → TV) (bl : List Nat) (G' : Nat → Gh) (s' : St) : Prop where
  rel : Rel F G' s' a w
  nodup : bl.Nodup
  out : ∀ b ∈ bl, ∀ j y, s'.box j = some y → b ∉ (G' j).blocks
  mine : ∀ b ∈ bl, ¬ F.R b ∧ b < w.heap.size ∧ (b ∈ F.M ∨ F.w0.heap.size ≤ b)
  had : ∀ b ∈ bl, ∃ i x, s.box i = some x ∧ b ∈ (G i).blocks
  less : Less G s G' s'
  vr : ∀ v y, VR (adr s.box G) w F.R v y → VR (adr s'.box G') w F.R (κ v) y

theorem Gone.none (h : Rel F G s a w) : Gone F G s a w id [] G s := ⟨h, List.nodup_nil, fun b hb => (by cases hb), fun b hb => (by cases hb), fun b hb => (by cases hb), Less.refl, fun _ _ h => h⟩

theorem passO_sound : ∀ (ms : List PM) (vs : List TV) (xs : List Value) (G : Nat → Gh) (s : St) (k : St → List TV → (TV → TV) → Option ρ) (r : ρ), Rel F G s a w → VRs (adr s.box G) w F.R vs xs → passO s ms vs k = some r →
    ∃ G' s' vs' κ gs, k s' vs' κ = some r ∧ Gone F G s a w κ (ghBlocks gs) G' s' ∧ AfterO (adr s'.box G') w F.R ms vs' xs gs := by
  intro ms
  induction ms with
  | nil =>
    intro vs xs G s k r h hv hk
    match vs, xs, hv, hk with
    | [], [], _, hk => exact ⟨G, s, [], id, [], hk, .none h, trivial⟩
    | _ :: _, _, _, hk => simp [passO] at hk
  | cons m ms ih =>
    intro vs xs G s k r h hv hk
    match vs, xs, hv, hk with
    | [], _, _, hk => simp [passO] at hk
    | _ :: _, [], hv, _ => exact hv.elim
    | v :: vs, x :: xs, hv, hk =>
      have other : m.gives = false → (passO s ms vs fun s vs κ => k s (κ v :: vs) κ) = some r → ∃ G' s' vs' κ gs, k s' vs' κ = some r ∧ Gone F G s a w κ (ghBlocks gs) G' s' ∧ AfterO (adr s'.box G') w F.R (m :: ms) vs' (x :: xs) gs := by
        intro hm hk
        obtain ⟨G', s', vs', κ, gs, hk', T, A⟩ := ih vs xs G s _ r h hv.2 hk
        refine ⟨G', s', κ v :: vs', κ, ⟨Option.none, .leaf⟩ :: gs, hk', T, ?_, A⟩
        rw [if_neg (by simp [hm])]
        exact ⟨T.vr _ _ hv.1, rfl⟩
      cases m with
      | own t =>
        cases t with
        | slice t =>
          simp only [passO] at hk
          have x1 := hv.1.single (absorb_slice hk)
          obtain ⟨G1, s1, c, f, κ, hk1, T1⟩ := absorb_sound (.slice t) _ G s [x] _ r h x1 hk
          split at hk1
          rotate_left
          · cases hk1
          rename_i y hy
          obtain ⟨f', fb, fo⟩ := asOwn_own (.slice t) c f [x] y T1.con hy
          obtain ⟨G2, s2, vs', κ', gs, hk2, T, A⟩ := ih (vs.map κ) xs G1 s1 _ r T1.rel (VRs.map T1.vr vs xs hv.2) hk1
          have fr := T1.fresh.less T.less
          have hgb : ∀ b, b ∈ ghBlocks (⟨Option.none, f'⟩ :: gs) ↔ b ∈ f.blocks ∨ b ∈ ghBlocks gs := by
            intro b
            simp [ghBlocks, Gh.blocks, fb]
          refine ⟨G2, s2, _, _, ⟨Option.none, f'⟩ :: gs, hk2, ⟨T.rel, ?_, ?_, ?_, ?_, T1.less.trans T.less, fun v y hv => T.vr _ _ (T1.vr v y hv)⟩, ?_, A⟩
          · have e : ghBlocks (⟨Option.none, f'⟩ :: gs) = f.blocks ++ ghBlocks gs := by simp [ghBlocks, Gh.blocks, fb]
            rw [e, List.nodup_append]
            refine ⟨fr.nodup, T.nodup, fun b hb c hc e => ?_⟩
            subst e
            obtain ⟨i, z, hz, hm⟩ := T.had b hc
            exact T1.fresh.out b hb i z hz hm
          · intro b hb
            rcases (hgb b).1 hb with hb | hb
            · exact fr.out b hb
            · exact T.out b hb
          · intro b hb
            rcases (hgb b).1 hb with hb | hb
            · exact fr.mine b hb
            · exact T.mine b hb
          · intro b hb
            rcases (hgb b).1 hb with hb | hb
            · exact T1.had b hb
            · obtain ⟨i, z, hz, hm⟩ := T.had b hb
              exact T1.less.sub i z hz b hm
          · rw [if_pos (show (PM.own (.slice t)).gives = true from rfl)]
            exact ⟨t, y, rfl, rfl, rfl, fo⟩
        | _ => simp [passO] at hk
      | ro t => exact other rfl (by simpa only [passO] using hk)
      | rop t => exact other rfl (by simpa only [passO] using hk)
      | ptr t => exact other rfl (by simpa only [passO] using hk)
      | «mut» t => exact other rfl (by simpa only [passO] using hk)
      | clo f c => exact other rfl (by simpa only [passO] using hk)
end
end Go.TM
/-! ## TnQ -/
namespace Go.TM
set_option autoImplicit false
section
variable {ρ : Type} {P : Program} {E : Env} {F : Fr} {G : Nat → Gh} {s s2 : St} {a : Act} {w w2 : World} {Q : Exit → Act → World → Prop}

/-- an argument behind passM: v0 is what it was ahead of it, in the state s -/
def OneM (A : AdrF) (w : World) (R : Nat → Prop) (G : Nat → Gh) (s : St) (m : PM) (v0 v : TV) (x : Value) (g : Gh) : Prop :=
  match m with
  | .ptr t => ∃ b bx y, v0 = .ref b [] ∧ v = .own t y ∧ OwnVar w t y g x ∧ s.box b = some bx ∧ bx.virt = false ∧ bx.ty = t ∧ g.base = (G b).base ∧ g.ft.blocks = (G b).ft.blocks
  | .mut t => ∃ u y, t = .slice u ∧ v = .own (.slice u) y ∧ g.base = none ∧ Own w (.slice u) y g.ft [x] ∧
      ((v0 = .nil ∧ g.ft.blocks = []) ∨ ∃ b p bx ap, v0 = .sl b p ∧ s.box b = some bx ∧ Path.deref p = false ∧ adr s.box G b p = some (.slice u, g.ft, ap) ∧ (∀ b' o, ap = some (b', o) → At w b' o 1 [x]))
  | .own t => ∃ u y, t = .slice u ∧ v = .own (.slice u) y ∧ g.base = none ∧ Own w (.slice u) y g.ft [x]
  | _ => VR A w R v x ∧ g = ⟨none, .leaf⟩

def AfterM (A : AdrF) (w : World) (R : Nat → Prop) (G : Nat → Gh) (s : St) : List PM → List TV → List TV → List Value → List Gh → Prop
  | [], [], [], [], [] => True
  | m :: ms, v0 :: vs0, v :: vs, x :: xs, g :: gs => OneM A w R G s m v0 v x g ∧ AfterM A w R G s ms vs0 vs xs gs
  | _, _, _, _, _ => False

theorem within_own {t : Ty} {y : t.den} {p : Nat → Bool} : (TV.own t y).within p = .own t y := rfl

/-- the rest of the arguments, none of which is lent -/
theorem rest_sound {κ : TV → TV} {G' : Nat → Gh} {s' : St} (hκ : ∀ v y, VR (adr s.box G) w F.R v y → VR (adr s'.box G') w F.R (κ v) y) (hown : ∀ t y, κ (.own t y) = .own t y) :
    ∀ (ms : List PM) (vs : List TV) (xs : List Value) (gs : List Gh), ms.any PM.lends = false → AfterO (adr s.box G) w F.R ms vs xs gs → AfterM (adr s'.box G') w F.R G s ms vs (vs.map κ) xs gs := by
  intro ms
  induction ms with
  | nil =>
    intro vs xs gs _ h
    match vs, xs, gs, h with
    | [], [], [], _ => trivial
  | cons m ms ih =>
    intro vs xs gs hl h
    simp only [List.any_cons, Bool.or_eq_false_iff] at hl
    match vs, xs, gs, h with
    | v :: vs, x :: xs, g :: gs, h =>
      refine ⟨?_, ih vs xs gs hl.2 h.2⟩
      have h1 := h.1
      cases m with
      | ptr t => cases hl.1
      | «mut» t => cases hl.1
      | own t =>
        rw [if_pos (show (PM.own t).gives = true from rfl)] at h1
        obtain ⟨u, y, e, rfl, h2, h3⟩ := h1
        simp only [PM.own.injEq] at e
        exact ⟨u, y, e, hown _ _, h2, h3⟩
      | ro t => rw [if_neg (by simp [PM.gives])] at h1; exact ⟨hκ _ _ h1.1, h1.2⟩
      | rop t => rw [if_neg (by simp [PM.gives])] at h1; exact ⟨hκ _ _ h1.1, h1.2⟩
      | clo f c => rw [if_neg (by simp [PM.gives])] at h1; exact ⟨hκ _ _ h1.1, h1.2⟩
    | [], _, _, h => exact h.elim
    | _ :: _, [], _, h => exact h.elim
    | _ :: _, _ :: _, [], h => exact h.elim

theorem dropped (h : Rel F G s a w) (b : Nat) : (∀ v y, VR (adr s.box G) w F.R v y → VR (adr (s.drop b).box G) w F.R (v.drop b) y) ∧ (∀ j, (s.drop b).box j = if b = j then none else (s.box j).map (Box.within fun c => !Nat.beq b c)) := by
  have hb : ∀ j, (s.drop b).box j = if b = j then none else (s.box j).map (Box.within fun c => !Nat.beq b c) := by
    intro j
    unfold St.drop St.box
    simp only [lk_map, lk_del]
    by_cases e : b = j
    · subst e; simp
    · simp [e]
  refine ⟨fun v y hv => VR.within (fun c q hc => ?_) hv, hb⟩
  unfold adr
  have hc : ¬ b = c := by
    intro e
    subst e
    simp at hc
  rw [hb, if_neg hc]
  cases s.box c <;> rfl
end
end Go.TM
/-! ## TnR -/
namespace Go.TM
set_option autoImplicit false
section
variable {ρ : Type} {P : Program} {E : Env} {F : Fr} {G : Nat → Gh} {s s2 : St} {a : Act} {w w2 : World} {Q : Exit → Act → World → Prop}

theorem adr_nil {b : Nat} {bx : Box} (hb : s.box b = some bx) : adr s.box G b [] = some (bx.ty, (G b).ft, (G b).base.map (·, 0)) := by
  simp only [adr, hb]
  cases bx.ty <;> rfl

/-- a variable is lent -/
theorem lend_ptr (h : Rel F G s a w) {b : Nat} {bx : Box} (hb : s.box b = some bx) (hv : bx.virt = false) {t : Ty} (ht : bx.ty = t) {y : t.den} (hy : bx.c.asOwn t = some y) {x : Value} (hx : VR (adr s.box G) w F.R (.ref b []) x) :
    ∃ g : Gh, OwnVar w t y g x ∧ g.base = (G b).base ∧ g.ft.blocks = (G b).ft.blocks ∧ Gone F G s a w (TV.drop b) g.blocks G (s.drop b) := by
  obtain ⟨hvr, hbox⟩ := dropped h b
  have hold := h.box b bx hb
  unfold BoxRel at hold
  rw [if_neg (by simp [hv])] at hold
  obtain ⟨blk, row, e, h1, h2, h3, h4⟩ := hold
  subst ht
  obtain ⟨f', fb, fo⟩ := asOwn_own _ _ _ _ _ h4 hy
  obtain ⟨u, f, blk', off, hA, hxv⟩ := hx.one (by simp) (by simp) rfl
  rw [adr_nil hb, h1] at hA
  simp only [Option.map_some, Option.some.injEq, Prod.mk.injEq] at hA
  obtain ⟨rfl, rfl, rfl, rfl⟩ := hA
  have hgb : (Gh.mk (some blk) f').blocks = (G b).blocks := by simp [Gh.blocks, h1, fb]
  refine ⟨⟨some blk, f'⟩, ⟨blk, row, e, rfl, (List.cons.inj hxv).1, h2, h3, fo⟩, h1.symm, fb, h.drop b, ?_, ?_, ?_, ?_, ⟨fun j y hy b' hb' => ?_⟩, hvr⟩
  · rw [hgb]; exact h.nodup b bx hb
  · intro b' hb' j y' hy' hm
    rw [hgb] at hb'
    rw [hbox] at hy'
    by_cases e : b = j
    · rw [if_pos e] at hy'; cases hy'
    · rw [if_neg e] at hy'
      cases hj : s.box j with
      | none => rw [hj] at hy'; cases hy'
      | some z => exact h.apart b j bx z hb hj e b' hb' hm
  · intro b' hb'
    rw [hgb] at hb'
    exact h.mine b bx hb b' hb'
  · intro b' hb'
    rw [hgb] at hb'
    exact ⟨b, bx, hb, hb'⟩
  · rw [hbox] at hy
    by_cases e : b = j
    · rw [if_pos e] at hy; cases hy
    · rw [if_neg e] at hy
      cases hj : s.box j with
      | none => rw [hj] at hy; cases hy
      | some z => exact ⟨j, z, hj, hb'⟩

/-- a fixed box may be looked at as a free one -/
theorem Rel.unfix (h : Rel F G s a w) {b : Nat} {bx : Box} (hb : s.box b = some bx) : Rel F G (s.setBox b { bx with fix := false }) a w := by
  have hbox : ∀ j, (s.setBox b { bx with fix := false }).box j = if b = j then some { bx with fix := false } else s.box j := fun j => box_setBox s b _ bx hb j
  have hadr : adr (s.setBox b { bx with fix := false }).box G = adr s.box G := by
    funext c q
    unfold adr
    rw [hbox]
    by_cases e : b = c
    · subst e; rw [if_pos rfl, hb]
    · rw [if_neg e]
  have inv : ∀ {j y}, (s.setBox b { bx with fix := false }).box j = some y → ∃ z, s.box j = some z ∧ y.ty = z.ty ∧ y.virt = z.virt ∧ y.c = z.c ∧ (y.fix = true → y = z) := by
    intro j y hy
    rw [hbox] at hy
    by_cases e : b = j
    · subst e
      rw [if_pos rfl] at hy
      obtain rfl := Option.some.inj hy
      exact ⟨bx, hb, rfl, rfl, rfl, fun e => (by cases e)⟩
    · rw [if_neg e] at hy
      exact ⟨y, hy, rfl, rfl, rfl, fun _ => rfl⟩
  refine ⟨fun i x hx => ?_, fun i x hx => ?_, fun i j x y hx hy => ?_, fun i x hx => ?_, fun i x hx => ?_, h.R, fun n => ?_, h.agree, h.gro, h.defers, h.nt, fun i x hx => ?_⟩
  · obtain ⟨z, hz, e1, e2, e3, _⟩ := inv hx
    have := h.box i z hz
    unfold BoxRel at this ⊢
    rw [hadr, e1, e2, e3]
    exact this
  · obtain ⟨z, hz, e1, _⟩ := inv hx
    rw [e1]; exact h.fine i z hz
  · obtain ⟨x', hx', _⟩ := inv hx
    obtain ⟨y', hy', _⟩ := inv hy
    exact h.apart i j x' y' hx' hy'
  · obtain ⟨x', hx', _⟩ := inv hx; exact h.nodup i x' hx'
  · obtain ⟨x', hx', _⟩ := inv hx; exact h.mine i x' hx'
  · rw [hadr]; exact h.tmps n
  · obtain ⟨x', hx', _, _, _, e⟩ := inv hx
    obtain ⟨q1, q2⟩ := h.par i x' hx'
    exact ⟨q1, fun hf => (by have := e hf; subst this; exact q2 hf)⟩

theorem adr_unfix {b : Nat} {bx : Box} (hb : s.box b = some bx) : adr (s.setBox b { bx with fix := false }).box G = adr s.box G := by
  funext c q
  unfold adr
  rw [box_setBox s b _ bx hb]
  by_cases e : b = c
  · subst e; rw [if_pos rfl, hb]
  · rw [if_neg e]

/-- a slice is lent -/
theorem lend_mut (h : Rel F G s a w) {b : Nat} {p : Path} {bx : Box} (hb : s.box b = some bx) (hd : Path.deref p = false) {t : Ty} {x : Value} (hx : VR (adr s.box G) w F.R (.sl b p) x)
    {k : (u : Ty) → u.den → TV → Option ρ} {r : ρ} (hk : (getC bx.c p fun c => match c with
      | .own u y => if decide (u = .slice t) then setC bx.c p .un fun c' => k u y c' else none
      | _ => none) = some r) :
    ∃ c' G' fp ap, ∃ y : (Ty.slice t).den, k (.slice t) y c' = some r ∧ Own w (.slice t) y fp [x] ∧ adr s.box G b p = some (.slice t, fp, ap) ∧ (∀ b' o, ap = some (b', o) → At w b' o 1 [x]) ∧
      Gone F G s a w (TV.kill b p) fp.blocks G' (((s.setBox b { bx with fix := false }).setBox b { bx with fix := false, c := c' }).kill b p) := by
  obtain ⟨cs0, hcon0, hbase⟩ := (h.box b bx hb).con
  obtain ⟨c', u, ft', a', cs', e1, e2, e3, e4⟩ := Con.get bx.c bx.ty (G b).ft cs0 ((G b).base.map (·, 0)) p _ r hcon0 (fun b' o e => (hbase b' o e).1) hk
  split at e1
  · rename_i u0 y
    split at e1
    · rename_i hu
      have hu : u0 = .slice t := of_decide_eq_true hu
      subst hu
      have hA : adr s.box G b p = some (u, ft', a') := by rw [adr_eq hb]; exact e2
      have hs1 := h.unfix hb
      have hb1 : (s.setBox b { bx with fix := false }).box b = some { bx with fix := false } := by rw [box_setBox s b _ bx hb, if_pos rfl]
      have ha1 := adr_unfix (G := G) hb
      obtain ⟨c2, G', k1, R1, F1, B1, O1, hut, L1, H1⟩ := hs1.move hb1 rfl hd rfl rfl (by rw [ha1]; exact hA) (by rw [ha1]; exact e3) e4 e1
      subst hut
      obtain ⟨t', bk, cap, ks, a2, hA2, hxv⟩ := hx.one (by simp) (by simp) rfl
      rw [hA] at hA2
      simp only [Option.some.injEq, Prod.mk.injEq] at hA2
      obtain ⟨_, rfl, _⟩ := hA2
      have hcs : cs' = [x] := by
        obtain ⟨b1, cap1, ks1, q1, q2, _, _, q3, _⟩ := O1
        simp only [FT.node.injEq] at q1
        obtain ⟨rfl, rfl, rfl⟩ := q1
        rw [q2, hxv, q3]
      rw [hcs] at O1 e4
      have inv : ∀ {j z}, (s.setBox b { bx with fix := false }).box j = some z → ∃ z', s.box j = some z' := by
        intro j z hz
        rw [box_setBox s b _ bx hb] at hz
        by_cases e : b = j
        · subst e; exact ⟨bx, hb⟩
        · rw [if_neg e] at hz; exact ⟨z, hz⟩
      refine ⟨c2, G', _, a', y, k1, O1, hA, e4, R1, F1.nodup, F1.out, F1.mine, fun b' hb' => ?_, ⟨fun j z hz b' hb' => ?_⟩, fun v z hv => ?_⟩
      · obtain ⟨i, z, hz, hm⟩ := H1 b' hb'
        obtain ⟨z', hz'⟩ := inv hz
        exact ⟨i, z', hz', hm⟩
      · obtain ⟨i, z1, hz1, hm⟩ := L1.sub j z hz b' hb'
        obtain ⟨z', hz'⟩ := inv hz1
        exact ⟨i, z', hz', hm⟩
      · exact VR.kill B1 (fun _ _ => rfl) (by rw [ha1]; exact hv)
    · cases e1
  · cases e1
end
end Go.TM
/-! ## TnS -/
namespace Go.TM
set_option autoImplicit false
section
variable {ρ : Type} {P : Program} {E : Env} {F : Fr} {G : Nat → Gh} {s s2 : St} {a : Act} {w w2 : World} {Q : Exit → Act → World → Prop}

def lentBlocks : List PM → List Gh → List Nat
  | m :: ms, g :: gs => (if m.lends then g.blocks else []) ++ lentBlocks ms gs
  | _, _ => []

theorem lent_rest : ∀ (ms : List PM) (gs : List Gh), ms.any PM.lends = false → lentBlocks ms gs = []
  | [], _, _ => by cases ‹List Gh› <;> rfl
  | _ :: _, [], _ => rfl
  | m :: ms, g :: gs, h => by
    simp only [List.any_cons, Bool.or_eq_false_iff] at h
    simp [lentBlocks, h.1, lent_rest ms gs h.2]

theorem passM_sound (h : Rel F G s a w) : ∀ (ms : List PM) (vs : List TV) (xs : List Value) (gs0 : List Gh) (k : St → List TV → (TV → TV) → Option ρ) (r : ρ), AfterO (adr s.box G) w F.R ms vs xs gs0 → passM s ms vs k = some r →
    ∃ G' s' vs' κ gs, k s' vs' κ = some r ∧ Gone F G s a w κ (lentBlocks ms gs) G' s' ∧ AfterM (adr s'.box G') w F.R G s ms vs vs' xs gs ∧ (∀ t y, κ (.own t y) = .own t y) ∧
      (∀ b, b ∈ ghBlocks gs ↔ b ∈ lentBlocks ms gs ∨ b ∈ ghBlocks gs0) ∧ ((ghBlocks gs0).Nodup → (∀ b ∈ ghBlocks gs0, b ∉ lentBlocks ms gs) → (ghBlocks gs).Nodup) := by
  intro ms
  induction ms with
  | nil =>
    intro vs xs gs0 k r hA hk
    match vs, xs, gs0, hA, hk with
    | [], [], [], _, hk => exact ⟨G, s, [], id, [], hk, .none h, trivial, fun _ _ => rfl, fun b => (by simp [lentBlocks, ghBlocks]), fun hn _ => hn⟩
  | cons m ms ih =>
    intro vs xs gs0 k r hA hk
    match vs, xs, gs0, hA, hk with
    | [], _, _, hA, _ => exact hA.elim
    | _ :: _, [], _, hA, _ => exact hA.elim
    | _ :: _, _ :: _, [], hA, _ => exact hA.elim
    | v :: vs, x :: xs, g :: gs0, hA, hk =>
      have other : m.lends = false → (passM s ms vs fun s vs κ => k s (κ v :: vs) κ) = some r → (∀ (κ : TV → TV) (G' : Nat → Gh) (s' : St), (∀ v y, VR (adr s.box G) w F.R v y → VR (adr s'.box G') w F.R (κ v) y) → (∀ t y, κ (.own t y) = .own t y) → OneM (adr s'.box G') w F.R G s m v (κ v) x g) →
          ∃ G' s' vs' κ gs, k s' vs' κ = some r ∧ Gone F G s a w κ (lentBlocks (m :: ms) gs) G' s' ∧ AfterM (adr s'.box G') w F.R G s (m :: ms) (v :: vs) vs' (x :: xs) gs ∧ (∀ t y, κ (.own t y) = .own t y) ∧
      (∀ b, b ∈ ghBlocks gs ↔ b ∈ lentBlocks (m :: ms) gs ∨ b ∈ ghBlocks (g :: gs0)) ∧ ((ghBlocks (g :: gs0)).Nodup → (∀ b ∈ ghBlocks (g :: gs0), b ∉ lentBlocks (m :: ms) gs) → (ghBlocks gs).Nodup) := by
        intro hm hk hone
        obtain ⟨G', s', vs', κ, gs, hk', T, A, K, B, N⟩ := ih vs xs gs0 _ r hA.2 hk
        have e1 : lentBlocks (m :: ms) (g :: gs) = lentBlocks ms gs := by simp [lentBlocks, hm]
        have e2 : ∀ l : List Gh, ghBlocks (g :: l) = g.blocks ++ ghBlocks l := fun l => by simp [ghBlocks]
        refine ⟨G', s', _, κ, g :: gs, hk', by rw [e1]; exact T, ⟨hone κ G' s' T.vr K, A⟩, K, fun b => ?_, fun hn hd => ?_⟩
        · rw [e1, e2, e2, List.mem_append, List.mem_append, B]
          constructor
          · rintro (h | h | h)
            · exact .inr (.inl h)
            · exact .inl h
            · exact .inr (.inr h)
          · rintro (h | h | h)
            · exact .inr (.inl h)
            · exact .inl h
            · exact .inr (.inr h)
        · rw [e1] at hd
          rw [e2] at hn hd ⊢
          rw [List.nodup_append] at hn ⊢
          refine ⟨hn.1, N hn.2.1 (fun b hb => hd b (List.mem_append.2 (.inr hb))), fun b hb c hc e => ?_⟩
          subst e
          rcases (B b).1 hc with hc | hc
          · exact hd b (List.mem_append.2 (.inl hb)) hc
          · exact hn.2.2 b hb b hc rfl
      have lent : ∀ (g' : Gh) (G' : Nat → Gh) (s' : St) (κ : TV → TV) (v' : TV), m.lends = true → ms.any PM.lends = false → g = ⟨Option.none, .leaf⟩ → Gone F G s a w κ g'.blocks G' s' → (∀ t y, κ (.own t y) = .own t y) → OneM (adr s'.box G') w F.R G s m v v' x g' → k s' (v' :: vs.map κ) κ = some r →
          ∃ G' s' vs' κ gs, k s' vs' κ = some r ∧ Gone F G s a w κ (lentBlocks (m :: ms) gs) G' s' ∧ AfterM (adr s'.box G') w F.R G s (m :: ms) (v :: vs) vs' (x :: xs) gs ∧ (∀ t y, κ (.own t y) = .own t y) ∧
      (∀ b, b ∈ ghBlocks gs ↔ b ∈ lentBlocks (m :: ms) gs ∨ b ∈ ghBlocks (g :: gs0)) ∧ ((ghBlocks (g :: gs0)).Nodup → (∀ b ∈ ghBlocks (g :: gs0), b ∉ lentBlocks (m :: ms) gs) → (ghBlocks gs).Nodup) := by
        intro g' G' s' κ v' hm hr hg T K hone hk'
        subst hg
        have e1 : lentBlocks (m :: ms) (g' :: gs0) = g'.blocks := by simp [lentBlocks, hm, lent_rest ms gs0 hr]
        have e2 : ghBlocks (g' :: gs0) = g'.blocks ++ ghBlocks gs0 := by simp [ghBlocks]
        have e3 : ghBlocks ((⟨Option.none, .leaf⟩ : Gh) :: gs0) = ghBlocks gs0 := by simp [ghBlocks, Gh.blocks, FT.blocks]
        refine ⟨G', s', _, κ, g' :: gs0, hk', by rw [e1]; exact T, ⟨hone, rest_sound T.vr K ms vs xs gs0 hr hA.2⟩, K, fun b => ?_, fun hn hd => ?_⟩
        · rw [e1, e2, e3, List.mem_append]
        · rw [e1, e3] at hd
          rw [e3] at hn
          rw [e2, List.nodup_append]
          exact ⟨T.nodup, hn, fun b hb c hc e => hd c hc (e ▸ hb)⟩
      have h1 := hA.1
      cases m with
      | ro t => exact other rfl (by simpa only [passM] using hk) (fun κ G' s' hκ _ => by rw [if_neg (by simp [PM.gives])] at h1; exact ⟨hκ _ _ h1.1, h1.2⟩)
      | rop t => exact other rfl (by simpa only [passM] using hk) (fun κ G' s' hκ _ => by rw [if_neg (by simp [PM.gives])] at h1; exact ⟨hκ _ _ h1.1, h1.2⟩)
      | clo f c => exact other rfl (by simpa only [passM] using hk) (fun κ G' s' hκ _ => by rw [if_neg (by simp [PM.gives])] at h1; exact ⟨hκ _ _ h1.1, h1.2⟩)
      | own t => exact other rfl (by simpa only [passM] using hk) (fun κ G' s' _ hown => by
          rw [if_pos (show (PM.own t).gives = true from rfl)] at h1
          obtain ⟨u, y, e, rfl, h2, h3⟩ := h1
          simp only [PM.own.injEq] at e
          exact ⟨u, y, e, hown _ _, h2, h3⟩)
      | ptr t =>
        rw [if_neg (by simp [PM.gives])] at h1
        obtain ⟨hx, hg⟩ := h1
        cases v with
        | ref b p =>
          cases p with
          | nil =>
            simp only [passM] at hk
            unfold withBox at hk
            split at hk
            rotate_left
            · cases hk
            rename_i bx hbx
            try dsimp only at hk
            split at hk
            · cases hk
            · rename_i hc
              simp only [Bool.or_eq_true, Bool.not_eq_true', decide_eq_false_iff_not, not_or, Classical.not_not, Bool.not_eq_true] at hc
              obtain ⟨⟨c1, c2⟩, c3⟩ := hc
              split at hk
              · rename_i y hy
                obtain ⟨g', q1, q2, q3, q4⟩ := lend_ptr h hbx c1 c3 hy hx
                exact lent g' G _ _ _ rfl c2 hg q4 (fun _ _ => rfl) ⟨b, bx, y, rfl, rfl, q1, hbx, c1, c3, q2, q3⟩ hk
              · cases hk
          | cons _ _ => simp [passM] at hk
        | _ => simp [passM] at hk
      | «mut» t =>
        rw [if_neg (by simp [PM.gives])] at h1
        obtain ⟨hx, hg⟩ := h1
        cases t with
        | slice t =>
          cases v with
          | nil =>
            simp only [passM] at hk
            split at hk
            · cases hk
            · rename_i hc
              have hc : ms.any PM.lends = false := by simpa using hc
              have hx1 : [x] = [Value.slice none 0 0] := hx.one (by simp) (by simp) rfl
              have hk2 : k s (.own (.slice t) ([] : List t.den) :: vs.map id) id = some r := by rw [List.map_id]; exact hk
              refine lent ⟨none, .node none 0 []⟩ G s id _ rfl hc hg (.none h) (fun _ _ => rfl) ⟨t, _, rfl, rfl, rfl, ?_, .inl ⟨rfl, rfl⟩⟩ hk2
              rw [hx1]
              exact ⟨none, 0, [], rfl, rfl, Nat.le_refl _, Nat.zero_le _, rfl, rfl⟩
          | sl b p =>
            simp only [passM] at hk
            split at hk
            · cases hk
            · rename_i hc
              simp only [Bool.or_eq_true, not_or, Bool.not_eq_true] at hc
              unfold withBox at hk
              split at hk
              rotate_left
              · cases hk
              rename_i bx hbx
              try dsimp only at hk
              obtain ⟨c', G', fp, ap, y, e1, e2, e3, e5, e4⟩ := lend_mut h hbx hc.1 hx (k := fun u y c' => k (((s.setBox b { bx with fix := false }).setBox b { bx with fix := false, c := c' }).kill b p) (.own u y :: vs.map (TV.kill b p)) (TV.kill b p)) hk
              exact lent ⟨none, fp⟩ G' _ _ _ rfl hc.2 hg (by simpa [Gh.blocks] using e4) (fun _ _ => rfl) ⟨t, y, rfl, rfl, rfl, e2, .inr ⟨b, p, bx, ap, rfl, hbx, hc.1, e3, e5⟩⟩ e1
          | _ => simp [passM] at hk
        | _ => simp [passM] at hk
end
end Go.TM
/-! ## TnT -/
namespace Go.TM
set_option autoImplicit false
section
variable {ρ : Type} {P : Program} {E : Env} {F : Fr} {G : Nat → Gh} {s s2 : St} {a : Act} {w w2 : World} {Q : Exit → Act → World → Prop}

theorem readR_agg : ∀ (t : Ty) (v : TV) (k : t.den → Option ρ) (r : ρ), readR s t v k = some r → v.agg = t.agg ∧ v ≠ .un ∧ ∀ b, v ≠ .tup b := by
  have dat : ∀ (t u : Ty) (x : u.den) (k : t.den → Option ρ) (r : ρ), (∃ y, castTo u t x = some y ∧ k y = some r) → (TV.dat u x).agg = t.agg ∧ TV.dat u x ≠ .un ∧ ∀ b, TV.dat u x ≠ .tup b := by
    intro t u x k r h
    obtain ⟨y, hy, h⟩ := h
    obtain ⟨rfl, _⟩ := castTo_eq hy
    exact ⟨rfl, by simp, by simp⟩
  intro t v k r h
  cases t with
  | slice t =>
    simp only [readR] at h
    cases v with
    | nil => exact ⟨rfl, by simp, by simp⟩
    | sl b p => exact ⟨rfl, by simp, by simp⟩
    | slw b p lo n => exact ⟨rfl, by simp, by simp⟩
    | dat u x =>
      simp only [sliceD] at h
      split at h
      · rename_i y hy
        obtain ⟨rfl, _⟩ := castTo_eq hy
        exact ⟨rfl, by simp, by simp⟩
      · cases h
    | _ => simp [sliceD] at h
  | cons t u =>
    cases v with
    | cons a d => exact ⟨rfl, by simp, by simp⟩
    | dat u' x => exact dat _ u' x k r (by simp only [readR] at h; split at h <;> first | exact ⟨_, by assumption, h⟩ | cases h)
    | _ => simp [readR] at h
  | unit =>
    cases v with
    | unit => exact ⟨rfl, by simp, by simp⟩
    | dat u' x => exact dat _ u' x k r (by simp only [readR] at h; split at h <;> first | exact ⟨_, by assumption, h⟩ | cases h)
    | _ => simp [readR] at h
  | _ =>
    cases v with
    | dat u' x => exact dat _ u' x k r (by simp only [readR] at h; split at h <;> first | exact ⟨_, by assumption, h⟩ | cases h)
    | _ => simp [readR] at h

theorem contR_rd {A : AdrF} {R R' : Nat → Prop} (hR : ∀ b, R b → R' b) : ∀ (t : Ty) (c : TV) (ft : FT) (cs : List Value) (k : t.den → Option ρ) (r : ρ), Con A w R c t ft cs → (∀ b ∈ ft.blocks, R' b) → contR t c k = some r →
    ∃ x, k x = some r ∧ Rd w R' t x cs := by
  have cast : ∀ (t u : Ty) (x : u.den) (k : t.den → Option ρ) (r : ρ), (∃ y, castTo u t x = some y ∧ k y = some r) → ∃ e : u = t, k (e ▸ x) = some r := by
    intro t u x k r h
    obtain ⟨y, hy, h⟩ := h
    obtain ⟨e, rfl⟩ := castTo_eq hy
    exact ⟨e, h⟩
  have own : ∀ (t u : Ty) (x : u.den) (ft : FT) (cs : List Value) (k : t.den → Option ρ) (r : ρ), Con A w R (.own u x) t ft cs → (∀ b ∈ ft.blocks, R' b) → (∃ y, castTo u t x = some y ∧ k y = some r) → ∃ x, k x = some r ∧ Rd w R' t x cs := by
    intro t u x ft cs k r hc hb h
    obtain ⟨e, h⟩ := cast t u x k r h
    subst e
    exact ⟨x, h, Own.rd _ _ _ _ hb hc.2⟩
  have dat : ∀ (t u : Ty) (x : u.den) (ft : FT) (cs : List Value) (k : t.den → Option ρ) (r : ρ), Con A w R (.dat u x) t ft cs → (∃ y, castTo u t x = some y ∧ k y = some r) → ∃ x, k x = some r ∧ Rd w R' t x cs := by
    intro t u x ft cs k r hc h
    obtain ⟨e, h⟩ := cast t u x k r h
    subst e
    exact ⟨x, h, Rd.agree hR (fun _ _ => rfl) _ _ _ hc.2.2⟩
  intro t
  induction t with
  | slice t _ =>
    intro c ft cs k r hc hb h
    cases c with
    | own u x => exact own _ u x ft cs k r hc hb (by simp only [contR] at h; split at h <;> first | exact ⟨_, by assumption, h⟩ | cases h)
    | dat u x => exact dat _ u x ft cs k r hc (by simp only [contR] at h; split at h <;> first | exact ⟨_, by assumption, h⟩ | cases h)
    | nil =>
      simp only [contR] at h
      obtain ⟨_, _, _, hv⟩ := hc
      exact ⟨_, h, none, 0, hv, ⟨Nat.le_refl _, Nat.zero_le _⟩, fun hne => absurd rfl hne⟩
    | _ => simp [contR] at h
  | cons t u iht ihu =>
    intro c ft cs k r hc hb h
    cases c with
    | own u x => exact own _ u x ft cs k r hc hb (by simp only [contR] at h; split at h <;> first | exact ⟨_, by assumption, h⟩ | cases h)
    | dat u x => exact dat _ u x ft cs k r hc (by simp only [contR] at h; split at h <;> first | exact ⟨_, by assumption, h⟩ | cases h)
    | cons c d =>
      simp only [contR] at h
      obtain ⟨h0, c1, c2, rfl, _, h1, h2⟩ := hc
      obtain ⟨x, e1, r1⟩ := iht c ft.fst c1 _ r h1 (fun b hm => hb b (by rw [h0]; simp [hm])) h
      obtain ⟨y, e2, r2⟩ := ihu d ft.snd c2 _ r h2 (fun b hm => hb b (by rw [h0]; simp [hm])) e1
      exact ⟨(x, y), e2, c1, c2, rfl, r1, r2⟩
    | _ => simp [contR] at h
  | unit =>
    intro c ft cs k r hc hb h
    cases c with
    | own u x => exact own _ u x ft cs k r hc hb (by simp only [contR] at h; split at h <;> first | exact ⟨_, by assumption, h⟩ | cases h)
    | dat u x => exact dat _ u x ft cs k r hc (by simp only [contR] at h; split at h <;> first | exact ⟨_, by assumption, h⟩ | cases h)
    | unit =>
      simp only [contR] at h
      exact ⟨_, h, rfl, trivial, hc.2.2⟩
    | _ => simp [contR] at h
  | _ =>
    intro c ft cs k r hc hb h
    cases c with
    | own u x => exact own _ u x ft cs k r hc hb (by simp only [contR] at h; split at h <;> first | exact ⟨_, by assumption, h⟩ | cases h)
    | dat u x => exact dat _ u x ft cs k r hc (by simp only [contR] at h; split at h <;> first | exact ⟨_, by assumption, h⟩ | cases h)
    | _ => simp [contR] at h
end
end Go.TM
/-! ## TnU -/
namespace Go.TM
set_option autoImplicit false
section
variable {ρ : Type} {P : Program} {E : Env} {F : Fr} {G : Nat → Gh} {s s2 : St} {a : Act} {w w2 : World} {Q : Exit → Act → World → Prop}

theorem lendR_sound (h : Rel F G s a w) {m : PM} {v : TV} {x : Value} (hv : VR (adr s.box G) w F.R v x) {k : D → Option ρ} {r : ρ} (hk : lendR s m v k = some r) :
    ∃ d, k d = some r ∧ ArgRo w (RR F G s) m d x := by
  have hsub : ∀ b, F.R b → RR F G s b := fun b hb => .inl hb
  cases m with
  | ro t =>
    simp only [lendR] at hk
    obtain ⟨g1, g2, g3⟩ := readR_agg t v _ r hk
    obtain ⟨cs, x1, x2⟩ := hv.cells g2 g3
    obtain ⟨y, e, hr⟩ := readR_sound h t v cs _ r x1 hk
    exact ⟨⟨t, y⟩, e, rfl, vr_of (v := .dat t y) hr (by rw [g1] at x2; exact x2)⟩
  | rop t =>
    cases v with
    | rop u y =>
      simp only [lendR] at hk
      split at hk
      · rename_i z hz
        obtain ⟨rfl, rfl⟩ := castTo_eq hz
        obtain ⟨blk, off, c, hxv, hR, hat, hrd⟩ := hv.one (by simp) (by simp) rfl
        exact ⟨_, hk, rfl, vr_of (v := .rop u y) (cs := [x]) ⟨blk, off, c, hxv, hsub _ hR, hat, Rd.agree hsub (fun _ _ => rfl) _ _ _ hrd⟩ rfl⟩
      · cases hk
    | ref b p =>
      simp only [lendR] at hk
      unfold withBox at hk
      split at hk
      · rename_i bx hbx
        try dsimp only at hk
        split at hk
        rotate_left
        · cases hk
        rename_i hty
        have hty : tyAt bx.ty p = some t := of_decide_eq_true hty
        obtain ⟨t', ft, blk, off, hA, hxv⟩ := hv.one (by simp) (by simp) rfl
        obtain ⟨cs0, hcon0, hbase⟩ := (h.box b bx hbx).con
        obtain ⟨c', u, ft', a', cs', e1, e2, e3, e4⟩ := Con.get bx.c bx.ty (G b).ft cs0 ((G b).base.map (·, 0)) p _ r hcon0 (fun b' o e => (hbase b' o e).1) hk
        rw [adr_eq hbx, e2] at hA
        simp only [Option.some.injEq, Prod.mk.injEq] at hA
        obtain ⟨rfl, rfl, rfl⟩ := hA
        obtain ⟨s1, s3⟩ := addr_sub _ _ _ _ e2
        have hin : blk ∈ (G b).blocks := by
          simp only [Gh.blocks, List.mem_append]
          rcases s3 with ⟨b0, o0, e0, hm, _⟩ | ⟨d, e0, _⟩
          · simp only [Option.some.injEq, Prod.mk.injEq] at e0; obtain ⟨rfl, rfl⟩ := e0; exact .inr hm
          · cases hb : (G b).base with
            | none => rw [hb] at e0; cases e0
            | some b0 => rw [hb] at e0; simp only [Option.map_some, Option.some.injEq, Prod.mk.injEq] at e0; obtain ⟨rfl, _⟩ := e0; exact .inl (by simp)
        have hu := addr_ty _ _ _ _ e2
        rw [hty] at hu
        obtain rfl := Option.some.inj hu
        obtain ⟨y, k1, hr⟩ := contR_rd hsub t c' ft' cs' _ r e3 (fun b' hb' => .inr ⟨b, bx, hbx, by simp only [Gh.blocks, List.mem_append]; exact .inr (s1 b' hb')⟩) e1
        exact ⟨⟨t, y⟩, k1, rfl, vr_of (v := .rop t y) (cs := [x]) ⟨blk, off, cs', hxv, .inr ⟨b, bx, hbx, hin⟩, e4 _ _ rfl, hr⟩ rfl⟩
      · cases hk
    | _ => simp [lendR] at hk
  | _ => simp [lendR] at hk
end
end Go.TM
/-! ## TnV -/
namespace Go.TM
set_option autoImplicit false
section
variable {ρ : Type} {P : Program} {E : Env} {F : Fr} {G : Nat → Gh} {s s2 : St} {a : Act} {w w2 : World} {Q : Exit → Act → World → Prop}

theorem capsO_vr {A : AdrF} {R : Nat → Prop} : ∀ (caps : TV) (xs : List Value) (l : List TV), VRc A w R caps xs → caps.capsO = some l → VRs A w R l xs := by
  intro caps
  induction caps with
  | unit =>
    intro xs l h hl
    simp only [TV.capsO, Option.some.injEq] at hl
    subst hl
    rw [show xs = [] from h]
    trivial
  | cons a r _ ihr =>
    intro xs l h hl
    obtain ⟨c1, c2, rfl, h1, h2⟩ := h
    simp only [TV.capsO] at hl
    split at hl
    · rename_i hp
      split at hl
      · rename_i l' hl'
        simp only [Option.some.injEq] at hl
        subst hl
        have hone : ∃ x, c1 = [x] := by
          cases a <;> simp [TV.isPtr] at hp
          · obtain ⟨_, _, _, _, _, rfl⟩ := h1; exact ⟨_, rfl⟩
          · obtain ⟨_, _, _, rfl, _⟩ := h1; exact ⟨_, rfl⟩
        obtain ⟨x, rfl⟩ := hone
        refine ⟨vr_of h1 ?_, ihr c2 l' h2 hl'⟩
        cases a <;> simp [TV.isPtr] at hp <;> rfl
      · cases hl
    · cases hl
  | _ => intro xs l h hl; simp [TV.capsO] at hl

theorem lendRs_sound (h : Rel F G s a w) : ∀ (ms : List PM) (vs : List TV) (xs : List Value) (k : List D → Option ρ) (r : ρ), VRs (adr s.box G) w F.R vs xs → lendRs s ms vs k = some r →
    ∃ ds, k ds = some r ∧ ArgRos w (RR F G s) ms ds xs := by
  intro ms
  induction ms with
  | nil =>
    intro vs xs k r hv hk
    match vs, xs, hv, hk with
    | [], [], _, hk => exact ⟨[], hk, trivial⟩
    | _ :: _, _, _, hk => simp [lendRs] at hk
  | cons m ms ih =>
    intro vs xs k r hv hk
    match vs, xs, hv, hk with
    | [], _, _, hk => simp [lendRs] at hk
    | _ :: _, [], hv, _ => exact hv.elim
    | v :: vs, x :: xs, hv, hk =>
      simp only [lendRs] at hk
      obtain ⟨d, hk1, hd⟩ := lendR_sound h hv.1 hk
      obtain ⟨ds, hk2, hds⟩ := ih vs xs _ r hv.2 hk1
      exact ⟨d :: ds, hk2, hd, hds⟩
end
end Go.TM
/-! ## TnW -/
namespace Go.TM
set_option autoImplicit false
section
variable {ρ : Type} {P : Program} {E : Env} {F : Fr} {G G1 : Nat → Gh} {s s1 : St} {a : Act} {w w2 : World} {Q : Exit → Act → World → Prop}

theorem lend_sound (h : Rel F G1 s1 a w) {m : PM} {v0 v : TV} {x : Value} {g : Gh} (hm : OneM (adr s1.box G1) w F.R G s m v0 v x g) {k : List D → Option ρ} {r : ρ} (hk : lend s1 m v k = some r) :
    ∃ ds, k ds = some r ∧ ArgR w (RR F G1 s1) m ds x g := by
  cases m with
  | ptr t =>
    obtain ⟨b, bx, y, rfl, rfl, ho, _⟩ := hm
    simp only [lend, decide_true, if_true] at hk
    exact ⟨_, hk, rfl, ho⟩
  | «mut» t =>
    obtain ⟨u, y, rfl, rfl, hb, ho, _⟩ := hm
    simp only [lend, decide_true, if_true] at hk
    exact ⟨_, hk, rfl, ⟨u, rfl⟩, hb, ho⟩
  | own t =>
    obtain ⟨u, y, rfl, rfl, hb, ho⟩ := hm
    simp only [lend, decide_true, if_true] at hk
    exact ⟨_, hk, rfl, ⟨u, rfl⟩, hb, ho⟩
  | ro t =>
    obtain ⟨hv, rfl⟩ := hm
    have hk : lendR s1 (.ro t) v (fun d => k [d]) = some r := hk
    obtain ⟨d, hk, hd⟩ := lendR_sound h hv hk
    exact ⟨_, hk, rfl, hd⟩
  | rop t =>
    obtain ⟨hv, rfl⟩ := hm
    have hk : lendR s1 (.rop t) v (fun d => k [d]) = some r := hk
    obtain ⟨d, hk, hd⟩ := lendR_sound h hv hk
    exact ⟨_, hk, rfl, hd⟩
  | clo f ms =>
    obtain ⟨hv, rfl⟩ := hm
    cases v with
    | clo f' caps =>
      simp only [lend] at hk
      split at hk
      · rename_i e
        have e := Nat.eq_of_beq_eq_true e
        subst e
        split at hk
        · rename_i l hl
          obtain ⟨vs, hvs, hx⟩ := hv.one (by simp) (by simp) rfl
          obtain ⟨ds, hk, hds⟩ := lendRs_sound h ms l vs _ r (capsO_vr caps vs l hvs hl) hk
          exact ⟨ds, hk, rfl, vs, (List.cons.inj hx).1, hds⟩
        · cases hk
      · cases hk
    | _ => simp [lend, lendR] at hk

theorem lendAll_sound (h : Rel F G1 s1 a w) : ∀ (ms : List PM) (vs0 vs : List TV) (xs : List Value) (gs : List Gh) (k : List D → Option ρ) (r : ρ), AfterM (adr s1.box G1) w F.R G s ms vs0 vs xs gs → lendAll s1 ms vs k = some r →
    ∃ ds, k ds = some r ∧ ArgsR w (RR F G1 s1) ms ds xs gs := by
  intro ms
  induction ms with
  | nil =>
    intro vs0 vs xs gs k r hA hk
    match vs0, vs, xs, gs, hA, hk with
    | [], [], [], [], _, hk => exact ⟨[], hk, trivial⟩
  | cons m ms ih =>
    intro vs0 vs xs gs k r hA hk
    match vs0, vs, xs, gs, hA, hk with
    | v0 :: vs0, v :: vs, x :: xs, g :: gs, hA, hk =>
      simp only [lendAll] at hk
      obtain ⟨d1, hk1, h1⟩ := lend_sound h hA.1 hk
      obtain ⟨d2, hk2, h2⟩ := ih vs0 vs xs gs _ r hA.2 hk1
      exact ⟨d1 ++ d2, hk2, d1, d2, rfl, h1, h2⟩
    | [], _, _, _, hA, _ => exact hA.elim
    | _ :: _, [], _, _, hA, _ => exact hA.elim
    | _ :: _, _ :: _, [], _, hA, _ => exact hA.elim
    | _ :: _, _ :: _, _ :: _, [], hA, _ => exact hA.elim
end
end Go.TM
/-! ## TnX -/
namespace Go.TM
set_option autoImplicit false
section
variable {ρ : Type} {P : Program} {E : Env} {F : Fr} {G : Nat → Gh} {s : St} {a : Act} {w w2 : World} {Q : Exit → Act → World → Prop}

theorem setF_nil (t : Ty) (ft f : FT) : setF t ft [] f = f := by cases t <;> rfl

/-- a variable that was lent is back -/
theorem back_ptr (h : Rel F G s a w) {b : Nat} {bx : Box} (hbx : s.box b = some bx) (hv : bx.virt = false) (hsz : Gro w w2) (hR : ∀ b, F.R b → w2.heap[b]? = w.heap[b]?)
    (hB : ∀ j y, j ≠ b → s.box j = some y → ∀ b' ∈ (G j).blocks, w2.heap[b']? = w.heap[b']?) (hO : ∀ b', b' < F.w0.heap.size → b' ∉ F.M → w2.heap[b']? = w.heap[b']?)
    {g' : Gh} {t : Ty} {x : t.den} {X : Value} (hbase : g'.base = (G b).base) (ho : OwnVar w2 t x g' X) (ht : bx.ty = t) (hnd : g'.blocks.Nodup)
    (hfd : ∀ b' ∈ g'.ft.blocks, b' ∈ (G b).ft.blocks ∨ ∀ j y, s.box j = some y → b' ∉ (G j).blocks) (hfm : ∀ b' ∈ g'.ft.blocks, ¬ F.R b' ∧ b' < w2.heap.size ∧ (b' ∈ F.M ∨ F.w0.heap.size ≤ b')) :
    Rel F (fun j => if j = b then ⟨(G b).base, g'.ft⟩ else G j) ((s.setBox b { bx with c := .own t x }).kill b []) a w2 := by
  have hA : adr s.box G b [] = some (bx.ty, (G b).ft, (G b).base.map (·, 0)) := adr_nil hbx
  have hG : (fun j => if j = b then (⟨(G b).base, g'.ft⟩ : Gh) else G j) = fun j => if j = b then ⟨(G b).base, setF bx.ty (G b).ft [] g'.ft⟩ else G j := by
    funext j; rw [setF_nil]
  have hbox := box_kset hbx (.own t x) []
  have hbut := but_of_set (f := g'.ft) (c' := (TV.own t x).kill b []) (kl := fun v => v.kill b []) hbx hA hG hbox
  have hnd2 : g'.ft.blocks.Nodup := by
    simp only [Gh.blocks, List.nodup_append] at hnd
    exact hnd.2.1
  refine h.core' hbx hA (fun v => v.kill b []) hG (get_kill _ b []) hbox (fun v y hv => VR.kill hbut hR hv) (fun c t ft cs hag hcn => Con.kill hbut hR c t ft cs hag hcn) ?_ hsz hB hO hnd2 hfd hfm (fun hf hv' => by rw [hv] at hv'; cases hv')
  obtain ⟨blk, row, e, h1, _, h2, h3, h4⟩ := ho
  unfold BoxRel
  rw [if_neg (show ¬ (bx.with ((TV.own t x).kill b [])).virt = true from by simp [Box.with, hv])]
  refine ⟨blk, row, e, ?_, h2, h3.trans (congrArg Ty.size ht.symm), ?_⟩
  · simp only [if_true]
    rw [← hbase]; exact h1
  · simp only [if_true]
    exact ⟨ht.symm, h4⟩
end
end Go.TM
/-! ## TnY -/
namespace Go.TM
set_option autoImplicit false
theorem addr_setF_like {f : FT} {u : Ty} {fp : FT} (H : ∀ (a : Option (Nat × Nat)) (q : Path) {v : Ty} {fq : FT} {aq : Option (Nat × Nat)}, addr u fp a q = some (v, fq, aq) → ∃ fq', addr u f a q = some (v, fq', aq) ∧ hdrT v fq' = hdrT v fq) :
    ∀ (t : Ty) (ft : FT) (a : Option (Nat × Nat)) (p q : Path) {v : Ty} {fq : FT} {ap aq : Option (Nat × Nat)},
    addr t ft a p = some (u, fp, ap) → addr t ft a q = some (v, fq, aq) →
    ∃ fq', addr t (setF t ft p f) a q = some (v, fq', aq) ∧ hdrT v fq' = hdrT v fq := by
  intro t
  have nilCase : ∀ (t : Ty) (ft : FT) (a : Option (Nat × Nat)) (q : Path) {v : Ty} {fq : FT} {ap aq : Option (Nat × Nat)},
      addr t ft a [] = some (u, fp, ap) → addr t ft a q = some (v, fq, aq) → ∃ fq', addr t f a q = some (v, fq', aq) ∧ hdrT v fq' = hdrT v fq := by
    intro t ft a q v fq ap aq hp hq
    have e : addr t ft a [] = some (t, ft, a) := by cases t <;> rfl
    rw [e] at hp
    simp only [Option.some.injEq, Prod.mk.injEq] at hp
    obtain ⟨rfl, rfl, rfl⟩ := hp
    exact H _ _ hq
  induction t with
  | cons t r iht ihr =>
    intro ft a p q v fq ap aq hp hq
    match p, hp with
    | [], hp => exact nilCase _ _ _ _ hp hq
    | .i n :: p, hp => simp [addr] at hp
    | .f 0 :: p, hp =>
      match q, hq with
      | [], hq => simp only [addr, Option.some.injEq, Prod.mk.injEq] at hq; obtain ⟨rfl, rfl, rfl⟩ := hq; exact ⟨_, rfl, rfl⟩
      | .i n :: q, hq => simp [addr] at hq
      | .f 0 :: q, hq =>
        simp only [addr] at hp hq
        simpa [addr, setF, FT.fst] using iht _ _ p q hp hq
      | .f (n + 1) :: q, hq => simp only [addr] at hq; exact ⟨fq, by simpa [addr, setF, FT.snd] using hq, rfl⟩
    | .f (m + 1) :: p, hp =>
      match q, hq with
      | [], hq => simp only [addr, Option.some.injEq, Prod.mk.injEq] at hq; obtain ⟨rfl, rfl, rfl⟩ := hq; exact ⟨_, rfl, rfl⟩
      | .i n :: q, hq => simp [addr] at hq
      | .f 0 :: q, hq => simp only [addr] at hq; exact ⟨fq, by simpa [addr, setF, FT.fst] using hq, rfl⟩
      | .f (n + 1) :: q, hq =>
        simp only [addr] at hp hq
        have := ihr _ _ (.f m :: p) (.f n :: q) hp hq
        simp only [addr, setF, FT.snd]
        exact this
  | slice t iht =>
    intro ft a p q v fq ap aq hp hq
    match p, hp with
    | [], hp => exact nilCase _ _ _ _ hp hq
    | .f n :: p, hp => simp [addr] at hp
    | .i n :: p, hp =>
      match ft, hp, hq with
      | .leaf, hp, _ => simp [addr] at hp
      | .pair _ _, hp, _ => simp [addr] at hp
      | .node none _ _, hp, _ => simp [addr] at hp
      | .node (some b) cap ks, hp, hq =>
        simp only [addr] at hp
        split at hp
        · rename_i kn hk
          match q, hq with
          | [], hq =>
            simp only [addr, Option.some.injEq, Prod.mk.injEq] at hq; obtain ⟨rfl, rfl, rfl⟩ := hq
            exact ⟨_, rfl, by simp [hdrT, FT.hdr, setF, hk]⟩
          | .f n :: q, hq => simp [addr] at hq
          | .i m :: q, hq =>
            simp only [addr] at hq
            split at hq
            · rename_i km hm
              by_cases hmn : m = n
              · subst hmn
                rw [hk] at hm
                obtain rfl := Option.some.inj hm
                have hset : (ks.set m (setF t kn p f))[m]? = some (setF t kn p f) := by
                  rw [List.getElem?_set_self (List.getElem?_eq_some_iff.1 hk).1]
                simpa [addr, setF, hk, hset] using iht _ _ p q hp hq
              · have hset : (ks.set n (setF t kn p f))[m]? = some km := by rw [List.getElem?_set_ne (Ne.symm hmn)]; exact hm
                exact ⟨fq, by simp only [setF, hk, addr, hset]; exact hq, rfl⟩
            · cases hq
        · cases hp
  | arr m t _ =>
    intro ft a p q v fq ap aq hp hq
    match p, hp with
    | [], hp => exact nilCase _ _ _ _ hp hq
    | .f n :: p, hp => simp [addr] at hp
    | .i n :: s :: p, hp => simp [addr] at hp
    | [.i n], hp =>
      have e : setF (.arr m t) ft [.i n] f = ft := by cases ft <;> rfl
      rw [e]
      exact ⟨fq, hq, rfl⟩
  | _ =>
    intro ft a p q v fq ap aq hp hq
    cases p with
    | nil => exact nilCase _ _ _ _ hp hq
    | cons s p => simp [addr] at hp


/-- a slice of flat elements whose header stays -/
theorem like_slice {u : Ty} (hu : u.flat = true) {bk : Option Nat} {cap : Nat} {ks ks' : List FT} (hl : ks'.length = ks.length) (a : Option (Nat × Nat)) (q : Path) {v : Ty} {fq : FT} {aq : Option (Nat × Nat)}
    (h : addr (.slice u) (.node bk cap ks) a q = some (v, fq, aq)) : ∃ fq', addr (.slice u) (.node bk cap ks') a q = some (v, fq', aq) ∧ hdrT v fq' = hdrT v fq := by
  match q, h with
  | [], h =>
    simp only [addr, Option.some.injEq, Prod.mk.injEq] at h
    obtain ⟨rfl, rfl, rfl⟩ := h
    exact ⟨_, rfl, by simp [hdrT, FT.hdr, hl]⟩
  | .f n :: q, h => simp [addr] at h
  | .i n :: q, h =>
    cases bk with
    | none => simp [addr] at h
    | some bk =>
      simp only [addr] at h
      split at h
      · rename_i k hk
        have hlt : n < ks'.length := by rw [hl]; exact (List.getElem?_eq_some_iff.1 hk).1
        obtain ⟨h1, h2⟩ := flat_addr _ _ _ _ hu h
        obtain ⟨fq2, h3⟩ := h2 ks'[n]
        exact ⟨fq2, by simp only [addr, List.getElem?_eq_getElem hlt]; exact h3, hdrT_flat h1 _ _⟩
      · cases h

section
variable {ρ : Type} {P : Program} {E : Env} {F : Fr} {G : Nat → Gh} {s : St} {a : Act} {w w2 : World} {Q : Exit → Act → World → Prop}

theorem le_of_like {i : Nat} {x : Box} (hx : s.box i = some x) {p : Path} {u : Ty} {fp : FT} {ap : Option (Nat × Nat)}
    (hA : adr s.box G i p = some (u, fp, ap)) {f : FT} (H : ∀ (a : Option (Nat × Nat)) (q : Path) {v : Ty} {fq : FT} {aq : Option (Nat × Nat)}, addr u fp a q = some (v, fq, aq) → ∃ fq', addr u f a q = some (v, fq', aq) ∧ hdrT v fq' = hdrT v fq)
    {s2 : St} {G2 : Nat → Gh} {c' : TV} {kl : TV → TV}
    (hG : G2 = fun j => if j = i then ⟨(G i).base, setF x.ty (G i).ft p f⟩ else G j)
    (hb : ∀ j, s2.box j = if j = i then some (x.with c') else (s.box j).map fun y => y.with (kl y.c)) : ALe (adr s.box G) (adr s2.box G2) := by
  subst hG
  intro c q t ft at' h
  have hA' : addr x.ty (G i).ft ((G i).base.map (·, 0)) p = some (u, fp, ap) := by rw [← adr_eq hx]; exact hA
  by_cases e : i = c
  · subst e
    rw [adr_eq hx] at h
    have hs : adr s2.box (fun j => if j = i then ⟨(G i).base, setF x.ty (G i).ft p f⟩ else G j) i q = addr x.ty (setF x.ty (G i).ft p f) ((G i).base.map (·, 0)) q := by
      simp [adr, hb, Box.with]
    rw [hs]
    exact addr_setF_like H x.ty (G i).ft _ p q hA' h
  · have hs : adr s2.box (fun j => if j = i then ⟨(G i).base, setF x.ty (G i).ft p f⟩ else G j) c q = adr s.box G c q := by
      have e' : ¬ c = i := fun h => e h.symm
      simp only [adr, hb, e', if_false]
      cases s.box c <;> rfl
    exact ⟨ft, by rw [hs]; exact h, rfl⟩
end
end Go.TM
/-! ## TnZ -/
namespace Go.TM
set_option autoImplicit false
section
variable {ρ : Type} {P : Program} {E : Env} {F : Fr} {G : Nat → Gh} {s : St} {a : Act} {w w2 : World} {Q : Exit → Act → World → Prop}

/-- a slice that was lent is back at its place -/
theorem Rel.backWith (h : Rel F G s a w) {b : Nat} {p : Path} {x : Box} (hx : s.box b = some x) (hd : Path.deref p = false) {t : Ty} {y : (Ty.slice t).den} {fp f : FT} {ap : Option (Nat × Nat)} {v : Value}
    (hA : adr s.box G b p = some (.slice t, fp, ap)) (hv : ∀ b' o, ap = some (b', o) → At w b' o 1 [v]) (ho : Own w2 (.slice t) y f [v])
    (hsz : Gro w w2) (hR : ∀ b, F.R b → w2.heap[b]? = w.heap[b]?)
    (hB : ∀ j z, j ≠ b → s.box j = some z → ∀ b' ∈ (G j).blocks, w2.heap[b']? = w.heap[b']?) (hB2 : ∀ b' ∈ (G b).blocks, b' ∉ fp.blocks → w2.heap[b']? = w.heap[b']?)
    (hO : ∀ b', b' < F.w0.heap.size → b' ∉ F.M → w2.heap[b']? = w.heap[b']?)
    (hf : f.blocks.Nodup) (hfd : ∀ b' ∈ f.blocks, b' ∈ fp.blocks ∨ ∀ j z, s.box j = some z → b' ∉ (G j).blocks) (hfm : ∀ b' ∈ f.blocks, ¬ F.R b' ∧ b' < w2.heap.size ∧ (b' ∈ F.M ∨ F.w0.heap.size ≤ b'))
    (hhdr : f.hdr = fp.hdr) (kl : TV → TV) (s2 : St) (c' : TV)
    (hg : ∀ n, s2.get n = kl (s.get n)) (hb : ∀ j, s2.box j = if j = b then some (x.with (kl c')) else (s.box j).map fun y => y.with (kl y.c))
    (hV : ∀ v y, VR (adr s.box G) w F.R v y → VR (adr s2.box (fun j => if j = b then ⟨(G b).base, setF x.ty (G b).ft p f⟩ else G j)) w2 F.R (kl v) y)
    (hC : ∀ (w' : World), (∀ b, F.R b → w'.heap[b]? = w.heap[b]?) → ∀ c t ft cs, (∀ b ∈ ft.blocks, w'.heap[b]? = w.heap[b]?) → Con (adr s.box G) w F.R c t ft cs → Con (adr s2.box (fun j => if j = b then ⟨(G b).base, setF x.ty (G b).ft p f⟩ else G j)) w' F.R (kl c) t ft cs)
    (hS : ∀ {σ : Type} (k' : TV → Option σ), setC (kl x.c) p (.own (.slice t) y) k' = k' (kl c')) :
    Rel F (fun j => if j = b then ⟨(G b).base, setF x.ty (G b).ft p f⟩ else G j) s2 a w2 := by
  have hA' : addr x.ty (G b).ft ((G b).base.map (·, 0)) p = some (.slice t, fp, ap) := by rw [← adr_eq hx]; exact hA
  obtain ⟨s1, s3⟩ := addr_sub _ _ _ _ hA'
  have hnd := h.nodup b x hx
  simp only [Gh.blocks, List.nodup_append] at hnd
  obtain ⟨nd1, nd2, nd3⟩ := hnd
  obtain ⟨cs0, hcon0, hbase⟩ := (h.box b x hx).con
  have hbv : ∀ blk, (G b).base = some blk → w2.heap[blk]? = w.heap[blk]? := fun blk e => hB2 blk (by simp [Gh.blocks, e]) (fun hm => nd3 blk (by simp [e]) blk (s1 blk hm) rfl)
  have hsum : x.virt = true → (G b).base = none ∧ p = [] ∧ x.ty = .slice t ∧ fp = (G b).ft := by
    intro hv
    have := h.box b x hx
    unfold BoxRel at this
    rw [if_pos hv] at this
    obtain ⟨h1, ⟨t', h2⟩, _⟩ := this
    rw [h2] at hA' ⊢
    cases p with
    | nil =>
      have e4 : addr (.slice t') (G b).ft ((G b).base.map (·, 0)) [] = some (.slice t', (G b).ft, (G b).base.map (·, 0)) := rfl
      rw [e4] at hA'
      simp only [Option.some.injEq, Prod.mk.injEq] at hA'
      exact ⟨h1, rfl, hA'.1, hA'.2.1.symm⟩
    | cons q p => cases q <;> simp [addr, Path.deref] at hA' hd
  refine h.core' hx hA kl rfl hg hb hV (fun c t ft cs hag hcn => hC w2 hR c t ft cs hag hcn) ?_ hsz hB hO hf hfd hfm (fun _ hv => by
    obtain ⟨_, rfl, e, e2⟩ := hsum hv
    rw [setF_nil, hhdr, e2])
  unfold BoxRel
  by_cases hvt : x.virt = true
  · obtain ⟨hbn, rfl, e1, e2⟩ := hsum hvt
    rw [if_pos (show (x.with (kl c')).virt = true from hvt)]
    refine ⟨by simpa using hbn, ⟨t, e1⟩, [v], ?_⟩
    have e3 : ∀ {σ : Type} (c v : TV) (k : TV → Option σ), setC c [] v k = k v := by intro σ c v k; cases c <;> rfl
    have := hS some
    rw [e3] at this
    have hc : kl c' = .own (.slice t) y := (Option.some.inj this).symm
    change Con _ w2 F.R (kl c') x.ty _ [v]
    rw [hc]
    simp only [if_true, setF_nil]
    exact ⟨e1.symm, ho⟩
  · rw [if_neg (show ¬ (x.with (kl c')).virt = true from hvt)]
    have hob := h.box b x hx
    unfold BoxRel at hob
    rw [if_neg hvt] at hob
    obtain ⟨blk, row, e, hb1, hb2, hb3, hb4⟩ := hob
    have hap : ∃ o, ap = some (blk, o) := by
      rcases s3 with ⟨b0, o0, _, _, hdd⟩ | ⟨d, e0, _⟩
      · rw [hd] at hdd; cases hdd
      · exact ⟨0 + d, by rw [e0, hb1]; rfl⟩
    obtain ⟨o, rfl⟩ := hap
    have hblk : blk ∉ (G b).ft.blocks := fun hm => nd3 blk (by simp [hb1]) blk hm rfl
    have hat : At w blk o 1 [v] := hv blk o rfl
    have hW : Wr w w2 blk o (Ty.slice t).size [v] := by
      obtain ⟨q1, row1, row2, e', fz, q2, q3, q4, q5⟩ := Wr.refl hat
      exact ⟨q1, row1, row2, e', fz, q2, (hbv blk hb1).trans q3, q4, q5⟩
    have hat0 : At w blk 0 x.ty.size row.toList := (hbase blk 0 (by rw [hb1]; rfl)).1 |> fun hh => by
      obtain ⟨row', e', fz', q1, q2, q3⟩ := hh
      rw [hb2] at q1
      simp only [Option.some.injEq, Obj.cells.injEq] at q1
      obtain ⟨rfl, _, _⟩ := q1
      exact ⟨row, e, (0, 0), hb2, by omega, by rw [List.drop_zero, List.take_of_length_le (by simp; omega)]⟩
    have hcon2 : Con (adr s2.box (fun j => if j = b then ⟨(G b).base, setF x.ty (G b).ft p f⟩ else G j)) w F.R (kl x.c) x.ty (G b).ft row.toList := hC w (fun _ _ => rfl) _ _ _ _ (fun _ _ => rfl) hb4
    obtain ⟨c2, cs2, g1, g2, g3, g4⟩ := Con.set (v := .own (.slice t) y) (ft2 := f) hW ⟨rfl, ho⟩ (kl x.c) x.ty (G b).ft row.toList ((G b).base.map (·, 0)) p (fun c => some c) (kl c') hcon2
      (fun b' o' e' => by
        rw [hb1] at e'
        simp only [Option.map_some, Option.some.injEq, Prod.mk.injEq] at e'
        obtain ⟨rfl, rfl⟩ := e'
        exact ⟨hat0, hblk, fun hne => absurd rfl hne⟩) nd2 hA' (hS some) ⟨fun b' hb' hn _ => hB2 b' (by simp [Gh.blocks, hb']) hn, fun hm => hblk (s1 blk hm), hR⟩
    obtain rfl := Option.some.inj g1
    have hb2' : w2.heap[blk]? = some (.cells row e (0, 0)) := (hbv blk hb1).trans hb2
    refine ⟨blk, row, e, by simp [hb1], hb2', hb3, ?_⟩
    have hat4 := g4 blk 0 (by rw [hb1]; rfl)
    have hrow : cs2 = row.toList := by
      obtain ⟨row', e', fz', q1, q2, rfl⟩ := hat4
      rw [hb2'] at q1
      simp only [Option.some.injEq, Obj.cells.injEq] at q1
      obtain ⟨rfl, _, _⟩ := q1
      rw [List.drop_zero, List.take_of_length_le (by simp; omega)]
    rw [← hrow]
    change Con _ w2 F.R (kl c') x.ty _ cs2
    simp only [if_true]
    exact g2
end
end Go.TM
/-! ## ToA -/
namespace Go.TM
set_option autoImplicit false
section
variable {ρ : Type} {P : Program} {E : Env} {F : Fr} {G : Nat → Gh} {s : St} {a : Act} {w w2 : World} {Q : Exit → Act → World → Prop}

theorem own_hdr {w w2 : World} {t : Ty} {x y : (Ty.slice t).den} {f g : FT} {v : Value} (h : Own w (.slice t) x f [v]) (h' : Own w2 (.slice t) y g [v]) :
    ∃ b cap ks ks', f = .node b cap ks ∧ g = .node b cap ks' ∧ ks'.length = ks.length := by
  obtain ⟨b, cap, ks, rfl, e, _, _, hl, _⟩ := h
  obtain ⟨b', cap', ks', rfl, e', _, _, hl', _⟩ := h'
  rw [e] at e'
  simp only [List.cons.injEq, Value.slice.injEq, and_true] at e'
  obtain ⟨e1, e2, e3⟩ := e'
  subst e3
  have : b = b' := by
    cases b <;> cases b' <;> simp at e1 ⊢
    exact e1
  subst this
  exact ⟨b, cap, ks, ks', rfl, rfl, by rw [hl, hl', e2]⟩

/-- what the taking back leaves -/
def Sub2 (G : Nat → Gh) (s : St) (g g' : List Nat) (G' : Nat → Gh) (s' : St) : Prop :=
  ∀ j y, s'.box j = some y → ∀ b ∈ (G' j).blocks, b ∈ g' ∨ (b ∉ g ∧ ∃ i z, s.box i = some z ∧ b ∈ (G i).blocks)

theorem back_one (h : Rel F G s a w) {A : AdrF} {R : Nat → Prop} {m : PM} {v0 v : TV} {x : Value} {g g' : Gh} (hm : OneM A w R G s m v0 v x g) (hl : m.lends = true)
    {gs gs' : List Gh} {vs : List Value} {ms : List PM} {ds : List D}
    (hsz : Gro w w2) (hR : ∀ b, F.R b → w2.heap[b]? = w.heap[b]?)
    (hB : ∀ j z, s.box j = some z → ∀ b ∈ (G j).blocks, b ∉ g.blocks → w2.heap[b]? = w.heap[b]?)
    (hO : ∀ b', b' < F.w0.heap.size → b' ∉ F.M → w2.heap[b']? = w.heap[b']?) (hnd : g'.blocks.Nodup)
    (hfd : ∀ b ∈ g'.blocks, b ∈ g.blocks ∨ ∀ j z, s.box j = some z → b ∉ (G j).blocks)
    (hfm : ∀ b ∈ g'.blocks, ¬ F.R b ∧ b < w2.heap.size ∧ (b ∈ F.M ∨ F.w0.heap.size ≤ b))
    (hM : MutR w2 (m :: ms) ds (x :: vs) (g :: gs) (g' :: gs')) {k : St → List D → Option ρ} {r : ρ} (hk : back s m v0 ds k = some r) :
    ∃ G' s' ds', k s' ds' = some r ∧ Rel F G' s' a w2 ∧ MutR w2 ms ds' vs gs gs' ∧ Sub2 G s g.blocks g'.blocks G' s' := by
  cases m with
  | ptr t =>
    obtain ⟨b, bx, y, rfl, rfl, ho, hbx, hv, ht, hbase, hft⟩ := hm
    cases ds with
    | nil => exact hM.elim
    | cons d ds =>
      obtain ⟨⟨hdt, hbs, ho'⟩, hM⟩ := hM
      simp only [back] at hk
      rw [if_pos (by simp [hdt])] at hk
      unfold withBox at hk
      rw [hbx] at hk
      have hgb : g.blocks = (G b).blocks := by simp [Gh.blocks, hbase, hft]
      have hrel := back_ptr (t := d.t) (x := d.x) h hbx hv hsz hR (fun j y hj hy b' hb' => hB j y hy b' hb' (fun hm => h.apart j b y bx hy hbx hj b' hb' (hgb ▸ hm))) hO (hbs.trans hbase) ho' (ht.trans hdt.symm) hnd
        (fun b' hb' => by
          rcases hfd b' (by simp [Gh.blocks, hb']) with h1 | h1
          · left
            rw [hgb] at h1
            simp only [Gh.blocks, List.mem_append] at h1
            rcases h1 with h1 | h1
            · exfalso
              simp only [Gh.blocks, List.nodup_append] at hnd
              refine hnd.2.2 b' ?_ b' hb' rfl
              rw [hbs, hbase]
              exact h1
            · exact h1
          · exact .inr h1)
        (fun b' hb' => hfm b' (by simp [Gh.blocks, hb']))
      refine ⟨_, _, ds, hk, hrel, hM, fun j y hy b' hb' => ?_⟩
      rw [box_kset hbx] at hy
      by_cases e : j = b
      · subst e
        left
        simp only [if_true] at hb'
        have : (⟨(G j).base, g'.ft⟩ : Gh).blocks = g'.blocks := by simp [Gh.blocks, hbs, hbase]
        rw [this] at hb'
        exact hb'
      · right
        simp only [e, if_false] at hb' hy
        cases hj : s.box j with
        | none => rw [hj] at hy; cases hy
        | some z => exact ⟨fun hm => h.apart j b z bx hj hbx e b' hb' (hgb ▸ hm), j, z, hj, hb'⟩
  | «mut» t =>
    obtain ⟨u, y, rfl, rfl, hbase, ho, hplace⟩ := hm
    cases ds with
    | nil => exact hM.elim
    | cons d ds =>
      obtain ⟨⟨hdt, hbs, ho'⟩, hM⟩ := hM
      obtain ⟨dt, dx⟩ := d
      have hdt : dt = .slice u := hdt
      subst hdt
      rcases hplace with ⟨rfl, hnil⟩ | ⟨b, p, bx, ap, rfl, hbx, hd, hA, hat⟩
      · simp only [back] at hk
        have hg0 : g.blocks = [] := by simp [Gh.blocks, hbase, hnil]
        refine ⟨G, s, ds, hk, h.shift hsz hR (fun j z hz b hb => hB j z hz b hb (by simp [hg0])) hO, hM, fun j y hy b hb => .inr ⟨by simp [hg0], j, y, hy, hb⟩⟩
      · simp only [back, decide_true, if_true] at hk
        unfold withBox at hk
        rw [hbx] at hk
        simp only at hk
        have hgb : g.blocks = g.ft.blocks := by simp [Gh.blocks, hbase]
        have hgb' : g'.blocks = g'.ft.blocks := by simp [Gh.blocks, hbs]
        have hA' : addr bx.ty (G b).ft ((G b).base.map (·, 0)) p = some (.slice u, g.ft, ap) := by rw [← adr_eq hbx]; exact hA
        obtain ⟨q1, _⟩ := addr_sub _ _ _ _ hA'
        have hin : ∀ b' ∈ g.blocks, b' ∈ (G b).blocks := fun b' hm => by rw [hgb] at hm; simp only [Gh.blocks, List.mem_append]; exact .inr (q1 b' hm)
        obtain ⟨bk, cap, ks, ks', e1, e2, e3⟩ := own_hdr ho ho'
        have hBj : ∀ j z, j ≠ b → s.box j = some z → ∀ b' ∈ (G j).blocks, w2.heap[b']? = w.heap[b']? := fun j z hj hz b' hb' => hB j z hz b' hb' (fun hm => h.apart j b z bx hz hbx hj b' hb' (hin b' hm))
        have hBb : ∀ b' ∈ (G b).blocks, b' ∉ g.ft.blocks → w2.heap[b']? = w.heap[b']? := fun b' hb' hn => hB b bx hbx b' hb' (by rw [hgb]; exact hn)
        have hnd' : g'.ft.blocks.Nodup := by rw [← hgb']; exact hnd
        have hfd' : ∀ b' ∈ g'.ft.blocks, b' ∈ g.ft.blocks ∨ ∀ j z, s.box j = some z → b' ∉ (G j).blocks := fun b' hm => by rw [← hgb]; exact hfd b' (by rw [hgb']; exact hm)
        have hfm' : ∀ b' ∈ g'.ft.blocks, ¬ F.R b' ∧ b' < w2.heap.size ∧ (b' ∈ F.M ∨ F.w0.heap.size ≤ b') := fun b' hm => hfm b' (by rw [hgb']; exact hm)
        have hh : g'.ft.hdr = g.ft.hdr := by rw [e1, e2]; simp [FT.hdr, e3]
        have hnd0 := h.nodup b bx hbx
        simp only [Gh.blocks, List.nodup_append] at hnd0
        have hsub : ∀ (s2 : St), (∀ j y, s2.box j = some y → ∃ z, s.box j = some z) → Sub2 G s g.blocks g'.blocks (fun j => if j = b then ⟨(G b).base, setF bx.ty (G b).ft p g'.ft⟩ else G j) s2 := by
          intro s2 hs2 j y hy b' hb'
          obtain ⟨z, hz⟩ := hs2 j y hy
          by_cases e : j = b
          · subst e
            simp only [if_true, Gh.blocks, List.mem_append] at hb'
            obtain ⟨_, c2⟩ := setF_blocks bx.ty (G j).ft _ p g'.ft hA' hnd0.2.1 hnd' (fun b hb => (hfd' b hb).imp id fun h0 h' => h0 j bx hbx (by simp [Gh.blocks, h']))
            rcases hb' with hm | hm
            · exact .inr ⟨fun hm' => hnd0.2.2 b' hm b' (by rw [hgb] at hm'; exact q1 b' hm') rfl, j, bx, hbx, by simp only [Gh.blocks, List.mem_append]; exact .inl hm⟩
            · rcases c2 b' hm with h1 | h1
              · left; rw [hgb']; exact h1
              · exact .inr ⟨by rw [hgb]; exact h1.2, j, bx, hbx, by simp only [Gh.blocks, List.mem_append]; exact .inr h1.1⟩
          · simp only [e, if_false] at hb'
            exact .inr ⟨fun hm => h.apart j b z bx hz hbx e b' hb' (hin b' hm), j, z, hz, hb'⟩
        by_cases hu : u.flat = true
        · obtain ⟨c', k1, k2⟩ := setC_val _ _ _ _ _ hk
          simp only [hu, if_true] at k1
          have hbox : ∀ j, (s.setBox b { bx with c := c' }).box j = if j = b then some (bx.with c') else (s.box j).map fun y => y.with y.c := box_set hbx c'
          have hle : ALe (adr s.box G) (adr (s.setBox b { bx with c := c' }).box (fun j => if j = b then ⟨(G b).base, setF bx.ty (G b).ft p g'.ft⟩ else G j)) :=
            le_of_like hbx hA (fun aa q v fq aq hq => by rw [e1] at hq; rw [e2]; exact like_slice hu e3 aa q hq) rfl (kl := id) hbox
          refine ⟨_, _, ds, k1, h.backWith hbx hd hA hat ho' hsz hR hBj hBb hO hnd' hfd' hfm' hh id _ c' (fun n => rfl) hbox (fun v y hv => VR.mono hle hR hv) (fun w' hR' c t ft cs hag hcn => Con.mono hle hR' c t ft cs hag hcn) k2, hM, hsub _ (fun j y hy => ?_)⟩
          rw [hbox] at hy
          by_cases e : j = b
          · subst e; exact ⟨bx, hbx⟩
          · simp only [e, if_false] at hy
            cases hj : s.box j with
            | none => rw [hj] at hy; cases hy
            | some z => exact ⟨z, rfl⟩
        · simp only [hu, Bool.false_eq_true, if_false] at hk
          obtain ⟨c', k1, k2⟩ := setC_kill b p _ _ _ _ _ hk
          have hbox := box_kset hbx c' p
          have hbut := but_of_set (f := g'.ft) (kl := fun v => v.kill b p) hbx hA rfl hbox
          refine ⟨_, _, ds, k1, h.backWith hbx hd hA hat ho' hsz hR hBj hBb hO hnd' hfd' hfm' hh (fun v => v.kill b p) _ c' (get_kill _ b p) hbox (fun v y hv => VR.kill hbut hR hv) (fun w' hR' c t ft cs hag hcn => Con.kill hbut hR' c t ft cs hag hcn) k2, hM, hsub _ (fun j y hy => ?_)⟩
          rw [hbox] at hy
          by_cases e : j = b
          · subst e; exact ⟨bx, hbx⟩
          · simp only [e, if_false] at hy
            cases hj : s.box j with
            | none => rw [hj] at hy; cases hy
            | some z => exact ⟨z, rfl⟩
  | _ => simp [PM.lends] at hl
end
end Go.TM
/-! ## ToB -/
namespace Go.TM
set_option autoImplicit false
section
variable {ρ : Type} {P : Program} {E : Env} {F : Fr} {G : Nat → Gh} {s : St} {a : Act} {w w2 : World} {Q : Exit → Act → World → Prop}

def oneLend : List PM → Bool
  | [] => true
  | m :: ms => if m.lends then !(ms.any PM.lends) else oneLend ms

theorem passM_one : ∀ (ms : List PM) (s : St) (vs : List TV) (k : St → List TV → (TV → TV) → Option ρ) (r : ρ), passM s ms vs k = some r → oneLend ms = true := by
  intro ms
  induction ms with
  | nil => intros; rfl
  | cons m ms ih =>
    intro s vs k r hk
    cases vs with
    | nil => simp [passM] at hk
    | cons v vs =>
      cases m with
      | ptr t =>
        cases v with
        | ref b p =>
          cases p with
          | nil =>
            simp only [passM] at hk
            unfold withBox at hk
            split at hk
            · try dsimp only at hk
              split at hk
              · cases hk
              · rename_i hc
                simp only [Bool.or_eq_true, not_or, Bool.not_eq_true] at hc
                simp [oneLend, PM.lends, hc.1.2]
            · cases hk
          | cons _ _ => simp [passM] at hk
        | _ => simp [passM] at hk
      | «mut» t =>
        cases t with
        | slice t =>
          cases v with
          | nil =>
            simp only [passM] at hk
            split at hk
            · cases hk
            · rename_i hc; simpa [oneLend, PM.lends] using hc
          | sl b p =>
            simp only [passM] at hk
            split at hk
            · cases hk
            · rename_i hc
              simp only [Bool.or_eq_true, not_or, Bool.not_eq_true] at hc
              simp [oneLend, PM.lends, hc.2]
          | _ => simp [passM] at hk
        | _ => simp [passM] at hk
      | ro t => exact ih s vs _ r (by simpa only [passM] using hk)
      | rop t => exact ih s vs _ r (by simpa only [passM] using hk)
      | own t => exact ih s vs _ r (by simpa only [passM] using hk)
      | clo f c => exact ih s vs _ r (by simpa only [passM] using hk)

theorem back_none {m : PM} (hm : m.lends = false) (v : TV) (ds : List D) (k : St → List D → Option ρ) : back s m v ds k = k s ds := by
  cases m <;> first | rfl | simp [PM.lends] at hm

theorem backAll_rest : ∀ (ms : List PM) (vs : List TV) (ds : List D) (s : St) (k : St → Option ρ) (r : ρ), ms.any PM.lends = false → backAll s ms vs ds k = some r → k s = some r := by
  intro ms
  induction ms with
  | nil =>
    intro vs ds s k r _ hk
    cases vs <;> cases ds <;> first | exact hk | simp [backAll] at hk
  | cons m ms ih =>
    intro vs ds s k r hl hk
    simp only [List.any_cons, Bool.or_eq_false_iff] at hl
    cases vs with
    | nil => simp [backAll] at hk
    | cons v vs =>
      simp only [backAll] at hk
      rw [back_none hl.1] at hk
      exact ih vs ds s k r hl.2 hk

theorem mutR_none {m : PM} (hm : m.lends = false) {ms : List PM} {ds : List D} {v : Value} {vs : List Value} {g g' : Gh} {gs gs' : List Gh} (h : MutR w (m :: ms) ds (v :: vs) (g :: gs) (g' :: gs')) : g'.blocks = [] ∧ MutR w ms ds vs gs gs' := by
  cases m <;> first | exact h | simp [PM.lends] at hm

theorem mutR_rest : ∀ (ms : List PM) (ds : List D) (vs : List Value) (gs gs' : List Gh), ms.any PM.lends = false → MutR w ms ds vs gs gs' → ghBlocks gs' = [] := by
  intro ms
  induction ms with
  | nil =>
    intro ds vs gs gs' _ h
    match ds, vs, gs, gs', h with
    | [], [], [], [], _ => rfl
  | cons m ms ih =>
    intro ds vs gs gs' hl h
    simp only [List.any_cons, Bool.or_eq_false_iff] at hl
    match vs, gs, gs', h with
    | v :: vs, g :: gs, g' :: gs', h =>
      obtain ⟨h1, h2⟩ := mutR_none hl.1 h
      have := ih ds vs gs gs' hl.2 h2
      simp only [ghBlocks, List.map_cons, List.flatten_cons, h1, List.nil_append]
      exact this
    | [], _, _, h => exact h.elim
    | _ :: _, [], _, h => exact h.elim
    | _ :: _, _ :: _, [], h => exact h.elim

theorem gh_cons (g : Gh) (gs : List Gh) : ghBlocks (g :: gs) = g.blocks ++ ghBlocks gs := by simp [ghBlocks]

theorem backAll_sound (h : Rel F G s a w) {A : AdrF} {R : Nat → Prop} (hsz : Gro w w2) (hR : ∀ b, F.R b → w2.heap[b]? = w.heap[b]?)
    (hO : ∀ b', b' < F.w0.heap.size → b' ∉ F.M → w2.heap[b']? = w.heap[b']?) :
    ∀ (ms : List PM) (vs0 vs : List TV) (xs : List Value) (gs gs' : List Gh) (ds : List D) (k : St → Option ρ) (r : ρ), AfterM A w R G s ms vs0 vs xs gs → MutR w2 ms ds xs gs gs' → oneLend ms = true →
    (∀ j z, s.box j = some z → ∀ b ∈ (G j).blocks, b ∉ lentBlocks ms gs → w2.heap[b]? = w.heap[b]?) → (ghBlocks gs').Nodup →
    (∀ b ∈ ghBlocks gs', b ∈ lentBlocks ms gs ∨ ∀ j z, s.box j = some z → b ∉ (G j).blocks) →
    (∀ b ∈ ghBlocks gs', ¬ F.R b ∧ b < w2.heap.size ∧ (b ∈ F.M ∨ F.w0.heap.size ≤ b)) → backAll s ms vs0 ds k = some r →
    ∃ G' s', k s' = some r ∧ Rel F G' s' a w2 ∧ Sub2 G s (lentBlocks ms gs) (ghBlocks gs') G' s' := by
  intro ms
  induction ms with
  | nil =>
    intro vs0 vs xs gs gs' ds k r hA hM _ hB _ _ _ hk
    match vs0, vs, xs, gs, gs', ds, hA, hM, hk with
    | [], [], [], [], [], [], _, _, hk =>
      exact ⟨G, s, hk, h.shift hsz hR (fun j z hz b hb => hB j z hz b hb (by simp [lentBlocks])) hO, fun j y hy b hb => .inr ⟨by simp [lentBlocks], j, y, hy, hb⟩⟩
    | [], [], [], [], _ :: _, [], _, hM, _ => exact hM.elim
    | [], [], [], [], _, _ :: _, _, _, hk => simp [backAll] at hk
  | cons m ms ih =>
    intro vs0 vs xs gs gs' ds k r hA hM hone hB hnd hfd hfm hk
    match vs0, vs, xs, gs, gs', hA, hM with
    | v0 :: vs0, v :: vs, x :: xs, g :: gs, g' :: gs', hA, hM =>
      simp only [backAll] at hk
      by_cases hm : m.lends = true
      · simp only [oneLend, hm, if_true, Bool.not_eq_true'] at hone
        have e1 : lentBlocks (m :: ms) (g :: gs) = g.blocks := by simp [lentBlocks, hm, lent_rest ms gs hone]
        rw [e1] at hB hfd ⊢
        rw [gh_cons] at hnd hfd hfm ⊢
        obtain ⟨G', s', ds', k1, R1, M1, S1⟩ := back_one h hA.1 hm hsz hR hB hO (List.nodup_append.1 hnd).1 (fun b hb => hfd b (List.mem_append.2 (.inl hb))) (fun b hb => hfm b (List.mem_append.2 (.inl hb))) hM hk
        exact ⟨G', s', backAll_rest ms vs0 ds' s' k r hone k1, R1, fun j y hy b hb => (S1 j y hy b hb).imp (fun h => List.mem_append.2 (.inl h)) id⟩
      · have hm : m.lends = false := by simpa using hm
        rw [back_none hm] at hk
        obtain ⟨h1, h2⟩ := mutR_none hm hM
        have e1 : lentBlocks (m :: ms) (g :: gs) = lentBlocks ms gs := by simp [lentBlocks, hm]
        have e2 : ghBlocks (g' :: gs') = ghBlocks gs' := by rw [gh_cons, h1]; rfl
        rw [e1] at hB hfd ⊢
        rw [e2] at hnd hfd hfm ⊢
        exact ih vs0 vs xs gs gs' ds k r hA.2 h2 (by simpa [oneLend, hm] using hone) hB hnd hfd hfm hk
    | [], _, _, _, _, hA, _ => exact hA.elim
    | _ :: _, [], _, _, _, hA, _ => exact hA.elim
    | _ :: _, _ :: _, [], _, _, hA, _ => exact hA.elim
    | _ :: _, _ :: _, _ :: _, [], _, hA, _ => exact hA.elim
    | _ :: _, _ :: _, _ :: _, _ :: _, [], _, hM => exact hM.elim

theorem call_sound (h : Rel F G s a w) (hE : EnvOk P E) (hnt : E.nt = F.nt) {f : Nat} {vs : List TV} {xs : List Value} (hv : VRs (adr s.box G) w F.R vs xs) {dst : Option Nat} {k : St → Option ρ} {r : ρ}
    (hd : ∀ d, dst = some d → d < E.nt) (hk : callK E s f vs dst k = some r) :
    Runs P f xs.toArray w fun e w' => match e with
      | .returned v => Post F k r (a.put dst v) w'
      | _ => False := by
  unfold callK at hk
  split at hk
  · cases hk
  rename_i c hc
  have hV := hE f _ c hc
  obtain ⟨G0, s0, vs0, κ0, gs0, hk0, T0, A0⟩ := passO_sound _ _ _ _ _ _ _ h hv hk
  have hone := passM_one _ _ _ _ _ hk0
  obtain ⟨G1, s1, vs1, κ1, gs, hk1, T1, A1, _, B, N⟩ := passM_sound T0.rel _ _ _ _ _ _ A0 hk0
  obtain ⟨ds, hk2, hargs⟩ := lendAll_sound T1.rel _ _ _ _ _ _ _ A1 hk1
  rw [hV.law] at hk2
  split at hk2
  · cases hk2
  rename_i rs ms hg
  have mine : ∀ b ∈ ghBlocks gs, ¬ F.R b ∧ b < w.heap.size ∧ (b ∈ F.M ∨ F.w0.heap.size ≤ b) := fun b hb => by
    rcases (B b).1 hb with hb | hb
    · exact T1.mine b hb
    · exact T0.mine b hb
  have hdis : ∀ b ∈ ghBlocks gs0, b ∉ lentBlocks c.params gs := fun b hb hb' => by
    obtain ⟨i, x, hx, hm⟩ := T1.had b hb'
    exact T0.out b hb i x hx hm
  have hpre : Pre w (RR F G1 s1) c ds xs gs := by
    refine ⟨hargs, N T0.nodup hdis, fun b hb => ⟨?_, (mine b hb).2.1⟩, ?_⟩
    · rintro (hR | ⟨i, x, hx, hm⟩)
      · exact (mine b hb).1 hR
      · rcases (B b).1 hb with hb | hb
        · exact T1.out b hb i x hx hm
        · obtain ⟨i', x', hx', hm'⟩ := T1.less.sub i x hx b hm
          exact T0.out b hb i' x' hx' hm'
    · rintro b (hR | ⟨i, x, hx, hm⟩)
      · exact h.ro_lt hR
      · exact (T1.rel.mine i x hx b hm).2.1
  refine (hV.calls w _ ds xs gs rs ms hpre hg).mono fun e w' hdone => ?_
  cases e with
  | returned v =>
    obtain ⟨fs, gs', D⟩ := hdone
    have hnR : ∀ b, F.R b → b ∉ ghBlocks gs := fun b hb hm => (mine b hm).1 hb
    have hR : ∀ b, F.R b → w'.heap[b]? = w.heap[b]? := fun b hb => D.agree b (h.ro_lt hb) (hnR b hb)
    have hO : ∀ b', b' < F.w0.heap.size → b' ∉ F.M → w'.heap[b']? = w.heap[b']? := fun b hb hm => D.agree b (Nat.lt_of_lt_of_le hb h.size) (fun hm' => by
      rcases (mine b hm').2.2 with h1 | h1
      · exact hm h1
      · omega)
    have hB : ∀ j z, s0.box j = some z → ∀ b ∈ (G0 j).blocks, b ∉ lentBlocks c.params gs → w'.heap[b]? = w.heap[b]? := fun j z hz b hb hn => D.agree b (T0.rel.mine j z hz b hb).2.1 (fun hm => by
      rcases (B b).1 hm with h1 | h1
      · exact hn h1
      · exact T0.out b h1 j z hz hb)
    have hnd := List.nodup_append.1 D.nodup
    have hnew : ∀ b ∈ FT.blocksL fs ++ ghBlocks gs', ¬ F.R b ∧ b < w'.heap.size ∧ (b ∈ F.M ∨ F.w0.heap.size ≤ b) := fun b hb => by
      obtain ⟨q1, q2⟩ := D.mine b hb
      rcases q2 with q2 | q2
      · exact ⟨(mine b q2).1, q1, (mine b q2).2.2⟩
      · exact ⟨fun hR => by have := h.ro_lt hR; omega, q1, .inr (Nat.le_trans h.size q2)⟩
    have hold : ∀ b ∈ FT.blocksL fs ++ ghBlocks gs', b ∈ lentBlocks c.params gs ∨ ∀ j z, s0.box j = some z → b ∉ (G0 j).blocks := fun b hb => by
      obtain ⟨q1, q2⟩ := D.mine b hb
      rcases q2 with q2 | q2
      · exact ((B b).1 q2).imp id fun h1 j z hz => T0.out b h1 j z hz
      · exact .inr fun j z hz hm => by have := (T0.rel.mine j z hz b hm).2.1; omega
    obtain ⟨G2, s2, k2, R2, S2⟩ := backAll_sound T0.rel D.gro hR hO c.params vs0 vs1 xs gs gs' ms _ r A1 D.muts hone hB hnd.2.1 (fun b hb => hold b (List.mem_append.2 (.inr hb))) (fun b hb => hnew b (List.mem_append.2 (.inr hb))) hk2
    refine resK_sound R2 hnt (fun d hd => hV.fine _ ?_) D.res hnd.1 (fun b hb j y hy hm => ?_) (fun b hb => hnew b (List.mem_append.2 (.inl hb))) hd k2
    · have := D.types
      rw [← this]
      exact List.mem_map.2 ⟨d, hd, rfl⟩
    · rcases S2 j y hy b hm with h1 | ⟨h1, i, z, hz, hm'⟩
      · exact hnd.2.2 b hb b h1 rfl
      · rcases hold b (List.mem_append.2 (.inl hb)) with h2 | h2
        · exact h1 h2
        · exact h2 i z hz hm'
  | _ => exact hdone.elim
end
end Go.TM
/-! ## ToC -/
namespace Go.TM
set_option autoImplicit false
section
variable {ρ : Type} {P : Program} {E : Env} {F : Fr} {G : Nat → Gh} {s : St} {a : Act} {w w2 : World} {Q : Exit → Act → World → Prop}

theorem VRs.app {A : AdrF} {R : Nat → Prop} : ∀ (vs us : List TV) (xs ys : List Value), VRs A w R vs xs → VRs A w R us ys → VRs A w R (vs ++ us) (xs ++ ys)
  | [], _, [], _, _, h => h
  | _ :: vs, us, _ :: xs, ys, h, h' => ⟨h.1, VRs.app vs us xs ys h.2 h'⟩
  | [], _, _ :: _, _, h, _ => h.elim
  | _ :: _, _, [], _, h, _ => h.elim

theorem VRs.evs (h : Rel F G s a w) : ∀ (l : List Operand), VRs (adr s.box G) w F.R (l.map s.ev) (l.map a.eval)
  | [] => trivial
  | x :: l => ⟨ev_sound h x, VRs.evs h l⟩

theorem calls_op_sound (h : Rel F G s a w) (hE : TyOk P E F) (hV : EnvOk P E) {o : Oper} {c : Call} {g : Operand} (ho : o.op = .call c) (hb : c.callee = .value g) (hd : ∀ d, o.dst = some d → d < E.nt) {k : St → Option ρ} {r : ρ} (hk : opK E o s k = some r) :
    o.wp P a w (Post F k r) Q := by
  unfold opK at hk
  rw [ho] at hk
  simp only [hb] at hk
  split at hk
  · rename_i f caps hg
    split at hk
    · rename_i l hl
      have hgv := ev_sound h g
      rw [hg] at hgv
      obtain ⟨vs, hvs, hx⟩ := hgv.one (by simp) (by simp) rfl
      have hx := (List.cons.inj hx).1
      rcases call_sound h hV hE.nt (VRs.app _ _ _ _ (VRs.evs h c.args.toList) (capsO_vr caps vs l hvs hl)) hd hk with ⟨hent, hcalls⟩ | ⟨v, w', hrun, hpost⟩
      · have e : (execOp a.eval o).run P w = .ok (.enter f (c.args.toList.map a.eval ++ vs).toArray) w := by
          unfold execOp
          rw [ho]
          simp only [resolve, hb, hx, Deferred.ofValue, Sem.run_bind, Sem.run_pure, Result.andThen_ok, invoke]
          rw [hent]
          congr 2
          apply Array.ext'
          simp
        unfold Oper.wp
        rw [e, Oper.upon_enter]
        refine hcalls.mono fun e w' he => ?_
        cases e <;> first | exact he | exact he.elim
      · have ha : (c.args.map a.eval) ++ vs.toArray = (c.args.toList.map a.eval ++ vs).toArray := by
          apply Array.ext'
          simp
        refine wp_value (v := v) (w' := w') ?_ hpost
        unfold execOp
        rw [ho]
        simp only [resolve, hb, hx, Deferred.ofValue, Sem.run_bind, Sem.run_pure, Result.andThen_ok, invoke]
        rw [← ha] at hrun
        rw [Array.empty_append]
        exact hrun
    · cases hk
  · cases hk
end
end Go.TM
/-! ## ToD -/
namespace Go.TM
set_option autoImplicit false
section
variable {ρ : Type} {P : Program} {E : Env} {F : Fr} {G : Nat → Gh} {s : St} {a : Act} {w w2 : World} {Q : Exit → Act → World → Prop}

theorem opK_sound (h : Rel F G s a w) (hE : TyOk P E F) (hV : EnvOk P E) {o : Oper} (hd : ∀ d, o.dst = some d → d < E.nt) (hst : ∀ t x y, o.op = .store t x y → o.dst = none) {k : St → Option ρ} {r : ρ} (hk : opK E o s k = some r) :
    o.wp P a w (Post F k r) Q := by
  cases ho : o.op with
  | move x => exact move_sound h hE (.inl ho) hd hk
  | assign x => exact move_sound h hE (.inr ho) hd hk
  | pick c x y => exact pick_sound h hE ho hd hk
  | alloc t => exact alloc_sound h hE ho hd hk
  | box t x => exact box_sound h hE ho hd hk
  | build t ps => exact build_sound h hE ho hd hk
  | buildSlice t n ps => exact buildSlice_sound h hE ho hd hk
  | load t x => exact load_sound h hE ho hd hk
  | store t x y => exact store_sound h hE ho (hst _ _ _ ho) hk
  | nilCheck x => exact nilCheck_sound h hE ho hd hk
  | binOp op t x y t' => exact binOp_sound h hE ho hd hk
  | unOp op t x => exact unOp_sound h hE ho hd hk
  | convert t u x => exact convert_sound h hE ho hd hk
  | makeSlice t n c => exact makeSlice_sound h hE ho hd hk
  | slice t x lo hi mx => exact slice_sound h hE ho hd hk
  | fieldAddr t x n => exact fieldAddr_sound h hE ho hd hk
  | field t x n => exact field_sound h hE ho hd hk
  | indexAddr t x y => exact indexAddr_sound h hE ho hd hk
  | index t x y => exact index_sound h hE ho hd hk
  | extract x n => exact extract_sound h hE ho hd hk
  | makeFunc f x y => exact makeFunc_sound h hE ho hd hk
  | call c =>
    cases hc : c.callee with
    | value g => exact calls_op_sound h hE hV ho hc hd hk
    | builtin b =>
      cases b with
      | len => exact len_sound h hE ho hc hd hk
      | append => exact append_sound h hE ho hc hd hk
      | min => exact min_sound h hE ho hc hd hk
      | max => exact max_sound h hE ho hc hd hk
      | _ => unfold opK at hk; rw [ho] at hk; simp [hc, builtinK] at hk
    | invoke x n => unfold opK at hk; rw [ho] at hk; simp [hc] at hk
  | _ => unfold opK at hk; rw [ho] at hk; simp at hk

theorem opD_sound (hE : TyOk P E F) (hV : EnvOk P E) : OpsSound ρ P E F := by
  intro G s a w Q o k r h hk
  unfold opD at hk
  split at hk
  · rename_i d hd
    split at hk
    · rename_i hb
      have hlt : d < E.nt := by simpa [Nat.blt_eq] using hb
      have hdd : ∀ d', o.dst = some d' → d' < E.nt := fun d' e => by rw [hd] at e; cases e; exact hlt
      split at hk
      · cases hk
      · rename_i hns
        exact opK_sound h hE hV hdd (fun t x y e => absurd e (hns t x y)) hk
    · cases hk
  · rename_i hd
    exact opK_sound h hE hV (fun d' e => by rw [hd] at e; cases e) (fun _ _ _ _ => hd) hk
end
end Go.TM
/-! ## ToE -/
namespace Go.TM
set_option autoImplicit false
section
variable {ρ σ : Type} {E : Env}

/-- the boxes that a value leads into -/
def TV.refs : TV → List Nat
  | .ref b _ | .sl b _ | .slw b _ _ _ => [b]
  | .cons a r => a.refs ++ r.refs
  | .tup a => a.refs
  | .clo _ c => c.refs
  | _ => []

/-- the boxes that v leads into are in s, and as in t -/
def Ag (s t : St) (v : TV) : Prop := ∀ b ∈ v.refs, ∃ z, s.box b = some z ∧ ∀ y, t.box b = some y → y = z

theorem withBox_det {t : St} {b : Nat} {k : Box → Option ρ} {r : ρ} (h : withBox t b k = some r) : ∃ y, k y = some r ∧ t.box b = some y ∧
    ∀ (s : St), (∃ z, s.box b = some z ∧ ∀ y, t.box b = some y → y = z) → ∀ {σ : Type} (k' : Box → Option σ), withBox s b k' = k' y := by
  unfold withBox at h
  split at h
  · rename_i y hy
    refine ⟨y, h, hy, fun s hs σ k' => ?_⟩
    obtain ⟨z, hz, e⟩ := hs
    have := e y hy
    subst this
    unfold withBox
    rw [hz]
  · cases h

theorem castTo_det {a b : Ty} {x : a.den} {k : b.den → Option ρ} {r : ρ} (h : (match castTo a b x with
    | some y => k y
    | none => none) = some r) : ∃ y, k y = some r ∧ ∀ {σ : Type} (k' : b.den → Option σ), (match castTo a b x with
    | some y => k' y
    | none => none) = k' y := by
  split at h
  · rename_i y hy
    exact ⟨y, h, fun k' => by first | rfl | simp only [hy]⟩
  · cases h

theorem getT_det : ∀ (t : Ty) (x : t.den) (p : Path) (k : (u : Ty) → u.den → Option ρ) (r : ρ), getT t x p k = some r →
    ∃ u y, k u y = some r ∧ ∀ {σ : Type} (k' : (u : Ty) → u.den → Option σ), getT t x p k' = k' u y := by
  have nilC : ∀ (t : Ty) (x : t.den) (k : (u : Ty) → u.den → Option ρ) (r : ρ), getT t x [] k = some r → ∃ u y, k u y = some r ∧ ∀ {σ : Type} (k' : (u : Ty) → u.den → Option σ), getT t x [] k' = k' u y := by
    intro t x k r h
    have e : ∀ {σ : Type} (k' : (u : Ty) → u.den → Option σ), getT t x [] k' = k' t x := by intro σ k'; cases t <;> rfl
    rw [e] at h
    exact ⟨t, x, h, e⟩
  intro t
  induction t with
  | cons t r iht ihr =>
    intro x p k q h
    match p, h with
    | [], h => exact nilC _ _ _ _ h
    | .i n :: p, h => simp [getT] at h
    | .f 0 :: p, h =>
      obtain ⟨u, y, h1, h2⟩ := iht x.1 p k q (by simpa only [getT] using h)
      exact ⟨u, y, h1, fun k' => by simp only [getT]; exact h2 k'⟩
    | .f (n + 1) :: p, h =>
      obtain ⟨u, y, h1, h2⟩ := ihr x.2 (.f n :: p) k q (by simpa only [getT] using h)
      exact ⟨u, y, h1, fun k' => by simp only [getT]; exact h2 k'⟩
  | slice t iht =>
    intro x p k q h
    match p, h with
    | [], h => exact nilC _ _ _ _ h
    | .f n :: p, h => simp [getT] at h
    | .i n :: p, h =>
      simp only [getT] at h
      split at h
      · rename_i z hz
        obtain ⟨u, y, h1, h2⟩ := iht z p k q h
        exact ⟨u, y, h1, fun k' => by simp only [getT, hz]; exact h2 k'⟩
      · cases h
  | arr m t iht =>
    intro x p k q h
    match p, h with
    | [], h => exact nilC _ _ _ _ h
    | .f n :: p, h => simp [getT] at h
    | .i n :: p, h =>
      simp only [getT] at h
      split at h
      · cases h
      · rename_i ha
        split at h
        · rename_i z hz
          obtain ⟨u, y, h1, h2⟩ := iht z p k q h
          exact ⟨u, y, h1, fun k' => by simp only [getT, hz, ha]; exact h2 k'⟩
        · cases h
  | _ =>
    intro x p k q h
    cases p with
    | nil => exact nilC _ _ _ _ h
    | cons s p => simp [getT] at h

theorem getC_det : ∀ (c : TV) (p : Path) (k : TV → Option ρ) (r : ρ), getC c p k = some r → ∃ y, k y = some r ∧ ∀ {σ : Type} (k' : TV → Option σ), getC c p k' = k' y := by
  have nilC : ∀ (c : TV) (k : TV → Option ρ) (r : ρ), getC c [] k = some r → ∃ y, k y = some r ∧ ∀ {σ : Type} (k' : TV → Option σ), getC c [] k' = k' y := by
    intro c k r h
    have e : ∀ {σ : Type} (k' : TV → Option σ), getC c [] k' = k' c := by intro σ k'; cases c <;> rfl
    rw [e] at h
    exact ⟨c, h, e⟩
  intro c
  induction c with
  | own t x =>
    intro p k r h
    cases p with
    | nil => exact nilC _ _ _ h
    | cons s p =>
      simp only [getC] at h
      obtain ⟨u, y, h1, h2⟩ := getT_det _ _ _ _ _ h
      exact ⟨_, h1, fun k' => by simp only [getC]; exact h2 _⟩
  | dat t x =>
    intro p k r h
    cases p with
    | nil => exact nilC _ _ _ h
    | cons s p =>
      simp only [getC] at h
      split at h
      · cases h
      · rename_i hd
        obtain ⟨u, y, h1, h2⟩ := getT_det _ _ _ _ _ h
        exact ⟨_, h1, fun k' => by simp only [getC]; rw [if_neg hd]; exact h2 _⟩
  | cons a d iha ihd =>
    intro p k r h
    match p, h with
    | [], h => exact nilC _ _ _ h
    | .i n :: p, h => simp [getC] at h
    | .f 0 :: p, h =>
      obtain ⟨y, h1, h2⟩ := iha p k r (by simpa only [getC] using h)
      exact ⟨y, h1, fun k' => by simp only [getC]; exact h2 k'⟩
    | .f (n + 1) :: p, h =>
      obtain ⟨y, h1, h2⟩ := ihd (.f n :: p) k r (by simpa only [getC] using h)
      exact ⟨y, h1, fun k' => by simp only [getC]; exact h2 k'⟩
  | _ =>
    intro p k r h
    cases p with
    | nil => exact nilC _ _ _ h
    | cons s p => simp [getC] at h

theorem sliceD_det {t : St} {T : Ty} {v : TV} {k : List T.den → Option ρ} {r : ρ} (h : sliceD t T v k = some r) :
    ∃ xs, k xs = some r ∧ ∀ (s : St), Ag s t v → ∀ {σ : Type} (k' : List T.den → Option σ), sliceD s T v k' = k' xs := by
  cases v with
  | nil => exact ⟨[], h, fun s ha σ k' => rfl⟩
  | dat u x =>
    simp only [sliceD] at h
    split at h
    · rename_i y hy
      exact ⟨y, h, fun s ha σ k' => by simp only [sliceD, hy]⟩
    · cases h
  | sl b p =>
    simp only [sliceD] at h
    obtain ⟨x, h1, _, h2⟩ := withBox_det h
    obtain ⟨c, h3, h4⟩ := getC_det _ _ _ _ h1
    split at h3
    · rename_i u y
      split at h3
      · rename_i z hz
        exact ⟨z, h3, fun s ha σ k' => by simp only [sliceD]; rw [h2 s (ha _ (by simp [TV.refs])), h4]; simp only [hz]⟩
      · cases h3
    · cases h3
  | slw b p lo n =>
    simp only [sliceD] at h
    obtain ⟨x, h1, _, h2⟩ := withBox_det h
    obtain ⟨c, h3, h4⟩ := getC_det _ _ _ _ h1
    split at h3
    · rename_i u y
      split at h3
      · rename_i z hz
        exact ⟨_, h3, fun s ha σ k' => by simp only [sliceD]; rw [h2 s (ha _ (by simp [TV.refs])), h4]; simp only [hz]⟩
      · cases h3
    · cases h3
  | _ => simp [sliceD] at h

theorem lenD_det {t : St} {v : TV} {k : Nat → Option ρ} {r : ρ} (h : lenD t v k = some r) :
    ∃ n, k n = some r ∧ ∀ (s : St), Ag s t v → ∀ {σ : Type} (k' : Nat → Option σ), lenD s v k' = k' n := by
  cases v with
  | nil => exact ⟨0, h, fun s ha σ k' => rfl⟩
  | dat u x =>
    cases u with
    | slice u => exact ⟨_, h, fun s ha σ k' => rfl⟩
    | _ => simp [lenD] at h
  | sl b p =>
    simp only [lenD] at h
    obtain ⟨x, h1, _, h2⟩ := withBox_det h
    obtain ⟨c, h3, h4⟩ := getC_det _ _ _ _ h1
    split at h3
    · exact ⟨_, h3, fun s ha σ k' => by simp only [lenD]; rw [h2 s (ha _ (by simp [TV.refs])), h4]⟩
    · cases h3
  | slw b p lo n => exact ⟨n, h, fun s ha σ k' => rfl⟩
  | _ => simp [lenD] at h

theorem Ag.fst {s t : St} {a d : TV} (h : Ag s t (.cons a d)) : Ag s t a := fun b hb => h b (by simp [TV.refs, hb])
theorem Ag.snd {s t : St} {a d : TV} (h : Ag s t (.cons a d)) : Ag s t d := fun b hb => h b (by simp [TV.refs, hb])

theorem readR_det {t : St} : ∀ (T : Ty) (v : TV) (k : T.den → Option ρ) (r : ρ), readR t T v k = some r → ∃ x, k x = some r ∧ ∀ (s : St), Ag s t v → ∀ {σ : Type} (k' : T.den → Option σ), readR s T v k' = k' x := by
  have dat : ∀ (T u : Ty) (x : u.den) (k : T.den → Option ρ) (r : ρ), (∀ {σ : Type} (w : St) (k : T.den → Option σ), readR w T (.dat u x) k = match castTo u T x with
    | some y => k y
    | none => none) → readR t T (.dat u x) k = some r → ∃ x_1, k x_1 = some r ∧ ∀ (s : St), Ag s t (.dat u x) → ∀ {σ : Type} (k' : T.den → Option σ), readR s T (.dat u x) k' = k' x_1 := by
    intro T u x k r e h
    rw [e] at h
    obtain ⟨y, h1, h2⟩ := castTo_det h
    exact ⟨y, h1, fun s ha σ k' => by rw [e]; exact h2 k'⟩
  intro T
  induction T with
  | slice T _ =>
    intro v k r h
    simp only [readR] at h
    obtain ⟨xs, h1, h2⟩ := sliceD_det h
    exact ⟨xs, h1, fun s ha σ k' => by simp only [readR]; exact h2 s ha k'⟩
  | cons T U ihT ihU =>
    intro v k r h
    cases v with
    | cons a d =>
      simp only [readR] at h
      obtain ⟨x, h1, h2⟩ := ihT a _ r h
      obtain ⟨y, h3, h4⟩ := ihU d _ r h1
      exact ⟨(x, y), h3, fun s ha σ k' => by simp only [readR]; rw [h2 s ha.fst, h4 s ha.snd]⟩
    | dat u x => exact dat _ u x k r (fun w k => rfl) h
    | _ => simp [readR] at h
  | unit =>
    intro v k r h
    cases v with
    | unit => exact ⟨(), h, fun s ha σ k' => rfl⟩
    | dat u x => exact dat _ u x k r (fun w k => rfl) h
    | _ => simp [readR] at h
  | _ =>
    intro v k r h
    cases v with
    | dat u x => exact dat _ u x k r (fun w k => rfl) h
    | _ => simp [readR] at h

theorem contR_det : ∀ (T : Ty) (v : TV) (k : T.den → Option ρ) (r : ρ), contR T v k = some r → ∃ x, k x = some r ∧ ∀ {σ : Type} (k' : T.den → Option σ), contR T v k' = k' x := by
  have dat : ∀ (T u : Ty) (x : u.den) (c : TV) (k : T.den → Option ρ) (r : ρ), (∀ {σ : Type} (k : T.den → Option σ), contR T c k = match castTo u T x with
    | some y => k y
    | none => none) → contR T c k = some r → ∃ x_1, k x_1 = some r ∧ ∀ {σ : Type} (k' : T.den → Option σ), contR T c k' = k' x_1 := by
    intro T u x c k r e h
    rw [e] at h
    obtain ⟨y, h1, h2⟩ := castTo_det h
    exact ⟨y, h1, fun k' => by rw [e]; exact h2 k'⟩
  intro T
  induction T with
  | slice T _ =>
    intro v k r h
    cases v with
    | own u x => exact dat _ u x _ k r (fun k => rfl) h
    | dat u x => exact dat _ u x _ k r (fun k => rfl) h
    | nil => exact ⟨[], h, fun k' => rfl⟩
    | _ => simp [contR] at h
  | cons T U ihT ihU =>
    intro v k r h
    cases v with
    | own u x => exact dat _ u x _ k r (fun k => rfl) h
    | dat u x => exact dat _ u x _ k r (fun k => rfl) h
    | cons a d =>
      simp only [contR] at h
      obtain ⟨x, h1, h2⟩ := ihT a _ r h
      obtain ⟨y, h3, h4⟩ := ihU d _ r h1
      exact ⟨(x, y), h3, fun k' => by simp only [contR]; rw [h2, h4]⟩
    | _ => simp [contR] at h
  | unit =>
    intro v k r h
    cases v with
    | own u x => exact dat _ u x _ k r (fun k => rfl) h
    | dat u x => exact dat _ u x _ k r (fun k => rfl) h
    | unit => exact ⟨(), h, fun k' => rfl⟩
    | _ => simp [contR] at h
  | _ =>
    intro v k r h
    cases v with
    | own u x => exact dat _ u x _ k r (fun k => rfl) h
    | dat u x => exact dat _ u x _ k r (fun k => rfl) h
    | _ => simp [contR] at h

theorem asInt_det {v : TV} {k : IntKind → Int → Option ρ} {r : ρ} (h : asInt v k = some r) : ∃ kd n, v = .dat (.int kd) n ∧ k kd n = some r := by
  unfold asInt at h
  split at h
  · exact ⟨_, _, rfl, h⟩
  · cases h

theorem idx_det {n : Nat} {i : Int} {k : Nat → Option ρ} {r : ρ} (h : idx n i k = some r) : ∃ m, k m = some r ∧ ∀ {σ : Type} (k' : Nat → Option σ), idx n i k' = k' m := by
  unfold idx at h
  split at h
  · rename_i m
    split at h
    · rename_i hb; exact ⟨m, h, fun k' => by unfold idx; simp only [hb]⟩
    · cases h
  · cases h

theorem cmpInt_det {op : BinOp} {kd : IntKind} {x y : Int} {k : TV → Option ρ} {r : ρ} (h : binInt op kd x y k = some r) : ∃ v, k v = some r ∧ ∀ {σ : Type} (k' : TV → Option σ), binInt op kd x y k' = k' v := by
  unfold binInt at h ⊢
  split at h
  all_goals first
    | exact ⟨_, h, fun k' => rfl⟩
    | (split at h <;> first | exact ⟨_, h, fun k' => rfl⟩ | cases h | (rename_i hb; exact ⟨_, h, fun k' => by simp only [hb]⟩))
    | skip

theorem binK_det {op : BinOp} {T : Option Ty} {a b : TV} {k : TV → Option ρ} {r : ρ} (h : binK op T a b k = some r) : ∃ v, k v = some r ∧ ∀ {σ : Type} (k' : TV → Option σ), binK op T a b k' = k' v := by
  unfold binK at h ⊢
  split at h
  · split at h
    · rename_i hc
      obtain ⟨v, h1, h2⟩ := cmpInt_det h
      exact ⟨v, h1, fun k' => by rw [if_pos hc]; exact h2 k'⟩
    · cases h
  · split at h
    · split at h
      · rename_i hc; exact ⟨_, h, fun k' => by rw [if_pos hc]⟩
      · cases h
    · exact ⟨_, h, fun k' => rfl⟩
    · exact ⟨_, h, fun k' => rfl⟩
    · cases h
  · split at h
    · cases h
    · rename_i hc
      split at h
      · exact ⟨_, h, fun k' => by rw [if_neg hc]⟩
      · exact ⟨_, h, fun k' => by rw [if_neg hc]⟩
      · cases h
  · split at h
    · rename_i hc
      split at h
      · rename_i y hy
        split at h
        · exact ⟨_, h, fun k' => by (rw [if_pos hc]) <;> simp only [hy]⟩
        · exact ⟨_, h, fun k' => by (rw [if_pos hc]) <;> simp only [hy]⟩
        · cases h
      · cases h
    · cases h
  · cases h
end
end Go.TM
/-! ## ToF -/
namespace Go.TM
set_option autoImplicit false
section
variable {ρ σ : Type} {E : Env}

/-- a state with one more value and some more boxes -/
def St.step (s : St) (dst : Option Nat) (v : TV) (new : List (Nat × Box)) : St :=
  match dst with
  | some d => { tmps := (d, v) :: s.tmps, boxes := new ++ s.boxes }
  | none => { tmps := s.tmps, boxes := new ++ s.boxes }

theorem putK_step (o : Oper) (s : St) (k : St → Option ρ) (v : TV) : putK o s k v = k (s.step o.dst v []) := by
  unfold putK St.step
  cases o.dst <;> rfl

/-- what o does to t it does to each state that is like t -/
def Loc (E : Env) (o : Oper) (t : St) (v : TV) (new : List (Nat × Box)) : Prop :=
  (∀ x ∈ new, ∃ d, o.dst = some d ∧ x.1 / 32 = d ∧ t.box x.1 = none) ∧
  ∀ (s : St), (∀ x ∈ o.op.operands.toList, s.ev x = t.ev x ∧ Ag s t (t.ev x)) → (∀ x ∈ new, s.box x.1 = none) → ∀ {σ : Type} (k : St → Option σ), opK E o s k = k (s.step o.dst v new)

theorem tyK_det {t : Nat} {k : Ty → Option ρ} {r : ρ} (h : tyK E t k = some r) : ∃ T, k T = some r ∧ ∀ {σ : Type} (k' : Ty → Option σ), tyK E t k' = k' T := by
  unfold tyK at h
  split at h
  · rename_i T hT; exact ⟨T, h, fun k' => by unfold tyK; rw [hT]⟩
  · cases h

theorem loadK_det {t : St} {T : Ty} {a : TV} {k : TV → Option ρ} {r : ρ} (h : loadK t T a k = some r) : ∃ v, k v = some r ∧ ∀ (s : St), Ag s t a → ∀ {σ : Type} (k' : TV → Option σ), loadK s T a k' = k' v := by
  cases a with
  | ref b p =>
    simp only [loadK] at h
    obtain ⟨x, h1, _, h2⟩ := withBox_det h
    split at h1
    · rename_i hc
      obtain ⟨c, h3, h4⟩ := getC_det _ _ _ _ h1
      exact ⟨_, h3, fun s ha σ k' => by simp only [loadK]; rw [h2 s (ha _ (by simp [TV.refs])), if_pos hc, h4]⟩
    · cases h1
  | rop u x =>
    simp only [loadK] at h
    split at h
    · rename_i hc; exact ⟨_, h, fun s ha σ k' => by simp only [loadK]; rw [if_pos hc]⟩
    · cases h
  | _ => simp [loadK] at h

theorem indexAddrK_det {t : St} {T : Ty} {x i : TV} {k : TV → Option ρ} {r : ρ} (h : indexAddrK t T x i k = some r) : ∃ v, k v = some r ∧ ∀ (s : St), Ag s t x → ∀ {σ : Type} (k' : TV → Option σ), indexAddrK s T x i k' = k' v := by
  unfold indexAddrK at h
  obtain ⟨kd, n, rfl, h0⟩ := asInt_det h
  clear h
  cases x with
  | dat u xs =>
    cases u with
    | slice u =>
      simp only at h0
      split at h0
      · rename_i hc
        split at h0
        · rename_i a hg; exact ⟨_, h0, fun s ha σ k' => by simp only [indexAddrK, asInt]; rw [if_pos hc]; simp only [hg]⟩
        · cases h0
      · cases h0
    | _ => simp at h0
  | sl b p =>
    simp only at h0
    obtain ⟨x, h1, _, h2⟩ := withBox_det h0
    split at h1
    · rename_i hc
      obtain ⟨m, h3, h4⟩ := lenD_det h1
      obtain ⟨j, h5, h6⟩ := idx_det h3
      exact ⟨_, h5, fun s ha σ k' => by simp only [indexAddrK, asInt]; rw [h2 s (ha _ (by simp [TV.refs])), if_pos hc, h4 s ha, h6]⟩
    · cases h1
  | slw b p lo n =>
    simp only at h0
    obtain ⟨x, h1, _, h2⟩ := withBox_det h0
    split at h1
    · rename_i hc
      obtain ⟨j, h5, h6⟩ := idx_det h1
      exact ⟨_, h5, fun s ha σ k' => by simp only [indexAddrK, asInt]; rw [h2 s (ha _ (by simp [TV.refs])), if_pos hc, h6]⟩
    · cases h1
  | ref b p =>
    simp only at h0
    obtain ⟨x, h1, _, h2⟩ := withBox_det h0
    split at h1
    · rename_i hc
      split at h1
      · split at h1
        · cases h1
        · rename_i hd
          obtain ⟨j, h5, h6⟩ := idx_det h1
          exact ⟨_, h5, fun s ha σ k' => by simp only [indexAddrK, asInt]; rw [h2 s (ha _ (by simp [TV.refs])), if_pos hc, if_neg hd, h6]⟩
      · cases h1
    · cases h1
  | _ => simp at h0

theorem boundsK_det {n : Nat} {lo hi : Option TV} {k : Nat → Nat → Option ρ} {r : ρ} (h : boundsK n lo hi k = some r) : ∃ l g, k l g = some r ∧ ∀ {σ : Type} (k' : Nat → Nat → Option σ), boundsK n lo hi k' = k' l g := by
  unfold boundsK at h
  split at h
  · split at h
    · exact ⟨_, _, h, fun k' => rfl⟩
    · obtain ⟨kd, m, rfl, h0⟩ := asInt_det h
      obtain ⟨j, h5, h6⟩ := idx_det h0
      exact ⟨_, _, h5, fun k' => by simp only [boundsK, asInt]; rw [h6]⟩
  · obtain ⟨kd, m, rfl, h0⟩ := asInt_det h
    obtain ⟨j, h5, h6⟩ := idx_det h0
    split at h5
    · exact ⟨_, _, h5, fun k' => by simp only [boundsK, asInt]; rw [h6]⟩
    · obtain ⟨kd2, m2, rfl, h7⟩ := asInt_det h5
      obtain ⟨j2, h8, h9⟩ := idx_det h7
      exact ⟨_, _, h8, fun k' => by simp only [boundsK, asInt]; rw [h6, h9]⟩

theorem sliceK_det {t : St} {T : Ty} {x : TV} {lo hi : Option TV} {k : TV → Option ρ} {r : ρ} (h : sliceK t T x lo hi k = some r) : ∃ v, k v = some r ∧ ∀ (s : St), Ag s t x → ∀ {σ : Type} (k' : TV → Option σ), sliceK s T x lo hi k' = k' v := by
  cases T with
  | str =>
    simp only [sliceK] at h
    split at h
    · obtain ⟨l, g, h1, h2⟩ := boundsK_det h
      exact ⟨_, h1, fun s ha σ k' => by simp only [sliceK]; rw [h2]⟩
    · cases h
  | slice T =>
    simp only [sliceK] at h
    obtain ⟨n, h1, h2⟩ := lenD_det h
    obtain ⟨l, g, h3, h4⟩ := boundsK_det h1
    cases x with
    | dat u xs =>
      cases u with
      | slice u =>
        simp only at h3
        split at h3
        · rename_i hc; exact ⟨_, h3, fun s ha σ k' => by simp only [sliceK]; rw [h2 s ha, h4, if_pos hc]⟩
        · cases h3
      | _ => simp at h3
    | sl b p =>
      simp only at h3
      obtain ⟨y, h5, _, h6⟩ := withBox_det h3
      split at h5
      · rename_i hc
        split at h5
        · rename_i hq; exact ⟨_, h5, fun s ha σ k' => by simp only [sliceK]; rw [h2 s ha, h4, h6 s (ha _ (by simp [TV.refs])), if_pos hc, hq]⟩
        · rename_i hq; exact ⟨_, h5, fun s ha σ k' => by simp only [sliceK]; rw [h2 s ha, h4, h6 s (ha _ (by simp [TV.refs])), if_pos hc, hq]⟩
      · cases h5
    | slw b p lo0 n0 =>
      simp only at h3
      obtain ⟨y, h5, _, h6⟩ := withBox_det h3
      split at h5
      · rename_i hc; exact ⟨_, h5, fun s ha σ k' => by simp only [sliceK]; rw [h2 s ha, h4, h6 s (ha _ (by simp [TV.refs])), if_pos hc]⟩
      · cases h5
    | nil => exact ⟨_, h3, fun s ha σ k' => by simp only [sliceK]; rw [h2 s ha, h4]⟩
    | _ => simp at h3
  | _ => simp [sliceK] at h

theorem buildP_det {t : St} : ∀ (T : Ty) (n : Nat) (ps : List (Nat × Operand)) (k : TV → Option ρ) (r : ρ), buildP t T n ps k = some r →
    ∃ v, k v = some r ∧ (∀ b ∈ v.refs, ∃ x ∈ ps, b ∈ (t.ev x.2).refs) ∧ ∀ (s : St), (∀ x ∈ ps, s.ev x.2 = t.ev x.2) → ∀ {σ : Type} (k' : TV → Option σ), buildP s T n ps k' = k' v := by
  have zref : ∀ T : Ty, (zeroTV T).refs = [] := by
    intro T
    induction T with
    | cons a d iha ihd => simp only [zeroTV, TV.refs, iha, ihd]; rfl
    | _ => rfl
  intro T
  induction T with
  | cons T U _ ihU =>
    intro n ps k r h
    match ps, h with
    | [], h =>
      simp only [buildP] at h
      obtain ⟨v, h1, h0, h2⟩ := ihU _ _ _ r h
      refine ⟨_, h1, fun b hb => ?_, fun s he σ k' => by simp only [buildP]; rw [h2 s he]⟩
      simp only [TV.refs, zref, List.nil_append] at hb
      exact h0 b hb
    | (i, x) :: ps, h =>
      simp only [buildP] at h
      split at h
      · rename_i hi
        split at h
        · rename_i hc
          obtain ⟨v, h1, h0, h2⟩ := ihU _ _ _ r h
          refine ⟨_, h1, fun b hb => ?_, fun s he σ k' => by have e := he (i, x) (by simp); simp only at e; simp only [buildP, hi]; rw [e, if_pos hc, h2 s (fun y hy => he y (by simp [hy]))]⟩
          simp only [TV.refs, List.mem_append] at hb
          rcases hb with hb | hb
          · exact ⟨(i, x), by simp, hb⟩
          · obtain ⟨y, hy, hb⟩ := h0 b hb; exact ⟨y, by simp [hy], hb⟩
        · cases h
      · rename_i hi
        obtain ⟨v, h1, h0, h2⟩ := ihU _ _ _ r h
        refine ⟨_, h1, fun b hb => ?_, fun s he σ k' => by simp only [buildP, hi]; rw [h2 s he]⟩
        simp only [TV.refs, zref, List.nil_append] at hb
        exact h0 b hb
  | unit =>
    intro n ps k r h
    match ps, h with
    | [], h => exact ⟨_, h, fun b hb => by simp [TV.refs] at hb, fun s he σ k' => rfl⟩
    | _ :: _, h => simp [buildP] at h
  | _ => intro n ps k r h; simp [buildP] at h

theorem lk_app {α : Type} (l m : List (Nat × α)) (n : Nat) : lk (l ++ m) n = (lk l n).or (lk m n) := by
  induction l with
  | nil => rfl
  | cons x l ih =>
    obtain ⟨k, v⟩ := x
    rw [List.cons_append, lk_cons, lk_cons, ih]
    split <;> rfl

theorem lk_none {α : Type} {l : List (Nat × α)} {n : Nat} (h : ∀ x ∈ l, x.1 ≠ n) : lk l n = none := by
  induction l with
  | nil => rfl
  | cons x l ih =>
    obtain ⟨k, v⟩ := x
    rw [lk_cons, if_neg (h (k, v) (by simp)), ih (fun y hy => h y (by simp [hy]))]

theorem newBox_det {t : St} {id : Nat} {x : Box} {k : St → Option ρ} {r : ρ} (h : newBox t id x k = some r) :
    id % 32 ≠ 0 ∧ t.box id = none ∧ k { t with boxes := (id, x) :: t.boxes } = some r ∧ ∀ (s : St), s.box id = none → ∀ {σ : Type} (k' : St → Option σ), newBox s id x k' = k' { s with boxes := (id, x) :: s.boxes } := by
  unfold newBox at h
  split at h
  · cases h
  · rename_i hb
    have hm : id % 32 ≠ 0 := by
      intro e
      rw [e] at hb
      cases hb
    split at h
    · cases h
    · rename_i hn
      exact ⟨hm, hn, h, fun s hs σ k' => by unfold newBox; rw [hb]; simp only [hs]⟩
end
end Go.TM
/-! ## ToG -/
namespace Go.TM
set_option autoImplicit false
section
variable {ρ σ : Type} {E : Env}

/-- s is like t as far as o looks -/
def Like (o : Oper) (s t : St) : Prop := ∀ x ∈ o.op.operands.toList, s.ev x = t.ev x ∧ Ag s t (t.ev x)

/-- from the determined value of an operation that only puts -/
theorem loc_put {o : Oper} {t : St} {k : St → Option ρ} {r : ρ} {v : TV} (h : putK o t k v = some r)
    (hs : ∀ (s : St), Like o s t → ∀ {σ : Type} (k' : St → Option σ), opK E o s k' = putK o s k' v) :
    ∃ v new, k (t.step o.dst v new) = some r ∧ Loc E o t v new :=
  ⟨v, [], by rw [putK_step] at h; exact h, fun x hx => (by cases hx), fun s ha _ σ k' => by rw [hs s ha, putK_step]⟩

theorem newSl_det {d : Nat} {T : Ty} {xs : List T.den} {t : St} {k : St → Option ρ} {r : ρ} (h : newSl t d T xs k = some r) :
    ∃ v new, k (t.step (some d) v new) = some r ∧ (∀ x ∈ new, ∃ d', some d = some d' ∧ x.1 / 32 = d' ∧ t.box x.1 = none) ∧ ∀ (s : St), (∀ x ∈ new, s.box x.1 = none) → ∀ {σ : Type} (k' : St → Option σ), newSl s d T xs k' = k' (s.step (some d) v new) := by
  unfold newSl at h
  obtain ⟨h1, h2, h3, h4⟩ := newBox_det h
  refine ⟨.sl (d * 32 + 1) [], [(d * 32 + 1, ⟨.slice T, true, false, .own (.slice T) xs⟩)], h3, fun x hx => ?_, fun s hs σ k' => ?_⟩
  · simp only [List.mem_singleton] at hx
    subst hx
    exact ⟨d, rfl, by show (d * 32 + 1) / 32 = d; omega, h2⟩
  · unfold newSl
    rw [h4 s (hs _ (List.mem_singleton.2 rfl))]
    rfl

theorem newVar_det {d : Nat} {T : Ty} {c : TV} {t : St} {k : St → Option ρ} {r : ρ} (h : newVar t d T c k = some r) :
    ∃ v new, k (t.step (some d) v new) = some r ∧ (∀ x ∈ new, ∃ d', some d = some d' ∧ x.1 / 32 = d' ∧ t.box x.1 = none) ∧ ∀ (s : St), (∀ x ∈ new, s.box x.1 = none) → ∀ {σ : Type} (k' : St → Option σ), newVar s d T c k' = k' (s.step (some d) v new) := by
  unfold newVar at h
  obtain ⟨h1, h2, h3, h4⟩ := newBox_det h
  refine ⟨.ref (d * 32 + 1) [], [(d * 32 + 1, ⟨T, false, false, c⟩)], h3, fun x hx => ?_, fun s hs σ k' => ?_⟩
  · simp only [List.mem_singleton] at hx
    subst hx
    exact ⟨d, rfl, by show (d * 32 + 1) / 32 = d; omega, h2⟩
  · unfold newVar
    rw [h4 s (hs _ (List.mem_singleton.2 rfl))]
    rfl

theorem op_mem {o : Oper} {op : Op} (ho : o.op = op) {x : Operand} (hx : x ∈ op.operands.toList) : x ∈ o.op.operands.toList := by rw [ho]; exact hx

theorem opK_local {o : Oper} (hp : pureOp o.op = true) {t : St} {k : St → Option ρ} {r : ρ} (h : opK E o t k = some r) :
    ∃ v new, k (t.step o.dst v new) = some r ∧ Loc E o t v new := by
  cases ho : o.op with
  | move x =>
    have m : x ∈ o.op.operands.toList := op_mem ho (by simp [Op.operands])
    have e : ∀ {σ : Type} (s : St) (k : St → Option σ), opK E o s k = putK o s k (s.ev x) := by intro σ s k; unfold opK; rw [ho]
    rw [e] at h
    exact loc_put h fun s ha σ k' => by rw [e, (ha x m).1]
  | assign x =>
    have m : x ∈ o.op.operands.toList := op_mem ho (by simp [Op.operands])
    have e : ∀ {σ : Type} (s : St) (k : St → Option σ), opK E o s k = putK o s k (s.ev x) := by intro σ s k; unfold opK; rw [ho]
    rw [e] at h
    exact loc_put h fun s ha σ k' => by rw [e, (ha x m).1]
  | pick c x y =>
    have mc : c ∈ o.op.operands.toList := op_mem ho (by simp [Op.operands])
    have mx : x ∈ o.op.operands.toList := op_mem ho (by simp [Op.operands])
    have my : y ∈ o.op.operands.toList := op_mem ho (by simp [Op.operands])
    unfold opK at h
    rw [ho] at h
    simp only at h
    split at h
    · rename_i b hb
      split at h
      · exact loc_put h fun s ha σ k' => by unfold opK; rw [ho]; simp only [(ha c mc).1, (ha x mx).1, hb]
      · exact loc_put h fun s ha σ k' => by unfold opK; rw [ho]; simp only [(ha c mc).1, (ha y my).1, hb]
    · cases h
  | load T x =>
    have m : x ∈ o.op.operands.toList := op_mem ho (by simp [Op.operands])
    unfold opK at h
    rw [ho] at h
    simp only at h
    obtain ⟨U, h1, h2⟩ := tyK_det h
    obtain ⟨v, h3, h4⟩ := loadK_det h1
    exact loc_put h3 fun s ha σ k' => by unfold opK; rw [ho]; simp only; rw [h2, (ha x m).1, h4 s (ha x m).2]
  | nilCheck x =>
    have m : x ∈ o.op.operands.toList := op_mem ho (by simp [Op.operands])
    unfold opK at h
    rw [ho] at h
    simp only at h
    split at h
    all_goals first
      | cases h
      | (rename_i hv; exact loc_put h fun s ha σ k' => by unfold opK; rw [ho]; simp only; rw [(ha x m).1, hv])
  | binOp op T x y U =>
    have mx : x ∈ o.op.operands.toList := op_mem ho (by simp [Op.operands])
    have my : y ∈ o.op.operands.toList := op_mem ho (by simp [Op.operands])
    unfold opK at h
    rw [ho] at h
    simp only at h
    obtain ⟨v, h3, h4⟩ := binK_det h
    exact loc_put h3 fun s ha σ k' => by unfold opK; rw [ho]; simp only; rw [(ha x mx).1, (ha y my).1, h4]
  | unOp op T x =>
    have m : x ∈ o.op.operands.toList := op_mem ho (by simp [Op.operands])
    unfold opK at h
    rw [ho] at h
    simp only at h
    split at h
    · rename_i hv
      exact loc_put h fun s ha σ k' => by unfold opK; rw [ho]; simp only; rw [(ha x m).1, hv]
    · rename_i hv
      obtain ⟨v, h3, h4⟩ := cmpInt_det h
      exact loc_put h3 fun s ha σ k' => by unfold opK; rw [ho]; simp only; rw [(ha x m).1, hv]; simp only; rw [h4]
    · cases h
  | convert u T x =>
    have m : x ∈ o.op.operands.toList := op_mem ho (by simp [Op.operands])
    unfold opK at h
    rw [ho] at h
    simp only at h
    obtain ⟨U, h1, h2⟩ := tyK_det h
    obtain ⟨V, h3, h4⟩ := tyK_det h1
    split at h3
    · rename_i hv
      exact loc_put h3 fun s ha σ k' => by unfold opK; rw [ho]; simp only; rw [h2, h4, (ha x m).1, hv]
    · rename_i hv
      obtain ⟨v, h5, h6⟩ := sliceD_det h3
      exact loc_put h5 fun s ha σ k' => by
        unfold opK; rw [ho]; simp only; rw [h2, h4, (ha x m).1]
        exact h6 s (ha x m).2 _
    · cases h3
  | slice T x lo hi mx =>
    have m : x ∈ o.op.operands.toList := op_mem ho (by simp [Op.operands])
    have ml : ∀ y, lo = some y → y ∈ o.op.operands.toList := fun y e => op_mem ho (by subst e; simp [Op.operands])
    have mh : ∀ y, hi = some y → y ∈ o.op.operands.toList := fun y e => op_mem ho (by subst e; simp [Op.operands])
    unfold opK at h
    rw [ho] at h
    simp only at h
    split at h
    · obtain ⟨U, h1, h2⟩ := tyK_det h
      obtain ⟨v, h3, h4⟩ := sliceK_det h1
      exact loc_put h3 fun s ha σ k' => by
        have e1 : lo.map s.ev = lo.map t.ev := by
          cases lo with
          | none => rfl
          | some y => simp only [Option.map_some]; rw [(ha y (ml y rfl)).1]
        have e2 : hi.map s.ev = hi.map t.ev := by
          cases hi with
          | none => rfl
          | some y => simp only [Option.map_some]; rw [(ha y (mh y rfl)).1]
        unfold opK; rw [ho]; simp only; rw [h2, (ha x m).1, e1, e2, h4 s (ha x m).2]
    · cases h
  | fieldAddr T x n =>
    have m : x ∈ o.op.operands.toList := op_mem ho (by simp [Op.operands])
    unfold opK at h
    rw [ho] at h
    simp only at h
    obtain ⟨U, h1, h2⟩ := tyK_det h
    split at h1
    · rename_i b p hv
      obtain ⟨y, h3, _, h4⟩ := withBox_det h1
      split at h3
      · rename_i hc
        split at h3
        · rename_i hf
          exact loc_put h3 fun s ha σ k' => by
            have := (ha x m).2
            rw [hv] at this
            unfold opK; rw [ho]; simp only; rw [h2, (ha x m).1, hv]; simp only
            rw [h4 s (this b (by simp [TV.refs])), if_pos hc, hf]
        · cases h3
      · cases h3
    · rename_i hv
      split at h1
      · rename_i hc
        obtain ⟨u, y, h3, h4⟩ := getT_det _ _ _ _ _ h1
        exact loc_put h3 fun s ha σ k' => by
          unfold opK; rw [ho]; simp only; rw [h2, (ha x m).1, hv]; simp only
          rw [if_pos hc, h4]
      · cases h1
    · cases h1
  | field T x n =>
    have m : x ∈ o.op.operands.toList := op_mem ho (by simp [Op.operands])
    unfold opK at h
    rw [ho] at h
    simp only at h
    obtain ⟨U, h1, h2⟩ := tyK_det h
    split at h1
    · rename_i hv
      split at h1
      · rename_i hc
        obtain ⟨u, y, h3, h4⟩ := getT_det _ _ _ _ _ h1
        exact loc_put h3 fun s ha σ k' => by
          unfold opK; rw [ho]; simp only; rw [h2, (ha x m).1, hv]; simp only
          rw [if_pos hc, h4]
      · cases h1
    · cases h1
  | indexAddr T x i =>
    have mx : x ∈ o.op.operands.toList := op_mem ho (by simp [Op.operands])
    have mi : i ∈ o.op.operands.toList := op_mem ho (by simp [Op.operands])
    unfold opK at h
    rw [ho] at h
    simp only at h
    obtain ⟨U, h1, h2⟩ := tyK_det h
    obtain ⟨v, h3, h4⟩ := indexAddrK_det h1
    exact loc_put h3 fun s ha σ k' => by unfold opK; rw [ho]; simp only; rw [h2, (ha x mx).1, (ha i mi).1, h4 s (ha x mx).2]
  | index T x i =>
    have mx : x ∈ o.op.operands.toList := op_mem ho (by simp [Op.operands])
    have mi : i ∈ o.op.operands.toList := op_mem ho (by simp [Op.operands])
    unfold opK at h
    rw [ho] at h
    simp only at h
    obtain ⟨U, h1, h2⟩ := tyK_det h
    obtain ⟨kd, n, h3, h4⟩ := asInt_det h1
    split at h4
    · rename_i hv
      split at h4
      · rename_i hg
        exact loc_put h4 fun s ha σ k' => by unfold opK; rw [ho]; simp only; rw [h2, (ha x mx).1, (ha i mi).1, h3]; simp only [asInt]; rw [hv]; simp only [hg]
      · cases h4
    · rename_i hv
      split at h4
      · rename_i hc
        split at h4
        · rename_i hg
          exact loc_put h4 fun s ha σ k' => by unfold opK; rw [ho]; simp only; rw [h2, (ha x mx).1, (ha i mi).1, h3]; simp only [asInt]; rw [hv]; simp only [hg]; rw [if_pos hc]
        · cases h4
      · cases h4
    · cases h4
  | extract x n =>
    have m : x ∈ o.op.operands.toList := op_mem ho (by simp [Op.operands])
    unfold opK at h
    rw [ho] at h
    simp only at h
    split at h
    · rename_i hv
      split at h
      · rename_i hn
        exact loc_put h fun s ha σ k' => by unfold opK; rw [ho]; simp only; rw [(ha x m).1, hv]; simp only [hn]
      · cases h
    · cases h
  | build T ps =>
    have m : ∀ x ∈ ps.toList, x.2 ∈ o.op.operands.toList := fun x hx => op_mem ho (by
      simp only [Op.operands, Array.toList_map]
      exact List.mem_map.2 ⟨x, hx, rfl⟩)
    unfold opK at h
    rw [ho] at h
    simp only at h
    obtain ⟨U, h1, h2⟩ := tyK_det h
    split at h1
    · split at h1
      · rename_i hc
        obtain ⟨v, h3, hr, h4⟩ := buildP_det _ _ _ _ _ h1
        split at h3
        · rename_i hf
          obtain ⟨x, h5, h6⟩ := readR_det _ _ _ _ h3
          exact loc_put h5 fun s ha σ k' => by
            unfold opK; rw [ho]; simp only; rw [h2]; simp only
            rw [if_pos hc, h4 s (fun x hx => (ha x.2 (m x (mem_sortP hx))).1), if_pos hf, h6 s (fun b hb => by
              obtain ⟨x, hx, hb⟩ := hr b hb
              exact (ha x.2 (m x (mem_sortP hx))).2 b hb)]
        · rename_i hf
          exact loc_put h3 fun s ha σ k' => by
            unfold opK; rw [ho]; simp only; rw [h2]; simp only
            rw [if_pos hc, h4 s (fun x hx => (ha x.2 (m x (mem_sortP hx))).1), if_neg hf]
      · cases h1
    · split at h1
      · rename_i hl
        exact loc_put h1 fun s ha σ k' => by unfold opK; rw [ho]; simp only; rw [h2]; simp only [hl]
      · cases h1
    · cases h1
  | alloc T =>
    unfold opK at h
    rw [ho] at h
    simp only at h
    split at h
    rotate_left
    · cases h
    rename_i d hd
    obtain ⟨U, h1, h2⟩ := tyK_det h
    split at h1
    · rename_i hc
      obtain ⟨v, new, q1, q2, q3⟩ := newVar_det h1
      refine ⟨v, new, by rw [hd]; exact q1, by rw [hd]; exact q2, fun s ha hn σ k' => ?_⟩
      unfold opK; rw [ho]; simp only [hd]; rw [h2, if_pos hc, q3 s hn]
    · rename_i hc
      split at h1
      · obtain ⟨v, new, q1, q2, q3⟩ := newVar_det h1
        refine ⟨v, new, by rw [hd]; exact q1, by rw [hd]; exact q2, fun s ha hn σ k' => ?_⟩
        unfold opK; rw [ho]; simp only [hd]; rw [h2, if_neg hc]; simp only; rw [q3 s hn]
      · cases h1
  | makeSlice T n c =>
    have mn : n ∈ o.op.operands.toList := op_mem ho (by simp [Op.operands])
    have mc : c ∈ o.op.operands.toList := op_mem ho (by simp [Op.operands])
    unfold opK at h
    rw [ho] at h
    simp only at h
    split at h
    rotate_left
    · cases h
    rename_i d hd
    obtain ⟨U, h1, h2⟩ := tyK_det h
    split at h1
    · obtain ⟨kd, (i : Int), e1, h3⟩ := asInt_det h1
      obtain ⟨kd2, (j : Int), e2, h4⟩ := asInt_det h3
      match i, j, e1, e2, h4 with
      | .ofNat i, .ofNat j, e1, e2, h4 =>
        simp only at h4
        split at h4
        · rename_i hc
          obtain ⟨v, new, q1, q2, q3⟩ := newSl_det h4
          refine ⟨v, new, by rw [hd]; exact q1, by rw [hd]; exact q2, fun s ha hn σ k' => ?_⟩
          unfold opK; rw [ho]; simp only [hd]; rw [h2]; simp only; rw [(ha n mn).1, (ha c mc).1, e1, e2]; simp only [asInt]; rw [if_pos hc, q3 s hn]
        · cases h4
      | .negSucc _, _, _, _, h4 => cases h4
      | .ofNat _, .negSucc _, _, _, h4 => cases h4
    · cases h1
  | call c =>
    cases hc : c.callee with
    | builtin b =>
      cases b with
      | len =>
        unfold opK at h
        rw [ho] at h
        simp only [hc] at h
        unfold builtinK at h
        split at h
        · rename_i T ts v _ hT hv
          obtain ⟨x, hargs, hxv⟩ : ∃ x, c.args.toList = [x] ∧ t.ev x = v := by
            match hl : c.args.toList, hv with
            | [x], hv =>
              simp only [List.map_cons, List.map_nil, List.cons.injEq, and_true] at hv
              exact ⟨x, rfl, hv⟩
            | [], hv => simp at hv
            | _ :: _ :: _, hv => simp at hv
          have m : x ∈ o.op.operands.toList := op_mem ho (by
            have : x ∈ c.args.toList := by rw [hargs]; simp
            simp only [Op.operands, Call.operands, hc, Array.toList_append]
            exact List.mem_append.2 (.inr this))
          split at h
          · rename_i hU
            obtain ⟨n, h3, h4⟩ := lenD_det h
            exact loc_put h3 fun s ha σ k' => by
              have e := ha x m
              rw [hxv] at e
              unfold opK; rw [ho]; simp only [hc]; unfold builtinK; rw [hT, hargs]; simp only [List.map_cons, List.map_nil, hU, e.1]; rw [h4 s e.2]
          · rename_i hU
            split at h
            · exact loc_put h fun s ha σ k' => by
                have e := ha x m
                rw [hxv] at e
                unfold opK; rw [ho]; simp only [hc]; unfold builtinK; rw [hT, hargs]; simp only [List.map_cons, List.map_nil, hU, e.1]
            · cases h
          · cases h
        · contradiction
        · contradiction
        · contradiction
        · cases h
      | _ => rw [ho] at hp; simp [pureOp, hc] at hp
    | _ => rw [ho] at hp; simp [pureOp, hc] at hp
  | _ => rw [ho] at hp; simp [pureOp] at hp
end
end Go.TM
/-! ## ToH -/
namespace Go.TM
set_option autoImplicit false
section
variable {ρ σ : Type} {E : Env}

theorem soft_no {m : PM} (h : m.soft = true) : m.lends = false ∧ m.gives = false := by cases m <;> simp [PM.soft] at h <;> exact ⟨rfl, rfl⟩

theorem passO_soft : ∀ (ms : List PM) (vs : List TV) (s : St) (k : St → List TV → (TV → TV) → Option ρ), (∀ m ∈ ms, m.soft = true) → ms.length = vs.length → passO s ms vs k = k s vs id := by
  intro ms
  induction ms with
  | nil =>
    intro vs s k _ hl
    cases vs with
    | nil => rfl
    | cons _ _ => simp at hl
  | cons m ms ih =>
    intro vs s k hm hl
    cases vs with
    | nil => simp at hl
    | cons v vs =>
      have h1 := hm m (by simp)
      have : passO s (m :: ms) (v :: vs) k = passO s ms vs fun s vs κ => k s (κ v :: vs) κ := by cases m <;> first | rfl | simp [PM.soft] at h1
      rw [this, ih vs s _ (fun m h => hm m (by simp [h])) (by simpa using hl)]
      rfl

theorem passM_soft : ∀ (ms : List PM) (vs : List TV) (s : St) (k : St → List TV → (TV → TV) → Option ρ), (∀ m ∈ ms, m.soft = true) → ms.length = vs.length → passM s ms vs k = k s vs id := by
  intro ms
  induction ms with
  | nil =>
    intro vs s k _ hl
    cases vs with
    | nil => rfl
    | cons _ _ => simp at hl
  | cons m ms ih =>
    intro vs s k hm hl
    cases vs with
    | nil => simp at hl
    | cons v vs =>
      have h1 := hm m (by simp)
      have : passM s (m :: ms) (v :: vs) k = passM s ms vs fun s vs κ => k s (κ v :: vs) κ := by
        cases m with
        | ro t => simp only [passM]
        | rop t => simp only [passM]
        | _ => simp [PM.soft] at h1
      rw [this, ih vs s _ (fun m h => hm m (by simp [h])) (by simpa using hl)]
      rfl

theorem passO_len : ∀ (ms : List PM) (vs : List TV) (s : St) (k : St → List TV → (TV → TV) → Option ρ) (r : ρ), (∀ m ∈ ms, m.soft = true) → passO s ms vs k = some r → ms.length = vs.length := by
  intro ms
  induction ms with
  | nil =>
    intro vs s k r _ h
    cases vs with
    | nil => rfl
    | cons _ _ => simp [passO] at h
  | cons m ms ih =>
    intro vs s k r hm h
    cases vs with
    | nil => simp [passO] at h
    | cons v vs =>
      have h1 := hm m (by simp)
      have e : passO s (m :: ms) (v :: vs) k = passO s ms vs fun s vs κ => k s (κ v :: vs) κ := by cases m <;> first | rfl | simp [PM.soft] at h1
      rw [e] at h
      simpa using ih vs s _ r (fun m h => hm m (by simp [h])) h

theorem lendR_det {t : St} {m : PM} {v : TV} {k : D → Option ρ} {r : ρ} (h : lendR t m v k = some r) : ∃ d, k d = some r ∧ ∀ (s : St), Ag s t v → ∀ {σ : Type} (k' : D → Option σ), lendR s m v k' = k' d := by
  cases m with
  | ro T =>
    simp only [lendR] at h
    obtain ⟨x, h1, h2⟩ := readR_det _ _ _ _ h
    exact ⟨_, h1, fun s ha σ k' => by simp only [lendR]; rw [h2 s ha]⟩
  | rop T =>
    cases v with
    | rop u x =>
      simp only [lendR] at h
      split at h
      · rename_i y hy; exact ⟨_, h, fun s ha σ k' => by simp only [lendR, hy]⟩
      · cases h
    | ref b p =>
      simp only [lendR] at h
      obtain ⟨x, h1, _, h2⟩ := withBox_det h
      split at h1
      · rename_i hc
        obtain ⟨c, h3, h4⟩ := getC_det _ _ _ _ h1
        obtain ⟨y, h5, h6⟩ := contR_det _ _ _ _ h3
        exact ⟨_, h5, fun s ha σ k' => by simp only [lendR]; rw [h2 s (ha _ (by simp [TV.refs])), if_pos hc, h4, h6]⟩
      · cases h1
    | _ => simp [lendR] at h
  | _ => simp [lendR] at h

theorem lendAll_det {t : St} : ∀ (ms : List PM) (vs : List TV) (k : List D → Option ρ) (r : ρ), (∀ m ∈ ms, m.soft = true) → lendAll t ms vs k = some r →
    ∃ ds, k ds = some r ∧ ∀ (s : St), (∀ v ∈ vs, Ag s t v) → ∀ {σ : Type} (k' : List D → Option σ), lendAll s ms vs k' = k' ds := by
  intro ms
  induction ms with
  | nil =>
    intro vs k r _ h
    cases vs with
    | nil => exact ⟨[], h, fun s ha σ k' => rfl⟩
    | cons _ _ => simp [lendAll] at h
  | cons m ms ih =>
    intro vs k r hm h
    cases vs with
    | nil => simp [lendAll] at h
    | cons v vs =>
      have h1 := hm m (by simp)
      have e : ∀ {σ : Type} (s : St) (k : List D → Option σ), lend s m v k = lendR s m v fun d => k [d] := by
        intro σ s k
        cases m <;> first | rfl | simp [PM.soft] at h1
      simp only [lendAll] at h
      rw [e] at h
      obtain ⟨d, h2, h3⟩ := lendR_det h
      obtain ⟨ds, h4, h5⟩ := ih vs _ r (fun m h => hm m (by simp [h])) h2
      refine ⟨_, h4, fun s ha σ k' => ?_⟩
      simp only [lendAll]
      rw [e, h3 s (ha v (by simp)), h5 s (fun w hw => ha w (by simp [hw]))]

theorem backAll_soft : ∀ (ms : List PM) (vs : List TV) (ds : List D) (s : St) (k : St → Option ρ) (r : ρ), (∀ m ∈ ms, m.soft = true) → backAll s ms vs ds k = some r →
    k s = some r ∧ ∀ (s : St) {σ : Type} (k' : St → Option σ), backAll s ms vs ds k' = k' s := by
  intro ms
  induction ms with
  | nil =>
    intro vs ds s k r _ h
    cases vs <;> cases ds <;> first | exact ⟨h, fun s σ k' => rfl⟩ | simp [backAll] at h
  | cons m ms ih =>
    intro vs ds s k r hm h
    cases vs with
    | nil => simp [backAll] at h
    | cons v vs =>
      have h1 := (soft_no (hm m (by simp))).1
      simp only [backAll] at h
      rw [back_none h1] at h
      obtain ⟨h2, h3⟩ := ih vs ds s k r (fun m h => hm m (by simp [h])) h
      exact ⟨h2, fun s σ k' => by simp only [backAll]; rw [back_none h1, h3]⟩

/-- what the taking of a result adds -/
def NewIn (d : Nat) (t : St) (new : List (Nat × Box)) : Prop := ∀ x ∈ new, x.1 / 32 = d ∧ t.box x.1 = none

theorem boxes_app (t : St) (new : List (Nat × Box)) (n : Nat) : St.box { t with boxes := new ++ t.boxes } n = (lk new n).or (t.box n) := lk_app _ _ _

theorem takeD_local {d : Nat} : ∀ (T : Ty) (x : T.den) (t : St) (id : Nat) (k : St → Nat → TV → Option ρ) (r : ρ), d * 32 + 1 ≤ id → id ≤ d * 32 + 32 → takeD t id T x k = some r →
    ∃ new id' v, k { t with boxes := new ++ t.boxes } id' v = some r ∧ (id ≤ id' ∧ id' ≤ d * 32 + 32) ∧ (∀ y ∈ new, id ≤ y.1 ∧ y.1 < id') ∧ NewIn d t new ∧
      ∀ (s : St), (∀ y ∈ new, s.box y.1 = none) → ∀ {σ : Type} (k' : St → Nat → TV → Option σ), takeD s id T x k' = k' { s with boxes := new ++ s.boxes } id' v := by
  have flat : ∀ (T : Ty) (x : T.den) (t : St) (id : Nat) (k : St → Nat → TV → Option ρ) (r : ρ), d * 32 + 1 ≤ id → id ≤ d * 32 + 32 → (∀ {σ : Type} (s : St) (k : St → Nat → TV → Option σ), takeD s id T x k = k s id (.dat T x)) → takeD t id T x k = some r →
    ∃ new id' v, k { t with boxes := new ++ t.boxes } id' v = some r ∧ (id ≤ id' ∧ id' ≤ d * 32 + 32) ∧ (∀ y ∈ new, id ≤ y.1 ∧ y.1 < id') ∧ NewIn d t new ∧
      ∀ (s : St), (∀ y ∈ new, s.box y.1 = none) → ∀ {σ : Type} (k' : St → Nat → TV → Option σ), takeD s id T x k' = k' { s with boxes := new ++ s.boxes } id' v := by
    intro T x t id k r h1 h2 e h
    rw [e] at h
    exact ⟨[], id, _, h, ⟨Nat.le_refl _, h2⟩, fun y hy => (by cases hy), fun y hy => (by cases hy), fun s _ σ k' => by rw [e]; rfl⟩
  intro T
  induction T with
  | slice T _ =>
    intro x t id k r h1 h2 h
    simp only [takeD] at h
    obtain ⟨q1, q2, q3, q4⟩ := newBox_det h
    have hlt : id ≤ d * 32 + 31 := by
      by_cases e : id = d * 32 + 32
      · subst e; omega
      · omega
    refine ⟨[(id, ⟨.slice T, true, false, .own (.slice T) x⟩)], id + 1, _, q3, ⟨by omega, by omega⟩, fun y hy => ?_, fun y hy => ?_, fun s hs σ k' => ?_⟩
    · simp only [List.mem_singleton] at hy; subst hy; exact ⟨Nat.le_refl _, Nat.lt_succ_self _⟩
    · simp only [List.mem_singleton] at hy; subst hy; exact ⟨by show id / 32 = d; omega, q2⟩
    · simp only [takeD]
      rw [q4 s (hs _ (List.mem_singleton.2 rfl))]
      rfl
  | cons T U ihT ihU =>
    intro x t id k r h1 h2 h
    by_cases hf : (Ty.cons T U).flat = true
    · exact flat _ x t id k r h1 h2 (fun s k => by simp only [takeD]; rw [if_pos hf]) h
    · simp only [takeD] at h
      rw [if_neg hf] at h
      obtain ⟨n1, id1, v1, a1, a2, a3, a4, a5⟩ := ihT x.1 t id _ r h1 h2 h
      obtain ⟨n2, id2, v2, b1, b2, b3, b4, b5⟩ := ihU x.2 _ id1 _ r (by omega) a2.2 a1
      refine ⟨n2 ++ n1, id2, _, by rw [List.append_assoc]; exact b1, ⟨by omega, b2.2⟩, fun y hy => ?_, fun y hy => ?_, fun s hs σ k' => ?_⟩
      · rcases List.mem_append.1 hy with hy | hy
        · have := b3 y hy; omega
        · have := a3 y hy; omega
      · rcases List.mem_append.1 hy with hy | hy
        · refine ⟨(b4 y hy).1, ?_⟩
          have := (b4 y hy).2
          rw [boxes_app, Option.or_eq_none_iff] at this
          exact this.2
        · exact a4 y hy
      · simp only [takeD]
        rw [if_neg hf, a5 s (fun y hy => hs y (List.mem_append.2 (.inr hy))), b5 _ (fun y hy => by
          rw [boxes_app, hs y (List.mem_append.2 (.inl hy)), lk_none (fun z hz => by have := a3 z hz; have := b3 y hy; omega)]; rfl), List.append_assoc]
  | unit =>
    intro x t id k r h1 h2 h
    exact ⟨[], id, _, h, ⟨Nat.le_refl _, h2⟩, fun y hy => (by cases hy), fun y hy => (by cases hy), fun s _ σ k' => rfl⟩
  | int kd => intro x t id k r h1 h2 h; exact flat _ x t id k r h1 h2 (fun s k => rfl) h
  | bool => intro x t id k r h1 h2 h; exact flat _ x t id k r h1 h2 (fun s k => rfl) h
  | str => intro x t id k r h1 h2 h; exact flat _ x t id k r h1 h2 (fun s k => rfl) h
  | opq => intro x t id k r h1 h2 h; simp [takeD, Ty.flat] at h
  | arr n T _ =>
    intro x t id k r h1 h2 h
    by_cases hf : (Ty.arr n T).flat = true
    · exact flat _ x t id k r h1 h2 (fun s k => by simp only [takeD]; rw [if_pos hf]) h
    · simp only [takeD] at h
      rw [if_neg hf] at h
      cases h

theorem takeAll_local {d : Nat} : ∀ (rs : List D) (t : St) (id : Nat) (k : St → TV → Option ρ) (r : ρ), d * 32 + 1 ≤ id → id ≤ d * 32 + 32 → takeAll t id rs k = some r →
    ∃ new v, k { t with boxes := new ++ t.boxes } v = some r ∧ (∀ y ∈ new, id ≤ y.1) ∧ NewIn d t new ∧
      ∀ (s : St), (∀ y ∈ new, s.box y.1 = none) → ∀ {σ : Type} (k' : St → TV → Option σ), takeAll s id rs k' = k' { s with boxes := new ++ s.boxes } v := by
  intro rs
  induction rs with
  | nil =>
    intro t id k r h1 h2 h
    exact ⟨[], _, h, fun y hy => (by cases hy), fun y hy => (by cases hy), fun s _ σ k' => rfl⟩
  | cons e rs ih =>
    intro t id k r h1 h2 h
    simp only [takeAll] at h
    obtain ⟨n1, id1, v1, a1, a2, a3, a4, a5⟩ := takeD_local e.t e.x t id _ r h1 h2 h
    obtain ⟨n2, v2, b1, b3, b4, b5⟩ := ih _ id1 _ r (by omega) a2.2 a1
    refine ⟨n2 ++ n1, _, by rw [List.append_assoc]; exact b1, fun y hy => ?_, fun y hy => ?_, fun s hs σ k' => ?_⟩
    · rcases List.mem_append.1 hy with hy | hy
      · have := b3 y hy; omega
      · have := a3 y hy; omega
    · rcases List.mem_append.1 hy with hy | hy
      · refine ⟨(b4 y hy).1, ?_⟩
        have := (b4 y hy).2
        rw [boxes_app, Option.or_eq_none_iff] at this
        exact this.2
      · exact a4 y hy
    · simp only [takeAll]
      rw [a5 s (fun y hy => hs y (List.mem_append.2 (.inr hy))), b5 _ (fun y hy => by
        rw [boxes_app, hs y (List.mem_append.2 (.inl hy)), lk_none (fun z hz => by have := a3 z hz; have := b3 y hy; omega)]; rfl), List.append_assoc]

theorem res_pick (rs : List D) (v : TV) : ∃ u, ∀ {σ : Type} (d : Nat) (s : St) (k : St → Option σ), (match rs, v with
    | [_], .cons a .unit => k (s.put d a)
    | _, v => k (s.put d (.tup v))) = k (s.put d u) := by
  match rs, v with
  | [e], .cons a .unit => exact ⟨a, fun d s k => rfl⟩
  | [], v => exact ⟨.tup v, fun d s k => rfl⟩
  | e :: e' :: rs, v => exact ⟨.tup v, fun d s k => rfl⟩
  | [e], v =>
    cases v with
    | cons a b => cases b <;> exact ⟨_, fun d s k => rfl⟩
    | _ => exact ⟨.tup _, fun d s k => rfl⟩

theorem resK_local {t : St} {dst : Option Nat} {rs : List D} {k : St → Option ρ} {r : ρ} (h : resK t dst rs k = some r) :
    ∃ v new, k (t.step dst v new) = some r ∧ (∀ x ∈ new, ∃ d, dst = some d ∧ x.1 / 32 = d ∧ t.box x.1 = none) ∧ ∀ (s : St), (∀ x ∈ new, s.box x.1 = none) → ∀ {σ : Type} (k' : St → Option σ), resK s dst rs k' = k' (s.step dst v new) := by
  cases dst with
  | none => exact ⟨.unit, [], h, fun x hx => (by cases hx), fun s _ σ k' => rfl⟩
  | some d =>
    simp only [resK] at h
    obtain ⟨new, v, h1, _, h3, h4⟩ := takeAll_local (d := d) rs t (d * 32 + 1) _ r (Nat.le_refl _) (by omega) h
    obtain ⟨u, hu⟩ := res_pick rs v
    refine ⟨u, new, (hu d _ k).symm.trans h1, fun x hx => ⟨d, rfl, h3 x hx⟩, fun s hs σ k' => ?_⟩
    simp only [resK]
    rw [h4 s hs]
    exact hu d _ k'

theorem callK_local {t : St} {f : Nat} {vs : List TV} {dst : Option Nat} {k : St → Option ρ} {r : ρ} {c : FnC} (hc : E.fn f (vs.map cloId) = some c) (hlaw : c.Law) (hs : ∀ m ∈ c.params, m.soft = true) (h : callK E t f vs dst k = some r) :
    ∃ v new, k (t.step dst v new) = some r ∧ (∀ x ∈ new, ∃ d, dst = some d ∧ x.1 / 32 = d ∧ t.box x.1 = none) ∧
      ∀ (s : St), (∀ v ∈ vs, Ag s t v) → (∀ x ∈ new, s.box x.1 = none) → ∀ {σ : Type} (k' : St → Option σ), callK E s f vs dst k' = k' (s.step dst v new) := by
  unfold callK at h
  rw [hc] at h
  simp only at h
  have hl := passO_len _ _ _ _ _ hs h
  rw [passO_soft _ _ _ _ hs hl, passM_soft _ _ _ _ hs hl] at h
  obtain ⟨ds, h1, h2⟩ := lendAll_det _ _ _ _ hs h
  rw [hlaw] at h1
  split at h1
  · cases h1
  · rename_i rs ms hg
    obtain ⟨h3, h4⟩ := backAll_soft _ _ _ _ _ _ hs h1
    obtain ⟨v, new, h5, h6, h7⟩ := resK_local h3
    refine ⟨v, new, h5, h6, fun s ha hn σ k' => ?_⟩
    unfold callK
    rw [hc]
    simp only
    rw [passO_soft _ _ _ _ hs hl, passM_soft _ _ _ _ hs hl, h2 s ha, hlaw]
    simp only [hg]
    rw [h4, h7 s hn]

theorem ev_list {o : Oper} {s t : St} (h : Like o s t) {l : List Operand} (hl : ∀ x ∈ l, x ∈ o.op.operands.toList) : l.map s.ev = l.map t.ev ∧ ∀ v ∈ l.map t.ev, Ag s t v :=
  ⟨List.map_congr_left fun x hx => (h x (hl x hx)).1, fun v hv => by
    obtain ⟨x, hx, rfl⟩ := List.mem_map.1 hv
    exact (h x (hl x hx)).2⟩

/-- what is done softly is done alike in each state that is like -/
theorem softD_local (hL : ∀ f ids c, E.fn f ids = some c → c.Law) {o : Oper} {t : St} {k : St → Option ρ} {r : ρ} (h : softD E false o t k = some r) : ∃ v new, k (t.step o.dst v new) = some r ∧ Loc E o t v new ∧ (∀ {σ : Type} (s : St) (k : St → Option σ), opD E o s k = opK E o s k) := by
  have hD : ∀ (k : St → Option ρ) (r : ρ), opD E o t k = some r → opK E o t k = some r ∧ ∀ {σ : Type} (s : St) (k : St → Option σ), opD E o s k = opK E o s k := by
    intro k r h
    unfold opD at h
    split at h
    · rename_i d hd
      split at h
      · rename_i hb
        split at h
        · cases h
        · rename_i hns
          refine ⟨h, fun s k => ?_⟩
          unfold opD
          rw [hd]
          simp only [hb]
      · cases h
    · rename_i hd
      exact ⟨h, fun s k => by unfold opD; rw [hd]⟩
  unfold softD at h
  split at h
  · rename_i hc
    obtain ⟨h1, h2⟩ := hD _ _ h
    obtain ⟨v, new, h3, h4⟩ := opK_local (by simpa using hc) h1
    exact ⟨v, new, h3, h4, h2⟩
  · split at h
    · rename_i c ho
      split at h
      · rename_i g hg
        split at h
        · rename_i f hf
          split at h
          · rename_i c' hc'
            split at h
            · rename_i hsoft
              obtain ⟨h1, h2⟩ := hD _ _ h
              have hsoft : ∀ m ∈ c'.params, m.soft = true := List.all_eq_true.1 hsoft
              have e : ∀ {σ : Type} (s : St) (k : St → Option σ), s.ev g = .clo f .unit → opK E o s k = callK E s f (c.args.toList.map s.ev) o.dst k := by
                intro σ s k hs
                unfold opK
                rw [ho]
                simp only [hg, hs, TV.capsO, List.append_nil]
              rw [e _ _ hf] at h1
              obtain ⟨v, new, h3, h4, h5⟩ := callK_local hc' (hL _ _ _ hc') hsoft h1
              have m1 : g ∈ o.op.operands.toList := op_mem ho (by
                simp only [Op.operands, Call.operands, hg, Array.toList_append]
                exact List.mem_append.2 (.inl (by simp)))
              have m2 : ∀ x ∈ c.args.toList, x ∈ o.op.operands.toList := fun x hx => op_mem ho (by
                simp only [Op.operands, Call.operands, hg, Array.toList_append]
                exact List.mem_append.2 (.inr hx))
              refine ⟨v, new, h3, ⟨h4, fun s ha hn σ k' => ?_⟩, h2⟩
              obtain ⟨e1, e2⟩ := ev_list ha m2
              rw [e s k' ((ha g m1).1.trans hf), e1, h5 s e2 hn]
            · cases h
          · cases h
        · cases h
      · cases h
    · cases h
end
end Go.TM
