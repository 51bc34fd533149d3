/- A machine for a part of the programs' language, and the proof that it tells what the model tells (part 2 of 4): it runs a function's code over pure data; nothing here names the program. -/
import Derived.Deep.AppendSrc
import Derived.Deep.MidRow
import Derived.Great.BuildSlice
import Derived.Great.FillDense
import Derived.Laws.Build
import Derived.Laws.BytesArg
import Derived.Laws.MakeOwn
import Derived.Laws.Slices
import Derived.Laws.StructEq
import Derived.Laws.Tables
import Derived.Lib.MinMax
import Derived.Test.YtilhlmedhgonbaaDoorTMA
/-! ## TmP -/
namespace Go.TM
set_option autoImplicit false

def ones (cs : List Value) : Prop := ∀ v ∈ cs, v.oneCell' = true

theorem ones_app {a b : List Value} (ha : ones a) (hb : ones b) : ones (a ++ b) := fun v hv => (List.mem_append.1 hv).elim (ha v) (hb v)

theorem ones_fcells : ∀ (t : Ty) (x : t.den), ones (fcells t x)
  | .int _, _ => by intro v hv; simp [fcells] at hv; subst hv; rfl
  | .bool, _ => by intro v hv; simp [fcells] at hv; subst hv; rfl
  | .str, _ => by intro v hv; simp [fcells] at hv; subst hv; rfl
  | .opq, _ => by intro v hv; simp [fcells] at hv
  | .slice _, _ => by intro v hv; simp [fcells] at hv
  | .unit, _ => by intro v hv; simp [fcells] at hv
  | .cons t r, x => ones_app (ones_fcells t x.1) (ones_fcells r x.2)
  | .arr _ t, xs => by
    intro v hv
    have hv : v ∈ ((show List t.den from xs).map (fcells t)).flatten := hv
    rw [List.mem_flatten] at hv
    obtain ⟨l, hl, hm⟩ := hv
    obtain ⟨y, _, e⟩ := List.mem_map.1 hl
    subst e
    exact ones_fcells t y v hm

theorem Rd.ones {w : World} {R : Nat → Prop} : ∀ (t : Ty) (x : t.den) (cs : List Value), Rd w R t x cs → ones cs
  | .int _, _, _, h => by rw [h.2.2]; exact ones_fcells _ _
  | .bool, _, _, h => by rw [h.2.2]; exact ones_fcells _ _
  | .str, _, _, h => by rw [h.2.2]; exact ones_fcells _ _
  | .opq, _, _, h => h.elim
  | .unit, _, _, h => by rw [h.2.2]; exact ones_fcells _ _
  | .arr _ _, _, _, h => by rw [h.2.2]; exact ones_fcells _ _
  | .cons t r, x, cs, h => by
    obtain ⟨c1, c2, rfl, h1, h2⟩ := h
    exact ones_app (Rd.ones t x.1 c1 h1) (Rd.ones r x.2 c2 h2)
  | .slice t, xs, cs, h => by
    obtain ⟨a, cap, rfl, _⟩ := h
    intro v hv; simp at hv; subst hv; rfl

theorem Own.ones {w : World} : ∀ (t : Ty) (x : t.den) (ft : FT) (cs : List Value), Own w t x ft cs → ones cs
  | .int _, _, _, _, h => by rw [h.2.2.2]; exact ones_fcells _ _
  | .bool, _, _, _, h => by rw [h.2.2.2]; exact ones_fcells _ _
  | .str, _, _, _, h => by rw [h.2.2.2]; exact ones_fcells _ _
  | .opq, _, _, _, h => h.elim
  | .unit, _, _, _, h => by rw [h.2.2.2]; exact ones_fcells _ _
  | .arr _ _, _, _, _, h => by rw [h.2.2.2]; exact ones_fcells _ _
  | .cons t r, x, ft, cs, h => by
    obtain ⟨_, c1, c2, rfl, h1, h2⟩ := h
    exact ones_app (Own.ones t x.1 _ c1 h1) (Own.ones r x.2 _ c2 h2)
  | .slice t, xs, ft, cs, h => by
    obtain ⟨b, cap, ks, _, rfl, _⟩ := h
    intro v hv; simp at hv; subst hv; rfl

theorem one_single {v : Value} (h : v.oneCell' = true) : ones [v] := fun x hx => by simp at hx; subst hx; exact h

section
variable {ρ : Type} {F : Fr} {a : Act} {w : World}

theorem killBy_rel {A A' : AdrF} {R : Nat → Prop} {b : Nat} {p : Path} (h : ALeBut b p A A') :
    (∀ d cd, VRc A w R d cd → VRc A' w R (d.kill b p) cd) ∧ (∀ c t f cs, Con A w R c t f cs → Con A' w R (c.kill b p) t f cs) :=
  ⟨fun d cd hd => VRc.kill h (fun _ _ => rfl) d cd hd, fun c t f cs hc => Con.kill h (fun _ _ => rfl) c t f cs (fun _ _ => rfl) hc⟩

theorem blocksL_take_sub : ∀ (ks : List FT) (n : Nat), List.Sublist (FT.blocksL (ks.take n)) (FT.blocksL ks) := by
  intro ks
  induction ks with
  | nil => intro n; simp [FT.blocksL]
  | cons f ks ih =>
    intro n
    cases n with
    | zero => simp [FT.blocksL]
    | succ n =>
      simp only [List.take_succ_cons, FT.blocksL]
      exact List.Sublist.append (List.Sublist.refl _) (ih n)

theorem node_take_sub (bk : Option Nat) (cap : Nat) (ks : List FT) (n : Nat) : List.Sublist (FT.node bk cap (ks.take n)).blocks (FT.node bk cap ks).blocks := by
  simp only [FT.blocks]
  exact List.Sublist.append (List.Sublist.refl _) (blocksL_take_sub ks n)

/-- what the storing of a value needs -/
structure Took (F : Fr) (G : Nat → Gh) (s : St) (a : Act) (w : World) (κ : TV → TV) (t : Ty) (cs : List Value) (G' : Nat → Gh) (s' : St) (c : TV) (f : FT) : Prop where
  rel : Rel F G' s' a w
  con : Con (adr s'.box G') w F.R c t f cs
  fresh : Fresh F G' s' w f
  had : Had G s f
  less : Less G s G' s'
  vals : ∀ d cd, VRc (adr s.box G) w F.R d cd → VRc (adr s'.box G') w F.R (κ d) cd
  cons : ∀ d t f cs, Con (adr s.box G) w F.R d t f cs → Con (adr s'.box G') w F.R (κ d) t f cs
  vr : ∀ d y, VR (adr s.box G) w F.R d y → VR (adr s'.box G') w F.R (κ d) y
  ones : ones cs

theorem Took.still {G : Nat → Gh} {s : St} (h : Rel F G s a w) {t : Ty} {cs : List Value} {c : TV} {f : FT} (hc : Con (adr s.box G) w F.R c t f cs) (hf : f.blocks = []) (ho : TM.ones cs) :
    Took F G s a w id t cs G s c f :=
  ⟨h, hc, .nil hf, fun b hb => (by rw [hf] at hb; cases hb), .refl, fun _ _ hd => hd, fun _ _ _ _ hd => hd, fun _ _ hd => hd, ho⟩

theorem absorb_sound : ∀ (t : Ty) (v : TV) (G : Nat → Gh) (s : St) (cs : List Value) (k : St → TV → (TV → TV) → Option ρ) (r : ρ), Rel F G s a w → VRc (adr s.box G) w F.R v cs → absorb s t v k = some r →
    ∃ G' s' c f κ, k s' c κ = some r ∧ Took F G s a w κ t cs G' s' c f := by
  intro t
  have datCase : ∀ (t u : Ty) (x : u.den) (G : Nat → Gh) (s : St) (cs : List Value) (k : St → TV → (TV → TV) → Option ρ) (r : ρ), Rel F G s a w → VRc (adr s.box G) w F.R (.dat u x) cs → (if decide (u = t) then k s (.dat u x) id else none) = some r →
      ∃ G' s' c f κ, k s' c κ = some r ∧ Took F G s a w κ t cs G' s' c f := by
    intro t u x G s cs k r h hv hS
    split at hS
    · rename_i e
      have e : u = t := of_decide_eq_true e
      exact ⟨G, s, _, .leaf, id, hS, .still h ⟨e, rfl, hv⟩ rfl (Rd.ones _ _ _ hv)⟩
    · cases hS
  induction t with
  | cons t u iht ihu =>
    intro v G s cs k r h hv hS
    cases v with
    | cons x d =>
      simp only [absorb] at hS
      obtain ⟨c1, c2, rfl, h1, h2⟩ := hv
      obtain ⟨G1, s1, cx, f1, κ1, hS1, T1⟩ := iht x G s c1 _ r h h1 hS
      obtain ⟨G2, s2, cd, f2, κ2, hS2, T2⟩ := ihu (κ1 d) G1 s1 c2 _ r T1.rel (T1.vals d c2 h2) hS1
      have fr1 : Fresh F G2 s2 w f1 := T1.fresh.less T2.less
      have ap : ∀ b ∈ f2.blocks, b ∉ f1.blocks := T1.fresh.apart T2.had
      refine ⟨G2, s2, _, .pair f1 f2, _, hS2, T2.rel, ⟨rfl, c1, c2, rfl, Con.len _ _ _ _ T1.con, T2.cons _ _ _ _ T1.con, T2.con⟩, ⟨?_, ?_, ?_⟩, ?_, T1.less.trans T2.less, fun e ce he => T2.vals _ _ (T1.vals e ce he), fun e te fe ce he => T2.cons _ _ _ _ (T1.cons e te fe ce he), fun d y hd => T2.vr _ _ (T1.vr d y hd), ones_app T1.ones T2.ones⟩
      · simp only [FT.blocks, List.nodup_append]
        exact ⟨fr1.nodup, T2.fresh.nodup, fun b hb c hc e => ap c hc (e ▸ hb)⟩
      · intro b hb
        rcases List.mem_append.1 hb with hb | hb
        · exact fr1.out b hb
        · exact T2.fresh.out b hb
      · intro b hb
        rcases List.mem_append.1 hb with hb | hb
        · exact fr1.mine b hb
        · exact T2.fresh.mine b hb
      · intro b hb
        rcases List.mem_append.1 hb with hb | hb
        · exact T1.had b hb
        · exact (Had.less T1.less T2.had) b hb
    | dat u' x => exact datCase _ u' x G s cs k r h hv (by simpa [absorb] using hS)
    | _ => simp [absorb] at hS
  | slice t _ =>
    intro v G s cs k r h hv hS
    cases v with
    | nil =>
      simp only [absorb] at hS
      obtain rfl := hv
      exact ⟨G, s, _, .node none 0 [], id, hS, .still h ⟨rfl, none, 0, [], rfl, rfl, Nat.le_refl _, by simp [lim], rfl, rfl⟩ rfl (one_single rfl)⟩
    | dat u' x => exact datCase _ u' x G s cs k r h hv (by simpa [absorb] using hS)
    | sl b p =>
      simp only [absorb] at hS
      split at hS
      · rename_i hd
        refine ⟨G, s, .sl b p, .leaf, id, hS, .still h ⟨rfl, rfl, rfl, hv⟩ rfl ?_⟩
        obtain ⟨t', bk, cap, ks, a', _, rfl⟩ := hv
        exact one_single rfl
      · rename_i hd
        have hd : Path.deref p = false := by simpa using hd
        unfold withBox at hS
        split at hS
        · rename_i x hx
          obtain ⟨cs0, hcon0, hbase⟩ := (h.box b x hx).con
          obtain ⟨c', u, ft', a', cs', e1, e2, e3, e4⟩ := Con.get x.c x.ty (G b).ft cs0 ((G b).base.map (·, 0)) p _ r hcon0 (fun b' o e => (hbase b' o e).1) hS
          split at e1
          · rename_i u0 y
            split at e1
            · cases e1
            · rename_i hfx
              simp only [Bool.or_eq_true, Bool.not_eq_true', decide_eq_false_iff_not, not_or, Classical.not_not, Bool.not_eq_true] at hfx
              obtain ⟨hfx, rfl⟩ := hfx
              obtain ⟨c2, G', k1, R1, F1, B1, O1, rfl, L1, H1⟩ := h.move hx hfx hd rfl rfl (by rw [adr_eq hx]; exact e2) e3 e4 e1
              obtain ⟨t', bk, cap, ks, a2, hA2, rfl⟩ := hv
              rw [adr_eq hx, e2] at hA2
              simp only [Option.some.injEq, Prod.mk.injEq] at hA2
              obtain ⟨_, rfl, _⟩ := hA2
              have hcs : cs' = [.slice (bk.map (⟨·, 0, none⟩)) ks.length cap] := by
                obtain ⟨b1, cap1, ks1, q1, q2, _, _, q3, _⟩ := O1
                simp only [FT.node.injEq] at q1
                obtain ⟨rfl, rfl, rfl⟩ := q1
                rw [q2, q3]
              rw [hcs] at O1
              obtain ⟨K1, K2⟩ := killBy_rel (w := w) (R := F.R) B1
              exact ⟨G', _, _, _, _, k1, R1, ⟨rfl, O1⟩, F1, H1, L1, K1, K2, fun d y hd => VR.kill B1 (fun _ _ => rfl) hd, one_single rfl⟩
          · cases e1
        · cases hS
    | slw b p lo n =>
      simp only [absorb] at hS
      split at hS
      · cases hS
      · rename_i hcnd
        simp only [Bool.or_eq_true, not_or, Bool.not_eq_true, Bool.not_eq_false'] at hcnd
        obtain ⟨hd, hlo⟩ := hcnd
        have hlo : lo = 0 := Nat.eq_of_beq_eq_true (by simpa using hlo)
        subst hlo
        unfold withBox at hS
        split at hS
        · rename_i x hx
          obtain ⟨cs0, hcon0, hbase⟩ := (h.box b x hx).con
          obtain ⟨c', u, ft', a', cs', e1, e2, e3, e4⟩ := Con.get x.c x.ty (G b).ft cs0 ((G b).base.map (·, 0)) p _ r hcon0 (fun b' o e => (hbase b' o e).1) hS
          split at e1
          · rename_i u0 y
            split at e1
            · cases e1
            · rename_i hfx
              have hfx : x.fix = false := by simpa using hfx
              split at e1
              · rename_i z hz
                obtain ⟨he, hy⟩ := castTo_eq hz
                subst he
                have hy : y = z := hy
                subst hy
                obtain ⟨c2, G', k1, R1, F1, B1, O1, rfl, L1, H1⟩ := h.move hx hfx hd rfl rfl (by rw [adr_eq hx]; exact e2) e3 e4 e1
                obtain ⟨t', bk, cap, ks, a2, hA2, hn, a3, c3, rfl, ⟨hc, hz2⟩, _⟩ := hv
                rw [adr_eq hx, e2] at hA2
                simp only [Option.some.injEq, Prod.mk.injEq] at hA2
                obtain ⟨_, rfl, _⟩ := hA2
                obtain ⟨rfl, rfl⟩ := hz2 rfl
                obtain ⟨b1, cap1, ks1, q1, q2, q3, q4, q5, q6⟩ := O1
                simp only [FT.node.injEq] at q1
                obtain ⟨rfl, rfl, rfl⟩ := q1
                have hsub : ∀ b' ∈ (FT.node bk c3 (ks.take n)).blocks, b' ∈ (FT.node bk c3 ks).blocks := fun b' hb' => (node_take_sub bk c3 ks n).subset hb'
                have hlen : List.length (α := t.den) (List.take (α := t.den) n y) = n := by
                  exact (List.length_take (α := t.den)).trans (Nat.min_eq_left (by have := hn.1; omega))
                obtain ⟨K1, K2⟩ := killBy_rel (w := w) (R := F.R) B1
                refine ⟨G', _, _, .node bk c3 (ks.take n), _, k1, R1, ⟨rfl, bk, c3, ks.take n, rfl, ?_, ?_, ?_, ?_, ?_⟩, ⟨?_, fun b' hb' => F1.out b' (hsub b' hb'), fun b' hb' => F1.mine b' (hsub b' hb')⟩, fun b' hb' => H1 b' (hsub b' hb'), L1, K1, K2, fun d y hd => VR.kill B1 (fun _ _ => rfl) hd, one_single rfl⟩
                · rw [hlen]
                · rw [hlen]; omega
                · rw [hlen]; omega
                · rw [hlen, List.length_take]; omega
                · cases bk with
                  | none => exact q6
                  | some blk =>
                    obtain ⟨g1, g2⟩ := q6
                    refine ⟨g1, fun i x k hx hk => ?_⟩
                    have gen : ∀ (l : List t.den), (List.take n l)[i]? = some x → ks[i]? = some k ∨ True → l[i]? = some x ∧ i < n := by
                      intro l hl _
                      rw [List.getElem?_take] at hl
                      split at hl
                      · rename_i hlt; exact ⟨hl, hlt⟩
                      · cases hl
                    obtain ⟨hx, hlt⟩ := gen y hx (.inr trivial)
                    rw [List.getElem?_take, if_pos hlt] at hk
                    exact g2 i x k hx hk
                · have hnd := F1.nodup
                  exact List.Nodup.sublist (node_take_sub bk c3 ks n) hnd
              · cases e1
          · cases e1
        · cases hS
    | _ => simp [absorb] at hS
  | unit =>
    intro v G s cs k r h hv hS
    cases v with
    | unit => exact ⟨G, s, .unit, .leaf, id, by simpa [absorb] using hS, .still h ⟨rfl, rfl, hv⟩ rfl (by rw [show cs = [] from hv]; intro v hv; cases hv)⟩
    | dat u' x => exact datCase _ u' x G s cs k r h hv (by simpa [absorb] using hS)
    | _ => simp [absorb] at hS
  | opq =>
    intro v G s cs k r h hv hS
    cases v with
    | dat u' x => exact datCase _ u' x G s cs k r h hv (by simpa [absorb] using hS)
    | ref b p =>
      refine ⟨G, s, .ref b p, .leaf, id, by simpa [absorb] using hS, .still h ⟨rfl, rfl, rfl, hv⟩ rfl ?_⟩
      obtain ⟨_, _, _, _, _, rfl⟩ := hv; exact one_single rfl
    | rop u x =>
      refine ⟨G, s, .rop u x, .leaf, id, by simpa [absorb] using hS, .still h ⟨rfl, rfl, rfl, hv⟩ rfl ?_⟩
      obtain ⟨_, _, _, rfl, _⟩ := hv; exact one_single rfl
    | clo f c =>
      refine ⟨G, s, .clo f c, .leaf, id, by simpa [absorb] using hS, .still h ⟨rfl, rfl, rfl, hv⟩ rfl ?_⟩
      obtain ⟨_, _, rfl⟩ := hv; exact one_single rfl
    | _ => simp [absorb] at hS
  | _ =>
    intro v G s cs k r h hv hS
    cases v with
    | dat u' x => exact datCase _ u' x G s cs k r h hv (by simpa [absorb] using hS)
    | _ => simp [absorb] at hS
end
end Go.TM
/-! ## TmQ -/
namespace Go.TM
set_option autoImplicit false

theorem setCell_heap (w : World) (b o : Nat) (v : Value) (c : Nat) : (w.setCell ⟨b, o, none⟩ v).heap[c]? = if b = c then (w.heap[c]?).map (fun x => match x with
      | .cells cs elem fz => .cells (cs.setIfInBounds o v) elem fz
      | x => x) else w.heap[c]? := by
  simp only [World.setCell, Array.getElem?_modify]
  by_cases h : b = c
  · subst h
    simp only [if_true]
    cases w.heap[b]? with
    | none => rfl
    | some x => cases x <;> simp
  · simp [h]

theorem setCells_size (b : Nat) : ∀ (vs : List Value) (o : Nat) (w : World), (w.setCells b o vs).heap.size = w.heap.size
  | [], _, _ => rfl
  | v :: r, o, w => by rw [World.setCells, setCells_size b r (o + 1)]; simp

theorem setCells_os (b : Nat) : ∀ (vs : List Value) (o : Nat) (w : World), (w.setCells b o vs).os = w.os
  | [], _, _ => rfl
  | v :: vs, o, w => by
    show ((w.setCell ⟨b, o, none⟩ v).setCells b (o + 1) vs).os = w.os
    rw [setCells_os b vs (o + 1)]; rfl
theorem setCells_output (b : Nat) : ∀ (vs : List Value) (o : Nat) (w : World), (w.setCells b o vs).output = w.output
  | [], _, _ => rfl
  | v :: vs, o, w => by
    show ((w.setCell ⟨b, o, none⟩ v).setCells b (o + 1) vs).output = w.output
    rw [setCells_output b vs (o + 1)]; rfl

theorem setCells_other (b : Nat) : ∀ (vs : List Value) (o : Nat) (w : World) (c : Nat), c ≠ b → (w.setCells b o vs).heap[c]? = w.heap[c]?
  | [], _, _, _, _ => rfl
  | v :: r, o, w, c, h => by rw [World.setCells, setCells_other b r (o + 1) _ c h, setCell_heap, if_neg (Ne.symm h)]

theorem setCells_row (b : Nat) : ∀ (vs : List Value) (o : Nat) (w : World) (row : Array Value) (e : TypeId) (fz : Nat × Nat), w.heap[b]? = some (.cells row e fz) → o + vs.length ≤ row.size →
    ∃ row2, (w.setCells b o vs).heap[b]? = some (.cells row2 e fz) ∧ row2.toList = row.toList.take o ++ vs ++ row.toList.drop (o + vs.length)
  | [], o, w, row, e, fz, h, hs => ⟨row, h, by simp⟩
  | v :: r, o, w, row, e, fz, h, hs => by
    have h1 : (w.setCell ⟨b, o, none⟩ v).heap[b]? = some (.cells (row.setIfInBounds o v) e fz) := by
      rw [setCell_heap, if_pos rfl, h]; rfl
    have hs' : o + (r.length + 1) ≤ row.toList.length := by simpa using hs
    have hs2 : o + (r.length + 1) ≤ row.size := by simpa using hs
    obtain ⟨row2, h2, h3⟩ := setCells_row b r (o + 1) _ _ e fz h1 (by simp; omega)
    refine ⟨row2, h2, ?_⟩
    rw [h3]
    simp only [Array.toList_setIfInBounds, List.length_cons]
    have hlt : o < row.toList.length := by omega
    rw [List.take_set, List.drop_set]
    rw [if_pos (by omega)]
    have ht : (row.toList.take (o + 1)).set o v = row.toList.take o ++ [v] := by
      rw [List.take_succ_eq_append_getElem hlt]
      have hl : (row.toList.take o).length = o := by rw [List.length_take]; omega
      rw [List.set_append, if_neg (by omega), hl, Nat.sub_self]
      rfl
    rw [ht, List.append_assoc, List.append_assoc, List.append_assoc]
    simp [Nat.add_assoc, Nat.add_comm 1]

theorem wr_setCells {w : World} {b o n : Nat} {row : Array Value} {e : TypeId} {cs : List Value} (h : w.heap[b]? = some (.cells row e (0, 0))) (hs : o + n ≤ row.size) (hl : cs.length = n) :
    Wr w (w.setCells b o cs) b o n cs := by
  subst hl
  obtain ⟨row2, h2, h3⟩ := setCells_row b cs o w row e (0, 0) h hs
  exact ⟨rfl, row, row2, e, (0, 0), h, h2, hs, h3⟩

theorem there_of {w : World} {b o n : Nat} {row : Array Value} {e : TypeId} (h : w.heap[b]? = some (.cells row e (0, 0))) (hs : o + n ≤ row.size) : w.there b o n := by
  intro j hj
  constructor
  · have : (w.cell? ⟨b, o + j, none⟩) = row[o + j]? := by simp [World.cell?, h]
    rw [this, Array.getElem?_eq_getElem (by omega)]; rfl
  · simp [World.frozen?, h]

theorem range_of {w : World} {b o n : Nat} {cs : List Value} (h : At w b o n cs) : w.rangeAt b o cs := by
  intro j v hj
  obtain ⟨row, e, fz, h1, h2, rfl⟩ := h
  have hj' := (List.getElem?_eq_some_iff.1 hj).1
  simp at hj'
  have : (w.cell? ⟨b, o + j, none⟩) = row[o + j]? := by simp [World.cell?, h1]
  rw [this]
  rw [List.getElem?_take, if_pos (by omega), List.getElem?_drop] at hj
  simpa using hj

theorem addr_ty : ∀ (t : Ty) (ft : FT) (a : Option (Nat × Nat)) (p : Path) {u : Ty} {f : FT} {a' : Option (Nat × Nat)}, addr t ft a p = some (u, f, a') → tyAt t p = some u := by
  intro t
  induction t with
  | cons t r iht ihr =>
    intro ft a p u f a' h
    match p, h with
    | [], h => simp only [addr, Option.some.injEq, Prod.mk.injEq] at h; obtain ⟨rfl, _, _⟩ := h; rfl
    | .f 0 :: p, h => exact iht _ _ _ h
    | .f (n + 1) :: p, h => exact ihr _ _ _ h
    | .i n :: p, h => simp [addr] at h
  | slice t iht =>
    intro ft a p u f a' h
    match p, h with
    | [], h => simp only [addr, Option.some.injEq, Prod.mk.injEq] at h; obtain ⟨rfl, _, _⟩ := h; rfl
    | .f n :: p, h => simp [addr] at h
    | .i n :: p, h =>
      match ft, h with
      | .leaf, h => simp [addr] at h
      | .pair _ _, h => simp [addr] at h
      | .node none _ _, h => simp [addr] at h
      | .node (some b) cap ks, h =>
        simp only [addr] at h
        split at h
        · exact iht _ _ _ h
        · cases h
  | arr m t _ =>
    intro ft a p u f a' h
    match p, h with
    | [], h => simp only [addr, Option.some.injEq, Prod.mk.injEq] at h; obtain ⟨rfl, _, _⟩ := h; rfl
    | .f n :: p, h => simp [addr] at h
    | .i n :: s :: p, h => simp [addr] at h
    | [.i n], h =>
      simp only [addr] at h
      split at h
      · cases h
      · rename_i hc
        simp only [Bool.or_eq_true, not_or, Bool.not_eq_true] at hc
        simp only [Option.some.injEq, Prod.mk.injEq] at h; obtain ⟨rfl, _, _⟩ := h
        simp [tyAt, hc.1]
  | _ =>
    intro ft a p u f a' h
    cases p with
    | nil => simp only [addr, Option.some.injEq, Prod.mk.injEq] at h; obtain ⟨rfl, _, _⟩ := h; rfl
    | cons s p => simp [addr] at h

/-- a place that may be written -/
def May (w : World) (b o n : Nat) : Prop := ∃ row e, w.heap[b]? = some (.cells row e (0, 0)) ∧ o + n ≤ row.size

theorem Own.may {w : World} : ∀ (t : Ty) (x : t.den) (ft : FT) (cs : List Value) (a : Option (Nat × Nat)) (p : Path) {u : Ty} {fp : FT} {blk off : Nat},
    Own w t x ft cs → (∀ b o, a = some (b, o) → May w b o t.size) → addr t ft a p = some (u, fp, some (blk, off)) → May w blk off u.size := by
  intro t
  have nilCase : ∀ (t : Ty) (ft : FT) (a : Option (Nat × Nat)) {u : Ty} {fp : FT} {blk off : Nat}, (∀ b o, a = some (b, o) → May w b o t.size) → addr t ft a [] = some (u, fp, some (blk, off)) → May w blk off u.size := by
    intro t ft a u fp blk off hb hA
    have e : addr t ft a [] = some (t, ft, a) := by cases t <;> rfl
    rw [e] at hA
    simp only [Option.some.injEq, Prod.mk.injEq] at hA
    obtain ⟨rfl, _, rfl⟩ := hA
    exact hb _ _ rfl
  induction t with
  | cons t r iht ihr =>
    intro x ft cs a p u fp blk off h hb hA
    match p, hA with
    | [], hA => exact nilCase _ _ _ hb hA
    | .i n :: p, hA => simp [addr] at hA
    | .f 0 :: p, hA =>
      obtain ⟨_, c1, c2, rfl, h1, h2⟩ := h
      exact iht x.1 _ c1 a p h1 (fun b o e => let ⟨row, e', q1, q2⟩ := hb b o e; ⟨row, e', q1, by simp only [Ty.size] at q2; omega⟩) hA
    | .f (n + 1) :: p, hA =>
      obtain ⟨_, c1, c2, rfl, h1, h2⟩ := h
      refine ihr x.2 _ c2 (a.map fun (x : Nat × Nat) => (x.1, x.2 + t.size)) (.f n :: p) h2 (fun b o e => ?_) (by simpa only [addr] using hA)
      cases a with
      | none => cases e
      | some a =>
        simp only [Option.map_some, Option.some.injEq, Prod.mk.injEq] at e
        obtain ⟨rfl, rfl⟩ := e
        obtain ⟨row, e', q1, q2⟩ := hb _ _ rfl
        exact ⟨row, e', q1, by simp only [Ty.size] at q2; omega⟩
  | slice t iht =>
    intro x ft cs a p u fp blk off h hb hA
    match p, hA with
    | [], hA => exact nilCase _ _ _ hb hA
    | .f n :: p, hA => simp [addr] at hA
    | .i n :: p, hA =>
      obtain ⟨b, cap, ks, rfl, rfl, h1, h2, h3, h4⟩ := h
      cases b with
      | none => simp [addr] at hA
      | some b =>
        simp only [addr] at hA
        split at hA
        · rename_i kn hk
          have hn : n < List.length (α := t.den) x := by rw [← h3]; exact (List.getElem?_eq_some_iff.1 hk).1
          have hx : (show List t.den from x)[n]? = some ((show List t.den from x)[n]'hn) := List.getElem?_eq_getElem hn
          obtain ⟨c, hc, ho⟩ := h4.2 n _ kn hx hk
          refine iht _ kn c (some (b, n * t.size)) p ho (fun b' o' e => ?_) hA
          simp only [Option.some.injEq, Prod.mk.injEq] at e
          obtain ⟨rfl, rfl⟩ := e
          obtain ⟨⟨row, e, q1, q2⟩, _⟩ := h4
          refine ⟨row, e, q1, ?_⟩
          have := Nat.mul_le_mul_right t.size (Nat.le_trans (Nat.succ_le_of_lt hn) h1)
          rw [Nat.succ_mul] at this; omega
        · cases hA
  | arr m t _ =>
    intro x ft cs a p u fp blk off h hb hA
    match p, hA with
    | [], hA => exact nilCase _ _ _ hb hA
    | .f n :: p, hA => simp [addr] at hA
    | .i n :: q :: p, hA => simp [addr] at hA
    | [.i n], hA =>
      obtain ⟨_, s3⟩ := addr_sub _ _ _ _ hA
      rcases s3 with ⟨b0, o0, e0, hm, _⟩ | ⟨d, e0, hd⟩
      · have hb0 := h.2.2.1
        rw [hb0] at hm; cases hm
      · cases a with
        | none => cases e0
        | some a =>
          simp only [Option.map_some, Option.some.injEq, Prod.mk.injEq] at e0
          obtain ⟨rfl, rfl⟩ := e0
          obtain ⟨row, e', q1, q2⟩ := hb _ _ rfl
          exact ⟨row, e', q1, by omega⟩
  | _ =>
    intro x ft cs a p u fp blk off h hb hA
    cases p with
    | nil => exact nilCase _ _ _ hb hA
    | cons q p => simp [addr] at hA

theorem Con.may {A : AdrF} {w : World} {R : Nat → Prop} : ∀ (c : TV) (t : Ty) (ft : FT) (cs : List Value) (a : Option (Nat × Nat)) (p : Path) {u : Ty} {fp : FT} {blk off : Nat},
    Con A w R c t ft cs → (∀ b o, a = some (b, o) → May w b o t.size) → addr t ft a p = some (u, fp, some (blk, off)) → May w blk off u.size := by
  have nb : ∀ (t : Ty) (ft : FT) (a : Option (Nat × Nat)) (p : Path) {u : Ty} {fp : FT} {blk off : Nat}, ft.blocks = [] → (∀ b o, a = some (b, o) → May w b o t.size) → addr t ft a p = some (u, fp, some (blk, off)) → May w blk off u.size := by
    intro t ft a p u fp blk off h0 hb hA
    obtain ⟨_, s3⟩ := addr_sub _ _ _ _ hA
    rcases s3 with ⟨b0, o0, e0, hm, _⟩ | ⟨d, e0, hd⟩
    · rw [h0] at hm; cases hm
    · cases a with
      | none => cases e0
      | some a =>
        simp only [Option.map_some, Option.some.injEq, Prod.mk.injEq] at e0
        obtain ⟨rfl, rfl⟩ := e0
        obtain ⟨row, e', q1, q2⟩ := hb _ _ rfl
        exact ⟨row, e', q1, by omega⟩
  intro c
  induction c with
  | own u x => intro t ft cs a p u fp blk off h hb hA; obtain ⟨rfl, h⟩ := h; exact Own.may _ _ _ _ _ _ h hb hA
  | cons c d ihc ihd =>
    intro t ft cs a p u fp blk off h hb hA
    cases t <;> try exact h.elim
    rename_i t r
    obtain ⟨_, c1, c2, rfl, hl, h1, h2⟩ := h
    match p, hA with
    | [], hA =>
      simp only [addr, Option.some.injEq, Prod.mk.injEq] at hA
      obtain ⟨rfl, _, rfl⟩ := hA
      exact hb _ _ rfl
    | .i n :: p, hA => simp [addr] at hA
    | .f 0 :: p, hA => exact ihc _ _ c1 a p h1 (fun b o e => let ⟨row, e', q1, q2⟩ := hb b o e; ⟨row, e', q1, by simp only [Ty.size] at q2; omega⟩) hA
    | .f (n + 1) :: p, hA =>
      refine ihd _ _ c2 (a.map fun (x : Nat × Nat) => (x.1, x.2 + t.size)) (.f n :: p) h2 (fun b o e => ?_) (by simpa only [addr] using hA)
      cases a with
      | none => cases e
      | some a =>
        simp only [Option.map_some, Option.some.injEq, Prod.mk.injEq] at e
        obtain ⟨rfl, rfl⟩ := e
        obtain ⟨row, e', q1, q2⟩ := hb _ _ rfl
        exact ⟨row, e', q1, by simp only [Ty.size] at q2; omega⟩
  | dat v y => intro t ft cs a p u fp blk off h hb hA; exact nb _ _ _ _ h.2.1 hb hA
  | unit => intro t ft cs a p u fp blk off h hb hA; exact nb _ _ _ _ h.2.1 hb hA
  | un => intro t ft cs a p u fp blk off h hb hA; exact nb _ _ _ _ h.1 hb hA
  | tup _ _ => intro t ft cs a p u fp blk off h; exact h.elim
  | nil => intro t ft cs a p u fp blk off h hb hA; exact nb _ _ _ _ h.2.2.1 hb hA
  | ref _ _ => intro t ft cs a p u fp blk off h hb hA; exact nb _ _ _ _ h.2.2.1 hb hA
  | sl _ _ => intro t ft cs a p u fp blk off h hb hA; exact nb _ _ _ _ h.2.2.1 hb hA
  | slw _ _ _ _ => intro t ft cs a p u fp blk off h hb hA; exact nb _ _ _ _ h.2.2.1 hb hA
  | rop _ _ => intro t ft cs a p u fp blk off h hb hA; exact nb _ _ _ _ h.2.2.1 hb hA
  | clo _ _ _ => intro t ft cs a p u fp blk off h hb hA; exact nb _ _ _ _ h.2.2.1 hb hA

section
variable {ρ : Type} {F : Fr} {G : Nat → Gh} {s : St} {a : Act} {w : World}

theorem box_set {i : Nat} {x : Box} (hx : s.box i = some x) (c : TV) (j : Nat) :
    (s.setBox i { x with c := c }).box j = if j = i then some (x.with c) else (s.box j).map fun y => y.with y.c := by
  rw [box_setBox s i _ x hx]
  by_cases e : j = i
  · subst e; simp [Box.with]
  · simp only [Ne.symm e, if_false, e]
    cases s.box j <;> rfl

theorem Rel.may (h : Rel F G s a w) {b : Nat} {p : Path} {u : Ty} {fp : FT} {blk off : Nat} (hA : adr s.box G b p = some (u, fp, some (blk, off))) : May w blk off u.size := by
  unfold adr at hA
  split at hA
  · rename_i x hx
    have hb := h.box b x hx
    obtain ⟨cs0, hcon0, hbase⟩ := hb.con
    refine Con.may _ _ _ _ _ _ hcon0 (fun b' o' e => ?_) hA
    obtain ⟨hat, row, e1, q1, q2, rfl⟩ := hbase b' o' e
    exact ⟨row, e1, q1, by have := hat.len; rw [← q2] at this; simp at this; omega⟩
  · cases hA

/-- a content is written at the address of a path -/
theorem Rel.storeWith (h : Rel F G s a w) {b : Nat} {p : Path} {x : Box} (hx : s.box b = some x) {u : Ty} {fp f : FT} {blk off : Nat} {cs : List Value} {c : TV}
    (hA : adr s.box G b p = some (u, fp, some (blk, off))) (hc : Con (adr s.box G) w F.R c u f cs) (hf : Fresh F G s w f)
    (kl : TV → TV) (s2 : St) (c' : TV)
    (hg : ∀ n, s2.get n = kl (s.get n)) (hb : ∀ j, s2.box j = if j = b then some (x.with (kl c')) else (s.box j).map fun y => y.with (kl y.c))
    (hV : ∀ (A' : AdrF) (w' : World), (A' = adr s2.box (fun j => if j = b then ⟨(G b).base, setF x.ty (G b).ft p f⟩ else G j)) → (∀ b, F.R b → w'.heap[b]? = w.heap[b]?) → ∀ v y, VR (adr s.box G) w F.R v y → VR A' w' F.R (kl v) y)
    (hC : ∀ (A' : AdrF) (w' : World), (A' = adr s2.box (fun j => if j = b then ⟨(G b).base, setF x.ty (G b).ft p f⟩ else G j)) → (∀ b, F.R b → w'.heap[b]? = w.heap[b]?) →
      ∀ c t ft cs, (∀ b ∈ ft.blocks, w'.heap[b]? = w.heap[b]?) → Con (adr s.box G) w F.R c t ft cs → Con A' w' F.R (kl c) t ft cs)
    (hS : ∀ {σ : Type} (k' : TV → Option σ), setC (kl x.c) p (kl c) k' = k' (kl c')) :
    Rel F (fun j => if j = b then ⟨(G b).base, setF x.ty (G b).ft p f⟩ else G j) s2 a (w.setCells blk off cs) := by
  have hA' : addr x.ty (G b).ft ((G b).base.map (·, 0)) p = some (u, fp, some (blk, off)) := by rw [← adr_eq hx]; exact hA
  obtain ⟨s1, s3⟩ := addr_sub _ _ _ _ hA'
  have hnd := h.nodup b x hx
  have hmine := h.mine b x hx
  simp only [Gh.blocks, List.nodup_append] at hnd
  obtain ⟨nd1, nd2, nd3⟩ := hnd
  obtain ⟨cs0, hcon0, hbase⟩ := (h.box b x hx).con
  have hblk : blk ∈ (G b).blocks := by
    simp only [Gh.blocks, List.mem_append]
    rcases s3 with ⟨b0, o0, e0, hm, _⟩ | ⟨d, e0, _⟩
    · simp only [Option.some.injEq, Prod.mk.injEq] at e0; obtain ⟨rfl, rfl⟩ := e0; exact .inr hm
    · cases hb : (G b).base with
      | none => rw [hb] at e0; cases e0
      | some b0 => rw [hb] at e0; simp only [Option.map_some, Option.some.injEq, Prod.mk.injEq] at e0; obtain ⟨rfl, _⟩ := e0; exact .inl (by simp)
  obtain ⟨row, e, q1, q2⟩ := h.may hA
  have hlen := Con.len _ _ _ _ hc
  have hW : Wr w (w.setCells blk off cs) blk off u.size cs := wr_setCells q1 q2 hlen
  have hoth : ∀ c, c ≠ blk → (w.setCells blk off cs).heap[c]? = w.heap[c]? := fun c hc => setCells_other blk cs off w c hc
  have hro : ∀ c, F.R c → (w.setCells blk off cs).heap[c]? = w.heap[c]? := fun c hc => hoth c (fun e => h.ro hx hc (e ▸ hblk))
  have hnf : blk ∉ f.blocks := fun hm => hf.out blk hm b x hx hblk
  have hsz : (w.setCells blk off cs).heap.size = w.heap.size := setCells_size _ _ _ _
  have hnfp : blk ∉ fp.blocks := by
    rcases s3 with ⟨b0, o0, e0, hm, _⟩ | ⟨d, e0, _⟩
    · simp only [Option.some.injEq, Prod.mk.injEq] at e0
      obtain ⟨rfl, rfl⟩ := e0
      have : ∀ (t : Ty) (ft : FT) (a : Option (Nat × Nat)) (p : Path) {u : Ty} {fp : FT} {blk off : Nat}, addr t ft a p = some (u, fp, some (blk, off)) → ft.blocks.Nodup → (∀ b o, a = some (b, o) → b ∉ ft.blocks) → blk ∉ fp.blocks := by
        intro t
        induction t with
        | cons t r iht ihr =>
          intro ft a p u fp blk off h1 h2 h3
          have h4 : ft.fst.blocks.Nodup ∧ ft.snd.blocks.Nodup := by
            cases ft with
            | pair a d => simp only [FT.blocks, List.nodup_append] at h2; exact ⟨h2.1, h2.2.1⟩
            | _ => simp [FT.fst, FT.snd, FT.blocks]
          match p, h1 with
          | [], h1 => simp only [addr, Option.some.injEq, Prod.mk.injEq] at h1; obtain ⟨_, rfl, rfl⟩ := h1; exact h3 _ _ rfl
          | .f 0 :: p, h1 => exact iht _ _ _ h1 h4.1 (fun b o e hm => h3 b o e (fst_sub hm))
          | .f (n + 1) :: p, h1 =>
            refine ihr _ _ _ h1 h4.2 (fun b o e hm => ?_)
            cases a with
            | none => cases e
            | some a => simp only [Option.map_some, Option.some.injEq, Prod.mk.injEq] at e; obtain ⟨rfl, rfl⟩ := e; exact h3 _ _ rfl (snd_sub hm)
          | .i n :: p, h1 => simp [addr] at h1
        | slice t iht =>
          intro ft a p u fp blk off h1 h2 h3
          match p, h1 with
          | [], h1 => simp only [addr, Option.some.injEq, Prod.mk.injEq] at h1; obtain ⟨_, rfl, rfl⟩ := h1; exact h3 _ _ rfl
          | .f n :: p, h1 => simp [addr] at h1
          | .i n :: p, h1 =>
            match ft, h1, h2 with
            | .leaf, h1, _ => simp [addr] at h1
            | .pair _ _, h1, _ => simp [addr] at h1
            | .node none _ _, h1, _ => simp [addr] at h1
            | .node (some b) cap ks, h1, h2 =>
              simp only [addr] at h1
              split at h1
              · rename_i kn hk
                simp only [FT.blocks, Option.toList_some, List.singleton_append, List.nodup_cons] at h2
                refine iht _ _ _ h1 (blocksL_set_nodup hk h2.2).1 (fun b' o' e hm => ?_)
                simp only [Option.some.injEq, Prod.mk.injEq] at e
                obtain ⟨rfl, rfl⟩ := e
                exact h2.1 (blocksL_mem (List.mem_of_getElem? hk) hm)
              · cases h1
        | arr m t _ =>
          intro ft a p u fp blk off h1 h2 h3
          match p, h1 with
          | [], h1 => simp only [addr, Option.some.injEq, Prod.mk.injEq] at h1; obtain ⟨_, rfl, rfl⟩ := h1; exact h3 _ _ rfl
          | .f n :: p, h1 => simp [addr] at h1
          | .i n :: q :: p, h1 => simp [addr] at h1
          | [.i n], h1 =>
            simp only [addr] at h1
            split at h1
            · cases h1
            · simp only [Option.some.injEq, Prod.mk.injEq] at h1; obtain ⟨_, rfl, _⟩ := h1; simp [FT.blocks]
        | _ =>
          intro ft a p u fp blk off h1 h2 h3
          cases p with
          | nil => simp only [addr, Option.some.injEq, Prod.mk.injEq] at h1; obtain ⟨_, rfl, rfl⟩ := h1; exact h3 _ _ rfl
          | cons q p => simp [addr] at h1
      exact this _ _ _ _ hA' nd2 (fun b' o' e hm => by
        cases hb0 : (G b).base with
        | none => rw [hb0] at e; cases e
        | some bb => rw [hb0] at e; simp only [Option.map_some, Option.some.injEq, Prod.mk.injEq] at e; obtain ⟨rfl, _⟩ := e; exact nd3 bb (by simp [hb0]) bb hm rfl)
    · cases hb0 : (G b).base with
      | none => rw [hb0] at e0; cases e0
      | some bb =>
        rw [hb0] at e0; simp only [Option.map_some, Option.some.injEq, Prod.mk.injEq] at e0
        obtain ⟨rfl, _⟩ := e0
        exact fun hm => nd3 blk (by simp [hb0]) blk (s1 _ hm) rfl
  let G2 : Nat → Gh := fun j => if j = b then ⟨(G b).base, setF x.ty (G b).ft p f⟩ else G j
  have hcon2 : Con (adr s2.box G2) w F.R (kl x.c) x.ty (G b).ft cs0 := hC _ w rfl (fun _ _ => rfl) _ _ _ _ (fun _ _ => rfl) hcon0
  have hcc : Con (adr s2.box G2) (w.setCells blk off cs) F.R (kl c) u f cs := hC _ _ rfl hro _ _ _ _ (fun c hc => hoth c (fun e => hnf (e ▸ hc))) hc
  obtain ⟨c2, cs2, g1, g2, g3, g4⟩ := Con.set hW hcc (kl x.c) x.ty (G b).ft cs0 ((G b).base.map (·, 0)) p (fun c => some c) (kl c') hcon2
    (fun b' o' e' => by
      obtain ⟨hat', _⟩ := hbase b' o' e'
      refine ⟨hat', fun hm => ?_, fun hne => hoth b' hne⟩
      cases hb0 : (G b).base with
      | none => rw [hb0] at e'; cases e'
      | some bb => rw [hb0] at e'; simp only [Option.map_some, Option.some.injEq, Prod.mk.injEq] at e'; obtain ⟨rfl, _⟩ := e'; exact nd3 bb (by simp [hb0]) bb hm rfl)
    nd2 hA' (hS _) ⟨fun c _ _ hne => hoth c hne, hnfp, hro⟩
  obtain rfl := Option.some.inj g1
  refine h.core hx hA kl rfl hg hb (fun v y hv => hV _ _ rfl hro v y hv) (fun c t ft cs hag hcn => hC _ _ rfl hro c t ft cs hag hcn) ?_ ⟨Nat.le_of_eq hsz.symm, setCells_os _ _ _ _, setCells_output _ _ _ _⟩ (fun c _ hc => hoth c (fun e => hc (e ▸ hblk))) hf.nodup (fun c hc => .inr (hf.out c hc)) (fun c hc => by rw [hsz]; exact hf.mine c hc) (fun _ hv => by
    have hob := h.box b x hx
    unfold BoxRel at hob
    rw [if_pos hv] at hob
    obtain ⟨hbn, ⟨t', ht'⟩, _⟩ := hob
    rw [hbn, ht'] at hA'
    rw [ht']
    cases p with
    | nil => simp [addr] at hA'
    | cons q p =>
      cases q with
      | f n => simp [addr] at hA'
      | i n =>
        cases hft : (G b).ft with
        | leaf => rw [hft] at hA'; simp [addr] at hA'
        | pair _ _ => rw [hft] at hA'; simp [addr] at hA'
        | node bk cap ks =>
          cases bk with
          | none => rw [hft] at hA'; simp [addr] at hA'
          | some bk =>
            simp only [setF]
            split <;> simp [FT.hdr])
  unfold BoxRel
  have hob := h.box b x hx
  unfold BoxRel at hob
  by_cases hv : x.virt = true
  · rw [if_pos (show (x.with (kl c')).virt = true from hv)]
    rw [if_pos hv] at hob
    exact ⟨by simpa using hob.1, hob.2.1, cs2, by simp only [if_true]; exact g2⟩
  · rw [if_neg (show ¬ (x.with (kl c')).virt = true from hv)]
    rw [if_neg hv] at hob
    obtain ⟨blk0, row0, e0, hb1, hb2, hb3, hb4⟩ := hob
    have hat4 := g4 blk0 0 (by rw [hb1]; rfl)
    obtain ⟨row', e', fz', w1, w2, rfl⟩ := hat4
    have hfree : ∃ row1 e1, (w.setCells blk off cs).heap[blk0]? = some (.cells row1 e1 (0, 0)) ∧ row1.size = row0.size := by
      by_cases hbb : blk0 = blk
      · subst hbb
        obtain ⟨row1, e1, k1, k2⟩ := hW.free ⟨row0, e0, hb2, rfl⟩
        exact ⟨row1, e1, k1, k2.symm⟩
      · exact ⟨row0, e0, by rw [hoth blk0 hbb]; exact hb2, rfl⟩
    obtain ⟨row1, e1, k1, k2⟩ := hfree
    rw [k1] at w1
    simp only [Option.some.injEq, Obj.cells.injEq] at w1
    obtain ⟨rfl, rfl, rfl⟩ := w1
    refine ⟨blk0, row1, e1, by simp [hb1], k1, by rw [k2]; exact hb3, ?_⟩
    simp only [if_true]
    rw [List.drop_zero, List.take_of_length_le (by simp; omega)] at g2
    exact g2
end
end Go.TM
/-! ## TmR -/
namespace Go.TM
set_option autoImplicit false

def zcells : Ty → List Value
  | .int k => [.int k 0]
  | .bool => [.bool false]
  | .str => [.string ⟨#[]⟩]
  | .opq => [.pointer none]
  | .slice _ => [.slice none 0 0]
  | .unit => []
  | .cons t r => zcells t ++ zcells r
  | .arr n t => (List.replicate n (zcells t)).flatten

def cellB : Value → Value → Bool
  | .int k n, .int k' n' => decide (k = k') && decide (n = n')
  | .bool b, .bool b' => b == b'
  | .string s, .string s' => decide (s.data.toList = s'.data.toList)
  | .slice none 0 0, .slice none 0 0 => true
  | _, _ => false
def cellsB : List Value → List Value → Bool
  | [], [] => true
  | a :: l, b :: r => cellB a b && cellsB l r
  | _, _ => false

theorem cellB_eq : ∀ {a b : Value}, cellB a b = true → a = b := by
  intro a b h
  unfold cellB at h
  split at h
  · simp at h; rw [h.1, h.2]
  · simp at h; rw [h]
  · rename_i s s'
    have : s.data.toList = s'.data.toList := by simpa using h
    obtain ⟨⟨l⟩⟩ := s
    obtain ⟨⟨l'⟩⟩ := s'
    simp at this
    rw [this]
  · rfl
  · cases h
theorem cellsB_eq : ∀ {a b : List Value}, cellsB a b = true → a = b
  | [], [], _ => rfl
  | a :: l, b :: r, h => by
    simp only [cellsB, Bool.and_eq_true] at h
    rw [cellB_eq h.1, cellsB_eq h.2]
  | [], _ :: _, h => by simp [cellsB] at h
  | _ :: _, [], h => by simp [cellsB] at h

def isAggV : Value → Bool
  | .agg _ => true
  | _ => false

def headB (P : Program) (T : Ty) (t : TypeId) : Bool :=
  match P.info? t with
  | some i => i.size == T.size && decide (i.bytes ≤ 4096 ∧ (T.size = 0 ∨ 1 ≤ i.bytes)) && (!T.nopq || (match i.zero with
    | some z => cellsB z.cells.toList (zcells T) && (isAggV z == T.agg)
    | none => false)) && (!decide (T = .opq) || (match i.zero with
    | some z => z.cells.toList.length == 1
    | none => false))
  | none => false

mutual
def tyB (P : Program) : Ty → TypeId → Bool
  | .int k, t => headB P (.int k) t && (match P.underlying t with
    | some (.int k') => decide (k = k')
    | _ => false)
  | .bool, t => headB P .bool t && (match P.underlying t with
    | some .bool => true
    | _ => false)
  | .str, t => headB P .str t && (match P.underlying t with
    | some .string => true
    | _ => false)
  | .opq, t => headB P .opq t && (match P.underlying t with
    | some (.pointer _) => true
    | some (.func _ _ _) => true
    | some (.map _ _) => true
    | _ => false)
  | .slice T, t => headB P (.slice T) t && (match P.underlying t with
    | some (.slice e) => tyB P T e
    | _ => false)
  | .unit, t => headB P .unit t && (match P.underlying t with
    | some (.struct fs) => fs.toList.isEmpty
    | _ => false)
  | .cons a r, t => headB P (.cons a r) t && !P.stoodInHeld t && !P.eqGuardType P.depth t && (match P.underlying t with
    | some (.struct fs) => match fs.toList with
      | f :: l => f.offset == 0 && !(a.size == 0) && (f.name != "_") && tyB P a f.type && fieldsB P r l a.size
      | [] => false
    | _ => false)
  | .arr n T, t => headB P (.arr n T) t && T.flat && (match P.underlying t with
    | some (.array m e) => m == n && tyB P T e
    | _ => false)
def fieldsB (P : Program) : Ty → List Field → Nat → Bool
  | .unit, [], _ => true
  | .cons a r, f :: l, o => f.offset == o && !(a.size == 0) && (f.name != "_") && tyB P a f.type && fieldsB P r l (o + a.size)
  | _, _, _ => false
end

/-- what a program's type must be to be read as T -/
abbrev TyIs (P : Program) (T : Ty) (t : TypeId) : Prop := tyB P T t = true

theorem TyIs.head {P : Program} {T : Ty} {t : TypeId} (h : TyIs P T t) : headB P T t = true := by
  unfold TyIs at h
  cases T <;> simp only [tyB, Bool.and_eq_true] at h
  case cons => exact h.1.1.1
  case arr => exact h.1.1
  all_goals exact h.1

theorem TyIs.info {P : Program} {T : Ty} {t : TypeId} (h : TyIs P T t) : ∃ i, P.info? t = some i ∧ i.size = T.size ∧ i.bytes ≤ 4096 ∧
    (T.nopq = true → ∃ z, i.zero = some z ∧ z.cells.toList = zcells T ∧ isAggV z = T.agg) := by
  have := h.head
  unfold headB at this
  split at this
  · rename_i i hi
    simp only [Bool.and_eq_true, beq_iff_eq, decide_eq_true_eq, Bool.or_eq_true, Bool.not_eq_true'] at this
    obtain ⟨⟨⟨h1, h2⟩, h3⟩, _⟩ := this
    refine ⟨i, hi, h1, h2.1, fun hn => ?_⟩
    rcases h3 with h3 | h3
    · rw [hn] at h3; cases h3
    · split at h3
      · rename_i z hz
        simp only [Bool.and_eq_true, beq_iff_eq] at h3
        exact ⟨z, hz, cellsB_eq h3.1, h3.2⟩
      · cases h3
  · cases this

theorem TyIs.bytes {P : Program} {T : Ty} {t : TypeId} (h : TyIs P T t) (hs : T.size ≠ 0) : ∃ i, P.info? t = some i ∧ i.size = T.size ∧ 1 ≤ i.bytes := by
  have := h.head
  unfold headB at this
  split at this
  · rename_i i hi
    simp only [Bool.and_eq_true, beq_iff_eq, decide_eq_true_eq, Bool.or_eq_true, Bool.not_eq_true'] at this
    obtain ⟨⟨⟨h1, h2⟩, h3⟩, _⟩ := this
    exact ⟨i, hi, h1, h2.2.resolve_left hs⟩
  · cases this

theorem TyIs.opq {P : Program} {t : TypeId} (h : TyIs P .opq t) : ∃ i z, P.info? t = some i ∧ i.zero = some z ∧ z.cells.toList.length = 1 := by
  have := h.head
  unfold headB at this
  split at this
  · rename_i i hi
    simp only [Bool.and_eq_true] at this
    obtain ⟨_, h3⟩ := this
    simp only [decide_true, Bool.not_true, Bool.false_or] at h3
    split at h3
    · rename_i z hz
      exact ⟨i, z, hi, hz, by simpa using h3⟩
    · cases h3
  · cases this

theorem TyIs.slice {P : Program} {T : Ty} {t : TypeId} (h : TyIs P (.slice T) t) : ∃ e, P.underlying t = some (.slice e) ∧ TyIs P T e := by
  unfold TyIs at h
  simp only [tyB, Bool.and_eq_true] at h
  obtain ⟨_, h⟩ := h
  split at h
  · rename_i e he; exact ⟨e, he, h⟩
  · cases h

theorem TyIs.arr {P : Program} {n : Nat} {T : Ty} {t : TypeId} (h : TyIs P (.arr n T) t) : ∃ e, P.underlying t = some (.array n e) ∧ TyIs P T e ∧ T.flat = true := by
  unfold TyIs at h
  simp only [tyB, Bool.and_eq_true] at h
  obtain ⟨⟨_, hf⟩, h⟩ := h
  split at h
  · rename_i m e he
    simp only [Bool.and_eq_true, beq_iff_eq] at h
    obtain ⟨rfl, h⟩ := h
    exact ⟨e, he, h, hf⟩
  · cases h

/-- the n-th field -/
def offOf : Ty → Nat → Nat
  | .cons t r, n + 1 => t.size + offOf r n
  | _, _ => 0

theorem fieldsB_nth {P : Program} : ∀ (T : Ty) (l : List Field) (o n : Nat) (u : Ty), fieldsB P T l o = true → tyAt T [.f n] = some u →
    ∃ f, l[n]? = some f ∧ f.offset = o + offOf T n ∧ u.size ≠ 0 ∧ TyIs P u f.type := by
  intro T
  induction T with
  | cons a r _ ihr =>
    intro l o n u h hu
    cases l with
    | nil => simp [fieldsB] at h
    | cons f l =>
      simp only [fieldsB, Bool.and_eq_true, beq_iff_eq, Bool.not_eq_true', beq_eq_false_iff_ne] at h
      obtain ⟨⟨⟨⟨h1, h2⟩, _⟩, h3⟩, h4⟩ := h
      cases n with
      | zero =>
        simp only [tyAt, Option.some.injEq] at hu
        have hu : a = u := by cases a <;> simpa [tyAt] using hu
        subst hu
        exact ⟨f, rfl, by simp [offOf, h1], h2, h3⟩
      | succ n =>
        obtain ⟨g, g1, g2, g3, g4⟩ := ihr l _ n u h4 (by simpa [tyAt] using hu)
        exact ⟨g, by simpa using g1, by simp [offOf, g2]; omega, g3, g4⟩
  | _ => intro l o n u h hu; simp [tyAt] at hu

theorem TyIs.struct {P : Program} {T : Ty} {t : TypeId} (h : TyIs P T t) {n : Nat} {u : Ty} (hu : tyAt T [.f n] = some u) :
    ∃ fs f, P.underlying t = some (.struct fs) ∧ fs[n]? = some f ∧ f.offset = offOf T n ∧ u.size ≠ 0 ∧ TyIs P u f.type := by
  cases T with
  | cons a r =>
    unfold TyIs at h
    simp only [tyB, Bool.and_eq_true] at h
    obtain ⟨_, h⟩ := h
    split at h
    · rename_i fs hfs
      split at h
      · rename_i f l hl
        simp only [Bool.and_eq_true, beq_iff_eq, Bool.not_eq_true', beq_eq_false_iff_ne] at h
        obtain ⟨⟨⟨⟨h1, h2⟩, _⟩, h3⟩, h4⟩ := h
        cases n with
        | zero =>
          have hu : a = u := by cases a <;> simpa [tyAt] using hu
          subst hu
          exact ⟨fs, f, hfs, by rw [← Array.getElem?_toList, hl]; rfl, by simp [offOf, h1], h2, h3⟩
        | succ n =>
          obtain ⟨g, g1, g2, g3, g4⟩ := fieldsB_nth r l _ n u h4 (by simpa [tyAt] using hu)
          exact ⟨fs, g, hfs, by rw [← Array.getElem?_toList, hl]; simpa using g1, by simp [offOf, g2], g3, g4⟩
      · cases h
    · cases h
  | _ => simp [tyAt] at hu

theorem TyIs.row {P : Program} {T : Ty} {t : TypeId} (h : TyIs P T t) : ∃ d, P.underlying t = some d ∧ d.isRow = T.agg := by
  unfold TyIs at h
  cases T <;> simp only [tyB, Bool.and_eq_true] at h <;> obtain ⟨_, h⟩ := h <;> (split at h <;> first | exact ⟨_, by assumption, rfl⟩ | cases h)

end Go.TM
/-! ## TmS -/
namespace Go.TM
set_option autoImplicit false

theorem addr_app : ∀ (t : Ty) (ft : FT) (a : Option (Nat × Nat)) (p q : Path) {u : Ty} {f : FT} {a' : Option (Nat × Nat)}, addr t ft a p = some (u, f, a') → addr t ft a (p ++ q) = addr u f a' q := by
  intro t
  induction t with
  | cons t r iht ihr =>
    intro ft a p q u f a' h
    match p, h with
    | [], h => simp only [addr, Option.some.injEq, Prod.mk.injEq] at h; obtain ⟨rfl, rfl, rfl⟩ := h; rfl
    | .f 0 :: p, h => simp only [addr] at h; simp only [List.cons_append, addr]; exact iht _ _ _ _ h
    | .f (n + 1) :: p, h => simp only [addr] at h; simp only [List.cons_append, addr]; exact ihr _ _ (.f n :: p) _ h
    | .i n :: p, h => simp [addr] at h
  | slice t iht =>
    intro ft a p q u f a' h
    match p, h with
    | [], h => simp only [addr, Option.some.injEq, Prod.mk.injEq] at h; obtain ⟨rfl, rfl, rfl⟩ := h; rfl
    | .f n :: p, h => simp [addr] at h
    | .i n :: p, h =>
      cases ft with
      | leaf => simp [addr] at h
      | pair _ _ => simp [addr] at h
      | node ob cap ks =>
        cases ob with
        | none => simp [addr] at h
        | some b =>
          simp only [addr] at h
          simp only [List.cons_append, addr]
          cases hk : ks[n]? with
          | none => rw [hk] at h; cases h
          | some k => rw [hk] at h; exact iht _ _ _ _ h
  | arr m t _ =>
    intro ft a p q u f a' h
    match p, h with
    | [], h => simp only [addr, Option.some.injEq, Prod.mk.injEq] at h; obtain ⟨rfl, rfl, rfl⟩ := h; rfl
    | .f n :: p, h => simp [addr] at h
    | .i n :: s :: p, h => simp [addr] at h
    | [.i n], h =>
      cases q with
      | nil => rw [List.append_nil, h]; cases u <;> rfl
      | cons s q =>
        simp only [addr] at h
        split at h
        · cases h
        · rename_i hc
          simp only [Option.some.injEq, Prod.mk.injEq] at h
          obtain ⟨rfl, rfl, rfl⟩ := h
          simp only [Bool.or_eq_true, not_or, Bool.not_eq_true] at hc
          have hag := hc.1
          simp only [List.cons_append, List.nil_append, addr]
          cases t <;> first | (simp [Ty.agg] at hag; done) | (cases s <;> simp [addr])
  | _ =>
    intro ft a p q u f a' h
    cases p with
    | nil => simp only [addr, Option.some.injEq, Prod.mk.injEq] at h; obtain ⟨rfl, rfl, rfl⟩ := h; rfl
    | cons s p => simp [addr] at h

theorem adr_app {B : Nat → Option Box} {G : Nat → Gh} {b : Nat} {p q : Path} {u : Ty} {f : FT} {a : Option (Nat × Nat)} (h : adr B G b p = some (u, f, a)) : adr B G b (p ++ q) = addr u f a q := by
  unfold adr at *
  split at h
  · exact addr_app _ _ _ _ _ h
  · cases h

theorem adr_tyAt {B : Nat → Option Box} {G : Nat → Gh} {b : Nat} {p : Path} {u : Ty} {f : FT} {a : Option (Nat × Nat)} {x : Box} (hx : B b = some x) (h : adr B G b p = some (u, f, a)) : tyAt x.ty p = some u := by
  rw [adr_eq hx] at h
  exact addr_ty _ _ _ _ h

theorem Rd.of_flat {w : World} {R : Nat → Prop} : ∀ {t : Ty} {x : t.den}, t.flat = true → fok t x → Rd w R t x (fcells t x)
  | .int _, _, hf, hk => ⟨hf, hk, rfl⟩
  | .bool, _, hf, hk => ⟨hf, hk, rfl⟩
  | .str, _, hf, hk => ⟨hf, hk, rfl⟩
  | .unit, _, hf, hk => ⟨hf, hk, rfl⟩
  | .arr _ _, _, hf, hk => ⟨hf, hk, rfl⟩
  | .opq, _, hf, _ => by simp [Ty.flat] at hf
  | .slice _, _, hf, _ => by simp [Ty.flat] at hf
  | .cons t r, x, hf, hk => by
    simp only [Ty.flat, Bool.and_eq_true] at hf
    exact ⟨_, _, rfl, Rd.of_flat hf.1 hk.1, Rd.of_flat hf.2 hk.2⟩

section
variable {A : AdrF} {w : World} {R : Nat → Prop}

/-- where the view of a content stands -/
def Place (A : AdrF) (b : Nat) (t : Ty) (ft : FT) (a : Option (Nat × Nat)) (p : Path) (n : Nat) : Prop :=
  match t with
  | .cons t r => ∀ m q, A b (p ++ .f (n + m) :: q) = addr (.cons t r) ft a (.f m :: q)
  | .unit => True
  | t => ∀ q, A b (p ++ q) = addr t ft a q

theorem Place.head {b : Nat} {t r : Ty} {ft : FT} {a : Option (Nat × Nat)} {p : Path} {n : Nat} (h : Place A b (.cons t r) ft a p n) : Place A b t ft.fst a (p ++ [.f n]) 0 := by
  unfold Place
  split
  · intro m q
    have := h 0 (.f m :: q)
    simp only [Nat.add_zero, addr] at this
    simpa using this
  · trivial
  · intro q
    have := h 0 q
    simp only [Nat.add_zero, addr] at this
    simpa using this

theorem Place.tail {b : Nat} {t : Ty} {r : Ty} {ft : FT} {a : Option (Nat × Nat)} {p : Path} {n : Nat} (h : Place A b (.cons t r) ft a p n) (hr : r = .unit ∨ ∃ c d, r = .cons c d) :
    Place A b r ft.snd (a.map fun x => (x.1, x.2 + t.size)) p (n + 1) := by
  rcases hr with rfl | ⟨c, d, rfl⟩
  · trivial
  · intro m q
    have := h (m + 1) q
    simp only [addr] at this
    rw [show n + 1 + m = n + (m + 1) by omega]
    exact this

theorem Place.here {b : Nat} {t : Ty} {ft : FT} {a : Option (Nat × Nat)} {p : Path} (h : ∀ q, A b (p ++ q) = addr t ft a q) : Place A b t ft a p 0 := by
  unfold Place
  split
  · intro m q; rw [Nat.zero_add]; exact h _
  · trivial
  · exact h

theorem tyAt_fine : ∀ (t : Ty) (p : Path) (u : Ty), t.fine → tyAt t p = some u → u.fine := by
  intro t
  induction t with
  | cons t r iht ihr =>
    intro p u h hu
    match p, hu with
    | [], hu => simp only [tyAt, Option.some.injEq] at hu; subst hu; exact h
    | .f 0 :: p, hu => exact iht p u h.1 hu
    | .f (n + 1) :: p, hu => exact ihr (.f n :: p) u h.2.1 hu
    | .i n :: p, hu => simp [tyAt] at hu
  | slice t iht =>
    intro p u h hu
    match p, hu with
    | [], hu => simp only [tyAt, Option.some.injEq] at hu; subst hu; exact h
    | .f n :: p, hu => simp [tyAt] at hu
    | .i n :: p, hu => exact iht p u h hu
  | arr m t iht =>
    intro p u h hu
    match p, hu with
    | [], hu => simp only [tyAt, Option.some.injEq] at hu; subst hu; exact h
    | .f n :: p, hu => simp [tyAt] at hu
    | .i n :: s :: p, hu => simp [tyAt] at hu
    | [.i n], hu =>
      simp only [tyAt] at hu
      split at hu
      · cases hu
      · simp only [Option.some.injEq] at hu; subst hu; exact h
  | _ =>
    intro p u h hu
    cases p with
    | nil => simp only [tyAt, Option.some.injEq] at hu; subst hu; exact h
    | cons s p => simp [tyAt] at hu

theorem viewF_val : ∀ (t : Ty) (x : t.den) (ft : FT) (cs : List Value) (b : Nat) (a : Option (Nat × Nat)) (p : Path) (n : Nat), t.fine → Own w t x ft cs → Place A b t ft a p n → (t.flat = false → t.agg = false → n = 0) →
    VRc A w R (viewF b t x p n) cs ∧ (viewF b t x p n).agg = t.agg := by
  intro t
  induction t with
  | cons t r iht ihr =>
    intro x ft cs b a p n hfi h hp _
    simp only [viewF]
    split
    · rename_i hf
      obtain ⟨h1, rfl, _⟩ := Own.flatc hf h
      exact ⟨Rd.of_flat hf h1, rfl⟩
    · obtain ⟨_, c1, c2, rfl, h1, h2⟩ := h
      refine ⟨⟨c1, c2, rfl, (iht x.1 _ c1 b a _ 0 hfi.1 h1 hp.head (fun _ _ => rfl)).1, (ihr x.2 _ c2 b _ p (n + 1) hfi.2.1 h2 (hp.tail hfi.2.2) (fun h3 h4 => ?_)).1⟩, rfl⟩
      rcases hfi.2.2 with rfl | ⟨c, d, rfl⟩
      · simp [Ty.agg] at h4
      · simp [Ty.agg] at h4
  | slice t _ =>
    intro x ft cs b a p n hfi h hp hn
    obtain rfl := hn rfl rfl
    obtain ⟨bk, cap, ks, rfl, rfl, h1, h2, h3, h4⟩ := h
    refine ⟨⟨t, bk, cap, ks, a, ?_, by rw [h3]⟩, rfl⟩
    have := hp []
    rw [List.append_nil] at this
    exact this
  | unit => intro x ft cs b a p n _ h _ _; exact ⟨h.2.2.2, rfl⟩
  | opq => intro x ft cs b a p n _ h _ _; exact h.elim
  | int k => intro x ft cs b a p n _ h _ _; exact ⟨⟨rfl, h.2.1, h.2.2.2⟩, rfl⟩
  | bool => intro x ft cs b a p n _ h _ _; exact ⟨⟨rfl, h.2.1, h.2.2.2⟩, rfl⟩
  | str => intro x ft cs b a p n _ h _ _; exact ⟨⟨rfl, h.2.1, h.2.2.2⟩, rfl⟩
  | arr m t _ =>
    intro x ft cs b a p n _ h _ _
    simp only [viewF]
    rw [if_pos h.1]
    exact ⟨⟨h.1, h.2.1, h.2.2.2⟩, rfl⟩

theorem viewC_val : ∀ (c : TV) (t : Ty) (ft : FT) (cs : List Value) (b : Nat) (a : Option (Nat × Nat)) (p : Path) (n : Nat), t.fine → Con A w R c t ft cs → Place A b t ft a p n → (t.agg = false → n = 0) →
    VRc A w R (viewC b c p n) cs ∧ (viewC b c p n).agg = t.agg := by
  intro c
  induction c with
  | own u x =>
    intro t ft cs b a p n hfi h hp hn
    obtain ⟨rfl, h⟩ := h
    cases u with
    | cons u v => exact viewF_val _ _ _ _ _ _ _ _ hfi h hp (fun _ h => (by simp [Ty.agg] at h))
    | unit => exact ⟨h.2.2.2, rfl⟩
    | arr m u =>
      simp only [viewC, viewF]
      rw [if_pos h.1]
      exact ⟨⟨h.1, h.2.1, h.2.2.2⟩, rfl⟩
    | opq => exact h.elim
    | slice u => obtain rfl := hn rfl; exact viewF_val _ _ _ _ _ _ _ _ hfi h hp (fun _ _ => rfl)
    | int _ => obtain rfl := hn rfl; exact viewF_val _ _ _ _ _ _ _ _ hfi h hp (fun _ _ => rfl)
    | bool => obtain rfl := hn rfl; exact viewF_val _ _ _ _ _ _ _ _ hfi h hp (fun _ _ => rfl)
    | str => obtain rfl := hn rfl; exact viewF_val _ _ _ _ _ _ _ _ hfi h hp (fun _ _ => rfl)
  | cons c d ihc ihd =>
    intro t ft cs b a p n hfi h hp hn
    cases t <;> try exact h.elim
    obtain ⟨_, c1, c2, rfl, hl, h1, h2⟩ := h
    refine ⟨⟨c1, c2, rfl, (ihc _ _ c1 b a _ 0 hfi.1 h1 hp.head (fun _ => rfl)).1, (ihd _ _ c2 b _ p (n + 1) hfi.2.1 h2 (hp.tail hfi.2.2) (fun h4 => ?_)).1⟩, rfl⟩
    rcases hfi.2.2 with e | ⟨_, _, e⟩ <;> rw [e] at h4 <;> simp [Ty.agg] at h4
  | dat u x => intro t ft cs b a p n _ h _ _; obtain ⟨rfl, _, h⟩ := h; exact ⟨h, rfl⟩
  | unit => intro t ft cs b a p n _ h _ _; obtain ⟨rfl, _, h⟩ := h; exact ⟨h, rfl⟩
  | un =>
    intro t ft cs b a p n _ h _ _
    obtain ⟨_, _, h1, h2⟩ := h
    match cs, h2 with
    | [v], _ => exact ⟨⟨v, rfl⟩, h1.symm⟩
  | tup _ _ => intro t ft cs b a p n _ h; exact h.elim
  | nil => intro t ft cs b a p n _ h _ _; exact ⟨h.2.2.2, h.2.1.symm⟩
  | ref _ _ => intro t ft cs b a p n _ h _ _; exact ⟨h.2.2.2, h.2.1.symm⟩
  | sl _ _ => intro t ft cs b a p n _ h _ _; exact ⟨h.2.2.2, h.2.1.symm⟩
  | slw _ _ _ _ => intro t ft cs b a p n _ h _ _; exact ⟨h.2.2.2, h.2.1.symm⟩
  | rop _ _ => intro t ft cs b a p n _ h _ _; exact ⟨h.2.2.2, h.2.1.symm⟩
  | clo _ _ _ => intro t ft cs b a p n _ h _ _; exact ⟨h.2.2.2, h.2.1.symm⟩
end
end Go.TM
/-! ## TmU -/
namespace Go.TM
set_option autoImplicit false

section
variable {ρ : Type} {P : Program} {E : Env} {F : Fr} {G : Nat → Gh} {s : St} {a : Act} {w : World}

/-- what holds behind: the run goes on to r -/
def Post (F : Fr) (k : St → Option ρ) (r : ρ) (a : Act) (w : World) : Prop := ∃ G s, Rel F G s a w ∧ k s = some r

structure TyOk (P : Program) (E : Env) (F : Fr) : Prop where
  ty : ∀ t T, E.tyOf t = some T → TyIs P T t
  nt : E.nt = F.nt

theorem TyIs.fine {P : Program} : ∀ (T : Ty) (t : TypeId), TyIs P T t → T.fine := by
  have rest : ∀ (r : Ty) (l : List Field) (o : Nat), fieldsB P r l o = true → r = .unit ∨ ∃ c d, r = .cons c d := by
    intro r l o h
    cases r <;> cases l <;> simp [fieldsB] at h ⊢
  have flds : ∀ (T : Ty), (∀ (t : TypeId), TyIs P T t → T.fine) ∧ (∀ l o, fieldsB P T l o = true → T.fine) := by
    intro T
    induction T with
    | cons a r iha ihr =>
      refine ⟨fun t h => ?_, fun l o h => ?_⟩
      · unfold TyIs at h
        simp only [tyB, Bool.and_eq_true] at h
        obtain ⟨_, h⟩ := h
        split at h
        · split at h
          · simp only [Bool.and_eq_true] at h
            exact ⟨iha.1 _ h.1.2, ihr.2 _ _ h.2, rest _ _ _ h.2⟩
          · cases h
        · cases h
      · cases l with
        | nil => simp [fieldsB] at h
        | cons f l =>
          simp only [fieldsB, Bool.and_eq_true] at h
          exact ⟨iha.1 _ h.1.2, ihr.2 _ _ h.2, rest _ _ _ h.2⟩
    | slice T ih =>
      refine ⟨fun t h => ?_, fun l o h => by cases l <;> simp [fieldsB] at h⟩
      obtain ⟨e, _, h⟩ := TyIs.slice h
      exact ih.1 _ h
    | arr n T ih =>
      refine ⟨fun t h => ?_, fun l o h => by cases l <;> simp [fieldsB] at h⟩
      obtain ⟨e, _, h, _⟩ := TyIs.arr h
      exact ih.1 _ h
    | _ => exact ⟨fun t _ => trivial, fun l o _ => trivial⟩
  exact fun T t h => (flds T).1 t h

theorem ev_sound (h : Rel F G s a w) (x : Operand) : VR (adr s.box G) w F.R (s.ev x) (a.eval x) := by
  cases x with
  | tmp t => exact h.tmps t
  | global g => exact .inl rfl
  | func f => exact .inr ⟨_, ⟨[], rfl, rfl⟩, rfl⟩
  | const v =>
    simp only [St.ev, Act.eval]
    unfold constTV
    split
    · exact .inr ⟨_, ⟨rfl, trivial, rfl⟩, rfl⟩
    · exact .inr ⟨_, ⟨rfl, trivial, rfl⟩, rfl⟩
    · rename_i b
      split
      · rename_i hl
        exact .inr ⟨_, ⟨rfl, Nat.le_of_ble_eq_true hl, rfl⟩, rfl⟩
      · exact .inl rfl
    · exact .inr ⟨_, rfl, rfl⟩
    · exact .inl rfl

/-- the value of an operand that is known -/
theorem VR.cells {A : AdrF} {R : Nat → Prop} {v : TV} {x : Value} (h : VR A w R v x) (h1 : v ≠ .un) (h2 : ∀ a, v ≠ .tup a) : ∃ cs, VRc A w R v cs ∧ (if v.agg then x = .agg cs.toArray else cs = [x]) := by
  rw [VR_iff h2] at h
  rcases h with h | h
  · exact absurd h h1
  · exact h

theorem put_post {G : Nat → Gh} {s : St} {w : World} (h : Rel F G s a w) (hE : TyOk P E F) {o : Oper} {tv : TV} {v : Value} (hv : VR (adr s.box G) w F.R tv v) (hd : ∀ d, o.dst = some d → d < E.nt) {k : St → Option ρ} {r : ρ}
    (hk : putK o s k tv = some r) : Post F k r (a.put o.dst v) w := by
  unfold putK at hk
  cases e : o.dst with
  | none => rw [e] at hk; exact ⟨G, s, h, hk⟩
  | some d => rw [e] at hk; exact ⟨G, _, h.put (by rw [← hE.nt]; exact hd d e) hv, hk⟩

theorem wp_value {o : Oper} {K : Act → World → Prop} {Q : Exit → Act → World → Prop} {v : Value} {w' : World} (h : (execOp a.eval o).run P w = .ok (.value v) w') (hK : K (a.put o.dst v) w') : o.wp P a w K Q := by
  unfold Oper.wp; rw [h]; exact hK
theorem wp_skip' {o : Oper} {K : Act → World → Prop} {Q : Exit → Act → World → Prop} {w' : World} (h : (execOp a.eval o).run P w = .ok .skip w') (hK : K (a.put o.dst undef) w') : o.wp P a w K Q := by
  unfold Oper.wp; rw [h]; exact hK

/-- bools and ints -/
theorem VR.bool {A : AdrF} {R : Nat → Prop} {b : Bool} {x : Value} (h : VR A w R (.dat .bool b) x) : x = .bool b := by
  rcases h with h | ⟨cs, h1, h2⟩
  · cases h
  · have h1 : cs = fcells .bool b := h1.2.2
    subst h1
    simpa [TV.agg, Ty.agg, fcells] using h2.symm
theorem VR.int {A : AdrF} {R : Nat → Prop} {kd : IntKind} {n : Int} {x : Value} (h : VR A w R (.dat (.int kd) n) x) : x = .int kd n := by
  rcases h with h | ⟨cs, h1, h2⟩
  · cases h
  · have h1 : cs = fcells (.int kd) n := h1.2.2
    subst h1
    simpa [TV.agg, Ty.agg, fcells] using h2.symm
theorem VR.str {A : AdrF} {R : Nat → Prop} {l : List UInt8} {x : Value} (h : VR A w R (.dat .str l) x) : x = .string ⟨l.toArray⟩ ∧ l.length ≤ lim := by
  rcases h with h | ⟨cs, h1, h2⟩
  · cases h
  · have h3 : cs = fcells .str l := h1.2.2
    subst h3
    exact ⟨by simpa [TV.agg, Ty.agg, fcells] using h2.symm, h1.2.1⟩
theorem vr_bool {A : AdrF} {R : Nat → Prop} (b : Bool) : VR A w R (.dat .bool b) (.bool b) := .inr ⟨_, ⟨rfl, trivial, rfl⟩, rfl⟩
theorem vr_int {A : AdrF} {R : Nat → Prop} (kd : IntKind) (n : Int) : VR A w R (.dat (.int kd) n) (.int kd n) := .inr ⟨_, ⟨rfl, trivial, rfl⟩, rfl⟩
theorem vr_str {A : AdrF} {R : Nat → Prop} {l : List UInt8} (h : l.length ≤ lim) : VR A w R (.dat .str l) (.string ⟨l.toArray⟩) := .inr ⟨_, ⟨rfl, h, rfl⟩, rfl⟩
/-- of cells -/
theorem vr_of {A : AdrF} {R : Nat → Prop} {v : TV} {cs : List Value} {x : Value} (h : VRc A w R v cs) (hx : if v.agg then x = .agg cs.toArray else cs = [x]) : VR A w R v x := by
  have hn : ∀ b, v ≠ .tup b := by intro b e; subst e; exact h
  rw [VR_iff hn]
  exact .inr ⟨cs, h, hx⟩

theorem VR.one {A : AdrF} {R : Nat → Prop} {v : TV} {x : Value} (h : VR A w R v x) (h1 : v ≠ .un) (h2 : ∀ a, v ≠ .tup a) (h3 : v.agg = false) : VRc A w R v [x] := by
  obtain ⟨cs, h4, h5⟩ := h.cells h1 h2
  rw [h3] at h5
  simp only [Bool.false_eq_true, if_false] at h5
  subst h5; exact h4

variable {Q : Exit → Act → World → Prop}

theorem move_sound (h : Rel F G s a w) (hE : TyOk P E F) {o : Oper} {x : Operand} (ho : o.op = .move x ∨ o.op = .assign x) (hd : ∀ d, o.dst = some d → d < E.nt) {k : St → Option ρ} {r : ρ} (hk : opK E o s k = some r) :
    o.wp P a w (Post F k r) Q := by
  refine wp_value (v := a.eval x) (w' := w) (by unfold execOp; rcases ho with ho | ho <;> rw [ho] <;> rfl) (put_post h hE (ev_sound h x) hd ?_)
  unfold opK at hk
  rcases ho with ho | ho <;> rw [ho] at hk <;> exact hk

theorem pick_sound (h : Rel F G s a w) (hE : TyOk P E F) {o : Oper} {c x y : Operand} (ho : o.op = .pick c x y) (hd : ∀ d, o.dst = some d → d < E.nt) {k : St → Option ρ} {r : ρ} (hk : opK E o s k = some r) :
    o.wp P a w (Post F k r) Q := by
  unfold opK at hk
  rw [ho] at hk
  simp only at hk
  have hc := ev_sound h c
  split at hk
  · rename_i t e
    rw [e] at hc
    have hc := hc.bool
    cases t
    · refine wp_value (v := a.eval y) (w' := w) (by unfold execOp; rw [ho]; simp [hc, asBool]) (put_post h hE (ev_sound h y) hd hk)
    · refine wp_value (v := a.eval x) (w' := w) (by unfold execOp; rw [ho]; simp [hc, asBool]) (put_post h hE (ev_sound h x) hd hk)
  · cases hk

theorem run_loadAt_one {t : TypeId} {T : Ty} (ht : TyIs P T t) (hT : T.agg = false) {b o : Nat} {v : Value} (hat : At w b o 1 [v]) :
    (Instr.loadAt t (.pointer (some ⟨b, o, none⟩))).run P w = .ok v w := by
  obtain ⟨d, hu, hd⟩ := ht.row
  rw [hT] at hd
  have hagg : (isAgg t).run P w = .ok false w := by
    unfold isAgg
    rw [Sem.run_bind, run_underlying hu w]
    cases d <;> simp_all
  have hc : w.cell? ⟨b, o, none⟩ = some v := by simpa using range_of hat 0 v rfl
  simp [Instr.loadAt, Instr.sureAddr, loadVar, hagg, hc]

theorem run_loadAt_of {t : TypeId} {T : Ty} (ht : TyIs P T t) {b o : Nat} {cs : List Value} (hat : At w b o T.size cs) (hs : T.agg = false → T.size = 1) :
    ∃ v, (Instr.loadAt t (.pointer (some ⟨b, o, none⟩))).run P w = .ok v w ∧ (if T.agg then v = .agg cs.toArray else cs = [v]) := by
  obtain ⟨d, hu, hd⟩ := ht.row
  obtain ⟨i, hi, hsz, _⟩ := ht.info
  have hl := hat.len
  cases hT : T.agg with
  | true => exact ⟨_, run_loadAt_mid w b o t cs d (range_of hat) hu (by rw [hd, hT]) (by simp [hi, hsz, hl]), rfl⟩
  | false =>
    rw [hs hT] at hl hat
    match cs, hl with
    | [v], _ => exact ⟨v, run_loadAt_one ht hT hat, rfl⟩

theorem size_one : ∀ (T : Ty), T.agg = false → T.size = 1 := by
  intro T h; cases T <;> first | rfl | (simp [Ty.agg] at h)

theorem load_sound (h : Rel F G s a w) (hE : TyOk P E F) {o : Oper} {t : TypeId} {x : Operand} (ho : o.op = .load t x) (hd : ∀ d, o.dst = some d → d < E.nt) {k : St → Option ρ} {r : ρ} (hk : opK E o s k = some r) :
    o.wp P a w (Post F k r) Q := by
  unfold opK at hk
  rw [ho] at hk
  simp only [tyK] at hk
  have hx := ev_sound h x
  split at hk
  · rename_i T hT
    have ht := hE.ty t T hT
    unfold loadK at hk
    split at hk
    · rename_i b p e
      rw [e] at hx
      have hx := hx.one (by simp) (by simp) rfl
      obtain ⟨u, ft, blk, off, hA, hv⟩ := hx
      simp only [List.cons.injEq, and_true] at hv
      unfold withBox at hk
      split at hk
      · rename_i bx hbx
        dsimp only at hk
        split at hk
        · rename_i hty
          have hty : tyAt bx.ty p = some T := of_decide_eq_true hty
          have hu := adr_tyAt hbx hA
          rw [hty] at hu
          obtain rfl := Option.some.inj hu
          obtain ⟨cs0, hcon0, hbase⟩ := (h.box b bx hbx).con
          obtain ⟨c', u, ft', a', cs', e1, e2, e3, e4⟩ := Con.get bx.c bx.ty (G b).ft cs0 ((G b).base.map (·, 0)) p _ r hcon0 (fun b' o e => (hbase b' o e).1) hk
          rw [adr_eq hbx, e2] at hA
          simp only [Option.some.injEq, Prod.mk.injEq] at hA
          obtain ⟨rfl, rfl, rfl⟩ := hA
          have hat := e4 blk off rfl
          have hfi := tyAt_fine _ _ _ (h.fine b bx hbx) hty
          obtain ⟨v, r1, r2⟩ := run_loadAt_of ht hat (size_one u)
          have hpl : Place (adr s.box G) b u ft' (some (blk, off)) p 0 := Place.here (fun q => adr_app (by rw [adr_eq hbx]; exact e2))
          obtain ⟨v1, v2⟩ := viewC_val c' u ft' cs' b _ p 0 hfi e3 hpl (fun _ => rfl)
          refine wp_value (v := v) (w' := w) (by unfold execOp; rw [ho]; simp [hv, r1]) (put_post h hE (vr_of v1 (by rw [v2]; exact r2)) hd e1)
        · cases hk
      · cases hk
    · rename_i u y e
      rw [e] at hx
      have hx := hx.one (by simp) (by simp) rfl
      obtain ⟨blk, off, c, hv, hR, hat, hrd⟩ := hx
      simp only [List.cons.injEq, and_true] at hv
      split at hk
      · rename_i hu
        have hu : u = T := of_decide_eq_true hu
        subst hu
        obtain ⟨v, r1, r2⟩ := run_loadAt_of ht hat (size_one u)
        exact wp_value (v := v) (w' := w) (by unfold execOp; rw [ho]; simp [hv, r1]) (put_post h hE (vr_of (v := .dat u y) hrd r2) hd hk)
      · cases hk
    · cases hk
  · cases hk
end
end Go.TM
/-! ## TmUa -/
namespace Go.TM
set_option autoImplicit false
section
variable {ρ : Type} {P : Program} {E : Env} {F : Fr} {G : Nat → Gh} {s : St} {a : Act} {w w2 : World} {Q : Exit → Act → World → Prop}

theorem asOwn_own {A : AdrF} {R : Nat → Prop} : ∀ (t : Ty) (c : TV) (f : FT) (cs : List Value) (x : t.den), Con A w R c t f cs → c.asOwn t = some x → ∃ f' : FT, f'.blocks = f.blocks ∧ Own w t x f' cs := by
  have dat1 : ∀ (t u : Ty) (y : u.den) (f : FT) (cs : List Value) (x : t.den), t.flat = true → Con A w R (.dat u y) t f cs → castTo u t y = some x → ∃ f' : FT, f'.blocks = f.blocks ∧ Own w t x f' cs := by
    intro t u y f cs x hf hc hx
    obtain ⟨rfl, rfl⟩ := castTo_eq hx
    obtain ⟨_, hb, hr⟩ := hc
    obtain ⟨g1, g2⟩ := Rd.flat hf hr
    exact ⟨f, rfl, by rw [g2]; exact Own.of_flat hf g1 hb⟩
  have own1 : ∀ (t u : Ty) (y : u.den) (f : FT) (cs : List Value) (x : t.den), Con A w R (.own u y) t f cs → castTo u t y = some x → ∃ f' : FT, f'.blocks = f.blocks ∧ Own w t x f' cs := by
    intro t u y f cs x hc hx
    obtain ⟨rfl, rfl⟩ := castTo_eq hx
    exact ⟨f, rfl, hc.2⟩
  intro t
  induction t with
  | int kd =>
    intro c f cs x hc hx
    cases c with
    | own u y => exact own1 _ u y f cs x hc (by simpa [TV.asOwn] using hx)
    | dat u y => exact dat1 _ u y f cs x rfl hc (by simpa [TV.asOwn] using hx)
    | _ => simp [TV.asOwn] at hx
  | bool =>
    intro c f cs x hc hx
    cases c with
    | own u y => exact own1 _ u y f cs x hc (by simpa [TV.asOwn] using hx)
    | dat u y => exact dat1 _ u y f cs x rfl hc (by simpa [TV.asOwn] using hx)
    | _ => simp [TV.asOwn] at hx
  | str =>
    intro c f cs x hc hx
    cases c with
    | own u y => exact own1 _ u y f cs x hc (by simpa [TV.asOwn] using hx)
    | dat u y => exact dat1 _ u y f cs x rfl hc (by simpa [TV.asOwn] using hx)
    | _ => simp [TV.asOwn] at hx
  | opq =>
    intro c f cs x hc hx
    cases c with
    | own u y => exact own1 _ u y f cs x hc (by simpa [TV.asOwn] using hx)
    | _ => simp [TV.asOwn] at hx
  | arr n t _ =>
    intro c f cs x hc hx
    cases c with
    | own u y => exact own1 _ u y f cs x hc (by simpa [TV.asOwn] using hx)
    | _ => simp [TV.asOwn] at hx
  | slice t _ =>
    intro c f cs x hc hx
    cases c with
    | own u y => exact own1 _ u y f cs x hc (by simpa [TV.asOwn] using hx)
    | nil =>
      simp only [TV.asOwn] at hx
      obtain rfl := Option.some.inj hx
      obtain ⟨_, _, hb, hv⟩ := hc
      exact ⟨.node none 0 [], by rw [hb]; rfl, none, 0, [], rfl, hv, Nat.le_refl _, Nat.zero_le _, rfl, rfl⟩
    | _ => simp [TV.asOwn] at hx
  | unit =>
    intro c f cs x hc hx
    cases c with
    | own u y => exact own1 _ u y f cs x hc (by simpa [TV.asOwn] using hx)
    | unit =>
      obtain ⟨_, hb, hv⟩ := hc
      exact ⟨f, rfl, rfl, trivial, hb, hv⟩
    | dat u y =>
      cases u with
      | unit =>
        obtain ⟨_, hb, hr⟩ := hc
        exact ⟨f, rfl, rfl, trivial, hb, hr.2.2⟩
      | _ => simp [TV.asOwn] at hx
    | _ => simp [TV.asOwn] at hx
  | cons t r iht ihr =>
    intro c f cs x hc hx
    cases c with
    | own u y => exact own1 _ u y f cs x hc (by simpa [TV.asOwn] using hx)
    | cons a d =>
      simp only [TV.asOwn] at hx
      split at hx
      · rename_i x1 e1
        split at hx
        · rename_i x2 e2
          obtain rfl := Option.some.inj hx
          obtain ⟨h0, c1, c2, rfl, _, h1, h2⟩ := hc
          obtain ⟨f1, b1, o1⟩ := iht a _ c1 _ h1 e1
          obtain ⟨f2, b2, o2⟩ := ihr d _ c2 _ h2 e2
          exact ⟨.pair f1 f2, by rw [h0, ← b1, ← b2]; rfl, rfl, c1, c2, rfl, o1, o2⟩
        · cases hx
      · cases hx
    | dat u y =>
      cases u with
      | cons t' r' =>
        simp only [TV.asOwn] at hx
        split at hx
        · rename_i x1 e1
          split at hx
          · rename_i x2 e2
            obtain rfl := Option.some.inj hx
            obtain ⟨e, hb, c1, c2, rfl, h1, h2⟩ := hc
            simp only [Ty.cons.injEq] at e
            obtain ⟨rfl, rfl⟩ := e
            obtain ⟨f1, b1, o1⟩ := iht (.dat t' y.1) .leaf c1 _ ⟨rfl, rfl, h1⟩ e1
            obtain ⟨f2, b2, o2⟩ := ihr (.dat r' y.2) .leaf c2 _ ⟨rfl, rfl, h2⟩ e2
            refine ⟨.pair f1 f2, ?_, rfl, c1, c2, rfl, o1, o2⟩
            rw [hb]
            show f1.blocks ++ f2.blocks = []
            rw [b1, b2]; rfl
          · cases hx
        · cases hx
      | _ => simp [TV.asOwn] at hx
    | _ => simp [TV.asOwn] at hx

theorem Fresh.cast {f f' : FT} (h : Fresh F G s w f) (e : f'.blocks = f.blocks) : Fresh F G s w f' :=
  ⟨by rw [e]; exact h.nodup, by rw [e]; exact h.out, by rw [e]; exact h.mine⟩

/-- a content laid together where it goes behind an index -/
theorem ownUp_con {A : AdrF} {R : Nat → Prop} (t : Ty) (p : Path) {c : TV} {f : FT} {cs : List Value} (h : Con A w R c t f cs) : ∃ f' : FT, f'.blocks = f.blocks ∧ Con A w R (ownUp t p c) t f' cs := by
  unfold ownUp
  split
  · split
    · split
      · rename_i y hy
        obtain ⟨f', b, o⟩ := asOwn_own t _ f cs y h hy
        exact ⟨f', b, rfl, o⟩
      · exact ⟨f, rfl, h⟩
    · exact ⟨f, rfl, h⟩
  · split
    · rename_i hf
      obtain ⟨rfl, hb, hr⟩ := h
      obtain ⟨g1, g2⟩ := Rd.flat hf hr
      exact ⟨f, rfl, rfl, by rw [g2]; exact Own.of_flat hf g1 hb⟩
    · exact ⟨f, rfl, h⟩
  · exact ⟨f, rfl, h⟩
end
end Go.TM
/-! ## TmV -/
namespace Go.TM
set_option autoImplicit false

section
variable {ρ : Type} {P : Program} {E : Env} {F : Fr} {G : Nat → Gh} {s : St} {a : Act} {w : World} {Q : Exit → Act → World → Prop}

theorem run_storeAt_of {t : TypeId} {T : Ty} (ht : TyIs P T t) {b o : Nat} {v : Value} {cs : List Value} (hth : w.there b o T.size) (hl : cs.length = T.size) (hv : v.cells.toList = cs) (ho : ones cs) :
    (Instr.storeAt t (.pointer (some ⟨b, o, none⟩)) v).run P w = .ok () (w.setCells b o cs) := by
  obtain ⟨i, hi, hsz, _⟩ := ht.info
  have h1 := run_storeCells_cells (P := P) b o cs 0 w (fun j hj => by simpa using (hth j (by omega)).1) (fun j hj => by simpa using (hth j (by omega)).2) ho
  have h2 : v.cells.size = i.size := by rw [hsz, ← hl, ← hv]; simp
  simp only [Nat.add_zero] at h1
  simp [Instr.storeAt, Instr.sureAddr, storeVar, sizeOf, typeInfo, hi, h2, hv, h1]

theorem cells_of {v : TV} {x : Value} {cs : List Value} (h2 : if v.agg then x = .agg cs.toArray else cs = [x]) (ho : v.agg = false → x.oneCell' = true) : x.cells.toList = cs := by
  split at h2
  · subst h2; rfl
  · rename_i hv
    subst h2
    have := ho (by simpa using hv)
    cases x <;> first | rfl | simp [Value.oneCell'] at this

theorem setBox_get (b : Nat) (x : Box) (n : Nat) : (s.setBox b x).get n = s.get n := rfl

theorem store_sound (h : Rel F G s a w) (hE : TyOk P E F) {o : Oper} {t : TypeId} {x y : Operand} (ho : o.op = .store t x y) (hdst : o.dst = none) {k : St → Option ρ} {r : ρ} (hk : opK E o s k = some r) :
    o.wp P a w (Post F k r) Q := by
  unfold opK at hk
  rw [ho] at hk
  simp only [tyK] at hk
  have hx := ev_sound h x
  have hy := ev_sound h y
  split at hk
  · rename_i T hT
    have ht := hE.ty t T hT
    unfold storeK at hk
    split at hk
    · rename_i b0 p0 e0
      rw [e0] at hx
      have hx := hx.one (by simp) (by simp) rfl
      have hyu : s.ev y ≠ .un := by intro e; rw [e] at hk; cases T <;> simp [absorb] at hk
      have hyt : ∀ c, s.ev y ≠ .tup c := by intro c e; rw [e] at hk; cases T <;> simp [absorb] at hk
      obtain ⟨cs, hyc, hyv⟩ := hy.cells hyu hyt
      obtain ⟨G', s', c, f, κ, hk1, T1⟩ := absorb_sound T (s.ev y) G s cs _ r h hyc hk
      have hcells : (a.eval y).cells.toList = cs := cells_of hyv (fun hag => by
        rw [hag] at hyv
        simp only [Bool.false_eq_true, if_false] at hyv
        exact T1.ones _ (by rw [hyv]; simp))
      have hx1 := T1.vals _ _ hx
      try dsimp only at hk1
      split at hk1
      · rename_i b p eb
        rw [eb] at hx1
        obtain ⟨u, fp, blk, off, hA, hxv⟩ := hx1
        simp only [List.cons.injEq, and_true] at hxv
        unfold withBox at hk1
        split at hk1
        · rename_i bx hbx
          try dsimp only at hk1
          split at hk1
          · cases hk1
          · rename_i hcnd
            simp only [Bool.or_eq_true, Bool.not_eq_true', decide_eq_false_iff_not, not_or, Classical.not_not, Bool.not_eq_true] at hcnd
            obtain ⟨hvp, hty⟩ := hcnd
            have hu := adr_tyAt hbx hA
            rw [hty] at hu
            obtain rfl := Option.some.inj hu
            obtain ⟨row, e, q1, q2⟩ := T1.rel.may hA
            have hrun := run_storeAt_of ht (v := a.eval y) (there_of q1 q2) (Con.len _ _ _ _ T1.con) hcells T1.ones
            refine wp_skip' (w' := w.setCells blk off cs) (by unfold execOp; rw [ho]; simp [hxv, hrun]) ?_
            have hput : a.put o.dst undef = a := by rw [hdst]; rfl
            rw [hput]
            obtain ⟨f1, fb1, con1⟩ := ownUp_con T p T1.con
            have fresh1 := T1.fresh.cast fb1
            have killed : ∀ c', setC bx.c p (ownUp T p c) (fun c' => some c') = some c' → ∀ (hr : k ((s'.setBox b { bx with c := c' }).kill b p) = some r), Post F k r a (w.setCells blk off cs) := by
              intro c' hS hr
              obtain ⟨c2, g1, g2⟩ := setC_kill b p bx.c p (ownUp T p c) _ _ hS
              obtain rfl := Option.some.inj g1
              exact ⟨_, _, T1.rel.storeWith hbx hA con1 fresh1 (fun v => v.kill b p) ((s'.setBox b { bx with c := c2 }).kill b p) c2 (fun n => get_kill _ b p n) (box_kset hbx c2 p)
                (fun A' w' hA' hw v y hv => by subst hA'; exact VR.kill (but_of_set (f := f1) (kl := fun v => v.kill b p) hbx hA rfl (box_kset hbx c2 p)) hw hv)
                (fun A' w' hA' hw c t ft cs hag hcn => by subst hA'; exact Con.kill (but_of_set (f := f1) (kl := fun v => v.kill b p) hbx hA rfl (box_kset hbx c2 p)) hw c t ft cs hag hcn) g2, hr⟩
            obtain ⟨c', g1, g2⟩ := setC_val bx.c p (ownUp T p c) _ r hk1
            split at g1
            · rename_i u0 y0
              split at g1
              · rename_i hfl
                obtain ⟨rfl, _, _⟩ := T1.con
                have hle := le_of_set (kl := fun v => v) (f := f1) hbx hA hfl rfl (box_set hbx c')
                exact ⟨_, _, T1.rel.storeWith hbx hA con1 fresh1 (fun v => v) (s'.setBox b { bx with c := c' }) c' (fun n => rfl) (box_set hbx c')
                  (fun A' w' hA' hw v y hv => by subst hA'; exact VR.mono hle hw hv)
                  (fun A' w' hA' hw c t ft cs hag hcn => by subst hA'; exact Con.mono hle hw c t ft cs hag hcn) g2, g1⟩
              · exact killed c' (g2 _) g1
            · exact killed c' (g2 _) g1
        · cases hk1
      · cases hk1
    · cases hk
  · cases hk

theorem nilCheck_sound (h : Rel F G s a w) (hE : TyOk P E F) {o : Oper} {x : Operand} (ho : o.op = .nilCheck x) (hd : ∀ d, o.dst = some d → d < E.nt) {k : St → Option ρ} {r : ρ} (hk : opK E o s k = some r) :
    o.wp P a w (Post F k r) Q := by
  unfold opK at hk
  rw [ho] at hk
  simp only at hk
  have hx := ev_sound h x
  split at hk
  · rename_i b p e
    rw [e] at hx
    have hx1 := hx.one (by simp) (by simp) rfl
    obtain ⟨u, fp, blk, off, hA, hxv⟩ := hx1
    simp only [List.cons.injEq, and_true] at hxv
    exact wp_value (v := a.eval x) (w' := w) (by unfold execOp; rw [ho]; simp [hxv]) (put_post h hE hx hd hk)
  · rename_i u y e
    rw [e] at hx
    have hx1 := hx.one (by simp) (by simp) rfl
    obtain ⟨blk, off, c, hxv, _⟩ := hx1
    simp only [List.cons.injEq, and_true] at hxv
    exact wp_value (v := a.eval x) (w' := w) (by unfold execOp; rw [ho]; simp [hxv]) (put_post h hE hx hd hk)
  · rename_i f c e
    rw [e] at hx
    have hx1 := hx.one (by simp) (by simp) rfl
    obtain ⟨vs, _, hxv⟩ := hx1
    simp only [List.cons.injEq, and_true] at hxv
    exact wp_value (v := a.eval x) (w' := w) (by unfold execOp; rw [ho]; simp [hxv]) (put_post h hE hx hd hk)
  · cases hk

theorem run_fieldAt {t : TypeId} {T u : Ty} (ht : TyIs P T t) {n : Nat} (hu : tyAt T [.f n] = some u) (b o : Nat) :
    (Instr.fieldAt t (.pointer (some ⟨b, o, none⟩)) n).run P w = .ok (.pointer (some ⟨b, o + offOf T n, none⟩)) w := by
  obtain ⟨fs, f, h1, h2, h3, h4, h5⟩ := ht.struct hu
  obtain ⟨i, hi, hsz, _⟩ := h5.info
  have hne : ¬ i.size = 0 := by rw [hsz]; exact h4
  have hadd : (⟨b, o, none⟩ : Addr).add f.offset = ⟨b, o + offOf T n, none⟩ := by rw [Addr.add_mid, h3]
  have hp : (fieldPlace ⟨b, o, none⟩ f).run P w = .ok ⟨b, o + offOf T n, none⟩ w := by
    unfold fieldPlace
    simp [sizeOf, typeInfo, hi, hne, hadd]
  unfold Instr.fieldAt
  simp [run_underlying h1, h2, Instr.sureAddr, hp]

theorem addr_field : ∀ (T : Ty) (ft : FT) (a : Option (Nat × Nat)) (n : Nat) (u : Ty), tyAt T [.f n] = some u → ∃ f', addr T ft a [.f n] = some (u, f', a.map fun x => (x.1, x.2 + offOf T n)) := by
  intro T
  induction T with
  | cons t r _ ihr =>
    intro ft a n u hu
    cases n with
    | zero =>
      have hu : t = u := by cases t <;> simpa [tyAt] using hu
      subst hu
      refine ⟨ft.fst, ?_⟩
      have : addr t ft.fst a [] = some (t, ft.fst, a) := by cases t <;> rfl
      simp only [addr, offOf, this]
      cases a <;> simp
    | succ n =>
      obtain ⟨f', h⟩ := ihr ft.snd (a.map fun x => (x.1, x.2 + t.size)) n u (by simpa [tyAt] using hu)
      refine ⟨f', ?_⟩
      simp only [addr, h, offOf]
      cases a <;> simp; omega
  | _ => intro ft a n u hu; simp [tyAt] at hu

/-- a field of what is only read -/
theorem Rd.field {R : Nat → Prop} : ∀ (T : Ty) (x : T.den) (cs : List Value) (n : Nat) (k : (u : Ty) → u.den → Option ρ) (r : ρ), Rd w R T x cs → getT T x [.f n] k = some r →
    ∃ (u : Ty) (y : u.den), k u y = some r ∧ tyAt T [.f n] = some u ∧ Rd w R u y (sub cs (offOf T n) u.size) ∧ offOf T n + u.size ≤ T.size := by
  intro T
  induction T with
  | cons t t2 _ ihr =>
    intro x cs n k r h hg
    obtain ⟨c1, c2, rfl, h1, h2⟩ := h
    have hl := Rd.len _ _ _ h1
    cases n with
    | zero =>
      have hg' : k t x.1 = some r := by
        have : ∀ (t : Ty) (x : t.den), getT t x [] k = k t x := by intro t x; cases t <;> rfl
        simpa [getT, this] using hg
      refine ⟨t, x.1, hg', by cases t <;> rfl, ?_, by simp [offOf, Ty.size]⟩
      simpa [sub, offOf, List.take_left' hl] using h1
    | succ n =>
      obtain ⟨u, y, e1, e2, e3, e4⟩ := ihr x.2 c2 n k r h2 (by simpa [getT] using hg)
      refine ⟨u, y, e1, by simpa [tyAt] using e2, ?_, by simp [offOf, Ty.size]; omega⟩
      have : sub (c1 ++ c2) (offOf (.cons t t2) (n + 1)) u.size = sub c2 (offOf t2 n) u.size := by
        unfold sub
        rw [show offOf (.cons t t2) (n + 1) = c1.length + offOf t2 n by rw [hl]; rfl, List.drop_length_add_append]
      rw [this]; exact e3
  | _ => intro x cs n k r h hg; simp [getT] at hg

theorem fieldAddr_sound (h : Rel F G s a w) (hE : TyOk P E F) {o : Oper} {t : TypeId} {x : Operand} {n : Nat} (ho : o.op = .fieldAddr t x n) (hd : ∀ d, o.dst = some d → d < E.nt) {k : St → Option ρ} {r : ρ} (hk : opK E o s k = some r) :
    o.wp P a w (Post F k r) Q := by
  unfold opK at hk
  rw [ho] at hk
  simp only [tyK] at hk
  have hx := ev_sound h x
  split at hk
  · rename_i T hT
    have ht := hE.ty t T hT
    split at hk
    · rename_i b p e
      rw [e] at hx
      have hx1 := hx.one (by simp) (by simp) rfl
      obtain ⟨u, fp, blk, off, hA, hxv⟩ := hx1
      simp only [List.cons.injEq, and_true] at hxv
      unfold withBox at hk
      split at hk
      · rename_i bx hbx
        try dsimp only at hk
        split at hk
        · rename_i hty
          have hty : tyAt bx.ty p = some T := of_decide_eq_true hty
          have hu := adr_tyAt hbx hA
          rw [hty] at hu
          obtain rfl := Option.some.inj hu
          split at hk
          · rename_i v hv
            obtain ⟨f', hf⟩ := addr_field T fp (some (blk, off)) n v hv
            have hA2 : adr s.box G b (p ++ [.f n]) = some (v, f', some (blk, off + offOf T n)) := by rw [adr_app hA]; exact hf
            refine wp_value (w' := w) (by unfold execOp; rw [ho]; simp [hxv, run_fieldAt ht hv]; rfl) (put_post h hE ?_ hd hk)
            exact vr_of (v := .ref b (p ++ [.f n])) (cs := [_]) ⟨v, f', blk, off + offOf T n, hA2, rfl⟩ rfl
          · cases hk
        · cases hk
      · cases hk
    · rename_i u y e
      rw [e] at hx
      have hx1 := hx.one (by simp) (by simp) rfl
      obtain ⟨blk, off, c, hxv, hR, hat, hrd⟩ := hx1
      simp only [List.cons.injEq, and_true] at hxv
      split at hk
      · rename_i hu
        have hu : u = T := of_decide_eq_true hu
        subst hu
        obtain ⟨v, z, e1, e2, e3, e4⟩ := Rd.field u y c n _ r hrd hk
        refine wp_value (w' := w) (by unfold execOp; rw [ho]; simp [hxv, run_fieldAt ht e2]; rfl) (put_post h hE ?_ hd e1)
        exact vr_of (v := .rop v z) (cs := [_]) ⟨blk, off + offOf u n, _, rfl, hR, hat.sub _ _ e4, e3⟩ rfl
      · cases hk
    · cases hk
  · cases hk
end
end Go.TM
/-! ## TmW -/
namespace Go.TM
set_option autoImplicit false

/-- all that a function's run may read -/
def RR (F : Fr) (G : Nat → Gh) (s : St) : Nat → Prop := fun b => F.R b ∨ ∃ i bx, s.box i = some bx ∧ b ∈ (G i).blocks

section
variable {ρ : Type} {P : Program} {E : Env} {F : Fr} {G : Nat → Gh} {s : St} {a : Act} {w : World} {Q : Exit → Act → World → Prop}

/-- what lies at the place of a slice -/
theorem Rel.slAt (h : Rel F G s a w) {b : Nat} {bx : Box} (hbx : s.box b = some bx) {p : Path} {k : TV → Option ρ} {r : ρ} (hk : getC bx.c p k = some r) {t : Ty} {bk : Option Nat} {cap : Nat} {ks : List FT} {ad : Option (Nat × Nat)}
    (hA : adr s.box G b p = some (.slice t, .node bk cap ks, ad)) :
    ∃ c' cs', k c' = some r ∧ Con (adr s.box G) w F.R c' (.slice t) (.node bk cap ks) cs' ∧ (∀ x ∈ (FT.node bk cap ks).blocks, x ∈ (G b).blocks) := by
  obtain ⟨cs0, hcon0, hbase⟩ := (h.box b bx hbx).con
  obtain ⟨c', u, ft', a', cs', e1, e2, e3, e4⟩ := Con.get bx.c bx.ty (G b).ft cs0 ((G b).base.map (·, 0)) p _ r hcon0 (fun b' o e => (hbase b' o e).1) hk
  rw [adr_eq hbx, e2] at hA
  simp only [Option.some.injEq, Prod.mk.injEq] at hA
  obtain ⟨rfl, rfl, rfl⟩ := hA
  exact ⟨c', cs', e1, e3, fun x hx => by simp only [Gh.blocks, List.mem_append]; exact .inr ((addr_sub _ _ _ _ e2).1 x hx)⟩

theorem lenD_sl (h : Rel F G s a w) {b : Nat} {bx : Box} (hbx : s.box b = some bx) {p : Path} {k : Nat → Option ρ} {r : ρ} (hk : lenD s (.sl b p) k = some r) {t : Ty} {bk : Option Nat} {cap : Nat} {ks : List FT} {ad : Option (Nat × Nat)}
    (hA : adr s.box G b p = some (.slice t, .node bk cap ks, ad)) : k ks.length = some r ∧ (bk = none → ks.length = 0) := by
  simp only [lenD, withBox, hbx] at hk
  obtain ⟨c', cs', e1, e2, _⟩ := h.slAt hbx hk hA
  split at e1
  · rename_i u y
    obtain ⟨e, h2⟩ := e2
    simp only [Ty.slice.injEq] at e
    subst e
    obtain ⟨_, _, _, h3, _, h6, h4, h5, h7⟩ := h2
    simp only [FT.node.injEq] at h3
    obtain ⟨rfl, rfl, rfl⟩ := h3
    refine ⟨by rw [h5]; exact e1, fun e => ?_⟩
    subst e
    rw [h5]
    have h7 : cap = 0 := h7
    omega
  · cases e1

theorem lenD_sound (h : Rel F G s a w) {v : TV} {x : Value} (hv : VR (adr s.box G) w F.R v x) {k : Nat → Option ρ} {r : ρ} (hk : lenD s v k = some r) :
    ∃ n ad cap, k n = some r ∧ x = .slice ad n cap ∧ n ≤ lim ∧ n ≤ cap := by
  unfold lenD at hk
  split at hk
  · have := hv.one (by simp) (by simp) rfl
    have : [x] = [Value.slice none 0 0] := this
    simp at this
    exact ⟨0, none, 0, hk, this, by simp, Nat.le_refl _⟩
  · have := hv.one (by simp) (by simp) rfl
    obtain ⟨ad, cap, h1, h2, _⟩ := this
    simp only [List.cons.injEq, and_true] at h1
    exact ⟨_, ad, cap, hk, h1, h2.2, h2.1⟩
  · rename_i b p
    obtain ⟨t, bk, cap, ks, ad, hA, hx⟩ := hv.one (by simp) (by simp) rfl
    simp only [List.cons.injEq, and_true] at hx
    unfold withBox at hk
    split at hk
    · rename_i bx hbx
      obtain ⟨c', cs', e1, e2, _⟩ := h.slAt hbx hk hA
      split at e1
      · rename_i u y
        obtain ⟨e, h2⟩ := e2
        simp only [Ty.slice.injEq] at e
        subst e
        obtain ⟨_, _, _, h3, _, h6, h4, h5, _⟩ := h2
        simp only [FT.node.injEq] at h3
        obtain ⟨rfl, rfl, rfl⟩ := h3
        exact ⟨_, _, _, e1, by rw [hx, h5], h4, h6⟩
      · cases e1
    · cases hk
  · obtain ⟨t, bk, cap, ks, ad, hA, hn, a', c, hx, hc, _⟩ := hv.one (by simp) (by simp) rfl
    simp only [List.cons.injEq, and_true] at hx
    exact ⟨_, _, _, hk, hx, hn.2, hc.1⟩
  · cases hk

theorem idx_sound {n : Nat} {i : Int} {k : Nat → Option ρ} {r : ρ} (h : idx n i k = some r) : ∃ m : Nat, i = m ∧ m < n ∧ k m = some r := by
  unfold idx at h
  split at h
  · rename_i m
    split at h
    · rename_i hb
      exact ⟨m, rfl, Nat.lt_of_succ_le (Nat.le_of_ble_eq_true hb), h⟩
    · cases h
  · cases h

theorem geti_sound {α : Type} {l : List α} {i : Int} {y : α} (h : geti l i = some y) : ∃ m : Nat, i = m ∧ l[m]? = some y := by
  unfold geti at h
  split at h
  · rename_i m; exact ⟨m, rfl, h⟩
  · cases h

theorem asInt_sound {A : AdrF} {R : Nat → Prop} {v : TV} {x : Value} (hv : VR A w R v x) {k : IntKind → Int → Option ρ} {r : ρ} (h : asInt v k = some r) : ∃ kd n, x = .int kd n ∧ k kd n = some r := by
  unfold asInt at h
  split at h
  · exact ⟨_, _, hv.int, h⟩
  · cases h

theorem run_indexAt_slice {t : TypeId} {T : Ty} (ht : TyIs P (.slice T) t) {b o len cap : Nat} {kd : IntKind} {m : Nat} (hm : m < len) :
    (Instr.indexAt t (.slice (some ⟨b, o, none⟩) len cap) (.int kd m)).run P w = .ok (.pointer (some ⟨b, o + m * T.size, none⟩)) w := by
  obtain ⟨e, hu, he⟩ := ht.slice
  obtain ⟨i, hi, hsz, _⟩ := he.info
  have hadd : (⟨b, o, none⟩ : Addr).add (m * T.size) = ⟨b, o + m * T.size, none⟩ := Addr.add_mid _ _ _
  unfold Instr.indexAt
  simp [asIntOf, run_underlying hu, hm, sizeOf, typeInfo, hi, hsz, hadd]

theorem run_indexAt_arr {t : TypeId} {T : Ty} {n : Nat} (ht : TyIs P (.arr n T) t) {b o : Nat} {kd : IntKind} {m : Nat} (hm : m < n) :
    (Instr.indexAt t (.pointer (some ⟨b, o, none⟩)) (.int kd m)).run P w = .ok (.pointer (some ⟨b, o + m * T.size, none⟩)) w := by
  obtain ⟨e, hu, he, _⟩ := ht.arr
  obtain ⟨i, hi, hsz, _⟩ := he.info
  have hadd : (⟨b, o, none⟩ : Addr).add (m * T.size) = ⟨b, o + m * T.size, none⟩ := Addr.add_mid _ _ _
  unfold Instr.indexAt
  simp [asIntOf, run_underlying hu, hm, sizeOf, typeInfo, hi, hsz, hadd, Instr.sureAddr]

theorem indexAddr_sound (h : Rel F G s a w) (hE : TyOk P E F) {o : Oper} {t : TypeId} {x y : Operand} (ho : o.op = .indexAddr t x y) (hd : ∀ d, o.dst = some d → d < E.nt) {k : St → Option ρ} {r : ρ} (hk : opK E o s k = some r) :
    o.wp P a w (Post F k r) Q := by
  unfold opK at hk
  rw [ho] at hk
  simp only [tyK] at hk
  have hx := ev_sound h x
  have hy := ev_sound h y
  split at hk
  · rename_i T hT
    have ht := hE.ty t T hT
    unfold indexAddrK at hk
    obtain ⟨kd, i, hyv, hk1⟩ := asInt_sound hy hk
    clear hk
    revert hk1
    intro hk
    split at hk
    · rename_i u xs e
      rw [e] at hx
      split at hk
      · rename_i hu
        have hu : T = .slice u := of_decide_eq_true hu
        subst hu
        cases hz : geti (α := u.den) xs i with
        | some z =>
          rw [hz] at hk
          obtain ⟨m, rfl, hm⟩ := geti_sound hz
          obtain ⟨ad, cap, h1, h2, h3⟩ := hx.one (by simp) (by simp) rfl
          simp only [List.cons.injEq, and_true] at h1
          have hlt : m < List.length (α := u.den) xs := (List.getElem?_eq_some_iff.1 hm).1
          obtain ⟨b, o', rfl, hR, h4⟩ := h3 (by intro e; rw [show xs = ([] : List u.den) from e] at hlt; simp at hlt)
          obtain ⟨c, hc, hrd⟩ := h4 m z hm
          refine wp_value (w' := w) (by unfold execOp; rw [ho]; simp [h1, hyv, run_indexAt_slice ht hlt]; rfl) (put_post h hE ?_ hd hk)
          exact vr_of (v := .rop u z) (cs := [_]) ⟨b, o' + m * u.size, c, rfl, hR, hc, hrd⟩ rfl
        | none => rw [hz] at hk; cases hk
      · cases hk
    · rename_i b p e
      rw [e] at hx
      unfold withBox at hk
      split at hk
      · rename_i bx hbx
        try dsimp only at hk
        split at hk
        · rename_i hty
          have hty : tyAt bx.ty p = some T := of_decide_eq_true hty
          obtain ⟨u, bk, cap, ks, ad, hA, hxv⟩ := hx.one (by simp) (by simp) rfl
          simp only [List.cons.injEq, and_true] at hxv
          have hu := adr_tyAt hbx hA
          rw [hty] at hu
          obtain rfl := Option.some.inj hu
          obtain ⟨hk, hnone⟩ := lenD_sl h hbx hk hA
          obtain ⟨m, rfl, hm, hk⟩ := idx_sound hk
          have hks : ks[m]? = some (ks[m]'hm) := List.getElem?_eq_getElem hm
          cases bk with
          | none =>
            have := hnone rfl
            omega
          | some bk =>
            have hA2 : adr s.box G b (p ++ [.i m]) = some (u, ks[m]'hm, some (bk, m * u.size)) := by
              rw [adr_app hA]
              simp only [addr, hks]
            refine wp_value (w' := w) (by unfold execOp; rw [ho]; simp [hxv, hyv, run_indexAt_slice ht hm]; rfl) (put_post h hE ?_ hd hk)
            exact vr_of (v := .ref b (p ++ [.i m])) (cs := [_]) ⟨u, _, bk, m * u.size, hA2, rfl⟩ rfl
        · cases hk
      · cases hk
    · rename_i b p lo n e
      rw [e] at hx
      unfold withBox at hk
      split at hk
      · rename_i bx hbx
        try dsimp only at hk
        split at hk
        · rename_i hty
          have hty : tyAt bx.ty p = some T := of_decide_eq_true hty
          obtain ⟨u, bk, cap, ks, ad, hA, hn, a', c', hxv, hxa⟩ := hx.one (by simp) (by simp) rfl
          simp only [List.cons.injEq, and_true] at hxv
          have hu := adr_tyAt hbx hA
          rw [hty] at hu
          obtain rfl := Option.some.inj hu
          obtain ⟨m, rfl, hm, hk⟩ := idx_sound hk
          obtain ⟨blk, rfl, rfl⟩ := hxa.2 (by omega)
          have hlt : lo + m < ks.length := by omega
          have hks : ks[lo + m]? = some (ks[lo + m]'hlt) := List.getElem?_eq_getElem hlt
          have hA2 : adr s.box G b (p ++ [.i (lo + m)]) = some (u, ks[lo + m]'hlt, some (blk, (lo + m) * u.size)) := by
            rw [adr_app hA]
            simp only [addr, hks]
          refine wp_value (w' := w) (by unfold execOp; rw [ho]; simp [hxv, hyv, run_indexAt_slice ht hm]; rfl) (put_post h hE ?_ hd hk)
          exact vr_of (v := .ref b (p ++ [.i (lo + m)])) (cs := [_]) ⟨u, _, blk, lo * u.size + m * u.size, by rw [← Nat.add_mul]; exact hA2, rfl⟩ rfl
        · cases hk
      · cases hk
    · rename_i b p e
      rw [e] at hx
      unfold withBox at hk
      split at hk
      · rename_i bx hbx
        try dsimp only at hk
        split at hk
        · rename_i hty
          have hty : tyAt bx.ty p = some T := of_decide_eq_true hty
          obtain ⟨u, ft, blk, off, hA, hxv⟩ := hx.one (by simp) (by simp) rfl
          simp only [List.cons.injEq, and_true] at hxv
          have hu := adr_tyAt hbx hA
          rw [hty] at hu
          obtain rfl := Option.some.inj hu
          cases T with
          | arr n v =>
            try dsimp only at hk
            split at hk
            · cases hk
            · rename_i hc
              simp only [Bool.or_eq_true, not_or, Bool.not_eq_true] at hc
              obtain ⟨m, rfl, hm, hk⟩ := idx_sound hk
              have h1 : 1 < n := by
                rcases Nat.lt_or_ge 1 n with h1 | h1
                · exact h1
                · have := Nat.ble_eq_true_of_le h1; rw [this] at hc; exact absurd hc.2 (by simp)
              have hA2 : adr s.box G b (p ++ [.i m]) = some (v, .leaf, some (blk, off + m * v.size)) := by
                rw [adr_app hA]
                simp only [addr, hc.1, Bool.false_or]
                rw [if_neg (by simp; omega)]
                rfl
              refine wp_value (w' := w) (by unfold execOp; rw [ho]; simp [hxv, hyv, run_indexAt_arr ht hm]; rfl) (put_post h hE ?_ hd hk)
              exact vr_of (v := .ref b (p ++ [.i m])) (cs := [_]) ⟨v, _, blk, off + m * v.size, hA2, rfl⟩ rfl
          | _ => cases hk
        · cases hk
      · cases hk
    · cases hk
  · cases hk
end
end Go.TM
/-! ## TmX -/
namespace Go.TM
set_option autoImplicit false
section
variable {ρ : Type} {P : Program} {E : Env} {F : Fr} {G : Nat → Gh} {s : St} {a : Act} {w : World} {Q : Exit → Act → World → Prop}

theorem sub_flat_len {α : Type} (l : List α) (a b : Nat) : ((l.drop a).take b).length ≤ b := by simp; omega

/-- a list that a slice refers to can be read -/
theorem sliceD_sound (h : Rel F G s a w) {t : Ty} {v : TV} {x : Value} (hv : VR (adr s.box G) w F.R v x) {k : List t.den → Option ρ} {r : ρ} (hk : sliceD s t v k = some r) :
    ∃ xs : List t.den, k xs = some r ∧ Rd w (RR F G s) (.slice t) xs [x] := by
  unfold sliceD at hk
  split at hk
  · have : [x] = [Value.slice none 0 0] := hv.one (by simp) (by simp) rfl
    simp only [List.cons.injEq, and_true] at this
    subst this
    exact ⟨[], hk, none, 0, rfl, ⟨Nat.le_refl _, by simp [lim]⟩, fun h => absurd rfl h⟩
  · rename_i u y
    split at hk
    · rename_i xs hc
      obtain ⟨rfl, rfl⟩ := castTo_eq hc
      exact ⟨_, hk, Rd.agree (fun b hb => .inl hb) (fun _ _ => rfl) _ _ _ (hv.one (by simp) (by simp) rfl)⟩
    · cases hk
  · rename_i b p
    obtain ⟨t', bk, cap, ks, ad, hA, hx⟩ := hv.one (by simp) (by simp) rfl
    simp only [List.cons.injEq, and_true] at hx
    unfold withBox at hk
    split at hk
    · rename_i bx hbx
      obtain ⟨c', cs', e1, e2, e3⟩ := h.slAt hbx hk hA
      split at e1
      · rename_i u y
        split at e1
        · rename_i xs hc
          obtain ⟨rfl, rfl⟩ := castTo_eq hc
          obtain ⟨e, h2⟩ := e2
          simp only [Ty.slice.injEq] at e
          subst e
          have hr := Own.rd (R := RR F G s) _ _ _ _ (fun b' hb' => .inr ⟨b, bx, hbx, e3 b' hb'⟩) h2
          refine ⟨_, e1, ?_⟩
          obtain ⟨_, _, _, h3, h5, _, _, h6, _⟩ := h2
          simp only [FT.node.injEq] at h3
          obtain ⟨rfl, rfl, rfl⟩ := h3
          rw [hx, h6, ← h5]; exact hr
        · cases e1
      · cases e1
    · cases hk
  · rename_i b p lo n
    obtain ⟨t', bk, cap, ks, ad, hA, hn, a', c, hx, hcn, hxa⟩ := hv.one (by simp) (by simp) rfl
    simp only [List.cons.injEq, and_true] at hx
    unfold withBox at hk
    split at hk
    · rename_i bx hbx
      obtain ⟨c', cs', e1, e2, e3⟩ := h.slAt hbx hk hA
      split at e1
      · rename_i u y
        split at e1
        · rename_i xs hc
          obtain ⟨rfl, rfl⟩ := castTo_eq hc
          obtain ⟨e, h2⟩ := e2
          simp only [Ty.slice.injEq] at e
          subst e
          have hr := Own.rd (R := RR F G s) _ _ _ _ (fun b' hb' => .inr ⟨b, bx, hbx, e3 b' hb'⟩) h2
          refine ⟨_, e1, ?_⟩
          obtain ⟨_, _, _, h3, h5, _, _, h6, _⟩ := h2
          simp only [FT.node.injEq] at h3
          obtain ⟨rfl, rfl, rfl⟩ := h3
          obtain ⟨a0, cap0, h7, h8, h9⟩ := hr
          rw [h5] at h7
          simp only [List.cons.injEq, Value.slice.injEq, and_true] at h7
          obtain ⟨rfl, _, rfl⟩ := h7
          have hlen : ((List.drop (α := t.den) lo y).take n).length = n := by
            have h11 : (show List t.den from y).length = ks.length := h6.symm
            have h12 : (List.drop (α := t.den) lo y).length = ks.length - lo := by
              have := List.length_drop (i := lo) (l := (show List t.den from y))
              rw [h11] at this; exact this
            rw [List.length_take, h12]
            have : lo + n ≤ ks.length := hn.1
            omega
          refine ⟨a', c, by rw [hx]; congr 1; rw [hlen], ⟨by rw [hlen]; exact hcn.1, by rw [hlen]; exact hn.2⟩, fun hne => ?_⟩
          have h0 : 0 < n := by
            rcases Nat.eq_zero_or_pos n with e | e
            · subst e; exact absurd (by simp) hne
            · exact e
          obtain ⟨blk, rfl, rfl⟩ := hxa h0
          have hyne : (show List t.den from y) ≠ [] := by
            intro e
            have h10 : List.length (α := t.den) y = ks.length := h6.symm
            rw [show y = ([] : List t.den) from e] at h10
            have : lo + n ≤ ks.length := hn.1
            simp at h10; omega
          obtain ⟨b1, o1, q1, q2, q3⟩ := h9 hyne
          simp only [Option.map_some, Option.some.injEq, Addr.mk.injEq, and_true] at q1
          obtain ⟨rfl, rfl⟩ := q1
          refine ⟨blk, lo * t.size, rfl, q2, fun i z hz => ?_⟩
          have hz' : (show List t.den from y)[lo + i]? = some z := by
            have hz : ((List.drop (α := t.den) lo y).take n)[i]? = some z := hz
            rw [List.getElem?_take] at hz
            split at hz
            · have := List.getElem?_drop (xs := (show List t.den from y)) (i := lo) (j := i)
              exact this.symm.trans hz
            · cases hz
          obtain ⟨cc, k1, k2⟩ := q3 (lo + i) z hz'
          exact ⟨cc, by rw [← Nat.add_mul]; rw [Nat.zero_add] at k1; exact k1, k2⟩
        · cases e1
      · cases e1
    · cases hk
  · cases hk

theorem readR_sound (h : Rel F G s a w) : ∀ (t : Ty) (v : TV) (cs : List Value) (k : t.den → Option ρ) (r : ρ), VRc (adr s.box G) w F.R v cs → readR s t v k = some r →
    ∃ x : t.den, k x = some r ∧ Rd w (RR F G s) t x cs := by
  intro t
  have datCase : ∀ (t u : Ty) (x : u.den) (cs : List Value) (k : t.den → Option ρ) (r : ρ), VRc (adr s.box G) w F.R (.dat u x) cs → (∃ y, castTo u t x = some y ∧ k y = some r) → ∃ y : t.den, k y = some r ∧ Rd w (RR F G s) t y cs := by
    intro t u x cs k r hv ⟨y, hc, hk⟩
    obtain ⟨rfl, rfl⟩ := castTo_eq hc
    exact ⟨_, hk, Rd.agree (fun b hb => .inl hb) (fun _ _ => rfl) _ _ _ hv⟩
  induction t with
  | slice t _ =>
    intro v cs k r hv hk
    have hk : sliceD s t v k = some r := by cases v <;> simpa [readR] using hk
    have h1 : ∃ x, cs = [x] ∧ v.agg = false := by
      cases v with
      | dat u x =>
        simp only [sliceD] at hk
        split at hk
        · rename_i xs hc
          obtain ⟨rfl, rfl⟩ := castTo_eq hc
          obtain ⟨ad, cap, rfl, _⟩ := hv
          exact ⟨_, rfl, rfl⟩
        · cases hk
      | nil => exact ⟨_, hv, rfl⟩
      | sl b p => obtain ⟨_, _, _, _, _, _, rfl⟩ := hv; exact ⟨_, rfl, rfl⟩
      | slw b p lo n => obtain ⟨_, _, _, _, _, _, _, _, _, rfl, _⟩ := hv; exact ⟨_, rfl, rfl⟩
      | _ => simp [sliceD] at hk
    obtain ⟨x, rfl, hag⟩ := h1
    exact sliceD_sound h (vr_of hv (by rw [hag]; rfl)) hk
  | cons t u iht ihu =>
    intro v cs k r hv hk
    cases v with
    | cons c d =>
      obtain ⟨c1, c2, rfl, h1, h2⟩ := hv
      simp only [readR] at hk
      obtain ⟨x, e1, r1⟩ := iht c c1 _ r h1 hk
      obtain ⟨y, e2, r2⟩ := ihu d c2 _ r h2 e1
      exact ⟨(x, y), e2, c1, c2, rfl, r1, r2⟩
    | dat u' x => exact datCase _ u' x cs k r hv (by simp only [readR] at hk; split at hk; (next y hc => exact ⟨y, hc, hk⟩); cases hk)
    | _ => simp [readR] at hk
  | unit =>
    intro v cs k r hv hk
    cases v with
    | unit => exact ⟨(), by simpa [readR] using hk, ⟨rfl, trivial, hv⟩⟩
    | dat u' x => exact datCase _ u' x cs k r hv (by simp only [readR] at hk; split at hk; (next y hc => exact ⟨y, hc, hk⟩); cases hk)
    | _ => simp [readR] at hk
  | _ =>
    intro v cs k r hv hk
    cases v with
    | dat u' x => exact datCase _ u' x cs k r hv (by simp only [readR] at hk; split at hk; (next y hc => exact ⟨y, hc, hk⟩); cases hk)
    | _ => simp [readR] at hk
end
end Go.TM
/-! ## TmY -/
namespace Go.TM
set_option autoImplicit false
section
variable {ρ : Type} {P : Program} {E : Env} {F : Fr} {G : Nat → Gh} {s : St} {a : Act} {w : World} {Q : Exit → Act → World → Prop}

theorem binInt_sound {op : BinOp} {kd kd' : IntKind} {x y : Int} {k : TV → Option ρ} {r : ρ} (hkd : shifts op = true ∨ kd = kd') (h : binInt op kd x y k = some r) (t : TypeId) :
    ∃ tv v, k tv = some r ∧ (binOp op t (.int kd x) (.int kd' y)).run P w = .ok v w ∧ ∀ (A : AdrF) (R : Nat → Prop), VR A w R tv v := by
  cases op
  case shl =>
    simp only [binInt] at h
    split at h
    · rename_i n
      refine ⟨_, _, h, ?_, fun A R => vr_int _ _⟩
      simp [binOp, Op.shift]
      intro h; omega
    · cases h
  case shr =>
    simp only [binInt] at h
    split at h
    · rename_i n
      refine ⟨_, _, h, ?_, fun A R => vr_int _ _⟩
      simp [binOp, Op.shift]
      intro h; omega
    · cases h
  all_goals (rcases hkd with hkd | rfl; · simp [shifts] at hkd)
  case quo =>
    simp only [binInt] at h
    split at h
    · cases h
    · exact ⟨_, _, h, (by simp [binOp, Op.intDiv]; intro h; omega), fun A R => vr_int _ _⟩
    · exact ⟨_, _, h, by simp [binOp, Op.intDiv], fun A R => vr_int _ _⟩
  case rem =>
    simp only [binInt] at h
    split at h
    · cases h
    · exact ⟨_, _, h, (by simp [binOp, Op.intDiv]; intro h; omega), fun A R => vr_int _ _⟩
    · exact ⟨_, _, h, by simp [binOp, Op.intDiv], fun A R => vr_int _ _⟩
  case add => exact ⟨_, _, h, by simp [binOp, Op.intArith], fun A R => vr_int _ _⟩
  case sub => exact ⟨_, _, h, by simp [binOp, Op.intArith], fun A R => vr_int _ _⟩
  case mul => exact ⟨_, _, h, by simp [binOp, Op.intArith], fun A R => vr_int _ _⟩
  case and => exact ⟨_, _, h, by simp [binOp, Op.intBits], fun A R => vr_int _ _⟩
  case or => exact ⟨_, _, h, by simp [binOp, Op.intBits], fun A R => vr_int _ _⟩
  case xor => exact ⟨_, _, h, by simp [binOp, Op.intBits], fun A R => vr_int _ _⟩
  case andNot => simp [binInt, cmpInt] at h
  all_goals
    simp only [binInt, cmpInt] at h
    exact ⟨_, _, h, by simp [binOp, Op.intCmp], fun A R => vr_bool _⟩

theorem eqGuard_int (op : BinOp) (t : TypeId) (x y : Operand) (k k' : IntKind) (m n : Int) : (eqGuard op t x y (.int k m) (.int k' n)).run P w = .ok () w := by
  cases op <;> simp [eqGuard]
theorem eqGuard_str (op : BinOp) (t : TypeId) (x y : Operand) (m n : ByteArray) : (eqGuard op t x y (.string m) (.string n)).run P w = .ok () w := by
  cases op <;> simp [eqGuard]
theorem eqGuard_bool (op : BinOp) (t : TypeId) (x y : Operand) (m n : Bool) : (eqGuard op t x y (.bool m) (.bool n)).run P w = .ok () w := by
  cases op <;> simp [eqGuard]

theorem toList_mk (l : List UInt8) : (ByteArray.mk l.toArray).toList = l := by
  rw [ByteArray.toList_eq]

theorem run_concat (t : TypeId) (l l' : List UInt8) (hb : l.length + l'.length ≤ bnd) : (binOp .add t (.string ⟨l.toArray⟩) (.string ⟨l'.toArray⟩)).run P w = .ok (.string ⟨(l ++ l').toArray⟩) w := by
  have hsz : ∀ m : List UInt8, (ByteArray.mk m.toArray).size = m.length := fun m => by simp [ByteArray.size]
  rw [binOp_string_add]
  simp only [Op.stringOp]
  rw [hsz, hsz, if_neg (by simp [IntKind.max, IntKind.signed, IntKind.bits]; unfold bnd at hb; omega)]
  simp only [Sem.run_pure]
  congr 2
theorem run_streq (t : TypeId) (l l' : List UInt8) : (binOp .eql t (.string ⟨l.toArray⟩) (.string ⟨l'.toArray⟩)).run P w = .ok (.bool (l == l')) w := by
  simp [binOp_string_eql]
theorem run_strne (t : TypeId) (l l' : List UInt8) : (binOp .neq t (.string ⟨l.toArray⟩) (.string ⟨l'.toArray⟩)).run P w = .ok (.bool (!(l == l'))) w := by
  simp [binOp_string_neq]

theorem plain_flat : ∀ {T : Ty}, T.plain = true → T.flat = true
  | .int _, _ => rfl
  | .bool, _ => rfl
  | .str, _ => rfl
  | .unit, _ => rfl
  | .cons _ _, h => by simp only [Ty.plain, Bool.and_eq_true] at h; simp only [Ty.flat, Bool.and_eq_true]; exact ⟨plain_flat h.1, plain_flat h.2⟩
  | .opq, h => by simp [Ty.plain] at h
  | .slice _, h => by simp [Ty.plain] at h
  | .arr _ _, h => by simp [Ty.plain] at h

theorem fcells_len' : ∀ (T : Ty) (x : T.den), T.plain = true → (fcells T x).length = T.size
  | .int _, _, _ => rfl
  | .bool, _, _ => rfl
  | .str, _, _ => rfl
  | .unit, _, _ => rfl
  | .cons t r, x, h => by
    simp only [Ty.plain, Bool.and_eq_true] at h
    simp [fcells, Ty.size, fcells_len' t x.1 h.1, fcells_len' r x.2 h.2]
  | .opq, _, h => by simp [Ty.plain] at h
  | .slice _, _, h => by simp [Ty.plain] at h
  | .arr _ _, _, h => by simp [Ty.plain] at h

/-- the value whose cells these are -/
def mkV (T : Ty) (cs : List Value) : Value := if T.agg then .agg cs.toArray else cs.headD undef

theorem run_part {T : Ty} {t : TypeId} (ht : TyIs P T t) {pre cs post : List Value} (hl : cs.length = T.size) (hs : T.agg = false → T.size = 1) :
    (part t (pre ++ cs ++ post).toArray pre.length).run P w = .ok (mkV T cs) w := by
  obtain ⟨d, hu, hd⟩ := ht.row
  obtain ⟨i, hi, hsz, _⟩ := ht.info
  unfold part
  cases hT : T.agg with
  | true =>
    have hagg : (isAgg t).run P w = .ok true w := by
      unfold isAgg
      rw [Sem.run_bind, run_underlying hu w]
      rw [hT] at hd
      cases d <;> simp_all
    simp only [Sem.run_bind, hagg, Result.andThen_ok, if_true, sizeOf, typeInfo, Sem.run_pure, hi, run_program, hsz]
    congr 1
    simp only [mkV, hT, if_true]
    congr 1
    apply Array.ext'
    simp [List.append_assoc, ← hl]
  | false =>
    have hagg : (isAgg t).run P w = .ok false w := by
      unfold isAgg
      rw [Sem.run_bind, run_underlying hu w]
      rw [hT] at hd
      cases d <;> simp_all
    rw [hs hT] at hl
    match cs, hl with
    | [v], _ =>
      simp only [Sem.run_bind, hagg, Result.andThen_ok, Bool.false_eq_true, if_false]
      simp [mkV, hT]

/-- comparing flat data -/
theorem equalIn_flat : ∀ (T : Ty), (∀ (d : Nat) (t : TypeId) (x y : T.den), T.plain = true → T ≠ .unit → T.rank < d → TyIs P T t → ∀ w, (Op.equalIn d t (mkV T (fcells T x)) (mkV T (fcells T y))).run P w = .ok (eqD T x y) w) ∧
    (∀ (d o : Nat) (l : List Field) (x y : T.den) (pre pre' : List Value), T.plain = true → T.rank ≤ d → fieldsB P T l o = true → pre.length = o → pre'.length = o → ∀ w, (Op.eqFields d (pre ++ fcells T x).toArray (pre' ++ fcells T y).toArray l).run P w = .ok (eqD T x y) w) := by
  intro T
  induction T with
  | cons t r iht ihr =>
    have step : ∀ (d o : Nat) (f : Field) (l : List Field) (x y : (Ty.cons t r).den) (pre pre' : List Value), (Ty.cons t r).plain = true → (Ty.cons t r).rank ≤ d → f.offset = o → t.size ≠ 0 → f.name ≠ "_" → TyIs P t f.type → fieldsB P r l (o + t.size) = true → pre.length = o → pre'.length = o →
        ∀ w, (Op.eqFields d (pre ++ fcells (.cons t r) x).toArray (pre' ++ fcells (.cons t r) y).toArray (f :: l)).run P w = .ok (eqD (.cons t r) x y) w := by
      intro d o f l x y pre pre' hp hr h1 h2 h3 h4 h5 hl hl' w
      simp only [Ty.plain, Bool.and_eq_true] at hp
      simp only [Ty.rank] at hr
      have hu : t ≠ .unit := by intro e; subst e; exact h2 rfl
      have hd1 : d = (d - 1) + 1 := by omega
      have p1 := run_part (w := w) h4 (pre := pre) (post := fcells r x.2) (fcells_len' t x.1 hp.1) (size_one t)
      have p2 := run_part (w := w) h4 (pre := pre') (post := fcells r y.2) (fcells_len' t y.1 hp.1) (size_one t)
      have e1 := (iht.1) d f.type x.1 y.1 hp.1 hu (by omega) h4 w
      have e2 := (ihr.2) d (o + t.size) l x.2 y.2 (pre ++ fcells t x.1) (pre' ++ fcells t y.1) hp.2 (by omega) h5 (by simp [hl, fcells_len' t x.1 hp.1]) (by simp [hl', fcells_len' t y.1 hp.1]) w
      simp only [fcells]
      rw [← List.append_assoc, ← List.append_assoc]
      simp only [Op.eqFields, h3, ne_eq, not_false_eq_true, if_true, Sem.run_bind]
      rw [h1, ← hl, p1]
      simp only [Result.andThen_ok]
      rw [hl, ← hl', p2]
      simp only [Result.andThen_ok, e1, Sem.run_ite]
      simp only [eqD]
      cases eqD t x.1 y.1 with
      | false => simp
      | true =>
        simp only [Bool.not_true, Bool.false_eq_true, if_false, Bool.true_and]
        exact e2
    refine ⟨fun d tt x y hp _ hr ht w => ?_, fun d o l x y pre pre' hp hr hf hl hl' w => ?_⟩
    · have ht0 := ht
      unfold TyIs at ht
      simp only [tyB, Bool.and_eq_true] at ht
      obtain ⟨⟨⟨_, h1⟩, _⟩, h⟩ := ht
      split at h
      · rename_i fs hfs
        split at h
        · rename_i f l hl
          simp only [Bool.and_eq_true, beq_iff_eq, Bool.not_eq_true', beq_eq_false_iff_ne, bne_iff_ne] at h
          obtain ⟨⟨⟨⟨g1, g2⟩, g3⟩, g4⟩, g5⟩ := h
          have hfo : P.fieldsOf tt = fs := by simp [Program.fieldsOf, hfs]
          have hd1 : d = (d - 1) + 1 := by omega
          rw [hd1]
          simp only [mkV, Ty.agg, if_true]
          rw [run_equalIn_struct w (d - 1) tt _ _ (by rw [hfo]; exact hfs) (by simpa using h1), hfo, hl]
          exact step (d - 1) 0 f l x y [] [] hp (by omega) g1 g2 g3 g4 (by simpa using g5) rfl rfl w
        · cases h
      · cases h
    · cases l with
      | nil => simp [fieldsB] at hf
      | cons f l =>
        simp only [fieldsB, Bool.and_eq_true, beq_iff_eq, Bool.not_eq_true', beq_eq_false_iff_ne, bne_iff_ne] at hf
        obtain ⟨⟨⟨⟨g1, g2⟩, g3⟩, g4⟩, g5⟩ := hf
        exact step d o f l x y pre pre' hp hr g1 g2 g3 g4 g5 hl hl' w
  | unit =>
    refine ⟨fun d t x y _ h => absurd rfl h, fun d o l x y pre pre' _ _ hf _ _ w => ?_⟩
    cases l with
    | nil => rfl
    | cons f l => simp [fieldsB] at hf
  | int kd =>
    refine ⟨fun d t x y _ _ hr ht w => ?_, fun d o l x y pre pre' _ _ hf => by cases l <;> simp [fieldsB] at hf⟩
    unfold TyIs at ht
    simp only [tyB, Bool.and_eq_true] at ht
    obtain ⟨_, h⟩ := ht
    split at h
    · rename_i k' hk
      rw [show d = (d - 1) + 1 by simp only [Ty.rank] at hr; omega]
      exact run_equalIn_int w (d - 1) t kd k' x y hk
    · cases h
  | bool =>
    refine ⟨fun d t x y _ _ hr ht w => ?_, fun d o l x y pre pre' _ _ hf => by cases l <;> simp [fieldsB] at hf⟩
    unfold TyIs at ht
    simp only [tyB, Bool.and_eq_true] at ht
    obtain ⟨_, h⟩ := ht
    split at h
    · rename_i hk
      rw [show d = (d - 1) + 1 by simp only [Ty.rank] at hr; omega]
      exact run_equalIn_bool' w (d - 1) t x y hk
    · cases h
  | str =>
    refine ⟨fun d t x y _ _ hr ht w => ?_, fun d o l x y pre pre' _ _ hf => by cases l <;> simp [fieldsB] at hf⟩
    unfold TyIs at ht
    simp only [tyB, Bool.and_eq_true] at ht
    obtain ⟨_, h⟩ := ht
    split at h
    · rename_i hk
      rw [show d = (d - 1) + 1 by simp only [Ty.rank] at hr; omega]
      have := run_equalIn_string w (d - 1) t ⟨List.toArray (α := UInt8) x⟩ ⟨List.toArray (α := UInt8) y⟩ hk
      have e1 : (ByteArray.mk (List.toArray (α := UInt8) x)).toList = x := toList_mk x
      have e2 : (ByteArray.mk (List.toArray (α := UInt8) y)).toList = y := toList_mk y
      rw [e1, e2] at this
      exact this
    · cases h
  | opq => exact ⟨fun d t x y h => by simp [Ty.plain] at h, fun d o l x y pre pre' h => by simp [Ty.plain] at h⟩
  | slice t _ => exact ⟨fun d t x y h => by simp [Ty.plain] at h, fun d o l x y pre pre' h => by simp [Ty.plain] at h⟩
  | arr n t _ => exact ⟨fun d t x y h => by simp [Ty.plain] at h, fun d o l x y pre pre' h => by simp [Ty.plain] at h⟩

theorem binK_sound {A : AdrF} {R : Nat → Prop} (hE : ∀ t T, E.tyOf t = some T → TyIs P T t) {op : BinOp} {t : TypeId} {u v : TV} {x y : Value} {ox oy : Operand} (hu : VR A w R u x) (hv : VR A w R v y) {k : TV → Option ρ} {r : ρ} (h : binK op (E.tyOf t) u v k = some r) :
    ∃ tv z, k tv = some r ∧ (eqGuard op t ox oy x y).run P w = .ok () w ∧ (binOp op t x y).run P w = .ok z w ∧ VR A w R tv z := by
  unfold binK at h
  split at h
  · rename_i kd m kd' n
    obtain rfl := hu.int
    obtain rfl := hv.int
    split at h
    · rename_i hc
      obtain ⟨tv, z, e1, e2, e3⟩ := binInt_sound (by simpa using hc) h t
      exact ⟨tv, z, e1, eqGuard_int _ _ _ _ _ _ _ _, e2, e3 A R⟩
    · cases h
  · rename_i l l'
    obtain ⟨rfl, h1⟩ := hu.str
    obtain ⟨rfl, h2⟩ := hv.str
    split at h
    · split at h
      · rename_i hb
        have hb : List.length (α := UInt8) l + List.length (α := UInt8) l' ≤ bnd := of_decide_eq_true hb
        exact ⟨_, _, h, eqGuard_str _ _ _ _ _ _, run_concat t l l' hb, vr_str (l := List.append (α := UInt8) l l') (by
          have e : (List.append (α := UInt8) l l').length = List.length (α := UInt8) l + List.length (α := UInt8) l' := List.length_append
          rw [e]; unfold lim; unfold bnd at hb; omega)⟩
      · cases h
    · exact ⟨_, _, h, eqGuard_str _ _ _ _ _ _, run_streq t l l', vr_bool _⟩
    · exact ⟨_, _, h, eqGuard_str _ _ _ _ _ _, run_strne t l l', vr_bool _⟩
    · cases h
  · rename_i b b'
    obtain rfl := hu.bool
    obtain rfl := hv.bool
    split at h
    · cases h
    · rename_i hc
      have hT : E.tyOf t = some .bool := by simpa using hc
      have ht := hE t _ hT
      have hub : P.underlying t = some .bool := by
        unfold TyIs at ht
        simp only [tyB, Bool.and_eq_true] at ht
        obtain ⟨_, h⟩ := ht
        split at h
        · assumption
        · cases h
      split at h
      · exact ⟨_, _, h, eqGuard_bool _ _ _ _ _ _, run_eql_bool w t b b' hub, vr_bool _⟩
      · exact ⟨_, _, h, eqGuard_bool _ _ _ _ _ _, run_neq_bool w t b b' hub, vr_bool _⟩
      · cases h
  · rename_i t1 t2 m u' n
    split at h
    · rename_i hc
      simp only [Bool.and_eq_true, decide_eq_true_eq] at hc
      obtain ⟨⟨hp, hrk⟩, hT⟩ := hc
      split at h
      · rename_i y' hcast
        obtain ⟨rfl, rfl⟩ := castTo_eq hcast
        have ht := hE t _ hT
        have hgu : P.eqGuardType P.depth t = false := by
          have h3 := ht
          unfold TyIs at h3
          simp only [tyB, Bool.and_eq_true] at h3
          simpa using h3.1.2
        obtain ⟨cs, q1, q2⟩ := hu.cells (by simp) (by simp)
        obtain ⟨cs', q1', q2'⟩ := hv.cells (by simp) (by simp)
        obtain ⟨_, rfl⟩ := Rd.flat (plain_flat hp) q1
        obtain ⟨_, rfl⟩ := Rd.flat (plain_flat hp) q1'
        have q2 : x = .agg (fcells (.cons t1 t2) m).toArray := q2
        have q2' : y = .agg (fcells (.cons t1 t2) n).toArray := q2'
        subst q2 q2'
        have heq := ((equalIn_flat (P := P) (.cons t1 t2)).1 10000 t m n hp (by simp) (by have := Nat.le_of_ble_eq_true hrk; omega) ht) w
        simp only [mkV, Ty.agg, if_true] at heq
        split at h
        · refine ⟨_, _, h, run_eqGuard_agg w _ t ox oy _ _ hgu, ?_, vr_bool _⟩
          rw [run_eql_struct, heq]; rfl
        · refine ⟨_, _, h, run_eqGuard_agg w _ t ox oy _ _ hgu, ?_, vr_bool _⟩
          rw [run_neq_struct, heq]; rfl
        · cases h
      · cases h
    · cases h
  · cases h

theorem binOp_sound (h : Rel F G s a w) (hE : TyOk P E F) {o : Oper} {op : BinOp} {t t' : TypeId} {x y : Operand} (ho : o.op = .binOp op t x y t') (hd : ∀ d, o.dst = some d → d < E.nt) {k : St → Option ρ} {r : ρ} (hk : opK E o s k = some r) :
    o.wp P a w (Post F k r) Q := by
  unfold opK at hk
  rw [ho] at hk
  simp only at hk
  obtain ⟨tv, z, e1, e2, e3, e4⟩ := binK_sound hE.ty (ox := x) (oy := y) (ev_sound h x) (ev_sound h y) hk
  exact wp_value (v := z) (w' := w) (by unfold execOp; rw [ho]; simp [e2, e3]) (put_post h hE e4 hd e1)

theorem unOp_sound (h : Rel F G s a w) (hE : TyOk P E F) {o : Oper} {op : UnOp} {t : TypeId} {x : Operand} (ho : o.op = .unOp op t x) (hd : ∀ d, o.dst = some d → d < E.nt) {k : St → Option ρ} {r : ρ} (hk : opK E o s k = some r) :
    o.wp P a w (Post F k r) Q := by
  unfold opK at hk
  rw [ho] at hk
  simp only at hk
  have hx := ev_sound h x
  split at hk
  · rename_i b e
    rw [e] at hx
    have := hx.bool
    exact wp_value (v := .bool (!b)) (w' := w) (by unfold execOp; rw [ho]; simp [this, Op.unary]) (put_post h hE (vr_bool _) hd hk)
  · rename_i kd n e
    rw [e] at hx
    have := hx.int
    simp only [binInt] at hk
    exact wp_value (v := .int kd (kd.wrap ((0 : Int) - (show Int from n)))) (w' := w) (by unfold execOp; rw [ho]; simp [this, Op.unary, Op.intArith]) (put_post h hE (vr_int _ _) hd hk)
  · cases hk
end
end Go.TM
/-! ## TnA -/
namespace Go.TM
set_option autoImplicit false
section
variable {ρ : Type} {P : Program} {E : Env} {F : Fr} {G : Nat → Gh} {s : St} {a : Act} {w : World} {Q : Exit → Act → World → Prop}

theorem nthF_tup {A : AdrF} {R : Nat → Prop} : ∀ (v : TV) (xs : List Value) (n : Nat) (u : TV), VRt A w R v xs → nthF v n = some u → ∃ x, xs[n]? = some x ∧ VR1 A w R u x := by
  intro v
  induction v with
  | cons a r iha ihr =>
    intro xs n u h hn
    cases xs with
    | nil => exact h.elim
    | cons x xs =>
      cases n with
      | zero =>
        simp only [nthF, Option.some.injEq] at hn
        subst hn
        exact ⟨x, rfl, h.1⟩
      | succ n =>
        simp only [nthF] at hn
        obtain ⟨y, e, hy⟩ := ihr xs n u h.2 hn
        exact ⟨y, e, hy⟩
  | unit =>
    intro xs n u h hn
    cases n <;> simp [nthF] at hn
  | _ => intro xs n u h hn; exact h.elim

theorem VR1.vr {A : AdrF} {R : Nat → Prop} {v : TV} {x : Value} (h : VR1 A w R v x) : VR A w R v x := by
  rcases h with rfl | ⟨cs, h1, h2⟩
  · exact .inl rfl
  · exact vr_of h1 h2

theorem extract_sound (h : Rel F G s a w) (hE : TyOk P E F) {o : Oper} {x : Operand} {n : Nat} (ho : o.op = .extract x n) (hd : ∀ d, o.dst = some d → d < E.nt) {k : St → Option ρ} {r : ρ} (hk : opK E o s k = some r) :
    o.wp P a w (Post F k r) Q := by
  unfold opK at hk
  rw [ho] at hk
  simp only at hk
  have hx := ev_sound h x
  split at hk
  · rename_i v e
    rw [e] at hx
    obtain ⟨xs, hv, hxv⟩ := hx
    split at hk
    · rename_i u hu
      obtain ⟨y, e1, e2⟩ := nthF_tup v xs n u hv hu
      refine wp_value (v := y) (w' := w) (by unfold execOp; rw [ho]; simp [hxv, Instr.extract, e1]) (put_post h hE e2.vr hd hk)
    · cases hk
  · cases hk

theorem flat_split {t : Ty} (hf : t.flat = true) {xs : List t.den} (hk : ∀ x ∈ xs, fok t x) {m : Nat} {c : t.den} (hm : xs[m]? = some c) :
    ∃ pre post, (xs.map (fcells t)).flatten = pre ++ fcells t c ++ post ∧ pre.length = m * t.size := by
  have hlt := (List.getElem?_eq_some_iff.1 hm).1
  have he := (List.getElem?_eq_some_iff.1 hm).2
  refine ⟨((xs.take m).map (fcells t)).flatten, ((xs.drop (m + 1)).map (fcells t)).flatten, ?_, ?_⟩
  · have : xs = xs.take m ++ c :: xs.drop (m + 1) := by
      rw [← he, List.getElem_cons_drop, List.take_append_drop]
    conv => lhs; rw [this]
    simp
  · have key : ∀ l : List t.den, (∀ x ∈ l, fok t x) → ((l.map (fcells t)).flatten).length = l.length * t.size := by
      intro l
      induction l with
      | nil => intro _; simp
      | cons a l ih =>
        intro hl
        simp only [List.map_cons, List.flatten_cons, List.length_append, List.length_cons]
        rw [fcells_len t a hf (hl a (by simp)), ih (fun x hx => hl x (by simp [hx])), Nat.succ_mul]; omega
    rw [key _ (fun x hx => hk x (List.mem_of_mem_take hx))]
    rw [List.length_take]
    congr 1
    omega

theorem mkV_vr {A : AdrF} {R : Nat → Prop} {t : Ty} (hf : t.flat = true) {c : t.den} (hk : fok t c) : VR A w R (.dat t c) (mkV t (fcells t c)) := by
  refine vr_of (cs := fcells t c) (Rd.of_flat hf hk) ?_
  unfold mkV
  simp only [TV.agg]
  split
  · rfl
  · rename_i ha
    have := fcells_len t c hf hk
    rw [size_one t (by simpa using ha)] at this
    match h : fcells t c, this with
    | [v], _ => rfl

theorem TyIs.str {t : TypeId} (h : TyIs P .str t) : P.underlying t = some .string := by
  simp only [TyIs, tyB, Bool.and_eq_true] at h
  have h2 := h.2
  split at h2
  · rename_i e; exact e
  · cases h2

theorem TyIs.int {t : TypeId} {k : IntKind} (h : TyIs P (.int k) t) : P.underlying t = some (.int k) := by
  simp only [TyIs, tyB, Bool.and_eq_true] at h
  have h2 := h.2
  split at h2
  · rename_i k' e
    rw [e, of_decide_eq_true h2]
  · cases h2

theorem run_idx_str {t : TypeId} (ht : P.underlying t = some .string) {l : List UInt8} {m : Nat} {c : UInt8} (hm : l[m]? = some c) (kd : IntKind) :
    (Instr.index t (.string ⟨l.toArray⟩) (.int kd m)).run P w = .ok (.int .u8 (c.toNat : Int)) w := by
  have hlt := (List.getElem?_eq_some_iff.1 hm).1
  have he := (List.getElem?_eq_some_iff.1 hm).2
  rw [run_index_string (P := P) w t ⟨l.toArray⟩ kd m ht]
  have hlt' : m < (ByteArray.mk l.toArray).size := by simpa [ByteArray.size] using hlt
  rw [dif_pos ⟨by omega, by omega⟩]
  have hg : (ByteArray.mk l.toArray)[m]'hlt' = c := by rw [← he]; rfl
  simp only [Int.toNat_natCast, hg]

theorem run_sizeIs {T : Ty} {t : TypeId} (h : TyIs P T t) : (sizeOf t).run P w = .ok T.size w := by
  obtain ⟨ii, hii, hsz, _⟩ := h.info
  simp [sizeOf, typeInfo, hii, hsz]

theorem run_idx_arr {n : Nat} {T : Ty} {t : TypeId} (ht : TyIs P (.arr n T) t) {l : List T.den} (hn : l.length = n) (hk : ∀ x ∈ l, fok T x) {m : Nat} {c : T.den} (hm : l[m]? = some c) (kd : IntKind) :
    (Instr.index t (.agg ((l.map (fcells T)).flatten).toArray) (.int kd m)).run P w = .ok (mkV T (fcells T c)) w := by
  obtain ⟨e0, hu, ht0, hf⟩ := ht.arr
  obtain ⟨pre, post, p1, p2⟩ := flat_split hf hk hm
  have hlt := (List.getElem?_eq_some_iff.1 hm).1
  have hrp := run_part (w := w) ht0 (pre := pre) (cs := fcells T c) (post := post) (fcells_len T c hf (hk c (List.mem_of_getElem? hm))) (size_one T)
  rw [p2, ← p1] at hrp
  have hlt2 : (0 : Int) ≤ (m : Int) ∧ (m : Int) < (n : Int) := by omega
  unfold Instr.index
  simp only [asIntOf, Sem.run_bind, Sem.run_pure, Result.andThen_ok, run_underlying hu, if_pos hlt2, run_sizeIs ht0, Int.toNat_natCast]
  exact hrp

theorem index_sound (h : Rel F G s a w) (hE : TyOk P E F) {o : Oper} {t : TypeId} {x y : Operand} (ho : o.op = .index t x y) 
    (hd : ∀ d, o.dst = some d → d < E.nt) {k : St → Option ρ} {r : ρ} (hk : opK E o s k = some r) :
    o.wp P a w (Post F k r) Q := by
  unfold opK at hk
  rw [ho] at hk
  simp only [tyK] at hk
  have hx := ev_sound h x
  have hy := ev_sound h y
  split at hk
  · rename_i T hT
    have ht := hE.ty t T hT
    obtain ⟨kd, i, e1, hk⟩ := asInt_sound hy hk
    split at hk
    · rename_i _T _v l e _hk
      rw [e] at hx
      have hstr := ht.str
      obtain ⟨hx, _⟩ := VR.str hx
      split at hk
      · rename_i c hc
        obtain ⟨m, rfl, hm⟩ := geti_sound hc
        have hlt := (List.getElem?_eq_some_iff.1 hm).1
        refine wp_value (v := .int .u8 (c.toNat : Int)) (w' := w) ?_ (put_post h hE (vr_int _ _) hd hk)
        unfold execOp
        rw [ho]
        have := run_idx_str (w := w) hstr hm kd
        simp [hx, e1, this]
      · cases hk
    · rename_i _T _v n u m u' z e _hk
      rw [e] at hx
      split at hk
      · rename_i hTT
        have hTT : Ty.arr m u' = Ty.arr n u := of_decide_eq_true hTT
        simp only [Ty.arr.injEq] at hTT
        obtain ⟨rfl, rfl⟩ := hTT
        obtain ⟨e0, hu, ht0, hf⟩ := ht.arr
        split at hk
        · rename_i c hc
          obtain ⟨q, rfl, hq⟩ := geti_sound hc
          have hlt := (List.getElem?_eq_some_iff.1 hq).1
          obtain ⟨cs, hcs, hv⟩ := hx.cells (by simp) (by simp)
          simp only [TV.agg, Ty.agg, if_true] at hv
          obtain ⟨g1, g2, g3⟩ := hcs
          obtain ⟨g4, g5⟩ := g2
          have g4 : z.length = m := g4
          have g3 : cs = ((show List u'.den from z).map (fcells u')).flatten := g3
          have hkc : fok u' c := g5 c (List.mem_of_getElem? hq)
          have hr := run_idx_arr (w := w) ht (l := z) g4 g5 hq kd
          refine wp_value (v := mkV u' (fcells u' c)) (w' := w) ?_ (put_post h hE (mkV_vr hf hkc) hd hk)
          unfold execOp
          rw [ho]
          change (do let x ← Instr.index t (a.eval x) (a.eval y); pure (Next.value x) : Sem Next).run P w = _
          rw [hv, e1, g3, Sem.run_bind]
          erw [hr]
          rfl
        · cases hk
      · cases hk
    · cases hk
  · cases hk

theorem foldl_bytes (xs : List Int) : xs.foldl (fun r n => r.push (UInt8.ofNat n.toNat)) ByteArray.empty = ⟨(xs.map fun n => UInt8.ofNat n.toNat).toArray⟩ := by
  have key : ∀ (xs : List Int) (l : List UInt8), xs.foldl (fun (r : ByteArray) n => r.push (UInt8.ofNat n.toNat)) ⟨l.toArray⟩ = ⟨(l ++ xs.map fun n => UInt8.ofNat n.toNat).toArray⟩ := by
    intro xs
    induction xs with
    | nil => intro l; simp
    | cons x xs ih =>
      intro l
      simp only [List.foldl_cons, List.map_cons]
      have : (ByteArray.mk l.toArray).push (UInt8.ofNat x.toNat) = ⟨(l ++ [UInt8.ofNat x.toNat]).toArray⟩ := by simp [ByteArray.push]
      rw [this, ih]
      simp
  exact key xs []

theorem run_conv_bytes {R : Nat → Prop} {t u : TypeId} (hu : TyIs P (.slice (.int .u8)) t) (ht : TyIs P .str u) (xs : List Int) {x : Value} (hrd : Rd w R (.slice (.int .u8)) xs [x]) :
    (convert t u x).run P w = .ok (.string ⟨(xs.map fun n : Int => UInt8.ofNat n.toNat).toArray⟩) w ∧ (xs.map fun n : Int => UInt8.ofNat n.toNat).length ≤ lim := by
  obtain ⟨e0, hue, hte⟩ := hu.slice
  have hti := hte.int
  have hts := ht.str
  obtain ⟨ad, cap, hxv, ⟨hl1, hl2⟩, hne⟩ := hrd
  have hl1 : xs.length ≤ cap := hl1
  have hl2 : xs.length ≤ lim := hl2
  have hxv : x = .slice ad xs.length cap := (List.cons.inj hxv).1
  subst hxv
  refine ⟨?_, by rw [List.length_map]; exact hl2⟩
  by_cases hxs : xs = []
  · subst hxs
    have hz : (convert t u (.slice ad 0 cap)).run P w = .ok (.string ByteArray.empty) w := by
      rw [run_convert_bytes_string w t u e0 _ 0 cap hue hti hts]
      cases ad <;> simp [Conv.bytesToString, loadCells]
      all_goals rfl
    exact hz
  · obtain ⟨b, o', rfl, _, hat⟩ := hne hxs
    exact run_convert_bytes_arg (P := P) w t e0 hue hti b o' xs.length cap xs rfl (fun i hi => by
      have hg : xs[i]? = some (xs.getD i 0) := by simp [List.getD, List.getElem?_eq_getElem hi]
      obtain ⟨c, hc, hr⟩ := hat i (xs.getD i 0) hg
      obtain ⟨_, _, rfl⟩ := hr
      obtain ⟨row, e1, fz, g1, g2, g3⟩ := hc
      simp only [Ty.size, Nat.mul_one] at g1 g2 g3
      have hlt : o' + i < row.size := by omega
      have g4 : (List.take 1 (List.drop (o' + i) row.toList))[0]? = some (.int .u8 (xs.getD i 0)) := by rw [g3]; rfl
      simp only [World.cell?, g1]
      simpa using g4) u hts

theorem convert_sound (h : Rel F G s a w) (hE : TyOk P E F) {o : Oper} {t u : TypeId} {x : Operand} (ho : o.op = .convert t u x) (hd : ∀ d, o.dst = some d → d < E.nt) {k : St → Option ρ} {r : ρ} (hk : opK E o s k = some r) :
    o.wp P a w (Post F k r) Q := by
  unfold opK at hk
  rw [ho] at hk
  simp only [tyK] at hk
  have hx := ev_sound h x
  split at hk
  · rename_i U hU
    have hu := hE.ty t U hU
    split at hk
    · rename_i T hT
      have ht := hE.ty u T hT
      split at hk
      · rename_i ku kd kx n e
        rw [e] at hx
        have hxv := hx.int
        refine wp_value (v := .int kd (kd.wrap n)) (w' := w) ?_ (put_post h hE (vr_int _ _) hd hk)
        unfold execOp
        rw [ho]
        simp [hxv, convert, run_underlying hu.int, run_underlying ht.int, Conv.intToInt]
      · rename_i U' T' v' 
        obtain ⟨xs, hk, hrd⟩ := sliceD_sound h hx hk
        obtain ⟨g1, g2⟩ := run_conv_bytes hu ht xs hrd
        refine wp_value (w' := w) ?_ (put_post h hE (vr_str g2) hd hk)
        unfold execOp
        rw [ho]
        change (do let x ← convert t u (a.eval x); pure (Next.value x) : Sem Next).run P w = _
        rw [Sem.run_bind, g1]
        rfl
      · cases hk
    · cases hk
  · cases hk

theorem makeFunc_sound (h : Rel F G s a w) (hE : TyOk P E F) {o : Oper} {fn : Fn} {first caps : Array Operand} (ho : o.op = .makeFunc fn first caps) (hd : ∀ d, o.dst = some d → d < E.nt) {k : St → Option ρ} {r : ρ} (hk : opK E o s k = some r) :
    o.wp P a w (Post F k r) Q := by
  unfold opK at hk
  rw [ho] at hk
  simp only at hk
  split at hk
  rotate_left
  · cases hk
  rename_i f hfirst
  have hfirst : first = #[] := by simpa using hfirst
  subst hfirst
  split at hk
  · rename_i hcap
    have hcap : ∀ x ∈ caps.toList, (s.ev x).isRef = true := List.all_eq_true.1 hcap
    have key : ∀ l : List Operand, (∀ x ∈ l, (s.ev x).isRef = true) → VRc (adr s.box G) w F.R (l.foldr (fun x r => .cons (s.ev x) r) .unit) (l.map a.eval) := by
      intro l
      induction l with
      | nil => intro _; rfl
      | cons x l ih =>
        intro hl
        have e := hl x (by simp)
        have hx := ev_sound h x
        refine ⟨[a.eval x], l.map a.eval, rfl, ?_, ih (fun y hy => hl y (by simp [hy]))⟩
        cases hv : s.ev x <;> rw [hv] at e <;> simp [TV.isRef] at e
        rw [hv] at hx
        exact hx.one (by simp) (by simp) rfl
    refine wp_value (v := .func (.func f) #[] (caps.map a.eval)) (w' := w) (by unfold execOp; rw [ho]; simp [Instr.makeFunc]) (put_post h hE ?_ hd hk)
    refine vr_of (cs := [_]) ⟨_, key caps.toList hcap, rfl⟩ ?_
    cases caps
    simp [TV.agg]
  · cases hk
end
end Go.TM
/-! ## TnB -/
namespace Go.TM
set_option autoImplicit false
section
variable {ρ : Type} {P : Program} {E : Env} {F : Fr} {G : Nat → Gh} {s : St} {a : Act} {w : World} {Q : Exit → Act → World → Prop}

theorem putCells (pre old post : List Value) (vs : List Value) (h : old.length = vs.length) :
    vs.toArray.zipIdx.foldl (fun cs (x : Value × Nat) => cs.setIfInBounds (pre.length + x.2) x.1) (pre ++ old ++ post).toArray = (pre ++ vs ++ post).toArray := by
  have e0 : vs.toArray.zipIdx = (vs.zipIdx 0).toArray := by simp
  rw [e0, List.foldl_toArray]
  obtain ⟨g1, g2⟩ := Great.foldl_set pre.length vs 0 (pre ++ old ++ post).toArray
  apply Array.ext_getElem?
  intro k
  rw [g2 k]
  simp only [List.getElem?_toArray, Nat.add_zero, List.size_toArray]
  by_cases h1 : k < pre.length
  · rw [if_neg (by omega), List.append_assoc, List.append_assoc, List.getElem?_append_left h1, List.getElem?_append_left h1]
  · by_cases h2 : k < pre.length + vs.length
    · rw [if_pos ⟨by omega, h2, by simp; omega⟩, List.append_assoc, List.getElem?_append_right (by omega), List.getElem?_append_left (by omega)]
    · rw [if_neg (by omega), List.append_assoc, List.append_assoc, List.getElem?_append_right (by omega), List.getElem?_append_right (by omega), List.getElem?_append_right (by omega), List.getElem?_append_right (by omega), h]

theorem fill_step {place : Nat → Option (Nat × Nat)} {i : Nat} {v : Value} {rest : List (Nat × Value)} {pre old post vs : List Value} (hv : v.cells.toList = vs) (hp : place i = some (pre.length, old.length)) (h : old.length = vs.length) :
    Instr.fill place (pre ++ old ++ post).toArray ((i, v) :: rest) = Instr.fill place (pre ++ vs ++ post).toArray rest := by
  have e1 : v.cells = vs.toArray := by rw [← hv]
  have e2 : v.cells.size = vs.length := by rw [e1]; simp
  rw [Instr.fill, hp]
  simp only [e2]
  rw [if_neg (by simp [h])]
  congr 1
  rw [e1]
  exact putCells pre old post vs h

theorem insP_map {β γ : Type} (f : Nat × β → Nat × γ) (hf : ∀ x, (f x).1 = x.1) (x : Nat × β) : ∀ l : List (Nat × β), (insP x l).map f = insP (f x) (l.map f) := by
  intro l
  induction l with
  | nil => rfl
  | cons y l ih =>
    simp only [insP, List.map_cons, hf]
    split
    · simp only [List.map_cons, ih]
    · simp only [List.map_cons]

theorem sortP_map {β γ : Type} (f : Nat × β → Nat × γ) (hf : ∀ x, (f x).1 = x.1) : ∀ l : List (Nat × β), (sortP l).map f = sortP (l.map f) := by
  intro l
  induction l with
  | nil => rfl
  | cons x l ih => simp only [sortP, List.map_cons, insP_map f hf, ih]

theorem mem_insP {β : Type} {x y : Nat × β} : ∀ {l : List (Nat × β)}, y ∈ insP x l → y = x ∨ y ∈ l := by
  intro l
  induction l with
  | nil => intro h; simpa [insP] using h
  | cons z l ih =>
    intro h
    simp only [insP] at h
    split at h
    · rcases List.mem_cons.1 h with rfl | h
      · exact .inr (by simp)
      · exact (ih h).imp id fun h => by simp [h]
    · simpa using h

theorem mem_sortP {β : Type} {y : Nat × β} : ∀ {l : List (Nat × β)}, y ∈ sortP l → y ∈ l := by
  intro l
  induction l with
  | nil => intro h; exact h
  | cons x l ih =>
    intro h
    rcases mem_insP h with rfl | h
    · simp
    · simp [ih h]

theorem fill_head {place : Nat → Option (Nat × Nat)} {i : Nat} {v : Value} {rest : List (Nat × Value)} {L : List Value} {cs : Array Value} (h : Instr.fill place L.toArray ((i, v) :: rest) = some cs) :
    ∃ o sz, place i = some (o, sz) ∧ v.cells.size = sz ∧ o + sz ≤ L.length := by
  rw [Instr.fill] at h
  split at h
  · cases h
  · rename_i o sz hp
    split at h
    · cases h
    · rename_i hc
      simp at hc
      obtain ⟨q1, q2⟩ := hc
      exact ⟨o, sz, hp, q1, by omega⟩
theorem cut5 (L : List Value) (o1 s1 o2 s2 : Nat) (h1 : o1 + s1 ≤ o2) (h2 : o2 + s2 ≤ L.length) : ∃ A B C D E, L = A ++ B ++ C ++ D ++ E ∧ A.length = o1 ∧ B.length = s1 ∧ (A ++ B ++ C).length = o2 ∧ D.length = s2 := by
  refine ⟨L.take o1, (L.drop o1).take s1, (L.drop (o1 + s1)).take (o2 - (o1 + s1)), (L.drop o2).take s2, L.drop (o2 + s2), ?_, ?_, ?_, ?_, ?_⟩
  · have e1 : L = L.take o1 ++ L.drop o1 := (List.take_append_drop _ _).symm
    have e2 : L.drop o1 = (L.drop o1).take s1 ++ L.drop (o1 + s1) := by rw [← List.drop_drop]; exact (List.take_append_drop _ _).symm
    have e3 : L.drop (o1 + s1) = (L.drop (o1 + s1)).take (o2 - (o1 + s1)) ++ L.drop o2 := by
      have : L.drop o2 = (L.drop (o1 + s1)).drop (o2 - (o1 + s1)) := by rw [List.drop_drop]; congr 1; omega
      rw [this]; exact (List.take_append_drop _ _).symm
    have e4 : L.drop o2 = (L.drop o2).take s2 ++ L.drop (o2 + s2) := by rw [← List.drop_drop]; exact (List.take_append_drop _ _).symm
    rw [List.append_assoc, ← e4, List.append_assoc, ← e3, List.append_assoc, ← e2, ← e1]
  · rw [List.length_take]; omega
  · rw [List.length_take, List.length_drop]; omega
  · simp only [List.length_append, List.length_take, List.length_drop]; omega
  · rw [List.length_take, List.length_drop]; omega

theorem fill_swap {place : Nat → Option (Nat × Nat)} {i j : Nat} {v u : Value} {rest : List (Nat × Value)} {L : List Value} {cs : Array Value}
    (hap : ∀ o1 s1 o2 s2, place i = some (o1, s1) → place j = some (o2, s2) → o1 + s1 ≤ o2) (h : Instr.fill place L.toArray ((i, v) :: (j, u) :: rest) = some cs) : Instr.fill place L.toArray ((j, u) :: (i, v) :: rest) = some cs := by
  obtain ⟨o1, s1, p1, c1, b1⟩ := fill_head h
  have e0 : L = L.take o1 ++ (L.drop o1).take s1 ++ L.drop (o1 + s1) := by
    have e2 : L.drop o1 = (L.drop o1).take s1 ++ L.drop (o1 + s1) := by rw [← List.drop_drop]; exact (List.take_append_drop _ _).symm
    rw [List.append_assoc, ← e2]
    exact (List.take_append_drop _ _).symm
  have l1 : (L.take o1).length = o1 := by rw [List.length_take]; omega
  have l2 : ((L.drop o1).take s1).length = s1 := by rw [List.length_take, List.length_drop]; omega
  have lv : v.cells.toList.length = s1 := by simpa using c1
  have h' := h
  rw [e0, fill_step (place := place) (vs := v.cells.toList) rfl (by rw [l1, l2]; exact p1) (by rw [l2, lv])] at h'
  obtain ⟨o2, s2, p2, c2, b2⟩ := fill_head h'
  have lu : u.cells.toList.length = s2 := by simpa using c2
  have b2 : o2 + s2 ≤ L.length := by
    simp only [List.length_append, List.length_drop, l1, lv] at b2
    omega
  obtain ⟨A, B, C, D, E, rfl, a1, a2, a3, a4⟩ := cut5 L o1 s1 o2 s2 (hap _ _ _ _ p1 p2) b2
  have a3' : A.length + B.length + C.length = o2 := by simpa [List.length_append, Nat.add_assoc] using a3
  have f1 : Instr.fill place (A ++ B ++ C ++ D ++ E).toArray ((i, v) :: (j, u) :: rest) = Instr.fill place (A ++ v.cells.toList ++ C ++ u.cells.toList ++ E).toArray rest := by
    have g1 := fill_step (place := place) (i := i) (v := v) (rest := (j, u) :: rest) (pre := A) (old := B) (post := C ++ D ++ E) rfl (by rw [a1, a2]; exact p1) (by rw [a2, lv])
    have g2 := fill_step (place := place) (i := j) (v := u) (rest := rest) (pre := A ++ v.cells.toList ++ C) (old := D) (post := E) rfl (by rw [a4]; rw [show (A ++ v.cells.toList ++ C).length = o2 by simp only [List.length_append, lv]; omega]; exact p2) (by rw [a4, lu])
    simp only [List.append_assoc] at g1 g2 ⊢
    rw [g1, g2]
  have f2 : Instr.fill place (A ++ B ++ C ++ D ++ E).toArray ((j, u) :: (i, v) :: rest) = Instr.fill place (A ++ v.cells.toList ++ C ++ u.cells.toList ++ E).toArray rest := by
    have g1 := fill_step (place := place) (i := j) (v := u) (rest := (i, v) :: rest) (pre := A ++ B ++ C) (old := D) (post := E) rfl (by rw [a4, a3]; exact p2) (by rw [a4, lu])
    have g2 := fill_step (place := place) (i := i) (v := v) (rest := rest) (pre := A) (old := B) (post := C ++ u.cells.toList ++ E) rfl (by rw [a1, a2]; exact p1) (by rw [a2, lv])
    simp only [List.append_assoc] at g1 g2 ⊢
    rw [g1, g2]
  rw [f2, ← f1]
  exact h

theorem fill_ins {place : Nat → Option (Nat × Nat)} (hap : ∀ i j, i < j → ∀ o1 s1 o2 s2, place i = some (o1, s1) → place j = some (o2, s2) → o1 + s1 ≤ o2) (x : Nat × Value) {cs : Array Value} :
    ∀ (l : List (Nat × Value)) (L : List Value), Instr.fill place L.toArray (insP x l) = some cs → Instr.fill place L.toArray (x :: l) = some cs := by
  intro l
  induction l with
  | nil => intro L h; exact h
  | cons y l ih =>
    intro L h
    simp only [insP] at h
    split at h
    · rename_i hlt
      have hlt : y.1 < x.1 := by simpa [Nat.blt_eq] using hlt
      refine fill_swap (hap _ _ hlt) ?_
      obtain ⟨i, v⟩ := y
      obtain ⟨o1, s1, p1, c1, b1⟩ := fill_head h
      rw [Instr.fill, p1] at h ⊢
      simp only at h ⊢
      split at h
      · cases h
      · rename_i hc
        rw [if_neg hc]
        have := ih _ (by rw [Array.toArray_toList]; exact h)
        rw [Array.toArray_toList] at this
        exact this
    · exact h

theorem fill_sort {place : Nat → Option (Nat × Nat)} (hap : ∀ i j, i < j → ∀ o1 s1 o2 s2, place i = some (o1, s1) → place j = some (o2, s2) → o1 + s1 ≤ o2) {cs : Array Value} :
    ∀ (l : List (Nat × Value)) (L : List Value), Instr.fill place L.toArray (sortP l) = some cs → Instr.fill place L.toArray l = some cs := by
  intro l
  induction l with
  | nil => intro L h; exact h
  | cons x l ih =>
    intro L h
    have h := fill_ins hap x _ L h
    obtain ⟨i, v⟩ := x
    obtain ⟨o1, s1, p1, c1, b1⟩ := fill_head h
    rw [Instr.fill, p1] at h ⊢
    simp only at h ⊢
    split at h
    · cases h
    · rename_i hc
      rw [if_neg hc]
      have := ih _ (by rw [Array.toArray_toList]; exact h)
      rw [Array.toArray_toList] at this
      exact this

theorem VRc.len {A : AdrF} {R : Nat → Prop} : ∀ (v : TV) (cs : List Value), VRc A w R v cs → cs.length = v.sz
  | .dat t x, cs, h => Rd.len t x cs h
  | .nil, _, h => by rw [show _ = _ from h]; rfl
  | .unit, _, h => by rw [show _ = _ from h]; rfl
  | .cons a r, cs, h => by
    obtain ⟨c1, c2, rfl, h1, h2⟩ := h
    simp [TV.sz, VRc.len a c1 h1, VRc.len r c2 h2]
  | .ref _ _, cs, h => by obtain ⟨_, _, _, _, _, rfl⟩ := h; rfl
  | .sl _ _, cs, h => by obtain ⟨_, _, _, _, _, _, rfl⟩ := h; rfl
  | .slw _ _ _ _, cs, h => by obtain ⟨_, _, _, _, _, _, _, _, _, rfl, _⟩ := h; rfl
  | .rop _ _, cs, h => by obtain ⟨_, _, _, rfl, _⟩ := h; rfl
  | .clo _ _, cs, h => by obtain ⟨_, _, rfl⟩ := h; rfl
  | .un, cs, h => by obtain ⟨_, rfl⟩ := h; rfl
  | .tup _, _, h => h.elim
  | .own _ _, _, h => h.elim

theorem VRc.cells {A : AdrF} {R : Nat → Prop} {v : TV} {x : Value} {cs : List Value} (h : VRc A w R v cs) (hs : v.solid = true) (h2 : if v.agg then x = .agg cs.toArray else cs = [x]) : x.cells.toList = cs := by
  refine cells_of h2 (fun ha => ?_)
  rw [ha] at h2
  have h2 : cs = [x] := h2
  subst h2
  cases v with
  | un => simp [TV.solid] at hs
  | tup _ => simp [TV.solid] at hs
  | own _ _ => simp [TV.solid] at hs
  | dat t y => exact Rd.ones t y _ h x (by simp)
  | nil => obtain h := List.cons.inj (show [x] = [_] from h); rw [h.1]; rfl
  | unit => cases h
  | cons a r => simp [TV.agg] at ha
  | ref _ _ => obtain ⟨_, _, _, _, _, h⟩ := h; rw [(List.cons.inj h).1]; rfl
  | sl _ _ => obtain ⟨_, _, _, _, _, _, h⟩ := h; rw [(List.cons.inj h).1]; rfl
  | slw _ _ _ _ => obtain ⟨_, _, _, _, _, _, _, _, _, h, _⟩ := h; rw [(List.cons.inj h).1]; rfl
  | rop _ _ => obtain ⟨_, _, _, h, _⟩ := h; rw [(List.cons.inj h).1]; rfl
  | clo _ _ => obtain ⟨_, _, h⟩ := h; rw [(List.cons.inj h).1]; rfl

def placesOf : Ty → Nat → List (Nat × Nat)
  | .cons t r, o => (o, t.size) :: placesOf r (o + t.size)
  | _, _ => []

theorem placesOf_apart : ∀ (t : Ty) (o : Nat), (∀ (i : Nat) o1 s1, (placesOf t o)[i]? = some (o1, s1) → o ≤ o1) ∧ ∀ (i j : Nat), i < j → ∀ o1 s1 o2 s2, (placesOf t o)[i]? = some (o1, s1) → (placesOf t o)[j]? = some (o2, s2) → o1 + s1 ≤ o2 := by
  intro t
  induction t with
  | cons t u _ ih =>
    intro o
    obtain ⟨i1, i2⟩ := ih (o + t.size)
    refine ⟨fun i o1 s1 h => ?_, fun i j hij o1 s1 o2 s2 h1 h2 => ?_⟩
    · cases i with
      | zero => simp only [placesOf, List.getElem?_cons_zero, Option.some.injEq, Prod.mk.injEq] at h; omega
      | succ i => simp only [placesOf, List.getElem?_cons_succ] at h; have := i1 i _ _ h; omega
    · cases j with
      | zero => omega
      | succ j =>
        simp only [placesOf, List.getElem?_cons_succ] at h2
        cases i with
        | zero =>
          simp only [placesOf, List.getElem?_cons_zero, Option.some.injEq, Prod.mk.injEq] at h1
          have := i1 j _ _ h2
          omega
        | succ i =>
          simp only [placesOf, List.getElem?_cons_succ] at h1
          exact i2 i j (by omega) _ _ _ _ h1 h2
  | _ => intro o; exact ⟨fun i o1 s1 h => by simp [placesOf] at h, fun i j _ o1 s1 o2 s2 h => by simp [placesOf] at h⟩

theorem places_run : ∀ (t : Ty) (l : List Field) (o : Nat), fieldsB P t l o = true → l.mapM (fun f => (P.info? f.type).map fun i => (f.offset, i.size)) = some (placesOf t o)
  | .unit, [], _, _ => rfl
  | .cons a r, f :: l, o, h => by
    simp only [fieldsB, Bool.and_eq_true, beq_iff_eq] at h
    obtain ⟨⟨⟨⟨h1, _⟩, _⟩, h3⟩, h4⟩ := h
    obtain ⟨i, hi, hs, _⟩ := TyIs.info (show TyIs P a f.type from h3)
    simp [List.mapM_cons, hi, hs, h1, places_run r l _ h4, placesOf]
  | .unit, _ :: _, _, h => by simp [fieldsB] at h
  | .cons _ _, [], _, h => by simp [fieldsB] at h
  | .int _, _, _, h => by simp [fieldsB] at h
  | .bool, _, _, h => by simp [fieldsB] at h
  | .str, _, _, h => by simp [fieldsB] at h
  | .opq, _, _, h => by simp [fieldsB] at h
  | .slice _, _, _, h => by simp [fieldsB] at h
  | .arr _ _, _, _, h => by simp [fieldsB] at h

theorem zeroD_flat : ∀ (t : Ty), t.flat = true → fok t (zeroD t) ∧ fcells t (zeroD t) = zcells t
  | .int _, _ => ⟨trivial, rfl⟩
  | .bool, _ => ⟨trivial, rfl⟩
  | .str, _ => ⟨Nat.zero_le _, rfl⟩
  | .opq, h => by simp [Ty.flat] at h
  | .slice _, h => by simp [Ty.flat] at h
  | .unit, _ => ⟨trivial, rfl⟩
  | .cons t r, h => by
    simp only [Ty.flat, Bool.and_eq_true] at h
    obtain ⟨a1, a2⟩ := zeroD_flat t h.1
    obtain ⟨b1, b2⟩ := zeroD_flat r h.2
    exact ⟨⟨a1, b1⟩, by simp [fcells, zcells, zeroD, a2, b2]⟩
  | .arr n t, h => by
    obtain ⟨a1, a2⟩ := zeroD_flat t h
    refine ⟨⟨by simp [zeroD], fun x hx => ?_⟩, ?_⟩
    · have := List.eq_of_mem_replicate (show x ∈ List.replicate n (zeroD t) from hx)
      rw [this]; exact a1
    · show ((List.replicate n (zeroD t)).map (fcells t)).flatten = _
      rw [List.map_replicate, a2]; rfl

def Ty.arrf : Ty → Bool
  | .arr _ t => t.flat
  | .cons t r => t.arrf && r.arrf
  | _ => true

theorem tyB_arrf : ∀ (T : Ty), (∀ t, tyB P T t = true → T.arrf = true) ∧ (∀ l o, fieldsB P T l o = true → T.arrf = true) := by
  intro T
  induction T with
  | cons a r iha ihr =>
    have hf : ∀ l o, fieldsB P (.cons a r) l o = true → (Ty.cons a r).arrf = true := by
      intro l o h
      cases l with
      | nil => simp [fieldsB] at h
      | cons f l =>
        simp only [fieldsB, Bool.and_eq_true] at h
        simp only [Ty.arrf, Bool.and_eq_true]
        exact ⟨iha.1 _ h.1.2, ihr.2 _ _ h.2⟩
    refine ⟨fun t h => ?_, hf⟩
    simp only [tyB, Bool.and_eq_true] at h
    obtain ⟨_, h⟩ := h
    split at h
    · rename_i fs hfs
      split at h
      · rename_i f l hl
        simp only [Bool.and_eq_true] at h
        simp only [Ty.arrf, Bool.and_eq_true]
        exact ⟨iha.1 _ h.1.2, ihr.2 _ _ h.2⟩
      · cases h
    · cases h
  | arr n t _ =>
    refine ⟨fun u h => ?_, fun l o h => by simp [fieldsB] at h⟩
    simp only [tyB, Bool.and_eq_true] at h
    exact h.1.2
  | _ => exact ⟨fun _ _ => rfl, fun _ _ _ => rfl⟩

theorem zcells_len : ∀ (t : Ty), (zcells t).length = t.size
  | .int _ => rfl
  | .bool => rfl
  | .str => rfl
  | .opq => rfl
  | .slice _ => rfl
  | .unit => rfl
  | .cons t r => by simp [zcells, Ty.size, zcells_len t, zcells_len r]
  | .arr n t => by
    simp only [zcells, Ty.size]
    have := zcells_len t
    induction n with
    | zero => simp
    | succ n ih => simp [List.replicate_succ, this, Nat.succ_mul]; omega

theorem zeroTV_val {A : AdrF} {R : Nat → Prop} : ∀ (t : Ty), t.nopq = true → t.arrf = true → VRc A w R (zeroTV t) (zcells t) ∧ (zeroTV t).solid = true ∧ (zeroTV t).agg = t.agg
  | .int _, _, _ => ⟨⟨rfl, trivial, rfl⟩, rfl, rfl⟩
  | .bool, _, _ => ⟨⟨rfl, trivial, rfl⟩, rfl, rfl⟩
  | .str, _, _ => ⟨⟨rfl, Nat.zero_le _, rfl⟩, rfl, rfl⟩
  | .opq, h, _ => by simp [Ty.nopq] at h
  | .slice _, _, _ => ⟨rfl, rfl, rfl⟩
  | .unit, _, _ => ⟨rfl, rfl, rfl⟩
  | .cons t r, h, h' => by
    simp only [Ty.nopq, Bool.and_eq_true] at h
    simp only [Ty.arrf, Bool.and_eq_true] at h'
    exact ⟨⟨_, _, rfl, (zeroTV_val t h.1 h'.1).1, (zeroTV_val r h.2 h'.2).1⟩, rfl, rfl⟩
  | .arr n t, _, h => by
    have hf : (Ty.arr n t).flat = true := h
    obtain ⟨h1, h2⟩ := zeroD_flat (.arr n t) hf
    exact ⟨⟨hf, h1, h2.symm⟩, rfl, rfl⟩

theorem buildP_sound (h : Rel F G s a w) : ∀ (t : Ty) (n o : Nat) (ps : List (Nat × Operand)) (l : List Field) (pre : List Value) (place : Nat → Option (Nat × Nat)) (k : TV → Option ρ) (r : ρ),
    fieldsB P t l o = true → t.nopq = true → pre.length = o → (∀ j, place (n + j) = (placesOf t o)[j]?) → buildP s t n ps k = some r →
    ∃ v cs, k v = some r ∧ VRc (adr s.box G) w F.R v cs ∧ v.agg = true ∧ v.solid = true ∧ Instr.fill place (pre ++ zcells t).toArray (ps.map fun x => (x.1, a.eval x.2)) = some (pre ++ cs).toArray := by
  intro t
  induction t with
  | cons t u _ ih =>
    intro n o ps l pre place k r hf hn hl hp hk
    have harr : t.arrf = true := by
      have := (tyB_arrf (P := P) (.cons t u)).2 _ _ hf
      simp only [Ty.arrf, Bool.and_eq_true] at this
      exact this.1
    simp only [Ty.nopq, Bool.and_eq_true] at hn
    cases l with
    | nil => simp [fieldsB] at hf
    | cons f l =>
      simp only [fieldsB, Bool.and_eq_true] at hf
      have zero : ∀ ps', (buildP s u (n + 1) ps' fun d => k (.cons (zeroTV t) d)) = some r →
          ∃ v cs, k v = some r ∧ VRc (adr s.box G) w F.R v cs ∧ v.agg = true ∧ v.solid = true ∧ Instr.fill place (pre ++ zcells (.cons t u)).toArray (ps'.map fun x => (x.1, a.eval x.2)) = some (pre ++ cs).toArray := by
        intro ps' hk
        obtain ⟨v, cs, e1, e2, _, _, e3⟩ := ih (n + 1) (o + t.size) ps' l (pre ++ zcells t) place _ r hf.2 hn.2 (by simp [hl, zcells_len]) (fun j => by
          have := hp (j + 1)
          simp only [placesOf, List.getElem?_cons_succ] at this
          rw [← this]; congr 1; omega) hk
        refine ⟨_, zcells t ++ cs, e1, ⟨_, _, rfl, (zeroTV_val t hn.1 harr).1, e2⟩, rfl, rfl, ?_⟩
        simp only [zcells]
        rw [← List.append_assoc, e3, List.append_assoc]
      cases ps with
      | nil => exact zero [] (by simpa only [buildP] using hk)
      | cons q ps =>
        obtain ⟨i, x⟩ := q
        simp only [buildP] at hk
        split at hk
        · rename_i hi
          have hi : i = n := Nat.eq_of_beq_eq_true hi
          subst hi
          split at hk
          · rename_i hc
            simp only [Bool.and_eq_true] at hc
            obtain ⟨c1, c2⟩ := hc
            have c2 := Nat.eq_of_beq_eq_true c2
            have hx := ev_sound h x
            obtain ⟨cx, x1, x2⟩ := hx.cells (by intro e; rw [e] at c1; simp [TV.solid] at c1) (by intro b e; rw [e] at c1; simp [TV.solid] at c1)
            have hcl := VRc.len _ _ x1
            obtain ⟨v, cs, e1, e2, _, _, e3⟩ := ih (i + 1) (o + t.size) ps l (pre ++ cx) place _ r hf.2 hn.2 (by simp [hl, hcl, c2]) (fun j => by
              have := hp (j + 1)
              simp only [placesOf, List.getElem?_cons_succ] at this
              rw [← this]; congr 1; omega) hk
            refine ⟨_, cx ++ cs, e1, ⟨_, _, rfl, x1, e2⟩, rfl, rfl, ?_⟩
            have := hp 0
            simp only [placesOf, List.getElem?_cons_zero, Nat.add_zero] at this
            simp only [zcells, List.map_cons]
            rw [← List.append_assoc, fill_step (x1.cells c1 x2) (by rw [this, hl, zcells_len]) (by rw [zcells_len, hcl, c2]), e3, List.append_assoc]
          · cases hk
        · exact zero _ hk
  | unit =>
    intro n o ps l pre place k r hf hn hl hp hk
    cases ps with
    | nil => exact ⟨.unit, [], by simpa only [buildP] using hk, rfl, rfl, rfl, by simp [zcells, Instr.fill]⟩
    | cons _ _ => simp [buildP] at hk
  | _ => intro n o ps l pre place k r hf; simp [fieldsB] at hf

theorem isAggV_agg {z : Value} (h : isAggV z = true) : ∃ cs, z = .agg cs := by
  cases z <;> simp [isAggV] at h
  exact ⟨_, rfl⟩

theorem build_sound (h : Rel F G s a w) (hE : TyOk P E F) {o : Oper} {t : TypeId} {parts : Array (Nat × Operand)} (ho : o.op = .build t parts) (hd : ∀ d, o.dst = some d → d < E.nt) {k : St → Option ρ} {r : ρ} (hk : opK E o s k = some r) :
    o.wp P a w (Post F k r) Q := by
  unfold opK at hk
  rw [ho] at hk
  simp only [tyK] at hk
  split at hk
  · rename_i T hT
    have ht := hE.ty t T hT
    split at hk
    · rename_i A r'
      split at hk
      · rename_i hn
        obtain ⟨i, hi, hsz, _, hz⟩ := ht.info
        obtain ⟨z, z1, z2, z3⟩ := hz hn
        have ht' := ht
        unfold TyIs at ht'
        simp only [tyB, Bool.and_eq_true] at ht'
        obtain ⟨_, ht'⟩ := ht'
        split at ht'
        · rename_i fs hfs
          split at ht'
          · rename_i f l hl
            simp only [Bool.and_eq_true, beq_iff_eq] at ht'
            have hF : fieldsB P (.cons A r') (f :: l) 0 = true := by
              simp only [fieldsB, Bool.and_eq_true, beq_iff_eq]
              exact ⟨ht'.1, by simpa using ht'.2⟩
            have hpl := places_run (P := P) _ _ _ hF
            obtain ⟨v, cs, e1, e2, e3, e4, e5⟩ := buildP_sound (P := P) h (.cons A r') 0 0 (sortP parts.toList) (f :: l) [] ((placesOf (.cons A r') 0).toArray[·]?) _ r hF hn rfl (fun j => by simp) hk
            have hzz : z.cells = (zcells (.cons A r')).toArray := by rw [← z2]
            have hb : P.built t (parts.map fun (i, x) => (i, a.eval x)).toList = some cs.toArray := by
              unfold Program.built
              simp only [hi, hfs, z1, hl, hpl, hzz]
              have e6 := e5
              rw [sortP_map (fun x : Nat × Operand => (x.1, a.eval x.2)) (fun x => rfl)] at e6
              have e7 := fill_sort (fun i j hij o1 s1 o2 s2 q1 q2 => (placesOf_apart (.cons A r') 0).2 i j hij o1 s1 o2 s2 (by simpa using q1) (by simpa using q2)) _ _ e6
              simpa using e7
            have hrun := run_build (P := P) w t _ _ hb
            have hxe : ∀ tv, VR (adr s.box G) w F.R tv (.agg cs.toArray) → putK o s k tv = some r → o.wp P a w (Post F k r) Q := by
              intro tv hv hk
              refine wp_value (v := .agg cs.toArray) (w' := w) ?_ (put_post h hE hv hd hk)
              unfold execOp
              rw [ho]
              simp only [Sem.run_bind, hrun, Result.andThen_ok, Sem.run_pure]
            split at e1
            · rename_i hfl
              obtain ⟨x, g1, g2⟩ := readR_sound h _ v cs _ r e2 e1
              obtain ⟨g3, g4⟩ := Rd.flat hfl g2
              refine hxe _ ?_ g1
              rw [g4]
              exact vr_of (v := .dat (.cons A r') x) (Rd.of_flat hfl g3) rfl
            · exact hxe _ (vr_of e2 (by rw [e3]; rfl)) e1
          · cases ht'
        · cases ht'
      · cases hk
    · rename_i n u
      split at hk
      · rename_i hp
        obtain ⟨e0, hu, ht0, hf⟩ := ht.arr
        obtain ⟨i, hi, hsz, _, hz⟩ := ht.info
        obtain ⟨i0, hi0, hsz0, _, _⟩ := ht0.info
        have hfn : ∀ (t : Ty), t.flat = true → t.nopq = true := by
          intro t
          induction t with
          | cons a r iha ihr => intro h; simp only [Ty.flat, Bool.and_eq_true] at h; simp only [Ty.nopq, Bool.and_eq_true]; exact ⟨iha h.1, ihr h.2⟩
          | arr n t ih => intro h; exact ih h
          | opq => intro h; simp [Ty.flat] at h
          | slice t _ => intro h; simp [Ty.flat] at h
          | _ => intro _; rfl
        obtain ⟨z, z1, z2, z3⟩ := hz (hfn _ hf)
        have hzz : z.cells = (zcells (.arr n u)).toArray := by rw [← z2]
        have hb : P.built t (parts.map fun (i, x) => (i, a.eval x)).toList = some (zcells (.arr n u)).toArray := by
          unfold Program.built
          simp only [hi, hu, z1, hi0, hzz]
          simp [hp, Instr.fill]
        have hrun := run_build (P := P) w t _ _ hb
        obtain ⟨q1, q2⟩ := zeroD_flat (.arr n u) hf
        refine wp_value (v := .agg (zcells (.arr n u)).toArray) (w' := w) ?_ (put_post h hE ?_ hd hk)
        · unfold execOp
          rw [ho]
          simp only [Sem.run_bind, hrun, Result.andThen_ok, Sem.run_pure]
        · rw [← q2]
          exact vr_of (v := .dat (.arr n u) (zeroD (.arr n u))) (Rd.of_flat hf q1) rfl
      · cases hk
    · cases hk
  · cases hk
end
end Go.TM
/-! ## TnC -/
namespace Go.TM
set_option autoImplicit false
section
variable {ρ : Type} {P : Program} {E : Env} {F : Fr} {G : Nat → Gh} {s : St} {a : Act} {w : World} {Q : Exit → Act → World → Prop}

theorem mkV_of {A : AdrF} {R : Nat → Prop} {t : Ty} {y : t.den} {cs : List Value} (h : Rd w R t y cs) : VR A w R (.dat t y) (mkV t cs) := by
  refine vr_of (cs := cs) h ?_
  unfold mkV
  simp only [TV.agg]
  split
  · rfl
  · rename_i ha
    have := Rd.len _ _ _ h
    rw [size_one t (by simpa using ha)] at this
    match cs, this with
    | [v], _ => rfl

theorem field_sound (h : Rel F G s a w) (hE : TyOk P E F) {o : Oper} {t : TypeId} {x : Operand} {n : Nat} (ho : o.op = .field t x n) (hd : ∀ d, o.dst = some d → d < E.nt) {k : St → Option ρ} {r : ρ} (hk : opK E o s k = some r) :
    o.wp P a w (Post F k r) Q := by
  unfold opK at hk
  rw [ho] at hk
  simp only [tyK] at hk
  have hx := ev_sound h x
  split at hk
  · rename_i T hT
    have ht := hE.ty t T hT
    split at hk
    · rename_i u y e
      rw [e] at hx
      split at hk
      · rename_i hu
        have hu : u = T := of_decide_eq_true hu
        subst hu
        obtain ⟨cs, h1, h2⟩ := hx.cells (by simp) (by simp)
        obtain ⟨v, z, e1, e2, e3, e4⟩ := Rd.field u y cs n _ r h1 hk
        obtain ⟨fs, f, g1, g2, g3, g4, g5⟩ := ht.struct e2
        have hag : u.agg = true := by
          cases u with
          | cons _ _ => rfl
          | _ => simp [tyAt] at e2
        simp only [TV.agg, hag, if_true] at h2
        have hcl := Rd.len _ _ _ h1
        have hsl : (sub cs (offOf u n) v.size).length = v.size := by unfold sub; simp; omega
        have hsplit : cs = cs.take (offOf u n) ++ sub cs (offOf u n) v.size ++ cs.drop (offOf u n + v.size) := by
          unfold sub
          rw [List.append_assoc, ← List.drop_drop, List.take_append_drop, List.take_append_drop]
        have hrp := run_part (w := w) g5 (pre := cs.take (offOf u n)) (cs := sub cs (offOf u n) v.size) (post := cs.drop (offOf u n + v.size)) hsl (size_one v)
        rw [← hsplit, List.length_take, Nat.min_eq_left (by omega)] at hrp
        refine wp_value (w' := w) ?_ (put_post h hE (mkV_of e3) hd e1)
        unfold execOp
        rw [ho]
        simp only [h2, Instr.field, Sem.run_bind, run_underlying g1, Result.andThen_ok, g2, asAgg, Sem.run_pure, g3, hrp]
      · cases hk
    · cases hk
  · cases hk

theorem run_builtin {o : Oper} {c : Call} {b : Builtin} (ho : o.op = .call c) (hb : c.callee = .builtin b) :
    (execOp a.eval o).run P w = (builtin b c.argTypes o.type (c.args.map fun | .const _ => true | _ => false) (c.args.map a.eval)).run P w := by
  unfold execOp
  rw [ho]
  simp only [resolve, hb, Sem.run_bind, Sem.run_pure, Result.andThen_ok, invoke]
  rfl

theorem len_sound (h : Rel F G s a w) (hE : TyOk P E F) {o : Oper} {c : Call} (ho : o.op = .call c) (hb : c.callee = .builtin .len) (hd : ∀ d, o.dst = some d → d < E.nt) {k : St → Option ρ} {r : ρ} (hk : opK E o s k = some r) :
    o.wp P a w (Post F k r) Q := by
  unfold opK at hk
  rw [ho] at hk
  simp only [hb] at hk
  unfold builtinK at hk
  split at hk
  · rename_i t ts v _ ht hv
    obtain ⟨x, hargs, hxv⟩ : ∃ x, c.args = #[x] ∧ s.ev x = v := by
      match hl : c.args.toList, hv with
      | [x], hv =>
        simp only [List.map_cons, List.map_nil, List.cons.injEq, and_true] at hv
        exact ⟨x, by rw [← Array.toArray_toList (xs := c.args), hl], hv⟩
      | [], hv => simp at hv
      | _ :: _ :: _, hv => simp at hv
    have hx := ev_sound h x
    rw [hxv] at hx
    have hty : c.argTypes[0]? = some t := by rw [← Array.getElem?_toList, ht]; rfl
    split at hk
    · rename_i T hT
      have ht' := hE.ty t _ hT
      obtain ⟨e0, hu, _⟩ := ht'.slice
      obtain ⟨n, ad, cap, e1, e2, _, _⟩ := lenD_sound h hx hk
      refine wp_value (v := .int .i64 (n : Int)) (w' := w) ?_ (put_post h hE (vr_int _ _) hd e1)
      rw [run_builtin ho hb]
      simp [builtin, Builtin.len_, hty, hargs, e2, run_underlying hu, goInt]
    · rename_i hT
      have ht' := hE.ty t _ hT
      split at hk
      · rename_i _v l
        obtain ⟨hx, _⟩ := VR.str hx
        refine wp_value (v := .int .i64 ((List.length (α := UInt8) l : Nat) : Int)) (w' := w) ?_ (put_post h hE (vr_int _ _) hd hk)
        rw [run_builtin ho hb]
        have hsz : (ByteArray.mk (List.toArray (α := UInt8) l)).size = List.length (α := UInt8) l := rfl
        have e2 : (Builtin.len_ c.argTypes o.type (c.args.map a.eval)).run P w = .ok (goInt (List.length (α := UInt8) l)) w := by
          rw [hargs]
          simp [Builtin.len_, hty, hx, run_underlying ht'.str]
          rw [hsz]
        simp only [builtin, Sem.run_bind, e2, Result.andThen_ok, Sem.run_pure, goInt]
      · cases hk
    · cases hk
  · contradiction
  · contradiction
  · contradiction
  · cases hk

theorem args_two {c : Call} {v1 v2 : TV} (hv : c.args.toList.map s.ev = [v1, v2]) : ∃ x y, c.args = #[x, y] ∧ s.ev x = v1 ∧ s.ev y = v2 := by
  match hl : c.args.toList, hv with
  | [x, y], hv =>
    simp only [List.map_cons, List.map_nil, List.cons.injEq, and_true] at hv
    exact ⟨x, y, by rw [← Array.toArray_toList (xs := c.args), hl], hv⟩
  | [], hv => simp at hv
  | [_], hv => simp at hv
  | _ :: _ :: _ :: _, hv => simp at hv

theorem min_sound (h : Rel F G s a w) (hE : TyOk P E F) {o : Oper} {c : Call} (ho : o.op = .call c) (hb : c.callee = .builtin .min) (hd : ∀ d, o.dst = some d → d < E.nt) {k : St → Option ρ} {r : ρ} (hk : opK E o s k = some r) :
    o.wp P a w (Post F k r) Q := by
  unfold opK at hk
  rw [ho] at hk
  simp only [hb] at hk
  unfold builtinK at hk
  split at hk
  · contradiction
  · contradiction
  · rename_i v1 v2 _ hv
    obtain ⟨x, y, hargs, e1, e2⟩ := args_two hv
    obtain ⟨kd1, i1, r1, hk⟩ := asInt_sound (e1 ▸ ev_sound h x) hk
    obtain ⟨kd2, i2, r2, hk⟩ := asInt_sound (e2 ▸ ev_sound h y) hk
    split at hk
    · rename_i hkd
      have hkd : kd1 = kd2 := of_decide_eq_true hkd
      subst hkd
      refine wp_value (v := .int kd1 (min i1 i2)) (w' := w) ?_ (put_post h hE (vr_int _ _) hd hk)
      rw [run_builtin ho hb]
      simp [builtin, hargs, r1, r2, Lib.run_min_ints]
    · cases hk
  · contradiction
  · cases hk

theorem max_sound (h : Rel F G s a w) (hE : TyOk P E F) {o : Oper} {c : Call} (ho : o.op = .call c) (hb : c.callee = .builtin .max) (hd : ∀ d, o.dst = some d → d < E.nt) {k : St → Option ρ} {r : ρ} (hk : opK E o s k = some r) :
    o.wp P a w (Post F k r) Q := by
  unfold opK at hk
  rw [ho] at hk
  simp only [hb] at hk
  unfold builtinK at hk
  split at hk
  · contradiction
  · contradiction
  · contradiction
  · rename_i v1 v2 _ hv
    obtain ⟨x, y, hargs, e1, e2⟩ := args_two hv
    obtain ⟨kd1, i1, r1, hk⟩ := asInt_sound (e1 ▸ ev_sound h x) hk
    obtain ⟨kd2, i2, r2, hk⟩ := asInt_sound (e2 ▸ ev_sound h y) hk
    split at hk
    · rename_i hkd
      have hkd : kd1 = kd2 := of_decide_eq_true hkd
      subst hkd
      refine wp_value (v := .int kd1 (max i1 i2)) (w' := w) ?_ (put_post h hE (vr_int _ _) hd hk)
      rw [run_builtin ho hb]
      have em : (if i2 > i1 then i2 else i1) = max i1 i2 := by
        rw [Int.max_def]
        split <;> split <;> omega
      simp [builtin, hargs, r1, r2, Builtin.max_, Builtin.max2, em]
    · cases hk
  · cases hk
end
end Go.TM
/-! ## TnD -/
namespace Go.TM
set_option autoImplicit false
section
variable {ρ : Type} {P : Program} {E : Env} {F : Fr} {G : Nat → Gh} {s : St} {a : Act} {w : World} {Q : Exit → Act → World → Prop}

theorem run_bound {x : Value} {kd : IntKind} {m y : Nat} (hx : x = .int kd m) (hm : m ≤ y) (code : BoundsCode) : (Instr.sliceBound x y code).run P w = .ok m w := by
  subst hx
  have : (0 : Int) ≤ (m : Int) ∧ (m : Int) ≤ (y : Int) := by omega
  simp only [Instr.sliceBound, asIntOf, Sem.run_bind, Sem.run_pure, Result.andThen_ok, if_pos this, Int.toNat_natCast]

theorem boundsK_sound (h : Rel F G s a w) {n cap : Nat} (hn : n ≤ cap) {lo hi : Option Operand} {k : Nat → Nat → Option ρ} {r : ρ} (hk : boundsK n (lo.map s.ev) (hi.map s.ev) k = some r) (b : Bool) :
    ∃ l u, k l u = some r ∧ l ≤ u ∧ u ≤ n ∧ (Instr.sliceBounds b n cap (lo.map a.eval) (hi.map a.eval) none).run P w = .ok (l, u, cap) w := by
  unfold boundsK at hk
  cases hi with
  | none =>
    cases lo with
    | none => exact ⟨0, n, hk, Nat.zero_le _, Nat.le_refl _, by simp [Instr.sliceBounds]⟩
    | some x =>
      simp only [Option.map_none, Option.map_some] at hk
      obtain ⟨kd, i, e1, hk⟩ := asInt_sound (ev_sound h x) hk
      obtain ⟨m, rfl, hm, hk⟩ := idx_sound hk
      refine ⟨m, n, hk, by omega, Nat.le_refl _, ?_⟩
      simp only [Instr.sliceBounds, Option.map_none, Option.map_some, Sem.run_bind, Sem.run_pure, Result.andThen_ok]
      rw [run_bound e1 (by omega)]
      rfl
  | some y =>
    simp only [Option.map_some] at hk
    obtain ⟨kd, i, e1, hk⟩ := asInt_sound (ev_sound h y) hk
    obtain ⟨m, rfl, hm, hk⟩ := idx_sound hk
    cases lo with
    | none =>
      refine ⟨0, m, hk, by omega, by omega, ?_⟩
      simp only [Instr.sliceBounds, Option.map_none, Option.map_some, Sem.run_bind, Sem.run_pure, Result.andThen_ok]
      rw [run_bound e1 (by omega)]
      rfl
    | some x =>
      simp only [Option.map_some] at hk
      obtain ⟨kd', i', e1', hk⟩ := asInt_sound (ev_sound h x) hk
      obtain ⟨m', rfl, hm', hk⟩ := idx_sound hk
      refine ⟨m', m, hk, by omega, by omega, ?_⟩
      simp only [Instr.sliceBounds, Option.map_some, Sem.run_bind, Sem.run_pure, Result.andThen_ok]
      rw [run_bound e1 (by omega)]
      simp only [Result.andThen_ok]
      rw [run_bound e1' (by omega)]
      rfl

theorem cut_len {α : Type} (x : List α) (l h : Nat) : ((x.take h).drop l).length ≤ x.length := by rw [List.length_drop, List.length_take]; omega

theorem extract_mk (x : List UInt8) (l h : Nat) : (ByteArray.mk x.toArray).extract l h = ⟨((x.take h).drop l).toArray⟩ := by
  apply ByteArray.ext
  rw [ByteArray.data_extract]
  simp [List.drop_take]

theorem run_slice_str {t : TypeId} (ht : TyIs P .str t) (x : List UInt8) {lo hi : Option Value} {l u : Nat} (hb : (Instr.sliceBounds false x.length x.length lo hi none).run P w = .ok (l, u, x.length) w) :
    (Instr.sliceAt t (.string ⟨x.toArray⟩) lo hi none).run P w = .ok (.string ⟨((x.take u).drop l).toArray⟩) w := by
  rw [run_sliceAt_string w t _ _ _ _ ht.str]
  have hsz : (ByteArray.mk x.toArray).size = x.length := by simp [ByteArray.size]
  simp [Instr.slice, run_underlying ht.str, hsz, hb, extract_mk]

theorem run_slice_sl {t : TypeId} {T : Ty} (ht : TyIs P (.slice T) t) (ad : Option Addr) (n cap : Nat) {lo hi : Option Value} {l u : Nat} (hb : (Instr.sliceBounds true n cap lo hi none).run P w = .ok (l, u, cap) w) :
    (Instr.sliceAt t (.slice ad n cap) lo hi none).run P w = .ok (.slice (if cap = l then ad else ad.map (·.add (l * T.size))) (u - l) (cap - l)) w := by
  obtain ⟨e, hu, he⟩ := ht.slice
  simp [Instr.sliceAt, Instr.slice, run_underlying hu, hb, run_sizeIs he]

theorem add_plain (b o n : Nat) : (Addr.mk b o none).add n = ⟨b, o + n, none⟩ := by unfold Addr.add; split <;> simp_all

theorem Rd.cut {R : Nat → Prop} {T : Ty} {y : List T.den} {ad : Option Addr} {n cap : Nat} (h : Rd w R (.slice T) y [.slice ad n cap]) {l u : Nat} (h1 : l ≤ u) (h2 : u ≤ n) :
    Rd w R (.slice T) ((y.take u).drop l) [.slice (if cap = l then ad else ad.map (·.add (l * T.size))) (u - l) (cap - l)] := by
  obtain ⟨ad', cap', g1, ⟨g2, g3⟩, g4⟩ := h
  have g1 := (List.cons.inj g1).1
  simp only [Value.slice.injEq] at g1
  obtain ⟨rfl, hny, rfl⟩ := g1
  have hny : n = y.length := hny
  have g2 : y.length ≤ cap := g2
  have g3 : y.length ≤ lim := g3
  have hlen : ((y.take u).drop l).length = u - l := by rw [List.length_drop, List.length_take]; omega
  refine ⟨_, cap - l, (by rw [hlen]), ⟨(by rw [hlen]; omega), (by rw [hlen]; omega)⟩, fun hne => ?_⟩
  have hne' : 0 < u - l := by
    rw [← hlen]
    exact List.length_pos_iff.2 hne
  have hy : y ≠ [] := by
    intro e
    rw [e] at hny
    simp at hny
    omega
  obtain ⟨b, o', rfl, hR, hat⟩ := g4 hy
  rw [if_neg (by omega)]
  refine ⟨b, o' + l * T.size, by simp only [Option.map_some, add_plain], hR, fun i z hz => ?_⟩
  have hz : ((y.take u).drop l)[i]? = some z := hz
  have hz' : y[l + i]? = some z := by
    rw [List.getElem?_drop] at hz
    by_cases h7 : l + i < u
    · rw [List.getElem?_take_of_lt h7] at hz; exact hz
    · rw [List.getElem?_take_eq_none (by omega)] at hz; cases hz
  obtain ⟨c, hc, hr⟩ := hat (l + i) z hz'
  refine ⟨c, ?_, hr⟩
  have : o' + l * T.size + i * T.size = o' + (l + i) * T.size := by rw [Nat.add_mul]; omega
  rw [this]; exact hc

theorem slice_sound (h : Rel F G s a w) (hE : TyOk P E F) {o : Oper} {t : TypeId} {x : Operand} {lo hi mx : Option Operand} (ho : o.op = .slice t x lo hi mx) (hd : ∀ d, o.dst = some d → d < E.nt) {k : St → Option ρ} {r : ρ} (hk : opK E o s k = some r) :
    o.wp P a w (Post F k r) Q := by
  unfold opK at hk
  rw [ho] at hk
  simp only [tyK] at hk
  have hx := ev_sound h x
  split at hk
  rotate_left
  · cases hk
  split at hk
  rotate_left
  · cases hk
  rename_i T hT
  have ht := hE.ty t T hT
  unfold sliceK at hk
  split at hk
  · split at hk
    · rename_i l e
      rw [e] at hx
      obtain ⟨hx, hl⟩ := VR.str hx
      obtain ⟨l0, u0, hk, h1, h2, h3⟩ := boundsK_sound (P := P) h (Nat.le_refl _) hk false
      refine wp_value (w' := w) ?_ (put_post h hE (vr_str ?_) hd hk)
      · unfold execOp
        rw [ho]
        simp only [Option.map_none, Sem.run_bind]
        rw [hx, run_slice_str ht _ h3]
        rfl
      · exact Nat.le_trans (cut_len l l0 u0) hl
    · cases hk
  · rename_i T
    have hk0 := hk
    obtain ⟨n, ad, cap, hk', hxv, hn, hcap⟩ := lenD_sound h hx hk
    clear hk
    obtain ⟨l0, u0, hk, h1, h2, h3⟩ := boundsK_sound (P := P) h hcap hk' true
    clear hk'
    have hrun := run_slice_sl ht ad n cap h3
    have fin : ∀ tv, VR (adr s.box G) w F.R tv (.slice (if cap = l0 then ad else ad.map (·.add (l0 * T.size))) (u0 - l0) (cap - l0)) → putK o s k tv = some r → o.wp P a w (Post F k r) Q := by
      intro tv hv hk
      refine wp_value (w' := w) ?_ (put_post h hE hv hd hk)
      unfold execOp
      rw [ho]
      simp only [Option.map_none, Sem.run_bind]
      rw [hxv, hrun]
      rfl
    split at hk
    · rename_i u y e
      rw [e] at hx
      split at hk
      · rename_i hu
        have hu : u = T := of_decide_eq_true hu
        subst hu
        have hrd := hx.one (by simp) (by simp) rfl
        rw [hxv] at hrd
        exact fin _ (vr_of (v := .dat (.slice u) _) (cs := [_]) (Rd.cut hrd h1 h2) rfl) hk
      · cases hk
    · rename_i b p e
      rw [e] at hx
      unfold withBox at hk
      split at hk
      · rename_i bx hbx
        try dsimp only at hk
        split at hk
        · rename_i hty
          have hty : tyAt bx.ty p = some (.slice T) := of_decide_eq_true hty
          obtain ⟨t', bk, cap', ks, ad', hA, hxx⟩ := hx.one (by simp) (by simp) rfl
          have hu := adr_tyAt hbx hA
          rw [hty] at hu
          simp only [Option.some.injEq, Ty.slice.injEq] at hu
          subst hu
          have g1 := (List.cons.inj hxx).1
          rw [hxv] at g1
          simp only [Value.slice.injEq] at g1
          obtain ⟨rfl, rfl, rfl⟩ := g1
          split at hk
          · rename_i hcond
            simp only [Bool.and_eq_true] at hcond
            obtain ⟨_, q1, q2⟩ := hcond
            have q1 : l0 = 0 := Nat.eq_of_beq_eq_true q1
            have q2 : u0 = ks.length := Nat.eq_of_beq_eq_true q2
            subst q1
            subst q2
            refine fin _ (vr_of (v := .sl b p) (cs := [_]) ⟨T, bk, cap, ks, ad', hA, ?_⟩ rfl) hk
            cases bk <;> simp [add_plain]
          · refine fin _ (vr_of (v := .slw b p l0 (u0 - l0)) (cs := [_]) ⟨T, bk, cap, ks, ad', hA, ⟨by omega, by omega⟩, _, _, rfl, ⟨by omega, fun h0 => ⟨by omega, by subst h0; cases bk <;> simp [add_plain]⟩⟩, fun hpos => ?_⟩ rfl) hk
            cases bk with
            | none =>
              have := (lenD_sl h hbx (by rw [← e]; exact hk0) hA).2 rfl
              omega
            | some blk =>
              rw [if_neg (by omega)]
              exact ⟨blk, rfl, by simp [add_plain]⟩
        · cases hk
      · cases hk
    · rename_i b p lo0 n0 e
      rw [e] at hx
      unfold withBox at hk
      split at hk
      · rename_i bx hbx
        try dsimp only at hk
        split at hk
        · rename_i hty
          have hty : tyAt bx.ty p = some (.slice T) := of_decide_eq_true hty
          obtain ⟨t', bk, cap', ks, ad', hA, hn', a', c', hxx, hc', hbk⟩ := hx.one (by simp) (by simp) rfl
          have hu := adr_tyAt hbx hA
          rw [hty] at hu
          simp only [Option.some.injEq, Ty.slice.injEq] at hu
          subst hu
          have g1 := (List.cons.inj hxx).1
          rw [hxv] at g1
          simp only [Value.slice.injEq] at g1
          obtain ⟨rfl, rfl, rfl⟩ := g1
          obtain ⟨hc', hc2⟩ := hc'
          refine fin _ (vr_of (v := .slw b p (lo0 + l0) (u0 - l0)) (cs := [_]) ⟨T, bk, cap', ks, ad', hA, ⟨by omega, by omega⟩, _, _, rfl, ⟨by omega, fun h0 => ?_⟩, fun hpos => ?_⟩ rfl) hk
          · obtain ⟨g1, g2⟩ := hc2 (by omega)
            have : l0 = 0 := by omega
            subst this
            refine ⟨by omega, ?_⟩
            rw [g2]
            cases bk <;> simp [add_plain]
          obtain ⟨blk, rfl, rfl⟩ := hbk (by omega)
          rw [if_neg (by omega)]
          exact ⟨blk, rfl, by simp [add_plain, Nat.add_mul]⟩
        · cases hk
      · cases hk
    · rename_i e
      rw [e] at hx
      have g1 := hx.one (by simp) (by simp) rfl
      have g1 := (List.cons.inj (show [a.eval x] = [_] from g1)).1
      rw [hxv] at g1
      simp only [Value.slice.injEq] at g1
      obtain ⟨rfl, rfl, rfl⟩ := g1
      have : u0 = 0 := by omega
      subst this
      have : l0 = 0 := by omega
      subst this
      exact fin .nil (vr_of (v := .nil) (cs := [_]) rfl (by simp [TV.agg])) hk
    · cases hk
  · cases hk
end
end Go.TM
/-! ## TnE -/
namespace Go.TM
set_option autoImplicit false
section
variable {ρ : Type} {P : Program} {E : Env} {F : Fr} {G : Nat → Gh} {s : St} {a : Act} {w w2 : World} {Q : Exit → Act → World → Prop}

/-- what no box has may change -/
theorem Rel.shift (h : Rel F G s a w) (hsz : Gro w w2) (hR : ∀ b, F.R b → w2.heap[b]? = w.heap[b]?) (hB : ∀ i x, s.box i = some x → ∀ b ∈ (G i).blocks, w2.heap[b]? = w.heap[b]?)
    (hO : ∀ b, b < F.w0.heap.size → b ∉ F.M → w2.heap[b]? = w.heap[b]?) : Rel F G s a w2 := by
  have hA : ALe (adr s.box G) (adr s.box G) := fun _ _ _ ft _ e => ⟨ft, e, rfl⟩
  refine ⟨fun i x hx => ?_, h.fine, h.apart, h.nodup, fun i x hx b hb => ?_, h.R, fun n => VR.mono hA hR (h.tmps n), fun b hlt hm => ?_, h.gro.trans hsz, h.defers, h.nt, h.par⟩
  · have hag : ∀ b ∈ (G i).blocks, w2.heap[b]? = w.heap[b]? := fun b hm => hB i x hx b hm
    have hold := h.box i x hx
    unfold BoxRel at hold ⊢
    split
    · rename_i hv
      rw [if_pos hv] at hold
      obtain ⟨h1, h2, cs, h3⟩ := hold
      exact ⟨h1, h2, cs, Con.mono hA hR _ _ _ _ (fun b hm => hag b (by simp [Gh.blocks, hm])) h3⟩
    · rename_i hv
      rw [if_neg hv] at hold
      obtain ⟨blk, row, e', h1, h2, h3, h4⟩ := hold
      exact ⟨blk, row, e', h1, by rw [hag blk (by simp [Gh.blocks, h1])]; exact h2, h3, Con.mono hA hR _ _ _ _ (fun b hm => hag b (by simp [Gh.blocks, hm])) h4⟩
  · obtain ⟨m1, m2, m3⟩ := h.mine i x hx b hb
    exact ⟨m1, Nat.lt_of_lt_of_le m2 hsz.size, m3⟩
  · rw [hO b hlt hm]
    exact h.agree b hlt hm

/-- the ghost with one more box -/
def addG (G : Nat → Gh) (id : Nat) (g : Gh) : Nat → Gh := fun j => if j = id then g else G j

theorem box_add (s : St) (id : Nat) (x : Box) (j : Nat) : (St.box { s with boxes := (id, x) :: s.boxes } j) = if id = j then some x else s.box j := lk_cons id x s.boxes j

theorem le_add {id : Nat} (hn : s.box id = none) (x : Box) (g : Gh) : ALe (adr s.box G) (adr (St.box { s with boxes := (id, x) :: s.boxes }) (addG G id g)) := by
  intro b p t ft ad hA
  refine ⟨ft, ?_, rfl⟩
  have : b ≠ id := by
    rintro rfl
    simp [adr, hn] at hA
  unfold adr at hA ⊢
  rw [box_add, if_neg (fun e => this e.symm)]
  simp only [addG, this, if_false]
  exact hA

structure NewOk (F : Fr) (G : Nat → Gh) (s : St) (w : World) (g : Gh) : Prop where
  nodup : g.blocks.Nodup
  out : ∀ b ∈ g.blocks, ∀ j y, s.box j = some y → b ∉ (G j).blocks
  mine : ∀ b ∈ g.blocks, ¬ F.R b ∧ b < w.heap.size ∧ (b ∈ F.M ∨ F.w0.heap.size ≤ b)

theorem Rel.addBox (h : Rel F G s a w) {id : Nat} (hid : id % 32 ≠ 0) (hn : s.box id = none) {x : Box} {g : Gh} (hfix : x.fix = false) (hfine : x.ty.fine)
    (hbox : BoxRel (adr s.box G) w F.R g x) (hg : NewOk F G s w g) : Rel F (addG G id g) { s with boxes := (id, x) :: s.boxes } a w := by
  have hA := le_add (G := G) hn x g
  have hRR : ∀ b, F.R b → w.heap[b]? = w.heap[b]? := fun _ _ => rfl
  have old : ∀ {j y}, (St.box { s with boxes := (id, x) :: s.boxes } j) = some y → (j = id ∧ y = x) ∨ (j ≠ id ∧ s.box j = some y) := by
    intro j y hy
    rw [box_add] at hy
    by_cases e : id = j
    · rw [if_pos e] at hy
      exact .inl ⟨e.symm, (Option.some.inj hy).symm⟩
    · rw [if_neg e] at hy
      exact .inr ⟨fun e' => e e'.symm, hy⟩
  have up : ∀ (g : Gh) (x : Box), BoxRel (adr s.box G) w F.R g x → BoxRel (adr (St.box { s with boxes := (id, x) :: s.boxes }) (addG G id g)) w F.R g x → True := fun _ _ _ _ => trivial
  have mono : ∀ (g' : Gh) (y : Box), BoxRel (adr s.box G) w F.R g' y → BoxRel (adr (St.box { s with boxes := (id, x) :: s.boxes }) (addG G id g)) w F.R g' y := by
    intro g' y hold
    unfold BoxRel at hold ⊢
    split
    · rename_i hv
      rw [if_pos hv] at hold
      obtain ⟨h1, h2, cs, h3⟩ := hold
      exact ⟨h1, h2, cs, Con.mono hA hRR _ _ _ _ (fun _ _ => rfl) h3⟩
    · rename_i hv
      rw [if_neg hv] at hold
      obtain ⟨blk, row, e', h1, h2, h3, h4⟩ := hold
      exact ⟨blk, row, e', h1, h2, h3, Con.mono hA hRR _ _ _ _ (fun _ _ => rfl) h4⟩
  refine ⟨fun i y hy => ?_, fun i y hy => ?_, fun i j y z hy hz hne b hm hm' => ?_, fun i y hy => ?_, fun i y hy b hb => ?_, h.R, fun n => VR.mono hA hRR (h.tmps n), h.agree, h.gro, h.defers, h.nt, fun i y hy => ?_⟩
  · rcases old hy with ⟨rfl, rfl⟩ | ⟨e, hy'⟩
    · have : addG G i g i = g := by simp [addG]
      rw [this]; exact mono _ _ hbox
    · have : addG G id g i = G i := by simp [addG, e]
      rw [this]; exact mono _ _ (h.box i y hy')
  · rcases old hy with ⟨rfl, rfl⟩ | ⟨e, hy'⟩
    · exact hfine
    · exact h.fine i y hy'
  · rcases old hy with ⟨rfl, rfl⟩ | ⟨e, hy'⟩
    · rcases old hz with ⟨e2, _⟩ | ⟨e2, hz'⟩
      · exact hne e2.symm
      · simp only [addG, if_true, e2, if_false] at hm hm'
        exact hg.out b hm j z hz' hm'
    · rcases old hz with ⟨rfl, rfl⟩ | ⟨e2, hz'⟩
      · simp only [addG, if_true, e, if_false] at hm hm'
        exact hg.out b hm' i y hy' hm
      · simp only [addG, e, e2, if_false] at hm hm'
        exact h.apart i j y z hy' hz' hne b hm hm'
  · rcases old hy with ⟨rfl, rfl⟩ | ⟨e, hy'⟩
    · simpa [addG] using hg.nodup
    · simpa [addG, e] using h.nodup i y hy'
  · rcases old hy with ⟨rfl, rfl⟩ | ⟨e, hy'⟩
    · simp only [addG, if_true] at hb; exact hg.mine b hb
    · simp only [addG, e, if_false] at hb; exact h.mine i y hy' b hb
  · rcases old hy with ⟨rfl, rfl⟩ | ⟨e, hy'⟩
    · exact ⟨fun e => absurd e hid, fun e => (by rw [hfix] at e; cases e)⟩
    · simpa [addG, e] using h.par i y hy'

theorem newBox_sound {id : Nat} {x : Box} {k : St → Option ρ} {r : ρ} (hk : newBox s id x k = some r) : id % 32 ≠ 0 ∧ s.box id = none ∧ k { s with boxes := (id, x) :: s.boxes } = some r := by
  unfold newBox at hk
  split at hk
  · cases hk
  · rename_i e
    split at hk
    · cases hk
    · rename_i e2
      refine ⟨fun h => ?_, e2, hk⟩
      rw [h] at e
      cases e

/-- a value of a slice of its own, put into a new box -/
theorem newSl_post (h : Rel F G s a w) (hE : TyOk P E F) {d : Nat} {t : Ty} {xs : List t.den} {k : St → Option ρ} {r : ρ} (hk : newSl s d t xs k = some r) (hd : d < E.nt) (hfine : t.fine)
    {f : FT} {v : Value} (ho : Own w (.slice t) xs f [v]) (hf : NewOk F G s w ⟨none, f⟩) : Post F k r (a.put (some d) v) w := by
  obtain ⟨h1, h2, h3⟩ := newBox_sound hk
  have hr := h.addBox (x := ⟨.slice t, true, false, .own (.slice t) xs⟩) (g := ⟨none, f⟩) h1 h2 rfl hfine ⟨rfl, ⟨t, rfl⟩, [v], ⟨rfl, ho⟩⟩ hf
  refine ⟨_, _, hr.put (by rw [← hE.nt]; exact hd) ?_, h3⟩
  refine vr_of (v := .sl (d * 32 + 1) []) (cs := [v]) ?_ rfl
  obtain ⟨b, cap, ks, rfl, hv, _, _, hl, _⟩ := ho
  refine ⟨t, b, cap, ks, none, ?_, by rw [hv, hl]⟩
  simp [adr, box_add, addG, addr]

/-- a variable of its own -/
theorem newVar_post (h : Rel F G s a w) (hE : TyOk P E F) {d : Nat} {t : Ty} {c : TV} {k : St → Option ρ} {r : ρ} (hk : newVar s d t c k = some r) (hd : d < E.nt) (hfine : t.fine)
    {f : FT} {row : Array Value} {e : TypeId} {blk : Nat} (hw : w.heap[blk]? = some (.cells row e (0, 0))) (hc : Con (adr s.box G) w F.R c t f row.toList) (hf : NewOk F G s w ⟨some blk, f⟩) :
    Post F k r (a.put (some d) (.pointer (some ⟨blk, 0, none⟩))) w := by
  obtain ⟨h1, h2, h3⟩ := newBox_sound hk
  have hr := h.addBox (x := ⟨t, false, false, c⟩) (g := ⟨some blk, f⟩) h1 h2 rfl hfine ⟨blk, row, e, rfl, hw, by have := Con.len _ _ _ _ hc; simpa using this, hc⟩ hf
  refine ⟨_, _, hr.put (by rw [← hE.nt]; exact hd) ?_, h3⟩
  refine vr_of (v := .ref (d * 32 + 1) []) (cs := [_]) ?_ rfl
  refine ⟨t, f, blk, 0, ?_, rfl⟩
  simp only [adr, box_add, if_true, addG]
  cases t <;> simp [addr]
end
end Go.TM
/-! ## TnF -/
namespace Go.TM
set_option autoImplicit false
section
variable {ρ : Type} {P : Program} {E : Env} {F : Fr} {G : Nat → Gh} {s : St} {a : Act} {w w2 : World} {Q : Exit → Act → World → Prop}

theorem zeroOwn : ∀ (t : Ty), t.nopq = true → t.arrf = true → ∃ ft : FT, ft.blocks = [] ∧ ∀ w, Own w t (zeroD t) ft (zcells t)
  | .int _, _, _ => ⟨.leaf, rfl, fun _ => ⟨rfl, trivial, rfl, rfl⟩⟩
  | .bool, _, _ => ⟨.leaf, rfl, fun _ => ⟨rfl, trivial, rfl, rfl⟩⟩
  | .str, _, _ => ⟨.leaf, rfl, fun _ => ⟨rfl, Nat.zero_le _, rfl, rfl⟩⟩
  | .opq, h, _ => by simp [Ty.nopq] at h
  | .slice t, _, _ => ⟨.node none 0 [], rfl, fun _ => ⟨none, 0, [], rfl, rfl, Nat.le_refl _, Nat.zero_le _, rfl, rfl⟩⟩
  | .unit, _, _ => ⟨.leaf, rfl, fun _ => ⟨rfl, trivial, rfl, rfl⟩⟩
  | .cons t r, h, h' => by
    simp only [Ty.nopq, Bool.and_eq_true] at h
    simp only [Ty.arrf, Bool.and_eq_true] at h'
    obtain ⟨f1, b1, o1⟩ := zeroOwn t h.1 h'.1
    obtain ⟨f2, b2, o2⟩ := zeroOwn r h.2 h'.2
    exact ⟨.pair f1 f2, by simp [FT.blocks, b1, b2], fun w => ⟨rfl, _, _, rfl, o1 w, o2 w⟩⟩
  | .arr n t, _, h => by
    have hf : (Ty.arr n t).flat = true := h
    obtain ⟨h1, h2⟩ := zeroD_flat (.arr n t) hf
    exact ⟨.leaf, rfl, fun w => ⟨hf, h1, rfl, h2.symm⟩⟩

theorem TyIs.arrf {T : Ty} {t : TypeId} (h : TyIs P T t) : T.arrf = true := (tyB_arrf T).1 t h

theorem alloc_get (w : World) (o : Obj) (b : Nat) (h : b < w.heap.size) : (w.alloc o).heap[b]? = w.heap[b]? := by
  unfold World.alloc
  rw [Array.getElem?_push_lt h, Array.getElem?_eq_getElem h]

theorem alloc_new (w : World) (o : Obj) : (w.alloc o).heap[w.heap.size]? = some o := by
  unfold World.alloc
  simp only [Array.getElem?_push_size]

theorem alloc_size (w : World) (o : Obj) : (w.alloc o).heap.size = w.heap.size + 1 := World.size_alloc w o

theorem Rel.alloc (h : Rel F G s a w) (o : Obj) : Rel F G s a (w.alloc o) :=
  h.grow ⟨by rw [alloc_size]; omega, by unfold World.alloc; rfl, by unfold World.alloc; rfl⟩ (fun b hb => alloc_get w o b hb)

theorem newOk_alloc (h : Rel F G s a w) (o : Obj) {f : FT} (hf : Fresh F G s w f) : NewOk F G s (w.alloc o) ⟨some w.heap.size, f⟩ := by
  refine ⟨?_, fun b hb j y hy hm => ?_, fun b hb => ?_⟩
  · simp only [Gh.blocks, Option.toList_some, List.singleton_append, List.nodup_cons]
    refine ⟨fun hm => ?_, hf.nodup⟩
    have := (hf.mine _ hm).2.1
    omega
  · simp only [Gh.blocks, Option.toList_some, List.singleton_append, List.mem_cons] at hb
    rcases hb with rfl | hb
    · have := (h.mine j y hy _ hm).2.1
      omega
    · exact hf.out b hb j y hy hm
  · simp only [Gh.blocks, Option.toList_some, List.singleton_append, List.mem_cons] at hb
    rw [alloc_size]
    rcases hb with rfl | hb
    · refine ⟨fun hR => ?_, by omega, .inr h.size⟩
      have := h.ro_lt hR
      omega
    · obtain ⟨q1, q2, q3⟩ := hf.mine b hb
      exact ⟨q1, by omega, q3⟩

theorem newOk_row (h : Rel F G s a w) (o : Obj) {ks : List FT} {cap : Nat} (hf : NewOk F G s (w.alloc o) ⟨some w.heap.size, .pair .leaf (.node none 0 ks)⟩) : NewOk F G s (w.alloc o) ⟨none, .node (some w.heap.size) cap ks⟩ := by
  have e : (Gh.mk none (.node (some w.heap.size) cap ks)).blocks = (Gh.mk (some w.heap.size) (.pair .leaf (.node none 0 ks))).blocks := by simp [Gh.blocks, FT.blocks]
  exact ⟨by rw [e]; exact hf.nodup, by rw [e]; exact hf.out, by rw [e]; exact hf.mine⟩

theorem alloc_sound (h : Rel F G s a w) (hE : TyOk P E F) {o : Oper} {t : TypeId} (ho : o.op = .alloc t) (hd : ∀ d, o.dst = some d → d < E.nt) {k : St → Option ρ} {r : ρ} (hk : opK E o s k = some r) :
    o.wp P a w (Post F k r) Q := by
  unfold opK at hk
  rw [ho] at hk
  simp only [tyK] at hk
  split at hk
  rotate_left
  · cases hk
  rename_i d hdst
  split at hk
  rotate_left
  · cases hk
  rename_i T hT
  have ht := hE.ty t T hT
  have key : ∀ (z : Value) (c : TV) (f : FT), (zeroValue t).run P w = .ok z w → f.blocks = [] → Con (adr s.box G) (w.alloc (.cells z.cells t)) F.R c T f z.cells.toList → newVar s d T c k = some r → o.wp P a w (Post F k r) Q := by
    intro z c f hz hf hc hk
    have := newVar_post (h.alloc (.cells z.cells t)) hE hk (hd d hdst) (TyIs.fine T t ht) (alloc_new w _) hc (newOk_alloc h _ (Fresh.nil hf))
    refine wp_value (v := .pointer (some ⟨w.heap.size, 0, none⟩)) (w' := w.alloc (.cells z.cells t)) ?_ (by rw [hdst]; exact this)
    unfold execOp
    rw [ho]
    simp [Instr.alloc, hz, Go.newVar, newRow]
  split at hk
  · rename_i hn
    obtain ⟨i, hi, _, _, hz⟩ := ht.info
    obtain ⟨z, z1, z2, z3⟩ := hz hn
    obtain ⟨f, f1, f2⟩ := zeroOwn T hn ht.arrf
    refine key z _ f ?_ f1 (show Con _ _ _ (.own T (zeroD T)) T f _ from ⟨rfl, by rw [z2]; exact f2 _⟩) hk
    simp [zeroValue, typeInfo, hi, z1]
  · split at hk
    · obtain ⟨i, z, hi, hz, hl⟩ := ht.opq
      refine key z _ .leaf ?_ rfl (show Con _ _ _ .un .opq .leaf _ from ⟨rfl, rfl, rfl, hl⟩) hk
      simp [zeroValue, typeInfo, hi, hz]
    · cases hk

theorem box_sound (h : Rel F G s a w) (hE : TyOk P E F) {o : Oper} {t : TypeId} {x : Operand} (ho : o.op = .box t x) (hd : ∀ d, o.dst = some d → d < E.nt) {k : St → Option ρ} {r : ρ} (hk : opK E o s k = some r) :
    o.wp P a w (Post F k r) Q := by
  unfold opK at hk
  rw [ho] at hk
  simp only [tyK] at hk
  split at hk
  rotate_left
  · cases hk
  rename_i d hdst
  split at hk
  rotate_left
  · cases hk
  rename_i T hT
  have ht := hE.ty t T hT
  have hx := ev_sound h x
  obtain ⟨cs, x1, x2⟩ := hx.cells (by intro e; rw [e] at hk; cases T <;> simp [absorb] at hk) (by intro b e; rw [e] at hk; cases T <;> simp [absorb] at hk)
  obtain ⟨G1, s1, c, f, κ, hk1, T1⟩ := absorb_sound T _ G s cs _ r h x1 hk
  have hcells : (a.eval x).cells.toList = cs := cells_of x2 (fun ha => by
    rw [ha] at x2
    exact T1.ones _ (by rw [show cs = [a.eval x] from x2]; simp))
  have hR' := T1.rel.alloc (.cells (a.eval x).cells t)
  have hc : Con (adr s1.box G1) (w.alloc (.cells (a.eval x).cells t)) F.R c T f (a.eval x).cells.toList := by
    rw [hcells]
    exact Con.mono (fun _ _ _ ft _ e => ⟨ft, e, rfl⟩) (fun b hb => alloc_get w _ b (h.ro_lt hb)) _ _ _ _ (fun b hb => alloc_get w _ b (T1.fresh.mine b hb).2.1) T1.con
  have := newVar_post hR' hE hk1 (hd d hdst) (TyIs.fine T t ht) (alloc_new w _) hc (newOk_alloc T1.rel _ T1.fresh)
  refine wp_value (v := .pointer (some ⟨w.heap.size, 0, none⟩)) (w' := w.alloc (.cells (a.eval x).cells t)) ?_ (by rw [hdst]; exact this)
  unfold execOp
  rw [ho]
  simp [Instr.box, Go.newVar, newRow]
end
end Go.TM
/-! ## TnG -/
namespace Go.TM
set_option autoImplicit false
section
variable {ρ : Type} {P : Program} {E : Env} {F : Fr} {G : Nat → Gh} {s : St} {a : Act} {w w2 : World} {Q : Exit → Act → World → Prop}

/-- the cells of elements that lie side by side -/
def OwnL (w : World) (t : Ty) : List t.den → List FT → List Value → Prop
  | [], [], cs => cs = []
  | x :: xs, k :: ks, cs => ∃ c1 c2, cs = c1 ++ c2 ∧ Own w t x k c1 ∧ OwnL w t xs ks c2
  | _, _, _ => False

variable {t : Ty}

theorem OwnL.len : ∀ {xs : List t.den} {ks : List FT} {cs : List Value}, OwnL w t xs ks cs → cs.length = xs.length * t.size ∧ ks.length = xs.length
  | [], [], cs, h => by rw [show cs = [] from h]; simp
  | x :: xs, k :: ks, cs, h => by
    obtain ⟨c1, c2, rfl, h1, h2⟩ := h
    obtain ⟨g1, g2⟩ := OwnL.len h2
    refine ⟨?_, by simp [g2]⟩
    rw [List.length_append, Own.len _ _ _ _ h1, g1, List.length_cons, Nat.succ_mul]; omega
  | [], _ :: _, _, h => h.elim
  | _ :: _, [], _, h => h.elim

theorem OwnL.agree : ∀ {xs : List t.den} {ks : List FT} {cs : List Value}, (∀ b ∈ FT.blocksL ks, w2.heap[b]? = w.heap[b]?) → OwnL w t xs ks cs → OwnL w2 t xs ks cs
  | [], [], _, _, h => h
  | x :: xs, k :: ks, cs, hb, h => by
    obtain ⟨c1, c2, rfl, h1, h2⟩ := h
    exact ⟨c1, c2, rfl, Own.agree _ _ _ _ (fun b m => hb b (by simp [FT.blocksL, m])) h1, OwnL.agree (fun b m => hb b (by simp [FT.blocksL, m])) h2⟩
  | [], _ :: _, _, _, h => h.elim
  | _ :: _, [], _, _, h => h.elim

theorem OwnL.ones : ∀ {xs : List t.den} {ks : List FT} {cs : List Value}, OwnL w t xs ks cs → TM.ones cs
  | [], [], cs, h => by rw [show cs = [] from h]; intro v hv; cases hv
  | x :: xs, k :: ks, cs, h => by
    obtain ⟨c1, c2, rfl, h1, h2⟩ := h
    exact ones_app (Own.ones _ _ _ _ h1) (OwnL.ones h2)
  | [], _ :: _, _, h => h.elim
  | _ :: _, [], _, h => h.elim

theorem OwnL.append : ∀ {xs ys : List t.den} {ks ls : List FT} {cs ds : List Value}, OwnL w t xs ks cs → OwnL w t ys ls ds → OwnL w t (xs ++ ys) (ks ++ ls) (cs ++ ds)
  | [], _, [], _, cs, _, h, h' => by rw [show cs = [] from h]; exact h'
  | x :: xs, _, k :: ks, _, cs, _, h, h' => by
    obtain ⟨c1, c2, rfl, h1, h2⟩ := h
    exact ⟨c1, _, by rw [List.append_assoc], h1, OwnL.append h2 h'⟩
  | [], _, _ :: _, _, _, _, h, _ => h.elim
  | _ :: _, _, [], _, _, _, h, _ => h.elim

theorem blocksL_append : ∀ (ks ls : List FT), FT.blocksL (ks ++ ls) = FT.blocksL ks ++ FT.blocksL ls
  | [], _ => rfl
  | k :: ks, ls => by simp [FT.blocksL, blocksL_append ks ls]

theorem OwnL.nth : ∀ {xs : List t.den} {ks : List FT} {cs : List Value}, OwnL w t xs ks cs → ∀ (i : Nat) (x : t.den) (k : FT), xs[i]? = some x → ks[i]? = some k → Own w t x k (sub cs (i * t.size) t.size)
  | [], [], _, _, i, x, k, hx, _ => by simp at hx
  | x :: xs, k :: ks, cs, h, i, y, l, hx, hk => by
    obtain ⟨c1, c2, rfl, h1, h2⟩ := h
    have hl := Own.len _ _ _ _ h1
    cases i with
    | zero =>
      simp only [List.getElem?_cons_zero, Option.some.injEq] at hx hk
      subst hx hk
      unfold sub
      rw [Nat.zero_mul, List.drop_zero, ← hl, List.take_left]
      exact h1
    | succ i =>
      have := OwnL.nth h2 i y l (by simpa using hx) (by simpa using hk)
      unfold sub at this ⊢
      have e : (i + 1) * t.size = t.size + i * t.size := by rw [Nat.succ_mul]; omega
      rw [e, ← hl, ← List.drop_drop, List.drop_left, hl]
      exact this
  | [], _ :: _, _, h, _, _, _, _, _ => h.elim
  | _ :: _, [], _, h, _, _, _, _, _ => h.elim

/-- a row of elements is a slice of its own -/
theorem OwnL.own {xs : List t.den} {ks : List FT} {cs rest : List Value} (h : OwnL w t xs ks cs) {b cap : Nat} {row : Array Value} {e : TypeId} (hb : w.heap[b]? = some (.cells row e (0, 0))) (hr : row.toList = cs ++ rest)
    (hcap : cap * t.size = row.size) (hl : xs.length ≤ cap) (hlim : xs.length ≤ lim) : Own w (.slice t) xs (.node (some b) cap ks) [.slice (some ⟨b, 0, none⟩) xs.length cap] := by
  obtain ⟨h1, h2⟩ := h.len
  refine ⟨some b, cap, ks, rfl, rfl, hl, hlim, h2, ⟨row, e, hb, hcap⟩, fun i x k hx hk => ?_⟩
  have hx : xs[i]? = some x := hx
  have hi : i < xs.length := (List.getElem?_eq_some_iff.1 hx).1
  have hle : i * t.size + t.size ≤ xs.length * t.size := by
    have : (i + 1) * t.size ≤ xs.length * t.size := Nat.mul_le_mul_right _ hi
    rw [Nat.succ_mul] at this; exact this
  refine ⟨_, ⟨row, e, (0, 0), hb, ?_, rfl⟩, ?_⟩
  · rw [← hcap]
    exact Nat.le_trans hle (Nat.mul_le_mul_right _ hl)
  · have := h.nth i x k hx hk
    unfold sub at this
    rw [hr, List.drop_append_of_le_length (by omega), List.take_append_of_le_length (by rw [List.length_drop]; omega)]
    exact this

/-- a slice of its own is a row of elements -/
theorem Own.toL {xs : List t.den} {b cap : Nat} {ks : List FT} {cs : List Value} (h : Own w (.slice t) xs (.node (some b) cap ks) cs) :
    ∃ row e c rest, w.heap[b]? = some (.cells row e (0, 0)) ∧ cap * t.size = row.size ∧ row.toList = c ++ rest ∧ OwnL w t xs ks c ∧ xs.length ≤ cap ∧ xs.length ≤ lim ∧ cs = [.slice (some ⟨b, 0, none⟩) xs.length cap] := by
  obtain ⟨b', cap', ks', e1, rfl, h1, h2, h3, h4⟩ := h
  simp only [FT.node.injEq] at e1
  obtain ⟨rfl, rfl, rfl⟩ := e1
  obtain ⟨⟨row, e, h5, h6⟩, h7⟩ := h4
  have h1 : xs.length ≤ cap := h1
  have h3 : ks.length = xs.length := h3
  refine ⟨row, e, row.toList.take (xs.length * t.size), row.toList.drop (xs.length * t.size), h5, h6, by rw [List.take_append_drop], ?_, h1, h2, rfl⟩
  have hle : xs.length * t.size ≤ row.size := by rw [← h6]; exact Nat.mul_le_mul_right _ h1
  have key : ∀ (xs : List t.den) (ks : List FT) (n : Nat), ks.length = xs.length → (n + xs.length) * t.size ≤ row.size →
      (∀ (i : Nat) (x : t.den) (k : FT), xs[i]? = some x → ks[i]? = some k → ∃ c, At w b ((n + i) * t.size) t.size c ∧ Own w t x k c) → OwnL w t xs ks ((row.toList.drop (n * t.size)).take (xs.length * t.size)) := by
    intro xs
    induction xs with
    | nil =>
      intro ks n hl _ _
      cases ks with
      | nil => simp [OwnL]
      | cons _ _ => simp at hl
    | cons x xs ih =>
      intro ks n hl hle hat
      cases ks with
      | nil => simp at hl
      | cons k ks =>
        obtain ⟨c, hc, ho⟩ := hat 0 x k rfl rfl
        obtain ⟨row', e', fz', g1, g2, g3⟩ := hc
        rw [h5] at g1
        simp only [Option.some.injEq, Obj.cells.injEq] at g1
        obtain ⟨rfl, _, _⟩ := g1
        simp only [Nat.add_zero] at g3
        refine ⟨c, (row.toList.drop ((n + 1) * t.size)).take (xs.length * t.size), ?_, ho, ih ks (n + 1) (by simpa using hl) (by simpa [Nat.add_assoc, Nat.add_comm 1] using hle) (fun i y l hy hk => by
          have := hat (i + 1) y l (by simpa using hy) (by simpa using hk)
          rw [show n + 1 + i = n + (i + 1) from by omega]; exact this)⟩
        rw [← g3, List.length_cons, Nat.succ_mul, Nat.add_comm (xs.length * t.size), List.take_add, Nat.succ_mul, List.drop_drop]
  have := key xs ks 0 h3 (by rw [Nat.zero_add]; exact hle) (fun i x k hx hk => by rw [Nat.zero_add]; exact h7 i x k hx hk)
  rw [Nat.zero_mul, List.drop_zero] at this
  exact this

theorem OwnL.zero (hn : t.nopq = true) (ha : t.arrf = true) : ∀ n, ∃ ks : List FT, FT.blocksL ks = [] ∧ ∀ w, OwnL w t (List.replicate n (zeroD t)) ks (List.replicate n (zcells t)).flatten := by
  intro n
  obtain ⟨f, f1, f2⟩ := zeroOwn t hn ha
  induction n with
  | zero => exact ⟨[], rfl, fun _ => rfl⟩
  | succ n ih =>
    obtain ⟨ks, k1, k2⟩ := ih
    exact ⟨f :: ks, by simp [FT.blocksL, f1, k1], fun w => ⟨_, _, by rw [List.replicate_succ, List.flatten_cons], f2 w, k2 w⟩⟩

theorem OwnL.flat (hf : t.flat = true) : ∀ (xs : List t.den), (∀ x ∈ xs, fok t x) → ∃ ks : List FT, FT.blocksL ks = [] ∧ ∀ w, OwnL w t xs ks (xs.map (fcells t)).flatten
  | [], _ => ⟨[], rfl, fun _ => rfl⟩
  | x :: xs, h => by
    obtain ⟨ks, k1, k2⟩ := OwnL.flat hf xs (fun y hy => h y (by simp [hy]))
    have : ∃ f : FT, f.blocks = [] ∧ ∀ w, Own w t x f (fcells t x) := ⟨.leaf, rfl, fun w => Own.of_flat hf (h x (by simp)) rfl⟩
    obtain ⟨f, f1, f2⟩ := this
    exact ⟨f :: ks, by simp [FT.blocksL, f1, k1], fun w => ⟨_, _, by simp, f2 w, k2 w⟩⟩

theorem madeCells_eq (z : Array Value) (n : Nat) : (madeCells z (n * z.size)).toList = (List.replicate n z.toList).flatten := by
  unfold madeCells
  rw [Array.toList_map, Array.toList_range]
  induction n with
  | zero => simp
  | succ n ih =>
    rw [List.replicate_succ', List.flatten_append, List.flatten_singleton, ← ih, Nat.succ_mul, List.range_add, List.map_append]
    congr 1
    rw [List.map_map]
    apply List.ext_getElem
    · simp
    · intro i h1 h2
      simp only [List.length_map, List.length_range] at h1
      simp only [List.getElem_map, List.getElem_range, Function.comp_apply]
      have : (n * z.size + i) % z.size = i := by rw [Nat.mul_comm, Nat.mul_add_mod]; exact Nat.mod_eq_of_lt h1
      rw [this]
      simp [h1]
end
end Go.TM
