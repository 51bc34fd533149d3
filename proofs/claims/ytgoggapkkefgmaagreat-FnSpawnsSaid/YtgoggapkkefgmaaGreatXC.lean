/- PROVED HERE: the row FnSpawnsSaid as it is given: FnSpawns answers true for all codes; it asks for nothing more. Part 3 of 8 (the theorem stands in the last one; here: the same; the law's plain part). Own names are shortened. -/
import Derived.Carry
import Derived.ChangeShapes
import Derived.KernelRfl
import Derived.Lib.Bytealg
import Derived.LoopN
import Derived.OpenShut
import Derived.OwnWalkIn
import Derived.RangeFuncBox
import Derived.RangeFuncLeaves
import Derived.RowKit
import Derived.Shelf.SlIterI.Sorted
import Derived.Shelf.SortM.Plain
import Derived.Shelf.SortM.SortNone
import Derived.Shelf.Spec.SlicesGrow
import Derived.SizedLaws
import Derived.Test.YtgoggapkkefgmaaGreatProg
import Derived.Test.YtgoggapkkefgmaaGreatXB
set_option autoImplicit false
set_option linter.unusedVariables false
set_option linter.unusedSimpArgs false
set_option linter.constructorNameAsVariable false
namespace Go.TM
section
variable {ρ:Type} {P:Program} {E:ao} {F:Fr} {G:Nat→Gh} {s:St} {a:Act} {w w2:World} {Q:Exit→Act→World→Prop}
def j1 (K:Ty) (key:K.ai) (xs:List (K.ai×Int×Unit)):Nat:=match hT K key 0 xs with
 |some x=>x.1
 |none=>xs.length
theorem afU {K:Ty} (e:iY K) (key:K.ai) (xs:List (K.ai×Int×Unit)) (u:Int):j1 K key xs<(dC K key u xs).length∧((dC K key u xs)[j1 K key xs]?).map Prod.fst=some key∧
 ∀v,(dC K key u xs).set (j1 K key xs) (key,v,())=dC K key v xs:=by
 unfold j1;rcases uw e key u xs 0 with ⟨b,d⟩|⟨i,z,b,d,f,h4⟩
 rw [b,d];refine ⟨by simp,by simp,fun v=>?_⟩;rcases uw e key v xs 0 with ⟨_,c⟩|⟨i,z,_,c,_⟩
 rw [c];simp;simp_all;rw [d,f];simp only [eL];refine ⟨by simpa using b,by simp [b],fun v=>?_⟩;rcases uw e key v xs 0 with ⟨g,_⟩|⟨j,y,_,c,h,_⟩
 simp_all;simp_all
theorem TS {K:Ty} (b:iY K) (x:K.ai):lD K x x=true:=by
 rcases b with rfl|rfl
 exact l0 (α:=Int) x;exact l0 (α:=List Int) x
theorem Ls {K:Ty} (b:iY K) (key:K.ai) (v:Int):∀(xs:List (K.ai×Int×Unit)),c0 K key (dC K key v xs)=v
 |[]=>by simp [dC,c0,TS b]
 |e::r=>by
  rw [dC];split;simp [c0,TS b];rename_i h;rw [c0,aj h];exact Ls b key v r
theorem ad2 {K:Ty} {xs:List (K.ai×Int×Unit)} {b:Array MapEntry} (h:s5 K xs b) {i:Nat} (hi:i<xs.length):b.findIdx? (fun e=>(e.born:Int)==(i:Int))=some i:=by
 obtain ⟨f,c⟩:=h;have g:∀j (d:j<b.size),b[j].born=j:=fun j d=>by
  obtain ⟨_,e,l,_,_,n⟩:=c j xs[j] (aT (by omega))
  grind
 rw [Array.findIdx?_eq_some_iff_getElem]
 grind
theorem afz (h:aA F G s a w) {t:TypeId} {K:Ty} (al:pk P K t=true) {b:Nat} {mv ah:Value} (au:VR (ax s.box G) w F.R (.mp b) mv) {bx:bl} (aa:s.box b=some bx) (az:bx.cm=true) {xs:List (K.ai×Int×Unit)}
 (ao:bx.c=.tup (.ab (.slice (eI K)) xs)) {key:K.ai} (ad:ah=e8 K key) (D:dm K key):
 ∃w',(Instr.mapEntry t mv ah).run P w=.ok (.tuple #[.int .i64 (c0 K key xs),.int .i64 (j1 K key xs)]) w'∧aA F G (s.b4 b {bx with c:=.tup (.ab (.slice (eI K)) (show List (K.ai×Int×Unit) from dC K key (c0 K key xs) xs))}) a w':=by
 obtain ⟨a9,aj,ae,W,aw,u⟩:=q2 al;obtain ⟨d,Z,J,aq,a5,ay,g,ac,U,_,am⟩:=ym (K:=K) (k:=some) (r:=xs) h au aa (by unfold iv;rw [ao];simp only;rw [nx (a:=.slice (eI K)) xs]);obtain rfl:=bk aq;have av:=VN u key D;obtain ⟨C,X⟩:=am;have ag:∀o (v:Int),s5 K (dC K key v d) o→aA F G (s.b4 b {bx with c:=.tup (.ab (.slice (eI K)) (show List (K.ai×Int×Unit) from dC K key v d))}) a {w with heap:=w.heap.setIfInBounds Z (.map o o.size)}:=fun o v an=>
  h.Ll aa az ac (.map o o.size) fun A=>by
   rw [ay,ac];refine ⟨rfl,u,Z,o,rfl,rfl,?_,an⟩
   grind
 have Y:(zeroValue aj).run P w=.ok (.int .i64 0) w:=by
  obtain ⟨i,hi,_,_,Y⟩:=aw.hb;obtain ⟨z,a4,aD,z3⟩:=Y rfl;have a0:z=.int .i64 0:=by cases z<;>simp_all [Value.cells,fb,EA,Ty.agg]
  simp [zeroValue,typeInfo,hi,a4,a0]
 rcases uw u key (c0 K key d) d 0 with ⟨I,q⟩|⟨i,z,I,q,ak,h4⟩
 have O:c0 K key d=0:=by rw [←ES key d 0,I];rfl
 refine ⟨_,?_,ag (J.push {key:=e8 K key,val:=.int .i64 0,born:=J.size}) _ ⟨by rw [q];simp [C],fun i x g=>?_⟩⟩;unfold Instr.mapEntry;rw [g,ad];simp only [Sem.run_bind,run_underlying ae,Result.andThen_ok,Go.MapKept.run_getObj_map U,yH u W key D,xW u W key D w ⟨C,X⟩,I,rJ,Y];rw [Go.MapKept.run_setObj_map _ U];simp [O,j1,I,goInt,C];rw [q,O] at g;by_cases hi:i<d.length
 grind
 rw [List.getElem?_append_right (by omega)] at g;have ap:i=d.length:=by
  grind
 subst ap;simp at g;subst g;exact ⟨D,{key:=e8 K key,val:=.int .i64 0,born:=J.size},by rw [←C];simp,rfl,rfl,C⟩;rw [eL] at q;obtain ⟨aB,e,a1,aC,a2,a3⟩:=X i _ (aT I);have ar:e.key=e8 K key:=by simp_all
 have O:c0 K key d=z:=by rw [←ES key d 0,q];rfl
 have a8:e.val=.int .i64 z:=by
  rw [a2];have f:(hT K key 0 d)=some (i,d[i].2.1):=by
   have:∀(l:List (K.ai×Int×Unit)) (n j:Nat) (y:Int),hT K key n l=some (n+j,y)→∃x,l[j]?=some x∧x.2.1=y:=by
    intro l
    induction l with
    |nil=>intro n j y f;cases f
    |cons e l af=>
     intro n j y f;rw [hT] at f;split at f;simp_all;cases j with
     |zero=>
      exfalso;have:∀(l:List (K.ai×Int×Unit)) (n m:Nat) (y:Int),hT K key n l=some (m,y)→n≤m:=by
       intro l
       induction l with
       |nil=>intro n m y f;cases f
       |cons e l af=>
        intro n m y f;rw [hT] at f
        grind
      grind
     |succ j=>exact af (n+1) j y (by grind)
   obtain ⟨x,a6,a7⟩:=this d 0 i z (by simp_all);simp_all
  simp_all
 refine ⟨_,?_,ag (J.modify i fun e=>{e with key:=e8 K key}) _ ⟨by rw [ak];simp [C],fun j x g=>?_⟩⟩;unfold Instr.mapEntry;rw [g,ad];simp only [Sem.run_bind,run_underlying ae,Result.andThen_ok,Go.MapKept.run_getObj_map U,yH u W key D,xW u W key D w ⟨C,X⟩,q,cx,a1,rI,ar,Instr.keyThatStays,av,b5,Sem.run_pure];rw [Go.MapKept.run_setObj_map _ U];simp [O,j1,q,goInt,a3]
 grind
theorem adE (h:aA F G s a w) {t:TypeId} {K:Ty} (z:pk P K t=true) {b:Nat} {mv:Value} (U:VR (ax s.box G) w F.R (.mp b) mv) {bx:bl} (n:s.box b=some bx) (Z:bx.cm=true) {xs:List (K.ai×Int×Unit)}
 (C:bx.c=.tup (.ab (.slice (eI K)) xs)) {i:Nat} {key:K.ai} (hi:(xs[i]?).map Prod.fst=some key) (v:Int):
 ∃w',(Instr.entryStore t mv (.int .i64 i) (.int .i64 v)).run P w=.ok () w'∧aA F G (s.b4 b {bx with c:=.tup (.ab (.slice (eI K)) (show List (K.ai×Int×Unit) from xs.set i (key,v,())))}) a w':=by
 obtain ⟨aj,ac,ah,af,ag,J⟩:=q2 z;obtain ⟨y,g,f,I,ad,Y,d,o,q,_,l⟩:=ym (K:=K) (k:=some) (r:=xs) h U n (by unfold iv;rw [C];simp only;rw [nx (a:=.slice (eI K)) xs]);obtain rfl:=bk I;obtain ⟨aa,u,ae⟩:=Option.map_eq_some_iff.1 hi;have O:=(bR.1 u).1;have D:=ad2 l O;obtain ⟨X,W⟩:=l;obtain ⟨ak,e,al,am,an,ao⟩:=W i aa u;refine ⟨{w with heap:=w.heap.setIfInBounds g (.map (f.modify i fun e=>{e with val:=.int .i64 v}) (f.modify i fun e=>{e with val:=.int .i64 v}).size)},?_,h.Ll n Z o _ fun A=>?_⟩;unfold Instr.entryStore;rw [d];simp only [Sem.run_bind,Result.andThen_ok,Go.MapKept.run_getObj_map q];rw [show (Go.asInt (.int .i64 (i:Int))).run P w=.ok (i:Int) w from rfl];simp only [Result.andThen_ok,D];rw [Go.MapKept.run_setObj_map _ q];simp;rw [Y,o];refine ⟨rfl,J,g,f.modify i fun e=>{e with val:=.int .i64 v},rfl,rfl,?_,(by show _=(y.set i (key,v,())).length;simp [X]),fun j x d=>?_⟩
 grind
 replace d:(y.set i (key,v,()))[j]?=some x:=d
 grind
theorem adx {ops:Array Oper} (W:∀(i:Nat) (o:Oper),ops.toList[i]?=some o→o.guard=none) (hk:kH ops.toList) (I:(Nat→Prop)→Act→World→Prop)
 (ae:∀(L:Nat→Prop) (i:Nat) (o:Oper) (a:Act) (w:World),ops.toList[i]?=some o→¬L i→(∀j∈dW o,L j)→ov ops.toList L→I L a w→o.wp P a w (I fun j=>j=i∨L j) Q)
 (O:∀(L L':Nat→Prop) (a:Act) (w:World),(∀j,L j↔L' j)→I L a w→I L' a w)
 (y:∀(L:Nat→Prop) (a:Act) (w:World),(∀i,i<ops.size→L i)→I L a w→Q .normal a w):
 ∀(f:Nat) (b:Array Bool) (a:Act) (w:World),b.size=ops.size→ov ops.toList (cv b)→I (cv b) a w→
  (∃U:List Nat,U.length≤f∧∀i,i<ops.size→¬cv b i→i∈U)→wpAny P .any ops Q f b a w:=by
 have z:∀i,i<ops.size→ops.toList[i]?=some ops[i]!:=by
  simp_all
 have ab:∀(b:Array Bool),b.size=ops.size→Region.ready .any ops b=[]→∀n i,i<n→i<ops.size→cv b i:=by
  intro b e C n
  induction n with
  |zero=>intro i h;omega
  |succ n D=>
   intro i hi g;apply ho;intro d;have:i∈Region.ready .any ops b:=(lM e i).2 ⟨_,z i g,d,fun j c=>by
    have:=hk.eN i _ (z i g) j c
    grind⟩
   simp_all
 intro f
 induction f with
 |zero=>
  intro b a w e _ hi q;obtain ⟨U,u,v⟩:=q;have ag:U=[]:=hI.1 (Nat.le_zero.1 u);have K:∀i,i<ops.size→cv b i:=fun i hi=>ho fun d=>by simp_all
  refine ⟨?_,y _ a w K hi⟩;apply zc.2;intro i hi;obtain ⟨o,l,d,_⟩:=(lM e i).1 hi
  grind
 |succ f D=>
  intro b a w e x hi q;refine ⟨fun C=>y _ a w (fun i hi=>ab b e C (i+1) i (lZ i) hi) hi,fun i Y=>?_⟩;obtain ⟨o,l,d,J⟩:=(lM e i).1 Y;have g:i<ops.size:=(bR.1 l).1;have r:i<b.size:=by omega
  obtain ⟨U,u,v⟩:=q;have ad:ops[i]?=some o:=by simp_all
  unfold wpOp;rw [ad];simp only;rw [show Region.wanted o (yielded ops a.tmps)=true from by unfold Region.wanted;rw [W i o l],ak rfl];left;refine Oper.wp_mono (fun a' w' X=>?_) (ae _ i o a w l d J x hi);refine D _ a' w' (by simp_all) ?_ (O _ _ _ _ (fun j=>(jZ r j).symm) X) ?_;intro j af ac c k aa;rw [jZ r] at c⊢;rcases c with rfl|c
  simp_all;exact .inr (x j af ac c k aa);have ah:=v i g d;refine ⟨U.erase i,by simp_all,fun j c Z=>?_⟩;rw [jZ r] at Z;simp_all
theorem aA.anw {G:Nat→Gh} {s d:St} {a:Act} {w:World} (h:aA F G s a w) (g:∀n,d.get n=s.get n∨d.get n=.un) (f:∀b,d.box b=s.box b) (j:d.sv=s.sv):aA F G d a w:=by
 have c:aA F G {d with tmps:=s.tmps} a w:=h.congr (fun _=>rfl) f j;exact ⟨c.box,c.cF,c.dc,c.b7,c.bK,c.R,fun n=>(g n).elim (fun e=>by rw [e];exact c.tmps n) (fun e=>by rw [e];exact .inl rfl),c.bQ,c.gq,c.defers,c.nt,c.c1,c.sv,c.j9⟩
theorem ah1 {f:Nat→Bool} {k:St→Option ρ} {r:ρ}:∀(l:List Oper) (i:Nat) (s:St),yC E f k i l s=some r→
 ∃(V:Nat→TV) (T:Nat→St),T i=s∧k (T (i+l.length))=some r∧∀(j:Nat) (o:Oper),l[j]?=some o→∃d,o.dst=some d∧T (i+j+1)=(T (i+j)).put d (V (i+j))∧oQ E o (T (i+j)) (V (i+j)) []∧
  (∀{σ:Type} (s:St) (k:St→Option σ),de E o s k=a2 E o s k)∧(f (i+j)=false→∀x∈o.op.operands.toList,∀c∈((T (i+j)).ev x).aF,∃y,(T (i+j)).box c=some y∧y.cm=false):=by
 intro l
 induction l with
 |nil=>intro i s h;exact ⟨fun _=>.un,fun _=>s,rfl,h,fun j o b=>by cases b⟩
 |cons o l I=>
  intro i s h;unfold yC at h;split at h;rotate_left;cases h;rename_i e;simp only [bp,fc,hn] at e;obtain ⟨⟨⟨U,C⟩,D⟩,h4⟩:=e;obtain ⟨d,g⟩:=ou.1 h4;have q:a2 E o s (yC E f k (i+1) l)=some r∧∀{σ:Type} (s:St) (k:St→Option σ),de E o s k=a2 E o s k:=by
   unfold de at h;rw [g] at h;simp only at h;split at h;rotate_left;cases h;rename_i W;split at h;cases h;rename_i Y;refine ⟨h,fun s k=>?_⟩;unfold de
   grind
  obtain ⟨v,new,n,O,z⟩:=UH C q.1;obtain rfl:=z D;have u:s.step o.dst v []=s.put d v:=by rw [g];rfl
  rw [u] at n;obtain ⟨V,T,aa,ab,K⟩:=I (i+1) _ n;refine ⟨fun j=>if j=i then v else V j,fun j=>if j=i then s else T j,by simp,?_,fun j J b=>?_⟩
  grind
  cases j with
  |zero=>
   obtain rfl:=bk b;refine ⟨d,g,?_,?_,q.2,fun X x Z c e=>?_⟩;simp_all;simp_all
   grind
  |succ j=>
   have:=K j J (by simpa using b)
   grind
open Classical in
noncomputable def gL (ops:List Oper) (V:Nat→TV) (s:St) (L:Nat→Prop) (n:Nat):TV:=
 if h:∃j,j<10∧L j∧∃o,ops[j]?=some o∧o.dst=some n then V h.choose else s.get n
section
variable {ops:List Oper} {V:Nat→TV} {L L':Nat→Prop}
theorem lB (hk:kH ops) {j:Nat} (g:j<10) (e:L j) {o:Oper} (d:ops[j]?=some o) {n:Nat} (b:o.dst=some n):gL ops V s L n=V j:=by
 unfold gL;have c:∃j,j<10∧L j∧∃o,ops[j]?=some o∧o.dst=some n:=⟨j,g,e,o,d,b⟩
 rw [dif_pos c];obtain ⟨_,_,l,h,f⟩:=c.choose_spec;rw [hk.b3 j o d n b _ l h f]
theorem mw {b:Nat} (h:∀(j:Nat) (o:Oper),j<10→L j→ops[j]?=some o→o.dst≠some b):gL ops V s L b=s.get b:=by
 unfold gL
 grind
theorem aeq (hk:kH ops) (u:ov ops L) {i:Nat} {o:Oper} (y:ops[i]?=some o) (hi:¬L i) (I:∀j∈dW o,L j) (O:i≤10) {x:Nat} (K:x∈fk ops o):gL ops V s L x=gL ops V s (· <i) x:=by
 by_cases l:∃j b,j<10∧ops[j]?=some b∧b.dst=some x
 obtain ⟨j,b,v,c,d⟩:=l;rcases hk.ul i o y x K j b c d with h|⟨e,z⟩
 have J:=hk.eN i o y j h;rw [lB hk v (I j h) c d,lB (L:=(· <i)) hk v J c d];have U:¬L j:=fun C=>hi (tE hk u (j+1) j b (lZ j) c (u j b c C) i z)
 rw [mw fun q r _ D n g=>by have:=hk.b3 j b c x d q r n g;simp_all,
  mw (L:=(· <i)) fun q r _ D n g=>by have:=hk.b3 j b c x d q r n g;omega]
 rw [mw fun j b e _ f h4=>l ⟨j,b,e,f,h4⟩,mw (L:=(· <i)) fun j b e _ f h4=>l ⟨j,b,e,f,h4⟩]
theorem tZ (hk:kH ops) {i:Nat} {o:Oper} (r:ops[i]?=some o) (q:i<10) {d:Nat} (l:o.dst=some d) (n:Nat):gL ops V s (fun j=>j=i∨L j) n=if d=n then V i else gL ops V s L n:=by
 split;rename_i e;subst e;exact lB hk q (.inl rfl) r l;rename_i u;by_cases h:∃j,j<10∧L j∧∃o,ops[j]?=some o∧o.dst=some n
 obtain ⟨j,b,c,g,f,h4⟩:=h;rw [lB hk b c f h4,lB (L:=fun j=>j=i∨L j) hk b (.inr c) f h4];rw [mw fun j g b c f h4=>h ⟨j,b,c,g,f,h4⟩,mw (L:=fun j=>j=i∨L j) fun j g b c f h4=>by
  grind]
end
theorem afy {K:Ty} {c:TV} {k:List (K.ai×Int×Unit)→Option ρ} {r:ρ} (h:iv K c k=some r):∃xs:List (K.ai×Int×Unit),c=.tup (.ab (.slice (eI K)) xs)∧k xs=some r:=by
 unfold iv at h;split at h;rotate_left;cases h;rename_i u xs;split at h;rotate_left;cases h;rename_i y b;unfold cM at b;split at b;rotate_left;cases b
 grind
theorem aeY {K:Ty} {v:TV} {k:K.ai→Option ρ} {r:ρ} (h:kq K v k=some r):∃key,v=.ad K key∧k key=some r:=by
 unfold kq at h;split at h;rotate_left;cases h;rename_i u x;split at h;rotate_left;cases h;rename_i y b;unfold cM at b;split at b;rotate_left;cases b
 grind
theorem afx {K:Ty} (xs:List (K.ai×Int×Unit)) (k:List (K.ai×Int×Unit)→Option ρ):iv K (.tup (.ab (.slice (eI K)) xs)) k=k xs:=by
 unfold iv;simp only;rw [nx (a:=.slice (eI K)) xs]
theorem TR {K:Ty} (key:K.ai) (k:K.ai→Option ρ):kq K (.ad K key) k=k key:=by
 unfold kq;simp only;rw [nx (a:=K) key]
theorem Et {ops:List Oper} {V:Nat→TV} {L L':Nat→Prop} (hk:kH ops) (h:∀j,j<10→(L j↔L' j)) (n:Nat):gL ops V s L n=gL ops V s L' n:=by
 by_cases f:∃j,j<10∧L j∧∃o,ops[j]?=some o∧o.dst=some n
 obtain ⟨j,b,c,e,d,h4⟩:=f;rw [lB hk b c d h4,lB hk b ((h j b).1 c) d h4];rw [mw fun j e b c d h4=>f ⟨j,b,c,e,d,h4⟩,mw fun j e b c d h4=>f ⟨j,b,(h j b).2 c,e,d,h4⟩]
theorem aeH (a5:dl P E F) (bu:fs P E) {ops:Array Oper} {k:St→Option ρ} {r:ρ} (h:aA F G s a w) (hk:KO E ops.toList k s=some r) (cc:∀G s a w,aA F G s a w→k s=some r→Q .normal a w):
 wpAny P .any ops Q ops.size (Array.replicate ops.size false) a w:=by
 generalize ha:ops.toList=q at hk;have cI:ops.size=q.length:=by rw [←ha];rfl
 unfold KO at hk;split at hk;rotate_left;cases hk;rename_i bF bG bH bI bJ bK X a9 a3 ao a1;split at hk;rotate_left;cases hk;rename_i t m W bT cW m8 cR c5 ac c6 cV iq O bW bf bm bg aC bh aP E2 c1;split at hk;rotate_left;cases hk;rename_i a7;simp only [bp] at a7;obtain ⟨⟨⟨⟨⟨⟨⟨⟨⟨⟨⟨⟨⟨⟨bM,bN⟩,bO⟩,c4⟩,bP⟩,bQ⟩,bR⟩,bS⟩,c9⟩,D2⟩,xD⟩,⟨xE,aX⟩⟩,aD⟩,cg⟩,ci⟩:=a7;obtain rfl:=fe bM;obtain rfl:=fe bN;obtain rfl:=fe bO;obtain rfl:=fe c4;obtain rfl:=fe bP;obtain rfl:=fe bQ;obtain rfl:=fe bR;obtain rfl:=fe bS;have u:=Th cg;rw [mem_iff] at xE aX aD;have ce:ac<E.nt:=by simp_all
 have cF:O<E.nt:=by simp_all
 simp only [hn,Bool.or_eq_false_iff] at xD;obtain ⟨⟨⟨cu,cw⟩,cx⟩,n4⟩:=xD;have bE:∀{l:List Nat} {n:Nat},mem l n=false→n∉l:=fun I C=>by rw [(mem_iff _ _).2 C] at I;cases I
 have aK:=bE cu;have b7:=bE cw;simp only [cy,pS,or_false,gQ] at aK b7;have b9:X.dst≠some iq∧X.dst≠some W:=⟨fun e=>by simp [nM,e] at cx,fun e=>by simp [nM,e] at n4⟩;obtain ⟨bL,T,cd,D,bB⟩:=ah1 _ _ _ hk;simp only [hH,List.length_nil,eL] at D bB;split at D;rotate_left;cases D;rename_i K b v bs ba co;unfold b6 at D;split at D;rotate_left;cases D;rename_i bx cE
 try dsimp only at D
 split at D;rotate_left;cases D;rename_i bD;have bb:=a5.bC _ K bs;obtain ⟨cT,c8,cN,cL,cM,aY⟩:=q2 bb;obtain ⟨xs,a7,D⟩:=afy D;obtain ⟨key,b8,D⟩:=aeY D;generalize ag:[bF,bG,bH,bI,bJ,bK,X,a9,a3,ao,a1]=q at*;have bq:q[6]?=some X:=by rw [←ag];rfl
 have aH:q[7]?=some a9:=by rw [←ag];rfl
 have aq:q[8]?=some a3:=by rw [←ag];rfl
 have al:q[9]?=some ao:=by rw [←ag];rfl
 have aG:q[10]?=some a1:=by rw [←ag];rfl
 have cH:q.length=11:=by rw [←ag];rfl
 have cK:∀j,j<8→[bF,bG,bH,bI,bJ,bK,X,a9][j]?=q[j]?:=by
  intro j av;rw [←ag]
  match j,av with
  |0,_|1,_|2,_|3,_|4,_|5,_|6,_|7,_=>rfl
 have cG:∀(i:Nat) (o:Oper),q[i]?=some o→o.guard=none:=fun i o z=>by
  have:=dE.1 ci o (cS z);simpa using this
 clear hk ag;obtain ⟨V,bz⟩:∃V:Nat→TV,V=fun j=>if j<8 then bL j else if j=8 then .tup (.cons (.ad (.int .i64) (c0 K key xs)) (.cons (.ad (.int .i64) ((j1 K key xs:Nat):Int)) .unit)) else .ad (.int .i64) ((j1 K key xs:Nat):Int):=⟨_,rfl⟩
 have bv:V 8=.tup (.cons (.ad (.int .i64) (c0 K key xs)) (.cons (.ad (.int .i64) ((j1 K key xs:Nat):Int)) .unit)):=by rw [bz];rfl
 have bw:V 9=.ad (.int .i64) ((j1 K key xs:Nat):Int):=by rw [bz];rfl
 have aM:∀(j:Nat) (o:Oper),j<8→q[j]?=some o→∃d,o.dst=some d∧T (j+1)=(T j).put d (V j)∧oQ E o (T j) (V j) []∧(∀{σ:Type} (s:St) (k:St→Option σ),de E o s k=a2 E o s k)∧
  ((mem (dW a3) j||Nat.beq j 6)=false→∀x∈o.op.operands.toList,∀c∈((T j).ev x).aF,∃y,(T j).box c=some y∧y.cm=false):=fun j o av z=>by
  simp_all
 clear bB;have a6:∀j,j≤8→(∀c,(T j).box c=s.box c)∧(T j).sv=s.sv∧∀n,(T j).get n=gL q V s (· <j) n:=by
  intro j
  induction j with
  |zero=>intro _;rw [cd];exact ⟨fun _=>rfl,rfl,fun n=>(mw fun j o _ C _ _=>by omega).symm⟩
  |succ j ct=>
   intro av;obtain ⟨cq,cr,cs⟩:=ct (by omega);have z:q[j]?=some q[j]:=aT (by omega);obtain ⟨d,Y,aO,_⟩:=aM j _ (by omega) z;rw [aO];refine ⟨fun c=>cq c,cr,fun n=>?_⟩;rw [jw,cs,←tZ u z (by omega) Y];exact Et u (fun i _=>by omega) n
 obtain ⟨bo,cz,aI⟩:=a6 8 (cf _);have bA:s.box b=some bx:=by simp_all
 have br:∀n,gL q V s (· <10) n=if O=n then V 9 else if ac=n then V 8 else (T 8).get n:=fun n=>by
  rw [aI,←tZ u aq (by omega) aC,←tZ u al (by omega) aP];exact Et u (fun i _=>by omega) n
 have yc:∀{o:Oper} {n:Nat},.tmp n∈o.op.operands.toList→n∈fk q o:=fun aa=>by
  unfold fk;exact aZ.2 (.inl (u4.2 ⟨_,aa,rfl⟩))
 have aN:(T 6).get iq=.mp b∧(T 6).get W=.ad K key:=by
  obtain ⟨c3,Y,aO,_⟩:=aM 6 X (by omega) bq;obtain ⟨bT,aB,bi,_⟩:=aM 7 a9 (by omega) aH;rw [bm] at aB;obtain rfl:=bk aB;rw [←ba,←b8,bi,jw,aj (fun e=>aK.1 e.symm),aO,jw,aj (fun e=>b9.1 (by rw [Y,e])),jw,aj (fun e=>b7.1 e.symm),jw,aj (fun e=>b9.2 (by rw [Y,e]))];simp_all
 have aV:8∈dW ao:=(u.ul 9 ao al ac (yc (df bh (by simp [Op.operands]))) 8 a3 aq aC).resolve_right fun h=>by omega
 have cD:({bx with c:=.tup (.ab (.slice (eI K)) xs)}:bl)=bx:=by rw [←a7]
 refine adx (ops:=ops) (by grind) (by rw [ha];exact u) (fun L a w=>∃G f,aA F G f a w∧(∀n,f.get n=gL q V s L n)∧f.sv=s.sv∧(∀c,c≠b→f.box c=s.box c)∧
  ∃g:List (K.ai×Int×Unit),f.box b=some {bx with c:=.tup (.ab (.slice (eI K)) g)}∧(L 10→g=dC K key v xs)∧(¬L 10→L 8→g=dC K key (c0 K key xs) xs)∧(¬L 10→¬L 8→g=xs)) ?_ ?_ ?_ _ _ a w (by simp) ?_ ?_ ?_
 rw [ha];rintro L i o a w z am aJ af ⟨G,f,J,U,ay,ar,g,Z,aQ,aR,bn⟩;have bZ:L 10→L 8:=fun h=>af 9 ao al (af 10 a1 aG h 9 aD) 8 aV
 have hi:i<11:=by grind
 have a0:∀n,.tmp n∈o.op.operands.toList→f.get n=gL q V s (· <i) n:=fun n aa=>by
  rw [U];exact aeq u af z am aJ (by omega) (yc aa)
 have dD:∀{s1:St} {G1:Nat→Gh} {aU:Act} {bj:World} {d:Nat},i<8→o.dst=some d→s1=f.put d (V i)→aA F G1 s1 aU bj→∃G f,aA F G f aU bj∧(∀n,f.get n=gL q V s (fun j=>j=i∨L j) n)∧f.sv=s.sv∧(∀c,c≠b→f.box c=s.box c)∧
  ∃g:List (K.ai×Int×Unit),f.box b=some {bx with c:=.tup (.ab (.slice (eI K)) g)}∧((10=i∨L 10)→g=dC K key v xs)∧(¬(10=i∨L 10)→(8=i∨L 8)→g=dC K key (c0 K key xs) xs)∧(¬(10=i∨L 10)→¬(8=i∨L 8)→g=xs):=by
  intro s1 G1 aU bj d h8 b1 e an;subst e;refine ⟨G1,_,an,fun n=>by rw [jw,tZ u z (by omega) b1,U],ay,ar,g,Z,fun h=>aQ (h.resolve_left (by omega)),fun I C=>aR (fun h=>I (.inr h)) (C.resolve_left (by omega)),fun I C=>bn (fun h=>I (.inr h)) fun h=>C (.inr h)⟩
 by_cases h8:i<8;obtain ⟨d,Y,aO,aB,bi,cU⟩:=aM i o h8 z;by_cases h6:i=6;subst h6;rw [bq] at z;obtain rfl:=bk z;have ap:f.get iq=.mp b:=by rw [a0 iq (df bf (by simp [Op.operands])),←(a6 6 (by omega)).2.2];exact aN.1
 have aE:f.get W=.ad K key:=by rw [a0 W (df bf (by simp [Op.operands])),←(a6 6 (by omega)).2.2];exact aN.2
 have cQ:c0 K key g=c0 K key xs:=by
  have aw:¬L 10:=fun h=>am (af 7 a9 aH (af 10 a1 aG h 7 aX) 6 xE)
  by_cases ae:L 8;rw [aR aw ae,Ls aY];rw [bn aw ae]
 have bY:∀{σ:Type} (a4:St) (zs:List (K.ai×Int×Unit)) (aW:bl) (k:St→Option σ),a4.get iq=.mp b→a4.get W=.ad K key→a4.box b=some aW→aW.c=.tup (.ab (.slice (eI K)) zs)→a2 E X a4 k=k (a4.put d (.ad (.int .i64) (c0 K key zs))):=by
  intro σ a4 zs aW k I C ca h4;unfold a2;rw [bf];simp only [bs,St.ev,I,C];unfold b6;rw [ca];simp only;rw [h4,afx,TR];unfold dp;rw [Y]
 have cC:V 6=.ad (.int .i64) (c0 K key xs):=by
  have:=aB.2 (T 6) (fun x _=>⟨rfl,fun _ _ _ h=>h⟩) (fun x aa=>by cases aa) some;rw [bY (T 6) xs bx some aN.1 aN.2 (by simp_all) a7] at this;have:=dx (fun t=>St.get t d) (bk this);simp only [jw,b5] at this;rw [this];have e:((T 6).step X.dst (V 6) []).get d=((T 6).put d (V 6)).get d:=by rw [Y];rfl
  rw [e,jw,ak rfl]
 have ah:de E X f some=some (f.put d (V 6)):=by grind
 refine Oper.wp_mono (fun a' w' a8=>?_) (yr a5 bu G f a w Q X some _ J ah);obtain ⟨aS,s1,an,e⟩:=a8;exact dD h8 Y (bk e) an;have cl:∀x∈o.op.operands.toList,f.ev x=(T i).ev x∧Ag f (T i) ((T i).ev x):=fun x aa=>by
  refine ⟨?_,fun c au y be=>?_⟩;cases x with
  |tmp n=>exact (a0 n aa).trans ((a6 i (by omega)).2.2 n).symm
  |_=>rfl
  rw [(a6 i (by omega)).1] at be;by_cases e:c=b;subst e;rw [bA] at be;obtain rfl:=bk be;cases b2:(mem (dW a3) i||Nat.beq i 6) with
  |false=>
   grind
  |true=>
   rw [fc] at b2;have cn:=(mem_iff _ _).1 (b2.resolve_right fun h=>h6 (fe h));have cJ:¬L 8:=fun h=>am (af 8 a3 aq h i cn)
   simp_all
  simp_all
 have ah:de E o f some=some (f.put d (V i)):=by rw [bi,aB.2 f cl (fun x aa=>by cases aa),Y];rfl
 refine Oper.wp_mono (fun a' w' a8=>?_) (yr a5 bu G f a w Q o some _ J ah);obtain ⟨aS,s1,an,e⟩:=a8;exact dD h8 Y (bk e) an;by_cases bV:i=8;subst bV;rw [aq] at z;obtain rfl:=bk z;have ap:f.get iq=.mp b:=by rw [a0 iq (df bg (by simp [Op.operands])),←aI];exact ba
 have aE:f.get W=.ad K key:=by rw [a0 W (df bg (by simp [Op.operands])),←aI];exact b8
 have aw:¬L 10:=fun h=>am (bZ h)
 obtain rfl:=bn aw am;have bd:VR (ax f.box G) w F.R (.mp b) (a.eval (.tmp iq)):=by
  have:=cA J (.tmp iq);rw [show f.ev (.tmp iq)=.mp b from ap] at this;exact this
 have cp:VR (ax f.box G) w F.R (.ad K key) (a.eval (.tmp W)):=by
  have:=cA J (.tmp W);rw [show f.ev (.tmp W)=.ad K key from aE] at this;exact this
 obtain ⟨az,cj,ck,ch⟩:=KV (k:=some) (r:=key) aY cp (TR key some);obtain rfl:=bk cj;obtain ⟨w',ah,hrel⟩:=afz J bb bd Z bD rfl ck ch;have aL:=hrel.put (d:=ac) (v:=V 8) (x:=.tuple #[.int .i64 (c0 K az g),.int .i64 (j1 K az g)]) (by rw [←a5.nt];exact ce) (by rw [bv];exact ⟨[.int .i64 _,.int .i64 _],⟨.inr ⟨_,⟨rfl,trivial,rfl⟩,rfl⟩,.inr ⟨_,⟨rfl,trivial,rfl⟩,rfl⟩,trivial⟩,rfl⟩);rw [←aC] at aL;refine c7 (v:=.tuple #[.int .i64 (c0 K az g),.int .i64 (j1 K az g)]) (w':=w') ?_ ⟨G,_,aL,fun n=>?_,ay,fun c au=>?_,dC K az (c0 K az g) g,?_,fun h=>absurd (h.resolve_left (by omega)) aw,fun _ _=>rfl,fun _ h=>absurd (.inl rfl) h⟩;unfold execOp;rw [bg];simp only [Sem.run_bind,ah];rfl;rw [jw,tZ u aq (by omega) aC,←U];rfl;rw [xC,kP _ _ _ _ Z,aj (fV au)];exact ar c au;rw [xC,kP _ _ _ _ Z,ak rfl];by_cases bX:i=9;subst bX;rw [al] at z;obtain rfl:=bk z;have ae:L 8:=aJ 8 aV;have ap:f.get ac=V 8:=by rw [U];exact lB u (by omega) ae aq aC
 have aw:¬L 10:=fun h=>am (af 10 a1 aG h 9 aD)
 have ah:a2 E ao f some=some (f.put O (V 9)):=by
  unfold a2;rw [bh];simp only [St.ev,ap,bv];unfold dp;rw [aP,bw];rfl
 refine Oper.wp_mono (fun a' w' a8=>?_) (Tm J a5 bh (fun d b1=>by simp_all) ah);obtain ⟨aS,s1,an,e⟩:=a8;obtain rfl:=bk e;exact ⟨aS,_,an,fun n=>by rw [jw,tZ u al (by omega) aP,U],ay,ar,g,Z,fun h=>aQ (h.resolve_left (by omega)),fun I _=>aR (fun h=>I (.inr h)) ae,fun _ C=>absurd (.inr ae) C⟩;obtain rfl:i=10:=by omega
 rw [aG] at z;obtain rfl:=bk z;have bt:L 9:=aJ 9 aD;have ae:L 8:=af 9 ao al bt 8 aV;obtain rfl:=aR am ae;have ap:f.get iq=.mp b:=by
  rw [a0 iq (df E2 (by simp [Op.operands])),br,aj (fun e=>aK.2.2 e.symm),aj (fun e=>aK.2.1 e.symm)];exact ba
 have aE:f.get O=V 9:=by rw [U];exact lB u (by omega) bt al aP
 have bU:f.get bW=.ad (.int .i64) v:=by
  rw [U,←co,aI,lB u (by omega) (aJ 7 aX) aH bm,lB (L:=(· <8)) u (by omega) (by omega) aH bm]
 have bd:VR (ax f.box G) w F.R (.mp b) (a.eval (.tmp iq)):=by
  have:=cA J (.tmp iq);rw [show f.ev (.tmp iq)=.mp b from ap] at this;exact this
 have cO:a.eval (.tmp O)=.int .i64 (j1 K key xs:Nat):=by
  have:=cA J (.tmp O);rw [show f.ev (.tmp O)=V 9 from aE,bw] at this;exact this.int
 have cP:a.eval (.tmp bW)=.int .i64 v:=by
  have:=cA J (.tmp bW);rw [show f.ev (.tmp bW)=_ from bU] at this;exact this.int
 obtain ⟨cX,c2,z3⟩:=afU aY key xs (c0 K key xs);obtain ⟨w',ah,hrel⟩:=adE J bb bd Z bD rfl c2 v;replace hrel:=(dx (fun zs:List (K.ai×Int×Unit)=>aA F G (f.b4 b {bx with c:=.tup (.ab (.slice (eI K)) zs)}) a w') (z3 v)).mp hrel;have aL:aA F G (f.b4 b {bx with c:=.tup (.ab (.slice (eI K)) (show List (K.ai×Int×Unit) from dC K key v xs))}) (a.put a1.dst undef) w':=by rw [c1];exact hrel
 refine Ny (w':=w') ?_ ⟨G,_,aL,fun n=>?_,ay,fun c au=>?_,dC K key v xs,?_,fun _=>rfl,fun h=>absurd (.inl rfl) h,fun h=>absurd (.inl rfl) h⟩;unfold execOp;simp_all;show f.get n=_;rw [U];exact Et u (fun j av=>⟨.inr,fun h=>h.resolve_left (by omega)⟩) n;rw [kP _ _ _ _ Z,aj (fV au)];exact ar c au;rw [kP _ _ _ _ Z,ak rfl];intro L L' a w cb cB;have:L=L':=funext fun j=>propext (cb j)
 simp_all;rintro L a w b0 ⟨G,f,J,U,ay,ar,g,Z,aQ,_,_⟩;obtain rfl:=aQ (b0 10 (by omega));refine cc G _ a w (J.anw (fun n=>?_) (fun c=>?_) ?_) D;have e:((((T 8).put ac .un).put O .un).b4 b {bx with c:=.tup (.ab (.slice (eI K)) (show List (K.ai×Int×Unit) from dC K key v xs))}).get n=if O=n then .un else if ac=n then .un else (T 8).get n:=by
  rw [←jw,←jw];rfl
 by_cases I:O=n;simp_all;by_cases C:ac=n;simp_all;refine .inl (e.trans ?_);rw [aj I,aj C];rw [U,Et u (L':=(· <10)) (fun j av=>⟨fun _=>av,fun _=>b0 j (by omega)⟩),br,aj I,aj C];rw [kP _ _ _ bx (by show (T 8).box b=_;rw [bo];exact bA)];split;simp_all;rename_i e;rw [ar c (fV e)];exact bo c;show (T 8).sv=_;rw [cz,ay];rw [ha];intro i o _ hi;exact absurd hi (by
  unfold cv;rw [iB,Ga];split<;>simp)
 have bc:∀i,¬cv (Array.replicate ops.size false) i:=by
  intro i b3;unfold cv at b3;rw [iB,Ga] at b3
  grind
 exact ⟨G,s,h,fun n=>(mw fun j o _ C _ _=>bc j C).symm,rfl,fun _ _=>rfl,xs,by simp_all,fun h=>absurd h (bc 10),fun _ h=>absurd h (bc 8),fun _ _=>rfl⟩;exact ⟨List.range ops.size,by simp,fun i hi _=>et.2 hi⟩
end
section
variable {P:Program} {E:ao} {F:Fr} {Q:Exit→Act→World→Prop}
theorem UJ {ρ:Type} (b:dl P E F) (d:fs P E) {al:Bool} (G:Nat→Gh) (s:St) (a:Act) (w:World) (Q:Exit→Act→World→Prop) (o:Oper) (k:St→Option ρ) (r:ρ) (h:aA F G s a w) (hk:nY E al o s k=some r):o.wp P a w (ch F k r) Q:=by
 cases al with
 |false=>exact yr b d G s a w Q o k r h hk
 |true=>
  unfold nY at hk;simp only at hk;split at hk;rotate_left;cases hk;rename_i T x y e f;unfold ea at hk;split at hk;rename_i U c;exact alF h b f e c hk;cases hk
theorem adw (a4:dl P E F) (ao:fs P E) {ops:Array Oper} {ρ:Type} {kn:St→Option ρ} {rn:ρ} (hk:kH ops.toList) (bj:∀G s a w,aA F G s a w→kn s=some rn→Q .normal a w):
 ∀(ae:Nat) (q:Array Bool) (a:Act) (w:World) (L0:Nat→Prop) (hi:Nat) (T:Nat→St) (G:Nat→Gh) (s:St),q.size=ops.size→gG E ops.toList (ops.toList.zip (jP ops.toList)) kn rn L0 hi T→aA F G s a w→
  ov ops.toList (cv q)→(∀i,L0 i→cv q i)→(∀i,hi≤i→i<ops.size→¬cv q i)→Jn ops.toList (cv q) L0 hi T s→
  (∃U:List Nat,U.length≤ae∧∀i,i<ops.size→¬cv q i→i∈U)→wpAny P .any ops Q ae q a w:=by
 have bw:ops.toList.length=ops.size:=rfl;have aQ:E.w1:=⟨fun f ids c h=>(ao.fn f ids c h).K2,ao.im⟩;have aX:∀i,i<ops.size→ops.toList[i]?=some ops[i]!:=by
  simp_all
 have b0:∀(q:Array Bool),q.size=ops.size→Region.ready .any ops q=[]→∀n i,i<n→i<ops.size→cv q i:=by
  intro q an O n
  induction n with
  |zero=>intro i h;omega
  |succ n a0=>
   intro i hi ap;apply ho;intro K;have:i∈Region.ready .any ops q:=(lM an i).2 ⟨_,aX i ap,K,fun j r=>by
    have:=hk.eN i _ (aX i ap) j r
    grind⟩
   simp_all
 have aU:∀(q:Array Bool) (a:Act) (w:World) (L0:Nat→Prop) (hi:Nat) (T:Nat→St) (G:Nat→Gh) (s:St),gG E ops.toList (ops.toList.zip (jP ops.toList)) kn rn L0 hi T→aA F G s a w→
  (∀i,hi≤i→i<ops.size→¬cv q i)→Jn ops.toList (cv q) L0 hi T s→(∀i,i<ops.size→cv q i)→Q .normal a w:=by
  intro q a w L0 hi T G s S h aw J a8;have bS:=S.len;have g:=J.tY S (fun i bQ=>a8 i (by omega));rcases S.stop with ⟨_,e⟩|⟨o,U,al,I,_⟩
  exact bj G (T hi) a w (h.congr g.get g.box g.sv) e
  grind
 have bn:(ops.toList.zip (jP ops.toList)).map Prod.fst=ops.toList:=by
  rw [List.map_fst_zip];simp [jP]
 intro ae
 induction ae with
 |zero=>
  intro q a w L0 hi T G s an S h ab ax aw J a6;obtain ⟨U,aR,aS⟩:=a6;have bM:U=[]:=hI.1 (Nat.le_zero.1 aR);have a8:∀i,i<ops.size→cv q i:=fun i hi=>ho fun K=>by simp_all
  refine ⟨?_,aU q a w L0 hi T G s S h aw J a8⟩;apply zc.2;intro i hi;obtain ⟨o,I,K,_⟩:=(lM an i).1 hi
  grind
 |succ ae a0=>
  intro q a w L0 hi T G s an S h ab ax aw J a6;refine ⟨fun O=>aU q a w L0 hi T G s S h aw J (fun i hi=>b0 q an O (i+1) i (lZ i) hi),fun i bo=>?_⟩;obtain ⟨o,I,K,am⟩:=(lM an i).1 bo;have ap:i<ops.size:=(bR.1 I).1;have ad:i<q.size:=by omega
  obtain ⟨U,aR,aS⟩:=a6;have a7:∃U:List Nat,U.length≤ae∧∀j,j<ops.size→¬cv (q.setIfInBounds i true) j→j∈U:=by
   have bT:=aS i ap K;refine ⟨U.erase i,by simp_all,fun j r bs=>?_⟩;rw [jZ ad] at bs;simp_all
  have aJ:(q.setIfInBounds i true).size=ops.size:=by simp_all
  have a9:ov ops.toList (cv (q.setIfInBounds i true)):=by
   intro j C Y r k bt;rw [jZ ad] at r⊢;rcases r with rfl|r
   simp_all;exact .inr (ab j C Y r k bt)
  have aY:ops[i]?=some o:=by simp_all
  have aD:¬L0 i:=fun h=>K (ax i h)
  by_cases af:i<hi
  ·
   have bx:=J.cW h hk S ab af I K am;have aq:∀x∈fk ops.toList o,s.get x=(T i).get x:=fun x u=>J.yc hk S ab af I K am u
   have aV:∀j,hi≤j→j<ops.size→¬cv (q.setIfInBounds i true) j:=by
    intro j r aG;rw [jZ ad]
    grind
   have aW:∀j,L0 j→cv (q.setIfInBounds i true) j:=fun j r=>(jZ ad j).2 (.inr (ax j r))
   unfold wpOp;rw [aY];simp only;rcases S.step i o af I aD with ⟨ai,v,new,a5,aH,bh⟩|⟨ai,a5⟩
   ·rw [Nv h aq ai,ak rfl];left;have bz:∀x∈new,s.box x.1=none:=by
     intro x u;obtain ⟨d,a2,ar,au⟩:=aH.1 x u;have az:¬jq ops.toList (cv q) L0 hi (x.1/32):=by
      rintro ⟨j,C,_,_,a1,aL,bA⟩;have:=hk.b3 i o I (x.1/32) (by rw [a2,ar]) j C aL bA;simp_all
     rw [J.o0 _ az];cases aa:(T 0).box x.1 with
     |none=>rfl
     |some y=>
      have:=S.mono (m:=0) i (by omega) aa;simp_all
    have aI:de E o s some=some (s.step o.dst v new):=by rw [bh,aH.2 s bx bz]
    refine Oper.wp_mono (fun a' w' ah=>?_) (yr a4 ao G s a w Q o some _ h aI);obtain ⟨Z,av,O,e⟩:=ah;obtain rfl:=bk e;exact a0 _ a' w' L0 hi T Z _ aJ S O a9 aW aV (J.next hk S af I K aD a5 (fun x u=>(aH.1 x u).imp fun d ac=>⟨ac.1,ac.2.1⟩) (fun j=>jZ ad j)) a7
   ·rw [Nv h aq ai,aj (by simp)];have O:aA F G (s.step o.dst (.tup .unit) []) (a.put o.dst undef) w:=by
     cases bO:o.dst with
     |none=>exact h
     |some e=>exact h.LX e
    exact a0 _ _ w L0 hi T G _ aJ S O a9 aW aV (J.next hk S af I K aD a5 (fun x u=>by cases u) (fun j=>jZ ad j)) a7
  ·
   rcases S.stop with ⟨e,_⟩|⟨ob,bc,al,b2,b5,b4,dz⟩
   omega
   ·obtain ⟨ag,aT⟩:=Rf b2;have af:i=hi:=by
     apply ho;intro bU;have aa:=(aT i ap).2 (by omega);have:=tE hk ab (i+1) i o (lZ i) I am hi aa
     grind
    subst af;rw [ag] at I;obtain rfl:=bk I;have b1:∀j,i+1≤j→j<ops.size→¬cv (q.setIfInBounds i true) j:=by
     intro j r aG;rw [jZ ad]
     grind
    have next:∀(a':Act) (w':World) (Z:Nat→Gh) (s1 t:St) (X:Nat→St),aA F Z s1 a' w'→X 0=s1→(∀j C,j<i→ops.toList[j]?=some C→¬cv q j→kh E ops.toList C (X j) (X (j+1)))→(∀j,j<i→cv q j→gl (X (j+1)) (X j))→gl t (X i)→
     iR E ops.toList kn ((ops.toList.zip (jP ops.toList)).drop (i+1)) t=some rn→wpAny P .any ops Q ae (q.setIfInBounds i true) a' w':=by
     intro a' w' Z s1 t X O bg bW bV bP ac;obtain ⟨aE,aN,bL,a2,ar,au,a3⟩:=VO aQ ops.toList _ bn kn rn (ops.size-(i+1)) (i+1) t (by rw [bw];omega) ac;have bZ:∀j,j<i→(cv (q.setIfInBounds i true) j↔cv q j):=fun j r=>by
      rw [jZ ad];exact ⟨fun h=>h.resolve_left (by omega),.inr⟩
     have bb:gG E ops.toList (ops.toList.zip (jP ops.toList)) kn rn (cv (q.setIfInBounds i true)) aE (fun j=>if j≤i then X j else aN j):=by
      refine ⟨ar,fun j C r Y D=>?_,fun j r D=>?_,?_⟩;by_cases be:j<i
      grind
      have bK:j≠i:=fun e=>D ((jZ ad j).2 (.inl e))
      simp only [aj (show ¬j≤i by omega),aj (show ¬j+1≤i by omega)]
      grind
      by_cases be:j<i
      grind
      grind
      grind
     have az:∀x,¬jq ops.toList (cv (q.setIfInBounds i true)) (cv (q.setIfInBounds i true)) aE x:=by
      rintro x ⟨j,C,_,aK,a1,_⟩;exact aK a1
     have e0:(fun j=>if j≤i then X j else aN j) 0=s1:=by simp [bg]
     refine a0 _ a' w' _ aE _ Z s1 aJ bb O a9 (fun j r=>r) (fun j r aG=>b1 j (by omega) aG) ⟨fun x u=>absurd u (az x),fun x _=>(dx (fun t=>St.get t x) e0).symm,fun b u=>absurd u (az _),fun b _=>(dx (fun t=>St.box t b) e0).symm,(dx St.sv e0).symm⟩ a7
    unfold wpOp;rw [aY];simp only;have aq:∀x∈fk ops.toList ob,s.get x=(T i).get x:=fun x u=>by
     refine J.FH S fun ⟨j,C,bX,aK,a1,aL⟩=>aK ?_
     exact am j ((hk.ul i ob ag x u j C a1 aL).resolve_right fun h=>by omega)
    rw [Nv h aq b5,ak rfl];left;by_cases aC:∀j,j<i→cv q j
    ·
     have g:=J.tY S aC;have hrel:=h.congr g.get g.box g.sv;exact Oper.wp_mono (fun a' w' ⟨Z,av,O,ac⟩=>next a' w' Z av av (fun _=>av) O rfl (fun j C r _ D=>absurd (aC j r) D) (fun j _ _=>gl.rfl _) (gl.rfl _) ac) (UJ a4 ao G (T i) a w Q ob _ rn hrel dz)
    ·
     have ay:∀j,j<i→¬cv q j→j∈bc:=fun j r D=>by
      rcases (aT j (by omega)).1 r with aa|aa
      exact absurd (tE hk ab (i+1) i ob (lZ i) ag am j aa) D;exact aa
     obtain ⟨b8,bp⟩:=Classical.not_forall.1 aC;obtain ⟨bq,br⟩:=Classical.not_imp.1 bp;obtain ⟨bu,aB⟩:=anz b4 (ay b8 bq br);obtain ⟨l,v,new,bC,bD,ba,p4⟩:=agl aQ bu dz;obtain ⟨X,t0,bH,bI,t3⟩:=J.acE hk S ax ag (fun n o K D I x u j C r Y ac=>by
      rcases hk.ul n o I x u j C Y ac with ai|⟨ai,aO⟩
      exact ai;rcases (aB n o (ay n K D) I).1 x u j C Y ac with aP|aP
      exact aP;by_cases e:j=i;subst e;rw [ag] at Y;obtain rfl:=bk Y;exact absurd (tE hk ab (j+1) j ob (lZ j) ag am n aO) D;by_cases bi:cv q j;exact absurd (tE hk ab (j+1) j C (lZ j) Y (ab j C Y bi) n aO) D
      grind) (fun j p r D ah=>(aB j p (ay j r D) ah).2.1) (fun j p r D ah=>(aB j p (ay j r D) ah).2.2) bD ba
     have bf:∀x∈ob.op.operands.toList,s.ev x=(T i).ev x:=fun x u=>by
      cases x with
      |tmp t=>exact aq t (by
       unfold fk;exact aZ.2 (.inl (u4.2 ⟨_,u,rfl⟩)))
      |_=>rfl
     have bd:eu (· ∈hB ob (T i)) s (T i):=fun b aa=>by
      obtain ⟨bY,bv,bN⟩:=List.mem_flatten.1 aa;obtain ⟨x,u,rfl⟩:=b9.1 bv;obtain ⟨z,b6⟩:=VR.aF (cA h x) b (by grind);by_cases W:hs ops.toList (cv q) i (b/32);obtain ⟨j,p,a2,ar,au,a3⟩:=W;have e0:s.box b=(T 0).box b:=J.o0 b fun ⟨b7,bB,_,_,aM,r4,bG⟩=>by
       have:=hk.b3 j p au _ a3 b7 bB r4 bG
       grind
      have:=S.mono (m:=0) i (by omega) (e0▸b6)
      grind
      exact J.yO S W
     have bm:∀x∈new,(bJ s l).box x.1=none:=fun x u=>by
      obtain ⟨d,bE,bF,aM⟩:=ba x u;rw [n2] at aM⊢;have bl:¬hs ops.toList (cv q) i (x.1/32):=fun ⟨j,p,a2,ar,au,a3⟩=>by
       have:=hk.b3 i ob ag d bE j p au (by rw [a3,bF]);omega
      rw [J.yO S bl];exact aM
     have aI:nY E al ob s some=some ((bJ s l).step ob.dst v new):=p4 s bd bf bm some;refine Oper.wp_mono (fun a' w' ah=>?_) (UJ a4 ao G s a w Q ob some _ h aI);obtain ⟨Z,av,O,e⟩:=ah;obtain rfl:=bk e;exact next a' w' Z _ _ X O t0 (fun j C r Y D=>bH j C r Y D) bI t3 bC
theorem Vx {ρ:Type} (g:dl P E F) (e:fs P E) (y:P.follows .mixedOrders=true):Pc ρ P E F:=by
 intro G s a w id ops C k r h hk;simp only [hx] at hk;unfold Vy at hk;cases C with
 |false=>
  simp only at hk;refine wp_region_list ?_;exact (agn (yr g e) ops (k .normal) r _ (fun a w O=>O) ops.toList G s a w h hk)
 |true=>
  simp only at hk;split at hk;exact wp_region_any y (aeH g e (h.shift ⟨cf _,rfl,rfl⟩ (fun _ _=>rfl) (fun _ _ _ _ _=>rfl) (fun _ _ _=>rfl)) hk fun G s a w n q=>⟨G,s,n,q⟩);split at hk;cases hk;rename_i K;rw [adv] at hk;have v:=Th K;refine wp_region_any y (anB ?_);generalize kR ops.toList=cs at hk v;have I:(cs.zip (jP cs)).map Prod.fst=cs:=by
   rw [List.map_fst_zip];simp [jP]
  obtain ⟨hi,T,j,_,U,W,X⟩:=VO ⟨fun f ids c h=>(e.fn f ids c h).K2,e.im⟩ cs _ I (k .normal) r cs.length 0 s (by simp) (by simpa using hk);have S:gG E cs (cs.zip (jP cs)) (k .normal) r (fun _=>False) hi T:=⟨U,fun i o hi J _=>W i o (bM _) hi J,fun i _ h=>h.elim,X⟩;have hrel:aA F G s a {w with drawn:=w.drawn+1}:=h.shift ⟨cf _,rfl,rfl⟩ (fun _ _=>rfl) (fun _ _ _ _ _=>rfl) (fun _ _ _=>rfl);have l:∀i,¬cv (Array.replicate cs.toArray.size false) i:=by
   intro i d;unfold cv at d;rw [iB,Ga] at d
   grind
  have z:∀x,¬jq cs (cv (Array.replicate cs.toArray.size false)) (fun _=>False) hi x:=fun x ⟨i,o,_,_,D,_⟩=>l i D
  exact adw (ops:=cs.toArray) g e v (fun G s a w n q=>⟨G,s,n,q⟩) cs.toArray.size _ a _ _ hi T G s (by simp) S hrel (fun i o _ d=>absurd d (l i)) (fun i d=>d.elim) (fun i _ _=>l i)
   ⟨fun x u=>absurd u (z x),fun x _=>by rw [j],fun b u=>absurd u (z _),fun b _=>by rw [j],by rw [j]⟩ ⟨List.range cs.toArray.size,by simp,fun i d _=>et.2 d⟩
end
section
variable {ρ:Type} {P:Program} {E:ao} {F:Fr} {G:Nat→Gh} {s:St} {a:Act} {w:World}
theorem aid {o:Nat}:∀(l:List (Nat×Ty)) (G:Nat→Gh) (s:St) (k:St→Option ρ) (r:ρ),aA F G s a w→Fx s o l k=some r→ch F k r a w:=by
 intro l
 induction l with
 |nil=>intro G s k r h hk;exact ⟨G,s,h,hk⟩
 |cons x l ac=>
  intro G s k r h hk;obtain ⟨t,T⟩:=x;simp only [Fx] at hk;split at hk;rotate_left;cases hk;rename_i W;have ai:=(h.tmps t).FI (DR hk);obtain ⟨G1,s1,c,f,κ,u,d⟩:=oY (.slice T) _ G s _ _ r h ai hk;split at u;rotate_left;cases u;rename_i y aa;obtain ⟨C,q,D⟩:=mf (.slice T) c f _ y d.fv aa;obtain ⟨af,ag,ah⟩:=q4 u;have U:=d.rel.drop (ey o t);obtain ⟨_,O⟩:=Kt d.rel (ey o t);have Y:ic F G1 (s1.drop (ey o t)) w ⟨none,C⟩:=by
   refine ⟨by simpa [Gh.ae,q] using d.eH.b7,fun b e j z n=>?_,fun b e=>?_⟩;have e:b∈f.ae:=by simpa [Gh.ae,q] using e
   rw [O] at n;split at n;cases n;cases I:s1.box j with
   |none=>rw [I] at n;cases n
   |some aj=>exact d.eH.out b e j aj I
   exact d.eH.bK b (by simpa [Gh.ae,q] using e)
  have Z:=U.qy (x:=⟨.slice T,true,false,.ab (.slice T) y⟩) (g:=⟨none,C⟩) af ag rfl (Ty.o8 (t:=.slice T) W) ⟨rfl,⟨T,rfl⟩,_,⟨rfl,D⟩⟩ Y;refine ac _ _ k r (Z.Fy ?_) ah;obtain ⟨b,cap,ad,J,K,_,_,X,_⟩:=D;refine dH (v:=.sl (ey o t) []) (cs:=[_]) ⟨T,b,cap,ad,none,?_,by rw [K,X]⟩ rfl;rw [fR (mh _ _ _ _|>.trans (ak rfl))];simp only [fI,b5];rw [J];rfl
theorem aeD {A:bY} {R:Nat→Prop} {c c':TV} (d:KM c=some c') {t:Ty} {ft:FT} {cs:List Value} (h:aW A w R c t ft cs):aW A w R c' t ft cs:=by
 unfold KM at d;split at d;rename_i t0 xs;cases d;obtain ⟨rfl,b,cap,o,rfl,rfl,f,j,l,h4⟩:=h;refine ⟨rfl,b,cap,o,rfl,rfl,f,j,l,List.length_replicate,?_⟩;cases b with
 |none=>exact h4
 |some b=>
  refine ⟨h4.1,fun i x k g n hk e=>?_⟩;obtain ⟨q,u,r⟩:=h4.2 i x k n hk;have e:g=false:=rC (cS e);simp_all
 cases d;exact h;cases d
theorem aA.ah7 (h:aA F G s a w) {b:Nat} {x:bl} (u:s.box b=some x) {c:TV} (I:∀(A:bY) (R:Nat→Prop) (t:Ty) (ft:FT) (cs:List Value),aW A w R x.c t ft cs→aW A w R c t ft cs) (J:x.cm=true):
 aA F G (s.b4 b {x with c:=c}) a w:=by
 have D:∀j,(s.b4 b {x with c:=c}).box j=if b=j then some {x with c:=c} else s.box j:=fun j=>kP s b _ x u j
 have o:ax (s.b4 b {x with c:=c}).box G=ax s.box G:=by
  funext i q;unfold ax
  grind
 have ck:∀{j y},(s.b4 b {x with c:=c}).box j=some y→∃z,s.box j=some z∧y.ty=z.ty∧y.cm=z.cm∧y.dN=z.dN∧(y=z∨z=x∧y={x with c:=c}):=by
  grind
 refine ⟨fun i y d=>?_,fun i y d=>?_,fun i j y z d f=>?_,fun i y d=>?_,fun i y d=>?_,h.R,fun n=>?_,h.bQ,h.gq,h.defers,h.nt,fun i y d=>?_,fun i n=>(by rw [o];exact h.sv i n),h.j9⟩;obtain ⟨z,f,g,r,_,l⟩:=ck d;have:=h.box i z f;rw [o];rcases l with rfl|⟨rfl,rfl⟩
 exact this;unfold dF at this⊢
 grind
 obtain ⟨z,f,g,_⟩:=ck d;rw [g];exact h.cF i z f;obtain ⟨x',e,_⟩:=ck d;obtain ⟨C,v,_⟩:=ck f;exact h.dc i j x' C e v;obtain ⟨x',e,_⟩:=ck d;exact h.b7 i x' e;obtain ⟨x',e,_⟩:=ck d;exact h.bK i x' e;rw [o];exact h.tmps n;obtain ⟨x',e,g,r,l,_⟩:=ck d;rw [r,l];exact h.c1 i x' e
theorem agc:∀(l:List Nat) (G:Nat→Gh) (s:St) (k:St→Option ρ) (r:ρ),aA F G s a w→yq s l k=some r→ch F k r a w:=by
 intro l
 induction l with
 |nil=>intro G s k r h hk;exact ⟨G,s,h,hk⟩
 |cons b l U=>
  intro G s k r h hk;simp only [yq] at hk;unfold b6 at hk;split at hk;rotate_left;cases hk;rename_i x f
  try dsimp only at hk
  split at hk;rename_i d;split at hk;rename_i c J;exact U _ _ k r (h.ah7 f (fun A R t ft cs g=>aeD J g) d) hk;cases hk;rename_i d;have d:x.cm=false:=by simpa using d
  split at hk;rename_i y O;have n:=h.box b x f;unfold dF at n;rw [aj (by simp [d])] at n;obtain ⟨j,row,e,v,D,I,h4⟩:=n;obtain ⟨q,u,C⟩:=mf _ _ _ _ _ h4 O;have K:(Gh.mk (some j) q).ae=(G b).ae:=by simp [Gh.ae,v,u]
  have hrel:=Rc (w2:=w) (g':=⟨some j,q⟩) (X:=.pointer (some ⟨j,0,none⟩)) h f d (gj.refl _) (fun _ _=>rfl) (fun _ _ _ _ _ _=>rfl) (fun _ _ _=>rfl) v.symm ⟨j,row,e,rfl,rfl,D,I,C⟩ rfl (by rw [K];exact h.b7 b x f)
   (fun o z=>.inl (by rw [←u];exact z)) (fun o z=>h.bK b x f o (by simp only [Gh.ae,aZ];simp_all))
  grind
  cases hk
theorem EE (h:aA F G s a w) {id:Nat} {k:St→Option ρ} {r:ρ} (hk:jW E id s k=some r):ch F k r a w:=by
 unfold jW at hk;split at hk;exact ⟨G,s,h,hk⟩;obtain ⟨G1,s1,c,e⟩:=aid _ G s _ r h hk;obtain ⟨b,s2,d,f⟩:=agc _ G1 s1 _ r c e;exact ⟨b,_,d.ui _ _,f⟩
theorem Tl (O:Pc ρ P E F) (n:Nat):∀(c:Code) (k:Ex→St→Option ρ) (r:ρ) (G:Nat→Gh) (s:St) (a:Act) (w:World),aA F G s a w→hx E n c k s=some r→c.wp P (xn F k r) a w:=by
 intro c
 induction c with
 |skip=>intro k r G s a w h hk;exact wp_skip ⟨G,s,h,hk⟩
 |ret=>intro k r G s a w h hk;exact wp_ret ⟨G,s,h,hk⟩
 |exit id=>intro k r G s a w h hk;exact wp_exit ⟨G,s,h,hk⟩
 |region id ops K=>
  intro k r G s a w h hk;exact O G s a w id ops K k r h hk
 |seq x y u v=>
  intro k r G s a w h hk;refine wp_seq (wp_mono (u _ r G s a w h hk) fun e a w q=>?_);cases e with
  |normal=>
   obtain ⟨g,z,f,b⟩:=q;obtain ⟨C,s2,D,I⟩:=EE f b;exact v _ _ C s2 _ _ D I
  |exit id=>exact q
  |ret=>exact q
  |_=>exact q.elim
 |cond c x y u v=>
  intro k r G s a w h hk;simp only [hx] at hk;have l:=cA h c;split at hk;rename_i t e;rw [e] at l;have o:=l.bool;split at hk;cases c with
  |tmp d=>exact wp_cond_true o (u _ _ G _ _ _ (h.Fy l) hk)
  |_=>exact wp_cond_true o (u _ _ G _ _ _ h hk)
  cases c with
  |tmp d=>exact wp_cond_false o (v _ _ G _ _ _ (h.Fy l) hk)
  |_=>exact wp_cond_false o (v _ _ G _ _ _ h hk)
  cases hk
 |block id c J=>
  intro k r G s a w h hk;refine wp_block (wp_mono (J _ r G s a w h hk) fun e a w q=>?_);cases e with
  |normal=>exact q
  |exit j=>
   obtain ⟨g,z,f,b⟩:=q;simp only [Exit.inBlock];by_cases e:j=id;subst e;rw [ak rfl];simp only [lY,b5] at b;exact ⟨g,z,f,b⟩;rw [aj e];simp only [iQ e,hl,cL] at b;exact ⟨g,z,f,b⟩
  |ret=>exact q
  |_=>exact q.elim
 |loop c J=>
  intro k r G s a w h hk;have out:∀(e:Exit) (a:Act) (w:World),xn F (nH E (gp c) k) r e a w→xn F k r e a w:=by
   intro e a w q;have b3:∀e,ch F (nH E (gp c) k e) r a w→ch F (k e) r a w:=fun e ⟨G,s,h,hk⟩=>EE h hk
   cases e with
   |normal=>exact b3 _ q
   |exit id=>exact b3 _ q
   |ret=>exact b3 _ q
   |_=>exact q.elim
  obtain ⟨W,Z,X,Y⟩:=EE h hk;refine wp_loop_rounds n ?_;have key:∀(m:Nat) (G:Nat→Gh) (s:St) (a:Act) (w:World),aA F G s a w→um (hx E n c) (jW E (gp c)) (nH E (gp c) k) m s=some r→Code.rounds P c (xn F k r) m a w:=by
   intro m
   induction m with
   |zero=>intro G s a w _ hk;cases hk
   |succ m U=>
    intro G s a w h hk;refine wp_mono (J _ r G s a w h hk) fun e a w q=>?_
    cases e with
    |normal=>
     obtain ⟨g,z,f,b⟩:=q;obtain ⟨C,s2,D,I⟩:=EE f b;exact U C _ a w D I
    |exit id=>exact out (.exit id) a w q
    |ret=>exact out .ret a w q
    |_=>exact q.elim
  grind
 |_=>intro k r G s a w h hk;simp [hx] at hk
end
section
variable {ρ:Type} {P:Program} {E:ao} {F:Fr} {G:Nat→Gh} {s:St} {a:Act} {w:World}
def Fz (E:ao) (s:St) (t:Ty):ResultVar→Option TV
 | .tmp t=>some (s.get t)
 | .cell a u=>if decide (E.jh u=some t) then kV s t (s.get a) some else none
def pu (E:ao) (s:St):List ResultVar→List Ty→Option (List (Ty×TV))
 |[],[]=>some []
 |r::b,t::ts=>match Fz E s t r with
  |some v=>match pu E s b ts with
   |some l=>some ((t,v)::l)
   |none=>none
  |none=>none
 |_,_=>none
def Kx (E:ao) (d:List PM) (rt:List Ty) (f:List ResultVar) (s:St) (b:List D→List D→Option ρ):Option ρ:=
 match pu E s f rt with
 |some l=>xV s id l fun s e=>kS s 0 d fun c=>b e c
 |none=>none
def tS (E:ao) (c:List PM) (rt:List Ty) (fn:Func) (b:List D→List D→Option ρ):Ex→St→Option ρ:=fun e s=>match e with
 | .exit _=>none
 |_=>Kx E c rt fn.results.toList s b
def lz (fn:Func):Code:=match fn.body with
 |some c=>c
 |none=>.skip
def Mj (E:ao) (n:Nat) (b:List PM) (rt:List Ty) (fn:Func) (ds:List D) (c:List D→List D→Option ρ):Option ρ:=
 x5 0 b ds fun ts bs=>hx {E with nt:=fn.ntmps} n (lz fn) (tS {E with nt:=fn.ntmps} b rt fn c) {tmps:=ts,cj:=bs}
theorem afr (h:aA F G s a w) {T:Ty} {v:TV} {t:Nat} {k:TV→Option ρ} {r:ρ} (O:bF P T t) {x:Value} (f:VR (ax s.box G) w F.R v x) (hk:kV s T v k=some r):
 ∃u y,k u=some r∧(do loadVar t (←asAddr x):Sem Value).run P w=.ok y w∧VR (ax s.box G) w F.R u y:=by
 have e:∀b,(Instr.loadAt t (.pointer (some b))).run P w=(do loadVar t (←asAddr (.pointer (some b))):Sem Value).run P w:=by
  intro b;simp [Instr.loadAt,Instr.sureAddr,asAddr]
 unfold kV at hk;split at hk;rename_i b p;have f:=f.b3 (by simp) (by simp) rfl;obtain ⟨u,ft,z,off,l,j⟩:=f;simp only [eK,eM] at j;unfold b6 at hk;split at hk;rename_i bx g;dsimp only at hk;split at hk;rename_i n;have n:cE bx.ty p=some T:=eU n;have d:=nw g l;rw [n] at d;obtain rfl:=bk d;obtain ⟨X,ac,ab⟩:=(h.box b bx g).fv;obtain ⟨c',u,K,a',W,Y,J,Z,aa⟩:=aW.get bx.c bx.ty (G b).ft X ((G b).bg.map (·,0)) p _ r ac (fun U o e=>(ab U o e).1) hk;rw [fR g,J] at l;simp only [az,aO] at l;obtain ⟨rfl,rfl,rfl⟩:=l;have C:=aa z off rfl;have ae:=Yd _ _ _ (h.cF b bx g) n;obtain ⟨v,D,I⟩:=FB O C (mS u);have af:iI (ax s.box G) b u K (some (z,off)) p 0:=iI.TF (fun q=>tA (by rw [fR g];exact J));obtain ⟨ah,ai⟩:=YB c' u K W b _ p 0 ae Z af (fun _=>rfl);refine ⟨_,v,Y,by rw [j,←e,D],dH ah (by rw [ai];exact I)⟩;cases hk;cases hk;rename_i u y;have f:=f.b3 (by simp) (by simp) rfl;obtain ⟨z,off,c,j,aj,C,ag⟩:=f;simp only [eK,eM] at j;split at hk;rename_i d;have d:u=T:=eU d;subst d;obtain ⟨v,D,I⟩:=FB O C (mS u);exact ⟨_,v,hk,by rw [j,←e,D],dH (v:=.ad u y) ag I⟩;cases hk;cases hk
def Em (tmps:Array Value):ResultVar→Sem Value
 | .tmp t=>pure (tmps.getD t undef)
 | .cell a t=>do loadVar t (←asAddr (tmps.getD a undef))
theorem aii (h:aA F G s a w) (j:∀t T,E.jh t=some T→bF P T t) {t:Ty} {d:ResultVar} {v:TV} (b:Fz E s t d=some v):∃x,(Em a.tmps d).run P w=.ok x w∧VR (ax s.box G) w F.R v x:=by
 cases d with
 |tmp n=>
  simp only [Fz,az] at b;subst b;exact ⟨_,rfl,h.tmps n⟩
 |cell n u=>
  simp only [Fz] at b;split at b;rename_i c;have c:E.jh u=some t:=eU c;obtain ⟨l,y,e,f,g⟩:=afr h (j u t c) (h.tmps n) b;obtain rfl:=bk e;exact ⟨y,f,g⟩;cases b
theorem VA (h:aA F G s a w) (j:∀t T,E.jh t=some T→bF P T t):∀(c:List ResultVar) (ts:List Ty) (l:List (Ty×TV)),pu E s c ts=some l→
 l.map Prod.fst=ts∧∃xs,(c.mapM (Em a.tmps)).run P w=.ok xs w∧du (ax s.box G) w F.R (l.map Prod.snd) xs:=by
 intro c
 induction c with
 |nil=>
  intro ts l b;cases ts with
  |nil=>
   simp only [pu,az] at b;subst b;exact ⟨rfl,[],rfl,trivial⟩
  |cons _ _=>simp [pu] at b
 |cons y c o=>
  intro ts l b;cases ts with
  |nil=>simp [pu] at b
  |cons t ts=>
   simp only [pu] at b;split at b;rename_i v n;split at b;rename_i q g;simp only [az] at b;subst b;obtain ⟨d,xs,r,e⟩:=o ts q g;obtain ⟨x,u,f⟩:=aii h j n;refine ⟨by simp [d],x::xs,?_,f,e⟩;simp_all;cases b;cases b
theorem VD {fn:Func} {xs:List Value} (h:(fn.results.toList.mapM (Em a.tmps)).run P w=.ok xs w):
 (results fn a.tmps).run P w=.ok (if h:xs.length=1 then xs[0] else .tuple xs.toArray) w:=by
 have e:results fn a.tmps=(do
  let vs ←List.toArray<$>fn.results.toList.mapM (Em a.tmps)
  pure (if h:vs.size=1 then vs[0] else .tuple vs)):=by
  unfold results;rw [←Array.mapM_eq_mapM_toList];rfl
 simp_all
end
section
variable {ρ:Type} {P:Program} {E:ao} {F:Fr} {G:Nat→Gh} {s:St} {a:Act} {w:World}
theorem aca {s:St}:∀(t:Ty) (v:TV) (k:St→TV→(TV→TV)→Option ρ) (r:ρ),ct s t v k=some r→v.agg=t.agg∧v≠ .un∧∀b,v≠ .tup b:=by
 intro t v k r h;cases t<;>cases v<;>first
  |(simp [ct] at h;done)
  |exact ⟨rfl,by simp,by simp⟩
  |(simp only [ct] at h
    split at h;rename_i e;have e:=eU e;subst e;exact ⟨rfl,by simp,by simp⟩;cases h)
structure CI (F:Fr) (G:Nat→Gh) (s:St) (a:Act) (w:World) (c:List Nat) (d:Nat→Gh) (e:St):Prop where
 rel:aA F d e a w
 b7:c.Nodup
 out:∀b∈c,∀j y,e.box j=some y→b∉(d j).ae
 bK:∀b∈c,¬F.R b∧b<w.heap.size∧(b∈F.M∨F.w0.heap.size≤b)
 jU:∀b∈c,∃i x,s.box i=some x∧b∈(G i).ae
 fj:iH G s d e
theorem adD {A:bY} {R:Nat→Prop}:∀(l:List (Ty×TV)) (xs:List Value) (G:Nat→Gh) (s:St) (kl:TV→TV) (k:St→List D→Option ρ) (r:ρ),aA F G s a w→
 du A w R (l.map Prod.snd) xs→(∀v y,VR A w R v y→VR (ax s.box G) w F.R (kl v) y)→xV s kl l k=some r→
 ∃u q ds o,k q ds=some r∧ds.map D.t=l.map Prod.fst∧tp w ds xs o∧CI F G s a w (FT.bq o) u q:=by
 intro l
 induction l with
 |nil=>
  intro xs G s kl k r h j I hk
  match xs,j with
  |[],_=>exact ⟨G,s,[],[],hk,rfl,trivial,h,h3,fun b d=>(by cases d),fun b d=>(by cases d),fun b d=>(by cases d),iH.refl⟩
 |cons e l ag=>
  intro xs G s kl k r h j I hk;obtain ⟨t,v⟩:=e
  match xs,j with
  |x::xs,j=>
   simp only [xV] at hk;have af:=I _ _ j.1;split at hk;rename_i ad;obtain ⟨J,K,O⟩:=Me t _ _ r hk;obtain ⟨cs,aa,ab⟩:=af.cells K O;obtain ⟨y,C,an⟩:=Fv h t _ cs _ r aa hk;obtain ⟨aj,ak⟩:=Rd.aQ ad an;obtain ⟨u,q,ds,o,X,Y,Z,g⟩:=ag xs G s kl _ r h j.2 I C;refine ⟨u,q,⟨t,y⟩::ds,.leaf::o,X,by simp [Y],⟨⟨cs,?_,by rw [←J];exact ab⟩,Z⟩,?_⟩;rw [ak];exact bb.gv ad aj rfl;have ah:FT.bq (.leaf::o)=FT.bq o:=by simp [FT.bq,FT.ae]
   rw [ah];exact g;obtain ⟨J,K,O⟩:=aca t _ _ r hk;obtain ⟨cs,aa,ab⟩:=af.cells K O;obtain ⟨G1,s1,c,f,κ,C,n⟩:=oY t _ G s cs _ r h aa hk;split at C
   ·rename_i y ap;obtain ⟨ai,ac,al⟩:=mf t c f cs y n.fv ap;obtain ⟨u,q,ds,o,X,Y,Z,g⟩:=ag xs G1 s1 _ _ r n.rel j.2 (fun v y ao=>n.vr _ _ (I v y ao)) C;have fr:=n.eH.fj g.fj;refine ⟨u,q,⟨t,y⟩::ds,ai::o,X,by simp [Y],⟨⟨cs,al,by rw [←J];exact ab⟩,Z⟩,⟨g.rel,?_,?_,?_,?_,n.fj.trans g.fj⟩⟩;simp only [FT.bq,cn,ac];refine ⟨fr.b7,g.b7,fun b d c am e=>?_⟩;subst e;obtain ⟨i,z,W,U⟩:=g.jU b am;exact n.eH.out b d i z W U
    all_goals
     intro b d;simp only [FT.bq,aZ,ac] at d
    rcases d with d|d
    exact fr.out b d;exact g.out b d;rcases d with d|d
    exact fr.bK b d;exact g.bK b d;rcases d with d|d
    exact n.jU b d;obtain ⟨i,z,W,U⟩:=g.jU b d;exact n.fj.sub i z W b U
   cases C
  |[],j=>exact j.elim
def abo (F:Fr) (m:PM) (v:Value) (g:Gh) (id:Nat):Prop:=
 match m with
 | .ptr _=>F.bg id=g.bg∧∃c,g.bg=some c∧v=.pointer (some ⟨c,0,none⟩)
 | .mut t=>(∃u,t=.slice u)∧F.dz id=g.ft.dz∧∃b cap d,g.ft=.node b cap d∧v=.slice (b.map (⟨·,0,none⟩)) d.length cap
 |_=>True
def I0 (F:Fr):Nat→List PM→List Value→List Gh→Prop
 |_,[],[],[]=>True
 |i,m::c,v::vs,g::b=>abo F m v g (i*32)∧I0 F (i+1) c vs b
 |_,_,_,_=>False
theorem adC (h:aA F G s a w):∀(C:List PM) (i:Nat) (vs:List Value) (n:List Gh) (k:List D→Option ρ) (r:ρ),I0 F i C vs n→kS s i C k=some r→
 ∃ds d,k ds=some r∧ll w C ds vs n d∧(bT d).Nodup∧∀b∈bT d,∃j x,i≤j∧s.box (j*32)=some x∧b∈(G (j*32)).ae:=by
 intro C
 induction C with
 |nil=>
  intro i vs n k r l hk
  match vs,n,l with
  |[],[],_=>exact ⟨[],[],hk,trivial,h3,fun b o=>(by cases o)⟩
 |cons m C am=>
  intro i vs n k r l hk
  match vs,n,l with
  |v::vs,g::n,l=>
   have ET:∀(g':Gh) (av:List D) (K:List Gh) (x:bl),s.box (i*32)=some x→(∀b∈g'.ae,b∈(G (i*32)).ae)→g'.ae.Nodup→(bT K).Nodup→
    (∀b∈bT K,∃j x,i+1≤j∧s.box (j*32)=some x∧b∈(G (j*32)).ae)→
    (bT (g'::K)).Nodup∧∀b∈bT (g'::K),∃j x,i≤j∧s.box (j*32)=some x∧b∈(G (j*32)).ae:=by
    intro g' av K x a9 O ac q h4;rw [Ev];refine ⟨cn.2 ⟨ac,q,fun b o c I e=>?_⟩,fun b o=>?_⟩;subst e;obtain ⟨j,y,aF,W,ai⟩:=h4 b I;exact h.dc (i*32) (j*32) x y a9 W (by omega) b (O b o) ai
    grind
   have skip:m.fy=false→kS s (i+1) C k=some r→∃ds d,k ds=some r∧ll w (m::C) ds (v::vs) (g::n) d∧(bT d).Nodup∧∀b∈bT d,∃j x,i≤j∧s.box (j*32)=some x∧b∈(G (j*32)).ae:=by
    intro ai hk;obtain ⟨ds,d,X,Y,Z,ad⟩:=am (i+1) vs n k r l.2 hk;have e:bT ((⟨none,.leaf⟩:Gh)::d)=bT d:=by simp [bT,Gh.ae,FT.ae]
    refine ⟨ds,⟨none,.leaf⟩::d,X,?_,by rw [e];exact Z,fun b o=>?_⟩;cases m<;>first|exact ⟨rfl,Y⟩|simp [PM.fy] at ai
    grind
   cases m with
   |ptr t=>
    simp only [kS] at hk;unfold b6 at hk;split at hk;rotate_left;cases hk;rename_i bx z
    try dsimp only at hk
    split at hk;cases hk;rename_i I;simp only [fc,hn,rK,gQ,rA,jF] at I;obtain ⟨af,ag⟩:=I;split at hk;rename_i y W;obtain ⟨ds,d,X,Y,Z,ad⟩:=am (i+1) vs n _ r l.2 hk;have J:=h.box _ bx z;unfold dF at J;rw [aj (by simp [af])] at J;obtain ⟨aa,row,e,O,ac,q,h4⟩:=J;subst ag;obtain ⟨ah,a0,a1⟩:=mf _ _ _ _ _ h4 W;obtain ⟨a2,aD,ap,al⟩:=l.1;have hpar:=(h.c1 _ bx z).1 (by omega);rw [O,a2,ap] at hpar;obtain rfl:=bk hpar;have U:(Gh.mk (some aa) ah).ae=(G (i*32)).ae:=by simp [Gh.ae,O,a0]
    obtain ⟨an,ao⟩:=ET ⟨some aa,ah⟩ ds d bx z (fun b o=>by rw [←U];exact o) (by rw [U];exact h.b7 _ bx z) Z ad;exact ⟨⟨_,y⟩::ds,⟨some aa,ah⟩::d,X,⟨⟨rfl,ap.symm,aa,row,e,rfl,al,ac,q,a1⟩,Y⟩,an,ao⟩;cases hk
   | «mut» t=>
    simp only [kS] at hk;unfold b6 at hk;split at hk;rotate_left;cases hk;rename_i bx z
    try dsimp only at hk
    split at hk;cases hk;rename_i I;simp only [fc,hn,rK,gQ,rA,Bool.not_eq_false] at I;obtain ⟨⟨af,ag⟩,au⟩:=I;split at hk;rename_i u y W;obtain ⟨ds,d,X,Y,Z,ad⟩:=am (i+1) vs n _ r l.2 hk;have J:=h.box _ bx z;unfold dF at J;rw [ak af] at J;obtain ⟨O,⟨aI,ac⟩,cs,q⟩:=J;rw [W] at q;obtain ⟨aw,q⟩:=q;have a8:u=t:=aw.trans au;subst a8;obtain ⟨⟨aJ,a7⟩,a5,aC,aE,aH,a4,al⟩:=l.1;subst a7;have hpar:=((h.c1 _ bx z).2 ag).2;rw [a5,a4] at hpar;have ar:=q;obtain ⟨b,cap,aG,ax,ay,_,_,a6,_⟩:=q;rw [ax] at hpar;simp only [FT.dz,az,aO] at hpar;obtain ⟨rfl,rfl,aB⟩:=hpar;have a3:cs=[v]:=by rw [ay,al,←a6,aB]
    rw [a3] at ar;have U:(Gh.mk none (G (i*32)).ft).ae=(G (i*32)).ft.ae:=by simp [Gh.ae]
    have aq:=h.b7 _ bx z;simp only [Gh.ae,cn] at aq;obtain ⟨an,ao⟩:=ET ⟨none,(G (i*32)).ft⟩ ds d bx z (fun b o=>by rw [U] at o;simp only [Gh.ae,aZ];exact .inr o) (by rw [U];exact aq.2.1) Z ad;exact ⟨⟨_,y⟩::ds,⟨none,(G (i*32)).ft⟩::d,X,⟨⟨rfl,rfl,ar⟩,Y⟩,an,ao⟩;cases hk
   |ro t=>exact skip rfl (by simpa only [kS] using hk)
   |bw t=>exact skip rfl (by simpa only [kS] using hk)
   |ab t=>exact skip rfl (by simpa only [kS] using hk)
   |bV f c=>exact skip rfl (by simpa only [kS] using hk)
  |[],_,l=>exact l.elim
  |_::_,[],l=>exact l.elim
end
section
variable {ρ:Type} {P:Program} {E:ao} {w:World} {R:Nat→Prop}
def PM.iU:PM→Bool
 | .ptr t| .mut t| .ab t=>t.iU
 | .bV _ b=>b.all fun m=>match m with
  | .bw _=>true
  |_=>false
 |_=>true
def IB (w:World) (g:Gh) (x:Value) (b:bl):Prop:=
 (∃(t:Ty) (y:t.ai),b=⟨t,false,false,.ab t y⟩∧s6 w t y g x∧t.cF)∨
 ∃(u:Ty) (y:(Ty.slice u).ai) (dN:Bool),b=⟨.slice u,true,dN,.ab (.slice u) y⟩∧g.bg=none∧bb w (.slice u) y g.ft [x]∧(Ty.slice u).cF
def IV (w:World) (R:Nat→Prop) (id:Nat) (g:Gh) (x:Value) (v:TV) (b:Option bl):Prop:=
 VR A0 w R v x∨∃y,b=some y∧IB w g x y∧(y.cm=false→v=.ref id [])∧(y.cm=true→v=.sl id [])
theorem aeN:∀(c:List PM) (ds bo:List D) (vs:List Value) (k:List TV→List D→Option ρ) (r:ρ),vc w R c ds vs→(c.all fun m=>match m with
 | .bw _=>true
 |_=>false)=true→x6 c (ds++bo) k=some r→∃h,k h bo=some r∧bH A0 w R (h.foldr TV.cons .unit) vs:=by
 intro c
 induction c with
 |nil=>
  intro ds bo vs k r b _ hk
  match ds,vs,b with
  |[],[],_=>exact ⟨[],hk,rfl⟩
 |cons m c u=>
  intro ds bo vs k r b g hk
  match ds,vs,b with
  |d::ds,v::vs,b=>
   simp only [List.all_cons,bp] at g;obtain ⟨l,n⟩:=b;cases m with
   |bw t=>
    obtain ⟨e,o⟩:=l;simp only [jG,x6] at hk;split at hk;rename_i x q;obtain ⟨f,rfl⟩:=e4 q;obtain ⟨h,y,z⟩:=u ds bo vs _ r n g.2 hk;obtain ⟨j,C⟩:=d;have f:j=t:=f;subst f;exact ⟨_,y,[v],vs,rfl,o.b3 (by simp) (by simp) rfl,z⟩;cases hk
   |_=>simp at g
  |[],_::_,b=>exact b.elim
  |[],[],b=>exact b.elim
  |_::_,[],b=>exact b.elim
theorem aeM {m:PM} {n ds:List D} {x:Value} {g:Gh} {id:Nat} (q:m.iU=true) (c:zj w R m n x g) {k:TV→List (Nat×bl)→List D→Option ρ} {r:ρ} (hk:nL id m (n++ds) k=some r):
 ∃v bx,k v bx ds=some r∧((bx=[]∧VR A0 w R v x)∨∃b,bx=[(id,b)]∧IB w g x b∧(b.cm=false→v=.ref id [])∧(b.cm=true→v=.sl id [])):=by
 cases m with
 |ro t=>
  match n,c with
  |[d],c=>
   obtain ⟨_,e,l⟩:=c;obtain ⟨j,o⟩:=d;have e:j=t:=e;subst e;simp only [jG,dJ,nL,nx] at hk
   grind
 |bw t=>
  match n,c with
  |[d],c=>
   obtain ⟨_,e,l⟩:=c;obtain ⟨j,o⟩:=d;have e:j=t:=e;subst e;simp only [jG,dJ,nL,nx] at hk
   grind
 |ptr t=>
  match n,c with
  |[d],c=>
   obtain ⟨e,l⟩:=c;obtain ⟨j,o⟩:=d;have e:j=t:=e;subst e;simp only [jG,dJ,nL,nx] at hk;exact ⟨_,_,hk,.inr ⟨_,rfl,.inl ⟨_,_,rfl,l,Ty.o8 q⟩,fun _=>rfl,fun h=>(by cases h)⟩⟩
 | «mut» t=>
  match n,c with
  |[d],c=>
   obtain ⟨e,⟨u,rfl⟩,y,l⟩:=c;obtain ⟨j,o⟩:=d;have e:j=.slice u:=e;subst e;simp only [jG,dJ,nL,nx] at hk;exact ⟨_,_,hk,.inr ⟨_,rfl,.inr ⟨_,_,_,rfl,y,l,Ty.o8 q⟩,fun h=>(by cases h),fun _=>rfl⟩⟩
 |ab t=>
  match n,c with
  |[d],c=>
   obtain ⟨e,⟨u,rfl⟩,y,l⟩:=c;obtain ⟨j,o⟩:=d;have e:j=.slice u:=e;subst e;simp only [jG,dJ,nL,nx] at hk;exact ⟨_,_,hk,.inr ⟨_,rfl,.inr ⟨_,_,_,rfl,y,l,Ty.o8 q⟩,fun h=>(by cases h),fun _=>rfl⟩⟩
 |bV f I=>
  obtain ⟨_,vs,rfl,l⟩:=c;simp only [nL] at hk;obtain ⟨J,z,C⟩:=aeN I n ds vs _ r l q hk;exact ⟨_,_,z,.inl ⟨rfl,dH (cs:=[_]) ⟨vs,C,rfl⟩ rfl⟩⟩
theorem aeL:∀(o:List PM) (i:Nat) (ds:List D) (vs:List Value) (c:List Gh) (k:List (Nat×TV)→List (Nat×bl)→Option ρ) (r:ρ),(∀m∈o,m.iU=true)→l1 w R o ds vs c→x5 i o ds k=some r→
 ∃ts bs,k ts bs=some r∧
  (∀n v,lk ts n=some v→∃j x g,n=i+j∧vs[j]?=some x∧c[j]?=some g∧IV w R (n*32) g x v (lk bs (n*32)))∧
  (∀id b,lk bs id=some b→∃j x g,id=(i+j)*32∧vs[j]?=some x∧c[j]?=some g∧IB w g x b):=by
 intro o
 induction o with
 |nil=>
  intro i ds vs c k r _ d hk
  match ds,vs,c,d with
  |[],[],[],_=>exact ⟨[],[],hk,fun n v h=>(by cases h),fun n v h=>(by cases h)⟩
 |cons m o ab=>
  intro i ds vs c k r U d hk
  match vs,c,d with
  |x::vs,g::c,d=>
   obtain ⟨K,J,rfl,X,Y⟩:=d;have hk:nL (i*32) m (K++J) (fun v b ds=>x5 (i+1) o ds fun ts bs=>k ((i,v)::ts) (b++bs))=some r:=by
    cases h:K++J with
    |nil=>rw [h] at hk;exact hk
    |cons _ _=>rw [h] at hk;exact hk
   obtain ⟨v,bx,ac,l⟩:=aeM (U m (by simp)) X hk;obtain ⟨ts,bs,ad,Z,O⟩:=ab (i+1) J vs c _ r (fun m h=>U m (by simp [h])) Y ac;have af:∀b,lk bs (i*32)≠some b:=by
    grind
   refine ⟨_,_,ad,fun n u I=>?_,fun id b f=>?_⟩;rw [gK] at I;split at I;rename_i e;subst e;obtain rfl:=bk I;refine ⟨0,x,g,rfl,rfl,rfl,?_⟩;rcases l with ⟨rfl,l⟩|⟨b,rfl,f,l⟩
   exact .inl l;refine .inr ⟨b,?_,f,l⟩;rw [yb,gK,ak rfl];rfl;obtain ⟨j,y,g',e,q,z,C⟩:=Z n u I;refine ⟨j+1,y,g',by omega,by simpa using q,by simpa using z,?_⟩;have W:lk (bx++bs) (n*32)=lk bs (n*32):=by
    rw [yb];rcases l with ⟨rfl,_⟩|⟨b,rfl,_⟩
    rfl;rw [gK,aj (by omega)];rfl
   rw [W];exact C;rw [yb] at f;rcases l with ⟨rfl,_⟩|⟨ae,rfl,aa,_⟩
   obtain ⟨j,y,g',e,q,z,C⟩:=O id b f;exact ⟨j+1,y,g',by omega,by simpa using q,by simpa using z,C⟩;rw [gK] at f;split at f;rename_i e;obtain rfl:=bk f;exact ⟨0,x,g,e.symm,rfl,rfl,aa⟩;obtain ⟨j,y,g',e,q,z,C⟩:=O id b f;exact ⟨j+1,y,g',by omega,by simpa using q,by simpa using z,C⟩
  |[],_,d=>exact d.elim
  |_::_,[],d=>exact d.elim
def mx (b:List Gh) (id:Nat):Gh:=if id%32=0 then (b[id/32]?).getD ⟨none,.leaf⟩ else ⟨none,.leaf⟩
theorem Eu {b:List Gh} {j:Nat} {g:Gh} (h:b[j]?=some g):mx b (j*32)=g:=by
 unfold mx;simp_all
theorem KH {c:List Gh} {j:Nat} {g:Gh} (h:c[j]?=some g) {b:Nat} (d:b∈g.ae):b∈bT c:=by
 unfold bT
 grind
theorem aet:∀{c:List Gh},(bT c).Nodup→(∀(j:Nat) (g:Gh),c[j]?=some g→g.ae.Nodup)∧∀(i j:Nat) (g g':Gh),c[i]?=some g→c[j]?=some g'→i≠j→∀b∈g.ae,b∉g'.ae:=by
 intro c
 induction c with
 |nil=>simp_all
 |cons r c q=>
  intro h;rw [Ev,cn] at h;obtain ⟨u,n,e⟩:=h;obtain ⟨v,x⟩:=q n;refine ⟨fun j g d=>?_,fun i j g g' hi d o b f l=>?_⟩
  grind
  cases i with
  |zero=>
   simp at hi;subst hi;cases j with
   |zero=>exact o rfl
   |succ j=>exact e b f b (KH (by simpa using d) l) rfl
  |succ i=>
   cases j with
   |zero=>
    simp at d;subst d;exact e b l b (KH (by simpa using hi) f) rfl
   |succ j=>grind
theorem ahM {F:Fr}:∀(l:List PM) (i:Nat) (ds:List D) (vs:List Value) (c:List Gh),l1 w R l ds vs c→(∀j g,c[j]?=some g→F.bg ((i+j)*32)=g.bg∧F.dz ((i+j)*32)=g.ft.dz)→I0 F i l vs c:=by
 intro l
 induction l with
 |nil=>
  intro i ds vs c f _
  match ds,vs,c,f with
  |[],[],[],_=>trivial
 |cons m l K=>
  intro i ds vs c f o
  match vs,c,f with
  |x::vs,g::c,f=>
   obtain ⟨n,v,rfl,h,C⟩:=f;refine ⟨?_,K (i+1) v vs c C (fun j g I=>by have:=o (j+1) g (by simpa using I);grind)⟩;have q:=o 0 g rfl;cases m with
   |ptr t=>
    match n,h with
    |[d],h=>
     obtain ⟨_,r,row,e,U,W,_⟩:=h;exact ⟨q.1,r,U,W⟩
   | «mut» t=>
    match n,h with
    |[d],h=>
     obtain ⟨e,⟨u,rfl⟩,_,J⟩:=h;obtain ⟨y,X⟩:=d;have e:y=.slice u:=e;subst e;obtain ⟨b,cap,O,z,Y,_,_,Z,_⟩:=J;refine ⟨⟨u,rfl⟩,q.2,b,cap,O,z,?_⟩;simp_all
   |_=>trivial
  |[],_,f=>exact f.elim
  |_::_,[],f=>exact f.elim
theorem Q7:∀(d:List PM) (ds:List D) (vs:List Value) (c:List Gh),l1 w R d ds vs c→vs.length=d.length:=by
 intro d
 induction d with
 |nil=>
  intro ds vs c b
  match ds,vs,c,b with
  |[],[],[],_=>rfl
 |cons m d l=>
  intro ds vs c b
  match vs,c,b with
  |x::vs,g::c,b=>
   obtain ⟨e,f,rfl,h,j⟩:=b
   grind
  |[],_,b=>exact b.elim
  |_::_,[],b=>exact b.elim
theorem aic {c:aB} {ds:List D} {vs:List Value} {q:List Gh} (C:xo w R c ds vs q) (ae:∀m∈c.params,m.iU=true) {nt:Nat} (aw:c.params.length≤nt)
 {k:List (Nat×TV)→List (Nat×bl)→Option ρ} {r:ρ} (hk:x5 0 c.params ds k=some r):
 ∃ts bs,k ts bs=some r∧aA ⟨R,bT q,w,nt,fun id=>(mx q id).bg,fun id=>(mx q id).ft.dz,[]⟩ (mx q) {tmps:=ts,cj:=bs} {tmps:=vs.toArray++Array.replicate (nt-vs.length) undef,defers:=[]} w:=by
 obtain ⟨ts,bs,am,ad,ac⟩:=aeL c.params 0 ds vs q k r ae C.args hk;obtain ⟨ay,az⟩:=aet C.b7;have au:=Q7 _ _ _ _ C.args;have K:∀id b,St.box {tmps:=ts,cj:=bs} id=some b→∃j x g,id=j*32∧q[j]?=some g∧mx q id=g∧IB w g x b:=by
  intro id b f;obtain ⟨j,x,g,e,_,o,d⟩:=ac id b f;rw [eL] at e;subst e;exact ⟨j,x,g,rfl,o,Eu o,d⟩
 refine ⟨ts,bs,am,⟨fun i x l=>?_,fun i x l=>?_,fun i j x y l ax av b f=>?_,fun i x l=>?_,fun i x l b f=>?_,fun b f=>⟨C.R b f,fun J=>(C.bK b J).1 f⟩,fun n=>?_,fun _ _ _=>rfl,gj.refl _,rfl,?_,fun i x l=>?_,fun i n=>.inl (by simp [St.gy,lk]),rfl⟩⟩;obtain ⟨j,v,g,rfl,I,o,d⟩:=K i x l;rw [o];unfold dF;rcases d with ⟨t,y,rfl,z,_⟩|⟨u,y,dN,rfl,f,z,_⟩
 rw [aj (by simp)];obtain ⟨O,row,e,U,_,W,ab,h4⟩:=z;exact ⟨O,row,e,U,W,ab,rfl,h4⟩;rw [ak rfl];exact ⟨f,⟨u,rfl⟩,[v],rfl,z⟩;obtain ⟨j,v,g,rfl,I,o,d⟩:=K i x l;rcases d with ⟨t,y,rfl,_,Y⟩|⟨u,y,dN,rfl,_,_,Y⟩<;>exact Y
 grind
 grind
 obtain ⟨al,_,g,rfl,I,o,_⟩:=K i x l;rw [o] at f;have J:=KH I f;exact ⟨(C.bK b J).1,(C.bK b J).2,.inl J⟩;show VR _ w R ((lk ts n).getD .un) _;cases ai:lk ts n with
 |none=>exact .inl rfl
 |some v=>
  obtain ⟨j,x,g,e,I,o,d⟩:=ad n v ai;rw [eL] at e;subst e;have l:(vs.toArray++Array.replicate (nt-vs.length) undef).getD n undef=x:=by
   have ah:=(bR.1 I).1;rw [iB,Array.getElem?_append_left (by simpa using ah)];simp [I]
  rw [l];simp only [rI];rcases d with d|⟨y,d,ao,ap,aq⟩
  exact VR.mono (fun _ _ _ _ _ h=>by cases h) (fun _ _=>rfl) d;have X:St.box {tmps:=ts,cj:=bs} (n*32)=some y:=d;rcases ao with ⟨t,ar,rfl,z,_⟩|⟨u,ar,dN,rfl,f,z,_⟩
  rw [ap rfl];obtain ⟨O,row,e,U,W,_⟩:=z;refine dH (cs:=[x]) ⟨t,g.ft,O,0,?_,by rw [W]⟩ rfl;rw [fR X,Eu o,U];cases t<;>rfl
  rw [aq rfl];obtain ⟨b,cap,an,Z,aa,_,_,ag,_⟩:=z;refine dH (cs:=[x]) ⟨u,b,cap,an,none,?_,by rw [aa,ag]⟩ rfl;rw [fR X,Eu o,f,Z];rfl
 simp_all;obtain ⟨al,_,g,rfl,I,o,d⟩:=K i x l;refine ⟨fun _=>rfl,fun af=>?_⟩;rcases d with ⟨t,y,rfl,_⟩|⟨u,y,dN,rfl,_⟩
 cases af;simp_all
theorem aif {c:List D} {xs:List Value} {b:List FT} (h:tp w c xs b):I5 w c (if h:xs.length=1 then xs[0] else .tuple xs.toArray) b:=by
 match c,xs,b,h with
 |[],[],[],_=>exact ⟨rfl,rfl⟩
 |[d],[x],[f],h=>exact ⟨f,rfl,h.1⟩
 |d::e::c,x::x'::xs,f::g::b,h=>exact ⟨x::x'::xs,by simp,h⟩
 |[],_::_,_,h=>exact h.elim
 |[],[],_::_,h=>exact h.elim
 |_::_,[],_,h=>exact h.elim
 |_::_,_::_,[],h=>exact h.elim
 |[_],_::_::_,_::_,h=>exact h.2.elim
 |[_],[_],_::_::_,h=>exact h.2.elim
 |_::_::_,[_],_::_,h=>exact h.2.elim
 |_::_::_,_::_::_,[_],h=>exact h.2.elim
theorem acY {f:Nat} {fn:Func} {c:aB} (ak:P.funcs[f]?=some fn) (o:fn.body.isSome=true) (I:P.follows .mixedOrders=true)
 (Z:mc P E) (W:fs P E) (ao:c.params.all PM.iU=true) (an:c.params.length≤fn.ntmps)
 {n:Nat} {ds:List D} {O:List D→List D→Option ρ} {r:ρ} (ab:Mj E n c.params c.results fn ds O=some r) {vs:List Value} {d:List Gh} (X:xo w R c ds vs d):
 Calls P f vs.toArray w fun e w'=>match e with
  | .returned v=>∃K J z C,O K J=some r∧vd w c vs d K J v w' z C
  |_=>False:=by
 have ag:fs P {E with nt:=fn.ntmps}:=⟨W.fn,W.inl,W.im⟩;have ai:fn.body=some (lz fn):=by
  unfold lz
  grind
 unfold Mj at ab;have a1:=Q7 _ _ _ _ X.args;obtain ⟨ts,bs,aq,hrel⟩:=aic X (fun m h=>dE.1 ao m h) (nt:=fn.ntmps) an ab;have ah:dl P {E with nt:=fn.ntmps} ⟨R,bT d,w,fn.ntmps,fun id=>(mx d id).bg,fun id=>(mx d id).ft.dz,[]⟩:=⟨⟨Z.ty,Z.bC⟩,rfl⟩;refine calls_of_wp ak ai ?_;have ap:vs.toArray.size=vs.length:=by simp
 rw [ap];refine wp_mono (Tl (Vx ah ag I) n (lz fn) _ _ _ _ _ _ hrel aq) fun e a w' q=>?_
 have done:ch ⟨R,bT d,w,fn.ntmps,fun id=>(mx d id).bg,fun id=>(mx d id).ft.dz,[]⟩ (fun s=>Kx {E with nt:=fn.ntmps} c.params c.results fn.results.toList s O) r a w'→
  a.defers=[]∧∃v,(results fn a.tmps).run P w'=.ok v w'∧∃K J z C,O K J=some r∧vd w c vs d K J v w' z C:=by
  rintro ⟨G,s,Y,hk⟩;unfold Kx at hk;dsimp only at hk;split at hk;rotate_left;cases hk;rename_i l am;obtain ⟨ae,xs,U,af⟩:=VA (E:={E with nt:=fn.ntmps}) Y Z.ty _ _ l am;have U:=VD U;obtain ⟨a0,a2,ad,z,ar,au,av,u⟩:=adD l xs G s id _ _ Y af (fun v y h=>h) hk;obtain ⟨az,C,aw,ax,ay,ac⟩:=adC u.rel c.params 0 vs d _ _ (ahM c.params 0 ds vs d X.args (fun j g al=>by
   rw [eL];simp only [Eu al];simp_all)) ar
  refine ⟨Y.defers,_,U,ad,az,z,C,aw,aif av,au.trans ae,ax,?_,fun b o=>?_,u.rel.gq,u.rel.bQ⟩;refine cn.2 ⟨u.b7,ay,fun b o c aj e=>?_⟩;subst e;obtain ⟨j,x,_,aa,I⟩:=ac b aj;exact u.out b o _ x aa I;rcases aZ.1 o with o|o
  exact (u.bK b o).2;obtain ⟨j,x,_,aa,I⟩:=ac b o;exact (u.rel.bK _ x aa b I).2
 cases e with
 |normal=>exact done q
 |ret=>exact done q
 |exit id=>obtain ⟨G,s,_,hk⟩:=q;cases hk
 |_=>exact q.elim
def kM:List Ty→Type
 |[]=>Unit
 |T::b=>T.ai×kM b
def qM:(b:List Ty)→List D→Option (kM b)
 |[],ds=>match ds with
  |[]=>some ()
  |_::_=>none
 |T::b,ds=>match ds with
  |[]=>none
  |d::ds=>match cM d.t T d.x with
   |none=>none
   |some x=>match qM b ds with
    |none=>none
    |some r=>some (x,r)
def o7:(b:List Ty)→kM b→List D
 |[],_=>[]
 |T::b,x=>⟨T,x.1⟩::o7 b x.2
theorem Tf:∀{b:List Ty} {ds:List D} {v:kM b},qM b ds=some v→ds=o7 b v:=by
 intro b
 induction b with
 |nil=>
  intro ds v h;cases ds with
  |nil=>rfl
  |cons _ _=>simp [qM] at h
 |cons T b g=>
  intro ds v h;cases ds with
  |nil=>simp [qM] at h
  |cons d ds=>
   simp only [qM] at h;split at h;cases h;rename_i x f;obtain ⟨e,rfl⟩:=e4 f;split at h;cases h;rename_i r c;have:=g c;subst this;obtain rfl:=bk h;obtain ⟨t,x⟩:=d;have e:t=T:=e;subst e;rfl
def lG:List PM→List Ty
 |[]=>[]
 | .ptr t::b=>t::lG b
 | .mut t::b=>t::lG b
 |_::b=>lG b
def qL (c:List PM) (rt:List Ty) (e d:List D):Option (kM rt×kM (lG c)):=
 match qM rt e with
 |none=>none
 |some a=>match qM (lG c) d with
  |none=>none
  |some b=>some (a,b)
noncomputable def aS (E:ao) (n:Nat) (b:List PM) (rt:List Ty) (fn:Func) (ds:List D):Option (kM rt×kM (lG b)):=
 Mj E n b rt fn ds (qL b rt)
noncomputable def aP (E:ao) (n:Nat) (b:List PM) (rt:List Ty) (fn:Func):aB:=
 {params:=b,results:=rt,h:=fun ds k=>match aS E n b rt fn ds with
  |none=>none
  |some v=>k (o7 rt v.1) (o7 (lG b) v.2)}
theorem aU {f:Nat} {fn:Func} {d:List PM} {rt:List Ty} (n:Nat) (I:P.funcs[f]?=some fn) (D:∀args w,(callFunc f args).run P w=.ok (.enter f args) w) (z:fn.body.isSome=true) (J:P.follows .mixedOrders=true)
 (X:mc P E) (u:fs P E) (o:(d.all PM.iU&&rt.all Ty.iU&&Nat.ble d.length fn.ntmps)=true):aN P f (aP E n d rt fn):=by
 simp only [bp] at o;obtain ⟨⟨O,U⟩,l⟩:=o;have l:d.length≤fn.ntmps:=by simp_all
 refine ⟨fun ρ ds k=>?_,fun t W=>Ty.o8 (dE.1 U t W),fun w R ds vs ac aa Z K j=>.inl ⟨D,?_⟩⟩;show (match aS E n d rt fn ds with
  |none=>none
  |some v=>k (o7 rt v.1) (o7 (lG d) v.2))=_
 unfold aB.g aP
 grind
 unfold aB.g aP at j;simp only at j;split at j;cases j;rename_i v Y;simp only [az,aO] at j;obtain ⟨rfl,rfl⟩:=j;refine (acY (c:=aP E n d rt fn) I z J X u O l Y K).mono fun e w' q=>?_
 cases e with
 |returned x=>
  obtain ⟨aa,Z,ab,ad,h,r⟩:=q;unfold qL at h;split at h;cases h;rename_i a y;split at h;cases h;rename_i b C;obtain rfl:=bk h;rw [Tf y,Tf C] at r
  grind
 |_=>exact q.elim
def ry:Nat→List TV→List (Nat×TV)
 |_,[]=>[]
 |i,v::vs=>(i,v)::ry (i+1) vs
theorem anK:∀(vs:List TV) (i n:Nat),lk (ry i vs) n=if i≤n then vs[n-i]? else none:=by
 intro vs
 induction vs with
 |nil=>intro i n;simp [ry,lk]
 |cons v vs b=>
  intro i n;simp only [ry,gK,b]
  grind
def TV.Lz:TV→Bool
 | .tup _=>false
 |_=>true
def VC:List TV→TV
 |[v]=>v
 |vs=>.tup (vs.foldr .cons .unit)
def uP (E:ao) (l:List TV) (s:St):St:=
 if l.all fun v=>v.aF.isEmpty then s.ui [] (s.cj.filterMap fun x=>if Nat.beq (x.1%32) (E.fL%32) then none else some x.1) else s
def JG {ρ:Type} (E:ao) (rt:List Ty) (fn:Func) (k:St→TV→Option ρ) (s:St):Option ρ:=
 match pu E s fn.results.toList rt with
 |some l=>match (l.map Prod.snd).all TV.Lz with
  |true=>match (uP E (l.map Prod.snd) s).sv with
   |t::sv=>k {tmps:=t,cj:=(uP E (l.map Prod.snd) s).cj,sv:=sv} (VC (l.map Prod.snd))
   |[]=>none
  |false=>none
 |none=>none
def nF {ρ:Type} (E:ao) (rt:List Ty) (fn:Func) (k:St→TV→Option ρ):Ex→St→Option ρ:=fun e s=>match e with
 | .exit _=>none
 |_=>JG E rt fn k s
def ek (E:ao) (n:Nat) (rt:List Ty) (fn:Func) (ts:List Nat):dK:=
 {run:=fun s vs k=>match Nat.ble vs.length fn.ntmps with
  |true=>hx {E with nt:=fn.ntmps} n (lz fn) (nF {E with nt:=fn.ntmps} rt fn k) {tmps:=ry 0 vs,cj:=s.cj,sv:=(ts.map fun n=>(n,s.get n))::s.sv}
  |false=>none}
theorem ano {A:bY} {R:Nat→Prop}:∀(vs:List TV) (xs:List Value),du A w R vs xs→vs.length=xs.length∧∀(n:Nat) (v:TV),vs[n]?=some v→∃x,xs[n]?=some x∧VR A w R v x:=by
 intro vs
 induction vs with
 |nil=>
  intro xs h;cases xs with
  |nil=>simp_all
  |cons _ _=>exact h.elim
 |cons v vs d=>
  intro xs h;cases xs with
  |nil=>exact h.elim
  |cons x xs=>
   obtain ⟨c,e⟩:=d xs h.2;refine ⟨by simp [c],fun n u b=>?_⟩;cases n with
   |zero=>simp at b;subst b;exact ⟨x,rfl,h.1⟩
   |succ n=>simp_all
theorem anp {A:bY} {R:Nat→Prop}:∀(vs:List TV) (xs:List Value),du A w R vs xs→vs.all TV.Lz=true→fH A w R (vs.foldr .cons .unit) xs:=by
 intro vs
 induction vs with
 |nil=>
  intro xs h _;cases xs with
  |nil=>trivial
  |cons _ _=>exact h.elim
 |cons v vs c=>
  intro xs h b;cases xs with
  |nil=>exact h.elim
  |cons x xs=>
   simp only [List.all_cons,bp] at b;refine ⟨?_,c xs h.2 b.2⟩;have:=h.1;rwa [nu (fun a e=>by rw [e] at b;cases b.1)] at this
theorem aih {A:bY} {R:Nat→Prop} {vs:List TV} {xs:List Value} (h:du A w R vs xs) (b:vs.all TV.Lz=true):VR A w R (VC vs) (if h:xs.length=1 then xs[0] else .tuple xs.toArray):=by
 match vs,xs,h with
 |[],[],_=>exact ⟨[],trivial,rfl⟩
 |[v],[x],h=>exact h.1
 |v::c::vs,x::x'::xs,h=>
  have:=anp (v::c::vs) (x::x'::xs) h b;exact ⟨_,this,by simp⟩
 |[],_::_,h=>exact h.elim
 |_::_,[],h=>exact h.elim
 |[_],_::_::_,h=>exact h.2.elim
 |_::_::_,[_],h=>exact h.2.elim
theorem bH.lJ {A A':bY} {R:Nat→Prop}:∀(v:TV) (cs:List Value),v.aF=[]→bH A w R v cs→bH A' w R v cs:=by
 intro v
 induction v with
 |cons a d u x=>
  intro cs h g;simp only [TV.aF,zb] at h;obtain ⟨o,q,e,j,l⟩:=g;exact ⟨o,q,e,u o h.1 j,x q h.2 l⟩
 |bV f c r=>
  intro cs h g;obtain ⟨vs,j,l⟩:=g;exact ⟨vs,r vs h j,l⟩
 |ref b p=>intro cs h;simp [TV.aF] at h
 |sl b p=>intro cs h;simp [TV.aF] at h
 |slw b p lo n=>intro cs h;simp [TV.aF] at h
 |mp b=>intro cs h;simp [TV.aF] at h
 |tup a _=>intro cs _ g;exact g.elim
 |_=>intro cs _ g;exact g
theorem eV.lJ {A A':bY} {R:Nat→Prop} {v:TV} {x:Value} (h:v.aF=[]) (d:eV A w R v x):eV A' w R v x:=by
 rcases d with e|⟨cs,b,c⟩
 exact .inl e;exact .inr ⟨cs,bH.lJ v cs h b,c⟩
theorem fH.lJ {A A':bY} {R:Nat→Prop}:∀(v:TV) (xs:List Value),v.aF=[]→fH A w R v xs→fH A' w R v xs:=by
 intro v
 induction v with
 |cons a d _ c=>
  intro xs h b;simp only [TV.aF,zb] at h;cases xs with
  |nil=>exact b.elim
  |cons x xs=>exact ⟨eV.lJ h.1 b.1,c xs h.2 b.2⟩
 |unit=>intro xs _ b;cases xs with
  |nil=>exact b
  |cons _ _=>exact b.elim
 |_=>intro xs _ b;exact b.elim
theorem VR.lJ {A A':bY} {R:Nat→Prop} {v:TV} {x:Value} (h:v.aF=[]) (b:VR A w R v x):VR A' w R v x:=by
 by_cases c:∃a,v=.tup a
 obtain ⟨a,rfl⟩:=c;obtain ⟨xs,d,f⟩:=b;exact ⟨xs,fH.lJ a xs h d,f⟩;have g:∀a,v≠ .tup a:=fun a e=>c ⟨a,e⟩
 rw [nu g] at b⊢;exact eV.lJ h b
theorem du.lJ {A A':bY} {R:Nat→Prop}:∀(vs:List TV) (xs:List Value),(∀v∈vs,v.aF=[])→du A w R vs xs→du A' w R vs xs
 |[],[],_,h=>h
 |[],_::_,_,h=>h.elim
 |_::_,[],_,h=>h.elim
 |_::vs,_::xs,b,h=>⟨VR.lJ (b _ (by simp)) h.1,du.lJ vs xs (fun v c=>b v (by simp [c])) h.2⟩
theorem alJ {F:Fr} {G:Nat→Gh} {s:St} {a:Act} (h:aA F G s a w) {l:List TV} {xs:List Value} (b:du (ax s.box G) w F.R l xs):aA F G (uP E l s) a w∧du (ax (uP E l s).box G) w F.R l xs:=by
 unfold uP;split;rename_i c;exact ⟨h.ui _ _,du.lJ l xs (fun v d=>by simp_all) b⟩;simp_all
theorem gN {f:Nat} {fn:Func} {rt:List Ty} {ts:List Nat} (n:Nat) (U:P.funcs[f]?=some fn) (O:∀args w,(callFunc f args).run P w=.ok (.enter f args) w) (ag:fn.body.isSome=true) (Z:P.follows .mixedOrders=true)
 (u:mc P E) (j:fs P E):eG P f (ek E n rt fn ts):=by
 intro ρ F G s a w vs xs k r h af c;unfold ek at c;simp only at c;split at c;rotate_left;cases c;rename_i ab;have ab:vs.length≤fn.ntmps:=by simp_all
 obtain ⟨ah,W⟩:=ano vs xs af;have I:fs P {E with nt:=fn.ntmps}:=⟨j.fn,j.inl,j.im⟩;have K:fn.body=some (lz fn):=by
  unfold lz
  grind
 refine .inl ⟨O,?_⟩;have J:dl P {E with nt:=fn.ntmps} {F with nt:=fn.ntmps,sv:=a.tmps::F.sv}:=⟨⟨u.ty,u.bC⟩,rfl⟩;have hrel:aA {F with nt:=fn.ntmps,sv:=a.tmps::F.sv} G {tmps:=ry 0 vs,cj:=s.cj,sv:=(ts.map fun n=>(n,s.get n))::s.sv} {tmps:=xs.toArray++Array.replicate (fn.ntmps-xs.length) undef,defers:=[]} w:=by
  refine ⟨h.box,h.cF,h.dc,h.b7,h.bK,h.R,fun n=>?_,h.bQ,h.gq,rfl,?_,h.c1,fun i n=>?_,?_⟩;show VR (ax s.box G) w F.R ((lk (ry 0 vs) n).getD .un) _;rw [anK,ak (bM n),Nat.sub_zero];cases aa:vs[n]? with
  |none=>exact .inl rfl
  |some v=>
   obtain ⟨x,C,ai⟩:=W n v aa;have Y:=(bR.1 C).1;have:(xs.toArray++Array.replicate (fn.ntmps-xs.length) undef).getD n undef=x:=by
    rw [iB,Array.getElem?_append_left (by simpa using Y)];simp [C]
   simp_all
  simp_all;cases i with
  |zero=>
   show VR (ax s.box G) w F.R ((lk (ts.map fun n=>(n,s.get n)) n).getD .un) (a.tmps.getD n undef);rcases T4 (fun n=>s.get n) ts n with e|e
   rw [e];exact h.tmps n;rw [e];exact .inl rfl
  |succ i=>exact h.sv i n
  simp [h.j9]
 refine calls_of_wp U K ?_;have ae:xs.toArray.size=xs.length:=by simp
 rw [ae];refine wp_mono (Tl (Vx J I Z) n (lz fn) _ _ _ _ _ _ hrel c) fun e a' w' q=>?_
 have done:ch {F with nt:=fn.ntmps,sv:=a.tmps::F.sv} (fun s=>JG {E with nt:=fn.ntmps} rt fn k s) r a' w'→
  a'.defers=[]∧∃v,(results fn a'.tmps).run P w'=.ok v w'∧∃z y tv,aA F z y a w'∧VR (ax y.box z) w' F.R tv v∧k y tv=some r:=by
  rintro ⟨D,s2,b,hk⟩;unfold JG at hk;dsimp only at hk;split at hk;rotate_left;cases hk;rename_i l X;split at hk;rotate_left;cases hk;rename_i ac;obtain ⟨_,aj,g,d⟩:=VA (E:={E with nt:=fn.ntmps}) b u.ty _ _ l X;have g:=VD g;obtain ⟨b,d⟩:=alJ (E:={E with nt:=fn.ntmps}) b d;generalize uP {E with nt:=fn.ntmps} (l.map Prod.snd) s2=s2 at hk b d;split at hk;rotate_left;cases hk;rename_i t sv o;have ad:(t::sv).length=(a.tmps::F.sv).length:=by rw [←o];exact b.j9
  refine ⟨b.defers,_,g,D,{tmps:=t,cj:=s2.cj,sv:=sv},_,⟨b.box,b.cF,b.dc,b.b7,b.bK,b.R,fun n=>?_,b.bQ,b.gq,h.defers,h.nt,b.c1,fun i n=>?_,by simpa using ad⟩,aih d ac,hk⟩;have:=b.sv 0 n;unfold St.gy Fr.gy at this;rw [o] at this;exact this;have:=b.sv (i+1) n;unfold St.gy Fr.gy at this;rw [o] at this;exact this
 cases e with
 |normal=>exact done q
 |ret=>exact done q
 |exit id=>obtain ⟨G,s,_,hk⟩:=q;cases hk
 |_=>exact q.elim
end
def Ty.j7:Ty→Bool
 | .bG=>false
 | .slice t=>t.j7&& !(t.size==0)
 | .cons t r=>t.j7&&r.j7
 | .arr _ t=>t.j7
 |_=>true
def mV:(t:Ty)→t.ai→Prop
 | .int k,x=>(Lit.int k x).wf=true
 | .bP,x=>List.length (α:=UInt8) x≤reachBytes
 | .slice t,xs=>List.length (α:=t.ai) xs≤reachBytes∧∀x∈(show List t.ai from xs),mV t x
 | .cons t r,x=>mV t x.1∧mV r x.2
 | .arr _ t,xs=>∀x∈(show List t.ai from xs),mV t x
 |_,_=>True
theorem Lk {α β:Type} {f:α→Option β}:∀{l:List α} {r:List β},l.mapM f=some r→r.length=l.length∧∀(i:Nat) (x:α),l[i]?=some x→∃y,r[i]?=some y∧f x=some y:=by
 intro l
 induction l with
 |nil=>simp_all
 |cons a l e=>
  intro r h;rw [List.mapM_cons] at h;cases c:f a with
  |none=>rw [c] at h;cases h
  |some b=>
   rw [c] at h;cases d:l.mapM f with
   |none=>rw [d] at h;cases h
   |some g=>
    grind
theorem S0 {α:Type} {Q:Nat→α→Prop}:∀(n:Nat),(∀i,i<n→∃x,Q i x)→∃xs:List α,xs.length=n∧∀(i:Nat) (x:α),xs[i]?=some x→Q i x:=by
 intro n
 induction n with
 |zero=>simp_all
 |succ n c=>
  intro h;obtain ⟨xs,b,d⟩:=c (fun i hi=>h i (by omega));obtain ⟨y,f⟩:=h n (by omega);refine ⟨xs++[y],by simp [b],fun i x e=>?_⟩
  grind
theorem DS (a:Addr) (n:Nat):(a.add n).block=a.block:=by unfold Addr.add;split<;>rfl
theorem Q3 (a:Addr) (n:Nat):(a.add n).off=a.off+n:=by
 unfold Addr.add
 grind
theorem acf (a:Addr) (n:Nat) (h:a.spot=none):(a.add n).spot=none:=by
 unfold Addr.add
 grind
theorem ac1 {w:World} {a:Addr} {n:Nat} {cs:List Value} (h:w.cells? 0 a n=some cs) (u:n≠0):a.spot=none∧a.block<w.heap.size∧At w a.block a.off n cs:=by
 unfold World.cells? at h;rw [ak (bM _)] at h;obtain ⟨g,j⟩:=Lk h;rw [List.length_range] at g;have hi:∀i,i<n→∃y,cs[i]?=some y∧w.cell? (a.add i)=some y:=fun i hi=>j i i (by simp_all)
 obtain ⟨x,_,c⟩:=hi 0 (by omega);unfold World.cell? at c;split at c;rename_i row e fz b;split at c;cases c;rename_i d;have d:a.spot=none:=by
  have:(a.add 0).spot=a.spot:=rfl;simp_all
 have b:w.heap[a.block]?=some (.cells row e fz):=by rw [DS] at b;exact b
 have l:∀i,i<n→∃y,cs[i]?=some y∧row[a.off+i]?=some y:=by
  intro i o;obtain ⟨y,r,f⟩:=hi i o;refine ⟨y,r,?_⟩;unfold World.cell? at f;rw [DS,b,acf a i d,Q3] at f;simpa using f
 have q:a.off+n≤row.size:=by
  obtain ⟨y,_,v⟩:=l (n-1) (by omega)
  grind
 refine ⟨d,(pK.1 b).1,row,e,fz,b,q,?_⟩;apply lW
 grind
 cases c
section
variable {H:Type} {enc:TypeId×Value→H} {P:Program} {w:World}
abbrev below (w:World):Nat→Prop:=fun b=>b<w.heap.size
theorem YE {e:TypeId}:∀(l:List (DataW H)) (d:DataW H),d∈l→∀n∈d.weights P e,n∈DataW.weightsAll P e l:=by
 intro l
 induction l with
 |nil=>intro d h;cases h
 |cons a l c=>
  intro d h n b;simp only [DataW.weightsAll,aZ]
  grind
theorem ac3 {cs:List Value} {m:Nat}:∀(l:List (List Value)),cs.length=l.length*m→(∀(i:Nat) (c:List Value),l[i]?=some c→c=(cs.drop (i*m)).take m)→l.flatten=cs:=by
 intro l
 induction l generalizing cs with
 |nil=>simp_all
 |cons c l g=>
  intro h d;have b:=d 0 c rfl;simp at b;rw [k8];have f:(cs.drop m).length=l.length*m:=by
   rw [List.length_drop,h,hH,fP];omega
  rw [g (cs:=cs.drop m) f (fun i c' e=>by
   have:=d (i+1) c' (by simpa using e);rw [this,kb,fP,Nat.add_comm]),b,hJ]
theorem al9 {k:IntKind} {t:TypeId} (c:P.underlying t=some (.int k)) {b:Nat} {cs:List Value} {d:DataW H} {e:List MemPlace} (h:DataW.trod enc P w 0 (fun _=>true) true b t cs=some (d,e)):
 ∃n,cs=[.int k n]∧(Lit.int k n).wf=true:=by
 cases b with
 |zero=>cases h
 |succ b=>
  rcases cs with _|⟨v,_|⟨f,r⟩⟩
  simp [DataW.trod,c] at h;cases v<;>simp [DataW.trod,c] at h
  simp_all;simp [DataW.trod,c] at h
theorem al8 {t:TypeId} (e:P.underlying t=some .bool) {c:Nat} {cs:List Value} {d:DataW H} {f:List MemPlace} (h:DataW.trod enc P w 0 (fun _=>true) true c t cs=some (d,f)):
 ∃b,cs=[.bool b]:=by
 cases c with
 |zero=>cases h
 |succ c=>
  rcases cs with _|⟨v,_|⟨g,r⟩⟩
  simp [DataW.trod,e] at h;cases v<;>simp [DataW.trod,e] at h
  exact ⟨_,rfl⟩;simp [DataW.trod,e] at h
theorem amc {t:TypeId} (c:P.underlying t=some .string) {b:Nat} {cs:List Value} {d:DataW H} {e:List MemPlace} (h:DataW.trod enc P w 0 (fun _=>true) true b t cs=some (d,e)):
 ∃s,cs=[.string s]∧d=.lit (.string s.data.toList):=by
 cases b with
 |zero=>cases h
 |succ b=>
  rcases cs with _|⟨v,_|⟨f,r⟩⟩
  simp [DataW.trod,c] at h;cases v<;>simp [DataW.trod,c] at h
  simp_all;simp [DataW.trod,c] at h
theorem amb {t e:TypeId} (b:P.underlying t=some (.slice e)) {f:Nat} {cs:List Value} {d:DataW H} {q:List MemPlace} (h:DataW.trod enc P w 0 (fun _=>true) true f t cs=some (d,q)):
 cs=[.slice none 0 0]∨∃l a len cap c bo,cs=[.slice (some a) len cap]∧len≤cap∧
  ((List.range len).mapM fun i=>(w.cells? 0 (a.add (i*P.cellsOf e)) (P.cellsOf e)).bind (DataW.trod enc P w 0 (fun _=>true) true l e))=some c∧d=.slice (c.map (·.1)) bo:=by
 cases f with
 |zero=>cases h
 |succ f=>
  rcases cs with _|⟨v,_|⟨u,r⟩⟩
  simp [DataW.trod,b] at h;cases v with
  |slice a len cap=>
   cases a with
   |none=>
    left;cases len<;>cases cap<;>first|rfl|simp [DataW.trod,b] at h
   |some a=>
    right;unfold DataW.trod at h;rw [b] at h;simp only at h;split at h;rename_i o;rw [Option.bind_eq_some_iff] at h;obtain ⟨c,n,g⟩:=h;rw [Option.map_eq_some_iff] at g;obtain ⟨bo,_,j⟩:=g;simp only [aO] at j;exact ⟨f,a,len,cap,c,_,rfl,o.2.1,n,j.1.symm⟩;cases h
  |_=>simp [DataW.trod,b] at h
  simp [DataW.trod,b] at h
theorem Yc {t:TypeId} {c:Array Field} (n:P.underlying t=some (.struct c)) {b:Nat} {cs:List Value} {d:DataW H} {o:List MemPlace} (h:DataW.trod enc P w 0 (fun _=>true) true b t cs=some (d,o)):
 ∃g xs,cs.length=P.cellsOf t∧(c.toList.mapM fun f=>DataW.trod enc P w 0 (fun _=>true) true g f.type ((cs.drop f.offset).take (P.cellsOf f.type)))=some xs∧d=.agg (xs.map (·.1)):=by
 cases b with
 |zero=>cases h
 |succ b=>
  unfold DataW.trod at h;rw [n] at h;simp only at h;split at h;rename_i l;rw [Option.map_eq_some_iff] at h;obtain ⟨xs,j,e⟩:=h;simp only [aO] at e;exact ⟨b,xs,l,j,e.1.symm⟩;cases h
theorem al7 {t e:TypeId} {n:Nat} (l:P.underlying t=some (.array n e)) {b:Nat} {cs:List Value} {d:DataW H} {o:List MemPlace} (h:DataW.trod enc P w 0 (fun _=>true) true b t cs=some (d,o)):
 ∃f xs,cs.length=P.cellsOf t∧((List.range n).mapM fun i=>DataW.trod enc P w 0 (fun _=>true) true f e ((cs.drop (i*P.cellsOf e)).take (P.cellsOf e)))=some xs∧d=.agg (xs.map (·.1)):=by
 cases b with
 |zero=>cases h
 |succ b=>
  unfold DataW.trod at h;rw [l] at h;simp only at h;split at h;rename_i j;rw [Option.map_eq_some_iff] at h;obtain ⟨xs,g,c⟩:=h;simp only [aO] at c;exact ⟨b,xs,j,g,c.1.symm⟩;cases h
theorem ama (T:Ty):(∀(t:TypeId),bF P T t→T.j7=true→∀(g:Nat) (cs:List Value) (d:DataW H) (U:List MemPlace),DataW.trod enc P w 0 (fun _=>true) true g t cs=some (d,U)→
 (∀n∈d.weights P t,n≤reachBytes)→∃x:T.ai,Rd w (below w) T x cs∧mV T x)∧
 (∀(l:List Field) (o:Nat),cN P T l o=true→T.j7=true→∀(g:Nat) (cs:List Value) (xs:List (DataW H×List MemPlace)),
  (l.mapM fun f=>DataW.trod enc P w 0 (fun _=>true) true g f.type ((cs.drop f.offset).take (P.cellsOf f.type)))=some xs→(∀n∈DataW.weightsEach P (l.map (·.type)) (xs.map (·.1)),n≤reachBytes)→
  o+T.size≤cs.length→∃x:T.ai,Rd w (below w) T x ((cs.drop o).take T.size)∧mV T x):=by
 have ad:∀(T:Ty) (t:TypeId),bF P T t→P.cellsOf t=T.size:=by
  intro T t h;obtain ⟨i,hi,q,_⟩:=h.hb;unfold Program.cellsOf;rw [hi];exact q
 have ar:reachBytes≤eZ:=by decide
 induction T with
 |int k=>
  refine ⟨fun t D _ g cs d U h _=>?_,fun l o h=>by cases l<;>simp [cN] at h⟩;have j:P.underlying t=some (.int k):=by
   have I:=D;simp only [bF,dS,bp] at I
   grind
  obtain ⟨n,rfl,u⟩:=al9 j h;exact ⟨(n:Int),⟨rfl,trivial,rfl⟩,u⟩
 |bool=>
  refine ⟨fun t D _ g cs d U h _=>?_,fun l o h=>by cases l<;>simp [cN] at h⟩;have j:P.underlying t=some .bool:=by
   have I:=D;simp only [bF,dS,bp] at I
   grind
  obtain ⟨b,rfl⟩:=al8 j h;exact ⟨(b:Bool),⟨rfl,trivial,rfl⟩,trivial⟩
 |bP=>
  refine ⟨fun t D _ g cs d U h u=>?_,fun l o h=>by cases l<;>simp [cN] at h⟩;obtain ⟨s,rfl,rfl⟩:=amc D.bP h;have W:s.data.toList.length≤reachBytes:=u _ (by simp [DataW.weights]);refine ⟨s.data.toList,⟨rfl,Nat.le_trans W ar,?_⟩,W⟩;simp only [bE]
 |bG=>exact ⟨fun t D q=>by simp [Ty.j7] at q,fun l o h=>by cases l<;>simp [cN] at h⟩
 |slice T al=>
  refine ⟨fun t D q g cs d U h u=>?_,fun l o h=>by cases l<;>simp [cN] at h⟩;simp only [Ty.j7,bp,hn,h7] at q;obtain ⟨e,j,aa⟩:=D.slice;rcases amb j h with rfl|⟨Y,J,len,cap,ao,bo,rfl,aH,C,rfl⟩
  exact ⟨([]:List T.ai),⟨none,0,rfl,⟨cf _,bM _⟩,fun au=>absurd rfl au⟩,bM _,fun x O=>by cases O⟩;obtain ⟨v,K⟩:=Lk C;rw [List.length_range] at v;obtain ⟨aJ,a2,aI,a0⟩:=aa.bytes q.2;have a1:1≤P.bytesOf e:=by unfold Program.bytesOf;rw [a2];exact a0
  have ab:len≤reachBytes:=by
   have:=u ((ao.map (·.1)).length+bo.length|>(· *P.bytesOf e)) (by simp [DataW.weights,j]);simp only [c2,v] at this;have Z:(len+bo.length)*1≤(len+bo.length)*P.bytesOf e:=Nat.mul_le_mul_left _ a1;omega
  have a5:∀n∈DataW.weightsAll P e (ao.map (·.1)),n≤reachBytes:=fun n ac=>u n (by simp only [DataW.weights,j];simp_all)
  rw [ad T e aa] at K;have key:∀i,i<len→∃x:T.ai,(∃c,(i=0→J.spot=none)∧J.block<w.heap.size∧At w J.block (J.off+i*T.size) T.size c∧Rd w (below w) T x c)∧mV T x:=by
   intro i hi;obtain ⟨y,ae,X⟩:=K i i (by simp_all);rw [Option.bind_eq_some_iff] at X;obtain ⟨c,a8,a9⟩:=X;obtain ⟨aj,af,a3⟩:=ac1 a8 q.2;obtain ⟨x,ak,an⟩:=al.1 e aa q.1 Y c y.1 y.2 a9 (fun n ac=>a5 n (YE _ y.1 (b9.2 ⟨y,cS ae,rfl⟩) n ac));rw [DS] at af;rw [DS,Q3] at a3;exact ⟨x,⟨c,fun e=>by subst e;rw [Nat.zero_mul] at aj;simpa [Addr.add] using aj,af,a3,ak⟩,an⟩
  obtain ⟨xs,am,aC⟩:=S0 len key;refine ⟨xs,⟨some J,cap,by rw [←am],⟨by omega,Nat.le_trans (Nat.le_of_eq am) (Nat.le_trans ab ar)⟩,fun au=>?_⟩,Nat.le_trans (Nat.le_of_eq am) ab,fun x O=>?_⟩;have az:0<len:=by
   grind
  obtain ⟨_,⟨_,aj,af,_⟩,_⟩:=key 0 az;refine ⟨J.block,J.off,?_,af,fun i x O=>?_⟩;obtain ⟨b,o,sp⟩:=J;simp_all;simp_all;obtain ⟨i,hi⟩:=oo.1 O;exact (aC i x hi).2
 |unit=>
  refine ⟨fun t D _ g cs d U h _=>?_,fun l o h _ g cs xs C _ _=>⟨(),⟨rfl,trivial,by simp [Ty.size,bE]⟩,trivial⟩⟩;have I:=D;simp only [bF,dS,bp] at I;obtain ⟨_,j⟩:=I;split at j;rename_i ay ag;obtain ⟨Y,xs,v,_⟩:=Yc ag h;rw [ad _ _ D] at v;have:cs=[]:=hI.1 v;subst this;exact ⟨(),⟨rfl,trivial,rfl⟩,trivial⟩;cases j
 |cons a r a6 a7=>
  have fields:∀(f:Field) (l:List Field) (o:Nat),f.offset=o→bF P a f.type→cN P r l (o+a.size)=true→a.j7=true→r.j7=true→∀(g:Nat) (cs:List Value) (xs:List (DataW H×List MemPlace)),
   ((f::l).mapM fun f=>DataW.trod enc P w 0 (fun _=>true) true g f.type ((cs.drop f.offset).take (P.cellsOf f.type)))=some xs→(∀n∈DataW.weightsEach P ((f::l).map (·.type)) (xs.map (·.1)),n≤reachBytes)→
   o+(Ty.cons a r).size≤cs.length→∃x:(Ty.cons a r).ai,Rd w (below w) (Ty.cons a r) x ((cs.drop o).take (Ty.cons a r).size)∧mV (Ty.cons a r) x:=by
   intro f l o a4 ap W aB sr g cs xs C u ab;rw [List.mapM_cons] at C;cases v:DataW.trod enc P w 0 (fun _=>true) true g f.type ((cs.drop f.offset).take (P.cellsOf f.type)) with
   |none=>rw [v] at C;cases C
   |some y=>
    rw [v] at C;cases K:(l.mapM fun f=>DataW.trod enc P w 0 (fun _=>true) true g f.type ((cs.drop f.offset).take (P.cellsOf f.type))) with
    |none=>rw [K] at C;cases C
    |some ah=>
     rw [K] at C;have C:some (y::ah)=some xs:=C;obtain rfl:=bk C;simp only [dh,DataW.weightsEach,aZ] at u;rw [ad _ _ ap,a4] at v;obtain ⟨x,av,aw⟩:=a6.1 _ ap aB g _ y.1 y.2 v (fun n ac=>u n (.inl ac));simp only [Ty.size] at ab;obtain ⟨z,aA,w2⟩:=a7.2 l (o+a.size) W sr g cs ah K (fun n ac=>u n (.inr ac)) (by omega);refine ⟨(x,z),⟨_,_,?_,av,aA⟩,aw,w2⟩;simp only [Ty.size];rw [←kb,List.take_add]
  refine ⟨fun t D q g cs d U h u=>?_,fun l o h q g cs xs C u ab=>?_⟩;simp only [Ty.j7,bp] at q;have I:=D;simp only [bF,dS,bp] at I;obtain ⟨_,j⟩:=I;split at j;rename_i ay ag;split at j;rename_i f l W;simp only [bp,ff] at j;obtain ⟨⟨⟨⟨v,_⟩,_⟩,Z⟩,h4⟩:=j;obtain ⟨Y,xs,ae,X,rfl⟩:=Yc ag h;rw [W] at X;rw [ad _ _ D] at ae;simp only [DataW.weights,ag,W] at u;obtain ⟨x,av,aw⟩:=fields f l 0 v Z (by simp_all) q.1 q.2 Y cs xs X u (by omega)
  grind
  cases j;cases j;simp only [Ty.j7,bp] at q;cases l with
  |nil=>simp [cN] at h
  |cons f l=>
   simp only [cN,bp,ff] at h;obtain ⟨⟨⟨⟨v,_⟩,_⟩,Z⟩,h4⟩:=h;exact fields f l o v Z h4 q.1 q.2 g cs xs C u ab
 |arr n T al=>
  refine ⟨fun t D q g cs d U h u=>?_,fun l o h=>by cases l<;>simp [cN] at h⟩;simp only [Ty.j7] at q;obtain ⟨e,j,aa,aq⟩:=D.arr;obtain ⟨Y,xs,v,K,rfl⟩:=al7 j h;rw [ad _ _ D] at v;obtain ⟨Z,h4⟩:=Lk K;rw [List.length_range] at Z;simp only [DataW.weights,j] at u;rw [ad T e aa] at h4;have key:∀i,i<n→∃x:T.ai,dm T x∧bE T x=(cs.drop (i*T.size)).take T.size∧mV T x:=by
   intro i hi;obtain ⟨y,ae,X⟩:=h4 i i (by simp_all);obtain ⟨x,ak,an⟩:=al.1 e aa q Y _ y.1 y.2 X (fun m C=>u m (YE _ y.1 (b9.2 ⟨y,cS ae,rfl⟩) m C));obtain ⟨aE,aF⟩:=Rd.aQ aq ak
   grind
  obtain ⟨ah,aD,ax⟩:=S0 n key;refine ⟨ah,⟨aq,⟨aD,fun x O=>?_⟩,?_⟩,fun x O=>?_⟩;obtain ⟨i,hi⟩:=oo.1 O;exact (ax i x hi).1;rw [adT];refine (ac3 (m:=T.size) _ ?_ (fun i c aG=>?_)).symm;rw [c2,v];simp only [Ty.size];simp_all
  grind
  obtain ⟨i,hi⟩:=oo.1 O;exact (ax i x hi).2.2
end
end Go.TM
namespace Go.TM
open Go.ChangeShapes Go.WideShapes Go.RowKit Go.ChangeMaps
section
variable {H:Type} {enc:TypeId×Value→H} {P:Program} {w:World}
def Dj:List Ty→List D→Prop
 |[],[]=>True
 |T::b,d::ds=>(∃x:T.ai,d=⟨T,x⟩∧mV T x)∧Dj b ds
 |_,_=>False
def LP (P:Program) (T:Ty) (t:TypeId):Bool:=dS P T t&&T.j7&&P.readableRec t&&decide (t<P.types.size)
def mJ (P:Program):List Ty→List TypeId→Bool
 |[],[]=>true
 |T::b,t::ts=>LP P T t&&mJ P b ts
 |_,_=>false
theorem ann {T:Ty} {t:TypeId} (g:bF P T t) {r:Reach} {b:Nat} {v:Value} (f:Value.okWide P w r b t v) {x:T.ai} (z:Rd w (below w) T x v.cells.toList):VR A0 w (below w) (.ad T x) v:=by
 refine dH (cs:=v.cells.toList) z ?_;have I:=g.row;obtain ⟨d,C,y⟩:=I;show if T.agg then v=.agg v.cells.toList.toArray else v.cells.toList=[v]
 cases u:T.agg with
 |true=>
  rw [ak rfl];rw [u] at y;unfold Value.okWide at f;rw [C] at f;cases d<;>simp [TypeDesc.isRow] at y
  all_goals
   obtain ⟨cs,rfl,_⟩:=f;simp [Value.cells]
 |false=>
  rw [aj (by simp)];have fin:(∀cs,v≠ .agg cs)→v.cells.toList=[v]:=by
   intro h;cases v<;>first|rfl|exact absurd rfl (h _)
  apply fin;rintro cs rfl;cases T with
  |int k=>
   have j:=g;simp only [bF,dS,bp] at j;obtain ⟨_,o⟩:=j;split at o;rename_i k' q;obtain ⟨n,e⟩:=okWide_int q f;cases e;cases o
  |bool=>
   have j:=g;simp only [bF,dS,bp] at j;obtain ⟨_,o⟩:=j;split at o;rename_i q;obtain ⟨n,e⟩:=okWide_bool q f;cases e;cases o
  |bP=>obtain ⟨n,e⟩:=okWide_string g.bP f;cases e
  |slice T=>obtain ⟨e,D,_⟩:=g.slice;obtain ⟨a,l,c,e⟩:=okWide_slice D f;cases e
  |bG=>exact z.elim
  |_=>simp [Ty.agg] at u
theorem acu:∀(c:List Ty) (ts:List TypeId) (vs:List Value) (ds:List (DataW H)) (z:List MemPlace),mJ P c ts=true→DataW.TrodAll enc P w 0 (fun _=>true) true ts vs ds z→
 (∀n∈DataW.weightsEach P ts ds,n≤reachBytes)→(∀(j:Nat) t v,ts[j]?=some t→vs[j]?=some v→∃r b,Value.okWide P w r b t v)→
 ∃e g,Dj c e∧l1 w (below w) (c.map .ro) e vs g∧bT g=[]∧ds.length=c.length:=by
 intro c
 induction c with
 |nil=>
  intro ts vs ds z f h _ _;cases ts with
  |nil=>
   obtain ⟨rfl,rfl,rfl⟩:=trodAll_nil h;exact ⟨[],[],trivial,trivial,rfl,rfl⟩
  |cons _ _=>simp [mJ] at f
 |cons T c X=>
  intro ts vs ds z f h y C;cases ts with
  |nil=>simp [mJ] at f
  |cons t ts=>
   simp only [mJ,LP,bp,kG] at f;obtain ⟨⟨⟨⟨D,Y⟩,ad⟩,p4⟩,Z⟩:=f;obtain ⟨v,vs,d,ds,p,q,rfl,rfl,rfl,l,o⟩:=trodAll_cons h;simp only [DataW.weightsEach,aZ] at y;obtain ⟨K,O⟩:=l;obtain ⟨x,W,ac⟩:=(ama T).1 t D Y K _ d p O (fun n u=>y n (.inl u));obtain ⟨r,b,U⟩:=C 0 t v rfl rfl;obtain ⟨e,g,I,J,a3,a4⟩:=X ts vs ds q Z o (fun n u=>y n (.inr u)) (fun j aa ab l o=>C (j+1) aa ab (by simpa using l) (by simpa using o));refine ⟨⟨T,x⟩::e,⟨none,.leaf⟩::g,⟨⟨x,rfl,ac⟩,I⟩,⟨[⟨T,x⟩],e,rfl,⟨rfl,rfl,ann D U W⟩,J⟩,by simp [bT,Gh.ae,FT.ae] at a3⊢;exact a3,by simp [a4]⟩
theorem alz {j:World} (y:laidOutB P=true) (r:∀b,b<w.heap.size→j.heap[b]?=w.heap[b]?):∀(e:List Ty) (ts:List TypeId) (vs:List Value) (ds:List (DataW H)) (g:List MemPlace),mJ P e ts=true→DataW.TrodAll enc P w 0 (fun _=>true) true ts vs ds g→
 DataW.TrodAll enc P j 0 (fun b=>decide (b<w.heap.size)) true ts vs ds g:=by
 intro e
 induction e with
 |nil=>
  intro ts vs ds g c h;cases ts with
  |nil=>obtain ⟨rfl,rfl,rfl⟩:=trodAll_nil h;exact trodAll_mk0
  |cons _ _=>simp [mJ] at c
 |cons T e C=>
  intro ts vs ds g c h;cases ts with
  |nil=>simp [mJ] at c
  |cons t ts=>
   simp only [mJ,LP,bp,kG] at c;obtain ⟨⟨⟨⟨J,K⟩,D⟩,p4⟩,I⟩:=c;obtain ⟨v,vs,d,ds,p,q,rfl,rfl,rfl,n,u⟩:=trodAll_cons h;have l:∀x∈p,x.block<w.heap.size:=by obtain ⟨m,z⟩:=n;exact DataW.trod_lt m _ _ _ z
   refine trodAll_cons_mk (WideElems.Trod_stays y D p4 n (fun x f=>?_) (fun x f=>by simpa using l x f)) (C ts vs ds q I u);cases x with
   |cell b o=>
    have:=r b (l _ f);show j.cell? ⟨b,o,none⟩=w.cell? ⟨b,o,none⟩;unfold World.cell?;rw [this]
   |map b=>exact r b (l _ f)
theorem adj {f:FuncId} {fn:Func} {s:ChangeSpec} {c:List Ty} {h:{ρ:Type}→List D→(List D→List D→Option ρ)→Option ρ} (ah:aN P f ⟨c.map .ro,[.bool],h⟩) (ar:∀args w,(callFunc f args).run P w=.ok (.enter f args) w) (aa:∀ds,Dj c ds→aB.g ⟨c.map .ro,[.bool],h⟩ ds=some ([⟨.bool,true⟩],[]))
 (O:s.vars=[]) (aj:s.plain.varTypes P=[]) (r:∀ds:List (DataW H),ds.length=c.length→s.fn H ds={results:=[.lit (.bool true)],args:=ds})
 (K:mJ P c fn.params.toList=true) {tb:TypeId} (ae:fn.resultTypes= #[tb]) (ag:P.underlying tb=some .bool) (ab:laidOutB P=true) {dc eH handsOn:Bool}
 (W:World) (bg:Nat) (args:Array Value) (ds u:List (DataW H)) (before:List MemPlace)
 (ai:∀(j:Nat) t v,fn.params[j]?=some t→args[j]?=some v→Value.okWide P W .any bg t v)
 (C:DataW.Whole enc P fn.params.toList s.vars dc W args.toList ds u before)
 (af:(DataW.weightsEach P (fn.params.toList++s.plain.varTypes P) (ds++u)).all (· ≤reachBytes)=true):
 Calls P f args W fun e o=>∃v,e=.returned v∧s.post enc P fn dc eH handsOn false W args v o:=by
 have Y:=C;obtain ⟨p,q,y,z,rfl,au,aw⟩:=C;rw [O] at z;obtain ⟨rfl,rfl⟩:=trodVars_none z;rw [aj,eF,eF] at af;have al:∀n∈DataW.weightsEach P fn.params.toList ds,n≤reachBytes:=fun n av=>by simp_all
 obtain ⟨l,x,U,X,a3,a4⟩:=acu c fn.params.toList args.toList ds p K y al (fun j t v ap aq=>⟨.any,bg,ai j t v (by simp_all) (by simp_all)⟩);have ad:xo W (below W) ⟨c.map .ro,[.bool],h⟩ l args.toList x:=⟨X,by simp_all,fun b d=>(by rw [a3] at d;cases d),fun b d=>d⟩;rcases ah.SU W (below W) l args.toList x _ _ ad (aa l U) with ⟨_,I⟩|⟨v,w',ax,_⟩
 rotate_left;simp_all;rw [Array.toArray_toList] at I;refine I.mono fun e o J=>?_
 cases e with
 |returned v=>
  obtain ⟨an,ao,D⟩:=J;have Z:∀b,b<W.heap.size→o.heap[b]?=W.heap[b]?:=fun b d=>D.bQ b d (by simp_all)
  have ak:v=.bool true:=by
   obtain ⟨f,_,cs,ac,am⟩:=D.dg;obtain ⟨_,_,_,rfl⟩:=ac;simpa [Ty.agg,bE] using am.symm
  subst ak;refine ⟨_,rfl,ds,[],p++[],[],p,[],Y,?_,?_,?_,⟨D.gq.os,D.gq.output,fun i hi=>?_⟩,fun h=>by cases h⟩;rw [eF,r ds a4,ae];exact trodAll_mk1 (shut_bool ag _);rw [eF,r ds a4];exact alz ab Z c _ _ ds p K y;rw [eF,r ds a4,O];exact rfl
  grind
 |_=>exact J.elim
end
end Go.TM
namespace Go.TM
def nb:List Nat→List Nat→Bool
 |[],[]=>true
 |a::l,b::m=>match Nat.beq a b with
  |true=>nb l m
  |false=>false
 |_,_=>false
def EH:List (Nat×List Nat×aB)→Nat→List Nat→Option aB
 |[],_,_=>none
 |(k,b,c)::r,n,ids=>match Nat.beq k n with
  |true=>match nb b ids with
   |true=>some c
   |false=>EH r n ids
  |false=>EH r n ids
def aG (ty:List (Nat×Ty)) (cs:List (Nat×List Nat×aB)) (eg:List (Nat×nj)):ao:=
 {nt:=0,ty:=ty,fn:=fun f ids=>EH cs f ids,eg:=eg}
theorem adG (P:Program) (ty:List (Nat×Ty)) (eg:List (Nat×nj)):fs P (aG ty [] eg):=⟨fun f ids c h=>(by cases h),fun f ids I h=>(by cases h),fun f ids I h=>(by cases h)⟩
theorem adF {P:Program} {ty:List (Nat×Ty)} {eg:List (Nat×nj)} {f:Nat} {l:List Nat} {c:aB} {cs:List (Nat×List Nat×aB)} (h:aN P f c) (j:fs P (aG ty cs eg)):fs P (aG ty ((f,l,c)::cs) eg):=by
 refine ⟨?_,fun f ids I h=>(by cases h),fun f ids I h=>(by cases h)⟩;intro g ids d b;simp only [aG,EH] at b;split at b;rename_i e;split at b;simp_all;exact j.fn g ids d b;exact j.fn g ids d b
def EI:List (Nat×List Nat×dK)→Nat→List Nat→Option dK
 |[],_,_=>none
 |(k,b,c)::r,n,ids=>match Nat.beq k n with
  |true=>match nb b ids with
   |true=>some c
   |false=>EI r n ids
  |false=>EI r n ids
def eE (E:ao) (fL:Nat) (l:List (Nat×List Nat×dK)):ao:={E with fL:=fL,inl:=fun f ids=>EI l f ids}
theorem fx {P:Program} {E:ao} {o:Nat} (h:fs P E):fs P (eE E o []):=⟨h.fn,fun f ids I h=>(by cases h),fun f ids I h=>(by cases h)⟩
theorem cU {P:Program} {E:ao} {o:Nat} {f:Nat} {l:List Nat} {c:dK} {cs:List (Nat×List Nat×dK)} (h:eG P f c) (j:fs P (eE E o cs)) (hi:c.im=true→c.r1:=by intro h;cases h):fs P (eE E o ((f,l,c)::cs)):=by
 have key:∀g ids d,(eE E o ((f,l,c)::cs)).inl g ids=some d→eG P g d∧(d.im=true→d.r1):=by
  intro g ids d b;simp only [eE,EI] at b;split at b;rename_i e;split at b;simp_all;exact ⟨j.inl g ids d b,j.im g ids d b⟩;exact ⟨j.inl g ids d b,j.im g ids d b⟩
 exact ⟨j.fn,fun g ids d b=>(key g ids d b).1,fun g ids d b=>(key g ids d b).2⟩
def y6 (E:ao) (l:List (Nat×Ty)):ao:={E with bC:=l}
def pJ (E:ao) (l:List Nat):ao:={E with yN:=l}
theorem Ku {P:Program} {E:ao} {l:List (Nat×Ty)} (h:fs P E):fs P (y6 E l):=⟨h.fn,h.inl,h.im⟩
theorem tT {P:Program} {E:ao} {l:List Nat} (h:fs P E):fs P (pJ E l):=⟨h.fn,h.inl,h.im⟩
theorem uS {P:Program} {E:ao} {l:List Nat} (h:mc P E):mc P (pJ E l):=⟨h.ty,h.bC⟩
theorem MX {P:Program} {E:ao} {l:List (Nat×Ty)} (h:mc P E) (c:l.all (fun x=>pk P x.2 x.1)=true):mc P (y6 E l):=by
 refine ⟨h.ty,fun t K b=>?_⟩;replace b:lk l t=some K:=b
 induction l with
 |nil=>cases b
 |cons x l d=>
  obtain ⟨k,v⟩:=x;simp only [List.all_cons,bp] at c;rw [gK] at b
  grind
theorem Yg {P:Program} {b:List (Nat×Ty)} (h:b.all (fun x=>dS P x.2 x.1)=true) {cs:List (Nat×List Nat×aB)} {eg:List (Nat×nj)}:∀t T,(aG b cs eg).jh t=some T→bF P T t:=by
 intro t T c;have:∀l:List (Nat×Ty),l.all (fun x=>dS P x.2 x.1)=true→lk l t=some T→dS P T t=true:=by
  intro l
  induction l with
  |nil=>intro _ h;cases h
  |cons x l f=>
   intro d e;obtain ⟨k,v⟩:=x;simp only [List.all_cons,bp] at d;rw [gK] at e
   grind
 exact this b h c
def lE:Code→List Code
 | .seq a b=>lE a++lE b
 | .cond _ a b=>lE a++lE b
 | .block _ c=>lE c
 | .loop c=>c::lE c
 |_=>[]
def pc (d:Nat):Code→Bool
 | .region id _ _=>Nat.beq id d
 | .seq a b=>pc d a||pc d b
 | .cond _ a b=>pc d a||pc d b
 | .block _ c=>pc d c
 | .loop c=>pc d c
 |_=>false
def yd (fn:Func) (n:Nat):Code:=
 match fn.body with
 |some c=>(lE c).getD n .skip
 |none=>.skip
section
variable {ρ:Type}
def nC (E:ao) (n:Nat):Code→Nat→List Nat→(Ex→St→Option ρ)→(Ex→St→Option ρ)
 | .seq a b,i,d,k=>if Nat.blt i (lE a).length then nC E n a i d (fun e f=>match e with
  | .normal=>jW E (gp b+2000000) f (hx E n b k)
  |e=>k e f) else nC E n b (i-(lE a).length) d k
 | .cond _ a b,i,d,k=>if Nat.blt i (lE a).length then nC E n a i d k else nC E n b (i-(lE a).length) d k
 | .block id c,i,d,k=>nC E n c i d (fun e f=>match e with
  | .exit j=>if Nat.beq j id then k .normal f else k (.exit j) f
  |e=>k e f)
 | .loop c,0,_,k=>k
 | .loop c,i+1,d,k=>nC E n c i d.tail (fun e f=>match e with
  | .normal=>jW E (gp c) f (um (hx E n c) (jW E (gp c)) (nH E (gp c) k) (d.headD 0))
  |e=>nH E (gp c) k e f)
 |_,_,_,k=>k
def o5 (E:ao) (n:Nat):Code→Nat→Nat→List Nat→(Ex→St→Option ρ)→St→Option ρ
 | .region _ ops h,_,j,_,k,s=>match h with
  |false=>kY E ops (k .normal) (ops.toList.drop j) s
  |true=>mn E (kR ops.toList) (k .normal) (((kR ops.toList).zip (jP (kR ops.toList))).drop j) s
 | .seq a b,d,j,f,k,s=>match pc d a with
  |true=>o5 E n a d j f (fun e g=>match e with
   | .normal=>jW E (gp b+2000000) g (hx E n b k)
   |e=>k e g) s
  |false=>o5 E n b d j f k s
 | .cond _ a b,d,j,f,k,s=>match pc d a with
  |true=>o5 E n a d j f k s
  |false=>o5 E n b d j f k s
 | .block id c,d,j,f,k,s=>o5 E n c d j f (fun e g=>match e with
  | .exit i=>if Nat.beq i id then k .normal g else k (.exit i) g
  |e=>k e g) s
 | .loop c,d,j,f,k,s=>o5 E n c d j f.tail (fun e g=>match e with
  | .normal=>jW E (gp c) g (um (hx E n c) (jW E (gp c)) (nH E (gp c) k) (f.headD 0))
  |e=>nH E (gp c) k e g) s
 |_,_,_,_,_,_=>none
def nE (E:ao) (fn:Func):ao:={E with nt:=fn.ntmps}
noncomputable def lr (E:ao) (n:Nat) (fn:Func) (b j:Nat) (dst:Option Nat) (k:Ex→St→Option ρ):St→TV→Option ρ:=fun s v=>
 o5 (nE E fn) n (lz fn) b (j+1) [] k (match dst with
  |some d=>s.put d v
  |none=>s)
def xB (E:ao) (n:Nat) (fn:Func) (i m b j:Nat) (dst:Option Nat) (k:Ex→St→Option ρ):St→TV→Option ρ:=fun s v=>
 o5 (nE E fn) n (.loop (yd fn i)) b (j+1) [m] k (match dst with
  |some d=>s.put d v
  |none=>s)
noncomputable def mj (E:ao) (n:Nat) (rt:List Ty) (fn:Func) (i:Nat) (k:St→TV→Option ρ):Ex→St→Option ρ:=nC (nE E fn) n (lz fn) i [] (nF (nE E fn) rt fn k)
noncomputable def a8 (ρ:Type) (E:ao) (fn:Func) (n:Nat) (i:Nat) (m:Nat) (k:Ex→St→Option ρ) (s:St):Option ρ:=
 um (hx {E with nt:=fn.ntmps} n (yd fn i)) (jW {E with nt:=fn.ntmps} (gp (yd fn i))) (nH {E with nt:=fn.ntmps} (gp (yd fn i)) k) m s
noncomputable def bB (E:ao) (n:Nat) (b:List PM) (rt:List Ty) (fn:Func) (i:Nat):Ex→St→Option (kM rt×kM (lG b)):=
 nC {E with nt:=fn.ntmps} n (lz fn) i [] (tS {E with nt:=fn.ntmps} b rt fn (qL b rt))
noncomputable def fw {ρ:Type} (E:ao) (n:Nat) (fn:Func) (j i:Nat) (m:Nat) (k:Ex→St→Option ρ):Ex→St→Option ρ:=
 nC {E with nt:=fn.ntmps} n (.loop (yd fn j)) (i-j) [m] k
end
theorem ud {ρ:Type} {n m:Nat} (h:m<n) (k:Nat→Option ρ):gJ n (m:Int) k=k m:=by
 show (match Nat.blt m n with|true=>k m|false=>none)=_;have:Nat.blt m n=true:=by simp_all
 rw [this]
section
variable {α ρ:Type}
def wi (x:Int):Int:=IntKind.i64.wrap x
def ln (l:List α):Int:=(l.length:Int)
noncomputable def gn (l:List α) (j:Nat) (k:α→Option ρ):Option ρ:=match iV l j with
 |some x=>k x
 |none=>none
noncomputable def gi (l:List α) (i:Int) (k:α→Option ρ):Option ρ:=match pb l i with
 |some x=>k x
 |none=>none
noncomputable def ix (l:List α) (i:Int) (k:Nat→Option ρ):Option ρ:=gJ l.length i k
noncomputable def cl (x:Option α) (k:α→Option ρ):Option ρ:=match x with
 |none=>none
 |some v=>k v
noncomputable def gd (c:Bool) (k:Option ρ):Option ρ:=match c with
 |true=>k
 |false=>none
def mG (e f:Int) (k:Nat→Option ρ):Option ρ:=match e,f with
 | .ofNat p,.ofNat q=>if Nat.beq p q&&Nat.ble p bu&&true then k p else none
 |_,_=>none
end
instance anN (k:IntKind) (n:Nat):OfNat (Ty.ai (.int k)) n:=inferInstanceAs (OfNat Int n)
instance anO (k:IntKind):Neg (Ty.ai (.int k)):=inferInstanceAs (Neg Int)
noncomputable def di (x:Int):TV:=.ad (.int .i64) x
noncomputable def db (x:Bool):TV:=.ad .bool x
noncomputable def bs (t:Ty) (x:List t.ai):bl:=⟨.slice t,true,false,.ab (.slice t) x⟩
noncomputable def bv (t:Ty) (c:TV):bl:=⟨t,false,false,c⟩
abbrev KT (ρ:Type):=Ex→St→Option ρ
abbrev LI:=List Int
abbrev bh:=List (List Int)
abbrev LO:=List Bool
section
variable {F:Fr} {G:Nat→Gh} {s:St} {a:Act} {w w2:World}
theorem bH.bI {A A':bY} {w:World} {R:Nat→Prop}:∀(v:TV) (cs:List Value),v.aF=[]→bH A w R v cs→bH A' w R v cs
 | .ad t x,cs,_,h=>h
 | .nil,_,_,h=>h
 | .unit,_,_,h=>h
 | .un,_,_,h=>h
 | .tup _,_,_,h=>h
 | .ab _ _,_,_,h=>h
 | .cons a r,cs,c,h=>by
  simp only [TV.aF,zb] at c;obtain ⟨e,g,rfl,d,l⟩:=h;exact ⟨e,g,rfl,bH.bI a e c.1 d,bH.bI r g c.2 l⟩
 | .ref b p,cs,c,_=>by simp [TV.aF] at c
 | .sl b p,cs,c,_=>by simp [TV.aF] at c
 | .slw b p lo n,cs,c,_=>by simp [TV.aF] at c
 | .bw t x,cs,_,h=>h
 | .mp b,cs,c,_=>by simp [TV.aF] at c
 | .bV f j,cs,c,h=>by
  obtain ⟨vs,d,rfl⟩:=h;exact ⟨vs,bH.bI j vs (by simpa [TV.aF] using c) d,rfl⟩
theorem aW.bI {A A':bY} {w:World} {R:Nat→Prop}:∀(c:TV) (t:Ty) (ft:FT) (cs:List Value),c.aF=[]→aW A w R c t ft cs→aW A' w R c t ft cs:=by
 intro c
 induction c with
 |ab u x=>intro t ft cs _ h;exact h
 |ad u x=>intro t ft cs _ h;exact h
 |cons a d v y=>
  intro t ft cs e h;cases t<;>try exact h.elim
  simp only [TV.aF,zb] at e;obtain ⟨o,j,l,rfl,r,g,q⟩:=h;exact ⟨o,j,l,rfl,r,v _ _ _ e.1 g,y _ _ _ e.2 q⟩
 |unit=>intro t ft cs _ h;exact h
 |un=>intro t ft cs _ h;exact h
 |tup c _=>
  intro t ft cs _ h;cases t<;>try exact h.elim
  rcases gk.out h with ⟨xs,z,rfl,g⟩|⟨xs,rfl,g⟩|⟨xs,rfl,g⟩<;>exact ⟨rfl,g⟩
 |nil=>intro t ft cs _ h;exact h
 |ref b p=>intro t ft cs e _;simp [TV.aF] at e
 |sl b p=>intro t ft cs e _;simp [TV.aF] at e
 |slw b p lo n=>intro t ft cs e _;simp [TV.aF] at e
 |bw u x=>intro t ft cs _ h;exact h
 |mp b=>intro t ft cs e _;simp [TV.aF] at e
 |bV f c _=>intro t ft cs e h;exact ⟨h.1,h.2.1,h.2.2.1,bH.bI _ _ e h.2.2.2⟩
theorem ae1 {b:Nat} {p:aI}:∀(c:TV),c.aF=[]→c.aw b p=c:=by
 intro c
 induction c with
 |cons a d g j=>
  intro h;simp only [TV.aF,zb] at h;simp only [TV.aw];rw [g h.1,j h.2]
 |tup c e=>intro h;simp only [TV.aw];rw [e h]
 |bV f c e=>intro h;simp only [TV.aw];rw [e h]
 |ref b p=>intro h;simp [TV.aF] at h
 |sl b p=>intro h;simp [TV.aF] at h
 |slw b p lo n=>intro h;simp [TV.aF] at h
 |mp b=>intro h;simp [TV.aF] at h
 |_=>intro _;rfl
theorem acA (h:aA F G s a w) {b:Nat} {bx:bl} (g:s.box b=some bx) (n:bx.cm=false) (Z:gj w w2) (r:∀b,F.R b→w2.heap[b]?=w.heap[b]?)
 (C:∀j y,j≠b→s.box j=some y→∀d∈(G j).ae,w2.heap[d]?=w.heap[d]?) (D:∀d,d<F.w0.heap.size→d∉F.M→w2.heap[d]?=w.heap[d]?)
 {f:FT} {l:Nat} {row:Array Value} {e:TypeId} {c:TV} {A:bY} (aa:(G b).bg=some l) (X:w2.heap[l]?=some (.cells row e (0,0))) (Y:row.size=bx.ty.size) (J:aW A w2 F.R c bx.ty f row.toList) (z:c.aF=[])
 (W:f.ae.Nodup) (O:∀d∈f.ae,d∈(G b).ft.ae∨∀j y,s.box j=some y→d∉(G j).ae) (U:∀d∈f.ae,¬F.R d∧d<w2.heap.size∧(d∈F.M∨F.w0.heap.size≤d)):
 aA F (fun j=>if j=b then ⟨(G b).bg,f⟩ else G j) ((s.b4 b {bx with c:=c}).aw b []) a w2:=by
 have o:ax s.box G b []=some (bx.ty,(G b).ft,(G b).bg.map (·,0)):=qz g;have q:(fun j=>if j=b then (⟨(G b).bg,f⟩:Gh) else G j)=fun j=>if j=b then ⟨(G b).bg,bt bx.ty (G b).ft [] f⟩ else G j:=by
  funext j;rw [FF]
 have u:=lv g c [];have x:=tF (f:=f) (c':=c.aw b []) (kl:=fun v=>v.aw b []) g o q u;refine h.xS g o (fun v=>v.aw b []) q (x3 _ b []) (yT _ b []) (yU _ b []) u (fun v y n=>VR.aw x r n) (fun c t ft cs I K=>aW.aw x r c t ft cs I K) ?_ Z C D W O U (fun ab ac=>by simp_all);unfold dF;rw [aj (show ¬(bx.with (c.aw b [])).cm=true from by simp [bl.with,n])];refine ⟨l,row,e,?_,X,Y,?_⟩;simp_all;simp only [b5];show aW _ w2 F.R (c.aw b []) bx.ty f row.toList;rw [ae1 c z];exact aW.bI c _ _ _ z J
end
def g7:(t:Ty)→TV→Option t.ai
 |t,.ad u x=>cM u t x
 |t,.ab u x=>if u.aQ then cM u t x else none
 | .slice t,.nil=>some ([]:List t.ai)
 | .unit,.unit=>some ()
 | .cons t r,.cons a d=>match g7 t a with
  |some x=>match g7 r d with
   |some y=>some (x,y)
   |none=>none
  |none=>none
 |_,_=>none
theorem JD {A:bY} {w:World} {R:Nat→Prop}:∀(t:Ty) (c:TV) (x:t.ai) (ft:FT) (cs:List Value),g7 t c=some x→aW A w R c t ft cs→ft.ae=[]∧Rd w R t x cs:=by
 have ad:∀(t u:Ty) (y:u.ai) (x:t.ai) (ft:FT) (cs:List Value),cM u t y=some x→aW A w R (.ad u y) t ft cs→ft.ae=[]∧Rd w R t x cs:=by
  intro t u y x ft cs h b;obtain ⟨rfl,rfl⟩:=e4 h;exact ⟨b.2.1,b.2.2⟩
 have ab:∀(t u:Ty) (y:u.ai) (x:t.ai) (ft:FT) (cs:List Value),(if u.aQ then cM u t y else none)=some x→aW A w R (.ab u y) t ft cs→ft.ae=[]∧Rd w R t x cs:=by
  intro t u y x ft cs h b;split at h;rename_i j;obtain ⟨rfl,rfl⟩:=e4 h;obtain ⟨O,U,W⟩:=bb.ms j b.2;exact ⟨W,by rw [U];exact Rd.gv j O⟩;cases h
 intro t
 induction t with
 |cons t r K J=>
  intro c x ft cs h b;cases c with
  |ad u y=>exact ad _ u y x ft cs (by simpa only [g7] using h) b
  |ab u y=>exact ab _ u y x ft cs (by simpa only [g7] using h) b
  |cons a d=>
   simp only [g7] at h;obtain ⟨o,f,g,rfl,Z,q,e⟩:=b;split at h;rename_i y D;split at h;rename_i z I;cases h;obtain ⟨l,X⟩:=K a y _ f D q;obtain ⟨n,Y⟩:=J d z _ g I e;exact ⟨by rw [o,l,n];rfl,f,g,rfl,X,Y⟩;cases h;cases h
  |_=>simp [g7] at h
 |slice t _=>
  intro c x ft cs h b;cases c with
  |ad u y=>exact ad _ u y x ft cs (by simpa only [g7] using h) b
  |ab u y=>exact ab _ u y x ft cs (by simpa only [g7] using h) b
  |nil=>
   simp only [g7] at h;cases h;obtain ⟨_,_,v,h4⟩:=b;have h4:cs=[.slice none 0 0]:=h4;exact ⟨v,none,0,h4,⟨cf _,by simp [eZ]⟩,fun C=>absurd rfl C⟩
  |_=>simp [g7] at h
 |unit=>
  intro c x ft cs h b;cases c with
  |ad u y=>exact ad _ u y x ft cs (by simpa only [g7] using h) b
  |ab u y=>exact ab _ u y x ft cs (by simpa only [g7] using h) b
  |unit=>obtain ⟨_,e,rfl⟩:=b;exact ⟨e,rfl,trivial,rfl⟩
  |_=>simp [g7] at h
 |_=>
  intro c x ft cs h b;cases c with
  |ad u y=>exact ad _ u y x ft cs (by simpa only [g7] using h) b
  |ab u y=>exact ab _ u y x ft cs (by simpa only [g7] using h) b
  |_=>simp [g7] at h
def qT (I:dK) (t u:Ty) (x:t.ai) (bo:List TV):Option (t.ai×u.ai):=
 I.run ⟨[],[(0,⟨t,false,false,.ad t x⟩)],[]⟩ (.ref 0 []::bo) fun b v=>match v with
  | .ad d y=>match cM d u y with
   |some y=>b6 b 0 fun x'=>if decide (x'.ty=t) then (match g7 t x'.c with
    |some z=>some (z,y)
    |none=>none) else none
   |none=>none
  |_=>none
def dw (I:dK) (t u:Ty):dK:={im:=true,run:=fun s vs k=>match vs with
 | .ref b []::bo=>if xY bo&&u.aQ then b6 s b fun x=>if x.cm||x.dN|| !decide (x.ty=t) then none else match g7 t x.c with
  |some y=>match qT I t u y bo with
   |some z=>k ((s.b4 b {x with c:=.ad t z.1}).aw b []) (.ad u z.2)
   |none=>none
  |none=>none
  else none
 |_=>none}
theorem VR.aQ {A A':bY} {w:World} {R:Nat→Prop} {u:Ty} {y:u.ai} {x:Value} (h:VR A w R (.ad u y) x):VR A' w R (.ad u y) x:=by
 rcases h with h|⟨cs,b,c⟩
 cases h;exact .inr ⟨cs,b,c⟩
theorem du.aQ {A A':bY} {w:World} {R:Nat→Prop}:∀(vs:List TV) (xs:List Value),xY vs=true→du A w R vs xs→du A' w R vs xs:=by
 intro vs
 induction vs with
 |nil=>intro xs _ h;cases xs with
  |nil=>trivial
  |cons x xs=>exact h.elim
 |cons v vs c=>
  intro xs b h;cases xs with
  |nil=>exact h.elim
  |cons x xs=>
   cases v<;>simp [xY] at b
   exact ⟨VR.aQ h.1,c xs b.2 h.2⟩
theorem ug {P:Program} {f:Nat} {I:dK} (h:eG P f I) (t u:Ty):eG P f (dw I t u):=by
 intro ρ F G s a w vs xs k r hrel ay hk;simp only [dw] at hk;split at hk;rotate_left;cases hk;rename_i b bo;split at hk;rotate_left;cases hk;rename_i W;rw [bp] at W;obtain ⟨W,aV⟩:=W;unfold b6 at hk;split at hk;rotate_left;cases hk;rename_i x C;dsimp only at hk;split at hk;cases hk;rename_i au;simp only [fc,gQ,jF,Bool.not_eq_false',kG] at au;obtain ⟨⟨aw,aT⟩,J⟩:=au;have J:x.ty=t:=by simpa using J
 split at hk;rotate_left;cases hk;rename_i Y aK;split at hk;rotate_left;cases hk;rename_i z a0;cases xs with
 |nil=>exact ay.elim
 |cons aP xs=>
 obtain ⟨ai,aI⟩:=ay;have ag:=hrel.box b x C;unfold dF at ag;rw [aj (by simp [aw])] at ag;obtain ⟨ak,row,e,af,a6,ap,aq⟩:=ag;rw [J] at ap aq;obtain ⟨a8,aE⟩:=JD t x.c Y _ _ aK aq
 let Z:Fr:={R:=F.R,M:=(G b).ae,w0:=w,nt:=0,bg:=fun _=>(G b).bg,dz:=fun _=>none,sv:=[]}
 let D:St:=⟨[],[(0,⟨t,false,false,.ad t Y⟩)],[]⟩
 let O:Nat→Gh:=fun _=>G b
 have ar:∀i y,D.box i=some y→i=0∧y=⟨t,false,false,.ad t Y⟩:=by
  intro i y o;simp only [D,St.box,lk] at o;simp_all
 have ao:∀d,F.R d→d<w.heap.size:=fun d g=>jL (hrel.R d g).1 hrel.size
 have aF:aA Z O D {a with tmps:= #[]} w:=by
  refine ⟨fun i y o=>?_,fun i y o=>?_,fun i j y z o a0 aU=>?_,fun i y o=>hrel.b7 b x C,fun i y o=>?_,fun d g=>⟨ao d g,fun K=>(hrel.bK b x C d K).1 g⟩,fun n=>.inl rfl,fun _ _ _=>rfl,gj.refl _,hrel.defers,rfl,fun i y o=>?_,fun i n=>.inl ?_,rfl⟩;obtain ⟨rfl,rfl⟩:=ar i y o;exact ⟨ak,row,e,af,a6,ap,rfl,a8,aE⟩;obtain ⟨rfl,rfl⟩:=ar i y o;have:=hrel.cF b x C;simp_all
  grind
  exact fun d g=>⟨(hrel.bK b x C d g).1,(hrel.bK b x C d g).2.1,.inl g⟩
  grind
  simp [St.gy,D,lk]
 have aJ:du (ax D.box O) w Z.R (.ref 0 []::bo) (aP::xs):=by
  refine ⟨?_,du.aQ _ _ W aI⟩;rcases ai with ai|⟨cs,⟨aO,ft,a2,off,U,rfl⟩,ab⟩
  cases ai;refine .inr ⟨_,⟨aO,ft,a2,off,?_,rfl⟩,ab⟩;rw [qz C,J] at U;rw [←U];exact qz (s:=D) (G:=O) (show D.box 0=some ⟨t,false,false,.ad t Y⟩ from rfl)
 refine (h _ Z O D {a with tmps:= #[]} w _ _ _ z aF aJ a0).mono fun en w' av=>?_
 cases en with
 |returned v=>
  obtain ⟨aa,aN,tv,X,aH,l⟩:=av;split at l;rotate_left;cases l;rename_i aX y;split at l;rotate_left;cases l;rename_i aY aL;obtain ⟨rfl,rfl⟩:=e4 aL;unfold b6 at l;split at l;rotate_left;cases l;rename_i x' az;dsimp only at l;split at l;rotate_left;cases l;rename_i a9;have aG:x'.ty=t:=eU a9;split at l;rotate_left;cases l;rename_i a1 aM;obtain rfl:=bk l;have a7:(aa 0).bg=some ak:=((X.c1 0 x' az).1 rfl).trans af;have ah:=X.box 0 x' az;unfold dF at ah;have aD:x'.cm=false:=by
   simp_all
  rw [aj (by simp [aD])] at ah;obtain ⟨aR,aW,aS,al,a3,am,an⟩:=ah;rw [a7] at al;obtain rfl:=bk al;rw [aG] at am an;obtain ⟨a4,a5⟩:=JD t x'.c a1 _ _ aM an;have ac:∀d,d<w.heap.size→d∉(G b).ae→w'.heap[d]?=w.heap[d]?:=X.bQ
  have aB:=acA (A:=ax aN.box aa) (f:=(aa 0).ft) (c:=.ad t a1) hrel C aw X.gq (fun d g=>ac d (ao d g) fun K=>(hrel.bK b x C d K).1 g)
   (fun j y aC o d g=>ac d (hrel.bK j y o d g).2.1 (hrel.dc j b y x o C aC d g))
   (fun d U ab=>ac d (jL U hrel.size) fun K=>by
    rcases (hrel.bK b x C d K).2.2 with q|q
    exact ab q;omega)
   af a3 (by rw [J];exact am) (by rw [J];exact ⟨rfl,a4,a5⟩) rfl (by simp_all)
   (fun d g=>by simp_all) (fun d g=>by simp_all)
  exact ⟨_,_,_,aB,VR.aQ aH,hk⟩
 |_=>exact av
theorem aeV {I:dK} {t u:Ty} {ρ:Type} {s:St} {vs:List TV} {k:St→TV→Option ρ} {r:ρ} (h:(dw I t u).run s vs k=some r):
 ∃b bx y bo,vs=.ref b []::bo∧xY bo=true∧u.aQ=true∧bx.c.aF=[]∧k ((s.b4 b bx).aw b []) (.ad u y)=some r∧
  ∀(d:St),d.box b=s.box b→∀{σ:Type} (k':St→TV→Option σ),(dw I t u).run d vs k'=k' ((d.b4 b bx).aw b []) (.ad u y):=by
 simp only [dw] at h;split at h;rotate_left;cases h;rename_i b bo;split at h;rotate_left;cases h;rename_i f;have e:=f;rw [bp] at e;unfold b6 at h;split at h;rotate_left;cases h;rename_i x l;dsimp only at h;split at h;cases h;rename_i g;split at h;rotate_left;cases h;rename_i y n;split at h;rotate_left;cases h;rename_i z o;refine ⟨b,{x with c:=.ad t z.1},z.2,bo,rfl,e.1,e.2,rfl,h,fun d j σ k'=>?_⟩;simp only [dw];rw [ak f];unfold b6;simp_all
theorem e7 (I:dK) (t u:Ty):(dw I t u).r1:=fun ρ s vs k r h=>by
 obtain ⟨b,bx,y,bo,rfl,f,g,h4,h5,h6⟩:=aeV h;exact ⟨[.set b bx,.aw b []],.ad u y,h5,fun m c=>by
  simp only [cy,pS,or_false] at c;rcases c with rfl|rfl<;>simp [Mv.at,TV.aF],fun e d {σ} k'=>h6 e (d _ (g4 ..) b (by simp [TV.aF])) k'⟩
def pt {ρ:Type} (s:St):List Ty→List TV→(List TV→Option ρ)→Option ρ
 |[],[],k=>k []
 |t::ts,v::vs,k=>dT s t v fun x=>pt s ts vs fun b=>k (.ad t x::b)
 |_,_,_=>none
def uF (u:Ty):St→TV→Option u.ai:=fun _ v=>match v with
 | .ad b y=>cM b u y
 |_=>none
def TP (I:dK) (t u:Ty) (x:t.ai) (bo:List TV):Option u.ai:=
 I.run ⟨[],[(0,⟨t,false,false,.ad t x⟩)],[]⟩ (.ref 0 []::bo) (uF u)
def qS (I:dK) (t u:Ty) (ts:List Ty):dK:={im:=true,run:=fun s vs k=>match vs with
 | .ref b []::bo=>if u.aQ then b6 s b fun x=>if x.cm||x.dN|| !decide (x.ty=t) then none else match g7 t x.c with
  |some y=>pt (s.drop b) ts (bo.map (TV.drop b)) fun d=>match TP I t u y d with
   |some z=>k (s.drop b) (.ad u z)
   |none=>none
  |none=>none
  else none
 |_=>none}
theorem ah6 {ρ:Type} {F:Fr} {G:Nat→Gh} {s:St} {a:Act} {w:World} (h:aA F G s a w):∀(ts:List Ty) (vs:List TV) (xs:List Value) (k:List TV→Option ρ) (r:ρ),du (ax s.box G) w F.R vs xs→pt s ts vs k=some r→
 ∃c,k c=some r∧∀A:bY,du A w (RR F G s) c xs:=by
 intro ts
 induction ts with
 |nil=>
  intro vs xs k r b hk
  match vs,xs,b,hk with
  |[],[],_,hk=>exact ⟨[],hk,fun _=>trivial⟩
 |cons t ts n=>
  intro vs xs k r b hk
  match vs,xs,b,hk with
  |v::vs,x::xs,b,hk=>
   simp only [pt] at hk;obtain ⟨f,g,j⟩:=Me t v _ r hk;obtain ⟨cs,u,d⟩:=b.1.cells g j;obtain ⟨y,e,l⟩:=Fv h t v cs _ r u hk;obtain ⟨c,o,q⟩:=n vs xs _ r b.2 e;exact ⟨_,o,fun A=>⟨dH (v:=.ad t y) l (by rw [f] at d;exact d),q A⟩⟩
  |[],[],_,hk=>cases hk
  |_::_,[],b,_=>exact b.elim
  |[],_::_,b,_=>exact b.elim
theorem aeU {P:Program} {f:Nat} {I:dK} (h:eG P f I) (t u:Ty) (ts:List Ty):eG P f (qS I t u ts):=by
 intro ρ F G s a w vs xs k r hrel ar hk;simp only [qS] at hk;split at hk;rotate_left;cases hk;rename_i b bo;split at hk;rotate_left;cases hk;rename_i aq;unfold b6 at hk;split at hk;rotate_left;cases hk;rename_i x o;dsimp only at hk;split at hk;cases hk;rename_i an;simp only [fc,gQ,jF,Bool.not_eq_false',kG] at an;obtain ⟨⟨aE,_⟩,Z⟩:=an;have Z:x.ty=t:=by simpa using Z
 split at hk;rotate_left;cases hk;rename_i aa aH;cases xs with
 |nil=>exact ar.elim
 |cons aM xs=>
 obtain ⟨ai,Y⟩:=ar;have dz:=hrel.drop b;obtain ⟨a7,a6⟩:=Kt hrel b;have aF:du (ax (s.drop b).box G) w F.R (bo.map (TV.drop b)) xs:=by
  clear hk
  induction bo generalizing xs with
  |nil=>
   cases xs with
   |nil=>trivial
   |cons y xs=>exact Y.elim
  |cons v bo aI=>
   cases xs with
   |nil=>exact Y.elim
   |cons y xs=>exact ⟨a7 _ _ Y.1,aI xs Y.2⟩
 obtain ⟨aL,ac,aC⟩:=ah6 dz ts _ xs _ r aF hk;split at ac;rotate_left;cases ac;rename_i z av;have ah:=hrel.box b x o;unfold dF at ah;rw [aj (by simp [aE])] at ah;obtain ⟨aw,row,e,a3,a4,ak,al⟩:=ah;rw [Z] at ak al;obtain ⟨a5,a9⟩:=JD t x.c aa _ _ aH al;have aJ:∀i y,(s.drop b).box i=some y→i≠b∧∃O,s.box i=some O:=by
  intro i y l;rw [a6] at l;split at l;cases l;rename_i ag;cases hi:s.box i with
  |none=>rw [hi] at l;cases l
  |some O=>grind
 let U:Fr:={R:=RR F G (s.drop b),M:=(G b).ae,w0:=w,nt:=0,bg:=fun _=>(G b).bg,dz:=fun _=>none,sv:=[]}
 let C:St:=⟨[],[(0,⟨t,false,false,.ad t aa⟩)],[]⟩
 let W:Nat→Gh:=fun _=>G b
 have am:∀i y,C.box i=some y→i=0∧y=⟨t,false,false,.ad t aa⟩:=by
  intro i y l;simp only [C,St.box,lk] at l;simp_all
 have J:∀d,U.R d→d<w.heap.size∧d∉(G b).ae:=by
  rintro d (g|⟨i,y,hi,g⟩);exact ⟨jL (hrel.R d g).1 hrel.size,fun af=>(hrel.bK b x o d af).1 g⟩;obtain ⟨ag,O,au⟩:=aJ i y hi;exact ⟨(hrel.bK i O au d g).2.1,hrel.dc i b O x au o ag d g⟩
 have aB:aA U W C {a with tmps:= #[]} w:=by
  refine ⟨fun i y l=>?_,fun i y l=>?_,fun i j y z l av ag=>?_,fun i y l=>hrel.b7 b x o,fun i y l=>?_,J,fun n=>.inl rfl,fun _ _ _=>rfl,gj.refl _,hrel.defers,rfl,fun i y l=>?_,fun i n=>.inl ?_,rfl⟩;obtain ⟨rfl,rfl⟩:=am i y l;exact ⟨aw,row,e,a3,a4,ak,rfl,a5,Rd.bQ (fun _ h=>.inl h) (fun _ _=>rfl) _ _ _ a9⟩;obtain ⟨rfl,rfl⟩:=am i y l;have:=hrel.cF b x o;simp_all
  grind
  exact fun d g=>⟨fun a2=>(J d a2).2 g,(hrel.bK b x o d g).2.1,.inl g⟩
  grind
  simp [St.gy,C,lk]
 have aG:du (ax C.box W) w U.R (.ref 0 []::aL) (aM::xs):=by
  refine ⟨?_,aC _⟩;rcases ai with ai|⟨cs,⟨aK,ft,ay,off,D,rfl⟩,K⟩
  cases ai;refine .inr ⟨_,⟨aK,ft,ay,off,?_,rfl⟩,K⟩;rw [qz o,Z] at D;rw [←D];exact qz (s:=C) (G:=W) (show C.box 0=some ⟨t,false,false,.ad t aa⟩ from rfl)
 refine (h _ U W C {a with tmps:= #[]} w _ _ _ z aB aG av).mono fun en w' ao=>?_
 cases en with
 |returned v=>
  obtain ⟨aN,aO,tv,ap,aD,X⟩:=ao;unfold uF at X;split at X;rotate_left;cases X;rename_i aP y;obtain ⟨rfl,rfl⟩:=e4 X;have ab:∀d,d<w.heap.size→d∉(G b).ae→w'.heap[d]?=w.heap[d]?:=ap.bQ
  have a8:aA F G (s.drop b) a w':=dz.shift ap.gq (fun d g=>ab d (J d (.inl g)).1 (J d (.inl g)).2) (fun i y hi d g=>ab d (J d (.inr ⟨i,y,hi,g⟩)).1 (J d (.inr ⟨i,y,hi,g⟩)).2)
   (fun d D K=>ab d (jL D hrel.size) fun af=>by
    rcases (hrel.bK b x o d af).2.2 with q|q
    exact K q;omega)
  refine ⟨_,_,_,a8,?_,ac⟩;rcases aD with a1|⟨cs,D,K⟩
  cases a1;obtain ⟨az,a0⟩:=Rd.aQ aq D;exact .inr ⟨cs,by rw [a0];exact Rd.gv aq az,K⟩
 |_=>exact ao
theorem ah5 {ρ:Type} {t:St}:∀(ts:List Ty) (vs:List TV) (k:List TV→Option ρ) (r:ρ),pt t ts vs k=some r→∃b,k b=some r∧∀(s:St),(∀v∈vs,Ag s t v)→∀{σ:Type} (k':List TV→Option σ),pt s ts vs k'=k' b:=by
 intro ts
 induction ts with
 |nil=>
  intro vs k r h;cases vs with
  |nil=>exact ⟨[],h,fun s _ σ k'=>rfl⟩
  |cons v vs=>cases h
 |cons T ts e=>
  intro vs k r h;cases vs with
  |nil=>cases h
  |cons v vs=>
   simp only [pt] at h;obtain ⟨x,c,f⟩:=Mf _ _ _ _ h;obtain ⟨b,d,h4⟩:=e vs _ r c;exact ⟨_,d,fun s g σ k'=>by simp only [pt];simp_all⟩
theorem aeT (I:dK) (t u:Ty) (ts:List Ty):(qS I t u ts).r1:=fun ρ s vs k r h=>by
 simp only [qS] at h;split at h;rotate_left;cases h;rename_i b bo;split at h;rotate_left;cases h;rename_i J;unfold b6 at h;split at h;rotate_left;cases h;rename_i x O;dsimp only at h;split at h;cases h;rename_i q;split at h;rotate_left;cases h;rename_i y g;obtain ⟨Z,d,n⟩:=ah5 _ _ _ _ h;split at d;rotate_left;cases d;rename_i z U;refine ⟨[.drop b],.ad u z,d,fun m f=>?_,fun j D σ k'=>?_⟩;simp only [gB] at f;subst f;simp [Mv.at,TV.aF];simp only [qS];rw [ak J];unfold b6;have o:j.box b=s.box b:=D _ (g4 ..) b (by simp [TV.aF]);rw [o,O];simp only;rw [aj q];simp only [g];rw [n (j.drop b) fun v K=>?_];simp only [U];rfl;obtain ⟨l,Y,rfl⟩:=b9.1 K;intro c C y g;have X:c∈l.aF:=Nx _ l c C;have W:∀e:St,(e.drop b).box c=if b=c then none else (e.box c).map (bl.bU fun c=> !Nat.beq b c):=by
  intro e;unfold St.drop St.box;simp only [mC,EJ]
  grind
 grind
end Go.TM
namespace Go.TM
open Go.Proofs Go.Shelf
def UB (b:List PM) (c:List Ty):aB:={params:=b,results:=c,h:=fun _ _=>none}
theorem af9 {P:Program} {f:Nat} {e:List PM} {b:List Ty} (h:b.all Ty.iU=true):aN P f (UB e b):=
 ⟨fun _ _ _=>rfl,fun t d=>Ty.o8 (dE.1 h t d),fun _ _ _ _ _ _ _ _ c=>by cases c⟩
def Ew {ρ:Type} (n:Int) (k:Unit→Option ρ):Option ρ:=match decide (0≤n)&&decide (n≤4294967296) with
 |true=>k ()
 |false=>none
def Ey (o:Nat):dK:=
 {run:=fun s vs k=>match vs with
  |[.nil,.ad (.int .i64) n]=>Ew n fun _=>kv s o ⟨.slice (.int .i64),true,false,.ab (.slice (.int .i64)) ([]:List Int)⟩ fun s=>k s (.sl o [])
  |_=>none}
theorem aez {P:Program} {ρ:Ren} (L:Lays8.n4 P ρ) {j:TypeInfo} {z:Value} (Y:P.info? (ρ.t 25)=some j) (ad:j.zero=some z) (af:z.cells.size=1) (al:j.size=1) (d:j.bytes≤4096) (o:Nat):eG P (ρ.f 4) (Ey o):=by
 intro σ F G s a w vs xs k r hrel q hk;simp only [Ey] at hk;split at hk;rotate_left;cases hk;rename_i n;unfold Ew at hk;split at hk;rotate_left;cases hk;rename_i D;simp only [bp,kG] at D;obtain ⟨m,rfl⟩:=hp D.1;have ak:m≤4294967296:=by omega
 obtain ⟨O,U,hk⟩:=q4 hk
 match xs,q with
 |[ai,aj],q=>
  obtain ⟨v0,ah,_⟩:=q;have J:aj=.int .i64 (m:Int):=ah.int;have e0:ai=.slice none 0 0:=by
   rcases v0 with v0|⟨cs,rfl,h⟩
   cases v0;simpa [TV.agg] using h.symm
  subst J e0;have fin:∀(w':World) (f:FT) (v:Value),aA F G s a w'→bb w' (.slice (.int .i64)) ([]:List Int) f [v]→ic F G s w' ⟨none,f⟩→∃y u tv,aA F y u a w'∧VR (ax u.box y) w' F.R tv v∧k u tv=some r:=by
   intro w' f v l I W;have l:=l.qy (x:=⟨.slice (.int .i64),true,false,.ab (.slice (.int .i64)) ([]:List Int)⟩) (g:=⟨none,f⟩) O U rfl (Ty.o8 (by decide)) ⟨rfl,⟨_,rfl⟩,[v],⟨rfl,I⟩⟩ W;refine ⟨_,_,_,l,?_,hk⟩;refine dH (v:=.sl o []) (cs:=[v]) ?_ rfl;obtain ⟨b,cap,ag,rfl,aa,_,_,Z,_⟩:=I;refine ⟨.int .i64,b,cap,ag,none,?_,by rw [aa,Z]⟩;simp [ax,mh,fI,bL]
  refine .inl ⟨L.f4.enters rfl,?_⟩;by_cases K:m=0;subst K;refine (Any8.slices_Grow_room L none 0 0 0 w (by omega) (by omega) (by omega) (by omega)).mono ?_;rintro e w' ⟨rfl,rfl⟩;exact fin w' (.node none 0 []) _ hrel ⟨none,0,[],rfl,rfl,cf _,bM _,rfl,rfl⟩ ⟨by simp [Gh.ae,FT.ae,FT.bq],fun b d=>by simp [Gh.ae,FT.ae,FT.bq] at d,fun b d=>by simp [Gh.ae,FT.ae,FT.bq] at d⟩;refine (Any8.slices_Grow_grow L j z Y ad (by omega) none 0 0 m [] w (by omega) (by omega) ?_ (by omega) (by simp) (fun _=>rfl) (fun a h=>by cases h)).mono ?_;have:(0+m)*j.bytes≤4294967296*4096:=Nat.mul_le_mul (by omega) d;omega;rintro e w' ⟨rfl,rfl⟩;have X:=grownCap_ge w (0+m) 0 (ρ.t 25);generalize grownCap w (0+m) 0 (ρ.t 25)=c at X;have C:aA F G s a w.drew:=hrel.shift ⟨cf _,rfl,rfl⟩ (fun _ _=>rfl) (fun _ _ _ _ _=>rfl) (fun _ _ _=>rfl);refine fin _ (.node (some w.heap.size) c []) _ (C.alloc _) ⟨some w.heap.size,c,[],rfl,rfl,bM _,bM _,rfl,⟨_,_,me w.drew _,?_⟩,fun i x k ac=>by cases ac⟩ (ic.row c C h3 (fun b d=>by cases d) (fun b d=>by cases d));simp only [Array.size_append,YG,af];show c*1=_;simp;omega
end Go.TM
namespace Go.TM
open Go Go.Proofs Go.Shelf Go.RowKit Go.Sort
variable {P:Program} {ρ:Ren}
def Pg (w:World) (tb b:TypeId) (pre:List Int) (W:World):Prop:=
 (∃v,W.heap[w.heap.size]?=some (.cells #[v] tb (0,0))∧W.ownsRow (w.heap.size+1) b 1 v pre.length (pre.map encZ))∧Below w.heap.size w W
theorem al6 (w:World) (tb l:TypeId):OwnFrom (w.heap.size+1) (Pg w tb l):=by
 rintro s W n row ⟨⟨v,f,d⟩,c⟩ b j;refine ⟨⟨v,?_,d.kept b ?_⟩,c.grown b c.size fun k e=>by grind⟩;refine (b.block _ (pK.1 f).1 fun e=>?_).trans f
 grind
 cases row with
 |none=>grind
 |some r=>
  obtain ⟨_,o,h,g⟩:=j r rfl;exact ownsRow_ne_a d h fun q e=>by subst e;cases g
set_option maxRecDepth 100000 in
set_option maxHeartbeats 2000000 in
theorem acq (L:SlLaysZI.n11 P ρ) (n:Nat) (a1:3≤n) (g:Nat) (lb:Array Value) (ad:∀args w,(callFunc g args).run P w=.ok (.enter g args) w) (zs:List Int) (aw:zs.length≤4294967296) (w:World)
 (ak:SeqStopsK Fence.wide (n-1) P g lb (fun x:Int=> #[Value.int .i64 x]) (Below w.heap.size) (fun ab=>ab=zs) (fun _=>True) zs.length w):
 CallsIn Fence.wide n P (ρ.f 11) #[.slice none 0 0,.func (.func g) #[] lb] w fun e w'=>∃v,e=.returned v∧w'.ownsRow w.heap.size (ρ.t 26) 1 v zs.length (zs.map encZ)∧Below w.heap.size w w':=by
 have ae:1≤n:=by omega
 have mixed:=L.mixed;have t0:=L.t0;have a0:=L.a0;have z0:=L.z0;have v0:=L.v0;have t24:=L.t24;have a24:=L.a24;have z24:=L.z24;have v24:=L.v24;have t26:=L.t26;have a26:=L.a26;have z26:=L.z26;have v26:=L.v26;have t28:=L.t28;have a28:=L.a28;have z28:=L.z28;have v28:=L.v28;have a3:=run_underlying L.t0;have a4:=run_underlying L.t24;have a5:=run_underlying L.t26;have a6:=run_underlying L.t28;have Z:ρ.t 24≠ρ.t 26:=fun e=>by simp_all
 obtain ⟨ap,hi,am,an,ao⟩:=info_parts L.i26;obtain ⟨_,_,ac⟩:=L.f11;refine callsIn_of_wp_marks ac rfl trivial ?_ rfl;simp only [SlBodyZ.n11_ntmps ρ,pU,hH,List.length_nil,Nat.reduceAdd,Nat.reduceSub,Array.replicate_succ,Array.replicate_zero,List.push_toArray,List.append_toArray,dJ,jG]
 gi_wp2
 refine wpIn_rangeFunc_ownG (n:=n) rfl ae (gf:=g) (lb:=lb) rfl trivial ad ak belowK_t (belowK_b (by simp)) ((Below.refl _ w).alloc (cf _) _) (fun _=>rfl)
  (Pg w (ρ.t 24) (ρ.t 26)) (fun _ _ _=>False) (by simpa using al6 w (ρ.t 24) (ρ.t 26)) (fun _ _ _ _ _ aj _ _=>aj)
  ⟨⟨_,World.alloc_heap_new w _,rfl,.inl ⟨rfl,rfl⟩⟩,(Below.refl _ w).alloc (cf _) _⟩
  (fun x=>{tmps:= #[.slice none 0 0,.func (.func g) #[] lb,.pointer (some ⟨w.heap.size,0,none⟩),undef,.slice none 0 0,.int .i64 x,.func (.func g) #[] lb,.int .i64 x,undef,undef,undef,undef,undef],defers:=[]}) ?assign ?body ?done ?stop
 case assign=>
  intro l x W K q
  gi_wp2_with gi_round_op_a
  exact q
 case body=>
  rintro l pre x W ⟨⟨v,c,b⟩,h⟩ az;obtain ⟨ag,ah⟩:=cell_of_box_a c;have Y:w.heap.size<W.heap.size:=(pK.1 c).1;have al:some w.heap.size≠v.ownBlock:=fun e=>by
   rcases ownsRow_ne_a b c (fun I e=>Z (Obj.cells.inj e).2.1) with r|r
   rw [r] at e;cases e;exact r e.symm
  gi_wp2_with (first
   |(gi_at_builtin;refine wpListIn_append_own _ rfl _ _ (ρ.t 24) rfl (w.heap.size+1) (ρ.t 26) ap (.int .i64 0) 1 8 L.t24 hi am an ao rfl (by decide) _ _ _ rfl (b.alloc _) ⟨W.heap.size,0,none⟩ 1 1 [encZ x] rfl rfl (cell_one_new _ _ _) (by simp [Value.oneCell',encZ]) (by unfold maxLen;omega) (by omega) (by simp;omega) ?_;intro aq C y u a2
     have z:C.heap[w.heap.size]?=some (.cells #[v] (ρ.t 24) (0,0)):=(u.block _ (by simp;omega) al).trans ((Below.heap_alloc _ _ _ Y).trans c);obtain ⟨ax,ay⟩:=cell_of_box_a z;obtain ⟨c',d,rfl⟩:∃c' d,aq=.slice (some ⟨c',0,none⟩) (pre.length+1) d:=by
      rcases y.2 with ⟨_,au⟩|⟨c',d,_,ar,_⟩
      omega;simp_all
     go_frame)
   |gi_round_op_a)
  have U:=grownBy_setCell0_a C w.heap.size (.slice (some ⟨c',0,none⟩) (pre.length+1) d);have hk:=y.kept U (ownsRow_ne_a y z fun I e=>Z (Obj.cells.inj e).2.1);have J:Below w.heap.size W C:=((Below.refl _ W).alloc (by omega) _).grown u (by simp;omega) fun k e=>by
   have:=(b.lt k e).1;omega
  have O:=J.grown U (Nat.le_trans (Nat.le_of_lt Y) J.size) fun k e=>by simp_all
  refine ⟨(((KeepsOthers.alloc W _).trans (KeepsOthers.of_grownBy u fun j o X aa=>?_)).trans (KeepsOthers.setCell _ _ _)).from _,O,⟨⟨_,heap_setCell_box_a _ z,by simpa using hk⟩,h.trans O⟩⟩;rcases (b.alloc (.cells #[encZ x] (ρ.t 26))).2 with ⟨rfl,_⟩|⟨g',_,_,rfl,_,ai,_⟩
  cases X;obtain rfl:g'=j:=bk X;rw [ai] at aa;obtain rfl:=bk aa;rfl
 case done=>
  rintro D ab W af rfl ⟨⟨v,c,b⟩,h⟩ q;obtain ⟨ag,ah⟩:=cell_of_box_a c
  gi_wp2
  refine ⟨by simp,.inl ⟨_,_,rfl,run_takeDeferred q,?_⟩⟩;have av:w.heap.size+1≤D:=by simpa using af
  exact ⟨_,results_tmp rfl _ _ _,v,rfl,ownsRow_base_a (b.kept (grownBy_putObj' _ _ _) (ownsRow_ne_a b q fun I e=>by cases e)) (by omega),h.grown (grownBy_putObj' _ _ _) h.size fun k e=>by cases e;omega⟩
 simp_all
set_option maxHeartbeats 1000000 in
theorem ade (L:SlLaysZI.n8 P ρ) (n:Nat) (r:4≤n) (g:Nat) (lb:Array Value) (c:∀args w,(callFunc g args).run P w=.ok (.enter g args) w) (zs:List Int) (d:zs.length≤4294967296) (w:World)
 (h:SeqStopsK Fence.wide (n-1-1) P g lb (fun x:Int=> #[Value.int .i64 x]) (Below w.heap.size) (fun j=>j=zs) (fun _=>True) zs.length w):
 CallsIn Fence.wide n P (ρ.f 8) #[.func (.func g) #[] lb] w fun e w'=>∃v,e=.returned v∧w'.ownsRow w.heap.size (ρ.t 26) 1 v zs.length (zs.map encZ)∧Below w.heap.size w w':=by
 have o:1≤n:=by omega
 have qP:Fence.wide.fn (ρ.f 11):=trivial;have l:∀args w,(callFunc (ρ.f 11) args).run P w=.ok (.enter (ρ.f 11) args) w:=L.f11.enters rfl
 have mixed:=L.mixed;have t0:=L.t0;have a0:=L.a0;have z0:=L.z0;have v0:=L.v0;have t24:=L.t24;have a24:=L.a24;have z24:=L.z24;have v24:=L.v24;have t26:=L.t26;have a26:=L.a26;have z26:=L.z26;have v26:=L.v26;have t28:=L.t28;have a28:=L.a28;have z28:=L.z28;have v28:=L.v28;have y:=run_underlying L.t0;have z:=run_underlying L.t24;have C:=run_underlying L.t26;have D:=run_underlying L.t28;obtain ⟨_,_,b⟩:=L.f8;refine callsIn_of_wp b rfl trivial ?_ rfl;simp only [SlBodyZ.n8_ntmps ρ,pU,hH,List.length_nil,Nat.reduceAdd,Nat.reduceSub,Array.replicate_succ,Array.replicate_zero,List.push_toArray,List.append_toArray,dJ,jG]
 gi_wp2_with (gi_at_fn (ρ.f 11);refine (acq {L with} (n-1) (by omega) g lb c zs d _ h).mono ?_;rintro e w' ⟨v,rfl,u,q⟩)
 go_ret
 simp_all
def xR (xs:List Int):Option ((List Int×Unit)×Unit):=match Nat.ble xs.length bu with
 |true=>some ((xs,()),())
 |false=>none
def El (f:Nat):aB:=
 {params:=[.bV f [.bw (.slice (.int .i64))]],results:=[.slice (.int .i64)],h:=fun ds k=>match ds with
  |[⟨.slice (.int .i64),xs⟩]=>match xR xs with
   |none=>none
   |some v=>k [⟨.slice (.int .i64),v.1.1⟩] []
  |_=>none}
theorem UL {w:World} {b cap:Nat} {c:Array Value} {d:TypeId} {zs:List Int} (f:w.heap[b]?=some (.cells c d (0,0))) (j:zs.length≤cap) (q:zs.length≤eZ) (l:c.size=cap*1) (h4:c.toList.take zs.length=zs.map encZ):
 ∃h,FT.bq h=[]∧bb w (.slice (.int .i64)) zs (.node (some b) cap h) [.slice (some ⟨b,0,none⟩) zs.length cap]:=by
 have r:∀n,FT.bq (List.replicate n FT.leaf)=[]:=fun n=>by
  induction n with
  |zero=>rfl
  |succ n u=>rw [List.replicate_succ,FT.bq,u];rfl
 refine ⟨List.replicate zs.length .leaf,r _,some b,cap,_,rfl,rfl,j,q,List.length_replicate ..,⟨c,d,f,by simpa [Ty.size] using l.symm⟩,fun i x k g hk=>?_⟩;have o:i<zs.length:=(bR.1 g).1;obtain rfl:k=.leaf:=(rC (cS hk));refine ⟨[.int .i64 x],⟨c,d,(0,0),f,by simp [Ty.size];omega,?_⟩,bb.gv (t:=.int .i64) rfl trivial rfl⟩;simp only [Ty.size,Nat.mul_one];have e:(c.toList.take zs.length)[i]?=some (.int .i64 x):=by rw [h4,jI,show zs[i]?=some x from g];rfl
 rw [List.getElem?_take_of_lt o] at e;obtain ⟨v,y⟩:=bR.1 e;rw [kc v,y];rfl
theorem agr {w:World} {bg:Nat} {u:TypeId} {v:Value} {zs:List Int} (h:w.ownsRow bg u 1 v zs.length (zs.map encZ)) (q:zs.length≤eZ):
 ∃f,bb w (.slice (.int .i64)) zs f [v]∧f.ae.Nodup∧∀b∈f.ae,bg≤b∧b<w.heap.size:=by
 rcases h.2 with ⟨rfl,g⟩|⟨b,cap,x,rfl,d,n,j,y,l,h4⟩
 obtain rfl:=hI.1 g;exact ⟨.node none 0 [],⟨none,0,[],rfl,rfl,cf _,bM _,rfl,rfl⟩,by simp [FT.ae,FT.bq],fun b d=>by simp [FT.ae,FT.bq] at d⟩;obtain ⟨z,e,r⟩:=UL n j q l (by simpa using h4);refine ⟨_,r,by simp [FT.ae,e],fun c o=>?_⟩;simp [FT.ae,e] at o
 grind
theorem Q6 {w:World} {R:Nat→Prop} {m:PM} {ds:List D} {vs:List Value} {b:List Gh} (h:l1 w R [m] ds vs b):∃v g,vs=[v]∧b=[g]∧zj w R m ds v g:=by
 cases vs with
 |nil=>cases b<;>exact h.elim
 |cons v vs=>cases b with
  |nil=>exact h.elim
  |cons g b=>
   obtain ⟨f,c,rfl,e,d⟩:=h;cases vs with
   |cons _ _=>cases b<;>cases c<;>exact d.elim
   |nil=>cases b with
    |cons _ _=>cases c<;>exact d.elim
    |nil=>cases c with
     |cons _ _=>exact d.elim
     |nil=>simp_all
theorem ail {w:World} {R:Nat→Prop} {m:PM} {ds:List D} {vs:List Value} (h:vc w R [m] ds vs):∃d v,ds=[d]∧vs=[v]∧zk w R m d v:=by
 cases ds with
 |nil=>cases vs<;>exact h.elim
 |cons d ds=>cases vs with
  |nil=>exact h.elim
  |cons v vs=>
   obtain ⟨c,b⟩:=h;cases ds<;>cases vs<;>first|exact b.elim|simp_all
theorem adf (L:SlLaysZI.n8 P ρ) {g:Nat} (U:∀args w,(callFunc g args).run P w=.ok (.enter g args) w)
 (am:∀(n:Nat) (w:World) (d off:Nat) (a:Option Addr) (cap:Nat) (zs:List Int),1≤n→zs.length≤4294967296→w.cell? ⟨d,off,none⟩=some (.slice a zs.length cap)→
  (zs≠[]→∃b o,a=some ⟨b,o,none⟩∧∀j,j<zs.length→w.cell? ⟨b,o+j,none⟩=some (.int .i64 (zs[j]?.getD 0)))→
  SeqStopsK Fence.wide n P g #[.pointer (some ⟨d,off,none⟩)] (fun x:Int=> #[Value.int .i64 x]) (Below w.heap.size) (fun au=>au=zs) (fun _=>True) zs.length w):aN P (ρ.f 8) (El g):=by
 refine ⟨fun σ ds k=>?_,fun t y=>?_,fun w R ds vs X aq ao aj ae=>?_⟩;unfold aB.g El
 grind
 obtain rfl:t=.slice (.int .i64):=by simpa [El] using y
 exact Ty.o8 (by decide)
 ·have Z:l1 w R [.bV g [.bw (.slice (.int .i64))]] ds vs X:=aj.args;obtain ⟨ax,W,rfl,rfl,J,vs,rfl,aa⟩:=Q6 Z;obtain ⟨⟨t,xs⟩,v,rfl,rfl,y,z⟩:=ail aa;dsimp only at y z;subst y;have h:(match xR xs with
   |none=>none
   |some v=>some ([(⟨.slice (.int .i64),v.1.1⟩:D)],[]))=some (aq,ao):=ae
  unfold xR at h;split at h;cases h;rename_i u K;split at K;rotate_left;cases K;rename_i q;obtain rfl:=bk K;simp only [az,aO] at h;obtain ⟨rfl,rfl⟩:=h;have q:List.length (α:=Int) xs≤4294967296:=pV q;rcases z with z|⟨cs,⟨d,off,c,rfl,av,ab,a,cap,rfl,_,ad⟩,Y⟩
  cases z;obtain rfl:Value.pointer (some ⟨d,off,none⟩)=v:=by simpa [TV.agg] using Y
  have cell:∀{b o:Nat} {u:Value},At w b o 1 [u]→w.cell? ⟨b,o,none⟩=some u:=by
   rintro b o u ⟨row,e,fz,C,I,ap⟩;have:row.toList[o]?=some u:=by
    have:=dx (fun l=>l[0]?) ap
    grind
   simpa [World.cell?,C] using this
  have al:=am 2 w d off a cap xs (by omega) q (cell ab) fun ah=>by
   obtain ⟨b,o,rfl,_,an⟩:=ad ah;refine ⟨b,o,rfl,fun j O=>?_⟩;obtain ⟨c,C,I⟩:=an j _ (aT O);have I:_∧_∧c=[Value.int .i64 _]:=I;rw [I.2.2] at C;rw [aT O];exact cell (by simpa [Ty.size] using C)
  refine .inl ⟨L.f8.enters rfl,(callsIn_wide (n:=4)).1 ((ade L 4 (by omega) g _ U xs q w al).mono ?_)⟩;rintro e w' ⟨ar,rfl,ak,r⟩;obtain ⟨f,ai,ag,aw⟩:=agr ak (DY (show _≤bu from q));refine ⟨[f],[W],⟨f,rfl,[ar],ai,rfl⟩,rfl,⟨J,trivial⟩,?_,?_,⟨r.size,r.os,r.output⟩,fun b af _=>r.block b af⟩;simp [FT.bq,bT,J];exact ag;intro b ac;simp [FT.bq,bT,J] at ac;simp_all
theorem Rj:∀b:List FT,(∀k∈b,k.ae=[])→FT.bq b=[]
 |[],_=>rfl
 |k::b,h=>by rw [FT.bq,h k (by simp),Rj b fun k hk=>h k (by simp [hk])];rfl
def uO (xs:List Int):Option (Unit×List Int×Unit):=match Nat.ble xs.length bu with
 |true=>some ((),xs.mergeSort (fun x y=>decide (x≤y)),())
 |false=>none
def ME:aB:=
 {params:=[.mut (.slice (.int .i64))],results:=[],h:=fun ds k=>match ds with
  |[⟨.slice (.int .i64),xs⟩]=>match uO xs with
   |none=>none
   |some v=>k [] [⟨.slice (.int .i64),v.2.1⟩]
  |_=>none}
theorem ali (L:SlLaysM.n5 P ρ):aN P (ρ.f 5) ME:=by
 refine ⟨fun σ ds k=>?_,fun t K=>(by cases K),fun w R ds vs am a4 a2 I ap=>?_⟩;unfold aB.g ME
 grind
 ·have an:l1 w R [.mut (.slice (.int .i64))] ds vs am:=I.args;obtain ⟨v,g,rfl,rfl,X⟩:=Q6 an;cases ds with
  |nil=>exact X.elim
  |cons d ds=>
  cases ds with
  |cons _ _=>exact X.elim
  |nil=>
  obtain ⟨t,xs⟩:=d;obtain ⟨K,_,ab,ah⟩:=X;dsimp only at K ah;subst K;have r:(match uO xs with
   |none=>none
   |some v=>some ([],[(⟨.slice (.int .i64),v.2.1⟩:D)]))=some (a4,a2):=ap
  unfold uO at r;split at r;cases r;rename_i u Z;split at Z;rotate_left;cases Z;rename_i af;obtain rfl:=bk Z;simp only [az,aO] at r;obtain ⟨rfl,rfl⟩:=r;have af:List.length (α:=Int) xs≤4294967296:=pV af;change List Int at xs;obtain ⟨b,cap,h,ad,ao,C,U,W,h4⟩:=ah;have ay:v=.slice (b.map (⟨·,0,none⟩)) xs.length cap:=List.head_eq_of_cons_eq ao;subst ay;have aq:bT [g]=b.toList++FT.bq h:=by simp [bT,Gh.ae,ab,ad,FT.ae]
  refine .inl ⟨L.f5.enters rfl,?_⟩;have C:xs.length≤cap:=C;have U:xs.length≤eZ:=U;have W:h.length=xs.length:=W;obtain ⟨j,aa⟩:∃j,j=xs.mergeSort fun x y=>decide (x≤y):=⟨_,rfl⟩
  have ak:j.length=xs.length:=by rw [aa];simp
  rw [←aa];cases b with
  |none=>
   dsimp only at h4;subst h4;have a0:xs=[]:=hI.1 (Nat.le_zero.1 C);subst a0;obtain rfl:j=[]:=hI.1 ak;refine (AnyM.slices_Sort_int_none L none 0 w).mono ?_;rintro e w' ⟨rfl,rfl⟩;refine ⟨[],[g],⟨rfl,rfl⟩,rfl,⟨⟨rfl,ab,none,0,h,ad,rfl,C,U,W,rfl⟩,trivial⟩,by simpa [FT.bq] using I.b7,fun b o=>?_,gj.refl _,fun _ _ _=>rfl⟩;have o:b∈bT [g]:=by grind
   exact ⟨(I.bK b o).2,.inl o⟩
  |some O=>
   obtain ⟨⟨row,a9,J,av⟩,ac⟩:=h4;have au:∀k∈h,k.ae=[]:=fun k hk=>by
    obtain ⟨i,hi⟩:=oo.1 hk;have Y:i<xs.length:=by grind
    obtain ⟨c,_,q⟩:=ac i _ k (aT Y) hi;have q:_∧_∧k.ae=[]∧_:=q;exact q.2.2.1
   have a6:FT.bq h=[]:=Rj h au;have ax:row.toList.take xs.length=xs.map encZ:=by
    apply lW;intro i;by_cases hi:i<xs.length;have ar:i<h.length:=by omega
    obtain ⟨c,⟨mP,a5,fz,al,a8,a3⟩,q⟩:=ac i _ _ (aT hi) (aT ar);have q:_∧_∧_∧c=[Value.int .i64 _]:=q;rw [J] at al;obtain ⟨rfl,_⟩:=Obj.cells.inj (bk al);rw [List.getElem?_take_of_lt hi,jI,aT hi];have:=dx (fun l=>l[0]?) a3
    grind
    grind
   have aw:row.size=cap*1:=by simpa [Ty.size] using av.symm
   refine (AnyM.slices_Sort_int L O 0 cap xs w (holds_of_block_i J ax) (pK.1 J).1 (by omega)).mono ?_;rintro e w' ⟨rfl,n,os,rfl⟩;rw [←aa];have z:=grownBy_sorted_i (w:=w) (g:=O) (n:=n) (os:=os) j.toArray;obtain ⟨a1,aj,ai⟩:=UL (cap:=cap) (zs:=j) (heap_sorted_i (n:=n) (os:=os) j.toArray J) (by omega) (by omega) (by rw [←aw];simp [Go.Sort.putCells]) (take_putCells_i row _ (by omega));rw [ak] at ai;refine ⟨[],[⟨none,.node (some O) cap a1⟩],⟨rfl,rfl⟩,rfl,⟨⟨rfl,rfl,ai⟩,trivial⟩,by simp [FT.bq,bT,Gh.ae,FT.ae,aj],fun b o=>?_,⟨z.size,z.os,z.output⟩,fun b Y a7=>z.block b Y fun e=>?_⟩;simp [FT.bq,bT,Gh.ae,FT.ae,aj] at o;subst o;have ag:b∈bT [g]:=by rw [aq];simp
   exact ⟨jL (I.bK b ag).2 z.size,.inl ag⟩;simp_all
end Go.TM
namespace Go.bz
open Go.TM
abbrev dr:=Int×Int×Unit
def eW (fr:Nat→Bool) (a k:Nat):Bool:=a%2^k==0&&(List.range (2^k)).all fun i=>fr (a+i)
def kZ (fr:Nat→Bool) (a:Nat):Option Nat:=
 if eW fr a 3 then some 3 else if eW fr a 2 then some 2 else if eW fr a 1 then some 1 else if eW fr a 0 then some 0 else none
def hg (fr:Nat→Bool) (n:Nat):Nat→Nat→List dr
 |0,_=>[]
 |f+1,a=>if a<n then match kZ fr a with
  |none=>hg fr n f (a+1)
  |some k=>((a:Int),(k:Int),())::hg fr n f (a+2^k) else []
def je (fr:Nat→Bool) (n:Nat):List dr:=hg fr n (n+1) 0
def cQ (r:dr):List Int:=(List.range (2^r.2.1.toNat)).map fun i:Nat=>r.1+(i:Int)
theorem tP {fr:Nat→Bool} {a k:Nat}:eW fr a k=true↔a%2^k=0∧∀i,i<2^k→fr (a+i)=true:=by
 simp [eW]
theorem ys {fr:Nat→Bool} {a k:Nat} (h:kZ fr a=some k):k≤3∧eW fr a k=true∧∀j,k<j→j≤3→eW fr a j=false:=by
 unfold kZ at h
 grind
theorem ago {fr:Nat→Bool} {a:Nat} (h:kZ fr a=none):fr a=false:=by
 unfold kZ at h;split at h;cases h;split at h;cases h;split at h;cases h;split at h;cases h;rename_i b;simpa [eW,Nat.mod_one] using b
theorem xX {n a k:Nat} (c:n%8=0) (hk:k≤3) (b:a%2^k=0) (h:a<n):a+2^k≤n:=by
 rcases (by omega:k=0∨k=1∨k=2∨k=3) with rfl|rfl|rfl|rfl<;>simp at* <;>omega
def KJ (r q:dr):Prop:=r.1+2^r.2.1.toNat≤q.1∧¬(r.2.1=q.2.1∧r.2.1<3∧r.1%(2*2^r.2.1.toNat)=0∧q.1=r.1+2^r.2.1.toNat)
def chain:List dr→Prop
 |r::q::l=>KJ r q∧chain (q::l)
 |_=>True
def agk (fr:Nat→Bool) (n:Nat) (r:dr):Prop:=∃a k:Nat,r=((a:Int),(k:Int),())∧k≤3∧a%2^k=0∧a+2^k≤n∧∀i,i<2^k→fr (a+i)=true
theorem VL {fr:Nat→Bool} {n:Nat} (j:n%8=0):∀(f a:Nat),∀r∈hg fr n f a,agk fr n r∧(a:Int)≤r.1:=by
 intro f
 induction f with
 |zero=>intro a r b;cases b
 |succ f l=>
  intro a r b;unfold hg at b;split at b;rename_i h;split at b
  grind
  rename_i k hk;obtain ⟨c,e,_⟩:=ys hk;obtain ⟨d,g⟩:=tP.1 e;rcases cy.1 b with rfl|b
  exact ⟨⟨a,k,rfl,c,d,xX j c d h,g⟩,by simp⟩
  grind
  cases b
theorem aiB {fr:Nat→Bool} {n:Nat}:∀(f a:Nat) (q:dr) (l:List dr),hg fr n f a=q::l→(a:Int)≤q.1∧(q.1=(a:Int)→∃k:Nat,q.2.1=(k:Int)∧kZ fr a=some k):=by
 intro f
 induction f with
 |zero=>intro a q l h;cases h
 |succ f b=>
  intro a q l h;unfold hg at h
  grind
theorem ac7 {fr:Nat→Bool} {a k:Nat} (b:eW fr a k=true) (c:eW fr (a+2^k) k=true) (d:a%(2*2^k)=0):eW fr a (k+1)=true:=by
 rw [tP] at*;refine ⟨by grind,fun i hi=>?_⟩;rw [Nat.pow_succ] at hi;by_cases h:i<2^k;exact b.2 i h;have:=c.2 (i-2^k) (by omega)
 grind
theorem aiz {fr:Nat→Bool} {n:Nat}:∀(f a:Nat),chain (hg fr n f a):=by
 intro f
 induction f with
 |zero=>intro a;trivial
 |succ f d=>
  intro a;unfold hg;split;split;exact d _;rename_i k hk;have b:=d (a+2^k);cases c:hg fr n f (a+2^k) with
  |nil=>trivial
  |cons q l=>
   rw [c] at b;refine ⟨?_,b⟩;obtain ⟨x,r⟩:=aiB f _ q l c;obtain ⟨y,h4,h5⟩:=ys hk;have u:((2:Int)^k)=((2^k:Nat):Int):=by simp
   refine ⟨by grind,?_⟩;rintro ⟨e,g,h,j⟩;simp only [er,u] at e g h j;obtain ⟨k',z,v⟩:=r (by omega);obtain rfl:k=k':=by omega
   have o:a%(2*2^k)=0:=by
    grind
   have:=ac7 h4 (ys v).2.1 o
   grind
  trivial
theorem aiC {fr:Nat→Bool} {n:Nat}:∀(f a:Nat),(hg fr n f a).length≤n-a:=by
 intro f
 induction f with
 |zero=>intro a;simp [hg]
 |succ f b=>
  intro a;unfold hg
  grind
theorem ad1 {fr:Nat→Bool} {a:Nat}:∀s,(∀i,i<s→fr (a+i)=true)→(List.range' a s).filter fr=List.range' a s:=by
 intro s h;rw [List.filter_eq_self];intro x b;rw [List.mem_range'_1] at b;have:=h (x-a) (by omega);simp_all
theorem KD (a k:Nat):cQ ((a:Int),(k:Int),())=(List.range' a (2^k)).map fun i:Nat=>(i:Int):=by
 unfold cQ;rw [List.range'_eq_map_range,List.map_map];simp
theorem aiA {fr:Nat→Bool} {n:Nat} (l:n%8=0):∀(f a:Nat),n-a<f→(hg fr n f a).flatMap cQ=((List.range' a (n-a)).filter fr).map fun i:Nat=>(i:Int):=by
 intro f
 induction f with
 |zero=>intro a h;omega
 |succ f b=>
  intro a h;unfold hg;split;rename_i g;split;rename_i hk;rw [b (a+1) (by omega)];have:n-a=(n-(a+1))+1:=by omega
  rw [this,List.range'_succ,List.filter_cons,aj (by simp [ago hk])];rename_i k hk;obtain ⟨c,d,_⟩:=ys hk;obtain ⟨j,e⟩:=tP.1 d;have o:=xX l c j g;have q:=kF k;rw [List.flatMap_cons,b (a+2^k) (by omega),KD];have:n-a=2^k+(n-(a+2^k)):=by omega
  rw [this,←List.range'_append_1,hG,e2,ad1 _ e];simp_all
theorem FD {fr b:Nat→Bool} {n:Nat} (e:n%8=0) (h:∀i,i<n→fr i=b i):∀(f a:Nat),hg fr n f a=hg b n f a:=by
 intro f
 induction f with
 |zero=>intro a;rfl
 |succ f o=>
  intro a;unfold hg;split;rename_i d;have j:∀k,k≤3→eW fr a k=eW b a k:=by
   intro k hk;rw [gO,tP,tP];constructor;rintro ⟨c,g⟩;have:=xX e hk c d
   grind
   rintro ⟨c,g⟩;have:=xX e hk c d
   grind
  have l:kZ fr a=kZ b a:=by
   unfold kZ;simp_all
  simp_all;rfl
abbrev cr:=Int×Int×List Bool×Unit
abbrev bZ:=Int×Int×Int×Int×Int×Unit
abbrev cC:=Int×Int×Bool×Unit
abbrev dt:=Bool×Int×List cC×Unit
abbrev dL:=Int×List Int×Unit
abbrev YK:=Int×Int×Bool×Bool×Unit
abbrev MD:=List (List Int)×List Int×List dr×List cr×List bZ×Int×List dt×List dL×List Int×List Int×Unit
structure M where
 mem:List (List Int)
 st:List Int
 bI:List dr
 aC:List cr
 au:List bZ
 next:Int
 af:List dt
 aD:List dL
 aK:List Int
 bn:List Int
@[reducible] def M.d (m:M):MD:=(m.mem,m.st,m.bI,m.aC,m.au,m.next,m.af,m.aD,m.aK,m.bn,())
inductive E where
 |no
 |pg (f:Nat) (w r:Bool)
 |sl (i:Nat)
 deriving DecidableEq
def E.w:E→Int
 | .no=>0
 | .pg f w r=>1+8*(f:Int)+(if w then 2 else 0)+(if r then 4 else 0)
 | .sl i=>2+4*(i:Int)
def E.t:E→YK
 | .no=>(-1,-1,false,false,())
 | .pg f w r=>(f,-1,w,r,())
 | .sl i=>(-1,i,false,false,())
def E.ok:E→Prop
 | .no=>True
 | .pg f _ _=>f<32
 | .sl i=>i<16
structure G where
 tb:Nat→Option Nat
 en:Nat→E
def row (mem:List (List Int)) (f:Nat):List Int:=mem.getD f []
def bX (mem:List (List Int)) (f k:Nat):Int:=(row mem f).getD k 0
def aq (st:List Int) (f:Nat):Int:=st.getD f 9
def tI:Option Nat→Int
 |none=> -1
 |some f=>f
def tW:Option Nat→Int
 |none=>0
 |some f=>f+1
def ay (sp:List dt) (s:Nat):dt:=sp.getD s (false,-1,[],())
def cK (mem:List (List Int)) (f k:Nat) (v:Int):List (List Int):=mem.set f ((row mem f).set k v)
def bj (rg:List cC) (p:Nat):Int:=rg.foldl (fun a r=>if r.1≤(p:Int)∧(p:Int)<r.2.1 then (if r.2.2.1 then 2 else 1) else a) 0
def aY (sp:List dt) (s:Nat):List cC:=(ay sp s).2.2.1
def Fw (r q:cC):Prop:=r.2.1≤q.1∧(r.2.1=q.1→r.2.2.1≠q.2.2.1)
def n0:List cC→Prop
 |r::q::l=>Fw r q∧n0 (q::l)
 |_=>True
def hN (rg:List cC):Prop:=rg.length≤12∧(∀r∈rg,0≤r.1∧r.1<r.2.1∧r.2.1≤64)∧n0 rg
structure fg (mem:List (List Int)):Prop where
 lo:8≤mem.length
 hi:mem.length≤32
 m8:mem.length%8=0
 mQ:∀r∈mem,r.length=4∧∀x∈r,0≤x∧x≤100000
structure fh (n:Nat) (st:List Int):Prop where
 len:st.length=n
 val:∀f,f<n→0≤aq st f∧aq st f≤5∧(aq st f=1↔f<2)
structure fQ (mem:List (List Int)) (sp:List dt) (g:G):Prop where
 fB:∀s,s<4→(ay sp s).2.1=tI (g.tb s)
 cZ:∀x,x<20→∀k,k<4→∀f,g.tb x=some f→bX mem f k=tW (g.tb (4*x+4+k))
 leaf:∀q,q<64→∀k,k<4→∀f,g.tb (20+q)=some f→bX mem f k=(g.en (4*q+k)).w
 c1:∀x,x<20→g.tb x=none→∀k,k<4→g.tb (4*x+4+k)=none
 hS:∀q,q<64→g.tb (20+q)=none→∀k,k<4→g.en (4*q+k)=.no
structure kL (tb:Nat→Option Nat) (st:List Int):Prop where
 inj:∀x y f,x<84→y<84→tb x=some f→tb y=some f→x=y
 fN:∀f,aq st f=4↔∃x,x<84∧tb x=some f
def NZ (tb:Nat→Option Nat) (en:Nat→E) (z:Nat):Prop:=∀x,x<84→x≠z→tb x≠none→(x<20→∃k,k<4∧tb (4*x+4+k)≠none)∧(20≤x→∃k,k<4∧en (4*(x-20)+k)≠ .no)
structure I6 (sp:List dt):Prop where
 len:sp.length=4
 hY:∀s,s<4→hN (aY sp s)
 hv:∀s,s<4→(ay sp s).1=false→(ay sp s).2.1= -1∧aY sp s=[]
structure Az (en:Nat→E) (st:List Int) (sp:List dt) (n:Nat):Prop where
 pg:∀y,y<256→∀f w r,en y=.pg f w r→aq st f=5∧0<bj (aY sp (y/64)) (y%64)∧(w=true→bj (aY sp (y/64)) (y%64)=2)
 sl:∀y,y<256→∀i,en y=.sl i→i<n∧0<bj (aY sp (y/64)) (y%64)
def cJ (en:Nat→E) (i:Nat):Nat:=((List.range 256).filter fun y=>en y=.sl i).length
structure jN (sl:List dL) (en:Nat→E):Prop where
 len:sl.length≤16
 cJ:∀i x,sl[i]?=some x→x.1=(cJ en i:Int)
 zero:∀x∈sl,x.1=0→x.2.1=[]
 held:∀x∈sl,x.1≠0→x.2.1.length=4∧∀v∈x.2.1,0≤v∧v≤100000
structure kg (en:Nat→E):Prop where
 pg:∀y z f w r w' b,y<256→z<256→en y=.pg f w r→en z=.pg f w' b→y%64=z%64∧(y≠z→w=false)
 sl:∀y z i,y<256→z<256→en y=.sl i→en z=.sl i→y%64=z%64
structure YS (a i:List Int) (st:List Int):Prop where
 b7:(a++i).Nodup
 mem:∀x,x∈a++i↔∃f:Nat,x=f∧aq st f=5
def YT (en:Nat→E) (st:List Int):Prop:=∀f,aq st f=5→∃y w r,y<256∧en y=.pg f w r
def gw (w:Int):Int:=if w≤4 then 0 else if w≤8 then 1 else if w≤16 then 2 else 3
def cH (w:Int):Int:=if w=1 then 1 else if w=2 then 2 else 4
def cD (au:List bZ):List Int:=au.flatMap fun x=>if x.2.2.1= -1 then cQ (x.2.1,x.2.2.2.1,()) else []
structure lq (s:cr):Prop where
 lo:0≤s.1
 hi:s.1≤31
 size:s.2.1=1∧s.2.2.1.length=4∨s.2.1=2∧s.2.2.1.length=2∨s.2.1=4∧s.2.2.1.length=1
 Yi:true∈s.2.2.1
def LQ (aC:List cr) (x:bZ):Prop:=∃s∈aC,s.1=x.2.1∧x.2.2.2.1=0∧0≤x.2.2.1∧s.2.2.1[x.2.2.1.toNat]?=some true∧1≤x.2.2.2.2.1∧x.2.2.2.2.1≤4∧cH x.2.2.2.2.1=s.2.1
structure fu (n:Nat) (st:List Int) (aC:List cr) (au:List bZ) (next:Int):Prop where
 k4:aC.length≤32
 e1:∀s∈aC,lq s
 jf:aC.Pairwise fun s t=>s.1<t.1
 hC:∀f,aq st f=2↔∃s∈aC,s.1=f
 nV:1≤next
 ux:next≤100000
 nX:au.length≤40
 pn:au.Pairwise fun x y=>x.1<y.1
 lK:∀x∈au,1≤x.1∧x.1<next
 j3:∀x∈au,x.2.2.1= -1→5≤x.2.2.2.2.1∧x.2.2.2.2.1≤32∧x.2.2.2.1=gw x.2.2.2.2.1∧0≤x.2.1∧x.2.1%2^x.2.2.2.1.toNat=0∧x.2.1+2^x.2.2.2.1.toNat≤n
 jA:∀x∈au,x.2.2.1≠ -1→LQ aC x
 nW:au.Pairwise fun x y=>x.2.2.1≠ -1→¬(x.2.1=y.2.1∧x.2.2.1=y.2.2.1)
 bu:(cD au).Nodup
 jr:∀f:Nat,(f:Int)∈cD au↔aq st f=3
 sum:(aC.map fun s=>s.2.2.1.count true).sum=au.countP fun x=>x.2.2.1 != -1
def ez (st:List Int):List dr:=je (fun f=>aq st f==0) st.length
structure ap (m:M) (g:G) (z:Nat):Prop where
 mm:fg m.mem
 sn:fh m.mem.length m.st
 fr:m.bI=ez m.st
 kr:fu m.mem.length m.st m.aC m.au m.next
 sp:I6 m.af
 rp:fQ m.mem m.af g
 tx:kL g.tb m.st
 nz:NZ g.tb g.en z
 eo:Az g.en m.st m.af m.aD.length
 sl:jN m.aD g.en
 pg:kg g.en
 ls:YS m.aK m.bn m.st
 mp:YT g.en m.st
def bD {α:Type} (f:Nat→α) (y:Nat) (v:α):Nat→α:=fun x=>if x=y then v else f x
@[simp] theorem b8 {α:Type} (f:Nat→α) (y:Nat) (v:α):bD f y v y=v:=by simp [bD]
theorem be {α:Type} {f:Nat→α} {x y:Nat} {v:α} (h:x≠y):bD f y v x=f x:=by simp [bD,h]
theorem lC {α:Type} {l:List α} {f g:Nat} {v d:α} (b:f<l.length):(l.set f v).getD g d=if g=f then v else l.getD g d:=by
 grind
theorem lO {mem:List (List Int)} {f g:Nat} {r:List Int} (b:f<mem.length):row (mem.set f r) g=if g=f then r else row mem g:=lC b
theorem gx {st:List Int} {f g:Nat} {v:Int} (b:f<st.length):aq (st.set f v) g=if g=f then v else aq st g:=lC b
theorem kA {sp:List dt} {f g:Nat} {v:dt} (b:f<sp.length):ay (sp.set f v) g=if g=f then v else ay sp g:=lC b
theorem F6 {mem:List (List Int)} {f k g j:Nat} {v:Int} (b:f<mem.length) (hk:k<(row mem f).length):bX (cK mem f k v) g j=if g=f∧j=k then v else bX mem g j:=by
 unfold bX cK;rw [lO b]
 grind
theorem y8 {mem:List (List Int)} {f g j:Nat} {r:List Int} (h:g≠f):bX (mem.set f r) g j=bX mem g j:=by
 unfold bX row
 grind
theorem iZ {mem:List (List Int)} {f k:Nat} {v:Int}:(cK mem f k v).length=mem.length:=by simp [cK]
theorem gb {mem:List (List Int)} {f:Nat} (b:f<mem.length):mem[f]?=some (row mem f)∧row mem f∈mem:=by
 unfold row;simp_all
theorem fg.row {mem:List (List Int)} (h:fg mem) {f:Nat} (b:f<mem.length):(row mem f).length=4∧∀x∈Go.bz.row mem f,0≤x∧x≤100000:=h.mQ _ (gb b).2
theorem fg.bX {mem:List (List Int)} (h:fg mem) {f k:Nat} (b:f<mem.length) (hk:k<4):(Go.bz.row mem f)[k]?=some (bX mem f k)∧0≤bX mem f k∧bX mem f k≤100000:=by
 obtain ⟨c,d⟩:=h.row b;unfold bz.bX;simp_all
theorem fg.set {mem:List (List Int)} (h:fg mem) {f:Nat} {r:List Int} (c:r.length=4∧∀x∈r,0≤x∧x≤100000):fg (mem.set f r):=by
 refine ⟨by simpa using h.lo,by simpa using h.hi,by simpa using h.m8,fun q b=>?_⟩;rcases m2 b with b|rfl
 exact h.mQ _ b;exact c
theorem fg.cK {mem:List (List Int)} (h:fg mem) {f k:Nat} {v:Int} (c:f<mem.length) (d:0≤v∧v≤100000):fg (cK mem f k v):=by
 refine h.set ⟨by simpa using (h.row c).1,fun x b=>?_⟩;rcases m2 b with b|rfl
 exact (h.row c).2 x b;exact d
theorem fh.lt {n:Nat} {st:List Int} (h:fh n st) {f:Nat} (b:aq st f≠9):f<n:=by
 rw [←h.len];apply ho;intro c;apply b;simp [aq,g2 (by omega:st.length≤f)]
theorem kL.lt {n:Nat} {tb:Nat→Option Nat} {st:List Int} (h:kL tb st) (c:fh n st) {x f:Nat} (d:x<84) (b:tb x=some f):f<n:=
 c.lt (by rw [(h.fN f).2 ⟨x,d,b⟩];decide)
theorem fQ.off {mem mem':List (List Int)} {sp:List dt} {g:G} (h:fQ mem sp g) (c:∀x f,x<84→g.tb x=some f→∀k,k<4→bX mem' f k=bX mem f k):fQ mem' sp g:=by
 refine ⟨h.fB,fun x e k hk f b=>?_,fun q d k hk f b=>?_,h.c1,h.hS⟩;rw [c x f (by omega) b k hk];exact h.cZ x e k hk f b;rw [c _ f (by omega) b k hk];exact h.leaf q d k hk f b
theorem fQ.set {mem:List (List Int)} {sp:List dt} {tb:Nat→Option Nat} {en:Nat→E} (h:fQ mem sp ⟨tb,en⟩) (hi:∀x y f,x<84→y<84→tb x=some f→tb y=some f→x=y)
 {y f:Nat} {e:E} (u:y<256) (l:tb (20+y/4)=some f) (j:f<mem.length) (r:(row mem f).length=4):fQ (cK mem f (y%4) e.w) sp ⟨tb,bD en y e⟩:=by
 have hk:y%4<(row mem f).length:=by omega
 refine ⟨h.fB,fun x o k c g b=>?_,fun q d k c g b=>?_,h.c1,fun q d n k c=>?_⟩;rw [F6 j hk,aj];exact h.cZ x o k c g b
 grind
 simp only at b⊢;rw [F6 j hk];by_cases e:4*q+k=y;have:q=y/4:=by omega
 subst this;rw [l] at b;obtain rfl:=bk b;rw [ak ⟨rfl,by omega⟩];simp [e];rw [aj];simp only [be e];exact h.leaf q d k c g b
 grind
 have:4*q+k≠y:=by
  grind
 simp only [be this];exact h.hS q d n k c
theorem NZ.set {tb:Nat→Option Nat} {en:Nat→E} {z y:Nat} {e:E} (h:NZ tb en z) (o:z=84∨z=20+y/4) (j:e≠ .no):NZ tb (bD en y e) 84:=by
 intro x n _ l;by_cases c:x=20+y/4;refine ⟨fun h=>by omega,fun _=>⟨y%4,by omega,?_⟩⟩;rw [show 4*(x-20)+y%4=y by omega,b8];exact j;obtain ⟨b,d⟩:=h x n (by omega) l;refine ⟨b,fun f=>?_⟩;obtain ⟨k,hk,g⟩:=d f;exact ⟨k,hk,by rw [be (by omega)];exact g⟩
theorem NZ.Mm {tb:Nat→Option Nat} {en:Nat→E} {z y:Nat} {e:E} (h:NZ tb en z) (n:z=84∨z=20+y/4):NZ tb (bD en y e) (20+y/4):=by
 intro x j l g;obtain ⟨b,c⟩:=h x j (by omega) g;refine ⟨b,fun d=>?_⟩;obtain ⟨k,hk,f⟩:=c d;exact ⟨k,hk,by rw [be (by omega)];exact f⟩
theorem NZ.eg {tb:Nat→Option Nat} {en en':Nat→E} {z:Nat} (h:NZ tb en z) (g:∀y,y<256→en y≠ .no→en' y≠ .no):NZ tb en' z:=by
 intro x c d b;obtain ⟨e,f⟩:=h x c d b
 grind
theorem NZ.x8 {tb:Nat→Option Nat} {en:Nat→E} {z x k f:Nat} (h:NZ tb en z) (u:z=84∨z=x) (r:x<20) (hk:k<4):NZ (bD tb (4*x+4+k) (some f)) en (4*x+4+k):=by
 intro a n o e;rw [be o] at e;by_cases c:a=x;subst c;exact ⟨fun _=>⟨k,hk,by simp_all⟩,fun h=>by omega⟩;obtain ⟨b,d⟩:=h a n (by omega) e;refine ⟨fun g=>?_,d⟩;obtain ⟨j,q,l⟩:=b g;clear b d;exact ⟨j,q,by rw [be (by omega)];exact l⟩
theorem NZ.x9 {tb:Nat→Option Nat} {en:Nat→E} {s f:Nat} (h:NZ tb en 84) (q:s<4):NZ (bD tb s (some f)) en s:=by
 intro a l n d;rw [be n] at d;obtain ⟨b,c⟩:=h a l (by omega) d;refine ⟨fun e=>?_,c⟩;obtain ⟨j,o,g⟩:=b e;clear b c;exact ⟨j,o,by rw [be (by omega)];exact g⟩
theorem NZ.cut {tb:Nat→Option Nat} {en:Nat→E} {x k:Nat} (h:NZ tb en (4*x+4+k)) (q:x<20) (hk:k<4):NZ (bD tb (4*x+4+k) none) en x:=by
 intro a l o e;by_cases c:a=4*x+4+k;simp_all;rw [be c] at e;obtain ⟨b,d⟩:=h a l c e;refine ⟨fun f=>?_,d⟩;obtain ⟨j,n,g⟩:=b f;clear b d;exact ⟨j,n,by rw [be (by omega)];exact g⟩
theorem NZ.Kq {tb:Nat→Option Nat} {en:Nat→E} {s:Nat} (h:NZ tb en s) (q:s<4):NZ (bD tb s none) en 84:=by
 intro a l o e;by_cases c:a=s;simp_all;rw [be c] at e;obtain ⟨b,d⟩:=h a l c e;refine ⟨fun f=>?_,d⟩;obtain ⟨j,n,g⟩:=b f;clear b d;exact ⟨j,n,by rw [be (by omega)];exact g⟩
theorem NZ.tY {tb:Nat→Option Nat} {en:Nat→E} {z:Nat} (h:NZ tb en z) (e:(z<20→∃k,k<4∧tb (4*z+4+k)≠none)∧(20≤z→∃k,k<4∧en (4*(z-20)+k)≠ .no)):NZ tb en 84:=by
 intro x d _ b;by_cases c:x=z;subst c;exact e;exact h x d c b
theorem fQ.x8 {mem:List (List Int)} {sp:List dt} {tb:Nat→Option Nat} {en:Nat→E} (h:fQ mem sp ⟨tb,en⟩) (hi:∀x y f,x<84→y<84→tb x=some f→tb y=some f→x=y)
 {x k p f:Nat} (O:x<20) (hk:k<4) (D:tb x=some p) (v:tb (4*x+4+k)=none) (J:∀y,y<84→tb y≠some f) (z:∀k,k<4→bX mem f k=0) (C:p<mem.length) (K:(row mem p).length=4):
 fQ (cK mem p k ((f:Int)+1)) sp ⟨bD tb (4*x+4+k) (some f),en⟩:=by
 have r:f≠p:=by grind
 have u:∀g j,bX (cK mem p k ((f:Int)+1)) g j=if g=p∧j=k then (f:Int)+1 else bX mem g j:=fun g j=>F6 C (by omega)
 refine ⟨fun s I=>?_,fun x' o k' d g b=>?_,fun q n k' d g b=>?_,fun x' o l k' d=>?_,fun q n l k' d=>?_⟩;simp only [be (show s≠4*x+4+k by omega)];exact h.fB s I;simp only at b⊢;rw [u];by_cases e:x'=4*x+4+k;rw [e,b8] at b;obtain rfl:=bk b;rw [aj (fun c=>r c.1),z k' d,be (by omega)];have:=h.c1 x' o (by rw [e];exact v) k' d;simp only at this;rw [this];rfl;rw [be e] at b;by_cases c:g=p∧k'=k;obtain ⟨rfl,rfl⟩:=c;obtain rfl:=hi _ _ _ (by omega) (by omega) b D;rw [ak ⟨rfl,rfl⟩,b8];rfl;rw [aj c,be];exact h.cZ x' o k' d g b
 grind
 simp only at b⊢;rw [u];by_cases e:20+q=4*x+4+k;rw [e,b8] at b;obtain rfl:=bk b;rw [aj (fun c=>r c.1),z k' d];have:=h.hS q n (by rw [e];exact v) k' d;simp only at this;rw [this];rfl;rw [be e] at b;rw [aj];exact h.leaf q n k' d g b
 grind
 simp only at l⊢;by_cases e:x'=4*x+4+k;simp_all;rw [be e] at l;rw [be];exact h.c1 x' o l k' d
 grind
 simp only at l⊢;by_cases e:20+q=4*x+4+k;simp_all;rw [be e] at l;exact h.hS q n l k' d
theorem fQ.x9 {mem:List (List Int)} {sp sp':List dt} {tb:Nat→Option Nat} {en:Nat→E} (h:fQ mem sp ⟨tb,en⟩)
 {s f:Nat} (v:s<4) (r:tb s=none) (u:∀k,k<4→bX mem f k=0)
 (o:∀t,t<4→(ay sp' t).2.1=if t=s then (f:Int) else (ay sp t).2.1):fQ mem sp' ⟨bD tb s (some f),en⟩:=by
 refine ⟨fun t n=>?_,fun x' j k' c g b=>?_,fun q l k' c g b=>?_,fun x' j d k' c=>?_,fun q l d k' c=>?_⟩;rw [o t n];by_cases e:t=s;subst e;simp [tI];simp only [aj e,be e];exact h.fB t n;simp only at b⊢;rw [be (by omega)];by_cases e:x'=s;subst e;rw [b8] at b;obtain rfl:=bk b;have:=h.c1 x' j r k' c;simp only at this;rw [u k' c,this];rfl;rw [be e] at b;exact h.cZ x' j k' c g b;simp only at b⊢;rw [be (by omega)] at b;exact h.leaf q l k' c g b;simp only at d⊢;rw [be (by omega)];by_cases e:x'=s;simp_all;rw [be e] at d;exact h.c1 x' j d k' c;simp only at d⊢;rw [be (by omega)] at d;exact h.hS q l d k' c
theorem fQ.Rg {mem:List (List Int)} {sp:List dt} {g:G} (h:fQ mem sp g) {y f:Nat} (j:g.tb y=some f) (l:∀k,k<4→bX mem f k=0):
 (y<20→∀k,k<4→g.tb (4*y+4+k)=none)∧(∀q,y=20+q→q<64→∀k,k<4→g.en (4*q+k)=.no):=by
 refine ⟨fun o k hk=>?_,fun q e n k hk=>?_⟩;have:=h.cZ y o k hk f j;rw [l k hk] at this;cases d:g.tb (4*y+4+k) with
 |none=>rfl
 |some v=>rw [d] at this;simp [tW] at this;omega
 subst e;have:=h.leaf q n k hk f j;rw [l k hk] at this;cases d:g.en (4*q+k) with
 |no=>rfl
 |pg a b c=>rw [d] at this;simp only [E.w] at this;omega
 |sl a=>rw [d] at this;simp only [E.w] at this;omega
theorem fQ.cut {mem:List (List Int)} {sp:List dt} {tb:Nat→Option Nat} {en:Nat→E} (h:fQ mem sp ⟨tb,en⟩) (hi:∀x y f,x<84→y<84→tb x=some f→tb y=some f→x=y)
 {x k p f:Nat} (U:x<20) (hk:k<4) (z:tb x=some p) (D:tb (4*x+4+k)=some f) (I:∀k,k<4→bX mem f k=0) (v:p<mem.length) (O:(row mem p).length=4):
 fQ (cK mem p k 0) sp ⟨bD tb (4*x+4+k) none,en⟩:=by
 have u:∀g j,bX (cK mem p k 0) g j=if g=p∧j=k then 0 else bX mem g j:=fun g j=>F6 v (by omega)
 obtain ⟨J,K⟩:=h.Rg D I;refine ⟨fun s C=>?_,fun x' o k' d g b=>?_,fun q n k' d g b=>?_,fun x' o l k' d=>?_,fun q n l k' d=>?_⟩;simp only [be (show s≠4*x+4+k by omega)];exact h.fB s C;simp only at b⊢;rw [u];by_cases e:x'=4*x+4+k;simp_all;rw [be e] at b;by_cases c:g=p∧k'=k;obtain ⟨rfl,rfl⟩:=c;obtain rfl:=hi _ _ _ (by omega) (by omega) b z;rw [ak ⟨rfl,rfl⟩,b8];rfl;rw [aj c,be];exact h.cZ x' o k' d g b
 grind
 simp only at b⊢;rw [u];by_cases e:20+q=4*x+4+k;simp_all;rw [be e] at b;rw [aj];exact h.leaf q n k' d g b
 grind
 simp only at l⊢;by_cases r:4*x'+4+k'=4*x+4+k;rw [r,b8];rw [be r];by_cases e:x'=4*x+4+k
 grind
 rw [be e] at l;exact h.c1 x' o l k' d;simp only at l⊢;by_cases e:20+q=4*x+4+k;simp_all;rw [be e] at l;exact h.hS q n l k' d
theorem fQ.Kq {mem:List (List Int)} {sp sp':List dt} {tb:Nat→Option Nat} {en:Nat→E} (h:fQ mem sp ⟨tb,en⟩)
 {s f:Nat} (y:s<4) (r:tb s=some f) (u:∀k,k<4→bX mem f k=0)
 (o:∀t,t<4→(ay sp' t).2.1=if t=s then -1 else (ay sp t).2.1):fQ mem sp' ⟨bD tb s none,en⟩:=by
 obtain ⟨v,x⟩:=h.Rg r u;refine ⟨fun t n=>?_,fun x' l k' c g b=>?_,fun q j k' c g b=>?_,fun x' l d k' c=>?_,fun q j d k' c=>?_⟩;rw [o t n];by_cases e:t=s;subst e;simp [tI];simp only [aj e,be e];exact h.fB t n;simp only at b⊢;rw [be (by omega)];by_cases e:x'=s;simp_all;rw [be e] at b;exact h.cZ x' l k' c g b;simp only at b⊢;rw [be (by omega)] at b;exact h.leaf q j k' c g b;simp only at d⊢;rw [be (by omega)];by_cases e:x'=s;simp_all;rw [be e] at d;exact h.c1 x' l d k' c;simp only at d⊢;rw [be (by omega)] at d;exact h.hS q j d k' c
theorem kL.add {tb:Nat→Option Nat} {st:List Int} (h:kL tb st) {y f:Nat} (z:y<84) (D:tb y=none) (u:aq st f≠4) (v:f<st.length):kL (bD tb y (some f)) (st.set f 4):=by
 have C:∀x,x<84→tb x≠some f:=fun x d e=>u ((h.fN f).2 ⟨x,d,e⟩)
 refine ⟨fun a b g q r n o=>?_,fun g=>?_⟩;by_cases j:a=y<;>by_cases l:b=y
 rw [j,l];rw [j,b8] at n;rw [be l] at o;simp_all;rw [l,b8] at o;rw [be j] at n;simp_all;rw [be j] at n;rw [be l] at o;exact h.inj a b g q r n o;rw [gx v];by_cases e:g=f;subst e;rw [ak rfl];exact ⟨fun _=>⟨y,z,b8 ..⟩,fun _=>rfl⟩;rw [aj e,h.fN];constructor;rintro ⟨x,d,ex⟩;refine ⟨x,d,?_⟩;rw [be];exact ex
 grind
 rintro ⟨x,d,ex⟩;by_cases c:x=y;simp_all;rw [be c] at ex;exact ⟨x,d,ex⟩
theorem kL.o6 {tb:Nat→Option Nat} {st:List Int} (h:kL tb st) {y f:Nat} (z:y<84) (u:tb y=some f) (v:f<st.length):kL (bD tb y none) (st.set f 0):=by
 refine ⟨fun a b g q r j l=>?_,fun g=>?_⟩;by_cases n:a=y;simp_all;by_cases o:b=y;simp_all;rw [be n] at j;rw [be o] at l;exact h.inj a b g q r j l;rw [gx v];by_cases e:g=f;subst e;rw [ak rfl];refine ⟨(fun c=>by cases c),?_⟩;rintro ⟨x,d,ex⟩;by_cases c:x=y;simp_all;rw [be c] at ex;exact absurd (h.inj _ _ _ d z ex u) c;rw [aj e,h.fN];constructor;rintro ⟨x,d,ex⟩;refine ⟨x,d,?_⟩;rw [be];exact ex
 grind
 rintro ⟨x,d,ex⟩;by_cases c:x=y;simp_all;rw [be c] at ex;exact ⟨x,d,ex⟩
theorem kL.dD {tb:Nat→Option Nat} {st st':List Int} (h:kL tb st) (b:∀f,aq st' f=4↔aq st f=4):kL tb st':=⟨h.inj,fun f=>(b f).trans (h.fN f)⟩
section
variable {α ρ:Type}
theorem a6 {x:Int} (b: -9223372036854775808≤x) (c:x<9223372036854775808):wi x=x:=by
 simp [wi,IntKind.wrap,IntKind.signed,IntKind.bits];split<;>omega
@[simp] theorem aa (v:α) (k:α→Option ρ):cl (some v) k=k v:=rfl
theorem cd {a:Nat} {k:Option ρ} (h:a≤4294967296):gd (Nat.ble a bu) k=k:=by
 rw [show Nat.ble a bu=true from u6 h];rfl
theorem bi (l:List α) (j:Nat) (k:α→Option ρ):gn l j k=cl l[j]? k:=by
 unfold gn cl iV;cases l[j]?<;>rfl
theorem a7 (l:List α) (j:Nat) (k:α→Option ρ):gi l (j:Int) k=cl l[j]? k:=by
 unfold gi cl pb
 grind
theorem ub {l:List α} {i:Int} (h:0≤i) (k:α→Option ρ):gi l i k=cl l[i.toNat]? k:=by
 obtain ⟨n,rfl⟩:=hp h;simpa using a7 l n k
theorem bf {l:List α} {j:Nat} (h:j<l.length) (k:Nat→Option ρ):ix l (j:Int) k=k j:=by
 unfold ix;show (match Nat.blt j l.length with|true=>k j|false=>none)=k j;rw [show Nat.blt j l.length=true from by simp_all]
theorem ud {n j:Nat} (h:j<n) (k:Nat→Option ρ):gJ n (j:Int) k=k j:=by
 show (match Nat.blt j n with|true=>k j|false=>none)=k j;rw [show Nat.blt j n=true from by simp_all]
theorem ar (l:List α):ln l=(l.length:Int):=rfl
theorem b0 {n:Nat} {Q:Nat→Nat→Prop} (b:∀m,Q (m+1) n) (e:∀m i,i<n→Q m (i+1)→Q (m+1) i):∀i m,i≤n→n-i<m→Q m i:=by
 intro i
 induction h:n-i generalizing i with
 |zero=>
  intro m hi c;obtain rfl:i=n:=by omega
  obtain ⟨m,rfl⟩:∃k,m=k+1:=⟨m-1,by omega⟩
  exact b m
 |succ d f=>
  intro m hi c;obtain ⟨m,rfl⟩:∃k,m=k+1:=⟨m-1,by omega⟩
  grind
theorem aM {i:Nat} (h:i<4294967296):wi ((i:Int)+1)=((i+1:Nat):Int):=by
 rw [a6 (by omega) (by omega)];simp
theorem lV {i:Nat} (h:i<4294967296):wi ((i:Int)-1)=(i:Int)-1:=a6 (by omega) (by omega)
theorem yj {β:Type} (L:Nat→List β→Int→Option ρ) (X:List β→Option ρ) (a:List α) (f:α→β)
 (c:∀m acc (i:Nat) x,a[i]?=some x→acc.length=i→L (m+1) acc i=L m (acc++[f x]) ((i+1:Nat):Int)) (e:∀m acc,L (m+1) acc a.length=X acc)
 {N:Nat} (g:a.length<N):L N [] 0=X (a.map f):=by
 have key:=b0 (n:=a.length) (Q:=fun m i=>∀acc,acc=(a.take i).map f→L m acc i=X (a.map f)) (fun m acc b=>by
  simp_all) (fun m i hi d acc b=>by
  rw [c m acc i a[i] (aT hi) (by rw [b];simp;omega)];refine d _ ?_;rw [b,iD,aT hi]
  grind)
 exact key 0 N (bM _) (by omega) [] (by simp)
theorem Eo {β:Type} (L:Nat→List β→Int→Option ρ) (X:List β→Option ρ) (n:Nat) (p:Nat→Bool) (f:Nat→β)
 (d:∀m acc (i:Nat),i<n→acc.length≤i→L (m+1) acc i=L m (if p i then acc++[f i] else acc) ((i+1:Nat):Int)) (c:∀m acc,L (m+1) acc n=X acc)
 {N:Nat} (g:n<N):L N [] 0=X (((List.range n).filter p).map f):=by
 have key:=b0 (n:=n) (Q:=fun m i=>∀acc,acc=((List.range i).filter p).map f→L m acc i=X (((List.range n).filter p).map f)) (fun m acc b=>by
  rw [c,b]) (fun m i hi e acc b=>by
  rw [d m acc i hi (by grind)];refine e _ ?_;rw [b,gD,hG,e2]
  grind)
 grind
theorem kN (L:Nat→Int→Option ρ) (b c:Option ρ) (n:Nat) (p:Nat→Bool) (e:∀m (i:Nat),i<n→L (m+1) i=if p i then L m ((i+1:Nat):Int) else b) (d:∀m,L (m+1) n=c)
 {N:Nat} (f:n<N):L N 0=if (List.range n).all p then c else b:=by
 have key:=b0 (n:=n) (Q:=fun m i=>L m i=if (List.range' i (n-i)).all p then c else b) (fun m=>by simp [d]) (fun m i hi g=>by
  grind)
 have:=key 0 N (bM _) (by omega);simp_all
theorem DV (L:Nat→Int→Option ρ) (c d:Option ρ) (b n:Nat) (p:Nat→Bool) (f:∀m (i:Nat),b≤i→i<n→L (m+1) i=if p i then L m ((i+1:Nat):Int) else c) (e:∀m,L (m+1) n=d)
 {N:Nat} (hi:b≤n) (g:n<N):L N b=if (List.range' b (n-b)).all p then d else c:=by
 have key:=b0 (n:=n) (Q:=fun m i=>b≤i→L m i=if (List.range' i (n-i)).all p then d else c) (fun m _=>by simp [e]) (fun m i hi j h=>by
  grind)
 grind
theorem Es {σ:Type} (L:Nat→σ→Int→Option ρ) (X:σ→Option ρ) (a:List α) (f:σ→α→σ) (I:Nat→σ→Prop)
 (e:∀m s (i:Nat) x,a[i]?=some x→I i s→L (m+1) s i=L m (f s x) ((i+1:Nat):Int)∧I (i+1) (f s x)) (h:∀m s,I a.length s→L (m+1) s a.length=X s)
 {N:Nat} {s:σ} (b:I 0 s) (j:a.length<N):L N s 0=X (a.foldl f s)∧I a.length (a.foldl f s):=by
 have key:=b0 (n:=a.length) (Q:=fun m i=>∀s,I i s→L m s i=X ((a.drop i).foldl f s)∧I a.length ((a.drop i).foldl f s)) (fun m s b=>by
  simp_all) (fun m i hi g s b=>by
  obtain ⟨c,d⟩:=e m s i a[i] (aT hi) b;rw [c,kc hi];exact g _ d)
 exact key 0 N (bM _) (by omega) s b
end
theorem aE {p:Prop} [Decidable p] {α:Type} {a b:α} (h:¬p):cond (decide p) a b=b:=by rw [bm h];rfl
theorem aL {p:Prop} [Decidable p] {α:Type} {a b:α} (h:p):cond (decide p) a b=a:=by rw [ba h];rfl
structure ee (m:M) (g:G):Prop where
 mm:fg m.mem
 len:m.af.length=4
 rp:fQ m.mem m.af g
 lt:∀x f,x<84→g.tb x=some f→f<m.mem.length
 inj:∀x y f,x<84→y<84→g.tb x=some f→g.tb y=some f→x=y
theorem ee.of {m:M} {g:G} {z:Nat} (h:ap m g z):ee m g:=⟨h.mm,h.sp.len,h.rp,fun x f c b=>h.tx.lt h.sn c b,h.tx.inj⟩
structure cz (m:M) (g:G):Prop extends ee m g where
 ok:∀y,y<256→(g.en y).ok
theorem ap.mo {m:M} {g:G} {z:Nat} (h:ap m g z) {y:Nat} (c:y<256):(g.en y).ok:=by
 cases b:g.en y with
 |no=>trivial
 |pg f w r=>
  have:=h.sn.lt (f:=f) (by rw [(h.eo.pg y c f w r b).1];decide);have:=h.mm.hi;show f<32;omega
 |sl i=>
  have:=(h.eo.sl y c i b).1;have:=h.sl.len;show i<16;omega
theorem cz.of {m:M} {g:G} {z:Nat} (h:ap m g z):cz m g:=⟨ee.of h,fun y b=>h.mo b⟩
def b2 (e:E) (f:Nat):Bool:=match e with
 | .pg g _ _=>g==f
 |_=>false
theorem e6 {e:E} {f:Nat}:b2 e f=true↔∃w r,e=.pg f w r:=by
 cases e with
 |no=>simp [b2]
 |pg g w r=>simp only [b2,ff,E.pg.injEq];simp_all
 |sl i=>simp [b2]
def bC (en:Nat→E) (f:Nat):List Nat:=(List.range 256).filter fun y=>b2 (en y) f
def yI (y:Nat):List Int:=[((y/64:Nat):Int),((y%64:Nat):Int)]
theorem ee.hv {m:M} {g:G} (h:ee m g) {s p:Nat} (j:s<4) (n:p<64) (e:(ay m.af s).2.1= -1):g.en (64*s+p)=.no:=by
 have b:g.tb s=none:=by
  have:=h.rp.fB s j;rw [e] at this;cases d:g.tb s with
  |none=>rfl
  |some f=>rw [d] at this;simp only [tI] at this;omega
 have c:=h.rp.c1 s (by omega) b (p/16) (by omega);have l:=h.rp.c1 _ (by omega) c (p/4%4) (by omega);have:=h.rp.hS ((64*s+p)/4) (by omega) (by grind) (p%4) (by omega)
 grind
def rv (l:List Int):Prop:=l.length=4∧∀v∈l,0≤v∧v≤100000
structure qx (x:dL):Prop where
 lo:0≤x.1
 hi:x.1≤64
 zero:x.1=0→x.2.1=[]
 held:x.1≠0→rv x.2.1
def mb (l:List dL):Prop:=l.length≤16∧∀x∈l,qx x
theorem qx.len {x:dL} (h:qx x):x.2.1.length≤4:=by
 by_cases c:x.1=0;rw [h.zero c];simp;rw [(h.held c).1];omega
theorem mb.set {l:List dL} (h:mb l) {i:Nat} {x:dL} (c:qx x):mb (l.set i x):=by
 refine ⟨by simpa using h.1,fun y b=>?_⟩;rcases m2 b with b|rfl
 exact h.2 y b;exact c
theorem aed (c:Nat):((List.range 256).filter fun y=>y%64==c).length≤4:=by
 by_cases h:c<64;revert h;revert c;decide+kernel;rw [List.filter_eq_nil_iff.2];simp
 grind
theorem Tr {p:Nat→Bool} (h:∀y z,y<256→z<256→p y=true→p z=true→y%64=z%64):((List.range 256).filter p).length≤4:=by
 cases b:(List.range 256).filter p with
 |nil=>simp
 |cons y l=>
  have c:y∈(List.range 256).filter p:=by simp_all
  simp only [dB,et] at c;rw [←b];have:(List.range 256).filter p=((List.range 256).filter fun z=>z%64==y%64).filter p:=by
   rw [List.filter_filter];apply rD;intro z d;rw [et] at d;cases e:p z;simp
   grind
  rw [this];exact Nat.le_trans (gA _ _) (aed _)
theorem Ko {en:Nat→E} (h:kg en) (i:Nat):cJ en i≤4:=by
 unfold cJ;exact Tr (fun y z d e b c=>h.sl y z i d e (by simpa using b) (by simpa using c))
theorem Uo {en:Nat→E} (h:kg en) (f:Nat):(bC en f).length≤4:=by
 unfold bC;refine Tr (fun y z d e b c=>?_);obtain ⟨w,r,b⟩:=e6.1 b;obtain ⟨w',g,c⟩:=e6.1 c;exact (h.pg y z f w r w' g d e b c).1
theorem uN {l:List dL} {en:Nat→E} (h:jN l en) (c:kg en):mb l:=by
 refine ⟨h.len,fun x b=>?_⟩;obtain ⟨i,hi⟩:=oo.1 b;have:=h.cJ i x hi;have:=Ko c i;exact ⟨by omega,by omega,h.zero x b,h.held x b⟩
structure Re (m:M) (g:G) (mem':List (List Int)) (en':Nat→E):Prop where
 bN:cz {m with mem:=mem'} ⟨g.tb,en'⟩
 len:mem'.length=m.mem.length
 off:∀f,(∀x,x<84→g.tb x≠some f)→row mem' f=row m.mem f
theorem Re.refl {m:M} {g:G} (h:cz m g):Re m g m.mem g.en:=⟨h,rfl,fun _ _=>rfl⟩
theorem E.anq {e:E} (h:e.ok):e.w≤100000:=by
 cases e with
 |no=>decide
 |pg f w r=>have h:f<32:=h;simp only [E.w];omega
 |sl i=>have h:i<16:=h;simp only [E.w];omega
theorem E.anr {e:E}:0≤e.w:=by
 cases e with
 |no=>decide
 |pg f w r=>simp only [E.w];omega
 |sl i=>simp only [E.w];omega
theorem Re.set {m:M} {g:G} {mem':List (List Int)} {en':Nat→E} (h:Re m g mem' en') {y q:Nat} {e:E} (r:y<256) (l:g.tb (20+y/4)=some q) (j:e.ok):
 Re m g (cK mem' q (y%4) e.w) (bD en' y e):=by
 have b:q<mem'.length:=h.bN.lt _ q (by omega) l;have n:=h.bN.mm.row b;refine ⟨⟨⟨h.bN.mm.cK b ⟨E.anr,E.anq j⟩,h.bN.len,h.bN.rp.set h.bN.inj r l b n.1,fun x f o d=>?_,h.bN.inj⟩,fun z u=>?_⟩,by rw [iZ];exact h.len,fun f d=>?_⟩;rw [iZ];exact h.bN.lt x f o d;by_cases c:z=y;subst c;simpa using j;simp only [be c];exact h.bN.ok z u;have:f≠q:=by grind
 rw [←h.off f d];unfold cK;rw [lO b,aj this]
theorem Re.congr {m:M} {g:G} {mem':List (List Int)} {d b:Nat→E} (h:Re m g mem' d) (j:∀y,y<256→d y=b y):Re m g mem' b:=by
 refine ⟨⟨⟨h.bN.mm,h.bN.len,⟨h.bN.rp.fB,h.bN.rp.cZ,fun q c k hk f l=>?_,h.bN.rp.c1,fun q c n k hk=>?_⟩,h.bN.lt,h.bN.inj⟩,fun y e=>?_⟩,h.len,h.off⟩;have:=h.bN.rp.leaf q c k hk f l
 grind
 have:=h.bN.rp.hS q c n k hk
 grind
 show (b y).ok;rw [←j y e];exact h.bN.ok y e
def E.eW:E→E
 | .pg f w _=>.pg f w false
 |e=>e
def E.ref:E→Bool
 | .pg _ _ r=>r
 |_=>false
def dM (en:Nat→E) (f:Nat):Nat→E:=fun y=>if b2 (en y) f then (en y).eW else en y
def jd (en:Nat→E) (f:Nat):Bool:=(bC en f).any fun y=>(en y).ref
def cW (e b:E):Prop:=match e with
 | .no=>b=.no
 | .sl i=>b=.sl i
 | .pg f w _=>∃w' c,b=.pg f w' c∧(w'=true→w=true)
theorem ph (e:E):cW e e:=by
 cases e with
 |no=>rfl
 |sl i=>rfl
 |pg f w r=>exact ⟨w,r,rfl,id⟩
theorem EG {e:E} {f:Nat} {w r:Bool} (h:cW e (.pg f w r)):∃w' c,e=.pg f w' c∧(w=true→w'=true):=by
 cases e with
 |no=>cases h
 |sl i=>cases h
 |pg g a b=>
  obtain ⟨w',c,d,j⟩:=h;simp_all
theorem afj {e:E} {i:Nat}:cW e (.sl i)→e=.sl i:=by
 intro h;cases e with
 |no=>cases h
 |sl j=>cases h;rfl
 |pg g a b=>obtain ⟨w',f,c,d⟩:=h;cases c
theorem T3 {e c:E} (h:cW e c) (d:e≠ .no):c≠ .no:=by
 cases e with
 |no=>exact absurd rfl d
 |sl j=>cases h;omega
 |pg g a b=>obtain ⟨w',n,f,l⟩:=h;simp_all
theorem afh (e:E):cW e e.eW:=by
 cases e with
 |no=>rfl
 |sl i=>rfl
 |pg f w r=>exact ⟨w,false,rfl,id⟩
theorem x7 (en:Nat→E) (f y:Nat):cW (en y) (dM en f y):=by
 unfold dM;split;exact afh _;exact ph _
theorem Kn {en en':Nat→E} {i j:Nat} (h:∀y,y<256→(en y=.sl i↔en' y=.sl j)):cJ en i=cJ en' j:=by
 unfold cJ;congr 1;apply rD;simp_all
theorem tR {en:Nat→E} {i:Nat} (h:cJ en i=0) {y:Nat} (b:y<256):en y≠ .sl i:=by
 intro e;have:y∈(List.range 256).filter fun y=>en y=.sl i:=by simp [b,e]
 have:=List.length_pos_of_mem this;unfold cJ at h;omega
theorem fu.dD {n b:Nat} {st st':List Int} {d:List cr} {ob:List bZ} {c:Int} (h:fu n st d ob c) (j:b=n) (e:∀f,aq st' f=2↔aq st f=2) (g:∀f,aq st' f=3↔aq st f=3):fu b st' d ob c:=by
 subst j;exact {h with hC:=fun f=>(e f).trans (h.hC f),jr:=fun f=>(h.jr f).trans (g f).symm}
theorem ap.re {m:M} {g:G} {z:Nat} (h:ap m g z) {mem':List (List Int)} {en':Nat→E} (u:Re m g mem' en') (q:∀y,y<256→cW (g.en y) (en' y)):ap {m with mem:=mem'} ⟨g.tb,en'⟩ z:=by
 have pg:∀y,y<256→∀f w r,en' y=.pg f w r→∃w' l,g.en y=.pg f w' l∧(w=true→w'=true):=fun y d f w r e=>EG (by rw [←e];exact q y d)
 have sl:∀y,y<256→∀i,g.en y=.sl i↔en' y=.sl i:=fun y d i=>⟨fun e=>by have:=q y d;rw [e] at this;exact this,fun e=>afj (by grind)⟩
 refine ⟨u.bN.mm,?_,h.fr,?_,h.sp,u.bN.rp,h.tx,h.nz.eg fun y d I=>T3 (q y d) I,⟨fun y d f w r e=>?_,fun y d i e=>?_⟩,⟨h.sl.len,fun i x J=>?_,h.sl.zero,h.sl.held⟩,⟨fun y z f w r w' l d n j o=>?_,fun y z i d n j o=>?_⟩,h.ls,fun f D=>?_⟩;show fh mem'.length m.st;rw [u.len];exact h.sn;exact h.kr.dD u.len (fun _=>gP) (fun _=>gP);obtain ⟨w',l,j,o⟩:=pg y d f w r e;obtain ⟨a,b,c⟩:=h.eo.pg y d f w' l j;simp_all;exact h.eo.sl y d i ((sl y d i).2 e);show x.1=(cJ en' i:Int);rw [h.sl.cJ i x J,Kn (sl · · i)];obtain ⟨a,b,C,h4⟩:=pg y d f w r j;obtain ⟨a',v,h5,h6⟩:=pg z n f w' l o;obtain ⟨K,h8⟩:=h.pg.pg y z f a b a' v d n C h5
 grind
 exact h.pg.sl y z i d n ((sl y d i).2 j) ((sl z n i).2 o);obtain ⟨y,w,r,d,e⟩:=h.mp f D;have:=q y d;rw [e] at this;obtain ⟨w',l,j,_⟩:=this
 grind
theorem fh.set {n:Nat} {st:List Int} (h:fh n st) {f:Nat} {v:Int} (j:2≤f) (d:f<n) (l:0≤v) (h5:v≤5) (e:v≠1):fh n (st.set f v):=by
 refine ⟨by simpa using h.len,fun g b=>?_⟩;rw [gx (by rw [h.len];exact d)];by_cases c:g=f;omega;rw [aj c];exact h.val g b
theorem fh.gX {n:Nat} {st:List Int} (h:fh n st) {f:Nat} (h9:aq st f≠9) (b:aq st f≠1):2≤f:=by
 have:=(h.val f (h.lt h9)).2.2;omega
theorem ap.adO {m:M} {g:G} {z f bd:Nat} {x:dL} {mem':List (List Int)} {en':Nat→E} {a i:List Int} (h:ap m g z) (af:aq m.st f=5) (ad:m.aD[bd]?=some x) (am:x.1=0)
 (X:Re m g mem' en') (K:∀y,y<256→en' y=if b2 (g.en y) f then .sl bd else g.en y) (ai:(a++i).Nodup) (ah:∀v,v∈a++i↔v∈m.aK++m.bn∧v≠(f:Int)):
 ap {m with mem:=mem',st:=m.st.set f 0,bI:=ez (m.st.set f 0),aD:=m.aD.set bd (((bC g.en f).length:Int),row m.mem f,()),aK:=a,bn:=i} ⟨g.tb,en'⟩ z:=by
 have U:=h.sn.lt (f:=f) (by omega);have ag:=h.sn.gX (f:=f) (by omega) (by omega);have aa:f<m.st.length:=by rw [h.sn.len];exact U
 have Z:=(bR.1 ad).1;have ae:cJ g.en bd=0:=by have:=h.sl.cJ bd x ad;omega
 have pg:∀y,y<256→∀k w r,en' y=.pg k w r→g.en y=.pg k w r∧k≠f:=by
  intro y d k w r l;rw [K y d] at l;split at l;cases l;rename_i ac;refine ⟨l,?_⟩;rintro rfl;exact ac (e6.2 ⟨w,r,l⟩)
 have sl:∀y,y<256→∀j,en' y=.sl j→j=bd∧b2 (g.en y) f=true∨j≠bd∧g.en y=.sl j:=by
  intro y d j l;rw [K y d] at l;split at l;simp_all;refine .inr ⟨?_,l⟩;rintro rfl;exact tR ae d l
 have al:∀k,k≠f→aq (m.st.set f 0) k=aq m.st k:=fun k hk=>by rw [gx aa,aj hk]
 have an:aq (m.st.set f 0) f=0:=by rw [gx aa,ak rfl]
 have Y:∀k v,v≠0→v≠5→(aq (m.st.set f 0) k=v↔aq m.st k=v):=by
  grind
 have ab:mem'.length=m.mem.length:=X.len;refine ⟨X.bN.mm,?_,rfl,h.kr.dD ab (fun k=>Y k 2 (by omega) (by omega)) (fun k=>Y k 3 (by omega) (by omega)),h.sp,X.bN.rp,h.tx.dD fun k=>Y k 4 (by omega) (by omega),h.nz.eg fun y d ac=>?_,⟨fun y d k w r l=>?_,fun y d j l=>?_⟩,⟨?_,fun j v o=>?_,fun v u n=>?_,fun v u n=>?_⟩,⟨fun y z k w r w' J d C n D=>?_,fun y z j d C n D=>?_⟩,⟨ai,fun v=>?_⟩,fun k hk=>?_⟩;show fh mem'.length _;rw [ab];exact h.sn.set ag U (by omega) (by omega) (by omega)
 grind
 obtain ⟨n,D⟩:=pg y d k w r l;obtain ⟨a,b,c⟩:=h.eo.pg y d k w r n
 grind
 show j<(m.aD.set bd _).length∧_;rw [dI];rcases sl y d j l with ⟨rfl,q⟩|⟨_,n⟩
 obtain ⟨w,r,q⟩:=e6.1 q;exact ⟨Z,(h.eo.pg y d f w r q).2.1⟩;exact h.eo.sl y d j n;show (m.aD.set bd _).length≤16;rw [dI];exact h.sl.len;show v.1=(cJ en' j:Int);have o:(m.aD.set bd (((bC g.en f).length:Int),row m.mem f,()))[j]?=some v:=o;rw [g3] at o;by_cases c:bd=j;subst c;rw [ak rfl,ak Z] at o;cases o;show ((bC g.en f).length:Int)=_;congr 1;unfold bC cJ;congr 1;apply rD
 grind
 rw [aj c] at o;rw [h.sl.cJ j v o,Kn fun y d=>?_];rw [K y d];constructor;intro e;rw [e];rfl
 grind
 rcases m2 u with u|rfl
 exact h.sl.zero v u n;obtain ⟨y,w,r,d,l⟩:=h.mp f af;have:y∈bC g.en f:=by unfold bC;grind
 grind
 rcases m2 u with u|rfl
 exact h.sl.held v u n;exact h.mm.row U;obtain ⟨O,_⟩:=pg y d k w r n;obtain ⟨h4,_⟩:=pg z C k w' J D;exact h.pg.pg y z k w r w' J d C O h4;rcases sl y d j n with ⟨rfl,q⟩|⟨I,O⟩
 rcases sl z C j D with ⟨_,W⟩|⟨I,_⟩
 obtain ⟨w,r,q⟩:=e6.1 q;obtain ⟨w',J,W⟩:=e6.1 W;exact (h.pg.pg y z f w r w' J d C q W).1;exact absurd rfl I;rcases sl z C j D with ⟨rfl,_⟩|⟨_,h4⟩
 exact absurd rfl I;exact h.pg.sl y z j d C O h4;show v∈a++i↔_;rw [ah v,h.ls.mem v]
 grind
 have hk:aq (m.st.set f 0) k=5:=hk;have I:k≠f:=by grind
 rw [al k I] at hk;obtain ⟨y,w,r,d,l⟩:=h.mp k hk;refine ⟨y,w,r,d,?_⟩;show en' y=_;rw [K y d,aj,l];intro c;obtain ⟨w',J,c⟩:=e6.1 c
 grind
def cb (m:M) (f:Nat) (v:Int):M:={m with mem:=m.mem.set f [0,0,0,0],st:=m.st.set f v,bI:=ez (m.st.set f v)}
theorem X3 {m:M} {f:Nat} {v:Int} (b:f<m.mem.length) (k:Nat):bX (cb m f v).mem f k=0:=by
 unfold cb bX;simp only;rw [lO b,ak rfl]
 grind
theorem alU {m:M} {f k:Nat} {v:Int} {j:Nat} (h:k≠f):bX (cb m f v).mem k j=bX m.mem k j:=y8 h
theorem FM {m:M} {g:G} (h:cz m g) {f:Nat} {v:Int} (c:∀x,x<84→g.tb x≠some f):cz (cb m f v) g:=by
 refine ⟨⟨h.mm.set ⟨rfl,by simp⟩,h.len,h.rp.off fun x k b hk j d=>alU (by grind),fun x k b hk=>?_,h.inj⟩,h.ok⟩;show k<(m.mem.set f _).length;rw [dI];exact h.lt x k b hk
theorem fq {st:List Int} {f:Nat} {u v:Int} (b:f<st.length) (e:aq st f=u) {k:Nat} {w:Int} (c:w≠u) (d:w≠v):aq (st.set f v) k=w↔aq st k=w:=by
 rw [gx b]
 grind
theorem ap.X0 {m:M} {g:G} {z f:Nat} (h:ap m g z) (l:aq m.st f=0) {y:Nat} (n:y<84) (I:g.tb y=none) {mem':List (List Int)} {sp':List dt} {x:Nat}
 (D:fg mem') (u:mem'.length=m.mem.length) (U:I6 sp') (K:∀s,aY sp' s=aY m.af s) (O:fQ mem' sp' ⟨bD g.tb y (some f),g.en⟩) (J:NZ (bD g.tb y (some f)) g.en x):
 ap {cb m f 4 with mem:=mem',af:=sp'} ⟨bD g.tb y (some f),g.en⟩ x:=by
 have q:=h.sn.lt (f:=f) (by omega);have C:=h.sn.gX (f:=f) (by omega) (by omega);have d:f<m.st.length:=by rw [h.sn.len];exact q
 refine ⟨D,?_,rfl,h.kr.dD u (fun k=>fq d l (by omega) (by omega)) (fun k=>fq d l (by omega) (by omega)),U,O,h.tx.add n I (by omega) d,J,⟨fun y n k w r o=>?_,fun y n j o=>?_⟩,h.sl,h.pg,⟨h.ls.b7,fun v=>?_⟩,fun k hk=>?_⟩;show fh mem'.length _;rw [u];exact h.sn.set C q (by omega) (by omega) (by omega);obtain ⟨a,b,c⟩:=h.eo.pg y n k w r o;refine ⟨(fq d l (by omega) (by omega)).2 a,?_⟩;simp_all;show _∧0<bj (aY sp' _) _;rw [K];exact h.eo.sl y n j o;show v∈m.aK++m.bn↔_;rw [h.ls.mem v];constructor;rintro ⟨k,e,hk⟩;exact ⟨k,e,(fq d l (by omega) (by omega)).2 hk⟩;rintro ⟨k,e,hk⟩;exact ⟨k,e,(fq d l (by omega) (by omega)).1 hk⟩;exact h.mp k ((fq d l (by omega) (by omega)).1 hk)
theorem ap.jS {m:M} {g:G} {z f:Nat} (h:ap m g z) (b:aq m.st f≠4):∀x,x<84→g.tb x≠some f:=fun x c e=>b ((h.tx.fN f).2 ⟨x,c,e⟩)
theorem ap.x8 {m:M} {g:G} {z f x k p:Nat} (h:ap m g z) (o:aq m.st f=0) (n:x<20) (hk:k<4) (l:g.tb x=some p) (d:g.tb (4*x+4+k)=none) (r:z=84∨z=x):
 ap {cb m f 4 with mem:=cK (cb m f 4).mem p k ((f:Int)+1)} ⟨bD g.tb (4*x+4+k) (some f),g.en⟩ (4*x+4+k):=by
 have q:=h.sn.lt (f:=f) (by omega);have e:=h.jS (f:=f) (by omega);have b:=FM (v:=4) (cz.of h) e;have c:p<(cb m f 4).mem.length:=b.lt x p (by omega) l;have u:=h.mm.hi;refine h.X0 (sp':=m.af) o (by omega) d (b.mm.cK c ⟨by omega,by omega⟩) ?_ h.sp (fun _=>rfl) ?_ (h.nz.x8 r n hk);rw [iZ];simp [cb];exact b.rp.x8 b.inj n hk l d e (fun j _=>X3 q j) c (b.mm.row c).1
theorem ap.x9 {m:M} {g:G} {f s:Nat} (h:ap m g 84) (r:aq m.st f=0) (e:s<4) (o:g.tb s=none) (z:(ay m.af s).1=true):
 ap {cb m f 4 with af:=m.af.set s ((ay m.af s).1,(f:Int),(ay m.af s).2.2)} ⟨bD g.tb s (some f),g.en⟩ s:=by
 have u:=h.sn.lt (f:=f) (by omega);have x:=h.jS (f:=f) (by omega);have n:=FM (v:=4) (cz.of h) x;have y:s<m.af.length:=by rw [h.sp.len];exact e
 have q:∀t,ay (m.af.set s ((ay m.af s).1,(f:Int),(ay m.af s).2.2)) t=if t=s then ((ay m.af s).1,(f:Int),(ay m.af s).2.2) else ay m.af t:=fun t=>kA y
 have d:∀t,aY (m.af.set s ((ay m.af s).1,(f:Int),(ay m.af s).2.2)) t=aY m.af t:=by
  intro t;unfold aY
  grind
 refine h.X0 r (by omega) o n.mm (by simp [cb]) ⟨by rw [dI];exact h.sp.len,fun t l=>by rw [d];exact h.sp.hY t l,fun t l b=>?_⟩ d ?_ (h.nz.x9 e);rw [q] at b⊢;rw [d];split at b;simp_all;rename_i c;rw [aj c];exact h.sp.hv t l b;refine n.rp.x9 e o (fun j _=>X3 u j) (fun t _=>?_);rw [q];split<;>rfl
theorem qR (en:Nat→E) (f y k:Nat):b2 (dM en f y) k=b2 (en y) k:=by
 unfold dM;split;cases en y<;>rfl
 rfl
theorem afC (en:Nat→E) (f k:Nat):bC (dM en f) k=bC en k:=by
 unfold bC;apply rD;intro y _;exact qR en f y k
theorem Vv {en:Nat→E} {f y:Nat} (h:(dM en f y).ref=true):(en y).ref=true∧b2 (en y) f=false:=by
 unfold dM at h;split at h;cases b:en y<;>rw [b] at h<;>cases h
 simp_all
theorem Mg {en:Nat→E} {f:Nat}:jd en f=true↔∃y,y<256∧b2 (en y) f=true∧(en y).ref=true:=by
 unfold jd bC;simp_all
theorem aia (en:Nat→E) (f:Nat):jd (dM en f) f=false:=by
 rw [pL];intro h;obtain ⟨y,_,b,c⟩:=Mg.1 h;rw [qR,(Vv c).2] at b;cases b
theorem ah9 {en:Nat→E} {f:Nat} (g:Nat) (h:jd en f=false):jd (dM en g) f=false:=by
 rw [pL] at*;intro c;obtain ⟨y,e,b,d⟩:=Mg.1 c;rw [qR] at b;exact h (Mg.2 ⟨y,e,b,(Vv d).1⟩)
def ju (en:Nat→E) (a:List Int):Nat→E:=a.foldl (fun en f=>dM en f.toNat) en
theorem ac4:∀(a:List Int) (en:Nat→E) (f:Nat),jd en f=false→jd (ju en a) f=false:=by
 intro a
 induction a with
 |nil=>intro en f h;exact h
 |cons x a b=>intro en f h;exact b _ f (ah9 _ h)
theorem ac5:∀(a:List Int) (en:Nat→E) (x:Int),x∈a→jd (ju en a) x.toNat=false:=by
 intro a
 induction a with
 |nil=>intro en f h;cases h
 |cons y a b=>
  intro en x h;rcases cy.1 h with rfl|h
  exact ac4 a _ _ (aia _ _);exact b _ x h
theorem uk {a b c:E} (d:cW a b) (e:cW b c):cW a c:=by
 cases a with
 |no=>cases d;exact e
 |sl i=>cases d;exact e
 |pg f w r=>
  obtain ⟨w',l,rfl,g⟩:=d;obtain ⟨w2,j,rfl,h4⟩:=e;exact ⟨w2,j,rfl,fun h=>g (h4 h)⟩
theorem T2:∀(a:List Int) (en:Nat→E) (y:Nat),cW (en y) (ju en a y):=by
 intro a
 induction a with
 |nil=>intro en y;exact ph _
 |cons x a b=>intro en y;exact uk (x7 en x.toNat y) (b _ y)
def km:Nat→(Nat→E)→List Int→List Int→Option (Nat×(Nat→E)×List Int×List Int)
 |0,_,_,_=>none
 |n+1,en,a,[]=>match a with
  |[]=>none
  |f::r=>if jd (ju en a) f.toNat then km n (dM (ju en a) f.toNat) [f] r else some (f.toNat,dM (ju en a) f.toNat,[],r)
 |n+1,en,a,f::r=>if jd en f.toNat then km n (dM en f.toNat) (a++[f]) r else some (f.toNat,dM en f.toNat,a,r)
theorem adL:∀(n:Nat) (en:Nat→E) (a i:List Int),i.length+1<n→a++i≠[]→∃r,km n en a i=some r:=by
 intro n
 induction n with
 |zero=>intro en a i h;omega
 |succ n c=>
  intro en a i h b;cases i with
  |nil=>
   unfold km;cases a with
   |nil=>exact absurd rfl b
   |cons f r=>
    simp only;rw [ac5 (f::r) en f (g4 ..)];exact ⟨_,rfl⟩
  |cons f r=>
   unfold km;split;simp_all;exact ⟨_,rfl⟩
theorem Te {m:M} {g:G} {z:Nat} (h:ap m g z):∀s,s<4→(ay m.af s).1=false→(ay m.af s).2.1= -1:=fun s c b=>(h.sp.hv s c b).1
theorem ap.fS {m:M} {g:G} {z:Nat} (h:ap m g z):m.st.length≤32∧m.mem.length≤32:=⟨by rw [h.sn.len];exact h.mm.hi,h.mm.hi⟩
theorem uy:∀(l:List Int) (n:Nat),l.Nodup→(∀x∈l,0≤x∧x<n)→l.length≤n:=by
 intro l n
 induction n generalizing l with
 |zero=>
  intro _ h;cases l with
  |nil=>simp
  |cons a l=>have:=h a (g4 ..);omega
 |succ n d=>
  intro b h;have e:=d (l.filter fun x=>x !=(n:Int)) (ol _ b) (fun x j=>by
   grind)
  have f:l.length≤(l.filter fun x=>x !=(n:Int)).length+1:=by
   clear d h e
   induction l with
   |nil=>simp
   |cons a l o=>
    obtain ⟨g,h4⟩:=jJ.1 b;by_cases c:a=(n:Int);have:(l.filter fun x=>x !=(n:Int))=l:=by
     rw [List.filter_eq_self]
     grind
    grind
    simp_all
  omega
theorem mB {m:M} {g:G} {z:Nat} (h:ap m g z):(m.aK++m.bn).length≤32:=by
 refine Nat.le_trans (uy _ m.mem.length h.ls.b7 fun x b=>?_) h.mm.hi;obtain ⟨f,rfl,c⟩:=(h.ls.mem x).1 b;have:=h.sn.lt (f:=f) (by omega);omega
theorem cz.qX {m:M} {g:G} (h:cz m g) (a i:List Int):cz {m with aK:=a,bn:=i} g:=⟨⟨h.mm,h.len,h.rp,h.lt,h.inj⟩,h.ok⟩
theorem ap.qX {m:M} {g:G} {z:Nat} (h:ap m g z) {a i:List Int} (b:(a++i).Nodup) (c:∀v,v∈a++i↔v∈m.aK++m.bn):ap {m with aK:=a,bn:=i} g z:=
 ⟨h.mm,h.sn,h.fr,h.kr,h.sp,h.rp,h.tx,h.nz,h.eo,h.sl,h.pg,⟨b,fun v=>(c v).trans (h.ls.mem v)⟩,h.mp⟩
theorem Re.trans {m:M} {g:G} {j l:List (List Int)} {c d:Nat→E} (e:Re m g j c) (b:Re {m with mem:=j} ⟨g.tb,c⟩ l d):Re m g l d:=
 ⟨⟨⟨b.bN.mm,b.bN.len,b.bN.rp,b.bN.lt,b.bN.inj⟩,b.bN.ok⟩,b.len.trans e.len,fun f h=>(b.off f h).trans (e.off f h)⟩
theorem Re.qX {m:M} {g:G} {c:List (List Int)} {b:Nat→E} {a i:List Int} (h:Re {m with aK:=a,bn:=i} g c b):Re m g c b:=
 ⟨⟨⟨h.bN.mm,h.bN.len,h.bN.rp,h.bN.lt,h.bN.inj⟩,h.bN.ok⟩,h.len,h.off⟩
theorem ac6 {a:List Int} {i:Nat} (hi:i<a.length) (en:Nat→E):dM (ju en (a.take i)) a[i].toNat=ju en (a.take (i+1)):=by
 rw [iD,aT hi];unfold ju
 grind
structure oW (n:Nat) (l:List dr):Prop where
 nn:8≤n∧n≤32∧n%8=0
 len:l.length≤n
 b3:∀r∈l,∃a k:Nat,r=((a:Int),(k:Int),())∧k≤3∧a%2^k=0∧a+2^k≤n
 chain:chain l
def dX (m:M) (f:Nat):M:={m with st:=m.st.set f 0,bI:=ez (m.st.set f 0)}
def cG (st:List Int) (v:Int):List Int:=((List.range st.length).filter fun f=>aq st f==v).map fun f:Nat=>(f:Int)
theorem fo {st:List Int} {v:Int} (h9:v≠9) (f:Nat):(f:Int)∈cG st v↔aq st f=v:=by
 unfold cG;simp only [b9,dB,et,ff];constructor
 grind
 intro h;refine ⟨f,⟨?_,h⟩,rfl⟩;apply ho;intro c;apply h9;rw [←h];simp [aq,g2 (by omega:st.length≤f)]
theorem nI (st:List Int) (v:Int):(cG st v).length≤st.length:=by
 unfold cG
 grind
theorem aej {st:List Int} {n:Nat} (b:8≤n∧n≤32∧n%8=0) (c:st.length=n):oW n (ez st):=by
 unfold ez je;rw [c];exact ⟨b,Nat.le_trans (aiC _ _) (by omega),fun r d=>by
  obtain ⟨a,k,e,f,g,h4,_⟩:=(VL b.2.2 _ _ r d).1
  grind,aiz _ _⟩
theorem aei {st:List Int} (b:st.length%8=0):(ez st).flatMap cQ=cG st 0:=by
 unfold ez je cG;rw [aiA b _ _ (by omega),Nat.sub_zero,←List.range_eq_range']
theorem ap.bJ {m:M} {g:G} {z:Nat} (h:ap m g z):oW m.mem.length m.bI:=by
 rw [h.fr];exact aej ⟨h.mm.lo,h.mm.hi,h.mm.m8⟩ h.sn.len
theorem ap.aQ {m:M} {g:G} {z:Nat} (h:ap m g z):m.bI.flatMap cQ=cG m.st 0:=by
 rw [h.fr];exact aei (by rw [h.sn.len];exact h.mm.m8)
theorem ap.xZ {m:M} {g:G} {z:Nat} (h:ap m g z):(m.bI.flatMap cQ).length≤1000:=by
 rw [h.aQ];have:=nI m.st 0;have:=h.fS.1;omega
theorem ap.run {m:M} {g:G} {z:Nat} (h:ap m g z) {r:dr} (b:r∈m.bI):∃a k:Nat,r=((a:Int),(k:Int),())∧k≤3∧a%2^k=0∧a+2^k≤m.mem.length∧∀i,i<2^k→aq m.st (a+i)=0:=by
 rw [h.fr] at b;obtain ⟨a,k,c,d,e,h4,h5⟩:=(VL (by rw [h.sn.len];exact h.mm.m8) _ _ r b).1;exact ⟨a,k,c,d,e,by rw [←h.sn.len];exact h4,fun i hi=>by simpa using h5 i hi⟩
theorem ap.aem {m:M} {g:G} {z f:Nat} (h:ap m g z) (b:aq m.st f=0):m.bI≠[]:=by
 intro e;have:=h.aQ;rw [e] at this;have c:=(fo (st:=m.st) (v:=0) (by decide) f).2 b;simp_all
def dv (m:M) (e:E):List Int:=match e with
 | .no=>[0,0,0,0]
 | .pg f _ _=>row m.mem f
 | .sl i=>(m.aD.getD i (0,[],())).2.1
structure iF (m:M) (g:G) (b:M) (g':G):Prop where
 tb:g'.tb=g.tb
 af:b.af=m.af
 aC:b.aC=m.aC
 au:b.au=m.au
 next:b.next=m.next
 len:b.mem.length=m.mem.length
 kz:b.aD.length=m.aD.length
 st:∀k,aq b.st k=aq m.st k∨aq m.st k=5∧aq b.st k=0
 en:∀y,y<256→cW (g.en y) (g'.en y)∨∃f w r j,g.en y=.pg f w r∧g'.en y=.sl j∧aq b.st f=0
 off:∀k,(∀x,x<84→g.tb x≠some k)→row b.mem k=row m.mem k
 dv:∀y,y<256→dv b (g'.en y)=dv m (g.en y)
theorem iF.refl (m:M) (g:G):iF m g m g:=⟨rfl,rfl,rfl,rfl,rfl,rfl,rfl,fun _=>.inl rfl,fun y _=>.inl (ph _),fun _ _=>rfl,fun _ _=>rfl⟩
theorem iF.trans {m q u:M} {g v x:G} (h:iF m g q v) (d:iF q v u x):iF m g u x:=by
 have D:∀f,aq q.st f=0→aq u.st f=0:=fun f z=>by
  rcases d.st f with e|⟨e,_⟩
  rw [e,z];omega
 refine ⟨d.tb.trans h.tb,d.af.trans h.af,d.aC.trans h.aC,d.au.trans h.au,d.next.trans h.next,d.len.trans h.len,d.kz.trans h.kz,fun k=>?_,fun y l=>?_,fun k hk=>?_,fun y l=>(d.dv y l).trans (h.dv y l)⟩;rcases h.st k with e|⟨J,K⟩
 rw [←e];exact d.st k;simp_all;rcases h.en y l with o|⟨f,w,r,j,a,b,c⟩
 rcases d.en y l with n|⟨f,w,r,j,a,b,c⟩
 exact .inl (uk o n);rw [a] at o;obtain ⟨w',C,e,_⟩:=EG o;simp_all;rcases d.en y l with n|⟨O,w',C,U,a',I,c'⟩
 rw [b] at n;exact .inr ⟨f,w,r,j,a,n,D f c⟩;simp_all;rw [d.off k (by rw [h.tb];exact hk),h.off k hk]
theorem adQ {m:M} {tb:Nat→Option Nat} {en en':Nat→E} {z f bd:Nat} {x:dL} {mem':List (List Int)} {a' D:List Int} (h:ap m ⟨tb,en⟩ z) (O:aq m.st f=5) (n:m.aD[bd]?=some x) (I:x.1=0)
 {g:M} (b:g={m with mem:=mem',st:=m.st.set f 0,bI:=ez (m.st.set f 0),aD:=m.aD.set bd (((bC en f).length:Int),row m.mem f,()),aK:=a',bn:=D})
 (hi:ap g ⟨tb,fun y=>if b2 (en y) f then .sl bd else en' y⟩ z) (C:∀k,(∀x,x<84→tb x≠some k)→row mem' k=row m.mem k) (j:∀y,cW (en y) (en' y)):
 iF m ⟨tb,en⟩ g ⟨tb,fun y=>if b2 (en y) f then .sl bd else en' y⟩:=by
 have u:f<m.st.length:=by rw [h.sn.len];exact h.sn.lt (f:=f) (by omega)
 have o:=(bR.1 n).1;have q:cJ en bd=0:=by have:x.1=(cJ en bd:Int):=h.sl.cJ bd x n;omega
 have v:g.mem.length=m.mem.length:=by
  have J:=hi.sn.len;have K:=h.sn.len;simp_all
 have U:∀k,aq g.st k=if k=f then 0 else aq m.st k:=fun k=>by rw [b];exact gx u
 refine ⟨rfl,by rw [b],by rw [b],by rw [b],by rw [b],v,by rw [b];simp,fun k=>?_,fun y l=>?_,fun k hk=>by simp_all,fun y l=>?_⟩
 grind
 by_cases c:b2 (en y) f=true;obtain ⟨w,r,e⟩:=e6.1 c;simp_all;simp_all;by_cases c:b2 (en y) f=true;obtain ⟨w,r,e⟩:=e6.1 c;simp only [ak c];simp only [dv,e,b];simp_all;simp only [aj c];cases d:en y with
 |no=>
  have:=j y;rw [d] at this;have this:en' y=.no:=this;rw [this];rfl
 |sl i=>
  have:=j y;rw [d] at this;have this:en' y=.sl i:=this;rw [this];simp only [dv,b];rw [lC o,aj];rintro rfl;exact tR q l d
 |pg k w r=>
  have:=j y;rw [d] at this;obtain ⟨w',W,e,_⟩:=this;rw [e];simp only [dv,b];apply C;have h5:=(h.eo.pg y l k w r d).1;exact h.jS (by omega)
structure Sm (m:M) (g:G) (b:M) (g':G):Prop where
 aY:∀s,aY b.af s=aY m.af s
 hP:∀s,(ay b.af s).1=(ay m.af s).1
 aC:b.aC=m.aC
 au:b.au=m.au
 next:b.next=m.next
 len:b.mem.length=m.mem.length
 kz:b.aD.length=m.aD.length
 MR:∀k,aq b.st k=5→aq m.st k=5
 eg:∀k v,1≤v→v≤4→aq m.st k=v→aq b.st k=v
 new:∀k v,1≤v→v≤3→aq b.st k=v→aq m.st k=v
 en:∀y,y<256→cW (g.en y) (g'.en y)∨∃f w r j,g.en y=.pg f w r∧g'.en y=.sl j∧aq b.st f≠5
 off:∀k,aq m.st k=2∨aq m.st k=3→row b.mem k=row m.mem k
 dv:∀y,y<256→dv b (g'.en y)=dv m (g.en y)
 h0:∀x,x<84→g.tb x≠none→g'.tb x=g.tb x
theorem Sm.refl (m:M) (g:G):Sm m g m g:=⟨fun _=>rfl,fun _=>rfl,rfl,rfl,rfl,rfl,rfl,fun _ h=>h,fun _ _ _ _ h=>h,fun _ _ _ _ h=>h,fun y _=>.inl (ph _),fun _ _=>rfl,fun _ _=>rfl,fun _ _ _=>rfl⟩
theorem Sm.trans {m q J:M} {g D I:G} (d:Sm m g q D) (l:Sm q D J I):Sm m g J I:=by
 refine ⟨fun s=>(l.aY s).trans (d.aY s),fun s=>(l.hP s).trans (d.hP s),l.aC.trans d.aC,l.au.trans d.au,l.next.trans d.next,l.len.trans d.len,l.kz.trans d.kz,fun k h=>d.MR k (l.MR k h),fun k v a b h=>l.eg k v a b (d.eg k v a b h),fun k v a b h=>d.new k v a b (l.new k v a b h),fun y n=>?_,fun k hk=>?_,fun y n=>(l.dv y n).trans (d.dv y n),fun x z u=>?_⟩;rcases d.en y n with C|⟨f,w,r,j,a,b,c⟩
 rcases l.en y n with o|⟨f,w,r,j,a,b,c⟩
 exact .inl (uk C o);rw [a] at C;obtain ⟨w',K,e,_⟩:=EG C;simp_all;rcases l.en y n with o|⟨U,w',K,W,a',O,c'⟩
 rw [b] at o;exact .inr ⟨f,w,r,j,a,o,fun e=>c (l.MR f e)⟩;simp_all;have:aq q.st k=2∨aq q.st k=3:=hk.elim (fun e=>.inl (d.eg k 2 (by omega) (by omega) e)) (fun e=>.inr (d.eg k 3 (by omega) (by omega) e));rw [l.off k this,d.off k hk];rw [l.h0 x z (by rw [d.h0 x z u];exact u),d.h0 x z u]
theorem iF.sm {m n:M} {g g':G} {z:Nat} (h:iF m g n g') (hi:ap m g z):Sm m g n g':=by
 refine ⟨fun s=>by rw [h.af],fun s=>by rw [h.af],h.aC,h.au,h.next,h.len,h.kz,fun k hk=>?_,fun k v a b hk=>?_,fun k v a b hk=>?_,fun y o=>?_,fun k hk=>?_,h.dv,fun x _ _=>by rw [h.tb]⟩;rcases h.st k with e|⟨e,d⟩<;>omega
 rcases h.st k with e|⟨e,d⟩<;>omega
 rcases h.st k with e|⟨e,d⟩<;>omega
 rcases h.en y o with l|⟨f,w,r,j,a,b,c⟩
 exact .inl l;simp_all;exact h.off k (hi.jS (by omega))
theorem X1 {m:M} {g:G} {z f y:Nat} (h:ap m g z) (C:aq m.st f=0) (n:g.tb y=none) {mem':List (List Int)} {sp':List dt} (l:mem'.length=m.mem.length)
 (o:∀s,aY sp' s=aY m.af s) (d:∀s,(ay sp' s).1=(ay m.af s).1) (c:∀k,k≠f→aq m.st k≠4→row mem' k=row m.mem k):
 Sm m g {cb m f 4 with mem:=mem',af:=sp'} ⟨bD g.tb y (some f),g.en⟩:=by
 have j:f<m.st.length:=by rw [h.sn.len];exact h.sn.lt (f:=f) (by omega)
 have D:∀k,aq (m.st.set f 4) k=if k=f then 4 else aq m.st k:=fun k=>gx j
 refine ⟨o,d,rfl,rfl,rfl,l,rfl,fun k hk=>?_,fun k v a b hk=>?_,fun k v a b hk=>?_,fun y _=>.inl (ph _),fun k hk=>c k (by rintro rfl;omega) (by omega),fun y u=>?_,fun x _ q=>be (by rintro rfl;exact q n)⟩;have hk:aq (m.st.set f 4) k=5:=hk
 grind
 show aq (m.st.set f 4) k=v
 grind
 have hk:aq (m.st.set f 4) k=v:=hk
 grind
 show dv {cb m f 4 with mem:=mem',af:=sp'} (g.en y)=_;cases e:g.en y with
 |no=>rfl
 |sl i=>rfl
 |pg k w r=>
  have h5:=(h.eo.pg y u k w r e).1;exact c k (by rintro rfl;omega) (by omega)
structure Sr (m:M) (g:G) (b:M) (g':G):Prop where
 aY:∀s,aY b.af s=aY m.af s
 hP:∀s,(ay b.af s).1=(ay m.af s).1
 aC:b.aC=m.aC
 au:b.au=m.au
 next:b.next=m.next
 len:b.mem.length=m.mem.length
 kz:b.aD.length=m.aD.length
 mA:∀k v,v=2∨v=3→(aq b.st k=v↔aq m.st k=v)
 off:∀k,aq m.st k=2∨aq m.st k=3→row b.mem k=row m.mem k
 dv:∀y,y<256→dv b (g'.en y)=dv m (g.en y)
theorem Sm.sr {m b:M} {g g':G} (h:Sm m g b g'):Sr m g b g':=
 ⟨h.aY,h.hP,h.aC,h.au,h.next,h.len,h.kz,fun k v c=>⟨fun e=>h.new k v (by omega) (by omega) e,fun e=>h.eg k v (by omega) (by omega) e⟩,h.off,h.dv⟩
theorem Sr.refl (m:M) (g:G):Sr m g m g:=(Sm.refl m g).sr
theorem Sr.trans {m j l:M} {g d e:G} (b:Sr m g j d) (c:Sr j d l e):Sr m g l e:=
 ⟨fun s=>(c.aY s).trans (b.aY s),fun s=>(c.hP s).trans (b.hP s),c.aC.trans b.aC,c.au.trans b.au,c.next.trans b.next,c.len.trans b.len,c.kz.trans b.kz,fun k v f=>(c.mA k v f).trans (b.mA k v f),
  fun k hk=>by rw [c.off k (hk.imp (b.mA k 2 (.inl rfl)).2 (b.mA k 3 (.inr rfl)).2),b.off k hk],fun y h=>(c.dv y h).trans (b.dv y h)⟩
theorem ado {p q:Nat→Bool} {y:Nat}:∀n,y<n→(∀z,z≠y→p z=q z)→((List.range n).filter p).length+(if q y then 1 else 0)=((List.range n).filter q).length+(if p y then 1 else 0):=by
 intro n
 induction n with
 |zero=>intro h;omega
 |succ n e=>
  intro d b;rw [gD,hG,hG,cw,cw];by_cases c:y=n;subst c;have:(List.range y).filter p=(List.range y).filter q:=by
   apply rD
   grind
  grind
  grind
theorem xP {en:Nat→E} {y:Nat} (b:y<256) (e:E) (i:Nat):cJ (bD en y e) i+(if en y=.sl i then 1 else 0)=cJ en i+(if e=.sl i then 1 else 0):=by
 unfold cJ;have:=ado (p:=fun z=>decide (bD en y e z=.sl i)) (q:=fun z=>decide (en z=.sl i)) 256 b (fun z c=>by simp only [be c]);simpa using this
theorem jN.eS {l:List dL} {en:Nat→E} (h:jN l en) {y:Nat} (f:y<256) {e:E} (b:∀i,en y≠ .sl i) (c:∀i,e≠ .sl i):jN l (bD en y e):=by
 refine ⟨h.len,fun i x d=>?_,h.zero,h.held⟩;have:=xP (en:=en) f e i;rw [aj (b i),aj (c i)] at this;rw [h.cJ i x d];omega
theorem jN.fj {l:List dL} {en:Nat→E} (h:jN l en) {y i:Nat} {x:dL} (z:y<256) (r:en y=.sl i) (g:l[i]?=some x) {e:E} (n:∀i,e≠ .sl i):
 x.1≠0∧jN (l.set i (x.1+ -1,(if x.1+ -1=0 then [] else x.2.1),())) (bD en y e):=by
 have D:=(bR.1 g).1;have C:=h.cJ i x g;have q:=xP (en:=en) z e;have hi:=q i;rw [ak r,aj (n i)] at hi;have o:x.1≠0:=by omega
 refine ⟨o,by rw [dI];exact h.len,fun j v f=>?_,fun v b d=>?_,fun v b d=>?_⟩;rw [g3] at f;by_cases c:i=j
 grind
 rw [aj c] at f;have u:=q j;rw [aj (by simp_all),aj (n j)] at u;rw [h.cJ j v f];omega;rcases m2 b with b|rfl
 exact h.zero v b d;simp_all;rcases m2 b with b|rfl
 exact h.held v b d;have d:x.1+ -1≠0:=d;show (if x.1+ -1=0 then [] else x.2.1).length=4∧_;simp only [aj d];exact h.held x (cS g) o
theorem jN.ET {l:List dL} {en:Nat→E} (h:jN l en) {y i:Nat} {x:dL} (u:y<256) (q:∀j,en y≠ .sl j) (g:l[i]?=some x) (o:x.1≠0):
 jN (l.set i (x.1+1,x.2.1,())) (bD en y (.sl i)):=by
 have C:=(bR.1 g).1;have z:=h.cJ i x g;have r:=xP (en:=en) u (.sl i);refine ⟨by rw [dI];exact h.len,fun j v f=>?_,fun v b d=>?_,fun v b d=>?_⟩;rw [g3] at f;have n:=r j;rw [aj (q j)] at n;by_cases c:i=j
 grind
 rw [aj c] at f;rw [aj (fun e=>c (E.sl.inj e))] at n;rw [h.cJ j v f];omega;rcases m2 b with b|rfl
 exact h.zero v b d;omega;rcases m2 b with b|rfl
 exact h.held v b d;exact h.held x (cS g) o
theorem Fg {e:E} {f:Nat} (h:b2 e f=false) {w r:Bool}:e≠ .pg f w r:=by
 rintro rfl;simp [b2] at h
theorem kg.only {en:Nat→E} (h:kg en) {y f:Nat} {w r:Bool} (n:∀z,z<256→z≠y→b2 (en z) f=false):kg (bD en y (.pg f w r)):=by
 refine ⟨fun a b k u o w2 q j l c d=>?_,fun a b i j l c d=>?_⟩;by_cases e:a=y<;>by_cases g:b=y
 omega;rw [e,b8] at c;rw [be g] at d;cases c;exact absurd d (Fg (n b l g));rw [g,b8] at d;rw [be e] at c;cases d;exact absurd c (Fg (n a j e));rw [be e] at c;rw [be g] at d;exact h.pg a b k u o w2 q j l c d;have e:a≠y:=by rintro rfl;simp_all
 have g:b≠y:=by rintro rfl;simp_all
 rw [be e] at c;rw [be g] at d;exact h.sl a b i j l c d
theorem kg.hz {en:Nat→E} (h:kg en) (y:Nat):kg (bD en y .no):=by
 refine ⟨fun a b k o l w2 n g j c d=>?_,fun a b i g j c d=>?_⟩;have e:a≠y:=by rintro rfl;simp_all
 have f:b≠y:=by rintro rfl;simp_all
 rw [be e] at c;rw [be f] at d;exact h.pg a b k o l w2 n g j c d;have e:a≠y:=by rintro rfl;simp_all
 have f:b≠y:=by rintro rfl;simp_all
 rw [be e] at c;rw [be f] at d;exact h.sl a b i g j c d
theorem ap.aeo {m:M} {g:G} {z y:Nat} (h:ap m g z) (d:y<256) (b:z=84∨z=20+y/4) (c:g.en y≠ .no):ap m g 84:=by
 rcases b with rfl|rfl
 exact h;exact ⟨h.mm,h.sn,h.fr,h.kr,h.sp,h.rp,h.tx,h.nz.tY ⟨fun h=>by omega,fun _=>⟨y%4,by omega,by grind⟩⟩,h.eo,h.sl,h.pg,h.ls,h.mp⟩
theorem ap.ab {m:M} {g:G} {z y f q:Nat} {w r:Bool} (h:ap m g z) (u:y<256) (o:g.en y=.pg f w r) (x:∀z,z<256→z≠y→b2 (g.en z) f=false) (J:bj (aY m.af (y/64)) (y%64)=2)
 {mem':List (List Int)} (j:Re m g mem' (bD g.en y (.pg f true true))):ap {m with mem:=mem'} ⟨g.tb,bD g.en y (.pg f true true)⟩ z:=by
 refine ⟨j.bN.mm,?_,h.fr,h.kr.dD j.len (fun _=>gP) (fun _=>gP),h.sp,j.bN.rp,h.tx,h.nz.eg fun a d v=>?_,⟨fun a d k n l b=>?_,fun a d i b=>?_⟩,h.sl.eS u (fun i=>by simp_all) (fun i e=>by cases e),h.pg.only x,h.ls,fun k hk=>?_⟩;show fh mem'.length m.st;rw [j.len];exact h.sn;by_cases c:a=y;simp_all;simp only [be c];exact v;by_cases c:a=y;subst c;simp only [b8] at b;cases b;obtain ⟨C,D,I⟩:=h.eo.pg a u f w r o;simp_all;simp only [be c] at b;exact h.eo.pg a d k n l b;by_cases c:a=y;simp_all;simp only [be c] at b;exact h.eo.sl a d i b;obtain ⟨a,n,l,d,b⟩:=h.mp k hk;by_cases c:a=y;subst c;rw [o] at b;cases b;exact ⟨a,true,true,d,by simp⟩;exact ⟨a,n,l,d,by simp only [be c];exact b⟩
theorem ap.ahL {m:M} {g:G} {z y f:Nat} {w:Bool} (h:ap m g z) (u:aq m.st f=0) (ad:y<256) (ae:z=84∨z=20+y/4)
 (ah:0<bj (aY m.af (y/64)) (y%64)) (ak:w=true→bj (aY m.af (y/64)) (y%64)=2)
 (ab:∀k w r,g.en y=.pg k w r→∃a,a<256∧a≠y∧b2 (g.en a) k=true)
 {mem':List (List Int)} {sl':List dL} (X:fg mem') (D:mem'.length=m.mem.length) (aa:fQ mem' m.af ⟨g.tb,bD g.en y (.pg f w true)⟩)
 (ac:jN sl' (bD g.en y (.pg f w true))) (ai:sl'.length=m.aD.length):
 ap {m with mem:=mem',st:=m.st.set f 5,bI:=ez (m.st.set f 5),aD:=sl',aK:=m.aK++[(f:Int)]} ⟨g.tb,bD g.en y (.pg f w true)⟩ 84:=by
 have C:=h.sn.lt (f:=f) (by omega);have U:=h.sn.gX (f:=f) (by omega) (by omega);have q:f<m.st.length:=by rw [h.sn.len];exact C
 have Z:∀a,a<256→b2 (g.en a) f=false:=by
  intro a d;rw [pL];intro c;obtain ⟨o,n,e⟩:=e6.1 c;have:=(h.eo.pg a d f o n e).1;omega
 have I:∀k,aq (m.st.set f 5) k=if k=f then 5 else aq m.st k:=fun k=>gx q
 have W:(f:Int)∉m.aK++m.bn:=by
  intro c;obtain ⟨k,e,hk⟩:=(h.ls.mem _).1 c
  grind
 refine ⟨X,?_,rfl,h.kr.dD D (fun k=>fq q u (by omega) (by omega)) (fun k=>fq q u (by omega) (by omega)),h.sp,aa,h.tx.dD fun k=>fq q u (by omega) (by omega),h.nz.set ae (fun e=>by cases e),⟨fun a d k o n j=>?_,fun a d i j=>?_⟩,ac,h.pg.only fun a d _=>Z a d,⟨?_,fun v=>?_⟩,fun k hk=>?_⟩;show fh mem'.length _;rw [D];exact h.sn.set U C (by omega) (by omega) (by omega);by_cases c:a=y;simp_all;simp only [be c] at j;obtain ⟨J,K⟩:=h.eo.pg a d k o n j;simp_all;by_cases c:a=y;simp_all;simp only [be c] at j;obtain ⟨J,K⟩:=h.eo.sl a d i j;simp_all;show (m.aK++[(f:Int)]++m.bn).Nodup;have l:(m.aK++[(f:Int)]++m.bn).Perm ((f:Int)::(m.aK++m.bn)):=by
  simp_all
 rw [l.nodup_iff,jJ];exact ⟨W,h.ls.b7⟩;show v∈m.aK++[(f:Int)]++m.bn↔_;have l:(m.aK++[(f:Int)]++m.bn).Perm ((f:Int)::(m.aK++m.bn)):=by
  simp_all
 rw [l.mem_iff,cy,h.ls.mem v];constructor;rintro (rfl|⟨k,e,hk⟩)
 grind
 exact ⟨k,e,by simp_all⟩;rintro ⟨k,e,hk⟩;have hk:aq (m.st.set f 5) k=5:=hk;rw [I] at hk
 grind
 have hk:aq (m.st.set f 5) k=5:=hk;rw [I] at hk;by_cases c:k=f;subst c;exact ⟨y,w,true,ad,by simp⟩;rw [aj c] at hk;obtain ⟨a,o,n,d,j⟩:=h.mp k hk;by_cases x:a=y;subst x;obtain ⟨b,O,Y,l⟩:=ab k o n j;obtain ⟨w2,ag,l⟩:=e6.1 l;exact ⟨b,w2,ag,O,by simp only [be Y];exact l⟩;exact ⟨a,o,n,d,by simp only [be x];exact j⟩
structure s4 (sp sp':List dt):Prop where
 len:sp'.length=4
 fB:∀s,s<4→(ay sp' s).2.1=(ay sp s).2.1
 hP:∀s,s<4→(ay sp' s).1=(ay sp s).1
theorem s4.refl {sp:List dt} (h:sp.length=4):s4 sp sp:=⟨h,fun _ _=>rfl,fun _ _=>rfl⟩
theorem cz.cW {m:M} {g:G} {sp0:List dt} (h:cz {m with af:=sp0} g) (b:s4 sp0 m.af):cz m g:=
 ⟨⟨h.mm,b.len,⟨fun s c=>(b.fB s c).trans (h.rp.fB s c),h.rp.cZ,h.rp.leaf,h.rp.c1,h.rp.hS⟩,h.lt,h.inj⟩,h.ok⟩
theorem aly {st:List Int} {f k:Nat} {v:Int} (b:f<st.length) (c:v≠0):aq (st.set f 0) k=v↔k≠f∧aq st k=v:=by
 rw [gx b];omega
theorem ap.Yh {m:M} {g:G} {z f y:Nat} (h:ap m g z) (n:y<84) (q:g.tb y=some f) {mem':List (List Int)} {sp':List dt} {C:Nat}
 (I:fg mem') (x:mem'.length=m.mem.length) (U:I6 sp') (K:∀s,aY sp' s=aY m.af s) (O:fQ mem' sp' ⟨bD g.tb y none,g.en⟩) (J:NZ (bD g.tb y none) g.en C):
 ap {dX m f with mem:=mem',af:=sp'} ⟨bD g.tb y none,g.en⟩ C:=by
 have l:aq m.st f=4:=(h.tx.fN f).2 ⟨y,n,q⟩;have u:=h.sn.lt (f:=f) (by omega);have D:=h.sn.gX (f:=f) (by omega) (by omega);have d:f<m.st.length:=by rw [h.sn.len];exact u
 refine ⟨I,?_,rfl,h.kr.dD x (fun k=>fq d l (by omega) (by omega)) (fun k=>fq d l (by omega) (by omega)),U,O,h.tx.o6 n q d,J,⟨fun y n k w r o=>?_,fun y n j o=>?_⟩,h.sl,h.pg,⟨h.ls.b7,fun v=>?_⟩,fun k hk=>?_⟩;show fh mem'.length _;rw [x];exact h.sn.set D u (by omega) (by omega) (by omega);obtain ⟨a,b,c⟩:=h.eo.pg y n k w r o;refine ⟨(fq d l (by omega) (by omega)).2 a,?_⟩;simp_all;show _∧0<bj (aY sp' _) _;rw [K];exact h.eo.sl y n j o;show v∈m.aK++m.bn↔_;rw [h.ls.mem v];constructor;rintro ⟨k,e,hk⟩;exact ⟨k,e,(fq d l (by omega) (by omega)).2 hk⟩;rintro ⟨k,e,hk⟩;exact ⟨k,e,(fq d l (by omega) (by omega)).1 hk⟩;exact h.mp k ((fq d l (by omega) (by omega)).1 hk)
theorem ap.Tc {m:M} {g:G} {x k p f:Nat} (h:ap m g (4*x+4+k)) (l:x<20) (hk:k<4) (e:g.tb x=some p) (d:g.tb (4*x+4+k)=some f) (n:∀j,j<4→bX m.mem f j=0):
 ap {dX m f with mem:=cK m.mem p k 0} ⟨bD g.tb (4*x+4+k) none,g.en⟩ x:=by
 have c:=cz.of h;have b:=c.lt x p (by omega) e;exact h.Yh (sp':=m.af) (by omega) d (h.mm.cK b ⟨by omega,by omega⟩) iZ h.sp (fun _=>rfl) (h.rp.cut c.inj l hk e d n b (h.mm.row b).1) (h.nz.cut l hk)
theorem ap.adr {m:M} {g:G} {s f:Nat} (h:ap m g s) (l:s<4) (n:g.tb s=some f) (r:∀j,j<4→bX m.mem f j=0):
 ap {dX m f with af:=m.af.set s ((ay m.af s).1,-1,(ay m.af s).2.2)} ⟨bD g.tb s none,g.en⟩ 84:=by
 have q:s<m.af.length:=by rw [h.sp.len];exact l
 have o:∀t,ay (m.af.set s ((ay m.af s).1,-1,(ay m.af s).2.2)) t=if t=s then ((ay m.af s).1,-1,(ay m.af s).2.2) else ay m.af t:=fun t=>kA q
 have e:∀t,aY (m.af.set s ((ay m.af s).1,-1,(ay m.af s).2.2)) t=aY m.af t:=by
  intro t;unfold aY
  grind
 refine h.Yh (by omega) n h.mm rfl ⟨by rw [dI];exact h.sp.len,fun t d=>by rw [e];exact h.sp.hY t d,fun t d b=>?_⟩ e ?_ (h.nz.Kq l);rw [o] at b⊢;rw [e];split at b;rename_i c;subst c;rw [ak rfl];exact ⟨rfl,(h.sp.hv t d b).2⟩;rename_i c;rw [aj c];exact h.sp.hv t d b;refine h.rp.Kq l n r (fun t _=>?_)
 grind
theorem Az.hz {en:Nat→E} {st:List Int} {sp:List dt} {n:Nat} (h:Az en st sp n) (y:Nat) {st':List Int} {e:Nat} (g:∀a,a<256→a≠y→∀k w r,en a=.pg k w r→aq st' k=5) (f:e=n):Az (bD en y .no) st' sp e:=by
 subst f;refine ⟨fun a d k w r b=>?_,fun a d i b=>?_⟩;have c:a≠y:=by rintro rfl;simp_all
 rw [be c] at b;exact ⟨g a d c k w r b,(h.pg a d k w r b).2⟩;have c:a≠y:=by rintro rfl;simp_all
 rw [be c] at b;exact h.sl a d i b
theorem ap.adA {m:M} {g:G} {y i:Nat} {x:dL} (h:ap m g 84) (n:y<256) (d:g.en y=.sl i) (l:m.aD[i]?=some x) {mem':List (List Int)} (b:Re m g mem' (bD g.en y .no)):
 x.1≠0∧ap {m with mem:=mem',aD:=m.aD.set i (x.1+ -1,(if x.1+ -1=0 then [] else x.2.1),())} ⟨g.tb,bD g.en y .no⟩ (20+y/4):=by
 obtain ⟨f,j⟩:=h.sl.fj (e:=.no) n d l (fun i e=>by cases e);refine ⟨f,b.bN.mm,?_,h.fr,h.kr.dD b.len (fun _=>gP) (fun _=>gP),h.sp,b.bN.rp,h.tx,h.nz.Mm (.inl rfl),h.eo.hz y (fun a c _ k w r e=>(h.eo.pg a c k w r e).1) (by simp),j,h.pg.hz y,h.ls,fun k hk=>?_⟩;show fh mem'.length m.st;rw [b.len];exact h.sn;obtain ⟨a,w,r,c,e⟩:=h.mp k hk;have:a≠y:=by grind
 exact ⟨a,w,r,c,by simp only [be this];exact e⟩
theorem ap.adz {m:M} {g:G} {y f a:Nat} {w r:Bool} (h:ap m g 84) (u:y<256) (q:g.en y=.pg f w r) (j:a<256) (n:a≠y) (l:b2 (g.en a) f=true) {mem':List (List Int)} (d:Re m g mem' (bD g.en y .no)):
 ap {m with mem:=mem'} ⟨g.tb,bD g.en y .no⟩ (20+y/4):=by
 refine ⟨d.bN.mm,?_,h.fr,h.kr.dD d.len (fun _=>gP) (fun _=>gP),h.sp,d.bN.rp,h.tx,h.nz.Mm (.inl rfl),h.eo.hz y (fun a j _ k w r e=>(h.eo.pg a j k w r e).1) rfl,h.sl.eS u (fun i=>by simp_all) (fun i e=>by cases e),h.pg.hz y,h.ls,fun k hk=>?_⟩;show fh mem'.length m.st;rw [d.len];exact h.sn;obtain ⟨b,w',v,o,e⟩:=h.mp k hk;by_cases c:b=y;subst c;rw [q] at e;cases e;obtain ⟨w2,x,l⟩:=e6.1 l;exact ⟨a,w2,x,j,by simp only [be n];exact l⟩;exact ⟨b,w',v,o,by simp only [be c];exact e⟩
theorem ap.ady {m:M} {g:G} {y f:Nat} {w r:Bool} (h:ap m g 84) (z:y<256) (J:g.en y=.pg f w r) (O:∀a,a<256→a≠y→b2 (g.en a) f=false) {mem':List (List Int)} (j:Re m g mem' (bD g.en y .no)):
 ap {m with mem:=mem',st:=m.st.set f 0,bI:=ez (m.st.set f 0),aK:=m.aK.filter (fun x=>x !=(f:Int)),bn:=m.bn.filter (fun x=>x !=(f:Int))} ⟨g.tb,bD g.en y .no⟩ (20+y/4):=by
 have l:=(h.eo.pg y z f w r J).1;have q:=h.sn.lt (f:=f) (by omega);have K:=h.sn.gX (f:=f) (by omega) (by omega);have d:f<m.st.length:=by rw [h.sn.len];exact q
 have u:∀k,aq (m.st.set f 0) k=5↔k≠f∧aq m.st k=5:=fun k=>aly d (by omega)
 refine ⟨j.bN.mm,?_,rfl,h.kr.dD j.len (fun k=>fq d l (by omega) (by omega)) (fun k=>fq d l (by omega) (by omega)),h.sp,j.bN.rp,h.tx.dD fun k=>fq d l (by omega) (by omega),h.nz.Mm (.inl rfl),h.eo.hz y (fun a o D k w' n e=>(u k).2 ⟨?_,(h.eo.pg a o k w' n e).1⟩) rfl,h.sl.eS z (fun i=>by simp_all) (fun i e=>by cases e),h.pg.hz y,⟨?_,fun v=>?_⟩,fun k hk=>?_⟩;show fh mem'.length _;rw [j.len];exact h.sn.set K q (by omega) (by omega) (by omega);rintro rfl;exact Fg (O a o D) e;show (m.aK.filter _++m.bn.filter _).Nodup;rw [←hG];exact ol _ h.ls.b7;show v∈m.aK.filter _++m.bn.filter _↔_;rw [←hG,dB,h.ls.mem v]
 grind
 obtain ⟨U,C⟩:=(u k).1 hk;obtain ⟨b,w',n,I,e⟩:=h.mp k C;have c:b≠y:=by
  grind
 exact ⟨b,w',n,I,by simp only [be c];exact e⟩
theorem ap.yF {m:M} {g:G} {z s:Nat} {rg:List cC} (h:ap m g z) (v:s<4) (u:hN rg) (C:(ay m.af s).1=true)
 (D:∀p,p<64→∀f w r,g.en (64*s+p)=.pg f w r→0<bj rg p∧(w=true→bj rg p=2)) (x:∀p,p<64→∀i,g.en (64*s+p)=.sl i→0<bj rg p):
 ap {m with af:=m.af.set s ((ay m.af s).1,(ay m.af s).2.1,rg,())} g z:=by
 have q:s<m.af.length:=by rw [h.sp.len];exact v
 have o:∀t,ay (m.af.set s ((ay m.af s).1,(ay m.af s).2.1,rg,())) t=if t=s then ((ay m.af s).1,(ay m.af s).2.1,rg,()) else ay m.af t:=fun t=>kA q
 have l:∀t,aY (m.af.set s ((ay m.af s).1,(ay m.af s).2.1,rg,())) t=if t=s then rg else aY m.af t:=fun t=>by
  unfold aY;grind
 refine ⟨h.mm,h.sn,h.fr,h.kr,⟨by rw [dI];exact h.sp.len,fun t d=>?_,fun t d e=>?_⟩,⟨fun t d=>?_,h.rp.cZ,h.rp.leaf,h.rp.c1,h.rp.hS⟩,h.tx,h.nz,⟨fun y n f w r j=>?_,fun y n i j=>?_⟩,h.sl,h.pg,h.ls,h.mp⟩;rw [l];split;exact u;exact h.sp.hY t d;rw [o] at e⊢;rw [l];by_cases c:t=s;simp_all;rw [aj c] at e⊢;rw [aj c];exact h.sp.hv t d e;show (ay (m.af.set s _) t).2.1=_;rw [o];split;rename_i c;subst c;exact h.rp.fB t d;exact h.rp.fB t d;obtain ⟨a,b⟩:=h.eo.pg y n f w r j
 grind
 obtain ⟨a,b⟩:=h.eo.sl y n i j;refine ⟨a,?_⟩;show 0<bj (aY (m.af.set s _) _) _;rw [l];by_cases c:y/64=s;rw [ak c];exact x (y%64) (by omega) i (by grind);simp_all
def cP (mk:Nat→Int):Nat→List cC×Option cC
 |0=>([],none)
 |p+1=>if mk p=0 then ((cP mk p).1++(cP mk p).2.toList,none) else match (cP mk p).2 with
  |some r=>if mk (p-1)=mk p then ((cP mk p).1,some (r.1,((p+1:Nat):Int),r.2.2)) else ((cP mk p).1++[r],some ((p:Int),((p+1:Nat):Int),(mk p==2),()))
  |none=>((cP mk p).1,some ((p:Int),((p+1:Nat):Int),(mk p==2),()))
def fm (mk:Nat→Int) (p:Nat):List cC:=(cP mk p).1++(cP mk p).2.toList
theorem VE (l:List cC) (r:cC) (p:Nat):bj (l++[r]) p=if r.1≤(p:Int)∧(p:Int)<r.2.1 then (if r.2.2.1 then 2 else 1) else bj l p:=by
 unfold bj;simp_all
theorem Mi:∀(l:List cC) (r:cC),n0 l→(∀q,l.getLast?=some q→Fw q r)→n0 (l++[r])
 |[],r,_,_=>trivial
 |[a],r,_,h=>⟨h a rfl,trivial⟩
 |a::b::l,r,h,c=>⟨h.1,Mi (b::l) r h.2 (fun q d=>c q (by simp_all))⟩
theorem Vw:∀(l:List cC) (r:cC),n0 (l++[r])→n0 l∧∀q,l.getLast?=some q→Fw q r
 |[],r,_=>⟨trivial,(fun q c=>by cases c)⟩
 |[a],r,h=>⟨trivial,fun q c=>by cases c;exact h.1⟩
 |a::b::l,r,h=>by
  obtain ⟨d,e⟩:=Vw (b::l) r h.2;exact ⟨⟨h.1,d⟩,fun q c=>e q (by simp_all)⟩
theorem KB {mk:Nat→Int} (Y:∀p,mk p=0∨mk p=1∨mk p=2):∀p,(∀r∈fm mk p,0≤r.1∧r.1<r.2.1∧r.2.1≤p)∧n0 (fm mk p)∧
 (∀r,(cP mk p).2=some r→r.2.1=p∧0<p∧mk (p-1)≠0∧r.2.2.1=(mk (p-1)==2))∧((cP mk p).2=none→∀r∈fm mk p,r.2.1<p)∧(∀q,bj (fm mk p) q=if q<p then mk q else 0)∧(0<p→mk (p-1)≠0→(cP mk p).2≠none)∧(fm mk p).length≤p:=by
 intro p
 induction p with
 |zero=>exact ⟨(fun r d=>by cases d),trivial,(fun r d=>by cases d),(fun _ r d=>by cases d),fun q=>rfl,(fun h=>by omega),by simp [fm,cP]⟩
 |succ p I=>
  obtain ⟨u,n,C,Z,o,aa,D⟩:=I;by_cases c:mk p=0;have e:cP mk (p+1)=(fm mk p,none):=by unfold cP;rw [ak c];rfl
  have f:fm mk (p+1)=fm mk p:=by unfold fm at e⊢;rw [e];simp
  rw [f,e]
  grind
  have v:∀(l:List cC),l=fm mk p→(∀q,l.getLast?=some q→q.2.1=(p:Int)→q.2.2.1≠(mk p==2))→cP mk (p+1)=(l,some ((p:Int),((p+1:Nat):Int),(mk p==2),()))→
   (∀r∈fm mk (p+1),0≤r.1∧r.1<r.2.1∧r.2.1≤((p+1:Nat):Int))∧n0 (fm mk (p+1))∧
   (∀r,(cP mk (p+1)).2=some r→r.2.1=((p+1:Nat):Int)∧0<p+1∧mk (p+1-1)≠0∧r.2.2.1=(mk (p+1-1)==2))∧((cP mk (p+1)).2=none→∀r∈fm mk (p+1),r.2.1<((p+1:Nat):Int))∧(∀q,bj (fm mk (p+1)) q=if q<p+1 then mk q else 0)∧(0<p+1→mk (p+1-1)≠0→(cP mk (p+1)).2≠none)∧(fm mk (p+1)).length≤p+1:=by
   intro l x y e;have f:fm mk (p+1)=l++[((p:Int),((p+1:Nat):Int),(mk p==2),())]:=by unfold fm;rw [e];rfl
   rw [f,e];subst x;refine ⟨fun r d=>?_,Mi _ _ n fun q b=>⟨?_,y q b⟩,fun r d=>?_,(fun h=>by cases h),fun q=>?_,(fun _ _ h=>by cases h),by grind⟩
   grind
   grind
   grind
   rw [VE,o]
   grind
  cases j:(cP mk p).2 with
  |none=>
   have g:fm mk p=(cP mk p).1:=by unfold fm;rw [j];simp
   refine v (cP mk p).1 g.symm (fun q b z=>?_) ?_
   grind
   ·conv=>lhs;unfold cP
    rw [aj c,j]
  |some r=>
   obtain ⟨O,U,a3,a4⟩:=C r j;have g:fm mk p=(cP mk p).1++[r]:=by unfold fm;rw [j];rfl
   by_cases W:mk (p-1)=mk p
   ·have e:cP mk (p+1)=((cP mk p).1,some (r.1,((p+1:Nat):Int),r.2.2)):=by
     conv=>lhs;unfold cP
     grind
    have f:fm mk (p+1)=(cP mk p).1++[(r.1,((p+1:Nat):Int),r.2.2)]:=by unfold fm;rw [e];rfl
    rw [g] at u n o D;obtain ⟨J,K⟩:=Vw _ _ n;have X:=u r (by simp);rw [f,e];refine ⟨fun q b=>?_,Mi _ _ J fun q b=>K q b,fun q b=>?_,(fun h=>by cases h),fun q=>?_,(fun _ _ h=>by cases h),by grind⟩
    grind
    grind
    have:=o q;rw [VE] at this⊢
    grind
   refine v ((cP mk p).1++[r]) g.symm (fun q b z=>?_) ?_
   grind
   ·conv=>lhs;unfold cP
    grind
theorem ap.spawn {m:M} {g:G} {z s:Nat} (h:ap m g z) (l:s<4) (x:(ay m.af s).1=false):ap {m with af:=m.af.set s (true,-1,[],())} g z:=by
 have C:s<m.af.length:=by rw [h.sp.len];exact l
 obtain ⟨u,v⟩:=h.sp.hv s l x;have n:∀t,ay (m.af.set s (true,-1,[],())) t=if t=s then (true,-1,[],()) else ay m.af t:=fun t=>kA C
 have q:∀t,aY (m.af.set s (true,-1,[],())) t=aY m.af t:=fun t=>by
  unfold aY;rw [n];split;rename_i c;rw [c];exact v.symm;rfl
 refine ⟨h.mm,h.sn,h.fr,h.kr,⟨by rw [dI];exact h.sp.len,fun t d=>by rw [q];exact h.sp.hY t d,fun t d e=>?_⟩,⟨fun t d=>?_,h.rp.cZ,h.rp.leaf,h.rp.c1,h.rp.hS⟩,h.tx,h.nz,⟨fun y o f w r j=>?_,fun y o i j=>?_⟩,h.sl,h.pg,h.ls,h.mp⟩;rw [n] at e⊢;rw [q];by_cases c:t=s;simp_all;rw [aj c] at e⊢;exact h.sp.hv t d e;show (ay (m.af.set s _) t).2.1=_;rw [n];split;rename_i c;rw [c,←h.rp.fB s l,u];exact h.rp.fB t d;obtain ⟨a,b⟩:=h.eo.pg y o f w r j;simp_all;obtain ⟨a,b⟩:=h.eo.sl y o i j;simp_all
theorem ap.agd {m:M} {g:G} {s:Nat} (h:ap m g 84) (n:s<4) (f:∀p,p<64→g.en (64*s+p)=.no):g.tb s=none:=by
 apply ho;intro c;obtain ⟨b,_⟩:=h.nz s (by omega) (by omega) c;obtain ⟨k,hk,d⟩:=b (by omega);obtain ⟨e,_⟩:=h.nz (4*s+4+k) (by omega) (by omega) d;obtain ⟨j,l,h4⟩:=e (by omega);obtain ⟨_,h5⟩:=h.nz (4*(4*s+4+k)+4+j) (by omega) (by omega) h4;obtain ⟨i,hi,h6⟩:=h5 (by omega);apply h6;have:=f (16*k+4*j+i) (by omega)
 grind
theorem ap.aw {m:M} {g:G} {s:Nat} (h:ap m g 84) (q:s<4) (n:∀p,p<64→g.en (64*s+p)=.no):ap {m with af:=m.af.set s (false,-1,[],())} g 84:=by
 have v:s<m.af.length:=by rw [h.sp.len];exact q
 have z:=h.agd q n;have u:∀t,ay (m.af.set s (false,-1,[],())) t=if t=s then (false,-1,[],()) else ay m.af t:=fun t=>kA v
 have o:∀t,aY (m.af.set s (false,-1,[],())) t=if t=s then [] else aY m.af t:=fun t=>by
  unfold aY;grind
 have C:∀y,y<256→g.en y≠ .no→y/64≠s:=fun y e x c=>x (by
  have:=n (y%64) (by omega)
  grind)
 refine ⟨h.mm,h.sn,h.fr,h.kr,⟨by rw [dI];exact h.sp.len,fun t d=>?_,fun t d j=>?_⟩,⟨fun t d=>?_,h.rp.cZ,h.rp.leaf,h.rp.c1,h.rp.hS⟩,h.tx,h.nz,⟨fun y e f w r l=>?_,fun y e i l=>?_⟩,h.sl,h.pg,h.ls,h.mp⟩;rw [o];split;exact ⟨by simp,by simp,trivial⟩;exact h.sp.hY t d;rw [u] at j⊢;rw [o];by_cases c:t=s;simp_all;rw [aj c] at j⊢;rw [aj c];exact h.sp.hv t d j;show (ay (m.af.set s _) t).2.1=_;rw [u];split;rename_i c;rw [c,z];rfl;exact h.rp.fB t d;obtain ⟨a,b⟩:=h.eo.pg y e f w r l;simp_all;obtain ⟨a,b⟩:=h.eo.sl y e i l;simp_all
theorem ap.aeb {m:M} {g:G} {z a b i:Nat} {x:dL} (h:ap m g z) (K:a<256) (O:b<256) (U:g.en a=.sl i) (aj:g.en b=.no) (ag:a%64=b%64) (ac:z=84∨z=20+b/4) (q:m.aD[i]?=some x)
 (ai:0<bj (aY m.af (b/64)) (b%64)) {mem':List (List Int)} (n:Re m g mem' (bD g.en b (.sl i))):
 x.1≠0∧ap {m with mem:=mem',aD:=m.aD.set i (x.1+1,x.2.1,())} ⟨g.tb,bD g.en b (.sl i)⟩ 84:=by
 have I:x.1≠0:=by
  have d:=h.sl.cJ i x q;intro ae;exact tR (en:=g.en) (i:=i) (by omega) K U
 have ah:=(bR.1 q).1;refine ⟨I,n.bN.mm,?_,h.fr,h.kr.dD n.len (fun _=>gP) (fun _=>gP),h.sp,n.bN.rp,h.tx,h.nz.set ac (fun e=>by cases e),⟨fun y f k w r d=>?_,fun y f j d=>?_⟩,h.sl.ET O (fun j=>by simp_all) q I,⟨fun y o k w r w2 ad f C d l=>?_,fun y o j f C d l=>?_⟩,h.ls,fun k hk=>?_⟩;show fh mem'.length m.st;rw [n.len];exact h.sn;have c:y≠b:=by rintro rfl;simp_all
 simp only [be c] at d;exact h.eo.pg y f k w r d;show j<(m.aD.set i _).length∧_;rw [dI];by_cases c:y=b;simp_all;simp only [be c] at d;exact h.eo.sl y f j d;have c:y≠b:=by rintro rfl;simp_all
 have J:o≠b:=by rintro rfl;simp_all
 simp only [be c] at d;simp only [be J] at l;exact h.pg.pg y o k w r w2 ad f C d l;have key:∀y,y<256→∀j,bD g.en b (.sl i) y=.sl j→∃D,D<256∧D%64=y%64∧g.en D=.sl j:=fun y f j d=>by
  by_cases c:y=b;subst c;rw [b8] at d;grind;rw [be c] at d;grind
 obtain ⟨u,W,Y,X⟩:=key y f j d;obtain ⟨v,Z,ab,aa⟩:=key o C j l;rw [←Y,←ab];exact h.pg.sl u v j W Z X aa;obtain ⟨y,w,r,f,e⟩:=h.mp k hk;have c:y≠b:=by grind
 exact ⟨y,w,r,f,by simp only [be c];exact e⟩
theorem ap.aea {m:M} {g:G} {z a b f:Nat} {w r:Bool} (h:ap m g z) (W:a<256) (ae:b<256) (O:g.en a=.pg f w r) (ah:g.en b=.no) (ay:a%64=b%64) (av:z=84∨z=20+b/4)
 (a0:0<bj (aY m.af (b/64)) (b%64)) {mem':List (List Int)} (J:Re m g mem' (bD (bD g.en a (.pg f false r)) b (.pg f false false))):
 ap {m with mem:=mem'} ⟨g.tb,bD (bD g.en a (.pg f false r)) b (.pg f false false)⟩ 84:=by
 have aj:a≠b:=by grind
 have key:∀y,y<256→∀k w' q,bD (bD g.en a (.pg f false r)) b (.pg f false false) y=.pg k w' q→∃I w2 D,I<256∧I%64=y%64∧g.en I=.pg k w2 D∧(w'=true→I=y∧w2=true)∧(k=f→w'=false):=fun y n k w' q l=>by
  by_cases c:y=b;subst c;rw [b8] at l;grind;rw [be c] at l;by_cases o:y=a;subst o;rw [b8] at l;grind;rw [be o] at l;refine ⟨y,w',q,n,rfl,l,fun e=>⟨rfl,e⟩,fun e=>?_⟩;subst e;exact (h.pg.pg y a k w' q w r n W l O).2 o
 have U:∀y,∀j,bD (bD g.en a (.pg f false r)) b (.pg f false false) y=.sl j→g.en y=.sl j:=fun y j l=>by
  have c:y≠b:=by rintro rfl;simp_all
  rw [be c] at l;have o:y≠a:=by rintro rfl;simp_all
  rwa [be o] at l
 refine ⟨J.bN.mm,?_,h.fr,h.kr.dD J.len (fun _=>gP) (fun _=>gP),h.sp,J.bN.rp,h.tx,(h.nz.eg (en':=bD g.en a (.pg f false r)) fun y n ai=>?_).set av (fun e=>by cases e),⟨fun y n k w' q l=>?_,fun y n j l=>h.eo.sl y n j (U y j l)⟩,(h.sl.eS W (fun i=>by simp_all) (fun i e=>by cases e)).eS ae (fun i=>by rw [be aj.symm,ah];simp_all) (fun i e=>by cases e),⟨fun y x k w' q w2 D n K l C=>?_,fun y x j n K l C=>h.pg.sl y x j n K (U y j l) (U x j C)⟩,h.ls,fun k hk=>?_⟩;show fh mem'.length m.st;rw [J.len];exact h.sn;by_cases c:y=a;simp_all;rw [be c];exact ai;have ax:=l;obtain ⟨I,w2,D,au,a5,e,a4,_⟩:=key y n k w' q l;have h5:=(h.eo.pg I au k w2 D e).1;refine ⟨h5,?_⟩;by_cases c:y=b;simp_all;simp only [be c] at l;by_cases o:y=a;subst o;simp only [b8] at l;cases l;exact ⟨(h.eo.pg y n f w r O).2.1,fun e=>by cases e⟩;simp only [be o] at l;exact (h.eo.pg y n k w' q l).2;obtain ⟨u,X,Z,al,a1,am,ar,ag⟩:=key y n k w' q l;obtain ⟨v,Y,aa,an,a3,ao,_,az⟩:=key x K k w2 D C;obtain ⟨a6,a7⟩:=h.pg.pg u v k X Z Y aa al an am ao;refine ⟨by omega,fun ak=>?_⟩;by_cases ab:k=f;exact ag ab;cases aq:w';rfl;obtain ⟨ad,aw⟩:=ar aq;by_cases a2:u=v
 ·
  exfalso;subst ad;by_cases c:x=b;simp_all;simp only [be c] at C;by_cases o:x=a;simp_all;simp only [be o] at C;by_cases d:u=b;simp_all;simp only [be d] at l;by_cases ac:u=a;simp_all;simp only [be ac] at l;have:=(h.pg.pg u x k w' q w2 D n K l C).2 ak;simp_all
 simp_all;obtain ⟨y,w',q,n,e⟩:=h.mp k hk;have c:y≠b:=by grind
 by_cases o:y=a;subst o;rw [O] at e;cases e;exact ⟨y,false,r,n,by simp only [be c,b8]⟩;exact ⟨y,w',q,n,by simp only [be c,be o];exact e⟩
def E.mv (t:Nat):E→E
 | .pg _ w r=>.pg t w r
 |e=>e
def hV (en:Nat→E) (f t:Nat):Nat→E:=fun y=>if b2 (en y) f then (en y).mv t else en y
def e9 (f t:Nat) (x:Int):Int:=if x=(f:Int) then (t:Int) else x
def yl (m:M) (mem':List (List Int)) (f t:Nat):M:=
 {m with mem:=mem'.set t (row m.mem f),st:=(m.st.set t 5).set f 0,bI:=ez ((m.st.set t 5).set f 0),aK:=m.aK.map (e9 f t),bn:=m.bn.map (e9 f t)}
theorem Lu {en:Nat→E} {f t y k:Nat} {w r:Bool} (h:hV en f t y=.pg k w r):(k=t∧en y=.pg f w r)∨(k≠f∧en y=.pg k w r):=by
 unfold hV at h;by_cases c:b2 (en y) f=true;rw [ak c] at h;obtain ⟨w',b,e⟩:=e6.1 c;rw [e] at h⊢;cases h;simp_all;rw [aj c] at h;refine .inr ⟨?_,h⟩;rintro rfl;exact c (e6.2 ⟨w,r,h⟩)
theorem EV {en:Nat→E} {f t y i:Nat}:hV en f t y=.sl i↔en y=.sl i:=by
 unfold hV;by_cases c:b2 (en y) f=true;rw [ak c];obtain ⟨w',b,e⟩:=e6.1 c;rw [e];constructor<;>intro h<;>cases h
 rw [aj c]
theorem afX {en:Nat→E} {f t y:Nat}:hV en f t y=.no↔en y=.no:=by
 unfold hV;by_cases c:b2 (en y) f=true;rw [ak c];obtain ⟨w',b,e⟩:=e6.1 c;rw [e];constructor<;>intro h<;>cases h
 rw [aj c]
theorem Uw {en:Nat→E} {f t y k:Nat} {w r:Bool} (h:en y=.pg k w r):hV en f t y=.pg (if k=f then t else k) w r:=by
 unfold hV;rw [h];by_cases c:k=f;subst c;rw [ak (e6.2 ⟨w,r,rfl⟩),ak rfl];rfl;rw [aj c,aj];intro e;obtain ⟨_,_,e⟩:=e6.1 e;cases e;exact c rfl
theorem aim {f t:Nat} {a b:Int} (c:a≠(t:Int)) (d:b≠(t:Int)) (h:e9 f t a=e9 f t b):a=b:=by
 unfold e9 at h;omega
theorem ap.move {m:M} {g:G} {z f t:Nat} {mem':List (List Int)} (h:ap m g z) (U:aq m.st f=5) (av:aq m.st t=0) (K:Re m g mem' (hV g.en f t)):
 ap (yl m mem' f t) ⟨g.tb,hV g.en f t⟩ z:=by
 have an:f≠t:=by rintro rfl;omega
 have J:=h.sn.lt (f:=f) (by omega);have Y:=h.sn.lt (f:=t) (by omega);have ac:=h.sn.gX (f:=f) (by omega) (by omega);have af:=h.sn.gX (f:=t) (by omega) (by omega);have am:f<m.st.length:=by rw [h.sn.len];exact J
 have ag:t<m.st.length:=by rw [h.sn.len];exact Y
 have au:∀k,aq ((m.st.set t 5).set f 0) k=if k=f then 0 else if k=t then 5 else aq m.st k:=fun k=>by
  rw [gx (by simp_all),gx ag]
 have O:∀k v,v≠0→v≠5→(aq ((m.st.set t 5).set f 0) k=v↔aq m.st k=v):=by
  grind
 have h5:∀k,aq ((m.st.set t 5).set f 0) k=5↔k=t∨k≠f∧aq m.st k=5:=by
  grind
 have X:mem'.length=m.mem.length:=K.len;have ao:=h.jS (f:=t) (by omega);have ar:∀y,y<256→∀w r,g.en y≠ .pg t w r:=fun y d w r e=>by have:=(h.eo.pg y d t w r e).1;omega
 refine ⟨K.bN.mm.set (h.mm.row J),?_,rfl,h.kr.dD (by simp [yl,X]) (fun k=>O k 2 (by omega) (by omega)) (fun k=>O k 3 (by omega) (by omega)),h.sp,K.bN.rp.off fun x k aw hk j _=>y8 ?_,h.tx.dD fun k=>O k 4 (by omega) (by omega),h.nz.eg fun y d ae e=>ae (afX.1 e),⟨fun y d k w r n=>?_,fun y d j n=>h.eo.sl y d j (EV.1 n)⟩,⟨h.sl.len,fun j v ad=>?_,h.sl.zero,h.sl.held⟩,⟨fun y z k w r w' Z d q l I=>?_,fun y z j d q l I=>h.pg.sl y z j d q (EV.1 l) (EV.1 I)⟩,⟨?_,fun v=>?_⟩,fun k hk=>?_⟩;show fh (mem'.set t _).length _;rw [dI,X];exact (h.sn.set af Y (by omega) (by omega) (by omega)).set ac J (by omega) (by omega) (by omega)
 grind
 rcases Lu n with ⟨rfl,e⟩|⟨hk,e⟩
 obtain ⟨_,b,c⟩:=h.eo.pg y d f w r e;exact ⟨(h5 k).2 (.inl rfl),b,c⟩;obtain ⟨a,b,c⟩:=h.eo.pg y d k w r e;exact ⟨(h5 k).2 (.inr ⟨hk,a⟩),b,c⟩;show v.1=(cJ (hV g.en f t) j:Int);rw [h.sl.cJ j v ad,Kn fun y d=>?_];exact EV.symm;rcases Lu l with ⟨rfl,C⟩|⟨ax,C⟩<;>rcases Lu I with ⟨al,D⟩|⟨al,D⟩
 exact h.pg.pg y z f w r w' Z d q C D
 grind
 grind
 exact h.pg.pg y z k w r w' Z d q C D;show (m.aK.map _++m.bn.map _).Nodup;rw [←e2];unfold List.Nodup;rw [iC];refine List.Pairwise.imp_of_mem (fun {a b} aa ab o e=>o ?_) h.ls.b7;have W:∀v,v∈m.aK++m.bn→v≠(t:Int):=fun v ai=>by
  obtain ⟨k,rfl,hk⟩:=(h.ls.mem v).1 ai
  grind
 exact aim (W a aa) (W b ab) e;show v∈m.aK.map _++m.bn.map _↔_;rw [←e2,b9];constructor;rintro ⟨u,ah,rfl⟩;obtain ⟨k,rfl,hk⟩:=(h.ls.mem u).1 ah;unfold e9;by_cases c:k=f;subst c;rw [ak rfl];exact ⟨t,rfl,(h5 t).2 (.inl rfl)⟩;rw [aj (by omega)];exact ⟨k,rfl,(h5 k).2 (.inr ⟨c,hk⟩)⟩;rintro ⟨k,rfl,hk⟩;rcases (h5 k).1 hk with rfl|⟨o,l⟩
 exact ⟨f,(h.ls.mem f).2 ⟨f,rfl,U⟩,by unfold e9;rw [ak rfl]⟩;exact ⟨k,(h.ls.mem k).2 ⟨k,rfl,l⟩,by unfold e9;rw [aj (by omega)]⟩;rcases (h5 k).1 hk with rfl|⟨o,l⟩
 obtain ⟨y,w,r,d,n⟩:=h.mp f U;exact ⟨y,w,r,d,by show hV g.en f k y=_;rw [Uw n,ak rfl]⟩;obtain ⟨y,w,r,d,n⟩:=h.mp k l;exact ⟨y,w,r,d,by show hV g.en f t y=_;rw [Uw n,aj o]⟩
def c5 {α:Type} (l:List α) (a:Nat):Nat→α→List α
 |0,_=>l
 |n+1,v=>(c5 l a n v).set (a+n) v
theorem mR {α:Type} (l:List α) (a:Nat) (v:α):∀n,(c5 l a n v).length=l.length
 |0=>rfl
 |n+1=>by rw [c5,dI,mR l a v n]
theorem uL {α:Type} {l:List α} {a:Nat} {v d:α} (i:Nat):∀n,a+n≤l.length→(c5 l a n v).getD i d=if a≤i∧i<a+n then v else l.getD i d
 |0,_=>by rw [c5,aj (by omega)]
 |n+1,h=>by
  rw [c5,lC (by rw [mR];omega)];by_cases c:i=a+n;simp_all;rw [aj c,uL i n (by omega)]
  grind
theorem fg.c5 {mem:List (List Int)} (h:fg mem) (a:Nat):∀n,fg (c5 mem a n [0,0,0,0])
 |0=>h
 |n+1=>(h.c5 a n).set ⟨rfl,by simp⟩
theorem anA {mem mem':List (List Int)} {f k:Nat} (h:row mem' f=row mem f):bX mem' f k=bX mem f k:=by unfold bX;rw [h]
theorem LA {w:Int} {k:Nat} (h:(k:Int)=gw w):k≤3:=by
 unfold gw at h;omega
def qD (m:M) (a k:Nat):M:={m with mem:=c5 m.mem a (2^k) [0,0,0,0],st:=c5 m.st a (2^k) 3,bI:=ez (c5 m.st a (2^k) 3)}
theorem kO (l:List bZ) (x:bZ):cD (l++[x])=cD l++if x.2.2.1= -1 then cQ (x.2.1,x.2.2.2.1,()) else []:=by
 unfold cD;simp_all
theorem uu {a k:Nat} {v:Int}:v∈cQ ((a:Int),(k:Int),())↔∃i:Nat,v=i∧a≤i∧i<a+2^k:=by
 rw [KD,b9]
 grind
theorem aen (a k:Nat):(cQ ((a:Int),(k:Int),())).Nodup:=by
 rw [KD];unfold List.Nodup;rw [iC];exact List.Pairwise.imp (fun {x y} h e=>h (by omega)) List.nodup_range'
theorem ap.JJ {m:M} {g:G} {z a k:Nat} {w:Int} (h:ap m g z) (hk:(k:Int)=gw w) (ab:5≤w∧w≤32) (X:a%2^k=0) (K:a+2^k≤m.mem.length) (d:∀i,i<2^k→aq m.st (a+i)=0)
 (Z:m.au.length<40) (b:m.next<100000):ap {qD m a k with au:=m.au++[(m.next,(a:Int),-1,(k:Int),w,())],next:=m.next+1} g z:=by
 have U:=h.sn.len;have aa:=kF k;have W:∀i,a≤i→i<a+2^k→aq m.st i=0:=fun i D I=>by
  have:=d (i-a) (by omega);simp_all
 have o:∀i,aq (c5 m.st a (2^k) 3) i=if a≤i∧i<a+2^k then 3 else aq m.st i:=fun i=>uL i _ (by omega)
 have j:∀i v,v≠0→v≠3→(aq (c5 m.st a (2^k) 3) i=v↔aq m.st i=v):=by
  grind
 have O:∀i,aq m.st i≠0→row (c5 m.mem a (2^k) [0,0,0,0]) i=row m.mem i:=by
  intro i hi;unfold row;rw [uL i _ K,aj]
  grind
 refine ⟨h.mm.c5 a _,?_,rfl,?_,h.sp,h.rp.off fun x f b d k _=>?_,h.tx.dD fun f=>j f 4 (by omega) (by omega),h.nz,⟨fun y l f w r J=>?_,h.eo.sl⟩,h.sl,h.pg,⟨h.ls.b7,fun v=>?_⟩,fun f d=>?_⟩;show fh (c5 m.mem a _ _).length (c5 m.st a _ _);rw [mR];refine ⟨by rw [mR];exact U,fun f d=>?_⟩;rw [o];by_cases c:a≤f∧f<a+2^k;rw [ak c];have:=(h.sn.val f d).2.2;simp_all;rw [aj c];exact h.sn.val f d
 ·show fu (c5 m.mem a _ _).length (c5 m.st a _ _) m.aC (m.au++_) (m.next+1);rw [mR];have Y:1≤m.next:=h.kr.nV;refine ⟨h.kr.k4,h.kr.e1,h.kr.jf,fun f=>(j f 2 (by omega) (by omega)).trans (h.kr.hC f),by omega,by omega,by simp;omega,?_,?_,?_,?_,?_,?_,?_,?_⟩;rw [lX];refine ⟨h.kr.pn,rG _ _,fun x b y l=>?_⟩;rw [gB.1 l];exact (h.kr.lK x b).2;intro x b;rcases aZ.1 b with b|b
  have:=h.kr.lK x b;omega
  grind
  intro x b n;rcases aZ.1 b with b|b
  exact h.kr.j3 x b n
  grind
  intro x b n;rcases aZ.1 b with b|b
  exact h.kr.jA x b n;simp_all;rw [lX];refine ⟨h.kr.nW,rG _ _,fun x b y l n e=>?_⟩;simp_all;rw [kO,ak rfl,cn];refine ⟨h.kr.bu,aen a k,fun x b y l e=>?_⟩;subst e;obtain ⟨i,rfl,D,I⟩:=uu.1 l;have:=(h.kr.jr i).1 b;simp_all;intro f;rw [kO,ak rfl,aZ,h.kr.jr,o];show _∨(f:Int)∈cQ ((a:Int),(k:Int),())↔_;rw [uu]
  grind
  rw [h.kr.sum,om];simp
 refine anA ?_;exact O f (by rw [(h.tx.fN f).2 ⟨x,b,d⟩];decide);obtain ⟨q,u,C⟩:=h.eo.pg y l f w r J;exact ⟨(j f 5 (by omega) (by omega)).2 q,u,C⟩;show v∈m.aK++m.bn↔_;rw [h.ls.mem v];constructor;rintro ⟨f,e,d⟩;exact ⟨f,e,(j f 5 (by omega) (by omega)).2 d⟩;rintro ⟨f,e,d⟩;exact ⟨f,e,(j f 5 (by omega) (by omega)).1 d⟩;exact h.mp f ((j f 5 (by omega) (by omega)).1 d)
theorem JF {l:List cr} (h:l.Pairwise fun s t=>s.1<t.1) {s t:cr} (b:s∈l) (c:t∈l) (e:s.1=t.1):s=t:=by
 induction l with
 |nil=>cases b
 |cons a l d=>
  rw [pT] at h
  grind
theorem Ra {l b:List cr} (e:b.map (·.1)=l.map (·.1)) (h:l.Pairwise fun s t=>s.1<t.1):b.Pairwise fun s t=>s.1<t.1:=by
 have c:=iC.2 h
 grind
theorem Tk {l b:List cr} (e:b.map (·.1)=l.map (·.1)) (f:Int):(∃s∈b,s.1=f)↔∃s∈l,s.1=f:=by
 have:∀l:List cr,(∃s∈l,s.1=f)↔f∈l.map (·.1):=fun l=>by rw [b9]
 rw [this,this,e]
def ep (s:cr) (j:Nat) (b:Bool):cr:=(s.1,s.2.1,s.2.2.1.set j b,())
theorem FG (A B:List cr) (s:cr) (j:Nat) (b:Bool):(A++ep s j b::B).map (·.1)=(A++s::B).map (·.1):=by simp [ep]
theorem VU {s:cr} (h:lq s) (j:Nat) (b:Bool) (c:true∈s.2.2.1.set j b):lq (ep s j b):=
 ⟨h.lo,h.hi,by simpa [ep] using h.size,c⟩
theorem adn {l:List Bool} {j:Nat} (h:l[j]?=some false):(l.set j true).count true=l.count true+1:=by
 grind
theorem Tb {l:List Bool} {j:Nat} (h:l[j]?=some true):(l.set j false).count true+1=l.count true:=by
 grind
theorem oZ (C D:List bZ) (x:bZ):cD (C++x::D)=cD C++((if x.2.2.1= -1 then cQ (x.2.1,x.2.2.2.1,()) else [])++cD D):=by
 unfold cD;simp_all
theorem qE (C D:List bZ):cD (C++D)=cD C++cD D:=by
 unfold cD;simp_all
theorem fu.part {n:Nat} {st:List Int} {A B:List cr} {s:cr} {au:List bZ} {next w:Int} {j:Nat} (h:fu n st (A++s::B) au next) (z:s.2.2.1[j]?=some false)
 (J:1≤w∧w≤4) (U:cH w=s.2.1) (X:au.length<40) (b:next<100000):
 fu n st (A++ep s j true::B) (au++[(next,s.1,(j:Int),0,w,())]) (next+1):=by
 have D:s∈A++s::B:=by simp
 have W:=h.nV;have O:=(bR.1 z).1;have I:(s.2.2.1.set j true)[j]?=some true:=kC O;have C:ep s j true∈A++ep s j true::B:=by simp
 refine ⟨by have:=h.k4;simp at this⊢;omega,fun t d=>?_,Ra (FG A B s j true) h.jf,fun f=>(h.hC f).trans (Tk (FG A B s j true) f).symm,by omega,by omega,by simp;omega,?_,?_,?_,?_,?_,?_,?_,?_⟩;simp only [aZ,cy] at d;rcases d with d|rfl|d
 exact h.e1 t (by simp [d]);exact VU (h.e1 s D) j true (cS I);exact h.e1 t (by simp [d]);rw [lX];refine ⟨h.pn,rG _ _,fun x b y o=>?_⟩;rw [gB.1 o];exact (h.lK x b).2;intro x b;rcases aZ.1 b with b|b
 have:=h.lK x b;omega
 grind
 intro x b g;rcases aZ.1 b with b|b
 exact h.j3 x b g;simp_all;intro x b g;rcases aZ.1 b with b|b
 obtain ⟨t,d,l,q,r,u,v⟩:=h.jA x b g;by_cases c:t=s;subst c;refine ⟨ep t j true,C,l,q,r,?_,v⟩;show (t.2.2.1.set j true)[x.2.2.1.toNat]?=some true
 grind
 refine ⟨t,?_,l,q,r,u,v⟩
 grind
 rw [gB.1 b];exact ⟨ep s j true,C,rfl,rfl,by simp,by simpa [ep] using I,J.1,J.2,U⟩;rw [lX];refine ⟨h.nW,rG _ _,fun x b y o g e=>?_⟩;rw [gB.1 o] at e;simp only at e;obtain ⟨t,d,l,_,_,u,_⟩:=h.jA x b g;obtain rfl:=JF h.jf d D (by omega);simp_all;rw [kO,aj (by simp only;omega),eF];exact h.bu;rw [kO,aj (by simp only;omega),eF];exact h.jr;have K:=h.sum;rw [om];simp only [e2,dh,oq,List.sum_cons] at K⊢;rw [show (ep s j true).2.2.1.count true=s.2.2.1.count true+1 from adn z]
 grind
theorem fu.LR {n:Nat} {st:List Int} {A B:List cr} {au:List bZ} {next w z:Int} {f:Nat} {u:List Bool} (h:fu n st (A++B) au next) (X:∀a∈A,a.1<(f:Int)) (Y:∀b∈B,(f:Int)<b.1)
 (I:aq st f=0) (r:f<st.length) (aa:f<32) (J:lq ((f:Int),z,u,())) (K:u[0]?=some true) (Z:u.count true=1) (C:1≤w∧w≤4) (O:cH w=z) (ad:au.length<40) (d:next<100000):
 fu n (st.set f 2) (A++((f:Int),z,u,())::B) (au++[(next,(f:Int),0,0,w,())]) (next+1):=by
 have ab:=h.nV;have ac:∀t∈A++B,t.1≠(f:Int):=fun t g e=>by
  grind
 have D:(A++((f:Int),z,u,())::B).Pairwise fun s t=>s.1<t.1:=by
  have l:=lX.1 h.jf;rw [lX,pT]
  grind
 have o:∀t,t∈A++((f:Int),z,u,())::B↔t=((f:Int),z,u,())∨t∈A++B:=fun t=>by
  grind
 have v:∀t∈A++((f:Int),z,u,())::B,lq t:=fun t g=>by
  rcases (o t).1 g with rfl|g
  exact J;exact h.e1 t g
 refine ⟨?_,v,D,fun k=>?_,by omega,by omega,by simp;omega,?_,?_,?_,?_,?_,?_,?_,?_⟩;have l:((A++((f:Int),z,u,())::B).map (·.1)).Nodup:=by
  grind
 have:=uy _ 32 l (fun x d=>by
  obtain ⟨t,g,rfl⟩:=b9.1 d;have:=v t g;have l:=this.lo;have W:=this.hi;omega)
 simpa using this;rw [gx r];by_cases c:k=f
 grind
 rw [aj c,h.hC]
 grind
 rw [lX];refine ⟨h.pn,rG _ _,fun x d y q=>?_⟩;rw [gB.1 q];exact (h.lK x d).2;intro x d;rcases aZ.1 d with d|d
 have:=h.lK x d;omega
 grind
 intro x d j;rcases aZ.1 d with d|d
 exact h.j3 x d j;simp_all;intro x d j;rcases aZ.1 d with d|d
 obtain ⟨t,g,e⟩:=h.jA x d j;exact ⟨t,(o t).2 (.inr g),e⟩;rw [gB.1 d];exact ⟨_,(o _).2 (.inl rfl),rfl,rfl,by simp,by simpa using K,C.1,C.2,O⟩;rw [lX];refine ⟨h.nW,rG _ _,fun x d y q j e=>?_⟩;rw [gB.1 q] at e;simp only at e;obtain ⟨t,g,U,_⟩:=h.jA x d j
 grind
 rw [kO,aj (by simp only;omega),eF];exact h.bu;intro k;rw [kO,aj (by simp only;omega),eF,h.jr];exact (fq r I (by omega) (by omega)).symm;have l:=h.sum
 grind
theorem lF {α:Type} {C D:List α} {x y:α} (h:y∈C++D):y∈C++x::D:=by
 grind
theorem rb {α:Type} {R:α→α→Prop} {C D:List α} {x:α} (h:(C++x::D).Pairwise R):(C++D).Pairwise R:=
 h.sublist (List.Sublist.append_left (List.sublist_cons_self _ _) _)
theorem fu.UK {n:Nat} {st:List Int} {aC:List cr} {C D:List bZ} {x y:bZ} {next:Int} (h:fu n st aC (C++x::D) next) (f:x.2.2.1≠ -1) (b:y∈C++D) (g:y.2.2.1≠ -1) (e:y.2.1=x.2.1):y.2.2.1≠x.2.2.1:=by
 intro c;have d:=lX.1 h.nW;rcases aZ.1 b with b|b
 grind
 exact (pT.1 d.2.1).1 y b f ⟨e.symm,c.symm⟩
theorem fu.aeu {n:Nat} {st:List Int} {A B:List cr} {s:cr} {C D:List bZ} {x:bZ} {next:Int} (h:fu n st (A++s::B) (C++x::D) next) (e:x.2.2.1≠ -1) (Y:s.1=x.2.1)
 (J:true∈s.2.2.1.set x.2.2.1.toNat false):fu n st (A++ep s x.2.2.1.toNat false::B) (C++D) next:=by
 have I:s∈A++s::B:=by simp
 have K:x∈C++x::D:=by simp
 obtain ⟨t,u,O,_,U,v,_⟩:=h.jA x K e;obtain rfl:=JF h.jf u I (by omega);have z:ep t x.2.2.1.toNat false∈A++ep t x.2.2.1.toNat false::B:=by simp
 refine ⟨by have:=h.k4;simp at this⊢;omega,fun r b=>?_,Ra (FG A B t _ false) h.jf,fun f=>(h.hC f).trans (Tk (FG A B t _ false) f).symm,h.nV,h.ux,by have:=h.nX;simp at this⊢;omega,rb h.pn,fun y d=>h.lK y (lF d),fun y d=>h.j3 y (lF d),fun y d q=>?_,rb h.nW,?_,fun f=>?_,?_⟩;simp only [aZ,cy] at b;rcases b with b|rfl|b
 exact h.e1 r (by simp [b]);exact VU (h.e1 t u) _ false J;exact h.e1 r (by simp [b]);obtain ⟨r,b,g,j,l,f4,f5⟩:=h.jA y (lF d) q;by_cases c:r=t;subst c;have X:=h.UK e d q (by omega);refine ⟨ep r x.2.2.1.toNat false,z,g,j,l,?_,f5⟩;show (r.2.2.1.set x.2.2.1.toNat false)[y.2.2.1.toNat]?=some true
 grind
 refine ⟨r,?_,g,j,l,f4,f5⟩
 grind
 have:=h.bu;rw [oZ,aj e,dJ] at this;rw [qE];exact this;have:=h.jr f;rw [oZ,aj e,dJ] at this;rw [qE];exact this;have o:=h.sum;have W:=Tb v;simp only [e2,dh,oq,List.sum_cons,om] at o⊢;rw [List.countP_cons_of_pos (by simpa using e)] at o;rw [show (ep t x.2.2.1.toNat false).2.2.1=t.2.2.1.set x.2.2.1.toNat false from rfl];omega
theorem fu.hz {n:Nat} {st:List Int} {A B:List cr} {s:cr} {C D:List bZ} {x:bZ} {next:Int} {f:Nat} (h:fu n st (A++s::B) (C++x::D) next) (g:x.2.2.1≠ -1) (ac:s.1=x.2.1) (Z:x.2.1=(f:Int)) (l:f<st.length)
 (O:true∉s.2.2.1.set x.2.2.1.toNat false):fu n (st.set f 0) (A++B) (C++D) next:=by
 have K:s∈A++s::B:=by simp
 have U:x∈C++x::D:=by simp
 obtain ⟨t,q,W,_,X,u,_⟩:=h.jA x U g;obtain rfl:=JF h.jf q K (by omega);have J:aq st f=2:=(h.hC f).2 ⟨t,q,by omega⟩;have aa:∀r∈A++B,r.1≠t.1:=by
  intro r b e;have j:=lX.1 h.jf;rcases aZ.1 b with b|b
  grind
  have:=(pT.1 j.2.1).1 r b;omega
 refine ⟨by have:=h.k4;simp at this⊢;omega,fun r b=>h.e1 r (lF b),rb h.jf,fun k=>?_,h.nV,h.ux,by have:=h.nX;simp at this⊢;omega,rb h.pn,fun y d=>h.lK y (lF d),fun y d=>h.j3 y (lF d),fun y d o=>?_,rb h.nW,?_,fun k=>?_,?_⟩;rw [gx l];by_cases c:k=f
 grind
 rw [aj c,h.hC];constructor;rintro ⟨r,b,e⟩
 grind
 rintro ⟨r,b,e⟩;grind;obtain ⟨r,b,v,z,I,f4,f5⟩:=h.jA y (lF d) o;by_cases c:r=t;subst c;have ab:=h.UK g d o (by omega);refine absurd (cS (i:=y.2.2.1.toNat) ?_) O
 grind
 refine ⟨r,?_,v,z,I,f4,f5⟩;simp_all;have:=h.bu;rw [oZ,aj g,dJ] at this;rw [qE];exact this;have:=h.jr k;rw [oZ,aj g,dJ] at this;rw [qE,this];exact (fq l J (by omega) (by omega)).symm;have j:=h.sum;have Y:=Tb u
 grind
theorem fu.MY {n:Nat} {st:List Int} {aC:List cr} {C D:List bZ} {x:bZ} {next:Int} {a k:Nat} (h:fu n st aC (C++x::D) next) (e:x.2.2.1= -1) (d:x.2.1=(a:Int)) (hk:x.2.2.2.1=(k:Int)) (q:a+2^k≤st.length):
 fu n (c5 st a (2^k) 0) aC (C++D) next:=by
 have l:∀i,aq (c5 st a (2^k) 0) i=if a≤i∧i<a+2^k then 0 else aq st i:=fun i=>uL i _ q
 have j:=h.bu;rw [oZ,ak e,d,hk,cn,cn] at j;obtain ⟨u,⟨v,z,I⟩,J⟩:=j;have K:∀i,a≤i→i<a+2^k→aq st i=3:=fun i g o=>by
  rw [←h.jr,oZ,ak e,d,hk];simp only [aZ];exact .inr (.inl (uu.2 ⟨i,rfl,g,o⟩))
 refine ⟨h.k4,h.e1,h.jf,fun f=>?_,h.nV,h.ux,by have:=h.nX;simp at this⊢;omega,rb h.pn,fun y b=>h.lK y (lF b),fun y b=>h.j3 y (lF b),fun y b r=>h.jA y (lF b) r,rb h.nW,?_,fun f=>?_,?_⟩;rw [←h.hC,l]
 grind
 rw [qE,cn];simp_all;have h4:=h.jr f;rw [oZ,ak e,d,hk,aZ,aZ,uu] at h4;rw [qE,aZ,l];by_cases c:a≤f∧f<a+2^k;rw [ak c];have O:(f:Int)∈cQ ((a:Int),(k:Int),()):=uu.2 ⟨f,rfl,c⟩
 grind
 grind
 have g:=h.sum;simp_all
theorem ap.K1 {m:M} {g:G} {z:Nat} (h:ap m g z) {st':List Int} {sl':List cr} {d:List bZ} {nx':Int} (h4:∀f,aq st' f=4↔aq m.st f=4) (h5:∀f,aq st' f=5↔aq m.st f=5) (l:fh m.mem.length st')
 (hk:fu m.mem.length st' sl' d nx'):ap {m with st:=st',bI:=ez st',aC:=sl',au:=d,next:=nx'} g z:=by
 refine ⟨h.mm,l,rfl,hk,h.sp,h.rp,h.tx.dD h4,h.nz,⟨fun y n f w r e=>?_,h.eo.sl⟩,h.sl,h.pg,⟨h.ls.b7,fun v=>?_⟩,fun f j=>h.mp f ((h5 f).1 j)⟩;obtain ⟨a,b,c⟩:=h.eo.pg y n f w r e;simp_all;show v∈m.aK++m.bn↔_;rw [h.ls.mem v];simp_all
theorem ap.mP {m:M} {g:G} {z f:Nat} {r:List Int} (h:ap m g z) (l:f<m.mem.length) (h4:aq m.st f≠4) (c:r.length=4∧∀x∈r,0≤x∧x≤100000):ap {m with mem:=m.mem.set f r} g z:=by
 have d:∀x q,x<84→g.tb x=some q→∀j,j<4→bX (m.mem.set f r) q j=bX m.mem q j:=fun x q e b j n=>by
  have:q≠f:=by rintro rfl;exact h4 ((h.tx.fN q).2 ⟨x,e,b⟩)
  exact y8 this
 refine ⟨h.mm.set c,?_,h.fr,h.kr.dD (by simp) (fun _=>gP) (fun _=>gP),h.sp,h.rp.off d,h.tx,h.nz,h.eo,h.sl,h.pg,h.ls,h.mp⟩;show fh (m.mem.set f r).length m.st;rw [dI];exact h.sn
theorem ap.LR {m:M} {g:G} {z f:Nat} {A B:List cr} {w y:Int} {u:List Bool} (h:ap m g z) (d:aq m.st f=0) (C:m.aC=A++B) (l:∀a∈A,a.1<(f:Int)) (n:∀b∈B,(f:Int)<b.1)
 (x:lq ((f:Int),y,u,())) (D:u[0]?=some true) (o:u.count true=1) (I:1≤w∧w≤4) (K:cH w=y) (v:m.au.length<40) (J:m.next<100000):
 ap {cb m f 2 with aC:=A++((f:Int),y,u,())::B,au:=m.au++[(m.next,(f:Int),0,0,w,())],next:=m.next+1} g z:=by
 have e:=h.sn.lt (f:=f) (by omega);have q:=h.sn.gX (f:=f) (by omega) (by omega);have c:f<m.st.length:=by rw [h.sn.len];exact e
 have O:=h.mm.hi;have hk:=h.kr;rw [C] at hk;have j:=h.K1 (st':=m.st.set f 2) (fun k=>fq c d (by omega) (by omega)) (fun k=>fq c d (by omega) (by omega)) (h.sn.set q e (by omega) (by omega) (by omega))
  (hk.LR l n d c (by omega) x D o I K v J)
 exact j.mP (f:=f) (r:=[0,0,0,0]) e (by show aq (m.st.set f 2) f≠4;rw [gx c,ak rfl];decide) ⟨rfl,by simp⟩
theorem ap.hz {m:M} {g:G} {z f:Nat} {A B:List cr} {s:cr} {C D:List bZ} {x:bZ} (h:ap m g z) (q:m.aC=A++s::B) (l:m.au=C++x::D) (n:x.2.2.1≠ -1) (o:s.1=x.2.1) (e:x.2.1=(f:Int))
 (r:true∉s.2.2.1.set x.2.2.1.toNat false):ap {m with st:=m.st.set f 0,bI:=ez (m.st.set f 0),aC:=A++B,au:=C++D} g z:=by
 have hk:=h.kr;rw [q,l] at hk;have d:aq m.st f=2:=(hk.hC f).2 ⟨s,by simp,by omega⟩;have c:=h.sn.lt (f:=f) (by omega);have j:=h.sn.gX (f:=f) (by omega) (by omega);have b:f<m.st.length:=by rw [h.sn.len];exact c
 exact h.K1 (nx':=m.next) (fun k=>fq b d (by omega) (by omega)) (fun k=>fq b d (by omega) (by omega)) (h.sn.set j c (by omega) (by omega) (by omega)) (hk.hz n o e b r)
theorem ap.MY {m:M} {g:G} {z a k:Nat} {C D:List bZ} {x:bZ} (h:ap m g z) (q:m.au=C++x::D) (j:x.2.2.1= -1) (d:x.2.1=(a:Int)) (hk:x.2.2.2.1=(k:Int)) (I:a+2^k≤m.mem.length):
 ap {m with st:=c5 m.st a (2^k) 0,bI:=ez (c5 m.st a (2^k) 0),au:=C++D} g z:=by
 have b:=h.kr;rw [q] at b;have u:=h.sn.len;have r:∀i,aq (c5 m.st a (2^k) 0) i=if a≤i∧i<a+2^k then 0 else aq m.st i:=fun i=>uL i _ (by omega)
 have y:∀i,a≤i→i<a+2^k→aq m.st i=3:=fun i n o=>by
  rw [←b.jr,oZ,ak j,d,hk];simp only [aZ];exact .inr (.inl (uu.2 ⟨i,rfl,n,o⟩))
 have l:∀i v,v≠0→v≠3→(aq (c5 m.st a (2^k) 0) i=v↔aq m.st i=v):=by
  grind
 refine h.K1 (nx':=m.next) (fun i=>l i 4 (by omega) (by omega)) (fun i=>l i 5 (by omega) (by omega)) ⟨by rw [mR];exact u,fun f e=>?_⟩ (b.MY j d hk (by omega));rw [r];by_cases c:a≤f∧f<a+2^k;rw [ak c];have:=(h.sn.val f e).2.2;simp_all;rw [aj c];exact h.sn.val f e
def lI (n:Nat):List Int:=((List.replicate n (0:Int)).set 0 1).set 1 1
def j2 (n s:Nat):M:=⟨List.replicate n [0,0,0,0],lI n,ez (lI n),[],[],1,List.replicate 4 (false,-1,[],()),List.replicate s (0,[],()),[],[]⟩
def EW:G:=⟨fun _=>none,fun _=>.no⟩
theorem Uz {n:Nat} (b:8≤n) (f:Nat):aq (lI n) f=if f<2 then 1 else if f<n then 0 else 9:=by
 unfold lI aq
 grind
theorem ap.new {n s:Nat} (C:8≤n∧n≤32∧n%8=0) (u:s≤16):ap (j2 n s) EW 84:=by
 have O:=Uz C.1;have J:(lI n).length=n:=by simp [lI]
 have l:(j2 n s).mem.length=n:=by simp [j2]
 have g:∀f v,v≠0→v≠1→v≠9→aq (j2 n s).st f≠v:=fun f v I W h9=>by
  show aq (lI n) f≠v
  grind
 have D:∀t,t<4→ay (j2 n s).af t=(false,-1,[],()):=fun t j=>by
  show (List.replicate 4 (false,-1,[],())).getD t _=_
  grind
 refine ⟨⟨by omega,by omega,by rw [l];exact C.2.2,fun r o=>?_⟩,⟨by rw [l];exact J,fun f c=>?_⟩,rfl,?_,⟨by simp [j2],fun t j=>?_,fun t j _=>?_⟩,⟨fun t j=>?_,fun x b k hk f c=>(by cases c),fun q X k hk f c=>(by cases c),fun x _ _ k _=>rfl,fun q _ _ k _=>rfl⟩,⟨fun x y f _ _ c=>(by cases c),fun f=>?_⟩,fun x b _ K=>absurd rfl K,⟨fun y U f w r d=>(by cases d),fun y U i d=>(by cases d)⟩,⟨by simp [j2];exact u,fun i x b=>?_,fun x b _=>?_,fun x b I=>?_⟩,⟨fun y z f w r w' Y _ _ d=>(by cases d),fun y z i _ _ d=>(by cases d)⟩,⟨h3,fun x=>?_⟩,fun f c=>absurd c (g f 5 (by omega) (by omega) (by omega))⟩;have:r=[0,0,0,0]:=rC o;simp_all;rw [l] at c;show 0≤aq (lI n) f∧_;rw [show aq (j2 n s).st f=aq (lI n) f from rfl,O];omega;refine ⟨by simp [j2],fun s u=>(by cases u),List.Pairwise.nil,fun f=>⟨fun e=>absurd e (g f 2 (by omega) (by omega) (by omega)),fun ⟨_,h,_⟩=>(by cases h)⟩,by simp [j2],by simp [j2],by simp [j2],List.Pairwise.nil,fun x b=>(by cases b),fun x b=>(by cases b),fun x b=>(by cases b),List.Pairwise.nil,h3,fun f=>⟨fun h=>(by cases h),fun e=>absurd e (g f 3 (by omega) (by omega) (by omega))⟩,rfl⟩;unfold aY;rw [D t j];exact ⟨by simp,fun r o=>(by cases o),trivial⟩;unfold aY;simp_all;rw [D t j];rfl;exact ⟨fun e=>absurd e (g f 4 (by omega) (by omega) (by omega)),fun ⟨_,_,e⟩=>(by cases e)⟩;have:x=(0,[],()):=rC (cS b);subst this;have:cJ EW.en i=0:=by
  unfold cJ;rw [hI,List.filter_eq_nil_iff];intro y _;simp [EW]
 rw [this];rfl;have:x=(0,[],()):=rC b;rw [this];have:x=(0,[],()):=rC b;simp_all;exact ⟨fun h=>(by cases h),fun ⟨f,_,c⟩=>absurd c (g f 5 (by omega) (by omega) (by omega))⟩
end Go.bz
namespace Go.Proofs.YtgoggapkkefgmaaGreat
set_option maxRecDepth 100000
open Go.TM
abbrev cp:Ty:=(.cons (.int .i64) (.cons (.int .i64) .unit))
abbrev aX:Type:=Int×Int×Unit
abbrev g6:Ty:=(.cons (.int .i64) (.cons (.slice (.int .i64)) .unit))
abbrev br:Type:=Int×LI×Unit
abbrev e3:Ty:=(.cons (.int .i64) (.cons (.int .i64) (.cons .bool .unit)))
abbrev ca:Type:=Int×Int×Bool×Unit
abbrev da:Ty:=(.cons (.int .i64) (.cons (.int .i64) (.cons (.slice .bool) .unit)))
abbrev a1:Type:=Int×Int×LO×Unit
abbrev b1:Ty:=(.cons (.slice (.int .u8)) cp)
abbrev cc:Type:=(List Int)×aX
abbrev aoz:Ty:=(.cons (.int .i64) g6)
abbrev fO:Type:=Int×br
abbrev hO:Ty:=(.cons (.int .i64) (.cons (.int .i64) (.cons .bool (.cons .bool .unit))))
abbrev ib:Type:=Int×Int×Bool×Bool×Unit
abbrev bc:Ty:=(.cons (.int .i64) (.cons (.int .i64) (.cons (.int .i64) cp)))
abbrev aJ:Type:=Int×Int×Int×aX
abbrev tr:Ty:=(.cons .bool (.cons (.int .i64) (.cons (.slice e3) .unit)))
abbrev bS:Type:=Bool×Int×(List ca)×Unit
abbrev apZ:Ty:=(.cons (.int .i64) (.cons (.int .i64) (.cons (.int .i64) bc)))
abbrev c3:Ty:=(.cons (.slice .bool) (.cons (.slice (.slice e3)) (.cons (.slice aoz) (.cons (.slice g6) (.cons (.int .i64) .unit)))))
abbrev kd:Type:=LO×(List (List ca))×(List fO)×(List br)×Int×Unit
abbrev ah:Ty:=(.cons (.slice (.slice (.int .i64))) (.cons (.slice (.int .i64)) (.cons (.slice cp) (.cons (.slice da) (.cons (.slice bc) (.cons (.int .i64) (.cons (.slice tr) (.cons (.slice g6) (.cons (.slice (.int .i64)) (.cons (.slice (.int .i64)) .unit))))))))))
abbrev an:Type:=bh×LI×(List aX)×(List a1)×(List aJ)×Int×(List bS)×(List br)×LI×LI×Unit
def aH:List (Nat×Ty):=[(3,(.int .i64)),(4,.bool),(5,(.int .u8)),(22,(.slice (.int .u8))),(24,(.slice (.slice (.int .i64)))),(25,(.slice (.int .i64))),(26,(.slice cp)),(27,(.slice da)),(28,(.slice bc)),(29,(.slice tr)),(30,(.slice g6)),(32,ah),(34,bc),(40,hO),(48,(.slice e3)),(50,tr),(53,apZ),(59,bc),(69,.bG),(91,(.slice .bool)),(92,(.slice (.slice e3))),(93,(.slice aoz)),(94,(.slice g6)),(96,c3),(105,g6),(108,.bG),(110,.bG),(120,b1),(121,(.slice bc)),(129,da),(131,.bG),(132,(.arr 2 (.int .i64))),(135,cp),(138,.bG),(140,.bG),(152,.bG),(154,aoz),(156,g6),(160,e3),(177,cp),(183,.bG),(220,(.arr 64 (.int .i64)))]
theorem Yf:aH.all (fun x=>dS Tryz.prog x.2 x.1)=true:=by kernel_rfl
theorem aV {cs:List (Nat×List Nat×aB)} {eg:List (Nat×nj)}:mc Tryz.prog (aG aH cs eg):=⟨Yg Yf,fun _ _ h=>by cases h⟩
theorem fC {cs:List (Nat×List Nat×aB)} {eg:List (Nat×nj)} {o:Nat} {l:List (Nat×List Nat×dK)}:mc Tryz.prog (eE (aG aH cs eg) o l):=⟨fun t T h=>Yg (cs:=cs) (eg:=eg) Yf t T h,fun _ _ h=>by cases h⟩
def EQ:List (Nat×Ty):=[(131,(.arr 2 (.int .i64))),(140,(.int .i64))]
theorem Lm:EQ.all (fun x=>pk Tryz.prog x.2 x.1)=true:=by kernel_rfl
theorem en {eg:List (Nat×nj)}:fs Tryz.prog (aG aH [] eg):=adG _ _ _
theorem ec {eg:List (Nat×nj)} {f:Nat} {d:List Nat} {c:aB} {cs:List (Nat×List Nat×aB)} (h:aN Tryz.prog f c) (b:fs Tryz.prog (aG aH cs eg)):fs Tryz.prog (aG aH ((f,d,c)::cs) eg):=adF h b
theorem mixed:Tryz.prog.follows .mixedOrders=true:=by kernel_rfl
end Go.Proofs.YtgoggapkkefgmaaGreat
