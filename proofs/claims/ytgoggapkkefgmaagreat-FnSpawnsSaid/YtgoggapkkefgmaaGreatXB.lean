/- PROVED HERE: the row FnSpawnsSaid as it is given: FnSpawns answers true for all codes; it asks for nothing more. Part 2 of 8 (the theorem stands in the last one; here: the same). Own names are shortened. -/
import Derived.Deep.AppendSrc
import Derived.Great.BuildSlice
import Derived.Great.FillDense
import Derived.Laws.BytesArg
import Derived.Laws.MakeOwn
import Derived.Laws.Tables
import Derived.Lib.MinMax
import Derived.LoopN
import Derived.Orders
import Derived.Test.YtgoggapkkefgmaaGreatXA
set_option autoImplicit false
set_option linter.unusedVariables false
set_option linter.unusedSimpArgs false
set_option linter.constructorNameAsVariable false
namespace Go.TM
section
variable {ρ:Type} {P:Program} {E:ao} {F:Fr} {G:Nat→Gh} {s:St} {a:Act} {w:World} {Q:Exit→Act→World→Prop}
theorem agh {A:bY} {R:Nat→Prop}:∀(v:TV) (xs:List Value) (n:Nat) (u:TV),fH A w R v xs→gu v n=some u→∃x,xs[n]?=some x∧eV A w R u x:=by
 intro v
 induction v with
 |cons a r f d=>
  intro xs n u h b;cases xs with
  |nil=>exact h.elim
  |cons x xs=>
   cases n with
   |zero=>
    simp only [gu,az] at b;subst b;exact ⟨x,rfl,h.1⟩
   |succ n=>
    simp only [gu] at b;obtain ⟨y,e,c⟩:=d xs n u h.2 b;exact ⟨y,e,c⟩
 |unit=>
  intro xs n u h b;cases n<;>simp [gu] at b
 |_=>intro xs n u h b;exact h.elim
theorem eV.vr {A:bY} {R:Nat→Prop} {v:TV} {x:Value} (h:eV A w R v x):VR A w R v x:=by
 rcases h with rfl|⟨cs,b,c⟩
 exact .inl rfl;exact dH b c
theorem Tm (h:aA F G s a w) (j:dl P E F) {o:Oper} {x:Operand} {n:Nat} (b:o.op=.extract x n) (l:∀d,o.dst=some d→d<E.nt) {k:St→Option ρ} {r:ρ} (hk:a2 E o s k=some r):
 o.wp P a w (ch F k r) Q:=by
 unfold a2 at hk;rw [b] at hk;simp only at hk;have c:=cA h x;split at hk;rename_i v e;rw [e] at c;obtain ⟨xs,z,C⟩:=c;split at hk;rename_i u q;obtain ⟨y,f,g⟩:=agh v xs n u z q;refine c7 (v:=y) (w':=w) (by unfold execOp;rw [b];simp [C,Instr.extract,f]) (dZ h j g.vr l hk);cases hk;cases hk
theorem ad7 {t:Ty} (f:t.aQ=true) {xs:List t.ai} (hk:∀x∈xs,dm t x) {m:Nat} {c:t.ai} (d:xs[m]?=some c):
 ∃pre post,(xs.map (bE t)).flatten=pre++bE t c++post∧pre.length=m*t.size:=by
 have j:=(bR.1 d).1;have e:=(bR.1 d).2;refine ⟨((xs.take m).map (bE t)).flatten,((xs.drop (m+1)).map (bE t)).flatten,?_,?_⟩;have:xs=xs.take m++c::xs.drop (m+1):=by
  rw [←e,List.getElem_cons_drop,hJ]
 grind
 have key:∀l:List t.ai,(∀x∈l,dm t x)→((l.map (bE t)).flatten).length=l.length*t.size:=by
  intro l
  induction l with
  |nil=>intro _;simp
  |cons a l h=>
   intro b;simp only [dh,k8,cw,hH];rw [hy t a f (b a (by simp)),h (fun x g=>b x (by simp [g])),fP];omega
 grind
theorem afN {A:bY} {R:Nat→Prop} {t:Ty} (b:t.aQ=true) {c:t.ai} (hk:dm t c):VR A w R (.ad t c) (ku t (bE t c)):=by
 refine dH (cs:=bE t c) (Rd.gv b hk) ?_;unfold ku;simp only [TV.agg];split;rfl;rename_i d;have:=hy t c b hk;rw [mS t (by simpa using d)] at this
 match h:bE t c,this with
 |[v],_=>rfl
theorem bF.bP {t:TypeId} (h:bF P .bP t):P.underlying t=some .string:=by
 simp only [bF,dS,bp] at h
 grind
theorem bF.int {t:TypeId} {k:IntKind} (h:bF P (.int k) t):P.underlying t=some (.int k):=by
 simp only [bF,dS,bp] at h
 grind
theorem air {t:TypeId} (h:P.underlying t=some .string) {l:List UInt8} {m:Nat} {c:UInt8} (b:l[m]?=some c) (d:IntKind):
 (Instr.index t (.string ⟨l.toArray⟩) (.int d m)).run P w=.ok (.int .u8 (c.toNat:Int)) w:=by
 have f:=(bR.1 b).1;have e:=(bR.1 b).2;rw [run_index_string (P:=P) w t ⟨l.toArray⟩ d m h];have g:m<(ByteArray.mk l.toArray).size:=by simpa [ByteArray.size] using f
 rw [dif_pos ⟨by omega,by omega⟩];have j:(ByteArray.mk l.toArray)[m]'g=c:=by rw [←e];rfl
 simp_all
theorem VK {T:Ty} {t:TypeId} (h:bF P T t):(sizeOf t).run P w=.ok T.size w:=by
 obtain ⟨d,b,c,_⟩:=h.hb;simp [sizeOf,typeInfo,b,c]
theorem aiq {n:Nat} {T:Ty} {t:TypeId} (h:bF P (.arr n T) t) {l:List T.ai} (v:l.length=n) (hk:∀x∈l,dm T x) {m:Nat} {c:T.ai} (b:l[m]?=some c) (o:IntKind):
 (Instr.index t (.agg ((l.map (bE T)).flatten).toArray) (.int o m)).run P w=.ok (ku T (bE T c)) w:=by
 obtain ⟨e0,j,f,d⟩:=h.arr;obtain ⟨pre,post,q,r⟩:=ad7 d hk b;have u:=(bR.1 b).1;have e:=FC (w:=w) f (pre:=pre) (cs:=bE T c) (post:=post) (hy T c d (hk c (cS b))) (mS T);rw [r,←q] at e;have g:(0:Int)≤(m:Int)∧(m:Int)<(n:Int):=by omega
 unfold Instr.index;simp only [asIntOf,Sem.run_bind,Sem.run_pure,Result.andThen_ok,run_underlying j,ak g,VK f,er];exact e
theorem aeK (h:aA F G s a w) (C:dl P E F) {o:Oper} {t:TypeId} {x y:Operand} (X:o.op=.index t x y) 
 (U:∀d,o.dst=some d→d<E.nt) {k:St→Option ρ} {r:ρ} (hk:a2 E o s k=some r):
 o.wp P a w (ch F k r) Q:=by
 unfold a2 at hk;rw [X] at hk;simp only [ea] at hk;have b:=cA h x;have aj:=cA h y;split at hk;rename_i T ab;have J:=C.ty t T ab;obtain ⟨Y,i,Z,hk⟩:=lu aj hk;split at hk;rename_i _T _v l e _hk;rw [e] at b;have ag:=J.bP;obtain ⟨b,_⟩:=VR.bP b;split at hk;rename_i c D;obtain ⟨m,rfl,W⟩:=KG D;have af:=(bR.1 W).1;refine c7 (v:=.int .u8 (c.toNat:Int)) (w':=w) ?_ (dZ h C (g1 _ _) U hk);unfold execOp;rw [X];have:=air (w:=w) ag W Y;simp [b,Z,this];cases hk;rename_i _T _v n u m f z e _hk;rw [e] at b;split at hk;rename_i g;have g:Ty.arr m f=Ty.arr n u:=eU g;simp only [Ty.arr.injEq] at g;obtain ⟨rfl,rfl⟩:=g;obtain ⟨e0,an,am,ad⟩:=J.arr;split at hk;rename_i c D;obtain ⟨q,rfl,I⟩:=KG D;have af:=(bR.1 I).1;obtain ⟨cs,ac,ah⟩:=b.cells (by simp) (by simp);simp only [TV.agg,Ty.agg,b5] at ah;obtain ⟨ak,aa,K⟩:=ac;obtain ⟨j,O⟩:=aa;have j:z.length=m:=j;have K:cs=((show List f.ai from z).map (bE f)).flatten:=K;have ae:dm f c:=O c (cS I);have al:=aiq (w:=w) J (l:=z) j O I Y;refine c7 (v:=ku f (bE f c)) (w':=w) ?_ (dZ h C (afN ad ae) U hk);unfold execOp;simp_all;cases hk;cases hk;cases hk;cases hk
theorem aio {R:Nat→Prop} {t u:TypeId} (X:bF P (.slice (.int .u8)) t) (U:bF P .bP u) (xs:List Int) {x:Value} (O:Rd w R (.slice (.int .u8)) xs [x]):
 (convert t u x).run P w=.ok (.string ⟨(xs.map fun n:Int=>UInt8.ofNat n.toNat).toArray⟩) w∧(xs.map fun n:Int=>UInt8.ofNat n.toNat).length≤eZ:=by
 obtain ⟨e0,r,W⟩:=X.slice;have o:=W.int;have q:=U.bP;obtain ⟨d,cap,e,⟨j,l⟩,J⟩:=O;have j:xs.length≤cap:=j;have l:xs.length≤eZ:=l;have e:x=.slice d xs.length cap:=(hq e).1;subst e;refine ⟨?_,by simp_all⟩;by_cases v:xs=[]
 ·subst v;have Y:(convert t u (.slice d 0 cap)).run P w=.ok (.string ByteArray.empty) w:=by
   rw [run_convert_bytes_string w t u e0 _ 0 cap r o q];cases d<;>simp [Conv.bytesToString,loadCells]
   all_goals rfl
  exact Y
 obtain ⟨b,f,rfl,_,C⟩:=J v;exact run_convert_bytes_arg (P:=P) w t e0 r o b f xs.length cap xs rfl (fun i hi=>by
  have I:xs[i]?=some (xs.getD i 0):=by simp_all
  obtain ⟨c,D,K⟩:=C i (xs.getD i 0) I;obtain ⟨_,_,rfl⟩:=K;obtain ⟨row,Z,fz,g,y,h⟩:=D;simp only [Ty.size,Nat.mul_one] at g y h;have aa:f+i<row.size:=by omega
  have z:(List.take 1 (List.drop (f+i) row.toList))[0]?=some (.int .u8 (xs.getD i 0)):=by rw [h];rfl
  simp only [World.cell?,g];simpa using z) u q
theorem adk (h:aA F G s a w) (b:dl P E F) {o:Oper} {t u:TypeId} {x:Operand} (g:o.op=.convert t u x) (f:∀d,o.dst=some d→d<E.nt) {k:St→Option ρ} {r:ρ} (hk:a2 E o s k=some r):
 o.wp P a w (ch F k r) Q:=by
 unfold a2 at hk;rw [g] at hk;simp only [ea] at hk;have c:=cA h x;split at hk;rename_i U C;have l:=b.ty t U C;split at hk;rename_i T z;have j:=b.ty u T z;split at hk;rename_i W q X n e;rw [e] at c;have I:=c.int;refine c7 (v:=.int q (q.wrap n)) (w':=w) ?_ (dZ h b (g1 _ _) f hk);unfold execOp;rw [g];simp [I,convert,run_underlying l.int,run_underlying j.int,Conv.intToInt];rename_i K J Y;obtain ⟨xs,hk,D⟩:=MC h c hk;obtain ⟨O,y⟩:=aio l j xs D;refine c7 (w':=w) ?_ (dZ h b (Nt y) f hk);unfold execOp;simp_all;cases hk;cases hk;cases hk
theorem afu (h:aA F G s a w) (z:dl P E F) {o:Oper} {fn:Fn} {first b:Array Operand} (n:o.op=.makeFunc fn first b) (C:∀d,o.dst=some d→d<E.nt) {k:St→Option ρ} {r:ρ} (hk:a2 E o s k=some r):
 o.wp P a w (ch F k r) Q:=by
 unfold a2 at hk;rw [n] at hk;simp only at hk;split at hk;rotate_left;cases hk;rename_i f g;have g:first= #[]:=by simpa using g
 subst g;split at hk;rename_i c;have c:∀x∈b.toList,(s.ev x).EB=true:=dE.1 c
 have key:∀l:List Operand,(∀x∈l,(s.ev x).EB=true)→bH (ax s.box G) w F.R (l.foldr (fun x r=>.cons (s.ev x) r) .unit) (l.map a.eval):=by
  intro l
  induction l with
  |nil=>intro _;rfl
  |cons x l I=>
   intro j;have e:=j x (by simp);have u:=cA h x;refine ⟨[a.eval x],l.map a.eval,rfl,?_,I (fun y D=>j y (by simp [D]))⟩;cases q:s.ev x<;>rw [q] at e<;>simp [TV.EB] at e
   rw [q] at u;exact u.b3 (by simp) (by simp) rfl
 refine c7 (v:=.func (.func f) #[] (b.map a.eval)) (w':=w) (by unfold execOp;rw [n];simp [Instr.makeFunc]) (dZ h z ?_ C hk);refine dH (cs:=[_]) ⟨_,key b.toList c,rfl⟩ ?_;cases b;simp [TV.agg];cases hk
end
section
variable {ρ:Type} {P:Program} {E:ao} {F:Fr} {G:Nat→Gh} {s:St} {a:Act} {w:World} {Q:Exit→Act→World→Prop}
theorem putCells (pre old post:List Value) (vs:List Value) (h:old.length=vs.length):
 vs.toArray.zipIdx.foldl (fun cs (x:Value×Nat)=>cs.setIfInBounds (pre.length+x.2) x.1) (pre++old++post).toArray=(pre++vs++post).toArray:=by
 have e0:vs.toArray.zipIdx=(vs.zipIdx 0).toArray:=by simp
 rw [e0,List.foldl_toArray];obtain ⟨b,c⟩:=Great.foldl_set pre.length vs 0 (pre++old++post).toArray
 grind
theorem tV {place:Nat→Option (Nat×Nat)} {i:Nat} {v:Value} {bo:List (Nat×Value)} {pre old post vs:List Value} (e:v.cells.toList=vs) (d:place i=some (pre.length,old.length)) (h:old.length=vs.length):
 Instr.fill place (pre++old++post).toArray ((i,v)::bo)=Instr.fill place (pre++vs++post).toArray bo:=by
 have b:v.cells=vs.toArray:=by rw [←e]
 have c:v.cells.size=vs.length:=by rw [b];simp
 rw [Instr.fill,d];simp only [c];rw [aj (by simp [h])];congr 1;rw [b];exact putCells pre old post vs h
theorem aeO {β γ:Type} (f:Nat×β→Nat×γ) (b:∀x,(f x).1=x.1) (x:Nat×β):∀l:List (Nat×β),(my x l).map f=my (f x) (l.map f):=by
 intro l
 induction l with
 |nil=>rfl
 |cons y l c=>
  simp only [my,dh,b]
  grind
theorem alg {β γ:Type} (f:Nat×β→Nat×γ) (b:∀x,(f x).1=x.1):∀l:List (Nat×β),(px l).map f=px (l.map f):=by
 intro l
 induction l with
 |nil=>rfl
 |cons x l c=>simp only [px,dh,aeO f b,c]
theorem afJ {β:Type} {x y:Nat×β}:∀{l:List (Nat×β)},y∈my x l→y=x∨y∈l:=by
 intro l
 induction l with
 |nil=>intro h;simpa [my] using h
 |cons z l b=>
  intro h;simp only [my] at h
  grind
theorem Lq {β:Type} {y:Nat×β}:∀{l:List (Nat×β)},y∈px l→y∈l:=by
 intro l
 induction l with
 |nil=>intro h;exact h
 |cons x l b=>
  intro h;rcases afJ h with rfl|h
  simp;simp [b h]
theorem En {place:Nat→Option (Nat×Nat)} {i:Nat} {v:Value} {bo:List (Nat×Value)} {L:List Value} {cs:Array Value} (h:Instr.fill place L.toArray ((i,v)::bo)=some cs):
 ∃o sz,place i=some (o,sz)∧v.cells.size=sz∧o+sz≤L.length:=by
 rw [Instr.fill] at h
 grind
theorem adp (L:List Value) (b s1 c s2:Nat) (h:b+s1≤c) (j:c+s2≤L.length):∃A B C D E,L=A++B++C++D++E∧A.length=b∧B.length=s1∧(A++B++C).length=c∧D.length=s2:=by
 refine ⟨L.take b,(L.drop b).take s1,(L.drop (b+s1)).take (c-(b+s1)),(L.drop c).take s2,L.drop (c+s2),?_,?_,?_,?_,?_⟩;have d:L=L.take b++L.drop b:=(hJ _ _).symm;have e:L.drop b=(L.drop b).take s1++L.drop (b+s1):=by rw [←kb];exact (hJ _ _).symm
 have f:L.drop (b+s1)=(L.drop (b+s1)).take (c-(b+s1))++L.drop c:=by
  have:L.drop c=(L.drop (b+s1)).drop (c-(b+s1)):=by rw [kb];congr 1;omega
  rw [this];exact (hJ _ _).symm
 have g:L.drop c=(L.drop c).take s2++L.drop (c+s2):=by rw [←kb];exact (hJ _ _).symm
 grind
 grind
 grind
 grind
 grind
theorem adZ {place:Nat→Option (Nat×Nat)} {i j:Nat} {v u:Value} {bo:List (Nat×Value)} {L:List Value} {cs:Array Value}
 (K:∀b s1 c s2,place i=some (b,s1)→place j=some (c,s2)→b+s1≤c) (h:Instr.fill place L.toArray ((i,v)::(j,u)::bo)=some cs):Instr.fill place L.toArray ((j,u)::(i,v)::bo)=some cs:=by
 obtain ⟨b,s1,e,x,W⟩:=En h;have e0:L=L.take b++(L.drop b).take s1++L.drop (b+s1):=by
  have z:L.drop b=(L.drop b).take s1++L.drop (b+s1):=by rw [←kb];exact (hJ _ _).symm
  rw [c6,←z];simp
 have O:(L.take b).length=b:=by grind
 have o:((L.drop b).take s1).length=s1:=by grind
 have f:v.cells.toList.length=s1:=by simpa using x
 have n:=h;rw [e0,tV (place:=place) (vs:=v.cells.toList) rfl (by rw [O,o];exact e) (by rw [o,f])] at n;obtain ⟨c,s2,r,y,l⟩:=En n;have q:u.cells.toList.length=s2:=by simpa using y
 have l:c+s2≤L.length:=by
  grind
 obtain ⟨A,B,C,D,E,rfl,g,d,a3,a4⟩:=adp L b s1 c s2 (K _ _ _ _ e r) l;have U:A.length+B.length+C.length=c:=by grind
 have X:Instr.fill place (A++B++C++D++E).toArray ((i,v)::(j,u)::bo)=Instr.fill place (A++v.cells.toList++C++u.cells.toList++E).toArray bo:=by
  have I:=tV (place:=place) (i:=i) (v:=v) (bo:=(j,u)::bo) (pre:=A) (old:=B) (post:=C++D++E) rfl (by rw [g,d];exact e) (by rw [d,f]);have J:=tV (place:=place) (i:=j) (v:=u) (bo:=bo) (pre:=A++v.cells.toList++C) (old:=D) (post:=E) rfl (by grind) (by rw [a4,q])
  grind
 have Y:Instr.fill place (A++B++C++D++E).toArray ((j,u)::(i,v)::bo)=Instr.fill place (A++v.cells.toList++C++u.cells.toList++E).toArray bo:=by
  have I:=tV (place:=place) (i:=j) (v:=u) (bo:=(i,v)::bo) (pre:=A++B++C) (old:=D) (post:=E) rfl (by rw [a4,a3];exact r) (by rw [a4,q]);have J:=tV (place:=place) (i:=i) (v:=v) (bo:=bo) (pre:=A) (old:=B) (post:=C++u.cells.toList++E) rfl (by rw [g,d];exact e) (by rw [d,f])
  grind
 grind
theorem adX {place:Nat→Option (Nat×Nat)} (e:∀i j,i<j→∀b s1 d s2,place i=some (b,s1)→place j=some (d,s2)→b+s1≤d) (x:Nat×Value) {cs:Array Value}:
 ∀(l:List (Nat×Value)) (L:List Value),Instr.fill place L.toArray (my x l)=some cs→Instr.fill place L.toArray (x::l)=some cs:=by
 intro l
 induction l with
 |nil=>intro L h;exact h
 |cons y l o=>
  intro L h;simp only [my] at h;split at h;rename_i c;have c:y.1<x.1:=by simp_all
  refine adZ (e _ _ c) ?_;obtain ⟨i,v⟩:=y;obtain ⟨b,s1,f,n,g⟩:=En h;rw [Instr.fill,f] at h⊢;simp_all;exact h
theorem adY {place:Nat→Option (Nat×Nat)} (d:∀i j,i<j→∀b s1 c s2,place i=some (b,s1)→place j=some (c,s2)→b+s1≤c) {cs:Array Value}:
 ∀(l:List (Nat×Value)) (L:List Value),Instr.fill place L.toArray (px l)=some cs→Instr.fill place L.toArray l=some cs:=by
 intro l
 induction l with
 |nil=>intro L h;exact h
 |cons x l n=>
  intro L h;have h:=adX d x _ L h;obtain ⟨i,v⟩:=x;obtain ⟨b,s1,e,g,f⟩:=En h;rw [Instr.fill,e] at h⊢;simp_all
theorem bH.len {A:bY} {R:Nat→Prop}:∀(v:TV) (cs:List Value),bH A w R v cs→cs.length=v.sz
 | .ad t x,cs,h=>Rd.len t x cs h
 | .nil,_,h=>by rw [show _=_ from h];rfl
 | .unit,_,h=>by rw [show _=_ from h];rfl
 | .cons a r,cs,h=>by
  obtain ⟨b,c,rfl,d,e⟩:=h;simp [TV.sz,bH.len a b d,bH.len r c e]
 | .ref _ _,cs,h=>by obtain ⟨_,_,_,_,_,rfl⟩:=h;rfl
 | .sl _ _,cs,h=>by obtain ⟨_,_,_,_,_,_,rfl⟩:=h;rfl
 | .slw _ _ _ _,cs,h=>by obtain ⟨_,_,_,_,_,_,_,_,_,rfl,_⟩:=h;rfl
 | .bw _ _,cs,h=>by obtain ⟨_,_,_,rfl,_⟩:=h;rfl
 | .bV _ _,cs,h=>by obtain ⟨_,_,rfl⟩:=h;rfl
 | .mp _,cs,h=>by obtain ⟨_,_,_,_,_,_,rfl⟩:=h;rfl
 | .un,cs,h=>by obtain ⟨_,rfl⟩:=h;rfl
 | .tup _,_,h=>h.elim
 | .ab _ _,_,h=>h.elim
theorem bH.cells {A:bY} {R:Nat→Prop} {v:TV} {x:Value} {cs:List Value} (h:bH A w R v cs) (c:v.mT=true) (b:if v.agg then x=.agg cs.toArray else cs=[x]):x.cells.toList=cs:=by
 refine xN b (fun d=>?_);rw [d] at b;have b:cs=[x]:=b;subst b;cases v with
 |un=>simp [TV.mT] at c
 |tup _=>simp [TV.mT] at c
 |ab _ _=>simp [TV.mT] at c
 |ad t y=>exact Rd.eA t y _ h x (by simp)
 |nil=>obtain h:=hq (show [x]=[_] from h);rw [h.1];rfl
 |unit=>cases h
 |cons a r=>simp [TV.agg] at d
 |ref _ _=>obtain ⟨_,_,_,_,_,h⟩:=h;rw [(hq h).1];rfl
 |sl _ _=>obtain ⟨_,_,_,_,_,_,h⟩:=h;rw [(hq h).1];rfl
 |slw _ _ _ _=>obtain ⟨_,_,_,_,_,_,_,_,_,h,_⟩:=h;rw [(hq h).1];rfl
 |bw _ _=>obtain ⟨_,_,_,h,_⟩:=h;rw [(hq h).1];rfl
 |bV _ _=>obtain ⟨_,_,h⟩:=h;rw [(hq h).1];rfl
 |mp _=>obtain ⟨_,_,_,_,_,_,h⟩:=h;rw [(hq h).1];rfl
def hX:Ty→Nat→List (Nat×Nat)
 | .cons t r,o=>(o,t.size)::hX r (o+t.size)
 |_,_=>[]
theorem ahY:∀(t:Ty) (o:Nat),(∀(i:Nat) b s1,(hX t o)[i]?=some (b,s1)→o≤b)∧∀(i j:Nat),i<j→∀b s1 c s2,(hX t o)[i]?=some (b,s1)→(hX t o)[j]?=some (c,s2)→b+s1≤c:=by
 intro t
 induction t with
 |cons t u _ f=>
  intro o;obtain ⟨l,n⟩:=f (o+t.size);refine ⟨fun i b s1 h=>?_,fun i j g b s1 c s2 d e=>?_⟩;cases i with
  |zero=>simp only [hX,List.getElem?_cons_zero,az,aO] at h;omega
  |succ i=>simp only [hX,List.getElem?_cons_succ] at h;grind
  cases j with
  |zero=>omega
  |succ j=>
   simp only [hX,List.getElem?_cons_succ] at e;cases i with
   |zero=>
    simp only [hX,List.getElem?_cons_zero,az,aO] at d
    grind
   |succ i=>
    simp only [hX,List.getElem?_cons_succ] at d
    grind
 |_=>intro o;exact ⟨fun i b s1 h=>by simp [hX] at h,fun i j _ b s1 c s2 h=>by simp [hX] at h⟩
theorem Vn:∀(t:Ty) (l:List Field) (o:Nat),cN P t l o=true→l.mapM (fun f=>(P.info? f.type).map fun i=>(f.offset,i.size))=some (hX t o)
 | .unit,[],_,_=>rfl
 | .cons a r,f::l,o,h=>by
  simp only [cN,bp,ff] at h;obtain ⟨⟨⟨⟨b,_⟩,_⟩,c⟩,h4⟩:=h;obtain ⟨i,hi,d,_⟩:=bF.hb (show bF P a f.type from c);simp [List.mapM_cons,hi,d,b,Vn r l _ h4,hX]
 | .unit,_::_,_,h=>by simp [cN] at h
 | .cons _ _,[],_,h=>by simp [cN] at h
 | .int _,_,_,h=>by simp [cN] at h
 | .bool,_,_,h=>by simp [cN] at h
 | .bP,_,_,h=>by simp [cN] at h
 | .bG,_,_,h=>by simp [cN] at h
 | .slice _,_,_,h=>by simp [cN] at h
 | .arr _ _,_,_,h=>by simp [cN] at h
theorem u0:∀(t:Ty),t.aQ=true→dm t (h2 t)∧bE t (h2 t)=fb t
 | .int _,_=>⟨trivial,rfl⟩
 | .bool,_=>⟨trivial,rfl⟩
 | .bP,_=>⟨bM _,rfl⟩
 | .bG,h=>by simp [Ty.aQ] at h
 | .slice _,h=>by simp [Ty.aQ] at h
 | .unit,_=>⟨trivial,rfl⟩
 | .cons t r,h=>by
  simp only [Ty.aQ,bp] at h;obtain ⟨b,c⟩:=u0 t h.1;obtain ⟨d,e⟩:=u0 r h.2;exact ⟨⟨b,d⟩,by simp [bE,fb,h2,c,e]⟩
 | .arr n t,h=>by
  obtain ⟨b,c⟩:=u0 t h;refine ⟨⟨by simp [h2],fun x f=>?_⟩,?_⟩;have:=rC (show x∈List.replicate n (h2 t) from f);rw [this];exact b;show ((List.replicate n (h2 t)).map (bE t)).flatten=_;rw [List.map_replicate,c];rfl
def Ty.hQ:Ty→Bool
 | .arr _ t=>t.aQ
 | .cons t r=>t.hQ&&r.hQ
 |_=>true
theorem Ye:∀(T:Ty),(∀t,dS P T t=true→T.hQ=true)∧(∀l o,cN P T l o=true→T.hQ=true):=by
 intro T
 induction T with
 |cons a r g j=>
  have b:∀l o,cN P (.cons a r) l o=true→(Ty.cons a r).hQ=true:=by
   intro l o h;cases l with
   |nil=>simp [cN] at h
   |cons f l=>
    simp only [cN,bp] at h;simp only [Ty.hQ,bp]
    grind
  refine ⟨fun t h=>?_,b⟩;simp only [dS,bp] at h;obtain ⟨_,h⟩:=h;split at h;rename_i c d;split at h;rename_i f l e;simp only [bp] at h;simp only [Ty.hQ,bp]
  grind
  cases h;cases h
 |arr n t _=>
  refine ⟨fun u h=>?_,fun l o h=>by simp [cN] at h⟩;simp only [dS,bp] at h;exact h.1.2
 |_=>exact ⟨fun _ _=>rfl,fun _ _ _=>rfl⟩
theorem mX:∀(t:Ty),(fb t).length=t.size
 | .int _=>rfl
 | .bool=>rfl
 | .bP=>rfl
 | .bG=>rfl
 | .slice _=>rfl
 | .unit=>rfl
 | .cons t r=>by simp [fb,Ty.size,mX t,mX r]
 | .arr n t=>by
  simp only [fb,Ty.size];have:=mX t;simp_all
theorem Nz {A:bY} {R:Nat→Prop}:∀(t:Ty),t.fY=true→t.hQ=true→bH A w R (mY t) (fb t)∧(mY t).mT=true∧(mY t).agg=t.agg
 | .int _,_,_=>⟨⟨rfl,trivial,rfl⟩,rfl,rfl⟩
 | .bool,_,_=>⟨⟨rfl,trivial,rfl⟩,rfl,rfl⟩
 | .bP,_,_=>⟨⟨rfl,bM _,rfl⟩,rfl,rfl⟩
 | .bG,h,_=>by simp [Ty.fY] at h
 | .slice _,_,_=>⟨rfl,rfl,rfl⟩
 | .unit,_,_=>⟨rfl,rfl,rfl⟩
 | .cons t r,h,b=>by
  simp only [Ty.fY,bp] at h;simp only [Ty.hQ,bp] at b;exact ⟨⟨_,_,rfl,(Nz t h.1 b.1).1,(Nz r h.2 b.2).1⟩,rfl,rfl⟩
 | .arr n t,_,h=>by
  have c:(Ty.arr n t).aQ=true:=h;obtain ⟨d,e⟩:=u0 (.arr n t) c;exact ⟨⟨c,d,e.symm⟩,rfl,rfl⟩
theorem acR (h:aA F G s a w):∀(t:Ty) (n o:Nat) (c:List (Nat×Operand)) (l:List Field) (pre:List Value) (place:Nat→Option (Nat×Nat)) (k:TV→Option ρ) (r:ρ),
 cN P t l o=true→t.fY=true→pre.length=o→(∀j,place (n+j)=(hX t o)[j]?)→ht s t n c k=some r→
 ∃v cs,k v=some r∧bH (ax s.box G) w F.R v cs∧v.agg=true∧v.mT=true∧Instr.fill place (pre++fb t).toArray (c.map fun x=>(x.1,a.eval x.2))=some (pre++cs).toArray:=by
 intro t
 induction t with
 |cons t u _ aa=>
  intro n o c l pre place k r g z D I hk;have ab:t.hQ=true:=by
   have:=(Ye (P:=P) (.cons t u)).2 _ _ g;simp only [Ty.hQ,bp] at this;exact this.1
  simp only [Ty.fY,bp] at z;cases l with
  |nil=>simp [cN] at g
  |cons f l=>
   simp only [cN,bp] at g;have zero:∀J,(ht s u (n+1) J fun d=>k (.cons (mY t) d))=some r→
    ∃v cs,k v=some r∧bH (ax s.box G) w F.R v cs∧v.agg=true∧v.mT=true∧Instr.fill place (pre++fb (.cons t u)).toArray (J.map fun x=>(x.1,a.eval x.2))=some (pre++cs).toArray:=by
    intro J hk;obtain ⟨v,cs,K,O,_,_,X⟩:=aa (n+1) (o+t.size) J l (pre++fb t) place _ r g.2 z.2 (by simp [D,mX]) (fun j=>by
     have:=I (j+1);simp only [hX,List.getElem?_cons_succ] at this
     grind) hk
    refine ⟨_,fb t++cs,K,⟨_,_,rfl,(Nz t z.1 ab).1,O⟩,rfl,rfl,?_⟩;simp only [fb];simp_all
   cases c with
   |nil=>exact zero [] (by simpa only [ht] using hk)
   |cons q c=>
    obtain ⟨i,x⟩:=q;simp only [ht] at hk;split at hk;rename_i hi;have hi:i=n:=fe hi;subst hi;split at hk;rename_i Y;simp only [bp] at Y;obtain ⟨y,C⟩:=Y;have C:=fe C;have ac:=cA h x;obtain ⟨W,U,ad⟩:=ac.cells (by intro e;rw [e] at y;simp [TV.mT] at y) (by intro b e;rw [e] at y;simp [TV.mT] at y);have Z:=bH.len _ _ U;obtain ⟨v,cs,K,O,_,_,X⟩:=aa (i+1) (o+t.size) c l (pre++W) place _ r g.2 z.2 (by simp [D,Z,C]) (fun j=>by
     have:=I (j+1);simp only [hX,List.getElem?_cons_succ] at this
     grind) hk
    refine ⟨_,W++cs,K,⟨_,_,rfl,U,O⟩,rfl,rfl,?_⟩;have:=I 0;simp only [hX,List.getElem?_cons_zero,jK] at this;simp only [fb,dh];rw [←c6,tV (U.cells y ad) (by rw [this,D,mX]) (by rw [mX,Z,C]),X,c6];cases hk;exact zero _ hk
 |unit=>
  intro n o c l pre place k r g z D I hk;cases c with
  |nil=>exact ⟨.unit,[],by simpa only [ht] using hk,rfl,rfl,rfl,by simp [fb,Instr.fill]⟩
  |cons _ _=>simp [ht] at hk
 |_=>intro n o c l pre place k r g;simp [cN] at g
theorem acT (h:aA F G s a w) (I:dl P E F) {o:Oper} {t:TypeId} {parts:Array (Nat×Operand)} (a4:o.op=.build t parts) (Z:∀d,o.dst=some d→d<E.nt) {k:St→Option ρ} {r:ρ} (hk:a2 E o s k=some r):
 o.wp P a w (ch F k r) Q:=by
 unfold a2 at hk;rw [a4] at hk;simp only [ea] at hk;split at hk;rename_i T ay;have O:=I.ty t T ay;split at hk;rename_i A c;split at hk;rename_i aj;obtain ⟨i,hi,a6,_,X⟩:=O.hb;obtain ⟨z,C,D,z3⟩:=X aj;have b:=O;unfold bF at b;simp only [dS,bp] at b;obtain ⟨_,b⟩:=b;split at b;rename_i aF a0;split at b;rename_i f l a3;simp only [bp,ff] at b;have ag:cN P (.cons A c) (f::l) 0=true:=by
  simp only [cN,bp,ff];simp_all
 have a5:=Vn (P:=P) _ _ _ ag;obtain ⟨v,cs,Y,ae,an,aE,ao⟩:=acR (P:=P) h (.cons A c) 0 0 (px parts.toList) (f::l) [] ((hX (.cons A c) 0).toArray[·]?) _ r ag aj rfl (fun j=>by simp) hk;have g:z.cells=(fb (.cons A c)).toArray:=by rw [←D]
 have e:P.built t (parts.map fun (i,x)=>(i,a.eval x)).toList=some cs.toArray:=by
  unfold Program.built;simp only [hi,a0,C,a3,a5,g];have af:=ao;rw [alg (fun x:Nat×Operand=>(x.1,a.eval x.2)) (fun x=>rfl)] at af;have ap:=adY (fun i j a1 aC s1 aD s2 ab ac=>(ahY (.cons A c) 0).2 i j a1 aC s1 aD s2 (by simpa using ab) (by simpa using ac)) _ _ af;simpa using ap
 have ak:=run_build (P:=P) w t _ _ e;have am:∀tv,VR (ax s.box G) w F.R tv (.agg cs.toArray)→dp o s k tv=some r→o.wp P a w (ch F k r) Q:=by
  intro tv a9 hk;refine c7 (v:=.agg cs.toArray) (w':=w) ?_ (dZ h I a9 Z hk);unfold execOp;simp_all
 split at Y;rename_i ah;obtain ⟨x,ar,au⟩:=Fv h _ v cs _ r ae Y;obtain ⟨av,aw⟩:=Rd.aQ ah au;refine am _ ?_ ar;rw [aw];exact dH (v:=.ad (.cons A c) x) (Rd.gv ah av) rfl;exact am _ (dH ae (by rw [an];rfl)) Y;cases b;cases b;cases hk;rename_i n u;obtain ⟨e0,al,a8,K⟩:=O.arr;obtain ⟨i,hi,a6,_,X⟩:=O.hb;obtain ⟨aG,ai,a7,_,_⟩:=a8.hb;split at hk;rename_i aa;have az:∀(t:Ty),t.aQ=true→t.fY=true:=by
  intro t
  induction t with
  |cons a r aH aI=>intro h;simp only [Ty.aQ,bp] at h;simp only [Ty.fY,bp];simp_all
  |arr n t aB=>intro h;exact aB h
  |bG=>intro h;simp [Ty.aQ] at h
  |slice t _=>intro h;simp [Ty.aQ] at h
  |_=>intro _;rfl
 obtain ⟨z,C,D,z3⟩:=X (az _ K);have g:z.cells=(fb (.arr n u)).toArray:=by rw [←D]
 have e:P.built t (parts.map fun (i,x)=>(i,a.eval x)).toList=some (fb (.arr n u)).toArray:=by
  unfold Program.built;simp only [hi,al,C,ai,g];simp [aa,Instr.fill]
 have ak:=run_build (P:=P) w t _ _ e;obtain ⟨ab,ac⟩:=u0 (.arr n u) K;refine c7 (v:=.agg (fb (.arr n u)).toArray) (w':=w) ?_ (dZ h I ?_ Z hk);unfold execOp;simp_all;rw [←ac];exact dH (v:=.ad (.arr n u) (h2 (.arr n u))) (Rd.gv K ab) rfl
 ·rename_i x y aa;split at hk;rotate_left;cases hk;rename_i J;have J:Ty.arr n u=.arr 2 (.int .i64):=eU J;simp only [Ty.arr.injEq] at J;obtain ⟨rfl,rfl⟩:=J;split at hk;rotate_left;cases hk;rename_i p q ex aq;have U:=cA h x;have W:=cA h y;rw [ex] at U;rw [aq] at W;have U:=U.int;have W:=W.int;obtain ⟨z,C,D,z3⟩:=X rfl;have g:z.cells=(fb (.arr 2 (.int .i64))).toArray:=by rw [←D]
  have e:P.built t (parts.map fun (i,x)=>(i,a.eval x)).toList=some #[.int .i64 p,.int .i64 q]:=by
   unfold Program.built;simp only [hi,al,C,ai,g,a7];simp [aa,Instr.fill,U,W,fb,Value.cells,Ty.size]
  have ak:=run_build (P:=P) w t _ _ e;refine c7 (v:=.agg #[.int .i64 p,.int .i64 q]) (w':=w) ?_ (dZ h I ?_ Z hk);unfold execOp;simp_all;refine dH (v:=.ad (.arr 2 (.int .i64)) (List.cons (α:=Int) p (List.cons (α:=Int) q []))) (Rd.gv K ⟨rfl,fun _ _=>trivial⟩) rfl
 cases hk;cases hk;cases hk
end
section
variable {ρ:Type} {P:Program} {E:ao} {F:Fr} {G:Nat→Gh} {s:St} {a:Act} {w:World} {Q:Exit→Act→World→Prop}
theorem afM {A:bY} {R:Nat→Prop} {t:Ty} {y:t.ai} {cs:List Value} (h:Rd w R t y cs):VR A w R (.ad t y) (ku t cs):=by
 refine dH (cs:=cs) h ?_;unfold ku;simp only [TV.agg];split;rfl;rename_i b;have:=Rd.len _ _ _ h;rw [mS t (by simpa using b)] at this
 match cs,this with
 |[v],_=>rfl
theorem adV (h:aA F G s a w) (l:dl P E F) {o:Oper} {t:TypeId} {x:Operand} {n:Nat} (q:o.op=.field t x n) (Z:∀d,o.dst=some d→d<E.nt) {k:St→Option ρ} {r:ρ} (hk:a2 E o s k=some r):
 o.wp P a w (ch F k r) Q:=by
 unfold a2 at hk;rw [q] at hk;simp only [ea] at hk;have D:=cA h x;split at hk;rename_i T X;have ac:=l.ty t T X;split at hk;rename_i u y e;rw [e] at D;split at hk;rename_i b;have b:u=T:=eU b;subst b;obtain ⟨cs,g,j⟩:=D.cells (by simp) (by simp);obtain ⟨v,z,I,c,J,ad⟩:=Rd.field u y cs n _ r g hk;obtain ⟨ae,f,K,O,U,af,W⟩:=ac.struct c;have Y:u.agg=true:=by
  cases u with
  |cons _ _=>rfl
  |_=>simp [cE] at c
 simp only [TV.agg,Y,b5] at j;have ag:=Rd.len _ _ _ g;have aa:(sub cs (eJ u n) v.size).length=v.size:=by unfold sub;simp;omega
 have ab:cs=cs.take (eJ u n)++sub cs (eJ u n) v.size++cs.drop (eJ u n+v.size):=by
  unfold sub;rw [c6,←kb,hJ,hJ]
 have C:=FC (w:=w) W (pre:=cs.take (eJ u n)) (cs:=sub cs (eJ u n) v.size) (post:=cs.drop (eJ u n+v.size)) aa (mS v);rw [←ab,List.length_take,Nat.min_eq_left (by omega)] at C;refine c7 (w':=w) ?_ (dZ h l (afM J) Z I);unfold execOp;rw [q];simp only [j,Instr.field,Sem.run_bind,run_underlying K,Result.andThen_ok,O,asAgg,Sem.run_pure,U,C];cases hk;cases hk;cases hk
theorem uG {o:Oper} {c:Call} {b:Builtin} (e:o.op=.call c) (d:c.callee=.builtin b):
 (execOp a.eval o).run P w=(builtin b c.argTypes o.type (c.args.map fun| .const _=>true|_=>false) (c.args.map a.eval)).run P w:=by
 unfold execOp;rw [e];simp only [resolve,d,Sem.run_bind,Sem.run_pure,Result.andThen_ok,invoke];rfl
theorem ae8 (h:aA F G s a w) (b:dl P E F) {o:Oper} {c:Call} (q:o.op=.call c) (j:c.callee=.builtin .len) (z:∀d,o.dst=some d→d<E.nt) {k:St→Option ρ} {r:ρ} (hk:a2 E o s k=some r):
 o.wp P a w (ch F k r) Q:=by
 unfold a2 at hk;rw [q] at hk;simp only [j] at hk;unfold kj at hk;split at hk;rename_i t ts v _ Z e;obtain ⟨x,y,aa⟩:∃x,c.args= #[x]∧s.ev x=v:=by
  match af:c.args.toList,e with
  |[x],e=>
   grind
  |[],e=>simp at e
  |_::_::_,e=>simp at e
 have f:=cA h x;rw [aa] at f;have D:c.argTypes[0]?=some t:=by rw [←hF,Z];rfl
 split at hk;rename_i T u;have C:=b.ty t _ u;obtain ⟨e0,I,_⟩:=C.slice;obtain ⟨n,ab,cap,J,g,_,_⟩:=TZ h f hk;refine c7 (v:=.int .i64 (n:Int)) (w':=w) ?_ (dZ h b (g1 _ _) z J);rw [uG q j];simp [builtin,Builtin.len_,D,y,g,run_underlying I,goInt];rename_i u;have C:=b.ty t _ u;split at hk;rename_i _v l;obtain ⟨f,_⟩:=VR.bP f;refine c7 (v:=.int .i64 ((List.length (α:=UInt8) l:Nat):Int)) (w':=w) ?_ (dZ h b (g1 _ _) z hk);rw [uG q j];have Y:(ByteArray.mk (List.toArray (α:=UInt8) l)).size=List.length (α:=UInt8) l:=rfl;have g:(Builtin.len_ c.argTypes o.type (c.args.map a.eval)).run P w=.ok (goInt (List.length (α:=UInt8) l)) w:=by
  rw [y];simp [Builtin.len_,D,f,run_underlying C.bP];rw [Y]
 simp only [builtin,Sem.run_bind,g,Result.andThen_ok,Sem.run_pure,goInt];cases hk
 ·split at hk;rotate_left;cases hk;rename_i K W;split at hk;rotate_left;cases hk;obtain ⟨xs,ac,ad,X,g,O,U,ag,ae,I⟩:=afA h (b.bC t K W) f hk;refine c7 (v:=.int .i64 (xs.length:Int)) (w':=w) ?_ (dZ h b (g1 _ _) z X);rw [uG q j];simp [builtin,Builtin.len_,D,y,g,run_underlying I,goInt,Go.MapKept.run_getObj_map O,U]
 cases hk;contradiction;contradiction;contradiction;cases hk
theorem Q8 {c:Call} {d e:TV} (b:c.args.toList.map s.ev=[d,e]):∃x y,c.args= #[x,y]∧s.ev x=d∧s.ev y=e:=by
 match f:c.args.toList,b with
 |[x,y],b=>
  grind
 |[],b=>simp at b
 |[_],b=>simp at b
 |_::_::_::_,b=>simp at b
theorem afK (h:aA F G s a w) (n:dl P E F) {o:Oper} {c:Call} (f:o.op=.call c) (e:c.callee=.builtin .min) (u:∀d,o.dst=some d→d<E.nt) {k:St→Option ρ} {r:ρ} (hk:a2 E o s k=some r):
 o.wp P a w (ch F k r) Q:=by
 unfold a2 at hk;rw [f] at hk;simp only [e] at hk;unfold kj at hk;split at hk;contradiction;contradiction;rename_i O U _ z;obtain ⟨x,y,q,j,l⟩:=Q8 z;obtain ⟨g,C,J,hk⟩:=lu (j▸cA h x) hk;obtain ⟨I,D,K,hk⟩:=lu (l▸cA h y) hk;split at hk;rename_i b;have b:g=I:=eU b;subst b;refine c7 (v:=.int g (min C D)) (w':=w) ?_ (dZ h n (g1 _ _) u hk);rw [uG f e];simp [builtin,q,J,K,Lib.run_min_ints];cases hk;contradiction;cases hk
theorem afH (h:aA F G s a w) (u:dl P E F) {o:Oper} {c:Call} (j:o.op=.call c) (g:c.callee=.builtin .max) (C:∀d,o.dst=some d→d<E.nt) {k:St→Option ρ} {r:ρ} (hk:a2 E o s k=some r):
 o.wp P a w (ch F k r) Q:=by
 unfold a2 at hk;rw [j] at hk;simp only [g] at hk;unfold kj at hk;split at hk;contradiction;contradiction;contradiction;rename_i O U _ D;obtain ⟨x,y,z,n,q⟩:=Q8 D;obtain ⟨l,b,J,hk⟩:=lu (n▸cA h x) hk;obtain ⟨I,e,K,hk⟩:=lu (q▸cA h y) hk;split at hk;rename_i f;have f:l=I:=eU f;subst f;refine c7 (v:=.int l (max b e)) (w':=w) ?_ (dZ h u (g1 _ _) C hk);rw [uG j g];have em:(if e>b then e else b)=max b e:=by
  omega
 simp [builtin,z,J,K,Builtin.max_,Builtin.max2,em];cases hk;cases hk
end
section
variable {ρ:Type} {P:Program} {E:ao} {F:Fr} {G:Nat→Gh} {s:St} {a:Act} {w:World} {Q:Exit→Act→World→Prop}
theorem FA {x:Value} {c:IntKind} {m y:Nat} (b:x=.int c m) (d:m≤y) (code:BoundsCode):(Instr.sliceBound x y code).run P w=.ok m w:=by
 subst b;have:(0:Int)≤(m:Int)∧(m:Int)≤(y:Int):=by omega
 simp only [Instr.sliceBound,asIntOf,Sem.run_bind,Sem.run_pure,Result.andThen_ok,ak this,er]
theorem Rl (h:aA F G s a w) {n cap:Nat} (o:n≤cap) {lo hi:Option Operand} {k:Nat→Nat→Option ρ} {r:ρ} (hk:mg n (lo.map s.ev) (hi.map s.ev) k=some r) (b:Bool):
 ∃l u,k l u=some r∧l≤u∧u≤n∧(Instr.sliceBounds b n cap (lo.map a.eval) (hi.map a.eval) none).run P w=.ok (l,u,cap) w:=by
 unfold mg at hk;cases hi with
 |none=>
  cases lo with
  |none=>exact ⟨0,n,hk,bM _,cf _,by simp [Instr.sliceBounds]⟩
  |some x=>
   simp only [rJ,cx] at hk;obtain ⟨f,i,c,hk⟩:=lu (cA h x) hk;obtain ⟨m,rfl,e,hk⟩:=ue hk;refine ⟨m,n,hk,by omega,cf _,?_⟩;simp only [Instr.sliceBounds,rJ,cx,Sem.run_bind,Sem.run_pure,Result.andThen_ok];rw [FA c (by omega)];rfl
 |some y=>
  simp only [cx] at hk;obtain ⟨f,i,c,hk⟩:=lu (cA h y) hk;obtain ⟨m,rfl,e,hk⟩:=ue hk;cases lo with
  |none=>
   refine ⟨0,m,hk,by omega,by omega,?_⟩;simp only [Instr.sliceBounds,rJ,cx,Sem.run_bind,Sem.run_pure,Result.andThen_ok];rw [FA c (by omega)];rfl
  |some x=>
   simp only [cx] at hk;obtain ⟨v,q,d,hk⟩:=lu (cA h x) hk;obtain ⟨g,rfl,j,hk⟩:=ue hk;refine ⟨g,m,hk,by omega,by omega,?_⟩;simp only [Instr.sliceBounds,cx,Sem.run_bind,Sem.run_pure,Result.andThen_ok];rw [FA c (by omega)];simp only [Result.andThen_ok];rw [FA d (by omega)];rfl
theorem adS (x:List UInt8) (l h:Nat):(ByteArray.mk x.toArray).extract l h=⟨((x.take h).drop l).toArray⟩:=by
 apply ByteArray.ext;rw [ByteArray.data_extract];simp [List.drop_take]
theorem aiv {t:TypeId} (b:bF P .bP t) (x:List UInt8) {lo hi:Option Value} {l u:Nat} (c:(Instr.sliceBounds false x.length x.length lo hi none).run P w=.ok (l,u,x.length) w):
 (Instr.sliceAt t (.string ⟨x.toArray⟩) lo hi none).run P w=.ok (.string ⟨((x.take u).drop l).toArray⟩) w:=by
 rw [run_sliceAt_string w t _ _ _ _ b.bP];have d:(ByteArray.mk x.toArray).size=x.length:=by simp [ByteArray.size]
 simp [Instr.slice,run_underlying b.bP,d,c,adS]
theorem aiu {t:TypeId} {T:Ty} (f:bF P (.slice T) t) (b:Option Addr) (n cap:Nat) {lo hi:Option Value} {l u:Nat} (c:(Instr.sliceBounds true n cap lo hi none).run P w=.ok (l,u,cap) w):
 (Instr.sliceAt t (.slice b n cap) lo hi none).run P w=.ok (.slice (if cap=l then b else b.map (·.add (l*T.size))) (u-l) (cap-l)) w:=by
 obtain ⟨e,g,d⟩:=f.slice;simp [Instr.sliceAt,Instr.slice,run_underlying g,c,VK d]
theorem nv (b o n:Nat):(Addr.mk b o none).add n=⟨b,o+n,none⟩:=by unfold Addr.add;split<;>simp_all
theorem Rd.cut {R:Nat→Prop} {T:Ty} {y:List T.ai} {d:Option Addr} {n cap:Nat} (h:Rd w R (.slice T) y [.slice d n cap]) {l u:Nat} (D:l≤u) (I:u≤n):
 Rd w R (.slice T) ((y.take u).drop l) [.slice (if cap=l then d else d.map (·.add (l*T.size))) (u-l) (cap-l)]:=by
 obtain ⟨x,C,c,⟨f,g⟩,o⟩:=h;have c:=(hq c).1;simp only [Value.slice.injEq] at c;obtain ⟨rfl,j,rfl⟩:=c;have j:n=y.length:=j;have f:y.length≤cap:=f;have g:y.length≤eZ:=g;have e:((y.take u).drop l).length=u-l:=by simp_all
 refine ⟨_,cap-l,(by rw [e]),⟨(by rw [e];omega),(by rw [e];omega)⟩,fun K=>?_⟩;have O:0<u-l:=by
  grind
 have r:y≠[]:=by
  grind
 obtain ⟨b,v,rfl,q,J⟩:=o r;rw [aj (by omega)];refine ⟨b,v+l*T.size,by simp only [cx,nv],q,fun i z U=>?_⟩
 grind
theorem ak9 (h:aA F G s a w) (X:dl P E F) {o:Oper} {t:TypeId} {x:Operand} {lo hi a3:Option Operand} (am:o.op=.slice t x lo hi a3) (ak:∀d,o.dst=some d→d<E.nt) {k:St→Option ρ} {r:ρ} (hk:a2 E o s k=some r):
 o.wp P a w (ch F k r) Q:=by
 unfold a2 at hk;rw [am] at hk;simp only [ea] at hk;have c:=cA h x;split at hk;rotate_left;cases hk;split at hk;rotate_left;cases hk;rename_i T aq;have ao:=X.ty t T aq;unfold ky at hk;split at hk;split at hk;rename_i l e;rw [e] at c;obtain ⟨c,a5⟩:=VR.bP c;obtain ⟨j,I,hk,af,ag,W⟩:=Rl (P:=P) h (cf _) hk false;refine c7 (w':=w) ?_ (dZ h X (Nt ?_) ak hk);unfold execOp;rw [am];simp only [rJ,Sem.run_bind];rw [c,aiv ao _ W];rfl
 grind
 cases hk;rename_i T;have aw:=hk;obtain ⟨n,O,cap,al,Y,a6,av⟩:=TZ h c hk;clear hk;obtain ⟨j,I,hk,af,ag,W⟩:=Rl (P:=P) h av al true;clear al;have a8:=aiu ao O n cap W;have fin:∀tv,VR (ax s.box G) w F.R tv (.slice (if cap=j then O else O.map (·.add (j*T.size))) (I-j) (cap-j))→dp o s k tv=some r→o.wp P a w (ch F k r) Q:=by
  intro tv a0 hk;refine c7 (w':=w) ?_ (dZ h X a0 ak hk);unfold execOp;simp_all
 split at hk;rename_i u y e;rw [e] at c;split at hk;rename_i g;have g:u=T:=eU g;subst g;have an:=c.b3 (by simp) (by simp) rfl;rw [Y] at an;exact fin _ (dH (v:=.ad (.slice u) _) (cs:=[_]) (Rd.cut an af ag) rfl) hk;cases hk;rename_i b p e;rw [e] at c;unfold b6 at hk;split at hk;rename_i bx K
 try dsimp only at hk
 split at hk;rename_i C;have C:cE bx.ty p=some (.slice T):=eU C;obtain ⟨a4,q,ac,D,J,z,Z⟩:=c.b3 (by simp) (by simp) rfl;have g:=nw K z;rw [C] at g;simp only [az,Ty.slice.injEq] at g;subst g;have f:=(hq Z).1;rw [Y] at f;simp only [Value.slice.injEq] at f;obtain ⟨rfl,rfl,rfl⟩:=f;split at hk;rename_i ai;simp only [bp] at ai;obtain ⟨_,aa,ab⟩:=ai;have aa:j=0:=fe aa;have ab:I=D.length:=fe ab;subst aa;subst ab;refine fin _ (dH (v:=.sl b p) (cs:=[_]) ⟨T,q,cap,D,J,z,?_⟩ rfl) hk;cases q<;>simp [nv]
 refine fin _ (dH (v:=.slw b p j (I-j)) (cs:=[_]) ⟨T,q,cap,D,J,z,⟨by omega,by omega⟩,_,_,rfl,⟨by omega,fun ae=>⟨by omega,by subst ae;cases q<;>simp [nv]⟩⟩,fun ay=>?_⟩ rfl) hk;cases q with
 |none=>
  have:=(TY h K (by rw [←e];exact aw) z).2 rfl;omega
 |some U=>
  rw [aj (by omega)];exact ⟨U,rfl,by simp [nv]⟩
 cases hk;cases hk;rename_i b p a1 a9 e;rw [e] at c;unfold b6 at hk;split at hk;rename_i bx K
 try dsimp only at hk
 split at hk;rename_i C;have C:cE bx.ty p=some (.slice T):=eU C;obtain ⟨a4,q,ac,D,J,z,a7,a',c',Z,ah,ar⟩:=c.b3 (by simp) (by simp) rfl;have g:=nw K z;rw [C] at g;simp only [az,Ty.slice.injEq] at g;subst g;have f:=(hq Z).1;rw [Y] at f;simp only [Value.slice.injEq] at f;obtain ⟨rfl,rfl,rfl⟩:=f;obtain ⟨ah,au⟩:=ah;refine fin _ (dH (v:=.slw b p (a1+j) (I-j)) (cs:=[_]) ⟨T,q,ac,D,J,z,⟨by omega,by omega⟩,_,_,rfl,⟨by omega,fun ae=>?_⟩,fun ay=>?_⟩ rfl) hk;obtain ⟨f,ap⟩:=au (by omega);have:j=0:=by omega
 subst this;refine ⟨by omega,?_⟩;rw [ap];cases q<;>simp [nv]
 obtain ⟨U,rfl,rfl⟩:=ar (by omega);rw [aj (by omega)];exact ⟨U,rfl,by simp [nv,Nat.add_mul]⟩;cases hk;cases hk;rename_i e;rw [e] at c;have f:=c.b3 (by simp) (by simp) rfl;have f:=(hq (show [a.eval x]=[_] from f)).1
 grind
 cases hk;cases hk
end
section
variable {ρ:Type} {P:Program} {E:ao} {F:Fr} {G:Nat→Gh} {s:St} {a:Act} {w w2:World} {Q:Exit→Act→World→Prop}
theorem aA.shift (h:aA F G s a w) (J:gj w w2) (j:∀b,F.R b→w2.heap[b]?=w.heap[b]?) (C:∀i x,s.box i=some x→∀b∈(G i).ae,w2.heap[b]?=w.heap[b]?)
 (D:∀b,b<F.w0.heap.size→b∉F.M→w2.heap[b]?=w.heap[b]?):aA F G s a w2:=by
 have g:ia (ax s.box G) (ax s.box G):=fun _ _ _ ft _ e=>⟨ft,e,rfl⟩
 refine ⟨fun i x l=>?_,h.cF,h.dc,h.b7,fun i x l b I=>?_,h.R,fun n=>VR.mono g j (h.tmps n),fun b y c=>?_,h.gq.trans J,h.defers,h.nt,h.c1,fun i n=>VR.mono g j (h.sv i n),h.j9⟩;have r:∀b∈(G i).ae,w2.heap[b]?=w.heap[b]?:=fun b c=>C i x l b c
 have d:=h.box i x l;unfold dF at d⊢;split;rename_i u;rw [ak u] at d;obtain ⟨f,o,cs,q⟩:=d;exact ⟨f,o,cs,aW.mono g j _ _ _ _ (fun b c=>r b (by simp [Gh.ae,c])) q⟩;rename_i u;rw [aj u] at d;obtain ⟨v,row,z,f,o,q,h4⟩:=d;exact ⟨v,row,z,f,by rw [r v (by simp [Gh.ae,f])];exact o,q,aW.mono g j _ _ _ _ (fun b c=>r b (by simp [Gh.ae,c])) h4⟩;obtain ⟨K,O,U⟩:=h.bK i x l b I
 grind
 rw [D b y c];exact h.bQ b y c
def fI (G:Nat→Gh) (id:Nat) (g:Gh):Nat→Gh:=fun j=>if j=id then g else G j
theorem mh (s:St) (id:Nat) (x:bl) (j:Nat):(St.box {s with cj:=(id,x)::s.cj} j)=if id=j then some x else s.box j:=gK id x s.cj j
theorem TX {id:Nat} (d:s.box id=none) (x:bl) (g:Gh):ia (ax s.box G) (ax (St.box {s with cj:=(id,x)::s.cj}) (fI G id g)):=by
 intro b p t ft f c;refine ⟨ft,?_,rfl⟩;have:b≠id:=by
  rintro rfl;simp [ax,d] at c
 unfold ax at c⊢;rw [mh,aj (fun e=>this e.symm)];simp only [fI,this,cL];exact c
structure ic (F:Fr) (G:Nat→Gh) (s:St) (w:World) (g:Gh):Prop where
 b7:g.ae.Nodup
 out:∀b∈g.ae,∀j y,s.box j=some y→b∉(G j).ae
 bK:∀b∈g.ae,¬F.R b∧b<w.heap.size∧(b∈F.M∨F.w0.heap.size≤b)
theorem aA.qy (h:aA F G s a w) {id:Nat} (ad:id%32≠0) (aa:s.box id=none) {x:bl} {g:Gh} (ac:x.dN=false) (Z:x.ty.cF)
 (ab:dF (ax s.box G) w F.R g x) (C:ic F G s w g):aA F (fI G id g) {s with cj:=(id,x)::s.cj} a w:=by
 have r:=TX (G:=G) aa x g;have u:∀b,F.R b→w.heap[b]?=w.heap[b]?:=fun _ _=>rfl
 have old:∀{j y},(St.box {s with cj:=(id,x)::s.cj} j)=some y→(j=id∧y=x)∨(j≠id∧s.box j=some y):=by
  intro j y c;rw [mh] at c
  grind
 have up:∀(g:Gh) (x:bl),dF (ax s.box G) w F.R g x→dF (ax (St.box {s with cj:=(id,x)::s.cj}) (fI G id g)) w F.R g x→True:=fun _ _ _ _=>trivial
 have mono:∀(g':Gh) (y:bl),dF (ax s.box G) w F.R g' y→dF (ax (St.box {s with cj:=(id,x)::s.cj}) (fI G id g)) w F.R g' y:=by
  intro g' y q;unfold dF at q⊢;split;rename_i K;rw [ak K] at q;obtain ⟨D,I,cs,J⟩:=q;exact ⟨D,I,cs,aW.mono r u _ _ _ _ (fun _ _=>rfl) J⟩;rename_i K;rw [aj K] at q;obtain ⟨X,row,Y,D,I,J,h4⟩:=q;exact ⟨X,row,Y,D,I,J,aW.mono r u _ _ _ _ (fun _ _=>rfl) h4⟩
 refine ⟨fun i y c=>?_,fun i y c=>?_,fun i j y z c W U b f l=>?_,fun i y c=>?_,fun i y c b v=>?_,h.R,fun n=>VR.mono r u (h.tmps n),h.bQ,h.gq,h.defers,h.nt,fun i y c=>?_,fun i n=>VR.mono r u (h.sv i n),h.j9⟩;rcases old c with ⟨rfl,rfl⟩|⟨e,d⟩
 have:fI G i g i=g:=by simp [fI]
 simp_all;have:fI G id g i=G i:=by simp [fI,e]
 rw [this];exact mono _ _ (h.box i y d);rcases old c with ⟨rfl,rfl⟩|⟨e,d⟩
 exact Z;exact h.cF i y d;rcases old c with ⟨rfl,rfl⟩|⟨e,d⟩
 rcases old W with ⟨o,_⟩|⟨o,O⟩
 exact U o.symm;simp only [fI,b5,o,cL] at f l;exact C.out b f j z O l;rcases old W with ⟨rfl,rfl⟩|⟨o,O⟩
 simp only [fI,b5,e,cL] at f l;exact C.out b l i y d f;simp only [fI,e,o,cL] at f l;exact h.dc i j y z d O U b f l;rcases old c with ⟨rfl,rfl⟩|⟨e,d⟩
 simpa [fI] using C.b7;simpa [fI,e] using h.b7 i y d;rcases old c with ⟨rfl,rfl⟩|⟨e,d⟩
 simp only [fI,b5] at v;exact C.bK b v;simp only [fI,e,cL] at v;exact h.bK i y d b v;rcases old c with ⟨rfl,rfl⟩|⟨e,d⟩
 simp_all;simpa [fI,e] using h.c1 i y d
theorem q4 {id:Nat} {x:bl} {k:St→Option ρ} {r:ρ} (hk:kv s id x k=some r):id%32≠0∧s.box id=none∧k {s with cj:=(id,x)::s.cj}=some r:=by
 unfold kv at hk;split at hk;cases hk;rename_i e;split at hk;cases hk;rename_i b;refine ⟨fun h=>?_,b,hk⟩;simp_all
theorem yp (h:aA F G s a w) (n:dl P E F) {d:Nat} {t:Ty} {xs:List t.ai} {k:St→Option ρ} {r:ρ} {o:Nat} (hk:lH s o d t xs k=some r) (q:d<E.nt) (y:t.cF)
 {f:FT} {v:Value} (c:bb w (.slice t) xs f [v]) (u:ic F G s w ⟨none,f⟩):ch F k r (a.put (some d) v) w:=by
 obtain ⟨e,j,l⟩:=q4 hk;have C:=h.qy (x:=⟨.slice t,true,false,.ab (.slice t) xs⟩) (g:=⟨none,f⟩) e j rfl y ⟨rfl,⟨t,rfl⟩,[v],⟨rfl,c⟩⟩ u;refine ⟨_,_,C.put (by rw [←n.nt];exact q) ?_,l⟩;refine dH (v:=.sl (ey o d) []) (cs:=[v]) ?_ rfl;obtain ⟨b,cap,I,rfl,D,_,_,z,_⟩:=c;refine ⟨t,b,cap,I,none,?_,by rw [D,z]⟩;simp [ax,mh,fI,bL]
theorem Lw (h:aA F G s a w) (u:dl P E F) {d:Nat} {t:Ty} {c:TV} {k:St→Option ρ} {r:ρ} {o:Nat} (hk:newVar s o d t c k=some r) (y:d<E.nt) (C:t.cF)
 {f:FT} {row:Array Value} {e:TypeId} {b:Nat} (I:w.heap[b]?=some (.cells row e (0,0))) (j:aW (ax s.box G) w F.R c t f row.toList) (z:ic F G s w ⟨some b,f⟩):
 ch F k r (a.put (some d) (.pointer (some ⟨b,0,none⟩))) w:=by
 obtain ⟨l,n,q⟩:=q4 hk;have D:=h.qy (x:=⟨t,false,false,c⟩) (g:=⟨some b,f⟩) l n rfl C ⟨b,row,e,rfl,I,by have:=aW.len _ _ _ _ j;simpa using this,j⟩ z;refine ⟨_,_,D.put (by rw [←u.nt];exact y) ?_,q⟩;refine dH (v:=.ref (ey o d) []) (cs:=[_]) ?_ rfl;refine ⟨t,f,b,0,?_,rfl⟩;simp only [ax,mh,b5,fI];cases t<;>simp [bL]
end
section
variable {ρ:Type} {P:Program} {E:ao} {F:Fr} {G:Nat→Gh} {s:St} {a:Act} {w w2:World} {Q:Exit→Act→World→Prop}
theorem F9:∀(t:Ty),t.fY=true→t.hQ=true→∃ft:FT,ft.ae=[]∧∀w,bb w t (h2 t) ft (fb t)
 | .int _,_,_=>⟨.leaf,rfl,fun _=>⟨rfl,trivial,rfl,rfl⟩⟩
 | .bool,_,_=>⟨.leaf,rfl,fun _=>⟨rfl,trivial,rfl,rfl⟩⟩
 | .bP,_,_=>⟨.leaf,rfl,fun _=>⟨rfl,bM _,rfl,rfl⟩⟩
 | .bG,h,_=>by simp [Ty.fY] at h
 | .slice t,_,_=>⟨.node none 0 [],rfl,fun _=>⟨none,0,[],rfl,rfl,cf _,bM _,rfl,rfl⟩⟩
 | .unit,_,_=>⟨.leaf,rfl,fun _=>⟨rfl,trivial,rfl,rfl⟩⟩
 | .cons t r,h,b=>by
  simp only [Ty.fY,bp] at h;simp only [Ty.hQ,bp] at b;obtain ⟨f,d,o⟩:=F9 t h.1 b.1;obtain ⟨g,e,q⟩:=F9 r h.2 b.2;exact ⟨.eQ f g,by simp [FT.ae,d,e],fun w=>⟨rfl,_,_,rfl,o w,q w⟩⟩
 | .arr n t,_,h=>by
  have c:(Ty.arr n t).aQ=true:=h;obtain ⟨j,l⟩:=u0 (.arr n t) c;exact ⟨.leaf,rfl,fun w=>⟨c,j,rfl,l.symm⟩⟩
theorem bF.hQ {T:Ty} {t:TypeId} (h:bF P T t):T.hQ=true:=(Ye T).1 t h
theorem qA (w:World) (o:Obj) (b:Nat) (h:b<w.heap.size):(w.alloc o).heap[b]?=w.heap[b]?:=by
 unfold World.alloc
 grind
theorem me (w:World) (o:Obj):(w.alloc o).heap[w.heap.size]?=some o:=by
 unfold World.alloc;simp_all
theorem JC (w:World) (o:Obj):(w.alloc o).heap.size=w.heap.size+1:=World.size_alloc w o
theorem aA.alloc (h:aA F G s a w) (o:Obj):aA F G s a (w.alloc o):=
 h.grow ⟨by rw [JC];omega,by unfold World.alloc;rfl,by unfold World.alloc;rfl⟩ (fun b c=>qA w o b c)
theorem EX (h:aA F G s a w) (o:Obj) {f:FT} (d:hL F G s w f):ic F G s (w.alloc o) ⟨some w.heap.size,f⟩:=by
 refine ⟨?_,fun b c j y g e=>?_,fun b c=>?_⟩;simp only [Gh.ae,fW,g5,jJ];refine ⟨fun e=>?_,d.b7⟩;have:=(d.bK _ e).2.1;omega;simp only [Gh.ae,fW,g5,cy] at c;rcases c with rfl|c
 have:=(h.bK j y g _ e).2.1;omega;exact d.out b c j y g e;simp only [Gh.ae,fW,g5,cy] at c;rw [JC];rcases c with rfl|c
 refine ⟨fun l=>?_,by omega,.inr h.size⟩;have:=h.n1 l;omega;obtain ⟨n,q,r⟩:=d.bK b c
 grind
theorem af6 (h:aA F G s a w) (o:Obj) {b:List FT} {cap:Nat} (c:ic F G s (w.alloc o) ⟨some w.heap.size,.eQ .leaf (.node none 0 b)⟩):ic F G s (w.alloc o) ⟨none,.node (some w.heap.size) cap b⟩:=by
 have e:(Gh.mk none (.node (some w.heap.size) cap b)).ae=(Gh.mk (some w.heap.size) (.eQ .leaf (.node none 0 b))).ae:=by simp [Gh.ae,FT.ae]
 exact ⟨by rw [e];exact c.b7,by rw [e];exact c.out,by rw [e];exact c.bK⟩
theorem acp (h:aA F G s a w) (g:dl P E F) {o:Oper} {t:TypeId} (n:o.op=.alloc t) (C:∀d,o.dst=some d→d<E.nt) {k:St→Option ρ} {r:ρ} (hk:a2 E o s k=some r):
 o.wp P a w (ch F k r) Q:=by
 unfold a2 at hk;rw [n] at hk;simp only [ea] at hk;split at hk;rotate_left;cases hk;rename_i d j;split at hk;rotate_left;cases hk;rename_i T x;have e:=g.ty t T x;have key:∀(z:Value) (c:TV) (f:FT),(zeroValue t).run P w=.ok z w→f.ae=[]→aW (ax s.box G) (w.alloc (.cells z.cells t)) F.R c T f z.cells.toList→newVar s E.fL d T c k=some r→o.wp P a w (ch F k r) Q:=by
  intro z c f b D y hk;have:=Lw (h.alloc (.cells z.cells t)) g hk (C d j) (bF.cF T t e) (me w _) y (EX h _ (hL.nil D));refine c7 (v:=.pointer (some ⟨w.heap.size,0,none⟩)) (w':=w.alloc (.cells z.cells t)) ?_ (by rw [j];exact this);unfold execOp;rw [n];simp [Instr.alloc,b,Go.newVar,newRow]
 split at hk;rename_i l;obtain ⟨i,hi,_,_,b⟩:=e.hb;obtain ⟨z,J,K,z3⟩:=b l;obtain ⟨f,q,u⟩:=F9 T l e.hQ;refine key z _ f ?_ q (show aW _ _ _ (.ab T (h2 T)) T f _ from ⟨rfl,by rw [K];exact u _⟩) hk;simp [zeroValue,typeInfo,hi,J];split at hk;obtain ⟨i,z,hi,b,I⟩:=e.bG;refine key z _ .leaf ?_ rfl (show aW _ _ _ .un .bG .leaf _ from ⟨rfl,rfl,rfl,I⟩) hk;simp [zeroValue,typeInfo,hi,b];cases hk
theorem afv (h:aA F G s a w) (b:dl P E F) {o:Oper} {t:TypeId} {n:Option Operand} (j:o.op=.makeMap t n) (z:∀d,o.dst=some d→d<E.nt) {k:St→Option ρ} {r:ρ} (hk:a2 E o s k=some r):
 o.wp P a w (ch F k r) Q:=by
 unfold a2 at hk;rw [j] at hk;simp only at hk;split at hk;rotate_left;cases hk;rename_i d c;split at hk;rotate_left;cases hk;rename_i K y;obtain ⟨U,I,O,J,_,e⟩:=q2 (b.bC t K y);obtain ⟨l,q,u⟩:=q4 hk;have C:=(h.alloc (.map #[] 0)).qy (x:=⟨.slice (eI K),true,false,.tup (.ab (.slice (eI K)) (show List (K.ai×Int×Unit) from []))⟩) (g:=⟨none,.node (some w.heap.size) 0 []⟩) l q rfl
  (by rcases e with rfl|rfl<;>simp [eI,Ty.cF]) ⟨rfl,⟨_,rfl⟩,[.map (some w.heap.size)],rfl,e,w.heap.size,#[],rfl,rfl,me w _,rfl,fun i x D=>by cases D⟩
  (af6 h _ (EX h _ (hL.nil (f:=.eQ .leaf (.node none 0 [])) rfl)))
 refine c7 (v:=.map (some w.heap.size)) (w':=w.alloc (.map #[] 0)) ?_ (by rw [c];exact ⟨_,_,C.put (by rw [←b.nt];exact z d c) (dH (v:=.mp (ey E.fL d)) (cs:=[_]) ⟨eI K,w.heap.size,0,[],none,by simp [ax,mh,fI,bL],rfl⟩ rfl),u⟩);unfold execOp;rw [j];rfl
theorem acP (h:aA F G s a w) (u:dl P E F) {o:Oper} {t:TypeId} {x:Operand} (C:o.op=.box t x) (I:∀d,o.dst=some d→d<E.nt) {k:St→Option ρ} {r:ρ} (hk:a2 E o s k=some r):
 o.wp P a w (ch F k r) Q:=by
 unfold a2 at hk;rw [C] at hk;simp only [ea] at hk;split at hk;rotate_left;cases hk;rename_i d q;split at hk;rotate_left;cases hk;rename_i T W;have K:=u.ty t T W;have O:=cA h x;split at hk
 ·split at hk;rotate_left;cases hk;rename_i c j;obtain ⟨cs,D,n⟩:=O.cells (by intro e;rw [e] at j;cases T<;>simp [gS] at j) (by intro b e;rw [e] at j;cases T<;>simp [gS] at j);obtain ⟨f,J,Y,aa⟩:=Q5 T _ c cs D j;have z:(a.eval x).cells.toList=cs:=xN n (fun y=>by
   rw [y] at n;exact aa _ (by simp_all))
  have X:aW (ax s.box G) (w.alloc (.cells (a.eval x).cells t)) F.R c T f (a.eval x).cells.toList:=by
   rw [z];exact aW.mono (fun _ _ _ ft _ e=>⟨ft,e,rfl⟩) (fun b g=>qA w _ b (h.n1 g)) _ _ _ _ (fun b g=>by rw [J] at g;cases g) Y
  have:=Lw (h.alloc (.cells (a.eval x).cells t)) u hk (I d q) (bF.cF T t K) (me w _) X (EX h _ (hL.nil J));refine c7 (v:=.pointer (some ⟨w.heap.size,0,none⟩)) (w':=w.alloc (.cells (a.eval x).cells t)) ?_ (by rw [q];exact this);unfold execOp;rw [C];simp [Instr.box,Go.newVar,newRow]
 obtain ⟨cs,D,n⟩:=O.cells (by intro e;rw [e] at hk;cases T<;>simp [ct] at hk) (by intro b e;rw [e] at hk;cases T<;>simp [ct] at hk);obtain ⟨G1,s1,c,f,κ,Z,l⟩:=oY T _ G s cs _ r h D hk;have z:(a.eval x).cells.toList=cs:=xN n (fun y=>by
  rw [y] at n;exact l.eA _ (by simp_all))
 have U:=l.rel.alloc (.cells (a.eval x).cells t);have j:aW (ax s1.box G1) (w.alloc (.cells (a.eval x).cells t)) F.R c T f (a.eval x).cells.toList:=by
  rw [z];exact aW.mono (fun _ _ _ ft _ e=>⟨ft,e,rfl⟩) (fun b g=>qA w _ b (h.n1 g)) _ _ _ _ (fun b g=>qA w _ b (l.eH.bK b g).2.1) l.fv
 have:=Lw U u Z (I d q) (bF.cF T t K) (me w _) j (EX l.rel _ l.eH);refine c7 (v:=.pointer (some ⟨w.heap.size,0,none⟩)) (w':=w.alloc (.cells (a.eval x).cells t)) ?_ (by rw [q];exact this);unfold execOp;rw [C];simp [Instr.box,Go.newVar,newRow]
end
section
variable {ρ:Type} {P:Program} {E:ao} {F:Fr} {G:Nat→Gh} {s:St} {a:Act} {w w2:World} {Q:Exit→Act→World→Prop}
def cV (w:World) (t:Ty):List t.ai→List FT→List Value→Prop
 |[],[],cs=>cs=[]
 |x::xs,k::d,cs=>∃b c,cs=b++c∧bb w t x k b∧cV w t xs d c
 |_,_,_=>False
variable {t:Ty}
theorem cV.len:∀{xs:List t.ai} {b:List FT} {cs:List Value},cV w t xs b cs→cs.length=xs.length*t.size∧b.length=xs.length
 |[],[],cs,h=>by rw [show cs=[] from h];simp
 |x::xs,k::b,cs,h=>by
  obtain ⟨g,j,rfl,e,f⟩:=h;obtain ⟨c,d⟩:=cV.len f;refine ⟨?_,by simp [d]⟩;rw [cw,bb.len _ _ _ _ e,c,hH,fP];omega
 |[],_::_,_,h=>h.elim
 |_::_,[],_,h=>h.elim
theorem cV.bQ:∀{xs:List t.ai} {c:List FT} {cs:List Value},(∀b∈FT.bq c,w2.heap[b]?=w.heap[b]?)→cV w t xs c cs→cV w2 t xs c cs
 |[],[],_,_,h=>h
 |x::xs,k::c,cs,d,h=>by
  obtain ⟨e,f,rfl,g,j⟩:=h;exact ⟨e,f,rfl,bb.bQ _ _ _ _ (fun b m=>d b (by simp [FT.bq,m])) g,cV.bQ (fun b m=>d b (by simp [FT.bq,m])) j⟩
 |[],_::_,_,_,h=>h.elim
 |_::_,[],_,_,h=>h.elim
theorem cV.eA:∀{xs:List t.ai} {b:List FT} {cs:List Value},cV w t xs b cs→TM.eA cs
 |[],[],cs,h=>by rw [show cs=[] from h];intro v e;cases e
 |x::xs,k::b,cs,h=>by
  obtain ⟨f,g,rfl,c,d⟩:=h;exact uz (bb.eA _ _ _ _ c) (cV.eA d)
 |[],_::_,_,h=>h.elim
 |_::_,[],_,h=>h.elim
theorem cV.append:∀{xs d:List t.ai} {c ls:List FT} {cs ds:List Value},cV w t xs c cs→cV w t d ls ds→cV w t (xs++d) (c++ls) (cs++ds)
 |[],_,[],_,cs,_,h,b=>by rw [show cs=[] from h];exact b
 |x::xs,_,k::c,_,cs,_,h,b=>by
  obtain ⟨e,j,rfl,f,g⟩:=h;exact ⟨e,_,by rw [c6],f,cV.append g b⟩
 |[],_,_::_,_,_,_,h,_=>h.elim
 |_::_,_,[],_,_,_,h,_=>h.elim
theorem JK:∀(b ls:List FT),FT.bq (b++ls)=FT.bq b++FT.bq ls
 |[],_=>rfl
 |k::b,ls=>by simp [FT.bq,JK b ls]
theorem cV.UF:∀{xs:List t.ai} {c:List FT} {cs:List Value},cV w t xs c cs→∀(i:Nat) (x:t.ai) (k:FT),xs[i]?=some x→c[i]?=some k→bb w t x k (sub cs (i*t.size) t.size)
 |[],[],_,_,i,x,k,b,_=>by simp at b
 |x::xs,k::c,cs,h,i,y,l,b,hk=>by
  obtain ⟨j,n,rfl,f,g⟩:=h;have d:=bb.len _ _ _ _ f;cases i with
  |zero=>
   simp only [List.getElem?_cons_zero,az] at b hk;subst b hk;unfold sub;simp_all
  |succ i=>
   have:=cV.UF g i y l (by simpa using b) (by simpa using hk);unfold sub at this⊢;have e:(i+1)*t.size=t.size+i*t.size:=by grind
   rw [e,←d,←kb,List.drop_left,d];exact this
 |[],_::_,_,h,_,_,_,_,_=>h.elim
 |_::_,[],_,h,_,_,_,_,_=>h.elim
theorem cV.ab {xs:List t.ai} {d:List FT} {cs bo:List Value} (h:cV w t xs d cs) {b cap:Nat} {row:Array Value} {e:TypeId} (f:w.heap[b]?=some (.cells row e (0,0))) (r:row.toList=cs++bo)
 (g:cap*t.size=row.size) (j:xs.length≤cap) (o:xs.length≤eZ):bb w (.slice t) xs (.node (some b) cap d) [.slice (some ⟨b,0,none⟩) xs.length cap]:=by
 obtain ⟨q,l⟩:=h.len;refine ⟨some b,cap,d,rfl,rfl,j,o,l,⟨row,e,f,g⟩,fun i x k c hk=>?_⟩;have c:xs[i]?=some x:=c;have hi:i<xs.length:=(bR.1 c).1;have n:i*t.size+t.size≤xs.length*t.size:=by
  have:(i+1)*t.size≤xs.length*t.size:=ke _ hi
  grind
 refine ⟨_,⟨row,e,(0,0),f,?_,rfl⟩,?_⟩;rw [←g];exact Nat.le_trans n (ke _ j);have:=h.UF i x k c hk;unfold sub at this
 grind
theorem bb.toL {xs:List t.ai} {b cap:Nat} {d:List FT} {cs:List Value} (h:bb w (.slice t) xs (.node (some b) cap d) cs):
 ∃row e c bo,w.heap[b]?=some (.cells row e (0,0))∧cap*t.size=row.size∧row.toList=c++bo∧cV w t xs d c∧xs.length≤cap∧xs.length≤eZ∧cs=[.slice (some ⟨b,0,none⟩) xs.length cap]:=by
 obtain ⟨K,O,aa,q,rfl,f,v,o,h4⟩:=h;simp only [FT.node.injEq] at q;obtain ⟨rfl,rfl,rfl⟩:=q;obtain ⟨⟨row,e,h5,h6⟩,Y⟩:=h4;have f:xs.length≤cap:=f;have o:d.length=xs.length:=o;refine ⟨row,e,row.toList.take (xs.length*t.size),row.toList.drop (xs.length*t.size),h5,h6,by simp_all,?_,f,v,rfl⟩;have C:xs.length*t.size≤row.size:=by rw [←h6];exact ke _ f
 have key:∀(xs:List t.ai) (d:List FT) (n:Nat),d.length=xs.length→(n+xs.length)*t.size≤row.size→
  (∀(i:Nat) (x:t.ai) (k:FT),xs[i]?=some x→d[i]?=some k→∃c,At w b ((n+i)*t.size) t.size c∧bb w t x k c)→cV w t xs d ((row.toList.drop (n*t.size)).take (xs.length*t.size)):=by
  intro xs
  induction xs with
  |nil=>
   intro d n g _ _;cases d with
   |nil=>simp [cV]
   |cons _ _=>simp at g
  |cons x xs J=>
   intro d n g C u;cases d with
   |nil=>simp at g
   |cons k d=>
    obtain ⟨c,z,D⟩:=u 0 x k rfl rfl;obtain ⟨mP,U,W,j,X,r⟩:=z;rw [h5] at j;simp only [az,Obj.cells.injEq] at j;obtain ⟨rfl,_,_⟩:=j;simp only [jK] at r;refine ⟨c,(row.toList.drop ((n+1)*t.size)).take (xs.length*t.size),?_,D,J d (n+1) (by simpa using g) (by grind) (fun i y l I hk=>by
     have:=u (i+1) y l (by simpa using I) (by simpa using hk)
     grind)⟩
    rw [←r,hH,fP,Nat.add_comm (xs.length*t.size),List.take_add,fP,kb]
 have:=key xs d 0 o (by simp_all) (fun i x k Z hk=>by simp_all);simp_all
theorem cV.zero (g:t.fY=true) (e:t.hQ=true):∀n,∃b:List FT,FT.bq b=[]∧∀w,cV w t (List.replicate n (h2 t)) b (List.replicate n (fb t)).flatten:=by
 intro n;obtain ⟨f,c,d⟩:=F9 t g e
 induction n with
 |zero=>exact ⟨[],rfl,fun _=>rfl⟩
 |succ n h=>
  obtain ⟨b,j,l⟩:=h;exact ⟨f::b,by simp [FT.bq,c,j],fun w=>⟨_,_,by grind,d w,l w⟩⟩
theorem cV.aQ (c:t.aQ=true):∀(xs:List t.ai),(∀x∈xs,dm t x)→∃b:List FT,FT.bq b=[]∧∀w,cV w t xs b (xs.map (bE t)).flatten
 |[],_=>⟨[],rfl,fun _=>rfl⟩
 |x::xs,h=>by
  obtain ⟨b,j,l⟩:=cV.aQ c xs (fun y g=>h y (by simp [g]));have:∃f:FT,f.ae=[]∧∀w,bb w t x f (bE t x):=⟨.leaf,rfl,fun w=>bb.gv c (h x (by simp)) rfl⟩
  obtain ⟨f,d,e⟩:=this;exact ⟨f::b,by simp [FT.bq,d,j],fun w=>⟨_,_,by simp,e w,l w⟩⟩
theorem aft (z:Array Value) (n:Nat):(madeCells z (n*z.size)).toList=(List.replicate n z.toList).flatten:=by
 unfold madeCells;rw [u1,Array.toList_range]
 induction n with
 |zero=>simp
 |succ n c=>
  rw [List.replicate_succ',List.flatten_append,List.flatten_singleton,←c,fP,List.range_add,e2];congr 1;rw [List.map_map];apply List.ext_getElem;simp;intro i b d;simp only [c2,List.length_range] at b;simp only [List.getElem_map,List.getElem_range,Function.comp_apply];have:(n*z.size+i)%z.size=i:=by rw [Nat.mul_comm,Nat.mul_add_mod];exact Nat.mod_eq_of_lt b
  simp_all
end
section
variable {ρ:Type} {P:Program} {E:ao} {F:Fr} {G:Nat→Gh} {s:St} {a:Act} {w w2:World} {Q:Exit→Act→World→Prop}
theorem ic.row {o:Obj} {d:List FT} (cap:Nat) (h:aA F G s a w) (n:(FT.bq d).Nodup) (q:∀b∈FT.bq d,∀j y,s.box j=some y→b∉(G j).ae)
 (l:∀b∈FT.bq d,¬F.R b∧b<w.heap.size∧(b∈F.M∨F.w0.heap.size≤b)):ic F G s (w.alloc o) ⟨none,.node (some w.heap.size) cap d⟩:=by
 refine ⟨?_,fun b c j y g f=>?_,fun b c=>?_⟩;simp only [Gh.ae,FT.ae,zh,dJ,fW,g5,jJ]
 grind
 simp only [Gh.ae,FT.ae,zh,dJ,fW,g5,cy] at c;rcases c with rfl|c
 have:=(h.bK j y g _ f).2.1;omega;simp_all;simp only [Gh.ae,FT.ae,zh,dJ,fW,g5,cy] at c;rw [JC];rcases c with rfl|c
 refine ⟨fun e=>?_,by omega,.inr h.size⟩;have:=h.n1 e;omega
 grind
theorem DY {n:Nat} (h:n≤bu):n≤eZ:=Nat.le_trans h (by simp [bu,eZ])
theorem afw (h:aA F G s a w) (q:dl P E F) {o:Oper} {t:TypeId} {n c:Operand} (U:o.op=.makeSlice t n c) (K:∀d,o.dst=some d→d<E.nt) {k:St→Option ρ} {r:ρ} (hk:a2 E o s k=some r):
 o.wp P a w (ch F k r) Q:=by
 unfold a2 at hk;rw [U] at hk;simp only [ea] at hk;split at hk;rotate_left;cases hk;rename_i d y;split at hk;rotate_left;cases hk;rename_i T I;split at hk;rotate_left;cases hk;rename_i u;have Y:=q.ty t _ I;obtain ⟨ae,ao,ak,hk⟩:=lu (cA h n) hk;obtain ⟨af,ap,al,hk⟩:=lu (cA h c) hk;split at hk;rotate_left;cases hk;rename_i m ah _hk0;split at hk;rotate_left;cases hk;rename_i x;simp only [bp] at x;obtain ⟨⟨g,f⟩,l⟩:=x;have g:m=ah:=fe g;have f:m≤bu:=pV f;subst g;obtain ⟨e0,Z,j⟩:=Y.slice;obtain ⟨i,hi,C,J,aa⟩:=j.hb;obtain ⟨z,ai,aj,z3⟩:=aa l;have e:(i.bytes:Int)*(m:Int)≤281474976710656:=by
  have am:i.bytes*m≤4096*4294967296:=Nat.mul_le_mul J f;omega
 have O:(m:Int)≤9223372036854775807:=by
  have:m≤4294967296:=f;omega
 have X:=run_make (P:=P) w t e0 i z Z hi ai ae af m m (by omega) (by omega) e O;simp only [er] at X;have ac:z.cells.size=u.size:=by
  have:=mX u
  grind
 have an:(madeCells z.cells (m*i.size)).toList=(List.replicate m (fb u)).flatten:=by
  rw [C,←ac,aft,aj]
 obtain ⟨ag,D,ad⟩:=cV.zero l j.hQ m;have W:bb (w.alloc (.cells (madeCells z.cells (m*i.size)) e0)) (.slice u) (List.replicate m (h2 u)) (.node (some w.heap.size) m ag) [.slice (some ⟨w.heap.size,0,none⟩) m m]:=by
  have:=cV.ab (bo:=[]) (cap:=m) (b:=w.heap.size) (ad (w.alloc (.cells (madeCells z.cells (m*i.size)) e0))) (me w _) (by simp_all) (by rw [size_madeCells,C]) (by simp) (by simp;exact DY f);simpa using this
 have:=yp (h.alloc (.cells (madeCells z.cells (m*i.size)) e0)) q hk (K d y) (bF.cF u e0 j) W (ic.row m h (by simp_all) (fun b e=>by rw [D] at e;cases e) (fun b e=>by rw [D] at e;cases e));refine c7 (v:=.slice (some ⟨w.heap.size,0,none⟩) m m) (w':=w.alloc (.cells (madeCells z.cells (m*i.size)) e0)) ?_ (by rw [y];exact this);unfold execOp;simp_all
theorem adB (t:Ty):∀(vs:List TV) (xs:List Value) (G:Nat→Gh) (s:St) (kl:TV→TV) (k:St→List t.ai→Option ρ) (r:ρ),aA F G s a w→vs.length=xs.length→
 (∀(i:Nat) (v:TV) (x:Value),vs[i]?=some v→xs[i]?=some x→VR (ax s.box G) w F.R (kl v) x)→nD s t kl vs k=some r→
 ∃C u n l cs,k u n=some r∧aA F C u a w∧cV w t n l cs∧n.length=vs.length∧cs=(xs.map fun x=>x.cells.toList).flatten∧(∀x∈xs,x.cells.size=t.size)∧(FT.bq l).Nodup∧
  (∀b∈FT.bq l,∀j y,u.box j=some y→b∉(C j).ae)∧(∀b∈FT.bq l,¬F.R b∧b<w.heap.size∧(b∈F.M∨F.w0.heap.size≤b))∧
  (∀b∈FT.bq l,∃i x,s.box i=some x∧b∈(G i).ae)∧iH G s C u:=by
 intro vs
 induction vs with
 |nil=>
  intro xs G s kl k r h q J hk;cases xs with
  |nil=>exact ⟨G,s,[],[],[],hk,h,rfl,rfl,rfl,(fun x K=>by cases K),h3,(fun b d=>by cases d),(fun b d=>by cases d),(fun b d=>by cases d),iH.refl⟩
  |cons _ _=>simp at q
 |cons v vs ar=>
  intro xs G s kl k r h q J hk;cases xs with
  |nil=>simp at q
  |cons x xs=>
   simp only [nD] at hk;have K:=J 0 v x rfl rfl;obtain ⟨cs,av,X⟩:=K.cells (by intro e;rw [e] at hk;cases t<;>simp [ct] at hk) (by intro b e;rw [e] at hk;cases t<;>simp [ct] at hk);obtain ⟨G1,s1,c,f,κ,D,g⟩:=oY t _ G s cs _ r h av hk;split at D;rotate_left;cases D;rename_i y aq;obtain ⟨ah,o,aj⟩:=mf t c f cs y g.fv aq;have ao:x.cells.toList=cs:=xN X (fun am=>by
    rw [am] at X;exact g.eA _ (by simp_all))
   obtain ⟨aa,s2,n,l,ds,ap,ag,af,ab,Z,aw,ad,Y,ac,U,W⟩:=ar xs G1 s1 _ _ r g.rel (by simpa using q) (fun i au x' ak al=>g.vr _ _ (J (i+1) au x' (by simpa using ak) (by simpa using al))) D;have fr:=g.eH.fj W;have ay:x.cells.size=t.size:=by
    have:=aW.len _ _ _ _ g.fv
    grind
   refine ⟨aa,s2,y::n,ah::l,cs++ds,ap,ag,⟨cs,ds,rfl,aj,af⟩,by simp [ab],by simp [Z,ao],?_,?_,?_,?_,?_,g.fj.trans W⟩
   grind
   simp only [FT.bq,cn,o];refine ⟨fr.b7,ad,fun b d c an e=>?_⟩;subst e;obtain ⟨i,z,O,I⟩:=U b an;exact g.eH.out b d i z O I;intro b d;simp only [FT.bq,aZ,o] at d;rcases d with d|d
   exact fr.out b d;exact Y b d;intro b d;simp only [FT.bq,aZ,o] at d;rcases d with d|d
   exact fr.bK b d;exact ac b d;intro b d;simp only [FT.bq,aZ,o] at d;rcases d with d|d
   exact g.jU b d;obtain ⟨i,z,O,I⟩:=U b d;exact g.fj.sub i z O b I
end
section
variable {ρ:Type} {P:Program} {E:ao} {F:Fr} {G:Nat→Gh} {s:St} {a:Act} {w w2:World} {Q:Exit→Act→World→Prop}
theorem Ml {f:Operand→Value}:∀(n:Nat) (l:List (Nat×Operand)),uJ n l=true→(l.map fun x=>(x.1,f x.2))=((l.map fun x=>f x.2).zipIdx n).map fun x=>(x.2,x.1)
 |_,[],_=>rfl
 |n,x::l,h=>by
  simp only [uJ,bp] at h;have e:=fe h.1;simp only [dh,List.zipIdx_cons];rw [←Ml (n+1) l h.2,e]
theorem afl {A:bY} {t:Ty}:∀(vs:List TV) (xs:List Value) (b:List (Ty.slice t).ai),(∀(i:Nat) v x,vs[i]?=some v→xs[i]?=some x→VR A w F.R v x)→vs.length=xs.length→ya (.slice t) vs=some b→
 b.length=xs.length∧∀(i:Nat) (y:(Ty.slice t).ai),b[i]?=some y→∃x,xs[i]?=some x∧Rd w F.R (.slice t) y [x]:=by
 intro vs
 induction vs with
 |nil=>
  intro xs b _ c h;obtain rfl:=hI.1 c.symm;obtain rfl:=bk h;simp_all
 |cons v vs n=>
  intro xs b j c h;cases xs with
  |nil=>cases c
  |cons x xs=>
   unfold ya at h;split at h;rename_i e;cases e
   ·rename_i u z q e;obtain ⟨rfl,rfl⟩:=hq e;split at h;rotate_left;cases h;rename_i y d;split at h;rotate_left;cases h;rename_i o l;obtain rfl:=bk h;obtain ⟨rfl,rfl⟩:=e4 d;obtain ⟨f,g⟩:=n xs o (fun i v x f g=>j (i+1) v x (by simpa using f) (by simpa using g)) (by simpa using c) l;refine ⟨by simpa using f,fun i y d=>?_⟩;cases i with
    |zero=>
     obtain rfl:=bk d;exact ⟨x,rfl,(j 0 _ x rfl rfl).b3 (by simp) (by simp) rfl⟩
    |succ i=>exact g i y d
   cases h
theorem afn (h:aA F G s a w) (ah:dl P E F) {o:Oper} {t:TypeId} {len:Nat} {parts:Array (Nat×Operand)} (ao:o.op=.buildSlice t len parts) {d:Nat} (al:o.dst=some d) (ak:d<E.nt) {u:Ty} {e0:TypeId} (au:P.underlying t=some (.slice e0)) (ar:bF P u e0)
 {i:TypeInfo} (hi:P.info? e0=some i) (X:i.size=u.size) {z:Value} (aw:i.zero=some z) (a1:z.cells.size=u.size) (y:parts.toList.length=len) (ac:uJ 0 parts.toList=true) (c4:len*u.size≤16777216)
 {xs:List u.ai} (j:K7 u (parts.toList.map fun x=>s.ev x.2)=some xs) {k:St→Option ρ} {r:ρ} (hk:q5 s E.fL d u xs k=some r):o.wp P a w (ch F k r) Q:=by
 obtain ⟨t0,rfl⟩:∃t0,u=.slice t0:=by
  cases u with
  |slice t0=>exact ⟨t0,rfl⟩
  |_=>cases j
 obtain ⟨v0,ab,Y⟩:∃v0 ab,(parts.toList.map fun x=>s.ev x.2)=v0::ab:=by
  cases c:(parts.toList.map fun x=>s.ev x.2) with
  |nil=>rw [c] at j;cases j
  |cons v vs=>exact ⟨v,vs,rfl⟩
 have j:ya (.slice t0) (parts.toList.map fun x=>s.ev x.2)=some xs:=by rw [Y] at j⊢;exact j
 have az:parts.toList≠[]:=fun e=>by simp_all
 obtain ⟨av,D⟩:=afl (A:=ax s.box G) (w:=w) (F:=F) (parts.toList.map fun x=>s.ev x.2) (parts.toList.map fun x=>a.eval x.2) xs (fun i v x c f=>by
  rw [jI] at c f;cases U:parts.toList[i]? with
  |none=>rw [U] at c;cases c
  |some q=>
   rw [U] at c f;obtain rfl:=bk c;obtain rfl:=bk f;exact cA h q.2) (by simp) j
 have K:xs.length=len:=by simp_all
 have O:∀x∈parts.toList.map fun x=>a.eval x.2,x.cells= #[x]:=by
  intro x f;obtain ⟨i,hi,rfl⟩:=pR.1 f;obtain ⟨x',I,J⟩:=D i xs[i] (aT (by omega));rw [aT hi] at I;obtain rfl:=bk I;obtain ⟨ay,cap,aa,_⟩:=J;simp only [eK,eM] at aa;rw [aa];rfl
 have a0:0<len:=by grind
 have W:(parts.map fun (i,x)=>(i,a.eval x)).toList=((parts.toList.map fun x=>a.eval x.2).zipIdx 0).map fun x=>(x.2,x.1):=by
  rw [u1];exact Ml 0 _ ac
 have am:(parts.toList.map fun x=>a.eval x.2)=((parts.toList.map fun x=>a.eval x.2).flatMap fun v=>v.cells.toList):=by
  clear W av D j Y;generalize (parts.toList.map fun x=>a.eval x.2)=l at O⊢
  induction l with
  |nil=>rfl
  |cons x l Z=>grind
 have aq:(Instr.buildSlice t len (parts.map fun (i,x)=>(i,a.eval x))).run P w=.ok (.slice (some ⟨w.heap.size,0,none⟩) len len) (w.alloc (.cells (parts.toList.map fun x=>a.eval x.2).toArray e0)):=by
  refine run_buildSlice (P:=P) w t e0 len _ _ i z au hi aw (by grind) (by rw [X];simp only [Ty.size];omega) ?_;rw [W,X]
  conv=>rhs;rw [am]
  exact Great.fill_whole (by simp [Ty.size]) _ _ (fun v c=>by rw [O v c];rfl) (by simp [y])
 obtain ⟨ae,af,ag⟩:=q4 hk;have aj:FT.bq (List.replicate len FT.leaf)=[]:=by
  generalize len=n
  induction n with
  |zero=>rfl
  |succ n Z=>rw [List.replicate_succ];exact Z
 have an:ic F G s (w.alloc (.cells (parts.toList.map fun x=>a.eval x.2).toArray e0)) ⟨none,.node (some w.heap.size) len (List.replicate len .leaf)⟩:=
  ic.row len h (by grind) (fun b C=>by grind) (fun b C=>by grind)
 have ap:=(h.alloc (.cells (parts.toList.map fun x=>a.eval x.2).toArray e0)).qy (x:=⟨.slice (.slice t0),true,false,.tup (.ad (.slice (.slice t0)) xs)⟩) (g:=⟨none,.node (some w.heap.size) len (List.replicate len .leaf)⟩) ae af rfl
  (bF.cF (.slice t0) e0 ar) ⟨rfl,⟨_,rfl⟩,[.slice (some ⟨w.heap.size,0,none⟩) len len],rfl,w.heap.size,len,_,rfl,aj,by rw [K],by omega,by simp only [Ty.size] at c4;have:=DY (n:=len) (by simp [bu];omega);omega,by simp [K],
   ⟨_,_,me w _,by simp [Ty.size,y]⟩,fun i x f=>by
    obtain ⟨v,I,J⟩:=D i x f;refine ⟨[v],⟨_,_,_,me w _,?_,?_⟩,Rd.bQ (fun _ h=>h) (fun b C=>qA w _ b (h.n1 C)) _ _ _ J⟩;have:=(bR.1 f).1;simp [Ty.size];simp at y;omega;simp only [Ty.size,Nat.mul_one];rw [List.take_one,List.head?_drop]
    grind⟩ an
 refine c7 (v:=.slice (some ⟨w.heap.size,0,none⟩) len len) (w':=w.alloc (.cells (parts.toList.map fun x=>a.eval x.2).toArray e0)) ?_ (by
  rw [al];refine ⟨_,_,ap.put (by rw [←ah.nt];exact ak) (dH (v:=.sl (ey E.fL d) []) (cs:=[_]) ⟨.slice t0,some w.heap.size,len,List.replicate len .leaf,none,by simp [ax,mh,fI,bL],by simp⟩ rfl),ag⟩)
 unfold execOp;rw [ao];simp only [Sem.run_bind]
 erw [aq]
 rfl
theorem acS (h:aA F G s a w) (l:dl P E F) {o:Oper} {t:TypeId} {len:Nat} {parts:Array (Nat×Operand)} (Z:o.op=.buildSlice t len parts) (X:∀d,o.dst=some d→d<E.nt) {k:St→Option ρ} {r:ρ} (hk:a2 E o s k=some r):
 o.wp P a w (ch F k r) Q:=by
 unfold a2 at hk;rw [Z] at hk;simp only [ea] at hk;split at hk;rotate_left;cases hk;rename_i d f;split at hk;rotate_left;cases hk;rename_i T aj;split at hk;rotate_left;cases hk;rename_i u;have av:=l.ty t _ aj;split at hk;rotate_left;cases hk;rename_i W;simp only [bp] at W;obtain ⟨⟨⟨⟨e,O⟩,ai⟩,c4⟩,j⟩:=W;have e:=fe e;have c4:=pV c4;have j:0<u.size:=by simp_all
 obtain ⟨e0,y,n⟩:=av.slice;obtain ⟨i,hi,g,a1,ax⟩:=n.hb;obtain ⟨z,ad,a5,z3⟩:=ax ai;split at hk;rename_i xs aw;exact afn h l Z f (X d f) y n hi g ad (by
  have:=mX u
  grind) e O c4 aw hk
 obtain ⟨G1,s1,D,ay,cs,ao,K,J,a0,af,ah,ag,ae,I,az,_⟩:=adB u (parts.toList.map fun x=>s.ev x.2) (parts.toList.map fun x=>a.eval x.2) G s id _ r h (by simp)
  (fun i v x c C=>by
   rw [jI] at c C;cases aa:parts.toList[i]? with
   |none=>rw [aa] at c;cases c
   |some q=>
    rw [aa] at c C;obtain rfl:=bk c;obtain rfl:=bk C;exact cA h q.2) hk
 have Y:D.length=len:=by simp_all
 have ap:D.length≤eZ:=by
  rw [Y];have:len*1≤len*u.size:=Nat.mul_le_mul_left _ j;exact Nat.le_trans (by omega:len≤16777216) (by simp [eZ])
 have a4:z.cells.size=u.size:=by
  have:=mX u
  grind
 have an:cs=((parts.toList.map fun x=>a.eval x.2).flatMap fun v=>v.cells.toList):=by grind
 have au:(parts.map fun (i,x)=>(i,a.eval x)).toList=((parts.toList.map fun x=>a.eval x.2).zipIdx 0).map fun x=>(x.2,x.1):=by
  rw [u1];exact Ml 0 _ O
 have a3:(Instr.buildSlice t len (parts.map fun (i,x)=>(i,a.eval x))).run P w=.ok (.slice (some ⟨w.heap.size,0,none⟩) len len) (w.alloc (.cells cs.toArray e0)):=by
  by_cases U:len=0;subst U;have ac:parts.toList=[]:=hI.1 e;have am:cs=[]:=by rw [af,ac];rfl
  rw [am];have ar:parts= #[]:=by simpa using ac
  subst ar;simp [Instr.buildSlice,run_underlying y,sizeOf,typeInfo,hi,Instr.fill,newRow,Array.range_zero'];refine run_buildSlice (P:=P) w t e0 len _ cs.toArray i z y hi ad (by rw [g];omega) (by rw [g];exact Nat.mul_ne_zero U (by omega)) ?_;rw [au,g,an];exact Great.fill_whole j _ _ (fun v c=>ah v c) (by simp [e])
 have aq:bb (w.alloc (.cells cs.toArray e0)) (.slice u) D (.node (some w.heap.size) len ay) [.slice (some ⟨w.heap.size,0,none⟩) len len]:=by
  have al:=J.len;have:=cV.ab (bo:=[]) (cap:=len) (b:=w.heap.size) (cV.bQ (fun b ak=>qA w (.cells cs.toArray e0) b (I b ak).2.1) J) (me w _) (by simp) (by simp [al.1,Y]) (by omega) ap;simp_all
 have:=yp (K.alloc (.cells cs.toArray e0)) l ao (X d f) (bF.cF u e0 n) aq (ic.row len K ag ae I);refine c7 (v:=.slice (some ⟨w.heap.size,0,none⟩) len len) (w':=w.alloc (.cells cs.toArray e0)) ?_ (by rw [f];exact this);unfold execOp;simp_all
end
section
variable {ρ:Type} {P:Program} {E:ao} {F:Fr} {G:Nat→Gh} {s:St} {a:Act} {w w2:World} {Q:Exit→Act→World→Prop}
theorem acv {b o n:Nat} {cs:List Value} (h:At w b o n cs) {j:Nat} {u:Value} (c:cs[j]?=some u):w.cell? ⟨b,o+j,none⟩=some u:=by
 obtain ⟨row,e,fz,d,g,rfl⟩:=h;have f:j<n:=by
  grind
 rw [List.getElem?_take_of_lt f,List.getElem?_drop] at c;simp only [World.cell?,d];simpa using c
theorem VG {b:Nat} {row:Array Value} {e:TypeId} {fz:Nat×Nat} (h:w.heap[b]?=some (.cells row e fz)) {j:Nat} {u:Value} (c:row.toList[j]?=some u):w.cell? ⟨b,j,none⟩=some u:=by
 simp only [World.cell?,h];simpa using c
theorem Tp {α:Type} {n:Nat} (f:α→List Value):∀(xs:List α),(∀x∈xs,(f x).length=n)→∀(j:Nat) (u:Value),((xs.map f).flatten)[j]?=some u→∃i k x,j=i*n+k∧k<n∧xs[i]?=some x∧(f x)[k]?=some u
 |[],_,j,u,h=>by simp at h
 |x::xs,c,j,u,h=>by
  have l:=c x (by simp);simp only [dh,k8] at h;by_cases d:j<n;rw [List.getElem?_append_left (by omega)] at h;exact ⟨0,j,x,by omega,d,rfl,h⟩;rw [List.getElem?_append_right (by omega),l] at h;obtain ⟨i,k,y,e,hk,b,g⟩:=Tp f xs (fun y b=>c y (by simp [b])) (j-n) u h;exact ⟨i+1,k,y,by grind,hk,by simpa using b,g⟩
theorem alm {R:Nat→Prop} {t O:TypeId} {T:Ty} (q:T.aQ=true) {tx:TypeId} (hk:P.underlying tx=some (.slice O)) {d:List T.ai} {Y:Value} (h:Rd w R (.slice T) d [Y]):
 Src P T.size tx Y d.length (d.map (bE T)).flatten w∧∀y∈d,dm T y:=by
 obtain ⟨g,cap,v,⟨Z,aa⟩,h4⟩:=h;have v:Y=.slice g d.length cap:=(hq v).1;subst v;by_cases J:d=[];subst J;refine ⟨?_,fun y D=>by cases D⟩;cases g with
 |none=>exact Src.ofNil w hk cap
 |some g=>exact Src.ofSlice w hk g 0 cap [] (by simp) (fun j u e=>by simp at e) (fun u e=>by cases e)
 obtain ⟨b,o,rfl,_,I⟩:=h4 J;have z:∀y∈d,dm T y:=by
  intro y D;obtain ⟨i,hi,rfl⟩:=pR.1 D;obtain ⟨c,_,C⟩:=I i d[i] (aT hi);exact (Rd.aQ q C).1
 refine ⟨Src.ofSlice w hk ⟨b,o,none⟩ d.length cap _ ?_ (fun j u e=>?_) (fun u e=>?_),z⟩;have key:∀l:List T.ai,(∀x∈l,dm T x)→((l.map (bE T)).flatten).length=l.length*T.size:=by
  intro l
  induction l with
  |nil=>intro _;simp
  |cons a l X=>
   intro r;simp only [dh,k8,cw,hH];rw [hy T a q (r a (by simp)),X (fun x f=>r x (by simp [f])),fP];omega
 exact key d z;obtain ⟨i,k,x,rfl,ab,f,K⟩:=Tp (n:=T.size) (bE T) d (fun x f=>hy T x q (z x f)) j u e;obtain ⟨c,U,C⟩:=I i x f;obtain ⟨_,W⟩:=Rd.aQ q C;rw [←W] at K;have:=acv U K;rw [nv,←Nat.add_assoc];exact this;obtain ⟨l,r,e⟩:=List.mem_flatten.1 e;obtain ⟨x,_,rfl⟩:=b9.1 r;exact j4 T x u e
theorem aln {tx:TypeId} (hk:P.underlying tx=some .string) (l:List UInt8):Src P 1 tx (.string ⟨l.toArray⟩) l.length (l.map fun c=>Value.int .u8 (c.toNat:Int)) w:=by
 have:=Src.ofString (P:=P) w hk ⟨l.toArray⟩;have b:(ByteArray.mk l.toArray).size=l.length:=by simp [ByteArray.size]
 rw [b] at this;simpa [byteCells] using this
theorem UM:∀(l:List UInt8),∃ls:List FT,FT.bq ls=[]∧∀w,cV w (.int .u8) (List.map (fun c:UInt8=>(c.toNat:Int)) l) ls (l.map fun c=>Value.int .u8 (c.toNat:Int))
 |[]=>⟨[],rfl,fun _=>rfl⟩
 |c::l=>by
  obtain ⟨ls,b,d⟩:=UM l;exact ⟨.leaf::ls,by simp [FT.bq,FT.ae,b],fun w=>⟨[_],_,rfl,⟨rfl,trivial,rfl,rfl⟩,d w⟩⟩
theorem alI (l:List UInt8):List.length (α:=(Ty.int .u8).ai) (List.map (fun c:UInt8=>(c.toNat:Int)) l)=l.length:=c2 _
theorem DR {t:Ty} {v:TV} {k:St→TV→(TV→TV)→Option ρ} {r:ρ} (h:ct s (.slice t) v k=some r):v.agg=false∧v≠ .un∧∀b,v≠ .tup b:=by
 cases v with
 |ad u x=>
  simp only [ct] at h;split at h;rename_i e;have e:=eU e;subst e;exact ⟨rfl,by simp,by simp⟩;cases h
 |nil=>exact ⟨rfl,by simp,by simp⟩
 |sl b p=>exact ⟨rfl,by simp,by simp⟩
 |slw b p lo n=>exact ⟨rfl,by simp,by simp⟩
 |_=>simp [ct] at h
theorem VR.FI {A:bY} {R:Nat→Prop} {v:TV} {x:Value} (h:VR A w R v x) (c:v.agg=false∧v≠ .un∧∀b,v≠ .tup b):bH A w R v [x]:=h.b3 c.2.1 c.2.2 c.1
structure YU (F:Fr) (P:Program) (G:Nat→Gh) (s:St) (a:Act) (w:World) (tx:TypeId) (Y:Value) (κ:TV→TV) (t:Ty) (f:List t.ai) (ls:List FT) (ds:List Value) (c:Nat→Gh) (e:St):Prop where
 rel:aA F c e a w
 ab:cV w t f ls ds
 alk:Src P t.size tx Y f.length ds w
 b7:(FT.bq ls).Nodup
 out:∀b∈FT.bq ls,∀j y,e.box j=some y→b∉(c j).ae
 bK:∀b∈FT.bq ls,¬F.R b∧b<w.heap.size∧(b∈F.M∨F.w0.heap.size≤b)
 vr:∀d y,VR (ax s.box G) w F.R d y→VR (ax e.box c) w F.R (κ d) y
theorem afP (h:aA F G s a w) {t O:Ty} {tx:TypeId} (ab:bF P O tx) {v:TV} {Y:Value} (I:VR (ax s.box G) w F.R v Y) {k:St→List t.ai→(TV→TV)→Option ρ} {r:ρ} (hk:nU s t O v k=some r):
 ∃af ad g ls ds κ,k ad g κ=some r∧YU F P G s a w tx Y κ t g ls ds af ad:=by
 unfold nU at hk;split at hk;split at hk;rename_i x;split at hk;rename_i xs an;obtain ⟨e,rfl⟩:=e4 an;simp only [Ty.slice.injEq] at e;subst e;obtain ⟨n,a5⟩:=VR.bP I;subst n;obtain ⟨ls,o,J⟩:=UM x;have ar:=aln (P:=P) (w:=w) ab.bP x;refine ⟨G,s,_,ls,_,id,hk,h,J w,?_,by simp_all,fun b d=>(by rw [o] at d;cases d),fun b d=>(by rw [o] at d;cases d),fun _ _ C=>C⟩;have:=alI x
 erw [this]
 exact ar;cases hk;cases hk;rename_i u;obtain ⟨ay,D,_⟩:=ab.slice;split at hk;rename_i aa;obtain ⟨g,hk,aq⟩:=MC h I hk;obtain ⟨K,ac⟩:=alm (P:=P) (t:=tx) aa D aq;obtain ⟨ls,o,J⟩:=cV.aQ aa g ac;exact ⟨G,s,g,ls,_,id,hk,h,J w,K,by simp_all,fun b d=>(by rw [o] at d;cases d),fun b d=>(by rw [o] at d;cases d),fun _ _ C=>C⟩
 ·have aw:=I.FI (DR hk);obtain ⟨G1,s1,c,f,κ,q,l⟩:=oY (.slice t) _ G s [Y] _ r h aw hk;split at q;rotate_left;cases q;rename_i g au;obtain ⟨az,X,Z⟩:=mf (.slice t) c f [Y] g l.fv au;have ah:=Z;obtain ⟨U,cap,y,rfl,n,al,a4,am,h4⟩:=Z;have n:Y=.slice (U.map (⟨·,0,none⟩)) (List.length (α:=t.ai) g) cap:=(hq n).1;subst n;have sub:∀b∈FT.bq y,b∈f.ae:=fun b d=>by rw [←X];simp [FT.ae,d]
  have ap:(FT.bq y).Nodup:=by
   have:=l.eH.b7;rw [←X] at this;simp only [FT.ae,cn] at this;exact this.2.1
  cases U with
  |none=>
   subst h4;have ak:List.length (α:=t.ai) g=0:=Nat.le_zero.1 al;have av:g=([]:List t.ai):=hI.1 ak;subst av;have ao:y=[]:=hI.1 am;subst ao;exact ⟨G1,s1,_,[],[],κ,q,l.rel,rfl,Src.ofNil w D 0,h3,fun b d=>(by cases d),fun b d=>(by cases d),l.vr⟩
  |some ag=>
   obtain ⟨row,e,W,bo,aj,a0,a1,z,a2,a3,_⟩:=bb.toL ah;obtain ⟨K,ac⟩:=z.len;refine ⟨G1,s1,g,y,W,κ,q,l.rel,z,?_,ap,fun b d=>l.eH.out b (sub b d),fun b d=>l.eH.bK b (sub b d),l.vr⟩;exact Src.ofSlice w D ⟨ag,0,none⟩ _ cap W K (fun j u a6=>by
    rw [nv,eL];refine VG aj ?_
    grind) z.eA
 cases hk
end
section
variable {ρ:Type} {P:Program} {E:ao} {F:Fr} {G:Nat→Gh} {s:St} {a:Act} {w w2:World} {Q:Exit→Act→World→Prop}
theorem aek {b o n:Nat} {row:Array Value} {e:TypeId} (h:w.heap[b]?=some (.cells row e (0,0))) (d:o+n≤row.size):
 (∀j,j<n→(w.cell? ⟨b,o+j,none⟩).isSome=true)∧(∀j,j<n→w.frozen? ⟨b,o+j,none⟩=false):=by
 refine ⟨fun j c=>?_,fun j c=>?_⟩;simp only [World.cell?,h];simp;omega;simp [World.frozen?,h]
theorem YG (z:Array Value) (n:Nat):(Builtin.zeroCells z n).size=n*z.size:=by simp [Builtin.zeroCells]
theorem aey (h:aA F G s a w) (f:dl P E F) {d:Nat} {t:Ty} {e0:TypeId} (q:t.cF) {xs:List t.ai} {c:List FT} {cs zs:List Value} {gc:Nat} {k:St→Option ρ} {r:ρ} {o:Nat} (hk:lH s o d t xs k=some r) (n:d<E.nt)
 (g:cV w t xs c cs) (x:(FT.bq c).Nodup) (z:∀b∈FT.bq c,∀j y,s.box j=some y→b∉(G j).ae)
 (e:∀b∈FT.bq c,¬F.R b∧b<w.heap.size∧(b∈F.M∨F.w0.heap.size≤b)) {row:Array Value} (C:row.toList=cs++zs) (D:gc*t.size=row.size) (u:xs.length≤gc) (v:xs.length≤eZ):
 ch F k r (a.put (some d) (.slice (some ⟨w.heap.size,0,none⟩) xs.length gc)) (w.alloc (.cells row e0)):=
 yp (h.alloc _) f hk n q (cV.ab (cV.bQ (fun b l=>qA w _ b (e b l).2.1) g) (me w _) C D u v) (ic.row gc h x z e)
theorem acs (h:aA F G s a w) (Y:dl P E F) {o:Oper} {c:Call} (aJ:o.op=.call c) (g:c.callee=.builtin .append) (bi:∀d,o.dst=some d→d<E.nt) {k:St→Option ρ} {r:ρ} (hk:a2 E o s k=some r):
 o.wp P a w (ch F k r) Q:=by
 unfold a2 at hk;rw [aJ] at hk;simp only [g] at hk;unfold kj at hk;split at hk;contradiction;rotate_left;contradiction;contradiction;cases hk;rename_i t tx bJ bL _ ca J;split at hk;rotate_left;cases hk;rename_i T bP d aX aY aE;have bz:=Y.ty t _ aX;have b0:=Y.ty tx _ aY;have au:=bi d aE;obtain ⟨x,y,bc,b5,b9⟩:∃x y,c.args= #[x,y]∧s.ev x=bJ∧s.ev y=bL:=by
  match bZ:c.args.toList,J with
  |[x,y],J=>
   grind
  |[],J=>simp at J
  |[_],J=>simp at J
  |_::_::_::_,J=>simp at J
 have b1:c.argTypes= #[t,tx]:=by grind
 have al:=cA h x;have O:=cA h y;rw [b5] at al;rw [b9] at O;unfold qB at hk;split at hk;cases hk;rename_i a0;have a0:T.fY=true:=by simpa using a0
 obtain ⟨G1,s1,l,ls,ds,κ,aH,C⟩:=afP (P:=P) h b0 O hk;have b3:=C.vr _ _ al;have bN:=b3.FI (DR aH);obtain ⟨ad,s2,aC,f,ci,I,q⟩:=oY (.slice T) _ G1 s1 [a.eval x] _ r C.rel bN aH;split at I;rotate_left;cases I;rename_i aM am
 suffices key:∀(xs:List T.ai),aC.dy (.slice T)=some xs→Nat.ble (xs.length+l.length) bu=true→lH s2 E.fL d T (xs++l) k=some r→o.wp P a w (ch F k r) Q by
  split at I;rename_i Z;exact key aM am Z I;cases I
 clear I am aM;intro xs b4 Z I;have Z:xs.length+l.length≤bu:=pV Z;obtain ⟨bS,ao,aD⟩:=mf (.slice T) aC f [a.eval x] xs q.fv b4;obtain ⟨e0,ak,aK⟩:=bz.slice;obtain ⟨i,hi,aa,bf,bA⟩:=aK.hb;obtain ⟨z,bO,cg,z3⟩:=bA a0;have bB:z.cells.size=T.size:=by
  have:=mX T
  grind
 have av:=bF.cF T e0 aK;have U:=C.alk;rw [←aa] at U;have bE:∀b∈FT.bq ls,∀j y,s2.box j=some y→b∉(ad j).ae:=by
  intro b g j y O br;obtain ⟨a6,x',a5,az⟩:=q.fj.sub j y O b br;exact C.out b g a6 x' a5 az
 have bD:∀b∈f.ae,b∉FT.bq ls:=by
  intro b g bd;obtain ⟨a6,x',a5,az⟩:=q.jU b g;exact C.out b bd a6 x' a5 az
 have bt:∀(X:Value),a.eval x=X→∀v w',(Builtin.append_ #[t,tx] o.type #[X,a.eval y]).run P w=.ok v w'→ch F k r (a.put (some d) v) w'→o.wp P a w (ch F k r) Q:=by
  intro X K v w' aj a1;refine c7 (v:=v) (w':=w') ?_ (by rw [aE];exact a1);rw [uG aJ g,b1,bc];simp only [List.map_toArray,dh,gC,K,builtin,Sem.run_bind,aj,Result.andThen_ok,Sem.run_pure]
 obtain ⟨aB,cap,D,rfl,K,aS,bW,aT,h4⟩:=id aD;have K:a.eval x=.slice (aB.map (⟨·,0,none⟩)) (xs.length) cap:=(hq K).1;have a7:∀b∈FT.bq D,b∈f.ae:=fun b g=>by rw [←ao];simp [FT.ae,g]
 have aw:=q.eH.b7;rw [←ao] at aw;simp only [FT.ae,cn] at aw;obtain ⟨_,bC,cb⟩:=aw;have ba:(FT.bq (D++ls)).Nodup∧(∀b∈FT.bq (D++ls),∀j y,s2.box j=some y→b∉(ad j).ae)∧(∀b∈FT.bq (D++ls),¬F.R b∧b<w.heap.size∧(b∈F.M∨F.w0.heap.size≤b)):=by
  rw [JK];refine ⟨?_,fun b g=>?_,fun b g=>?_⟩;rw [cn];exact ⟨bC,C.b7,fun b g c ar e=>bD b (a7 b g) (e▸ar)⟩;rcases aZ.1 g with g|g
  exact q.eH.out b (a7 b g);exact bE b g;rcases aZ.1 g with g|g
  exact q.eH.bK b (a7 b g);exact C.bK b g
 obtain ⟨aN,a9,a3⟩:=ba;have ag:(xs++l:List T.ai).length=xs.length+l.length:=cw;have aI:(xs++l:List T.ai).length≤eZ:=by rw [ag];exact DY Z
 have grow:∀(W:List Value) (bg:Option Addr),a.eval x=.slice bg (xs.length) cap→(Builtin.firstCells i.size (xs.length) (.slice bg (xs.length) cap)).run P w.drew=.ok W.toArray w.drew→
  cV w T xs D W→cap<xs.length+l.length→o.wp P a w (ch F k r) Q:=by
  intro W bg bX bs aV aF;have bk:Builtin.nextslicecap (xs.length+l.length) cap*i.bytes≤281474976710656:=by
   have ac:=nextslicecap_le aF;have a8:Builtin.nextslicecap (xs.length+l.length) cap≤8589934592:=Nat.le_trans ac (by have:bu=4294967296:=rfl;omega);have ce:Builtin.nextslicecap (xs.length+l.length) cap*i.bytes≤8589934592*4096:=Nat.mul_le_mul a8 bf;omega
  have aU:((xs.length+l.length:Nat):Int)≤9223372036854775807:=by
   have:bu=4294967296:=rfl;omega
  have aj:=run_append_grow_src (P:=P) w t tx o.type e0 i z ak hi bO bg (xs.length) cap W bs (a.eval y) l.length ds U aF aU bk;have bl:=grownCap_ge w (xs.length+l.length) cap e0;have an:aA F ad s2 a w.drew:=q.rel.shift ⟨cf _,rfl,rfl⟩ (fun _ _=>rfl) (fun _ _ _ _ _=>rfl) (fun _ _ _=>rfl);have af:cV w.drew T (xs++l) (D++ls) (W++ds):=cV.bQ (w:=w) (fun _ _=>rfl) (cV.append aV C.ab);have aW:=af.len.1;have a1:=aey (e0:=e0) (zs:=(Builtin.zeroCells z.cells (grownCap w (xs.length+l.length) cap e0-(xs.length+l.length))).toList)
   (row:=(W++ds).toArray++Builtin.zeroCells z.cells (grownCap w (xs.length+l.length) cap e0-(xs.length+l.length))) (gc:=grownCap w (xs.length+l.length) cap e0)
   an Y av I au af aN a9 a3 (by simp) (by
    rw [Array.size_append,YG,pU,aW,ag,bB,←Nat.add_mul];congr 1;omega) (by rw [ag];exact bl) aI
  simp_all
 cases aB with
 |none=>
  subst h4;have aR:xs.length=0:=Nat.le_zero.1 aS;have am:xs=([]:List T.ai):=hI.1 aR;subst am;have bn:D=[]:=hI.1 aT;subst bn;by_cases b6:l.length=0;have b8:l=[]:=hI.1 b6;subst b8;have bp:ls=[]:=hI.1 C.ab.len.2;subst bp;refine bt (.slice none 0 0) K (.slice none 0 0) w ?_ ?_;have ac:=U.len;have a8:=U.cells;rcases U.kind with ⟨bR,aG⟩|aG<;>(simp [Builtin.append_,run_underlying ak,run_underlying aG,sizeOf,typeInfo,hi,ac];simp_all)
  exact yp (xs:=([]:List T.ai)) q.rel Y I au av (f:=.node none 0 []) ⟨none,0,[],rfl,rfl,cf _,bM _,rfl,rfl⟩ ⟨h3,fun b g=>(by cases g),fun b g=>(by cases g)⟩;exact grow [] none K (run_firstCells_none w.drew i.size 0 0 0) rfl (by omega)
 |some n=>
  obtain ⟨row,e,cs,bo,ap,aQ,bT,aq,bU,bV,_⟩:=bb.toL aD;obtain ⟨ac,a8⟩:=aq.len;by_cases a4:xs.length+l.length≤cap;have ax:n∈f.ae:=by rw [←ao];simp [FT.ae]
  obtain ⟨bG,cc,cd⟩:=q.eH.bK n ax;have bj:=C.ab.len.1;have bx:0+xs.length*T.size+ds.length≤row.size:=by
   rw [←aQ,bj,eL,←Nat.add_mul];exact ke _ a4
  obtain ⟨aO,aP⟩:=aek ap bx;have aj:=run_append_room_src (P:=P) w t tx o.type e0 i ak hi n 0 xs.length cap (a.eval y) l.length ds U a4 (fun j ay=>by rw [aa];exact aO j ay) (fun j ay=>by rw [aa];exact aP j ay);rw [aa,eL] at aj;have ah:∀c,c≠n→(w.setCells n (xs.length*T.size) ds).heap[c]?=w.heap[c]?:=fun c ar=>Mq n ds _ w c ar
  obtain ⟨aL,bH,bI⟩:=Ms n ds (xs.length*T.size) w row e (0,0) ap (by omega);have bm:∀b∈FT.bq (D++ls),b≠n:=by
   intro b g e;subst e;rw [JK] at g
   grind
  have b2:=Mt n ds (xs.length*T.size) w;have an:aA F ad s2 a (w.setCells n (xs.length*T.size) ds):=q.rel.shift ⟨Nat.le_of_eq b2.symm,Mp _ _ _ _,Mr _ _ _ _⟩ (fun b g=>ah b (fun e=>bG (e▸g)))
   (fun i x al b g=>ah b (fun e=>q.eH.out n ax i x al (e▸g))) (fun b g bY=>ah b (fun e=>by
    grind))
  have af:cV (w.setCells n (xs.length*T.size) ds) T (xs++l) (D++ls) (cs++ds):=cV.bQ (w:=w) (fun b g=>ah b (bm b g)) (cV.append aq C.ab);have bw:aL.toList=(cs++ds)++row.toList.drop (xs.length*T.size+ds.length):=by
   simp_all
  have bh:cap*T.size=aL.size:=by
   have:=dx List.length bI
   grind
  have bv:=cV.ab (b:=n) af bH bw bh (by rw [ag];exact a4) aI;have a1:=yp an Y I au av bv (by
   have be:∀b∈(Gh.mk none (.node (some n) cap (D++ls))).ae,b=n∨b∈FT.bq (D++ls):=by
    intro b g;simpa [Gh.ae,FT.ae] using g
   refine ⟨?_,fun b g j y O=>?_,fun b g=>?_⟩;simp only [Gh.ae,FT.ae,zh,dJ,fW,g5,jJ]
   grind
   rcases be b g with rfl|g
   exact q.eH.out b ax j y O;exact a9 b g j y O
   grind)
  simp_all;refine grow cs (some ⟨n,0,none⟩) K ?_ aq (by omega);have:=run_firstCells_some (P:=P) w.drew i.size (xs.length) ⟨n,0,none⟩ (xs.length) cap cs (by rw [aa];exact ac) (fun j u ak=>by
   rw [nv,eL];refine VG (w:=w.drew) (b:=n) (row:=row) (e:=e) (fz:=(0,0)) ap ?_
   grind)
  exact this
end
def A0:bY:=fun _ _=>none
def zk (w:World) (R:Nat→Prop):PM→D→Value→Prop
 | .ro t,d,v=>d.t=t∧VR A0 w R (.ad d.t d.x) v
 | .bw t,d,v=>d.t=t∧VR A0 w R (.bw d.t d.x) v
 |_,_,_=>False
def vc (w:World) (R:Nat→Prop):List PM→List D→List Value→Prop
 |[],[],[]=>True
 |m::b,d::ds,v::vs=>zk w R m d v∧vc w R b ds vs
 |_,_,_=>False
def s6 (w:World) (t:Ty) (x:t.ai) (g:Gh) (v:Value):Prop:=
 ∃b row e,g.bg=some b∧v=.pointer (some ⟨b,0,none⟩)∧w.heap[b]?=some (.cells row e (0,0))∧row.size=t.size∧bb w t x g.ft row.toList
def zj (w:World) (R:Nat→Prop):PM→List D→Value→Gh→Prop
 | .ptr t,[d],v,g=>d.t=t∧s6 w d.t d.x g v
 | .mut t,[d],v,g=>d.t=t∧(∃u,t=.slice u)∧g.bg=none∧bb w d.t d.x g.ft [v]
 | .ab t,[d],v,g=>d.t=t∧(∃u,t=.slice u)∧g.bg=none∧bb w d.t d.x g.ft [v]
 | .bV f b,ds,v,g=>g.ae=[]∧∃vs,v=.func (.func f) #[] (List.toArray vs)∧vc w R b ds vs
 |m,[d],v,g=>g.ae=[]∧zk w R m d v
 |_,_,_,_=>False
def l1 (w:World) (R:Nat→Prop):List PM→List D→List Value→List Gh→Prop
 |[],[],[],[]=>True
 |m::e,ds,v::vs,g::d=>∃b c,ds=b++c∧zj w R m b v g∧l1 w R e c vs d
 |_,_,_,_=>False
def bT (b:List Gh):List Nat:=(b.map Gh.ae).flatten
def Pd (w:World) (d:D) (v:Value) (ft:FT):Prop:=∃cs,bb w d.t d.x ft cs∧(if d.t.agg then v=.agg cs.toArray else cs=[v])
def tp (w:World):List D→List Value→List FT→Prop
 |[],[],[]=>True
 |d::ds,v::vs,f::b=>Pd w d v f∧tp w ds vs b
 |_,_,_=>False
def I5 (w:World) (c:List D) (v:Value) (b:List FT):Prop:=
 match c with
 |[]=>v=.tuple #[]∧b=[]
 |[d]=>∃f,b=[f]∧Pd w d v f
 |c=>∃vs,v=.tuple (List.toArray vs)∧tp w c vs b
def ll (w:World):List PM→List D→List Value→List Gh→List Gh→Prop
 |[],[],[],[],[]=>True
 |m::e,ds,v::vs,g::b,g'::c=>match m,ds with
  | .ptr t,d::ds=>(d.t=t∧g'.bg=g.bg∧s6 w d.t d.x g' v)∧ll w e ds vs b c
  | .mut t,d::ds=>(d.t=t∧g'.bg=none∧bb w d.t d.x g'.ft [v])∧ll w e ds vs b c
  | .ptr _,[]=>False
  | .mut _,[]=>False
  |_,ds=>g'.ae=[]∧ll w e ds vs b c
 |_,_,_,_,_=>False
structure xo (w:World) (R:Nat→Prop) (c:aB) (ds:List D) (vs:List Value) (d:List Gh):Prop where
 args:l1 w R c.params ds vs d
 b7:(bT d).Nodup
 bK:∀b∈bT d,¬R b∧b<w.heap.size
 R:∀b,R b→b<w.heap.size
structure vd (w:World) (c:aB) (vs:List Value) (e:List Gh) (g h:List D) (v:Value) (w':World) (d:List FT) (f:List Gh):Prop where
 dg:I5 w' g v d
 types:g.map D.t=c.results
 afW:ll w' c.params h vs e f
 b7:(FT.bq d++bT f).Nodup
 bK:∀b∈FT.bq d++bT f,b<w'.heap.size∧(b∈bT e∨w.heap.size≤b)
 gq:gj w w'
 bQ:∀b,b<w.heap.size→b∉bT e→w'.heap[b]?=w.heap[b]?
theorem vd.size {w:World} {c:aB} {vs:List Value} {d:List Gh} {g f:List D} {v:Value} {w':World} {b:List FT} {e:List Gh} (h:vd w c vs d g f v w' b e):w.heap.size≤w'.heap.size:=h.gq.size
def tq (P:Program) (f:Nat) (vs:Array Value) (w:World) (Q:Ending→World→Prop):Prop:=
 ((∀args w,(callFunc f args).run P w=.ok (.enter f args) w)∧Calls P f vs w Q)∨(∃v w',(callFunc f vs).run P w=.ok (.value v) w'∧Q (.returned v) w')
theorem tq.mono {P:Program} {f:Nat} {vs:Array Value} {w:World} {Q d:Ending→World→Prop} (h:tq P f vs w Q) (g:∀e w',Q e w'→d e w'):tq P f vs w d:=by
 rcases h with ⟨b,c⟩|⟨v,w',b,c⟩
 exact .inl ⟨b,c.mono g⟩;exact .inr ⟨v,w',b,g _ _ c⟩
structure aN (P:Program) (f:Nat) (c:aB):Prop where
 K2:c.bz
 cF:∀t∈c.results,t.cF
 SU:∀(w:World) (R:Nat→Prop) (ds:List D) (vs:List Value) (b:List Gh) (h d:List D),xo w R c ds vs b→c.g ds=some (h,d)→
  tq P f vs.toArray w fun e w'=>match e with
   | .returned v=>∃j l,vd w c vs b h d v w' j l
   |_=>False
def du (A:bY) (w:World) (R:Nat→Prop):List TV→List Value→Prop
 |[],[]=>True
 |v::vs,x::xs=>VR A w R v x∧du A w R vs xs
 |_,_=>False
def eG (P:Program) (f:Nat) (I:dK):Prop:=∀(ρ:Type) (F:Fr) (G:Nat→Gh) (s:St) (a:Act) (w:World) (vs:List TV) (xs:List Value) (k:St→TV→Option ρ) (r:ρ),
 aA F G s a w→du (ax s.box G) w F.R vs xs→I.run s vs k=some r→tq P f xs.toArray w fun e w'=>match e with
  | .returned v=>∃c b tv,aA F c b a w'∧VR (ax b.box c) w' F.R tv v∧k b tv=some r
  |_=>False
structure fs (P:Program) (E:ao):Prop where
 fn:∀f ids c,E.fn f ids=some c→aN P f c
 inl:∀f ids I,E.inl f ids=some I→eG P f I
 im:∀f ids I,E.inl f ids=some I→I.im=true→I.r1
section
variable {ρ:Type} {P:Program} {E:ao} {F:Fr} {G:Nat→Gh} {s s2:St} {a:Act} {w w2:World} {Q:Exit→Act→World→Prop} {A A':bY} {R:Nat→Prop} {p:Nat→Bool}
theorem anx (p:Nat→Bool) (v:TV):(v.bU p).agg=v.agg:=by
 cases v<;>simp only [TV.bU]<;>(try split)<;>rfl
theorem bH.bU (l:∀c q,p c=true→A' c q=A c q):∀(v:TV) (cs:List Value),bH A w R v cs→bH A' w R (v.bU p) cs
 | .ad _ _,_,h=>h
 | .nil,_,h=>h
 | .unit,_,h=>h
 | .un,_,h=>h
 | .tup _,_,h=>h.elim
 | .ab _ _,_,h=>h.elim
 | .cons a r,cs,h=>by
  obtain ⟨x,y,rfl,b,j⟩:=h;exact ⟨x,y,rfl,bH.bU l a x b,bH.bU l r y j⟩
 | .ref c q,cs,h=>by
  simp only [TV.bU];split;rename_i o;obtain ⟨t,ft,u,off,b,rfl⟩:=h;exact ⟨t,ft,u,off,by simp_all,rfl⟩;obtain ⟨t,ft,u,off,b,rfl⟩:=h;exact ⟨_,rfl⟩
 | .sl c q,cs,h=>by
  simp only [TV.bU];split;rename_i o;obtain ⟨t,e,cap,g,d,b,rfl⟩:=h;exact ⟨t,e,cap,g,d,by simp_all,rfl⟩;obtain ⟨t,e,cap,g,d,b,rfl⟩:=h;exact ⟨_,rfl⟩
 | .slw c q lo n,cs,h=>by
  simp only [TV.bU];split;rename_i o;obtain ⟨t,e,cap,g,d,b,j⟩:=h;exact ⟨t,e,cap,g,d,by simp_all,j⟩;obtain ⟨t,e,cap,g,d,b,_,a',c',rfl,_⟩:=h;exact ⟨_,rfl⟩
 | .bw _ _,_,h=>h
 | .bV f z,cs,h=>by
  obtain ⟨vs,b,rfl⟩:=h;exact ⟨vs,bH.bU l z vs b,rfl⟩
 | .mp c,cs,h=>by
  simp only [TV.bU];split;rename_i o;obtain ⟨t,e,cap,g,d,b,rfl⟩:=h;exact ⟨t,e,cap,g,d,by simp_all,rfl⟩;obtain ⟨t,e,cap,g,d,b,rfl⟩:=h;exact ⟨_,rfl⟩
theorem eV.bU (e:∀c q,p c=true→A' c q=A c q) {v:TV} {x:Value} (h:eV A w R v x):eV A' w R (v.bU p) x:=by
 rcases h with rfl|⟨cs,b,d⟩
 exact .inl rfl;exact .inr ⟨cs,bH.bU e v cs b,by rw [anx];exact d⟩
theorem fH.bU (b:∀c q,p c=true→A' c q=A c q):∀(v:TV) (xs:List Value),fH A w R v xs→fH A' w R (v.bU p) xs:=by
 intro v
 induction v with
 |cons a r _ d=>
  intro xs h;cases xs with
  |nil=>exact h.elim
  |cons x xs=>exact ⟨eV.bU b h.1,d xs h.2⟩
 |unit=>
  intro xs h;cases xs with
  |nil=>trivial
  |cons _ _=>exact h.elim
 |_=>intro xs h;exact h.elim
theorem VR.bU (b:∀c q,p c=true→A' c q=A c q) {v:TV} {x:Value} (h:VR A w R v x):VR A' w R (v.bU p) x:=by
 by_cases f:∃a,v=.tup a
 obtain ⟨a,rfl⟩:=f;obtain ⟨xs,g,j⟩:=h;exact ⟨xs,fH.bU b a xs g,j⟩;have d:∀a,v≠ .tup a:=fun a e=>f ⟨a,e⟩
 rw [nu d] at h;have l:∀a,v.bU p≠ .tup a:=by
  intro a e;cases v<;>simp only [TV.bU] at e<;>first|exact d _ rfl|(split at e<;>cases e)|cases e
 rw [nu l];exact eV.bU b h
theorem aW.bU (l:∀c q,p c=true→A' c q=A c q):∀(c:TV) (t:Ty) (ft:FT) (cs:List Value),aW A w R c t ft cs→aW A' w R (c.bU p) t ft cs:=by
 have dD:∀(v:TV) (t:Ty) (ft:FT) (cs:List Value),t.size=1→t.agg=false→ft.ae=[]→bH A w R v cs→(v.bU p=.un∨∀(t:Ty) (ft:FT) (cs:List Value),(t.size=1∧t.agg=false∧ft.ae=[]∧bH A' w R (v.bU p) cs)→aW A' w R (v.bU p) t ft cs)→cs.length=1→
  aW A' w R (v.bU p) t ft cs:=by
  intro v t ft cs e g j h4 h5 h6;rcases h5 with h5|h5
  rw [h5];exact ⟨j,e,g,h6⟩;exact h5 t ft cs ⟨e,g,j,bH.bU l v cs h4⟩
 intro c
 induction c with
 |ab u x=>intro t ft cs h;exact h
 |ad u x=>intro t ft cs h;exact h
 |cons a d D I=>
  intro t ft cs h;cases t with
  |cons t r=>
   obtain ⟨z,o,y,rfl,C,e,g⟩:=h;exact ⟨z,o,y,rfl,C,D _ _ _ e,I _ _ _ g⟩
  |_=>exact h.elim
 |unit=>intro t ft cs h;exact h
 |un=>intro t ft cs h;exact h
 |tup c _=>
  intro t ft cs h;cases t<;>try exact h.elim
  rcases gk.out h with ⟨xs,K,rfl,e⟩|⟨xs,rfl,e⟩|⟨xs,rfl,e⟩<;>exact ⟨rfl,e⟩
 |nil=>intro t ft cs h;exact h
 |bw u x=>intro t ft cs h;exact h
 |ref b q=>
  intro t ft cs h;obtain ⟨e,g,j,h4⟩:=h;refine dD _ t ft cs e g j h4 ?_ (by have:=bH.len _ _ h4;exact this);simp only [TV.bU];split;exact .inr fun _ _ _ h=>h
  exact .inl rfl
 |sl b q=>
  intro t ft cs h;obtain ⟨e,g,j,h4⟩:=h;refine dD _ t ft cs e g j h4 ?_ (by have:=bH.len _ _ h4;exact this);simp only [TV.bU];split;exact .inr fun _ _ _ h=>h
  exact .inl rfl
 |slw b q lo n=>
  intro t ft cs h;obtain ⟨e,g,j,h4⟩:=h;refine dD _ t ft cs e g j h4 ?_ (by have:=bH.len _ _ h4;exact this);simp only [TV.bU];split;exact .inr fun _ _ _ h=>h
  exact .inl rfl
 |bV f J _=>
  intro t ft cs h;obtain ⟨e,g,j,h4⟩:=h;exact ⟨e,g,j,bH.bU l _ cs h4⟩
 |mp b=>
  intro t ft cs h;obtain ⟨e,g,j,h4⟩:=h;refine dD _ t ft cs e g j h4 ?_ (by have:=bH.len _ _ h4;exact this);simp only [TV.bU];split;exact .inr fun _ _ _ h=>h
  exact .inl rfl
theorem aA.Tq (h:aA F G s a w) (p:Nat→Bool) (C:∀j,s2.box j=if p j then (s.box j).map (bl.bU p) else none) (I:∀n,s2.get n=(s.get n).bU p∨s2.get n=.un) (K:∀i n,s2.gy i n=(s.gy i n).bU p) (J:s2.sv.length=s.sv.length):aA F G s2 a w:=by
 have g:∀c q,p c=true→ax s2.box G c q=ax s.box G c q:=by
  intro c q D;unfold ax;rw [C,ak D];cases s.box c<;>rfl
 have ck:∀{j y},s2.box j=some y→∃o,s.box j=some o∧y=o.bU p:=by
  simp_all
 refine ⟨fun i x b=>?_,fun i x b=>?_,fun i j x y b d=>?_,fun i x b=>?_,fun i x b=>?_,h.R,fun n=>?_,h.bQ,h.gq,h.defers,h.nt,fun i x b=>?_,fun i n=>(by rw [K];exact VR.bU g (h.sv i n)),J.trans h.j9⟩;obtain ⟨y,d,rfl⟩:=ck b;have f:=h.box i y d;unfold dF at f⊢;by_cases l:y.cm=true;rw [ak l] at f;rw [ak (show (y.bU p).cm=true from l)];obtain ⟨r,u,cs,v⟩:=f;exact ⟨r,u,cs,aW.bU g _ _ _ _ v⟩;rw [aj l] at f;rw [aj (show ¬(y.bU p).cm=true from l)];obtain ⟨z,row,e,r,u,v,h4⟩:=f;exact ⟨z,row,e,r,u,v,aW.bU g _ _ _ _ h4⟩;obtain ⟨y,d,rfl⟩:=ck b;exact h.cF i y d;obtain ⟨x',O,rfl⟩:=ck b;obtain ⟨o,U,rfl⟩:=ck d;exact h.dc i j x' o O U;obtain ⟨y,d,rfl⟩:=ck b;exact h.b7 i y d;obtain ⟨y,d,rfl⟩:=ck b;exact h.bK i y d;rcases I n with e|e
 rw [e];exact VR.bU g (h.tmps n);rw [e];exact .inl rfl;obtain ⟨y,d,rfl⟩:=ck b;exact h.c1 i y d
theorem T4 (f:Nat→TV) (ts:List Nat) (n:Nat):(lk (ts.map fun n=>(n,f n)) n).getD .un=f n∨(lk (ts.map fun n=>(n,f n)) n).getD .un=.un:=by
 induction ts with
 |nil=>exact .inr rfl
 |cons t ts b=>
  simp only [dh,gK]
  grind
theorem afo (f:Nat→Option bl) (bs:List Nat) (n:Nat):lk (bs.filterMap fun n=>(f n).map fun b=>(n,b)) n=if mem bs n then f n else none:=by
 induction bs with
 |nil=>rfl
 |cons b bs c=>
  have g:mem (b::bs) n=if b=n then true else mem bs n:=by
   simp only [mem];simp_all
  rw [g];simp only [List.filterMap_cons];by_cases e:b=n;subst e;cases d:f b with
  |none=>simp [c,d]
  |some x=>simp [gK]
  cases d:f b with
  |none=>simp [e,c]
  |some x=>simp [gK,e,c]
theorem aA.ui (h:aA F G s a w) (ts bs:List Nat):aA F G (s.ui ts bs) a w:=by
 refine h.Tq (mem bs) (fun j=>?_) (fun n=>T4 (fun n=>(s.get n).bU (mem bs)) ts n) (fun i n=>MT (fun v=>v.bU (mem bs)) rfl s.sv i n) (c2 _);have:=afo (fun n=>(s.box n).map (bl.bU (mem bs))) bs j;rw [←this];show lk (bs.filterMap fun n=>(s.box n).map fun b=>(n,b.bU (mem bs))) j=_;congr 1;congr 1;funext n;cases s.box n<;>rfl
theorem EJ {α:Type} (l:List (Nat×α)) (b n:Nat):lk (o6 l b) n=if b=n then none else lk l n:=by
 induction l with
 |nil=>simp [o6,lk]
 |cons x l c=>
  obtain ⟨k,v⟩:=x;simp only [o6];by_cases e:k=b;subst e;rw [lY];simp only [b5,c,gK];simp_all;rw [iQ e];simp only [hl,cL,gK,c]
  grind
theorem aA.drop (h:aA F G s a w) (b:Nat):aA F G (s.drop b) a w:=by
 refine h.Tq (fun c=> !Nat.beq b c) (fun j=>?_) (fun n=>.inl ?_) (fun i n=>MT (TV.drop b) rfl s.sv i n) (c2 _);unfold St.drop St.box;simp only [mC,EJ];by_cases e:b=j;subst e;simp;simp_all;unfold St.drop St.get;simp only [mC];cases lk s.tmps n<;>rfl
end
section
variable {ρ:Type} {P:Program} {E:ao} {F:Fr} {G:Nat→Gh} {s s2:St} {a:Act} {w w2:World}
def OZ (ρ:Type) (P:Program) (E:ao) (F:Fr):Prop:=∀(G:Nat→Gh) (s:St) (a:Act) (w:World) (Q:Exit→Act→World→Prop) (o:Oper) (k:St→Option ρ) (r:ρ),
 aA F G s a w→de E o s k=some r→o.wp P a w (ch F k r) Q
theorem TA (h:aA F G s a w) {d:Nat} {b:Bool} (e:s.get d=.ad .bool b):a.tmps.getD d undef=.bool b:=by
 have:=h.tmps d;rw [e] at this;exact this.bool
theorem agn (O:OZ ρ P E F) (ops:Array Oper) (k:St→Option ρ) (r:ρ) (Q:Exit→Act→World→Prop) (U:∀a w,ch F k r a w→Q .normal a w):
 ∀(l:List Oper) (G:Nat→Gh) (s:St) (a:Act) (w:World),aA F G s a w→kY E ops k l s=some r→wpList P ops Q l a w:=by
 intro l
 induction l with
 |nil=>intro G s a w h hk;exact U a w ⟨G,s,h,hk⟩
 |cons o bo x=>
  intro G s a w h hk;have step:∀{G s a w},aA F G s a w→de E o s (kY E ops k bo)=some r→∀K:Act→World→Prop,(∀a w,wpList P ops Q bo a w→K a w)→o.wp P a w K Q:=by
   intro G s a w h hk K g;exact Oper.wp_mono (fun a w W=>g a w (by obtain ⟨ab,af,ac,ae⟩:=W;grind)) (O G s a w Q o _ r h hk)
  refine wpList_step fun K g=>?_
  simp only [kY] at hk;split at hk;rename_i q;rw [ak (by simp [Region.wanted,q])];exact step h hk K g;rename_i j want q;split at hk;cases hk;rename_i d f;split at hk;rename_i b y;have D:=TA h y;have u:yielded ops a.tmps j=some (show Bool from b):=by
   have Z:a.tmps[d]?=some (.bool b):=by
    rw [iB] at D;cases Y:a.tmps[d]? with
    |none=>rw [Y] at D;cases D
    |some v=>simp_all
   cases C:ops[j]? with
   |none=>rw [C] at f;cases f
   |some aa=>
    rw [C] at f;have f:aa.dst=some d:=f;simp only [yielded,C,f,Z,Option.bind_some]
  have X:∀c,s.get d=.ad .bool c→aA F G (s.put d (.ad .bool c)) a w:=fun c z=>h.Fy (by have:=h.tmps d;rwa [z] at this)
  have skip:∀c,s.get d=.ad .bool c→kY E ops k bo (match o.dst with|some e=>(s.put d (.ad .bool c)).put e (.tup .unit)|none=>s.put d (.ad .bool c))=some r→K (a.put o.dst undef) w:=by
   intro c z hk;have J:=X c z;refine g _ _ ?_;cases n:o.dst with
   |none=>rw [n] at hk;exact x G _ _ _ J hk
   |some e=>rw [n] at hk;exact x G _ _ _ (J.LX e) hk
  split at hk;have I:Region.wanted o (yielded ops a.tmps)=want:=by
   simp only [Region.wanted,q,u];cases want<;>rfl
  grind
  have I:Region.wanted o (yielded ops a.tmps)= !want:=by
   simp only [Region.wanted,q,u];cases want<;>rfl
  grind
  rename_i y;have u:=TB h f y;have I:Region.wanted o (yielded ops a.tmps)=false:=by
   simp only [Region.wanted,q,u];cases want<;>rfl
  rw [I,aj (by simp)];refine g _ _ ?_;cases n:o.dst with
  |none=>rw [n] at hk;exact x G _ _ _ h hk
  |some e=>rw [n] at hk;exact x G _ _ _ (h.LX e) hk
  cases hk
def xn (F:Fr) (k:Ex→St→Option ρ) (r:ρ):Exit→Act→World→Prop
 | .normal,a,w=>ch F (k .normal) r a w
 | .exit id,a,w=>ch F (k (.exit id)) r a w
 | .ret,a,w=>ch F (k .ret) r a w
 |_,_,_=>False
def Pc (ρ:Type) (P:Program) (E:ao) (F:Fr):Prop:=∀(G:Nat→Gh) (s:St) (a:Act) (w:World) (id:Nat) (ops:Array Oper) (b:Bool) (k:Ex→St→Option ρ) (r:ρ),
 aA F G s a w→hx E 0 (.region id ops b) k s=some r→(Code.region id ops b).wp P (xn F k r) a w
end
section
variable {ρ:Type} {P:Program} {E:ao} {F:Fr} {G:Nat→Gh} {s s2:St} {a:Act} {w w2:World} {Q:Exit→Act→World→Prop}
structure vi (F:Fr) (G:Nat→Gh) (s:St) (a:Act) (w:World) (e:List Nat) (c:Nat→Gh) (d:St):Prop where
 rel:aA F c d a w
 le:ia (ax s.box G) (ax d.box c)
 sub:∀j y,d.box j=some y→∀b∈(c j).ae,(∃i x,s.box i=some x∧b∈(G i).ae)∨b∈e
theorem vi.refl (h:aA F G s a w) (c:List Nat):vi F G s a w c G s:=⟨h,fun _ _ _ ft _ e=>⟨ft,e,rfl⟩,fun j y f b d=>.inl ⟨j,y,f,d⟩⟩
theorem ia.trans {A B C:bY} (h:ia A B) (g:ia B C):ia A C:=fun b p t ft c e=>by
 obtain ⟨f,d,n⟩:=h b p t ft c e;obtain ⟨l,j,o⟩:=g b p t f c d;simp_all
theorem alT:∀(t:Ty) (x:t.ai) (G:Nat→Gh) (s:St) (id:Nat) (ft:FT) (cs:List Value) (k:St→Nat→TV→Option ρ) (r:ρ),aA F G s a w→t.cF→bb w t x ft cs→
 ft.ae.Nodup→(∀b∈ft.ae,∀j y,s.box j=some y→b∉(G j).ae)→(∀b∈ft.ae,¬F.R b∧b<w.heap.size∧(b∈F.M∨F.w0.heap.size≤b))→gg s id t x k=some r→
 ∃q f Y v,k f Y v=some r∧vi F G s a w ft.ae q f∧bH (ax f.box q) w F.R v cs∧v.agg=t.agg:=by
 have aQ:∀(t:Ty) (x:t.ai) (G:Nat→Gh) (s:St) (id:Nat) (ft:FT) (cs:List Value) (k:St→Nat→TV→Option ρ) (r:ρ),aA F G s a w→bb w t x ft cs→t.aQ=true→k s id (.ad t x)=some r→
  ∃q f Y v,k f Y v=some r∧vi F G s a w ft.ae q f∧bH (ax f.box q) w F.R v cs∧v.agg=t.agg:=by
  intro t x G s id ft cs k r h c l hk;obtain ⟨a5,a6,aC⟩:=bb.ms l c;exact ⟨G,s,id,_,hk,.refl h _,by rw [a6];exact Rd.gv l a5,rfl⟩
 intro t
 induction t with
 |slice t _=>
  intro x G s id ft cs k r h O c J X K hk;simp only [gg] at hk;obtain ⟨a1,af,a2⟩:=q4 hk;have aq:ic F G s w ⟨none,ft⟩:=⟨by simpa [Gh.ae] using J,fun b d=>X b (by simpa [Gh.ae] using d),fun b d=>K b (by simpa [Gh.ae] using d)⟩;have ar:=h.qy (x:=⟨.slice t,true,false,.ab (.slice t) x⟩) (g:=⟨none,ft⟩) a1 af rfl O ⟨rfl,⟨t,rfl⟩,cs,⟨rfl,c⟩⟩ aq;refine ⟨_,_,_,_,a2,⟨ar,TX af _ _,fun j y o b d=>?_⟩,?_,rfl⟩;rw [mh] at o;by_cases e:id=j;subst e;simp only [fI,b5,Gh.ae,zh,dJ] at d;exact .inr d;rw [aj e] at o;simp only [fI,fV e,cL] at d
  grind
  obtain ⟨b,cap,a0,rfl,au,_,_,ap,_⟩:=c;refine ⟨t,b,cap,a0,none,?_,by rw [au,ap]⟩;simp [ax,mh,fI,bL]
 |cons t u ay az=>
  intro x G s id ft cs k r h O c J X K hk;simp only [gg] at hk;split at hk;rename_i l;exact aQ _ x G s id ft cs k r h c l hk;obtain ⟨I,Z,aa,rfl,a3,a4⟩:=c;rw [I,cn] at J;obtain ⟨al,am,a9⟩:=J;obtain ⟨G1,s1,av,aD,an,C,ah,a7⟩:=ay x.1 G s id ft.fst Z _ r h O.1 a3 al (fun b d=>X b (by rw [I];simp [d])) (fun b d=>K b (by rw [I];simp [d])) hk;obtain ⟨ag,s2,aw,aE,ao,D,ak,a8⟩:=az x.2 G1 s1 av ft.snd aa _ r C.rel O.2.1 a4 am (fun b d j y o U=>by
   rcases C.sub j y o b U with ⟨i,z,ac,W⟩|W
   simp_all
   grind) (fun b d=>K b (by rw [I];simp [d])) an
  refine ⟨ag,s2,aw,_,ao,⟨D.rel,C.le.trans D.le,fun j y o b d=>?_⟩,⟨Z,aa,rfl,bH.mono D.le (fun _ _=>rfl) _ _ ah,ak⟩,rfl⟩;rcases D.sub j y o b d with ⟨i,z,ac,U⟩|U
  rcases C.sub i z ac b U with W|W
  exact .inl W;simp_all;simp_all
 |unit=>
  intro x G s id ft cs k r h _ c _ _ _ hk;simp only [gg] at hk;obtain ⟨_,_,_,rfl⟩:=c;exact ⟨G,s,id,_,hk,.refl h _,rfl,rfl⟩
 |int aB=>intro x G s id ft cs k r h _ c _ _ _ hk;exact aQ _ x G s id ft cs k r h c rfl (by simpa [gg,Ty.aQ] using hk)
 |bool=>intro x G s id ft cs k r h _ c _ _ _ hk;exact aQ _ x G s id ft cs k r h c rfl (by simpa [gg,Ty.aQ] using hk)
 |bP=>intro x G s id ft cs k r h _ c _ _ _ hk;exact aQ _ x G s id ft cs k r h c rfl (by simpa [gg,Ty.aQ] using hk)
 |bG=>intro x G s id ft cs k r h _ c _ _ _ hk;exact c.elim
 |arr n t _=>
  intro x G s id ft cs k r h _ c _ _ _ hk;simp only [gg] at hk;split at hk;rename_i l;exact aQ _ x G s id ft cs k r h c l hk;cases hk
theorem X2:∀(n:List D) (vs:List Value) (c:List FT) (G:Nat→Gh) (s:St) (id:Nat) (k:St→TV→Option ρ) (r:ρ),aA F G s a w→(∀d∈n,d.t.cF)→tp w n vs c→
 (FT.bq c).Nodup→(∀b∈FT.bq c,∀j y,s.box j=some y→b∉(G j).ae)→(∀b∈FT.bq c,¬F.R b∧b<w.heap.size∧(b∈F.M∨F.w0.heap.size≤b))→oa s id n k=some r→
 ∃K J v,k J v=some r∧vi F G s a w (FT.bq c) K J∧fH (ax J.box K) w F.R v vs:=by
 intro n
 induction n with
 |nil=>
  intro vs c G s id k r h _ e _ _ _ hk;cases vs<;>cases c<;>first|exact e.elim|skip
  exact ⟨G,s,.unit,hk,.refl h _,trivial⟩
 |cons d n aj=>
  intro vs c G s id k r h X e O U W hk
  match vs,c,e with
  |v::vs,f::c,e=>
   obtain ⟨⟨cs,ak,al⟩,e⟩:=e;simp only [FT.bq,cn] at O;obtain ⟨ac,ad,am⟩:=O;simp only [oa] at hk;obtain ⟨G1,s1,ai,an,ag,q,aa,Y⟩:=alT d.t d.x G s id f cs _ r h (X d (by simp)) ak ac (fun b g=>U b (by simp [FT.bq,g])) (fun b g=>W b (by simp [FT.bq,g])) hk;obtain ⟨Z,s2,ao,ah,u,ab⟩:=aj vs c G1 s1 ai _ r q.rel (fun d af=>X d (by simp [af])) e ad (fun b g j y C o=>by
    rcases q.sub j y C b o with ⟨i,z,I,l⟩|l
    exact U b (by simp [FT.bq,g]) i z I l
    grind) (fun b g=>W b (by simp [FT.bq,g])) ag
   refine ⟨Z,s2,_,ah,⟨u.rel,q.le.trans u.le,fun j y C b g=>?_⟩,⟨?_,ab⟩⟩;rcases u.sub j y C b g with ⟨i,z,I,o⟩|o
   rcases q.sub i z I b o with l|l
   exact .inl l;exact .inr (by simp [FT.bq,l]);exact .inr (by simp [FT.bq,o]);exact .inr ⟨cs,bH.mono u.le (fun _ _=>rfl) _ _ aa,by rw [Y];exact al⟩
  |[],_,e=>exact e.elim
  |_::_,[],e=>exact e.elim
theorem aie (h:aA F G s a w) (O:E.nt=F.nt) {dst:Option Nat} {g:List D} {v:Value} {l:List FT} (q:∀d∈g,d.t.cF) (c:I5 w g v l)
 (I:(FT.bq l).Nodup) (J:∀b∈FT.bq l,∀j y,s.box j=some y→b∉(G j).ae) (K:∀b∈FT.bq l,¬F.R b∧b<w.heap.size∧(b∈F.M∨F.w0.heap.size≤b))
 (n:∀d,dst=some d→d<E.nt) {k:St→Option ρ} {r:ρ} {o:Nat} (hk:rc s o dst g k=some r):ch F k r (a.put dst v) w:=by
 unfold rc at hk;cases dst with
 |none=>exact ⟨G,s,h,hk⟩
 |some d=>
  simp only at hk;have n:=n d rfl;rw [O] at n;have gX:∀(vs:List Value),v=.tuple (List.toArray vs)→tp w g vs l→(oa s (ey o d) g fun s u=>k (s.put d (.tup u)))=some r→ch F k r (a.put (some d) v) w:=by
   intro vs e Y hk;obtain ⟨z,Z,u,C,T,V⟩:=X2 g vs l G s _ _ r h q Y I J K hk;exact ⟨z,_,T.rel.put n (v:=.tup u) ⟨vs,V,e⟩,C⟩
  match g,c,hk,gX,q with
  |[],c,hk,gX,_=>exact gX [] c.1 (by rw [c.2];trivial) hk
  |[e],c,hk,_,q=>
   obtain ⟨f,rfl,U⟩:=c;obtain ⟨z,Z,u,C,T,V⟩:=X2 [e] [v] [f] G s _ _ r h q ⟨U,trivial⟩ I J K hk;cases u with
   |cons x y=>
    cases y with
    |unit=>exact ⟨z,_,T.rel.put n V.1.vr,C⟩
    |_=>exact V.2.elim
   |_=>exact V.elim
  |e::aa::g,c,hk,gX,_=>
   obtain ⟨vs,W,X⟩:=c;exact gX vs W X hk
end
section
variable {ρ:Type} {P:Program} {E:ao} {F:Fr} {G:Nat→Gh} {s s2:St} {a:Act} {w w2:World} {Q:Exit→Act→World→Prop}
def PM.jT:PM→Bool
 | .ab _=>true
 |_=>false
def vb (A:bY) (w:World) (R:Nat→Prop):List PM→List TV→List Value→List Gh→Prop
 |[],[],[],[]=>True
 |m::c,v::vs,x::xs,g::b=>(if m.jT then ∃u y,m=.ab (.slice u)∧v=.ab (.slice u) y∧g.bg=none∧bb w (.slice u) y g.ft [x] else VR A w R v x∧g=⟨none,.leaf⟩)∧vb A w R c vs xs b
 |_,_,_,_=>False
theorem du.map {A A':bY} {R:Nat→Prop} {κ:TV→TV} (b:∀v y,VR A w R v y→VR A' w R (κ v) y):∀(vs:List TV) (xs:List Value),du A w R vs xs→du A' w R (vs.map κ) xs
 |[],[],_=>trivial
 |_::vs,_::xs,h=>⟨b _ _ h.1,du.map b vs xs h.2⟩
 |[],_::_,h=>h.elim
 |_::_,[],h=>h.elim
structure l3 (F:Fr) (G:Nat→Gh) (s:St) (a:Act) (w:World) (κ:TV→TV) (d:List Nat) (c:Nat→Gh) (e:St):Prop where
 rel:aA F c e a w
 b7:d.Nodup
 out:∀b∈d,∀j y,e.box j=some y→b∉(c j).ae
 bK:∀b∈d,¬F.R b∧b<w.heap.size∧(b∈F.M∨F.w0.heap.size≤b)
 jU:∀b∈d,∃i x,s.box i=some x∧b∈(G i).ae
 fj:iH G s c e
 vr:∀v y,VR (ax s.box G) w F.R v y→VR (ax e.box c) w F.R (κ v) y
theorem l3.none (h:aA F G s a w):l3 F G s a w id [] G s:=⟨h,h3,fun b c=>(by cases c),fun b c=>(by cases c),fun b c=>(by cases c),iH.refl,fun _ _ h=>h⟩
theorem ahV:∀(u:List PM) (vs:List TV) (xs:List Value) (G:Nat→Gh) (s:St) (k:St→List TV→(TV→TV)→Option ρ) (r:ρ),aA F G s a w→du (ax s.box G) w F.R vs xs→eB s u vs k=some r→
 ∃q n o κ g,k n o κ=some r∧l3 F G s a w κ (bT g) q n∧vb (ax n.box q) w F.R u o xs g:=by
 intro u
 induction u with
 |nil=>
  intro vs xs G s k r h j hk
  match vs,xs,j,hk with
  |[],[],_,hk=>exact ⟨G,s,[],id,[],hk,.none h,trivial⟩
  |_::_,_,_,hk=>simp [eB] at hk
 |cons m u U=>
  intro vs xs G s k r h j hk
  match vs,xs,j,hk with
  |[],_,_,hk=>simp [eB] at hk
  |_::_,[],j,_=>exact j.elim
  |v::vs,x::xs,j,hk=>
   have dD:m.jT=false→(eB s u vs fun s vs κ=>k s (κ v::vs) κ)=some r→∃q n o κ g,k n o κ=some r∧l3 F G s a w κ (bT g) q n∧vb (ax n.box q) w F.R (m::u) o (x::xs) g:=by
    intro C hk;obtain ⟨q,n,o,κ,g,Y,T,A⟩:=U vs xs G s _ r h j.2 hk;refine ⟨q,n,κ v::o,κ,⟨Option.none,.leaf⟩::g,Y,T,?_,A⟩;rw [aj (by simp [C])];exact ⟨T.vr _ _ j.1,rfl⟩
   cases m with
   |ab t=>
    cases t with
    |slice t=>
     simp only [eB] at hk;have ac:=j.1.FI (DR hk);obtain ⟨G1,s1,c,f,κ,J,l⟩:=oY (.slice t) _ G s [x] _ r h ac hk;split at J;rotate_left;cases J;rename_i y aa;obtain ⟨D,O,ad⟩:=mf (.slice t) c f [x] y l.fv aa;obtain ⟨W,s2,o,af,g,Z,T,A⟩:=U (vs.map κ) xs G1 s1 _ r l.rel (du.map l.vr vs xs j.2) J;have fr:=l.eH.fj T.fj;have I:∀b,b∈bT (⟨Option.none,D⟩::g)↔b∈f.ae∨b∈bT g:=by
      intro b;simp [bT,Gh.ae,O]
     refine ⟨W,s2,_,_,⟨Option.none,D⟩::g,Z,⟨T.rel,?_,?_,?_,?_,l.fj.trans T.fj,fun v y j=>T.vr _ _ (l.vr v y j)⟩,?_,A⟩;have e:bT (⟨Option.none,D⟩::g)=f.ae++bT g:=by simp [bT,Gh.ae,O]
     rw [e,cn];refine ⟨fr.b7,T.b7,fun b d c X e=>?_⟩;subst e;obtain ⟨i,z,K,C⟩:=T.jU b X;exact l.eH.out b d i z K C;intro b d;rcases (I b).1 d with d|d
     exact fr.out b d;exact T.out b d;intro b d;rcases (I b).1 d with d|d
     exact fr.bK b d;exact T.bK b d;intro b d;rcases (I b).1 d with d|d
     exact l.jU b d;obtain ⟨i,z,K,C⟩:=T.jU b d;exact l.fj.sub i z K b C;rw [ak (show (PM.ab (.slice t)).jT=true from rfl)];simp_all
    |_=>simp [eB] at hk
   |ro t=>exact dD rfl (by simpa only [eB] using hk)
   |bw t=>exact dD rfl (by simpa only [eB] using hk)
   |ptr t=>exact dD rfl (by simpa only [eB] using hk)
   | «mut» t=>exact dD rfl (by simpa only [eB] using hk)
   |bV f c=>exact dD rfl (by simpa only [eB] using hk)
end
section
variable {ρ:Type} {P:Program} {E:ao} {F:Fr} {G:Nat→Gh} {s s2:St} {a:Act} {w w2:World} {Q:Exit→Act→World→Prop}
def w4 (A:bY) (w:World) (R:Nat→Prop) (G:Nat→Gh) (s:St) (m:PM) (v0 v:TV) (x:Value) (g:Gh):Prop:=
 match m with
 | .ptr t=>∃b bx y,v0=.ref b []∧v=.ab t y∧s6 w t y g x∧s.box b=some bx∧bx.cm=false∧bx.ty=t∧g.bg=(G b).bg∧g.ft.ae=(G b).ft.ae
 | .mut t=>∃u y,t=.slice u∧v=.ab (.slice u) y∧g.bg=none∧bb w (.slice u) y g.ft [x]∧
  ((v0=.nil∧g.ft.ae=[])∨∃b p bx c,v0=.sl b p∧s.box b=some bx∧aI.dG p=false∧ax s.box G b p=some (.slice u,g.ft,c)∧(∀d o,c=some (d,o)→At w d o 1 [x]))
 | .ab t=>∃u y,t=.slice u∧v=.ab (.slice u) y∧g.bg=none∧bb w (.slice u) y g.ft [x]
 |_=>VR A w R v x∧g=⟨none,.leaf⟩
def pY (A:bY) (w:World) (R:Nat→Prop) (G:Nat→Gh) (s:St):List PM→List TV→List TV→List Value→List Gh→Prop
 |[],[],[],[],[]=>True
 |m::c,v0::d,v::vs,x::xs,g::b=>w4 A w R G s m v0 v x g∧pY A w R G s c d vs xs b
 |_,_,_,_,_=>False
theorem aik {κ:TV→TV} {o:Nat→Gh} {q:St} (n:∀v y,VR (ax s.box G) w F.R v y→VR (ax q.box o) w F.R (κ v) y) (C:∀t y,κ (.ab t y)=.ab t y):
 ∀(j:List PM) (vs:List TV) (xs:List Value) (d:List Gh),j.any PM.fy=false→vb (ax s.box G) w F.R j vs xs d→pY (ax q.box o) w F.R G s j vs (vs.map κ) xs d:=by
 intro j
 induction j with
 |nil=>
  intro vs xs d _ h
  match vs,xs,d,h with
  |[],[],[],_=>trivial
 |cons m j D=>
  intro vs xs d l h;simp only [List.any_cons,Bool.or_eq_false_iff] at l
  match vs,xs,d,h with
  |v::vs,x::xs,g::d,h=>
   refine ⟨?_,D vs xs d l.2 h.2⟩;have b:=h.1;cases m with
   |ptr t=>cases l.1
   | «mut» t=>cases l.1
   |ab t=>
    rw [ak (show (PM.ab t).jT=true from rfl)] at b;obtain ⟨u,y,e,rfl,r,z⟩:=b;simp only [PM.ab.injEq] at e;exact ⟨u,y,e,C _ _,r,z⟩
   |ro t=>rw [aj (by simp [PM.jT])] at b;exact ⟨n _ _ b.1,b.2⟩
   |bw t=>rw [aj (by simp [PM.jT])] at b;exact ⟨n _ _ b.1,b.2⟩
   |bV f c=>rw [aj (by simp [PM.jT])] at b;exact ⟨n _ _ b.1,b.2⟩
  |[],_,_,h=>exact h.elim
  |_::_,[],_,h=>exact h.elim
  |_::_,_::_,[],h=>exact h.elim
theorem Kt (h:aA F G s a w) (b:Nat):(∀v y,VR (ax s.box G) w F.R v y→VR (ax (s.drop b).box G) w F.R (v.drop b) y)∧(∀j,(s.drop b).box j=if b=j then none else (s.box j).map (bl.bU fun c=> !Nat.beq b c)):=by
 have f:∀j,(s.drop b).box j=if b=j then none else (s.box j).map (bl.bU fun c=> !Nat.beq b c):=by
  intro j;unfold St.drop St.box;simp only [mC,EJ]
  grind
 refine ⟨fun v y g=>VR.bU (fun c q d=>?_) g,f⟩;unfold ax;have d:¬b=c:=by
  intro e;subst e;simp at d
 rw [f,aj d];cases s.box c<;>rfl
end
section
variable {ρ:Type} {P:Program} {E:ao} {F:Fr} {G:Nat→Gh} {s s2:St} {a:Act} {w w2:World} {Q:Exit→Act→World→Prop}
theorem qz {b:Nat} {bx:bl} (c:s.box b=some bx):ax s.box G b []=some (bx.ty,(G b).ft,(G b).bg.map (·,0)):=by
 simp only [ax,c];cases bx.ty<;>rfl
theorem aff (h:aA F G s a w) {b:Nat} {bx:bl} (n:s.box b=some bx) (ab:bx.cm=false) {t:Ty} (aa:bx.ty=t) {y:t.ai} (l:bx.c.dy t=some y) {x:Value} (ad:VR (ax s.box G) w F.R (.ref b []) x):
 ∃g:Gh,s6 w t y g x∧g.bg=(G b).bg∧g.ft.ae=(G b).ft.ae∧l3 F G s a w (TV.drop b) g.ae G (s.drop b):=by
 obtain ⟨ac,O⟩:=Kt h b;have I:=h.box b bx n;unfold dF at I;rw [aj (by simp [ab])] at I;obtain ⟨q,row,e,r,X,Y,h4⟩:=I;subst aa;obtain ⟨J,K,W⟩:=mf _ _ _ _ _ h4 l;obtain ⟨u,f,ag,off,v,af⟩:=ad.b3 (by simp) (by simp) rfl;rw [qz n,r] at v;simp only [cx,az,aO] at v;obtain ⟨rfl,rfl,rfl,rfl⟩:=v;have C:(Gh.mk (some q) J).ae=(G b).ae:=by simp [Gh.ae,r,K]
 refine ⟨⟨some q,J⟩,⟨q,row,e,rfl,(hq af).1,X,Y,W⟩,r.symm,K,h.drop b,?_,?_,?_,?_,⟨fun j y l o d=>?_⟩,ac⟩;rw [C];exact h.b7 b bx n;intro o d j ah U Z;rw [C] at d;rw [O] at U;by_cases e:b=j;simp_all;rw [aj e] at U;cases D:s.box j with
 |none=>simp_all
 |some z=>exact h.dc b j bx z n D e o d Z
 intro o d;rw [C] at d;exact h.bK b bx n o d
 grind
 rw [O] at l;by_cases e:b=j;simp_all;rw [aj e] at l;cases D:s.box j with
 |none=>rw [D] at l;cases l
 |some z=>grind
theorem aA.amg (h:aA F G s a w) {b:Nat} {bx:bl} (r:s.box b=some bx):aA F G (s.b4 b {bx with dN:=false}) a w:=by
 have J:∀j,(s.b4 b {bx with dN:=false}).box j=if b=j then some {bx with dN:=false} else s.box j:=fun j=>kP s b _ bx r j
 have o:ax (s.b4 b {bx with dN:=false}).box G=ax s.box G:=by
  funext c q;unfold ax
  grind
 have ck:∀{j y},(s.b4 b {bx with dN:=false}).box j=some y→∃z,s.box j=some z∧y.ty=z.ty∧y.cm=z.cm∧y.c=z.c∧(y.dN=true→y=z):=by
  grind
 refine ⟨fun i x d=>?_,fun i x d=>?_,fun i j x y d u=>?_,fun i x d=>?_,fun i x d=>?_,h.R,fun n=>?_,h.bQ,h.gq,h.defers,h.nt,fun i x d=>?_,fun i n=>(by rw [o];exact h.sv i n),h.j9⟩;obtain ⟨z,g,l,D,I,_⟩:=ck d;have:=h.box i z g;unfold dF at this⊢;simp_all;obtain ⟨z,g,l,_⟩:=ck d;rw [l];exact h.cF i z g;obtain ⟨x',f,_⟩:=ck d;obtain ⟨C,v,_⟩:=ck u;exact h.dc i j x' C f v;obtain ⟨x',f,_⟩:=ck d;exact h.b7 i x' f;obtain ⟨x',f,_⟩:=ck d;exact h.bK i x' f;rw [o];exact h.tmps n;obtain ⟨x',f,_,_,_,e⟩:=ck d;obtain ⟨K,O⟩:=h.c1 i x' f
 grind
theorem aco {b:Nat} {bx:bl} (d:s.box b=some bx):ax (s.b4 b {bx with dN:=false}).box G=ax s.box G:=by
 funext c q;unfold ax;rw [kP s b _ bx d]
 grind
theorem afe (h:aA F G s a w) {b:Nat} {p:aI} {bx:bl} (f:s.box b=some bx) (aq:aI.dG p=false) {t:Ty} {x:Value} (a0:VR (ax s.box G) w F.R (.sl b p) x)
 {k:(u:Ty)→u.ai→TV→Option ρ} {r:ρ} (hk:(dd bx.c p fun c=>match c with
  | .ab u y=>if decide (u=.slice t) then bO bx.c p .un fun c'=>k u y c' else none
  |_=>none)=some r):
 ∃c' q I X,∃y:(Ty.slice t).ai,k (.slice t) y c'=some r∧bb w (.slice t) y I [x]∧ax s.box G b p=some (.slice t,I,X)∧(∀d o,X=some (d,o)→At w d o 1 [x])∧
  l3 F G s a w (TV.aw b p) I.ae q (((s.b4 b {bx with dN:=false}).b4 b {bx with dN:=false,c:=c'}).aw b p):=by
 obtain ⟨ag,ao,an⟩:=(h.box b bx f).fv;obtain ⟨c',u,al,a',af,g,ah,aj,D⟩:=aW.get bx.c bx.ty (G b).ft ag ((G b).bg.map (·,0)) p _ r ao (fun d o e=>(an d o e).1) hk;split at g;rename_i a2 y;split at g;rename_i W;have W:a2=.slice t:=eU W;subst W;have J:ax s.box G b p=some (u,al,a'):=by rw [fR f];exact ah
 have au:=h.amg f;have am:(s.b4 b {bx with dN:=false}).box b=some {bx with dN:=false}:=by rw [kP s b _ bx f,ak rfl]
 have O:=aco (G:=G) f;obtain ⟨ad,q,a1,ac,n,Y,C,av,aa,Z⟩:=au.move am rfl (.inl aq) rfl rfl (by rw [O];exact J) (by rw [O];exact aj) D g;subst av;obtain ⟨aG,a6,cap,aB,a4,K,a8⟩:=a0.b3 (by simp) (by simp) rfl;rw [J] at K;simp only [az,aO] at K;obtain ⟨_,rfl,_⟩:=K;have ap:af=[x]:=by
  obtain ⟨a5,a7,aC,aD,aE,_,_,aF,_⟩:=C;simp_all
 rw [ap] at C D;have ck:∀{j z},(s.b4 b {bx with dN:=false}).box j=some z→∃a3,s.box j=some a3:=by
  intro j z l;rw [kP s b _ bx f] at l
  grind
 refine ⟨ad,q,_,a',y,a1,C,J,D,ac,n.b7,n.out,n.bK,fun d U=>?_,⟨fun j z l d U=>?_⟩,fun v z ay=>?_⟩;obtain ⟨i,z,l,ar⟩:=Z d U
 grind
 obtain ⟨i,aH,a9,ar⟩:=aa.sub j z l d U
 grind
 exact VR.aw Y (fun _ _=>rfl) (by rw [O];exact ay);cases g;cases g
end
section
variable {ρ:Type} {P:Program} {E:ao} {F:Fr} {G:Nat→Gh} {s s2:St} {a:Act} {w w2:World} {Q:Exit→Act→World→Prop}
def eP:List PM→List Gh→List Nat
 |m::c,g::b=>(if m.fy then g.ae else [])++eP c b
 |_,_=>[]
theorem K5:∀(b:List PM) (c:List Gh),b.any PM.fy=false→eP b c=[]
 |[],_,_=>by cases ‹List Gh› <;>rfl
 |_::_,[],_=>rfl
 |m::b,g::c,h=>by
  simp only [List.any_cons,Bool.or_eq_false_iff] at h;simp [eP,h.1,K5 b c h.2]
theorem ahS (h:aA F G s a w):∀(n:List PM) (vs:List TV) (xs:List Value) (q:List Gh) (k:St→List TV→(TV→TV)→Option ρ) (r:ρ),vb (ax s.box G) w F.R n vs xs q→cO s n vs k=some r→
 ∃j d I κ o,k d I κ=some r∧l3 F G s a w κ (eP n o) j d∧pY (ax d.box j) w F.R G s n vs I xs o∧(∀t y,κ (.ab t y)=.ab t y)∧
  (∀b,b∈bT o↔b∈eP n o∨b∈bT q)∧((bT q).Nodup→(∀b∈bT q,b∉eP n o)→(bT o).Nodup):=by
 intro n
 induction n with
 |nil=>
  intro vs xs q k r C hk
  match vs,xs,q,C,hk with
  |[],[],[],_,hk=>exact ⟨G,s,[],id,[],hk,.none h,trivial,fun _ _=>rfl,fun b=>(by simp [eP,bT]),fun W _=>W⟩
 |cons m n a5=>
  intro vs xs q k r C hk
  match vs,xs,q,C,hk with
  |[],_,_,C,_=>exact C.elim
  |_::_,[],_,C,_=>exact C.elim
  |_::_,_::_,[],C,_=>exact C.elim
  |v::vs,x::xs,g::q,C,hk=>
   have dD:m.fy=false→(cO s n vs fun s vs κ=>k s (κ v::vs) κ)=some r→(∀(κ:TV→TV) (j:Nat→Gh) (d:St),(∀v y,VR (ax s.box G) w F.R v y→VR (ax d.box j) w F.R (κ v) y)→(∀t y,κ (.ab t y)=.ab t y)→w4 (ax d.box j) w F.R G s m v (κ v) x g)→
    ∃j d I κ o,k d I κ=some r∧l3 F G s a w κ (eP (m::n) o) j d∧pY (ax d.box j) w F.R G s (m::n) (v::vs) I (x::xs) o∧(∀t y,κ (.ab t y)=.ab t y)∧
   (∀b,b∈bT o↔b∈eP (m::n) o∨b∈bT (g::q))∧((bT (g::q)).Nodup→(∀b∈bT (g::q),b∉eP (m::n) o)→(bT o).Nodup):=by
    intro af hk ag;obtain ⟨j,d,I,κ,o,ad,T,A,K,B,N⟩:=a5 vs xs q _ r C.2 hk;have J:eP (m::n) (g::o)=eP n o:=by simp [eP,af]
    have Y:∀l:List Gh,bT (g::l)=g.ae++bT l:=fun l=>by simp [bT]
    refine ⟨j,d,_,κ,g::o,ad,by rw [J];exact T,⟨ag κ j d T.vr K,A⟩,K,fun b=>?_,fun W ac=>?_⟩
    grind
    grind
   have ah:∀(g':Gh) (j:Nat→Gh) (d:St) (κ:TV→TV) (al:TV),m.fy=true→n.any PM.fy=false→g=⟨Option.none,.leaf⟩→l3 F G s a w κ g'.ae j d→(∀t y,κ (.ab t y)=.ab t y)→w4 (ax d.box j) w F.R G s m v al x g'→k d (al::vs.map κ) κ=some r→
    ∃j d I κ o,k d I κ=some r∧l3 F G s a w κ (eP (m::n) o) j d∧pY (ax d.box j) w F.R G s (m::n) (v::vs) I (x::xs) o∧(∀t y,κ (.ab t y)=.ab t y)∧
   (∀b,b∈bT o↔b∈eP (m::n) o∨b∈bT (g::q))∧((bT (g::q)).Nodup→(∀b∈bT (g::q),b∉eP (m::n) o)→(bT o).Nodup):=by
    intro g' j d κ al af ao O T K ag ad;subst O;have J:eP (m::n) (g'::q)=g'.ae:=by simp [eP,af,K5 n q ao]
    have Y:bT (g'::q)=g'.ae++bT q:=by simp [bT]
    have Z:bT ((⟨Option.none,.leaf⟩:Gh)::q)=bT q:=by simp [bT,Gh.ae,FT.ae]
    refine ⟨j,d,_,κ,g'::q,ad,by rw [J];exact T,⟨ag,aik T.vr K n vs xs q ao C.2⟩,K,fun b=>?_,fun W ac=>?_⟩;simp_all;rw [J,Z] at ac;rw [Z] at W;rw [Y,cn];exact ⟨T.b7,W,fun b a0 c D e=>ac c D (e▸a0)⟩
   have z:=C.1;cases m with
   |ro t=>exact dD rfl (by simpa only [cO] using hk) (fun κ j d X _=>by rw [aj (by simp [PM.jT])] at z;exact ⟨X _ _ z.1,z.2⟩)
   |bw t=>exact dD rfl (by simpa only [cO] using hk) (fun κ j d X _=>by rw [aj (by simp [PM.jT])] at z;exact ⟨X _ _ z.1,z.2⟩)
   |bV f c=>exact dD rfl (by simpa only [cO] using hk) (fun κ j d X _=>by rw [aj (by simp [PM.jT])] at z;exact ⟨X _ _ z.1,z.2⟩)
   |ab t=>exact dD rfl (by simpa only [cO] using hk) (fun κ j d _ a2=>by
    rw [ak (show (PM.ab t).jT=true from rfl)] at z;obtain ⟨u,y,e,rfl,ay,az⟩:=z;simp only [PM.ab.injEq] at e;exact ⟨u,y,e,a2 _ _,ay,az⟩)
   |ptr t=>
    rw [aj (by simp [PM.jT])] at z;obtain ⟨aa,O⟩:=z;cases v with
    |ref b p=>
     cases p with
     |nil=>
      simp only [cO] at hk;unfold b6 at hk;split at hk;rotate_left;cases hk;rename_i bx U
      try dsimp only at hk
      split at hk;cases hk;rename_i D;simp only [fc,hn,rK,gQ,rA,jF] at D;obtain ⟨⟨am,aq⟩,an⟩:=D;split at hk;rename_i y a4;obtain ⟨g',a6,a7,a8,a9⟩:=aff h U am an a4 aa;exact ah g' G _ _ _ rfl aq O a9 (fun _ _=>rfl) ⟨b,bx,y,rfl,rfl,a6,U,am,an,a7,a8⟩ hk;cases hk
     |cons _ _=>simp [cO] at hk
    |_=>simp [cO] at hk
   | «mut» t=>
    rw [aj (by simp [PM.jT])] at z;obtain ⟨aa,O⟩:=z;cases t with
    |slice t=>
     cases v with
     |nil=>
      simp only [cO] at hk;split at hk;cases hk;rename_i D;have D:n.any PM.fy=false:=by simpa using D
      have a3:[x]=[Value.slice none 0 0]:=aa.b3 (by simp) (by simp) rfl;have a1:k s (.ab (.slice t) ([]:List t.ai)::vs.map id) id=some r:=by rw [List.map_id];exact hk
      refine ah ⟨none,.node none 0 []⟩ G s id _ rfl D O (.none h) (fun _ _=>rfl) ⟨t,_,rfl,rfl,rfl,?_,.inl ⟨rfl,rfl⟩⟩ a1;rw [a3];exact ⟨none,0,[],rfl,rfl,cf _,bM _,rfl,rfl⟩
     |sl b p=>
      simp only [cO] at hk;split at hk;cases hk
      ·rename_i D;simp only [fc,gQ,jF] at D;unfold b6 at hk;split at hk;rotate_left;cases hk;rename_i bx U
       try dsimp only at hk
       obtain ⟨c',j,av,ap,y,J,Y,Z,au,ar⟩:=afe h U D.1 aa (k:=fun u y c'=>k (((s.b4 b {bx with dN:=false}).b4 b {bx with dN:=false,c:=c'}).aw b p) (.ab u y::vs.map (TV.aw b p)) (TV.aw b p)) hk;exact ah ⟨none,av⟩ j _ _ _ rfl D.2 O (by simpa [Gh.ae] using ar) (fun _ _=>rfl) ⟨t,y,rfl,rfl,rfl,Y,.inr ⟨b,p,bx,ap,rfl,U,D.1,Z,au⟩⟩ J
     |_=>simp [cO] at hk
    |_=>simp [cO] at hk
end
section
variable {ρ:Type} {P:Program} {E:ao} {F:Fr} {G:Nat→Gh} {s s2:St} {a:Act} {w w2:World} {Q:Exit→Act→World→Prop}
theorem Me:∀(t:Ty) (v:TV) (k:t.ai→Option ρ) (r:ρ),dT s t v k=some r→v.agg=t.agg∧v≠ .un∧∀b,v≠ .tup b:=by
 have ad:∀(t u:Ty) (x:u.ai) (k:t.ai→Option ρ) (r:ρ),(∃y,cM u t x=some y∧k y=some r)→(TV.ad u x).agg=t.agg∧TV.ad u x≠ .un∧∀b,TV.ad u x≠ .tup b:=by
  intro t u x k r h;obtain ⟨y,e,h⟩:=h;obtain ⟨rfl,_⟩:=e4 e;exact ⟨rfl,by simp,by simp⟩
 intro t v k r h;cases t with
 |slice t=>
  simp only [dT] at h;cases v with
  |nil=>exact ⟨rfl,by simp,by simp⟩
  |sl b p=>exact ⟨rfl,by simp,by simp⟩
  |slw b p lo n=>exact ⟨rfl,by simp,by simp⟩
  |ad u x=>
   simp only [hj] at h;split at h;rename_i y e;obtain ⟨rfl,_⟩:=e4 e;exact ⟨rfl,by simp,by simp⟩;cases h
  |_=>simp [hj] at h
 |cons t u=>
  cases v with
  |cons a d=>exact ⟨rfl,by simp,by simp⟩
  |ad c x=>exact ad _ c x k r (by simp only [dT] at h;grind)
  |_=>simp [dT] at h
 |unit=>
  cases v with
  |unit=>exact ⟨rfl,by simp,by simp⟩
  |ad c x=>exact ad _ c x k r (by simp only [dT] at h;grind)
  |_=>simp [dT] at h
 |_=>
  cases v with
  |ad c x=>exact ad _ c x k r (by simp only [dT] at h;grind)
  |_=>simp [dT] at h
theorem adi {A:bY} {R j:Nat→Prop} (I:∀b,R b→j b):∀(t:Ty) (c:TV) (ft:FT) (cs:List Value) (k:t.ai→Option ρ) (r:ρ),aW A w R c t ft cs→(∀b∈ft.ae,j b)→eX t c k=some r→
 ∃x,k x=some r∧Rd w j t x cs:=by
 have cast:∀(t u:Ty) (x:u.ai) (k:t.ai→Option ρ) (r:ρ),(∃y,cM u t x=some y∧k y=some r)→∃e:u=t,k (e▸x)=some r:=by
  intro t u x k r h;obtain ⟨y,O,h⟩:=h;obtain ⟨e,rfl⟩:=e4 O;exact ⟨e,h⟩
 have ab:∀(t u:Ty) (x:u.ai) (ft:FT) (cs:List Value) (k:t.ai→Option ρ) (r:ρ),aW A w R (.ab u x) t ft cs→(∀b∈ft.ae,j b)→(∃y,cM u t x=some y∧k y=some r)→∃x,k x=some r∧Rd w j t x cs:=by
  intro t u x ft cs k r f g h;obtain ⟨e,h⟩:=cast t u x k r h;subst e;exact ⟨x,h,bb.rd _ _ _ _ g f.2⟩
 have ad:∀(t u:Ty) (x:u.ai) (ft:FT) (cs:List Value) (k:t.ai→Option ρ) (r:ρ),aW A w R (.ad u x) t ft cs→(∃y,cM u t x=some y∧k y=some r)→∃x,k x=some r∧Rd w j t x cs:=by
  intro t u x ft cs k r f h;obtain ⟨e,h⟩:=cast t u x k r h;subst e;exact ⟨x,h,Rd.bQ I (fun _ _=>rfl) _ _ _ f.2.2⟩
 intro t
 induction t with
 |slice t _=>
  intro c ft cs k r f g h;cases c with
  |ab u x=>exact ab _ u x ft cs k r f g (by simp only [eX] at h;grind)
  |ad u x=>exact ad _ u x ft cs k r f (by simp only [eX] at h;grind)
  |nil=>
   simp only [eX] at h;obtain ⟨_,_,_,K⟩:=f;exact ⟨_,h,none,0,K,⟨cf _,bM _⟩,fun J=>absurd rfl J⟩
  |_=>simp [eX] at h
 |cons t u U W=>
  intro c ft cs k r f g h;cases c with
  |ab u x=>exact ab _ u x ft cs k r f g (by simp only [eX] at h;grind)
  |ad u x=>exact ad _ u x ft cs k r f (by simp only [eX] at h;grind)
  |cons c d=>
   simp only [eX] at h;obtain ⟨q,n,o,rfl,_,C,D⟩:=f;obtain ⟨x,v,X⟩:=U c ft.fst n _ r C (fun b l=>g b (by rw [q];simp [l])) h;obtain ⟨y,z,Y⟩:=W d ft.snd o _ r D (fun b l=>g b (by rw [q];simp [l])) v;exact ⟨(x,y),z,n,o,rfl,X,Y⟩
  |_=>simp [eX] at h
 |unit=>
  intro c ft cs k r f g h;cases c with
  |ab u x=>exact ab _ u x ft cs k r f g (by simp only [eX] at h;grind)
  |ad u x=>exact ad _ u x ft cs k r f (by simp only [eX] at h;grind)
  |unit=>
   simp only [eX] at h;exact ⟨_,h,rfl,trivial,f.2.2⟩
  |_=>simp [eX] at h
 |_=>
  intro c ft cs k r f g h;cases c with
  |ab u x=>exact ab _ u x ft cs k r f g (by simp only [eX] at h;grind)
  |ad u x=>exact ad _ u x ft cs k r f (by simp only [eX] at h;grind)
  |_=>simp [eX] at h
end
section
variable {ρ:Type} {P:Program} {E:ao} {F:Fr} {G:Nat→Gh} {s s2:St} {a:Act} {w w2:World} {Q:Exit→Act→World→Prop}
theorem K4 (h:aA F G s a w) {m:PM} {v:TV} {x:Value} (K:VR (ax s.box G) w F.R v x) {k:D→Option ρ} {r:ρ} (hk:gr s m v k=some r):
 ∃d,k d=some r∧zk w (RR F G s) m d x:=by
 have I:∀b,F.R b→RR F G s b:=fun b q=>.inl q
 cases m with
 |ro t=>
  simp only [gr] at hk;obtain ⟨ag,ah,ai⟩:=Me t v _ r hk;obtain ⟨cs,av,X⟩:=K.cells ah ai;obtain ⟨y,e,C⟩:=Fv h t v cs _ r av hk;exact ⟨⟨t,y⟩,e,rfl,dH (v:=.ad t y) C (by rw [ag] at X;exact X)⟩
 |bw t=>
  cases v with
  |bw u y=>
   simp only [gr] at hk;split at hk;rename_i z aq;obtain ⟨rfl,rfl⟩:=e4 aq;obtain ⟨f,off,c,O,aj,ak,ap⟩:=K.b3 (by simp) (by simp) rfl;exact ⟨_,hk,rfl,dH (v:=.bw u y) (cs:=[x]) ⟨f,off,c,O,I _ aj,ak,Rd.bQ I (fun _ _=>rfl) _ _ _ ap⟩ rfl⟩;cases hk
  |ref b p=>
   simp only [gr] at hk;unfold b6 at hk;split at hk
   ·rename_i bx g
    try dsimp only at hk
    split at hk;rotate_left;cases hk;rename_i J;have J:cE bx.ty p=some t:=eU J;obtain ⟨a0,ft,f,off,n,O⟩:=K.b3 (by simp) (by simp) rfl;obtain ⟨Z,an,am⟩:=(h.box b bx g).fv;obtain ⟨c',u,af,a',U,aa,l,ab,ac⟩:=aW.get bx.c bx.ty (G b).ft Z ((G b).bg.map (·,0)) p _ r an (fun j o e=>(am j o e).1) hk;rw [fR g,l] at n;simp only [az,aO] at n;obtain ⟨rfl,rfl,rfl⟩:=n;obtain ⟨s1,au⟩:=gm _ _ _ _ l;have ao:f∈(G b).ae:=by
     simp only [Gh.ae,aZ];rcases au with ⟨Y,ay,e0,aw,_⟩|⟨d,e0,_⟩
     simp_all;cases q:(G b).bg with
     |none=>rw [q] at e0;cases e0
     |some Y=>simp_all
    have W:=Q4 _ _ _ _ l;rw [J] at W;obtain rfl:=bk W;obtain ⟨y,ar,C⟩:=adi I t c' af U _ r ab (fun j al=>.inr ⟨b,bx,g,by simp only [Gh.ae,aZ];exact .inr (s1 j al)⟩) aa;exact ⟨⟨t,y⟩,ar,rfl,dH (v:=.bw t y) (cs:=[x]) ⟨f,off,U,O,.inr ⟨b,bx,g,ao⟩,ac _ _ rfl,C⟩ rfl⟩
   cases hk
  |_=>simp [gr] at hk
 |_=>simp [gr] at hk
end
section
variable {ρ:Type} {P:Program} {E:ao} {F:Fr} {G:Nat→Gh} {s s2:St} {a:Act} {w w2:World} {Q:Exit→Act→World→Prop}
theorem SV {A:bY} {R:Nat→Prop}:∀(c:TV) (xs:List Value) (l:List TV),bH A w R c xs→c.o4=some l→du A w R l xs:=by
 intro c
 induction c with
 |unit=>
  intro xs l h b;simp only [TV.o4,az] at b;subst b;rw [show xs=[] from h];trivial
 |cons a r _ q=>
  intro xs l h b;obtain ⟨f,g,rfl,d,j⟩:=h;simp only [TV.o4] at b;split at b;rename_i e;split at b;rename_i u n;simp only [az] at b;subst b;have o:∃x,f=[x]:=by
   cases a<;>simp [TV.KQ] at e
   obtain ⟨_,_,_,_,_,rfl⟩:=d;exact ⟨_,rfl⟩;obtain ⟨_,_,_,rfl,_⟩:=d;exact ⟨_,rfl⟩
  obtain ⟨x,rfl⟩:=o;refine ⟨dH d ?_,q g u j n⟩;cases a<;>simp [TV.KQ] at e<;>rfl
  cases b;cases b
 |_=>intro xs l h b;simp [TV.o4] at b
theorem afc (h:aA F G s a w):∀(c:List PM) (vs:List TV) (xs:List Value) (k:List D→Option ρ) (r:ρ),du (ax s.box G) w F.R vs xs→uj s c vs k=some r→
 ∃ds,k ds=some r∧vc w (RR F G s) c ds xs:=by
 intro c
 induction c with
 |nil=>
  intro vs xs k r b hk
  match vs,xs,b,hk with
  |[],[],_,hk=>exact ⟨[],hk,trivial⟩
  |_::_,_,_,hk=>simp [uj] at hk
 |cons m c l=>
  intro vs xs k r b hk
  match vs,xs,b,hk with
  |[],_,_,hk=>simp [uj] at hk
  |_::_,[],b,_=>exact b.elim
  |v::vs,x::xs,b,hk=>
   simp only [uj] at hk;obtain ⟨d,g,e⟩:=K4 h b.1 hk;obtain ⟨ds,j,f⟩:=l vs xs _ r b.2 g;exact ⟨d::ds,j,e,f⟩
end
section
variable {ρ:Type} {P:Program} {E:ao} {F:Fr} {G G1:Nat→Gh} {s s1:St} {a:Act} {w w2:World} {Q:Exit→Act→World→Prop}
theorem afg (h:aA F G1 s1 a w) {m:PM} {v0 v:TV} {x:Value} {g:Gh} (c:w4 (ax s1.box G1) w F.R G s m v0 v x g) {k:List D→Option ρ} {r:ρ} (hk:jY s1 m v k=some r):
 ∃ds,k ds=some r∧zj w (RR F G1 s1) m ds x g:=by
 cases m with
 |ptr t=>
  obtain ⟨b,bx,y,rfl,rfl,j,_⟩:=c;simp only [jY,decide_true,b5] at hk;exact ⟨_,hk,rfl,j⟩
 | «mut» t=>
  obtain ⟨u,y,rfl,rfl,o,j,_⟩:=c;simp only [jY,decide_true,b5] at hk;exact ⟨_,hk,rfl,⟨u,rfl⟩,o,j⟩
 |ab t=>
  obtain ⟨u,y,rfl,rfl,o,j⟩:=c;simp only [jY,decide_true,b5] at hk;exact ⟨_,hk,rfl,⟨u,rfl⟩,o,j⟩
 |ro t=>
  obtain ⟨n,rfl⟩:=c;have hk:gr s1 (.ro t) v (fun d=>k [d])=some r:=hk;obtain ⟨d,hk,q⟩:=K4 h n hk;exact ⟨_,hk,rfl,q⟩
 |bw t=>
  obtain ⟨n,rfl⟩:=c;have hk:gr s1 (.bw t) v (fun d=>k [d])=some r:=hk;obtain ⟨d,hk,q⟩:=K4 h n hk;exact ⟨_,hk,rfl,q⟩
 |bV f O=>
  obtain ⟨n,rfl⟩:=c;cases v with
  |bV U z=>
   simp only [jY] at hk;split at hk;rename_i e;have e:=fe e;subst e;split at hk;rename_i l I;obtain ⟨vs,J,K⟩:=n.b3 (by simp) (by simp) rfl;obtain ⟨ds,hk,C⟩:=afc h O l vs _ r (SV z vs l J I) hk;exact ⟨ds,hk,rfl,vs,(hq K).1,C⟩;cases hk;cases hk
  |_=>simp [jY,gr] at hk
theorem afb (h:aA F G1 s1 a w):∀(e:List PM) (d vs:List TV) (xs:List Value) (c:List Gh) (k:List D→Option ρ) (r:ρ),pY (ax s1.box G1) w F.R G s e d vs xs c→ja s1 e vs k=some r→
 ∃ds,k ds=some r∧l1 w (RR F G1 s1) e ds xs c:=by
 intro e
 induction e with
 |nil=>
  intro d vs xs c k r b hk
  match d,vs,xs,c,b,hk with
  |[],[],[],[],_,hk=>exact ⟨[],hk,trivial⟩
 |cons m e u=>
  intro d vs xs c k r b hk
  match d,vs,xs,c,b,hk with
  |v0::d,v::vs,x::xs,g::c,b,hk=>
   simp only [ja] at hk;obtain ⟨f,o,l⟩:=afg h b.1 hk;obtain ⟨j,q,n⟩:=u d vs xs c _ r b.2 o;exact ⟨f++j,q,f,j,rfl,l,n⟩
  |[],_,_,_,b,_=>exact b.elim
  |_::_,[],_,_,b,_=>exact b.elim
  |_::_,_::_,[],_,b,_=>exact b.elim
  |_::_,_::_,_::_,[],b,_=>exact b.elim
end
section
variable {ρ:Type} {P:Program} {E:ao} {F:Fr} {G:Nat→Gh} {s:St} {a:Act} {w w2:World} {Q:Exit→Act→World→Prop}
theorem FF (t:Ty) (ft f:FT):bt t ft [] f=f:=by cases t<;>rfl
theorem Rc (h:aA F G s a w) {b:Nat} {bx:bl} (g:s.box b=some bx) (l:bx.cm=false) (ad:gj w w2) (q:∀b,F.R b→w2.heap[b]?=w.heap[b]?)
 (K:∀j y,j≠b→s.box j=some y→∀d∈(G j).ae,w2.heap[d]?=w.heap[d]?) (O:∀d,d<F.w0.heap.size→d∉F.M→w2.heap[d]?=w.heap[d]?)
 {g':Gh} {t:Ty} {x:t.ai} {X:Value} (ag:g'.bg=(G b).bg) (ac:s6 w2 t x g' X) (C:bx.ty=t) (z:g'.ae.Nodup)
 (Y:∀d∈g'.ft.ae,d∈(G b).ft.ae∨∀j y,s.box j=some y→d∉(G j).ae) (Z:∀d∈g'.ft.ae,¬F.R d∧d<w2.heap.size∧(d∈F.M∨F.w0.heap.size≤d)):
 aA F (fun j=>if j=b then ⟨(G b).bg,g'.ft⟩ else G j) ((s.b4 b {bx with c:=.ab t x}).aw b []) a w2:=by
 have n:ax s.box G b []=some (bx.ty,(G b).ft,(G b).bg.map (·,0)):=qz g;have o:(fun j=>if j=b then (⟨(G b).bg,g'.ft⟩:Gh) else G j)=fun j=>if j=b then ⟨(G b).bg,bt bx.ty (G b).ft [] g'.ft⟩ else G j:=by
  funext j;rw [FF]
 have r:=lv g (.ab t x) [];have u:=tF (f:=g'.ft) (c':=(TV.ab t x).aw b []) (kl:=fun v=>v.aw b []) g n o r;have aa:g'.ft.ae.Nodup:=by
  simp only [Gh.ae,cn] at z;exact z.2.1
 refine h.xS g n (fun v=>v.aw b []) o (x3 _ b []) (yT _ b []) (yU _ b []) r (fun v y l=>VR.aw u q l) (fun c t ft cs U W=>aW.aw u q c t ft cs U W) ?_ ad K O aa Y Z (fun ah ak=>by simp_all);obtain ⟨D,row,e,af,_,I,J,h4⟩:=ac;unfold dF;rw [aj (show ¬(bx.with ((TV.ab t x).aw b [])).cm=true from by simp [bl.with,l])];refine ⟨D,row,e,?_,I,J.trans (dx Ty.size C.symm),?_⟩;simp_all;simp only [b5];exact ⟨C.symm,h4⟩
end
theorem acn {f:FT} {u:Ty} {x:FT} (H:∀(a:Option (Nat×Nat)) (q:aI) {v:Ty} {g:FT} {h:Option (Nat×Nat)},bL u x a q=some (v,g,h)→∃l,bL u f a q=some (v,l,h)∧fJ v l=fJ v g):
 ∀(t:Ty) (ft:FT) (a:Option (Nat×Nat)) (p q:aI) {v:Ty} {g:FT} {j h:Option (Nat×Nat)},
 bL t ft a p=some (u,x,j)→bL t ft a q=some (v,g,h)→
 ∃l,bL t (bt t ft p f) a q=some (v,l,h)∧fJ v l=fJ v g:=by
 intro t;have o:∀(t:Ty) (ft:FT) (a:Option (Nat×Nat)) (q:aI) {v:Ty} {g:FT} {j h:Option (Nat×Nat)},
  bL t ft a []=some (u,x,j)→bL t ft a q=some (v,g,h)→∃l,bL t f a q=some (v,l,h)∧fJ v l=fJ v g:=by
  intro t ft a q v g j h d c;have e:bL t ft a []=some (t,ft,a):=by cases t<;>rfl
  simp_all
 induction t with
 |cons t r z J=>
  intro ft a p q v g j h d c
  match p,d with
  |[],d=>exact o _ _ _ _ d c
  | .i n::p,d=>simp [bL] at d
  | .f 0::p,d=>
   match q,c with
   |[],c=>simp only [bL,az,aO] at c;obtain ⟨rfl,rfl,rfl⟩:=c;exact ⟨_,rfl,rfl⟩
   | .i n::q,c=>simp [bL] at c
   | .f 0::q,c=>
    simp only [bL] at d c;simpa [bL,bt,FT.fst] using z _ _ p q d c
   | .f (n+1)::q,c=>simp only [bL] at c;exact ⟨g,by simpa [bL,bt,FT.snd] using c,rfl⟩
  | .f (m+1)::p,d=>
   match q,c with
   |[],c=>simp only [bL,az,aO] at c;obtain ⟨rfl,rfl,rfl⟩:=c;exact ⟨_,rfl,rfl⟩
   | .i n::q,c=>simp [bL] at c
   | .f 0::q,c=>simp only [bL] at c;exact ⟨g,by simpa [bL,bt,FT.fst] using c,rfl⟩
   | .f (n+1)::q,c=>
    simp only [bL] at d c;have:=J _ _ (.f m::p) (.f n::q) d c;simp only [bL,bt,FT.snd];exact this
 |slice t z=>
  intro ft a p q v g j h d c
  match p,d with
  |[],d=>exact o _ _ _ _ d c
  | .f n::p,d=>simp [bL] at d
  | .i n::p,d=>
   match ft,d,c with
   | .leaf,d,_=>simp [bL] at d
   | .eQ _ _,d,_=>simp [bL] at d
   | .node none _ _,d,_=>simp [bL] at d
   | .node (some b) cap D,d,c=>
    simp only [bL] at d;split at d;rename_i kn hk
    match q,c with
    |[],c=>
     simp only [bL,az,aO] at c;obtain ⟨rfl,rfl,rfl⟩:=c;exact ⟨_,rfl,by simp [fJ,FT.dz,bt,hk]⟩
    | .f n::q,c=>simp [bL] at c
    | .i m::q,c=>
     simp only [bL] at c;split at c;rename_i K C;by_cases I:m=n;subst I;rw [hk] at C;obtain rfl:=bk C;have y:(D.set m (bt t kn p f))[m]?=some (bt t kn p f):=by
      grind
     simpa [bL,bt,hk,y] using z _ _ p q d c;have y:(D.set n (bt t kn p f))[m]?=some K:=by grind
     exact ⟨g,by simp only [bt,hk,bL,y];exact c,rfl⟩;cases c
    cases d
 |arr m t _=>
  intro ft a p q v g j h d c
  match p,d with
  |[],d=>exact o _ _ _ _ d c
  | .f n::p,d=>simp [bL] at d
  | .i n::s::p,d=>simp [bL] at d
  |[.i n],d=>
   have e:bt (.arr m t) ft [.i n] f=ft:=by cases ft<;>rfl
   simp_all
 |_=>
  intro ft a p q v g j h d c;cases p with
  |nil=>exact o _ _ _ _ d c
  |cons s p=>simp [bL] at d
theorem afk {u:Ty} (C:u.aQ=true) {b:Option Nat} {cap:Nat} {j c:List FT} (y:c.length=j.length) (a:Option (Nat×Nat)) (q:aI) {v:Ty} {e:FT} {d:Option (Nat×Nat)}
 (h:bL (.slice u) (.node b cap j) a q=some (v,e,d)):∃g,bL (.slice u) (.node b cap c) a q=some (v,g,d)∧fJ v g=fJ v e:=by
 match q,h with
 |[],h=>
  simp only [bL,az,aO] at h;obtain ⟨rfl,rfl,rfl⟩:=h;exact ⟨_,rfl,by simp [fJ,FT.dz,y]⟩
 | .f n::q,h=>simp [bL] at h
 | .i n::q,h=>
  cases b with
  |none=>simp [bL] at h
  |some b=>
   simp only [bL] at h;split at h;rename_i k hk;have z:n<c.length:=by grind
   obtain ⟨o,r⟩:=To _ _ _ _ C h;obtain ⟨l,x⟩:=r c[n];exact ⟨l,by simp only [bL,aT z];exact x,TE o _ _⟩;cases h
section
variable {ρ:Type} {P:Program} {E:ao} {F:Fr} {G:Nat→Gh} {s:St} {a:Act} {w w2:World} {Q:Exit→Act→World→Prop}
theorem ae6 {i:Nat} {x:bl} (C:s.box i=some x) {p:aI} {u:Ty} {b:FT} {g:Option (Nat×Nat)}
 (I:ax s.box G i p=some (u,b,g)) {f:FT} (H:∀(a:Option (Nat×Nat)) (q:aI) {v:Ty} {n:FT} {l:Option (Nat×Nat)},bL u b a q=some (v,n,l)→∃o,bL u f a q=some (v,o,l)∧fJ v o=fJ v n)
 {s2:St} {d:Nat→Gh} {c':TV} {kl:TV→TV}
 (K:d=fun j=>if j=i then ⟨(G i).bg,bt x.ty (G i).ft p f⟩ else G j)
 (r:∀j,s2.box j=if j=i then some (x.with c') else (s.box j).map fun y=>y.with (kl y.c)):ia (ax s.box G) (ax s2.box d):=by
 subst K;intro c q t ft bd h;have J:bL x.ty (G i).ft ((G i).bg.map (·,0)) p=some (u,b,g):=by rw [←fR C];exact I
 by_cases e:i=c;subst e;rw [fR C] at h;have z:ax s2.box (fun j=>if j=i then ⟨(G i).bg,bt x.ty (G i).ft p f⟩ else G j) i q=bL x.ty (bt x.ty (G i).ft p f) ((G i).bg.map (·,0)) q:=by
  simp [ax,r,bl.with]
 rw [z];exact acn H x.ty (G i).ft _ p q J h;have z:ax s2.box (fun j=>if j=i then ⟨(G i).bg,bt x.ty (G i).ft p f⟩ else G j) c q=ax s.box G c q:=by
  have D:¬c=i:=fun h=>e h.symm
  simp only [ax,r,D,cL];cases s.box c<;>rfl
 simp_all
end
section
variable {ρ:Type} {P:Program} {E:ao} {F:Fr} {G:Nat→Gh} {s:St} {a:Act} {w w2:World} {Q:Exit→Act→World→Prop}
theorem aA.Rb (h:aA F G s a w) {b:Nat} {p:aI} {x:bl} (u:s.box b=some x) (aK:aI.dG p=false) {t:Ty} {y:(Ty.slice t).ai} {l f:FT} {I:Option (Nat×Nat)} {v:Value}
 (Z:ax s.box G b p=some (.slice t,l,I)) (D:∀d o,I=some (d,o)→At w d o 1 [v]) (al:bb w2 (.slice t) y f [v])
 (aU:gj w w2) (ad:∀b,F.R b→w2.heap[b]?=w.heap[b]?)
 (ay:∀j z,j≠b→s.box j=some z→∀d∈(G j).ae,w2.heap[d]?=w.heap[d]?) (aa:∀d∈(G b).ae,d∉l.ae→w2.heap[d]?=w.heap[d]?)
 (az:∀d,d<F.w0.heap.size→d∉F.M→w2.heap[d]?=w.heap[d]?)
 (aL:f.ae.Nodup) (aM:∀d∈f.ae,d∈l.ae∨∀j z,s.box j=some z→d∉(G j).ae) (aN:∀d∈f.ae,¬F.R d∧d<w2.heap.size∧(d∈F.M∨F.w0.heap.size≤d))
 (aP:f.dz=l.dz) (kl:TV→TV) (s2:St) (c':TV)
 (aO:∀n,s2.get n=kl (s.get n)) (aT:∀i n,s2.gy i n=kl (s.gy i n)) (aQ:s2.sv.length=s.sv.length) (a6:∀j,s2.box j=if j=b then some (x.with (kl c')) else (s.box j).map fun y=>y.with (kl y.c))
 (a0:∀v y,VR (ax s.box G) w F.R v y→VR (ax s2.box (fun j=>if j=b then ⟨(G b).bg,bt x.ty (G b).ft p f⟩ else G j)) w2 F.R (kl v) y)
 (ac:∀(w':World),(∀b,F.R b→w'.heap[b]?=w.heap[b]?)→∀c t ft cs,(∀b∈ft.ae,w'.heap[b]?=w.heap[b]?)→aW (ax s.box G) w F.R c t ft cs→aW (ax s2.box (fun j=>if j=b then ⟨(G b).bg,bt x.ty (G b).ft p f⟩ else G j)) w' F.R (kl c) t ft cs)
 (af:∀{σ:Type} (k':TV→Option σ),bO (kl x.c) p (.ab (.slice t) y) k'=k' (kl c')):
 aA F (fun j=>if j=b then ⟨(G b).bg,bt x.ty (G b).ft p f⟩ else G j) s2 a w2:=by
 have J:bL x.ty (G b).ft ((G b).bg.map (·,0)) p=some (.slice t,l,I):=by rw [←fR u];exact Z
 obtain ⟨s1,bs⟩:=gm _ _ _ _ J;have ah:=h.b7 b x u;simp only [Gh.ae,cn] at ah;obtain ⟨bq,aV,an⟩:=ah;obtain ⟨be,bo,aD⟩:=(h.box b x u).fv;have ag:∀g,(G b).bg=some g→w2.heap[g]?=w.heap[g]?:=fun g e=>aa g (by simp [Gh.ae,e]) (fun C=>an g (by simp [e]) g (s1 g C) rfl)
 have am:x.cm=true→(G b).bg=none∧p=[]∧x.ty=.slice t∧l=(G b).ft:=by
  intro D;have:=h.box b x u;unfold dF at this;rw [ak D] at this;obtain ⟨bm,⟨aq,aw⟩,_⟩:=this;rw [aw] at J⊢;cases p with
  |nil=>
   have bf:bL (.slice aq) (G b).ft ((G b).bg.map (·,0)) []=some (.slice aq,(G b).ft,(G b).bg.map (·,0)):=rfl;simp_all
  |cons q p=>cases q<;>simp [bL,aI.dG] at J aK
 refine h.xS u Z kl rfl aO aT aQ a6 a0 (fun c t ft cs a2 aH=>ac w2 ad c t ft cs a2 aH) ?_ aU ay az aL aM aN (fun _ D=>by
  obtain ⟨_,rfl,e,Y⟩:=am D;rw [FF,aP,Y])
 unfold dF;by_cases K:x.cm=true;obtain ⟨aF,rfl,X,Y⟩:=am K;rw [ak (show (x.with (kl c')).cm=true from K)];refine ⟨by simpa using aF,⟨t,X⟩,[v],?_⟩;have ar:∀{σ:Type} (c v:TV) (k:TV→Option σ),bO c [] v k=k v:=by intro σ c v k;cases c<;>rfl
 have:=af some;rw [ar] at this;have aG:kl c'=.ab (.slice t) y:=(bk this).symm;change aW _ w2 F.R (kl c') x.ty _ [v];rw [aG];simp only [b5,FF];exact ⟨X.symm,al⟩;rw [aj (show ¬(x.with (kl c')).cm=true from K)];have U:=h.box b x u;unfold dF at U;rw [aj K] at U;obtain ⟨g,row,e,r,a8,aB,aC⟩:=U;have a3:∃o,I=some (g,o):=by
  grind
 obtain ⟨o,rfl⟩:=a3;have aE:g∉(G b).ft.ae:=fun C=>an g (by simp [r]) g C rfl
 have a4:At w g o 1 [v]:=D g o rfl;have a1:Wr w w2 g o (Ty.slice t).size [v]:=by
  obtain ⟨ao,ba,bc,O,fz,ap,aX,aY,aZ⟩:=Wr.refl a4;exact ⟨ao,ba,bc,O,fz,ap,(ag g r).trans aX,aY,aZ⟩
 have bn:At w g 0 x.ty.size row.toList:=(aD g 0 (by rw [r];rfl)).1|>fun bp=>by
  simp_all
 have aJ:aW (ax s2.box (fun j=>if j=b then ⟨(G b).bg,bt x.ty (G b).ft p f⟩ else G j)) w F.R (kl x.c) x.ty (G b).ft row.toList:=ac w (fun _ _=>rfl) _ _ _ _ (fun _ _=>rfl) aC;obtain ⟨bd,W,au,bi,bj,av⟩:=aW.set (v:=.ab (.slice t) y) (ft2:=f) a1 ⟨rfl,al⟩ (kl x.c) x.ty (G b).ft row.toList ((G b).bg.map (·,0)) p (fun c=>some c) (kl c') aJ
  (fun d br O=>by
   grind) aV J (af some) ⟨fun d a7 aR _=>aa d (by simp [Gh.ae,a7]) aR,fun C=>aE (s1 g C),ad⟩
 obtain rfl:=bk au;have a9:w2.heap[g]?=some (.cells row e (0,0)):=(ag g r).trans a8;refine ⟨g,row,e,by simp [r],a9,aB,?_⟩;have a5:=av g 0 (by rw [r];rfl);have aS:W=row.toList:=by
  obtain ⟨mP,O,bh,ao,ap,rfl⟩:=a5
  grind
 rw [←aS];change aW _ w2 F.R (kl c') x.ty _ W
 grind
end
section
variable {ρ:Type} {P:Program} {E:ao} {F:Fr} {G:Nat→Gh} {s:St} {a:Act} {w w2:World} {Q:Exit→Act→World→Prop}
theorem agq {w w2:World} {t:Ty} {x y:(Ty.slice t).ai} {f g:FT} {v:Value} (h:bb w (.slice t) x f [v]) (j:bb w2 (.slice t) y g [v]):
 ∃b cap c d,f=.node b cap c∧g=.node b cap d∧d.length=c.length:=by
 obtain ⟨b,cap,c,rfl,e,_,_,q,_⟩:=h;obtain ⟨l,n,d,rfl,o,_,_,r,_⟩:=j
 grind
def I8 (G:Nat→Gh) (s:St) (g g':List Nat) (c:Nat→Gh) (d:St):Prop:=
 ∀j y,d.box j=some y→∀b∈(c j).ae,b∈g'∨(b∉g∧∃i z,s.box i=some z∧b∈(G i).ae)
theorem acB (h:aA F G s a w) {A:bY} {R:Nat→Prop} {m:PM} {v0 v:TV} {x:Value} {g g':Gh} (I:w4 A w R G s m v0 v x g) (bb:m.fy=true)
 {a5 a6:List Gh} {vs:List Value} {aO:List PM} {ds:List D}
 (al:gj w w2) (Z:∀b,F.R b→w2.heap[b]?=w.heap[b]?)
 (ah:∀j z,s.box j=some z→∀b∈(G j).ae,b∉g.ae→w2.heap[b]?=w.heap[b]?)
 (ai:∀l,l<F.w0.heap.size→l∉F.M→w2.heap[l]?=w.heap[l]?) (aK:g'.ae.Nodup)
 (aX:∀b∈g'.ae,b∈g.ae∨∀j z,s.box j=some z→b∉(G j).ae)
 (aE:∀b∈g'.ae,¬F.R b∧b<w2.heap.size∧(b∈F.M∨F.w0.heap.size≤b))
 (U:ll w2 (m::aO) ds (x::vs) (g::a5) (g'::a6)) {k:St→List D→Option ρ} {r:ρ} (hk:eN s m v0 ds k=some r):
 ∃a0 az a1,k az a1=some r∧aA F a0 az a w2∧ll w2 aO a1 vs a5 a6∧I8 G s g.ae g'.ae a0 az:=by
 cases m with
 |ptr t=>
  obtain ⟨b,bx,y,rfl,rfl,aL,C,ag,bh,aa,aY⟩:=I;cases ds with
  |nil=>exact U.elim
  |cons d ds=>
   obtain ⟨⟨ab,aj,af⟩,U⟩:=U;simp only [eN] at hk;rw [ak (by simp [ab])] at hk;unfold b6 at hk;rw [C] at hk;have X:g.ae=(G b).ae:=by simp [Gh.ae,aa,aY]
   have hrel:=Rc (t:=d.t) (x:=d.x) h C ag al Z (fun j y O J l o=>ah j y J l o (fun I=>h.dc j b y bx J C O l o (X▸I))) ai (aj.trans aa) af (bh.trans ab.symm) aK
    (fun l o=>by
     rcases aX l (by simp [Gh.ae,o]) with K|K
     left;rw [X] at K;simp only [Gh.ae,aZ] at K;rcases K with K|K
     exfalso;simp only [Gh.ae,cn] at aK
     grind
     exact K;exact .inr K)
    (fun l o=>aE l (by simp [Gh.ae,o]))
   refine ⟨_,_,ds,hk,hrel,U,fun j y J l o=>?_⟩;rw [lv C] at J;by_cases e:j=b;subst e;left;simp only [b5] at o;have:(⟨(G j).bg,g'.ft⟩:Gh).ae=g'.ae:=by simp [Gh.ae,aj,aa]
   simp_all;right;simp only [e,cL] at o J;cases O:s.box j with
   |none=>rw [O] at J;cases J
   |some z=>exact ⟨fun I=>h.dc j b z bx O C e l o (X▸I),j,z,O,o⟩
 | «mut» t=>
  obtain ⟨u,y,rfl,rfl,aa,aL,be⟩:=I;cases ds with
  |nil=>exact U.elim
  |cons d ds=>
   obtain ⟨⟨ab,aj,af⟩,U⟩:=U;obtain ⟨aT,bl⟩:=d;have ab:aT=.slice u:=ab;subst ab;rcases be with ⟨rfl,bd⟩|⟨b,p,bx,aR,rfl,C,aD,ac,aB⟩
   simp only [eN] at hk;have aG:g.ae=[]:=by simp [Gh.ae,aa,bd]
   refine ⟨G,s,ds,hk,h.shift al Z (fun j z Y b ad=>ah j z Y b ad (by simp [aG])) ai,U,fun j y J b ad=>.inr ⟨by simp [aG],j,y,J,ad⟩⟩;simp only [eN,decide_true,b5] at hk;unfold b6 at hk;rw [C] at hk;simp only at hk;have X:g.ae=g.ft.ae:=by simp [Gh.ae,aa]
   have ba:g'.ae=g'.ft.ae:=by simp [Gh.ae,aj]
   have a7:bL bx.ty (G b).ft ((G b).bg.map (·,0)) p=some (.slice u,g.ft,aR):=by rw [←fR C];exact ac
   obtain ⟨bi,_⟩:=gm _ _ _ _ a7;have aI:∀l∈g.ae,l∈(G b).ae:=fun l I=>by rw [X] at I;simp only [Gh.ae,aZ];exact .inr (bi l I)
   obtain ⟨bk,cap,bo,bp,a2,a3,a4⟩:=agq aL af;have a9:∀j z,j≠b→s.box j=some z→∀l∈(G j).ae,w2.heap[l]?=w.heap[l]?:=fun j z O Y l o=>ah j z Y l o (fun I=>h.dc j b z bx Y C O l o (aI l I))
   have a8:∀l∈(G b).ae,l∉g.ft.ae→w2.heap[l]?=w.heap[l]?:=fun l o bc=>ah b bx C l o (by rw [X];exact bc)
   have ar:g'.ft.ae.Nodup:=by simp_all
   have aq:∀l∈g'.ft.ae,l∈g.ft.ae∨∀j z,s.box j=some z→l∉(G j).ae:=fun l I=>by simp_all
   have aF:∀l∈g'.ft.ae,¬F.R l∧l<w2.heap.size∧(l∈F.M∨F.w0.heap.size≤l):=fun l I=>aE l (by rw [ba];exact I)
   have aH:g'.ft.dz=g.ft.dz:=by rw [a2,a3];simp [FT.dz,a4]
   have au:=h.b7 b bx C;simp only [Gh.ae,cn] at au;have aN:∀(s2:St),(∀j y,s2.box j=some y→∃z,s.box j=some z)→I8 G s g.ae g'.ae (fun j=>if j=b then ⟨(G b).bg,bt bx.ty (G b).ft p g'.ft⟩ else G j) s2:=by
    intro s2 bf j y J l o;obtain ⟨z,Y⟩:=bf j y J;by_cases e:j=b;subst e;simp only [b5,Gh.ae,aZ] at o;obtain ⟨_,aS⟩:=FE bx.ty (G j).ft _ p g'.ft a7 au.2.1 ar (fun b ad=>(aq b ad).imp id fun aV aU=>aV j bx C (by simp [Gh.ae,aU]));rcases o with I|I
    exact .inr ⟨fun bn=>au.2.2 l I l (by simp_all) rfl,j,bx,C,by simp only [Gh.ae,aZ];exact .inl I⟩;rcases aS l I with K|K
    simp_all;exact .inr ⟨by rw [X];exact K.2,j,bx,C,by simp only [Gh.ae,aZ];exact .inr K.1⟩;simp only [e,cL] at o;exact .inr ⟨fun I=>h.dc j b z bx Y C e l o (aI l I),j,z,Y,o⟩
   by_cases av:u.aQ=true;obtain ⟨c',am,ay⟩:=Mo _ _ _ _ _ hk;simp only [av,b5] at am;have W:∀j,(s.b4 b {bx with c:=c'}).box j=if j=b then some (bx.with c') else (s.box j).map fun y=>y.with y.c:=DZ C c'
   have aJ:ia (ax s.box G) (ax (s.b4 b {bx with c:=c'}).box (fun j=>if j=b then ⟨(G b).bg,bt bx.ty (G b).ft p g'.ft⟩ else G j)):=
    ae6 C ac (fun aP q v bm bj aM=>by rw [a2] at aM;rw [a3];exact afk av a4 aP q aM) rfl (kl:=id) W
   refine ⟨_,_,ds,am,h.Rb C aD ac aB af al Z a9 a8 ai ar aq aF aH id _ c' (fun n=>rfl) (fun _ _=>rfl) rfl W (fun v y ag=>VR.mono aJ Z ag) (fun w' an c t ft cs ao ap=>aW.mono aJ an c t ft cs ao ap) ay,U,aN _ (fun j y J=>?_)⟩;rw [W] at J;by_cases e:j=b;simp_all;simp only [e,cL] at J;cases O:s.box j with
   |none=>rw [O] at J;cases J
   |some z=>exact ⟨z,rfl⟩
   simp only [av,hl,cL] at hk;obtain ⟨c',am,ay⟩:=Mn b p _ _ _ _ _ hk;have W:=lv C c' p;have aC:=tF (f:=g'.ft) (kl:=fun v=>v.aw b p) C ac rfl W;refine ⟨_,_,ds,am,h.Rb C aD ac aB af al Z a9 a8 ai ar aq aF aH (fun v=>v.aw b p) _ c' (x3 _ b p) (yT _ b p) (yU _ b p) W (fun v y ag=>VR.aw aC Z ag) (fun w' an c t ft cs ao ap=>aW.aw aC an c t ft cs ao ap) ay,U,aN _ (fun j y J=>?_)⟩;rw [W] at J;by_cases e:j=b;simp_all;simp only [e,cL] at J;cases O:s.box j with
   |none=>rw [O] at J;cases J
   |some z=>exact ⟨z,rfl⟩
 |_=>simp [PM.fy] at bb
end
section
variable {ρ:Type} {P:Program} {E:ao} {F:Fr} {G:Nat→Gh} {s:St} {a:Act} {w w2:World} {Q:Exit→Act→World→Prop}
def po:List PM→Bool
 |[]=>true
 |m::b=>if m.fy then !(b.any PM.fy) else po b
theorem ahQ:∀(e:List PM) (s:St) (vs:List TV) (k:St→List TV→(TV→TV)→Option ρ) (r:ρ),cO s e vs k=some r→po e=true:=by
 intro e
 induction e with
 |nil=>intros;rfl
 |cons m e g=>
  intro s vs k r hk;cases vs with
  |nil=>simp [cO] at hk
  |cons v vs=>
   cases m with
   |ptr t=>
    cases v with
    |ref b p=>
     cases p with
     |nil=>
      simp only [cO] at hk;unfold b6 at hk;split at hk
      try dsimp only at hk
      split at hk;cases hk;rename_i d;simp only [fc,gQ,jF] at d;simp [po,PM.fy,d.1.2];cases hk
     |cons _ _=>simp [cO] at hk
    |_=>simp [cO] at hk
   | «mut» t=>
    cases t with
    |slice t=>
     cases v with
     |nil=>
      simp only [cO] at hk;split at hk;cases hk;rename_i d;simpa [po,PM.fy] using d
     |sl b p=>
      simp only [cO] at hk;split at hk;cases hk;rename_i d;simp only [fc,gQ,jF] at d;simp [po,PM.fy,d.2]
     |_=>simp [cO] at hk
    |_=>simp [cO] at hk
   |ro t=>exact g s vs _ r (by simpa only [cO] using hk)
   |bw t=>exact g s vs _ r (by simpa only [cO] using hk)
   |ab t=>exact g s vs _ r (by simpa only [cO] using hk)
   |bV f c=>exact g s vs _ r (by simpa only [cO] using hk)
theorem DW {m:PM} (b:m.fy=false) (v:TV) (ds:List D) (k:St→List D→Option ρ):eN s m v ds k=k s ds:=by
 cases m<;>first|rfl|simp [PM.fy] at b
theorem acw:∀(b:List PM) (vs:List TV) (ds:List D) (s:St) (k:St→Option ρ) (r:ρ),b.any PM.fy=false→gT s b vs ds k=some r→k s=some r:=by
 intro b
 induction b with
 |nil=>
  intro vs ds s k r _ hk;cases vs<;>cases ds<;>first|exact hk|simp [gT] at hk
 |cons m b d=>
  intro vs ds s k r c hk;simp only [List.any_cons,Bool.or_eq_false_iff] at c;cases vs with
  |nil=>simp [gT] at hk
  |cons v vs=>
   simp only [gT] at hk;rw [DW c.1] at hk
   grind
theorem afV {m:PM} (e:m.fy=false) {d:List PM} {ds:List D} {v:Value} {vs:List Value} {g g':Gh} {b c:List Gh} (h:ll w (m::d) ds (v::vs) (g::b) (g'::c)):g'.ae=[]∧ll w d ds vs b c:=by
 cases m<;>first|exact h|simp [PM.fy] at e
theorem Ev (g:Gh) (b:List Gh):bT (g::b)=g.ae++bT b:=by simp [bT]
theorem acz (h:aA F G s a w) {A:bY} {R:Nat→Prop} (ab:gj w w2) (aa:∀b,F.R b→w2.heap[b]?=w.heap[b]?)
 (Z:∀K,K<F.w0.heap.size→K∉F.M→w2.heap[K]?=w.heap[K]?):
 ∀(d:List PM) (q vs:List TV) (xs:List Value) (c f:List Gh) (ds:List D) (k:St→Option ρ) (r:ρ),pY A w R G s d q vs xs c→ll w2 d ds xs c f→po d=true→
 (∀j z,s.box j=some z→∀b∈(G j).ae,b∉eP d c→w2.heap[b]?=w.heap[b]?)→(bT f).Nodup→
 (∀b∈bT f,b∈eP d c∨∀j z,s.box j=some z→b∉(G j).ae)→
 (∀b∈bT f,¬F.R b∧b<w2.heap.size∧(b∈F.M∨F.w0.heap.size≤b))→gT s d q ds k=some r→
 ∃J I,k I=some r∧aA F J I a w2∧I8 G s (eP d c) (bT f) J I:=by
 intro d
 induction d with
 |nil=>
  intro q vs xs c f ds k r e l _ u _ _ _ hk
  match q,vs,xs,c,f,ds,e,l,hk with
  |[],[],[],[],[],[],_,_,hk=>
   exact ⟨G,s,hk,h.shift ab aa (fun j z aj b n=>u j z aj b n (by simp [eP])) Z,fun j y Y b n=>.inr ⟨by simp [eP],j,y,Y,n⟩⟩
  |[],[],[],[],_::_,[],_,l,_=>exact l.elim
  |[],[],[],[],_,_::_,_,_,hk=>simp [gT] at hk
 |cons m d ak=>
  intro q vs xs c f ds k r e l W u U C O hk
  match q,vs,xs,c,f,e,l with
  |v0::q,v::vs,x::xs,g::c,g'::f,e,l=>
   simp only [gT] at hk;by_cases o:m.fy=true;simp only [po,o,b5,hn] at W;have X:eP (m::d) (g::c)=g.ae:=by simp [eP,o,K5 d c W]
   rw [X] at u C⊢;rw [Ev] at U C O⊢;obtain ⟨J,I,af,al,ac,am,ad⟩:=acB h e.1 o ab aa u Z (cn.1 U).1 (fun b n=>C b (aZ.2 (.inl n))) (fun b n=>O b (aZ.2 (.inl n))) l hk;exact ⟨J,I,acw d q af I k r W al,ac,fun j y Y b n=>(ad j y Y b n).imp (fun h=>aZ.2 (.inl h)) id⟩;have o:m.fy=false:=by simpa using o
   rw [DW o] at hk;obtain ⟨ah,ai⟩:=afV o l;have X:eP (m::d) (g::c)=eP d c:=by simp [eP,o]
   have ag:bT (g'::f)=bT f:=by rw [Ev,ah];rfl
   rw [X] at u C⊢;rw [ag] at U C O⊢;exact ak q vs xs c f ds k r e.2 ai (by simpa [po,o] using W) u U C O hk
  |[],_,_,_,_,e,_=>exact e.elim
  |_::_,[],_,_,_,e,_=>exact e.elim
  |_::_,_::_,[],_,_,e,_=>exact e.elim
  |_::_,_::_,_::_,[],_,e,_=>exact e.elim
  |_::_,_::_,_::_,_::_,[],_,l=>exact l.elim
theorem acX (h:aA F G s a w) (ag:fs P E) (a7:E.nt=F.nt) {f:Nat} {vs:List TV} {xs:List Value} (an:du (ax s.box G) w F.R vs xs) {dst:Option Nat} {k:St→Option ρ} {r:ρ}
 (ah:∀d,dst=some d→d<E.nt) (hk:jt E s f vs dst k=some r):
 tq P f xs.toArray w fun e w'=>match e with
  | .returned v=>ch F k r (a.put dst v) w'
  |_=>False:=by
 unfold jt at hk;split at hk;split at hk;cases hk;rename_i I aw;refine (ag.inl f _ I aw ρ F G s a w vs xs _ r h an hk).mono fun e w' aj=>?_
 cases e with
 |returned v=>
  obtain ⟨ab,aI,tv,ad,aJ,k'⟩:=aj;cases dst with
  |none=>exact ⟨ab,aI,ad,k'⟩
  |some d=>exact ⟨ab,_,ad.put (by simp_all) aJ,k'⟩
 |_=>exact aj.elim
 rename_i c a1;have Y:=ag.fn f _ c a1;obtain ⟨ac,ap,aK,aN,au,ak,n,A0⟩:=ahV _ _ _ _ _ _ _ h an hk;have a9:=ahQ _ _ _ _ _ ak;obtain ⟨G1,s1,aL,aO,o,a4,u,aa,_,B,N⟩:=ahS n.rel _ _ _ _ _ _ A0 ak;obtain ⟨ds,W,az⟩:=afb u.rel _ _ _ _ _ _ _ aa a4;rw [Y.K2] at W;split at W;cases W;rename_i aH ao a3;have bK:∀b∈bT o,¬F.R b∧b<w.heap.size∧(b∈F.M∨F.w0.heap.size≤b):=fun b g=>by
  rcases (B b).1 g with g|g
  exact u.bK b g;exact n.bK b g
 have a2:∀b∈bT au,b∉eP c.params o:=fun b g a0=>by
  obtain ⟨i,x,C,l⟩:=u.jU b a0;exact n.out b g i x C l
 have aB:xo w (RR F G1 s1) c ds xs o:=by
  refine ⟨az,N n.b7 a2,fun b g=>⟨?_,(bK b g).2.1⟩,?_⟩;rintro (J|⟨i,x,C,l⟩);exact (bK b g).1 J;rcases (B b).1 g with g|g
  exact u.out b g i x C l;obtain ⟨aE,x',aC,Z⟩:=u.fj.sub i x C b l;exact n.out b g aE x' aC Z;rintro b (J|⟨i,x,C,l⟩);exact h.n1 J;exact (u.rel.bK i x C b l).2.1
 refine (Y.SU w _ ds xs o aH ao aB a3).mono fun e w' ai=>?_
 cases e with
 |returned v=>
  obtain ⟨af,X,D⟩:=ai;have a6:∀b,F.R b→b∉bT o:=fun b g l=>(bK b l).1 g
  have J:∀b,F.R b→w'.heap[b]?=w.heap[b]?:=fun b g=>D.bQ b (h.n1 g) (a6 b g)
  have ay:∀U,U<F.w0.heap.size→U∉F.M→w'.heap[U]?=w.heap[U]?:=fun b g l=>D.bQ b (jL g h.size) (fun Z=>by
   grind)
  have av:∀j z,ap.box j=some z→∀b∈(ac j).ae,b∉eP c.params o→w'.heap[b]?=w.heap[b]?:=fun j z K b g a5=>D.bQ b (n.rel.bK j z K b g).2.1 (fun l=>by
   rcases (B b).1 l with q|q
   exact a5 q;exact n.out b q j z K g)
  have al:=cn.1 D.b7;have am:∀b∈FT.bq af++bT X,¬F.R b∧b<w'.heap.size∧(b∈F.M∨F.w0.heap.size≤b):=fun b g=>by
   obtain ⟨aG,O⟩:=D.bK b g
   grind
  have a8:∀b∈FT.bq af++bT X,b∈eP c.params o∨∀j z,ap.box j=some z→b∉(ac j).ae:=fun b g=>by
   obtain ⟨aG,O⟩:=D.bK b g;rcases O with O|O
   exact ((B b).1 O).imp id fun q j z K=>n.out b q j z K
   grind
  obtain ⟨aM,s2,aF,aq,ar⟩:=acz n.rel D.gq J ay c.params aK aL xs o X ao _ r aa D.afW a9 av al.2.1 (fun b g=>a8 b (aZ.2 (.inr g))) (fun b g=>am b (aZ.2 (.inr g))) W;refine aie aq a7 (fun d ah=>Y.cF _ ?_) D.dg al.1 (fun b g j y aD l=>?_) (fun b g=>am b (aZ.2 (.inl g))) ah aF;have:=D.types
  grind
  rcases ar j y aD b l with q|⟨q,i,z,K,Z⟩
  grind
  grind
 |_=>exact ai.elim
end
section
variable {ρ:Type} {P:Program} {E:ao} {F:Fr} {G:Nat→Gh} {s:St} {a:Act} {w w2:World} {Q:Exit→Act→World→Prop}
theorem du.tC {A:bY} {R:Nat→Prop}:∀(vs b:List TV) (xs c:List Value),du A w R vs xs→du A w R b c→du A w R (vs++b) (xs++c)
 |[],_,[],_,_,h=>h
 |_::vs,b,_::xs,c,h,d=>⟨h.1,du.tC vs b xs c h.2 d⟩
 |[],_,_::_,_,h,_=>h.elim
 |_::_,_,[],_,h,_=>h.elim
theorem du.mq (h:aA F G s a w):∀(l:List Operand),du (ax s.box G) w F.R (l.map s.ev) (l.map a.eval)
 |[]=>trivial
 |x::l=>⟨cA h x,du.mq h l⟩
theorem acZ (h:aA F G s a w) (x:dl P E F) (y:fs P E) {o:Oper} {c:Call} {g:Operand} (n:o.op=.call c) (j:c.callee=.value g) (C:∀d,o.dst=some d→d<E.nt) {k:St→Option ρ} {r:ρ} (hk:a2 E o s k=some r):
 o.wp P a w (ch F k r) Q:=by
 unfold a2 at hk;rw [n] at hk;simp only [j] at hk;split at hk;rename_i f u D;split at hk;rename_i l I;have q:=cA h g;rw [D] at q;obtain ⟨vs,K,b⟩:=q.b3 (by simp) (by simp) rfl;have b:=(hq b).1;rcases acX h y x.nt (du.tC _ _ _ _ (du.mq h c.args.toList) (SV u vs l K I)) C hk with ⟨W,z⟩|⟨v,w',X,J⟩
 have e:(execOp a.eval o).run P w=.ok (.enter f (c.args.toList.map a.eval++vs).toArray) w:=by
  unfold execOp;rw [n];simp only [resolve,j,b,Deferred.ofValue,Sem.run_bind,Sem.run_pure,Result.andThen_ok,invoke];simp_all
 unfold Oper.wp;rw [e,Oper.upon_enter];refine z.mono fun e w' U=>?_
 grind
 have O:(c.args.map a.eval)++vs.toArray=(c.args.toList.map a.eval++vs).toArray:=by
  simp_all
 refine c7 (v:=v) (w':=w') ?_ J;unfold execOp;rw [n];simp only [resolve,j,b,Deferred.ofValue,Sem.run_bind,Sem.run_pure,Result.andThen_ok,invoke]
 grind
 cases hk;cases hk
end
section
variable {ρ:Type} {P:Program} {E:ao} {F:Fr} {G:Nat→Gh} {s:St} {a:Act} {w w2:World} {Q:Exit→Act→World→Prop}
theorem UI (h:aA F G s a w) (j:dl P E F) (z:fs P E) {o:Oper} (l:∀d,o.dst=some d→d<E.nt) (C:∀t x y,o.op=.store t x y→o.dst=none) {k:St→Option ρ} {r:ρ} (hk:a2 E o s k=some r):
 o.wp P a w (ch F k r) Q:=by
 cases e:o.op with
 |move x=>exact Us h j (.inl e) l hk
 |assign x=>exact Us h j (.inr e) l hk
 |pick c x y=>exact ahX h j e l hk
 |alloc t=>exact acp h j e l hk
 |box t x=>exact acP h j e l hk
 |build t D=>exact acT h j e l hk
 |buildSlice t n D=>exact acS h j e l hk
 |load t x=>exact afq h j e l hk
 |store t x y=>exact alH h j e (C _ _ _ e) hk
 |nilCheck x=>exact af8 h j e l hk
 |binOp op t x y J=>exact acN h j e l hk
 |unOp op t x=>exact amf h j e l hk
 |convert t u x=>exact adk h j e l hk
 |makeSlice t n c=>exact afw h j e l hk
 |slice t x lo hi I=>exact ak9 h j e l hk
 |makeMap t n=>exact afv h j e l hk
 |lookup t m x ok=>exact afs h j e l hk
 |mapUpdate t m x v=>exact afB h j e hk
 |fieldAddr t x n=>exact adU h j e l hk
 |field t x n=>exact adV h j e l hk
 |indexAddr t x y=>exact aeJ h j e l hk
 |index t x y=>exact aeK h j e l hk
 |extract x n=>exact Tm h j e l hk
 |makeFunc f x y=>exact afu h j e l hk
 |call c=>
  cases q:c.callee with
  |value g=>exact acZ h j z e q l hk
  |builtin b=>
   cases b with
   |len=>exact ae8 h j e q l hk
   |append=>exact acs h j e q l hk
   |min=>exact afK h j e q l hk
   |max=>exact afH h j e q l hk
   |_=>unfold a2 at hk;rw [e] at hk;simp [q,kj] at hk
  |invoke x n=>unfold a2 at hk;simp_all
 |_=>unfold a2 at hk;simp_all
theorem yr (f:dl P E F) (g:fs P E):OZ ρ P E F:=by
 intro G s a w Q o k r h hk;unfold de at hk;split at hk;rename_i d c;split at hk;rename_i n;have q:d<E.nt:=by simp_all
 have j:∀b,o.dst=some b→b<E.nt:=fun b e=>by simp_all
 split at hk;cases hk;rename_i l;exact UI h f g j (fun t x y e=>absurd e (l t x y)) hk;cases hk;rename_i c;exact UI h f g (fun b e=>by rw [c] at e;cases e) (fun _ _ _ _=>c) hk
end
section
variable {ρ σ:Type} {E:ao}
def Ag (s t:St) (v:TV):Prop:=∀b∈v.aF,∀y,t.box b=some y→s.box b=some y
theorem ka {t:St} {b:Nat} {k:bl→Option ρ} {r:ρ} (h:b6 t b k=some r):∃y,k y=some r∧t.box b=some y∧
 ∀(s:St),(∀y,t.box b=some y→s.box b=some y)→∀{σ:Type} (k':bl→Option σ),b6 s b k'=k' y:=by
 unfold b6 at h;split at h;rename_i y c;refine ⟨y,h,c,fun s d σ k'=>?_⟩;unfold b6;rw [d y c];cases h
theorem SW {a b:Ty} {x:a.ai} {k:b.ai→Option ρ} {r:ρ} (h:(match cM a b x with
 |some y=>k y
 |none=>none)=some r):∃y,k y=some r∧∀{σ:Type} (k':b.ai→Option σ),(match cM a b x with
 |some y=>k' y
 |none=>none)=k' y:=by
 split at h;rename_i y c;exact ⟨y,h,fun k'=>by first|rfl|simp only [c]⟩;cases h
theorem aes {c:TV} {n:Nat} {p:aI} {k:TV→Option ρ} {r:ρ} (h:qN c n p k=some r):∃y,k y=some r∧∀{σ:Type} (k':TV→Option σ),qN c n p k'=k' y:=by
 unfold qN at h;split at h;rotate_left;cases h;rename_i t xs l;split at h;rotate_left;cases h;rename_i x j;split at h;rotate_left;cases h;rename_i g f;obtain ⟨u,y,b,e⟩:=ua _ _ _ _ _ h;cases d:cond (aI.dG p|| !u.aQ) g false;rw [d,cond_false] at b;exact ⟨_,b,fun k'=>by simp only [qN,j,f];rw [e,d,cond_false]⟩;simp_all
theorem pa:∀(c:TV) (p:aI) (k:TV→Option ρ) (r:ρ),dd c p k=some r→∃y,k y=some r∧∀{σ:Type} (k':TV→Option σ),dd c p k'=k' y:=by
 have j:∀(c:TV) (k:TV→Option ρ) (r:ρ),dd c [] k=some r→∃y,k y=some r∧∀{σ:Type} (k':TV→Option σ),dd c [] k'=k' y:=by
  intro c k r h;have e:∀{σ:Type} (k':TV→Option σ),dd c [] k'=k' c:=by intro σ k';cases c<;>rfl
  rw [e] at h;exact ⟨c,h,e⟩
 intro c
 induction c with
 |ab t x=>
  intro p k r h;cases p with
  |nil=>exact j _ _ _ h
  |cons s p=>
   simp only [dd] at h;obtain ⟨u,y,b,g⟩:=ua _ _ _ _ _ h;exact ⟨_,b,fun k'=>by simp only [dd];exact g _⟩
 |ad t x=>
  intro p k r h;cases p with
  |nil=>exact j _ _ _ h
  |cons s p=>
   simp only [dd] at h;split at h;cases h;rename_i q;obtain ⟨u,y,b,g⟩:=ua _ _ _ _ _ h;exact ⟨_,b,fun k'=>by simp only [dd];simp_all⟩
 |cons a d l o=>
  intro p k r h
  match p,h with
  |[],h=>exact j _ _ _ h
  | .i n::p,h=>simp [dd] at h
  | .f 0::p,h=>
   obtain ⟨y,b,g⟩:=l p k r (by simpa only [dd] using h);exact ⟨y,b,fun k'=>by simp only [dd];exact g k'⟩
  | .f (n+1)::p,h=>
   obtain ⟨y,b,g⟩:=o (.f n::p) k r (by simpa only [dd] using h);exact ⟨y,b,fun k'=>by simp only [dd];exact g k'⟩
 |tup c _=>
  intro p k r h
  match p,h with
  |[],h=>exact j _ _ _ h
  | .f n::p,h=>cases n<;>simp [dd] at h
  | .i n::p,h=>
   obtain ⟨y,b,g⟩:=aes (by simpa only [dd] using h);exact ⟨y,b,fun k'=>by simp only [dd];exact g k'⟩
 |_=>
  intro p k r h;cases p with
  |nil=>exact j _ _ _ h
  |cons s p=>simp [dd] at h
theorem MB {t:St} {T:Ty} {v:TV} {k:List T.ai→Option ρ} {r:ρ} (h:hj t T v k=some r):
 ∃xs,k xs=some r∧∀(s:St),Ag s t v→∀{σ:Type} (k':List T.ai→Option σ),hj s T v k'=k' xs:=by
 cases v with
 |nil=>exact ⟨[],h,fun s e σ k'=>rfl⟩
 |ad u x=>
  simp only [hj] at h;split at h;rename_i y l;exact ⟨y,h,fun s e σ k'=>by simp only [hj,l]⟩;cases h
 |sl b p=>
  simp only [hj] at h;obtain ⟨x,j,_,g⟩:=ka h;obtain ⟨c,d,h4⟩:=pa _ _ _ _ j;split at d;rename_i u y;split at d;rename_i z f;exact ⟨z,d,fun s e σ k'=>by simp only [hj];rw [g s (e _ (by simp [TV.aF])),h4];simp only [f]⟩;cases d;rename_i u y;split at d;rename_i z f;exact ⟨z,d,fun s e σ k'=>by simp only [hj];rw [g s (e _ (by simp [TV.aF])),h4];simp only [f]⟩;cases d;cases d
 |slw b p lo n=>
  simp only [hj] at h;obtain ⟨x,j,_,g⟩:=ka h;obtain ⟨c,d,h4⟩:=pa _ _ _ _ j;split at d;rename_i u y;split at d;rename_i z f;exact ⟨_,d,fun s e σ k'=>by simp only [hj];rw [g s (e _ (by simp [TV.aF])),h4];simp only [f]⟩;cases d;cases d
 |_=>simp [hj] at h
theorem K3 {t:St} {v:TV} {k:Nat→Option ρ} {r:ρ} (h:jX t v k=some r):
 ∃n,k n=some r∧∀(s:St),Ag s t v→∀{σ:Type} (k':Nat→Option σ),jX s v k'=k' n:=by
 cases v with
 |nil=>exact ⟨0,h,fun s e σ k'=>rfl⟩
 |ad u x=>
  cases u with
  |slice u=>exact ⟨_,h,fun s e σ k'=>rfl⟩
  |_=>simp [jX] at h
 |sl b p=>
  simp only [jX] at h;obtain ⟨x,g,_,f⟩:=ka h;obtain ⟨c,d,h4⟩:=pa _ _ _ _ g;split at d;exact ⟨_,d,fun s e σ k'=>by simp only [jX];rw [f s (e _ (by simp [TV.aF])),h4]⟩;unfold T0 at d;split at d;exact ⟨_,d,fun s e σ k'=>by simp only [jX];rw [f s (e _ (by simp [TV.aF])),h4];rfl⟩;cases d;cases d
 |slw b p lo n=>exact ⟨n,h,fun s e σ k'=>rfl⟩
 |_=>simp [jX] at h
theorem Ag.fst {s t:St} {a d:TV} (h:Ag s t (.cons a d)):Ag s t a:=fun b c=>h b (by simp [TV.aF,c])
theorem Ag.snd {s t:St} {a d:TV} (h:Ag s t (.cons a d)):Ag s t d:=fun b c=>h b (by simp [TV.aF,c])
theorem Mf {t:St}:∀(T:Ty) (v:TV) (k:T.ai→Option ρ) (r:ρ),dT t T v k=some r→∃x,k x=some r∧∀(s:St),Ag s t v→∀{σ:Type} (k':T.ai→Option σ),dT s T v k'=k' x:=by
 have ad:∀(T u:Ty) (x:u.ai) (k:T.ai→Option ρ) (r:ρ),(∀{σ:Type} (w:St) (k:T.ai→Option σ),dT w T (.ad u x) k=match cM u T x with
  |some y=>k y
  |none=>none)→dT t T (.ad u x) k=some r→∃g,k g=some r∧∀(s:St),Ag s t (.ad u x)→∀{σ:Type} (k':T.ai→Option σ),dT s T (.ad u x) k'=k' g:=by
  intro T u x k r e h;rw [e] at h;obtain ⟨y,c,f⟩:=SW h;exact ⟨y,c,fun s b σ k'=>by rw [e];exact f k'⟩
 intro T
 induction T with
 |slice T _=>
  intro v k r h;simp only [dT] at h;obtain ⟨xs,c,f⟩:=MB h;exact ⟨xs,c,fun s b σ k'=>by simp only [dT];exact f s b k'⟩
 |cons T U l n=>
  intro v k r h;cases v with
  |cons a d=>
   simp only [dT] at h;obtain ⟨x,c,f⟩:=l a _ r h;obtain ⟨y,j,h4⟩:=n d _ r c;exact ⟨(x,y),j,fun s b σ k'=>by simp only [dT];rw [f s b.fst,h4 s b.snd]⟩
  |ad u x=>exact ad _ u x k r (fun w k=>rfl) h
  |_=>simp [dT] at h
 |unit=>
  intro v k r h;cases v with
  |unit=>exact ⟨(),h,fun s b σ k'=>rfl⟩
  |ad u x=>exact ad _ u x k r (fun w k=>rfl) h
  |_=>simp [dT] at h
 |_=>
  intro v k r h;cases v with
  |ad u x=>exact ad _ u x k r (fun w k=>rfl) h
  |_=>simp [dT] at h
theorem adh:∀(T:Ty) (v:TV) (k:T.ai→Option ρ) (r:ρ),eX T v k=some r→∃x,k x=some r∧∀{σ:Type} (k':T.ai→Option σ),eX T v k'=k' x:=by
 have ad:∀(T u:Ty) (x:u.ai) (c:TV) (k:T.ai→Option ρ) (r:ρ),(∀{σ:Type} (k:T.ai→Option σ),eX T c k=match cM u T x with
  |some y=>k y
  |none=>none)→eX T c k=some r→∃g,k g=some r∧∀{σ:Type} (k':T.ai→Option σ),eX T c k'=k' g:=by
  intro T u x c k r e h;rw [e] at h;obtain ⟨y,b,f⟩:=SW h;exact ⟨y,b,fun k'=>by rw [e];exact f k'⟩
 intro T
 induction T with
 |slice T _=>
  intro v k r h;cases v with
  |ab u x=>exact ad _ u x _ k r (fun k=>rfl) h
  |ad u x=>exact ad _ u x _ k r (fun k=>rfl) h
  |nil=>exact ⟨[],h,fun k'=>rfl⟩
  |_=>simp [eX] at h
 |cons T U l n=>
  intro v k r h;cases v with
  |ab u x=>exact ad _ u x _ k r (fun k=>rfl) h
  |ad u x=>exact ad _ u x _ k r (fun k=>rfl) h
  |cons a d=>
   simp only [eX] at h;obtain ⟨x,b,f⟩:=l a _ r h;obtain ⟨y,j,h4⟩:=n d _ r b;exact ⟨(x,y),j,fun k'=>by simp only [eX];rw [f,h4]⟩
  |_=>simp [eX] at h
 |unit=>
  intro v k r h;cases v with
  |ab u x=>exact ad _ u x _ k r (fun k=>rfl) h
  |ad u x=>exact ad _ u x _ k r (fun k=>rfl) h
  |unit=>exact ⟨(),h,fun k'=>rfl⟩
  |_=>simp [eX] at h
 |_=>
  intro v k r h;cases v with
  |ab u x=>exact ad _ u x _ k r (fun k=>rfl) h
  |ad u x=>exact ad _ u x _ k r (fun k=>rfl) h
  |_=>simp [eX] at h
theorem qC {v:TV} {k:IntKind→Int→Option ρ} {r:ρ} (h:asInt v k=some r):∃b n,v=.ad (.int b) n∧k b n=some r:=by
 unfold asInt at h;split at h;exact ⟨_,_,rfl,h⟩;cases h
theorem uc {n:Nat} {i:Int} {k:Nat→Option ρ} {r:ρ} (h:gJ n i k=some r):∃m,k m=some r∧∀{σ:Type} (k':Nat→Option σ),gJ n i k'=k' m:=by
 unfold gJ at h;split at h;rename_i m;split at h;rename_i b;exact ⟨m,h,fun k'=>by unfold gJ;simp only [b]⟩;cases h;cases h
theorem S5 {op:BinOp} {b:IntKind} {x y:Int} {k:TV→Option ρ} {r:ρ} (h:ki op b x y k=some r):∃v,k v=some r∧∀{σ:Type} (k':TV→Option σ),ki op b x y k'=k' v:=by
 unfold ki at h⊢;split at h
 all_goals first
  |exact ⟨_,h,fun k'=>rfl⟩
  |(split at h<;>first|exact ⟨_,h,fun k'=>rfl⟩|cases h|(rename_i c;exact ⟨_,h,fun k'=>by simp only [c]⟩))
  |skip
theorem acL {op:BinOp} {T:Option Ty} {a b:TV} {k:TV→Option ρ} {r:ρ} (h:tD op T a b k=some r):∃v,k v=some r∧∀{σ:Type} (k':TV→Option σ),tD op T a b k'=k' v:=by
 unfold tD at h⊢;split at h;split at h;rename_i c;obtain ⟨v,e,f⟩:=S5 h;exact ⟨v,e,fun k'=>by rw [ak c];exact f k'⟩;cases h;split at h;split at h;rename_i c;exact ⟨_,h,fun k'=>by rw [ak c]⟩;cases h;exact ⟨_,h,fun k'=>rfl⟩;exact ⟨_,h,fun k'=>rfl⟩;cases h;split at h;cases h;rename_i c;split at h;exact ⟨_,h,fun k'=>by rw [aj c]⟩;exact ⟨_,h,fun k'=>by rw [aj c]⟩;cases h;split at h;rename_i c;split at h;rename_i y d;split at h;exact ⟨_,h,fun k'=>by (rw [ak c])<;>simp only [d]⟩;exact ⟨_,h,fun k'=>by (rw [ak c])<;>simp only [d]⟩;cases h;cases h;cases h;cases h
end
section
variable {ρ σ:Type} {E:ao}
def St.step (s:St) (dst:Option Nat) (v:TV) (new:List (Nat×bl)):St:=
 match dst with
 |some d=>{s with tmps:=(d,v)::s.tmps,cj:=new++s.cj}
 |none=>{s with cj:=new++s.cj}
theorem Fk (o:Oper) (s:St) (k:St→Option ρ) (v:TV):dp o s k v=k (s.step o.dst v []):=by
 unfold dp St.step;cases o.dst<;>rfl
def oQ (E:ao) (o:Oper) (t:St) (v:TV) (new:List (Nat×bl)):Prop:=
 (∀x∈new,∃d,o.dst=some d∧x.1/32=d∧t.box x.1=none)∧
 ∀(s:St),(∀x∈o.op.operands.toList,s.ev x=t.ev x∧Ag s t (t.ev x))→(∀x∈new,s.box x.1=none)→∀{σ:Type} (k:St→Option σ),a2 E o s k=k (s.step o.dst v new)
theorem jE {t:Nat} {k:Ty→Option ρ} {r:ρ} (h:ea E t k=some r):∃T,k T=some r∧∀{σ:Type} (k':Ty→Option σ),ea E t k'=k' T:=by
 unfold ea at h;split at h;rename_i T b;exact ⟨T,h,fun k'=>by unfold ea;rw [b]⟩;cases h
theorem afp {t:St} {T:Ty} {a:TV} {k:TV→Option ρ} {r:ρ} (h:kV t T a k=some r):∃v,k v=some r∧∀(s:St),Ag s t a→∀{σ:Type} (k':TV→Option σ),kV s T a k'=k' v:=by
 cases a with
 |ref b p=>
  simp only [kV] at h;obtain ⟨x,d,_,g⟩:=ka h;split at d;rename_i e;obtain ⟨c,j,h4⟩:=pa _ _ _ _ d;exact ⟨_,j,fun s f σ k'=>by simp only [kV];rw [g s (f _ (by simp [TV.aF])),ak e,h4]⟩;cases d
 |bw u x=>
  simp only [kV] at h;split at h;rename_i e;exact ⟨_,h,fun s f σ k'=>by simp only [kV];rw [ak e]⟩;cases h
 |_=>simp [kV] at h
theorem aeI {t:St} {T:Ty} {x i:TV} {k:TV→Option ρ} {r:ρ} (h:nK t T x i k=some r):∃v,k v=some r∧∀(s:St),Ag s t x→∀{σ:Type} (k':TV→Option σ),nK s T x i k'=k' v:=by
 unfold nK at h;obtain ⟨y,n,rfl,d⟩:=qC h;clear h;cases x with
 |ad u xs=>
  cases u with
  |slice u=>
   simp only at d;split at d;rename_i f;split at d;rename_i a q;exact ⟨_,d,fun s e σ k'=>by simp only [nK,asInt];simp_all⟩;cases d;cases d
  |_=>simp at d
 |sl b p=>
  simp only at d;obtain ⟨x,c,_,g⟩:=ka d;split at c;rename_i f;obtain ⟨m,l,h4⟩:=K3 c;obtain ⟨j,h5,h6⟩:=uc l;exact ⟨_,h5,fun s e σ k'=>by simp only [nK,asInt];rw [g s (e _ (by simp [TV.aF])),ak f,h4 s e,h6]⟩;cases c
 |slw b p lo n=>
  simp only at d;obtain ⟨x,c,_,g⟩:=ka d;split at c;rename_i f;obtain ⟨j,h5,h6⟩:=uc c;exact ⟨_,h5,fun s e σ k'=>by simp only [nK,asInt];rw [g s (e _ (by simp [TV.aF])),ak f,h6]⟩;cases c
 |ref b p=>
  simp only at d;obtain ⟨x,c,_,g⟩:=ka d;split at c;rename_i f;split at c;split at c;cases c;rename_i o;obtain ⟨j,h5,h6⟩:=uc c;exact ⟨_,h5,fun s e σ k'=>by simp only [nK,asInt];rw [g s (e _ (by simp [TV.aF])),ak f,aj o,h6]⟩;cases c;cases c
 |_=>simp at d
theorem Rk {n:Nat} {lo hi:Option TV} {k:Nat→Nat→Option ρ} {r:ρ} (h:mg n lo hi k=some r):∃l g,k l g=some r∧∀{σ:Type} (k':Nat→Nat→Option σ),mg n lo hi k'=k' l g:=by
 unfold mg at h;split at h;split at h;exact ⟨_,_,h,fun k'=>rfl⟩;obtain ⟨d,m,rfl,b⟩:=qC h;obtain ⟨j,h5,h6⟩:=uc b;exact ⟨_,_,h5,fun k'=>by simp only [mg,asInt];rw [h6]⟩;obtain ⟨d,m,rfl,b⟩:=qC h;obtain ⟨j,h5,h6⟩:=uc b;split at h5;exact ⟨_,_,h5,fun k'=>by simp only [mg,asInt];rw [h6]⟩;obtain ⟨f,o,rfl,c⟩:=qC h5;obtain ⟨e,h8,h9⟩:=uc c;exact ⟨_,_,h8,fun k'=>by simp only [mg,asInt];rw [h6,h9]⟩
theorem ak8 {t:St} {T:Ty} {x:TV} {lo hi:Option TV} {k:TV→Option ρ} {r:ρ} (h:ky t T x lo hi k=some r):∃v,k v=some r∧∀(s:St),Ag s t x→∀{σ:Type} (k':TV→Option σ),ky s T x lo hi k'=k' v:=by
 cases T with
 |bP=>
  simp only [ky] at h;split at h;obtain ⟨l,g,j,e⟩:=Rk h;exact ⟨_,j,fun s c σ k'=>by simp only [ky];rw [e]⟩;cases h
 |slice T=>
  simp only [ky] at h;obtain ⟨n,j,e⟩:=K3 h;obtain ⟨l,g,d,h4⟩:=Rk j;cases x with
  |ad u xs=>
   cases u with
   |slice u=>
    simp only at d;split at d;rename_i f;exact ⟨_,d,fun s c σ k'=>by simp only [ky];simp_all⟩;cases d
   |_=>simp at d
  |sl b p=>
   simp only at d;obtain ⟨y,h5,_,h6⟩:=ka d;split at h5;rename_i f;split at h5;rename_i o;exact ⟨_,h5,fun s c σ k'=>by simp only [ky];rw [e s c,h4,h6 s (c _ (by simp [TV.aF])),ak f,o]⟩;rename_i o;exact ⟨_,h5,fun s c σ k'=>by simp only [ky];rw [e s c,h4,h6 s (c _ (by simp [TV.aF])),ak f,o]⟩;cases h5
  |slw b p q z=>
   simp only at d;obtain ⟨y,h5,_,h6⟩:=ka d;split at h5;rename_i f;exact ⟨_,h5,fun s c σ k'=>by simp only [ky];rw [e s c,h4,h6 s (c _ (by simp [TV.aF])),ak f]⟩;cases h5
  |nil=>exact ⟨_,d,fun s c σ k'=>by simp only [ky];rw [e s c,h4]⟩
  |_=>simp at d
 |_=>simp [ky] at h
theorem acQ {t:St}:∀(T:Ty) (n:Nat) (f:List (Nat×Operand)) (k:TV→Option ρ) (r:ρ),ht t T n f k=some r→
 ∃v,k v=some r∧(∀b∈v.aF,∃x∈f,b∈(t.ev x.2).aF)∧∀(s:St),(∀x∈f,s.ev x.2=t.ev x.2)→∀{σ:Type} (k':TV→Option σ),ht s T n f k'=k' v:=by
 have u:∀T:Ty,(mY T).aF=[]:=by
  intro T
  induction T with
  |cons a d y z=>simp only [mY,TV.aF,y,z];rfl
  |_=>rfl
 intro T
 induction T with
 |cons T U _ q=>
  intro n f k r h
  match f,h with
  |[],h=>
   simp only [ht] at h;obtain ⟨v,j,l,o⟩:=q _ _ _ r h;refine ⟨_,j,fun b c=>?_,fun s g σ k'=>by simp only [ht];rw [o s g]⟩;simp only [TV.aF,u,dJ] at c;exact l b c
  |(i,x)::f,h=>
   simp only [ht] at h;split at h;rename_i hi;split at h;rename_i C;obtain ⟨v,j,l,o⟩:=q _ _ _ r h;refine ⟨_,j,fun b c=>?_,fun s g σ k'=>by have e:=g (i,x) (by simp);simp only at e;simp only [ht,hi];grind⟩;simp only [TV.aF,aZ] at c;rcases c with c|c
   simp_all;simp_all;cases h;rename_i hi;obtain ⟨v,j,l,o⟩:=q _ _ _ r h;refine ⟨_,j,fun b c=>?_,fun s g σ k'=>by simp only [ht,hi];rw [o s g]⟩;simp only [TV.aF,u,dJ] at c;exact l b c
 |unit=>
  intro n f k r h
  match f,h with
  |[],h=>exact ⟨_,h,fun b c=>by simp [TV.aF] at c,fun s g σ k'=>rfl⟩
  |_::_,h=>simp [ht] at h
 |_=>intro n f k r h;simp [ht] at h
theorem yb {α:Type} (l m:List (Nat×α)) (n:Nat):lk (l++m) n=(lk l n).or (lk m n):=by
 induction l with
 |nil=>rfl
 |cons x l b=>
  obtain ⟨k,v⟩:=x;rw [jG,gK,gK,b];split<;>rfl
theorem pj {α:Type} {l:List (Nat×α)} {n:Nat} (h:∀x∈l,x.1≠n):lk l n=none:=by
 induction l with
 |nil=>rfl
 |cons x l c=>
  obtain ⟨k,v⟩:=x;rw [gK,aj (h (k,v) (by simp)),c (fun y b=>h y (by simp [b]))]
theorem yo {t:St} {id:Nat} {x:bl} {k:St→Option ρ} {r:ρ} (h:kv t id x k=some r):
 id%32≠0∧t.box id=none∧k {t with cj:=(id,x)::t.cj}=some r∧∀(s:St),s.box id=none→∀{σ:Type} (k':St→Option σ),kv s id x k'=k' {s with cj:=(id,x)::s.cj}:=by
 unfold kv at h;split at h;cases h;rename_i b;have c:id%32≠0:=by
  intro e;simp_all
 split at h;cases h;rename_i d;exact ⟨c,d,h,fun s f σ k'=>by unfold kv;rw [b];simp only [f]⟩
end
section
variable {ρ σ:Type} {E:ao}
def HK (o:Oper) (s t:St):Prop:=∀x∈o.op.operands.toList,s.ev x=t.ev x∧Ag s t (t.ev x)
theorem fA {q:Bool} {o:Oper} {t:St} {k:St→Option ρ} {r:ρ} {v:TV} (h:dp o t k v=some r)
 (c:∀(s:St),HK o s t→∀{σ:Type} (k':St→Option σ),a2 E o s k'=dp o s k' v):
 ∃v new,k (t.step o.dst v new)=some r∧oQ E o t v new∧(q=false→new=[]):=
 ⟨v,[],by rw [Fk] at h;exact h,⟨fun x d=>(by cases d),fun s b _ σ k'=>by rw [c s b,Fk]⟩,fun _=>rfl⟩
theorem EY {d:Nat} {T:Ty} {xs:List T.ai} {t:St} {k:St→Option ρ} {r:ρ} {o:Nat} (h:lH t o d T xs k=some r):
 ∃v new,k (t.step (some d) v new)=some r∧(∀x∈new,∃b,some d=some b∧x.1/32=b∧t.box x.1=none)∧∀(s:St),(∀x∈new,s.box x.1=none)→∀{σ:Type} (k':St→Option σ),lH s o d T xs k'=k' (s.step (some d) v new):=by
 unfold lH at h;obtain ⟨j,e,f,h4⟩:=yo h;refine ⟨.sl (ey o d) [],[(ey o d,⟨.slice T,true,false,.ab (.slice T) xs⟩)],f,fun x c=>?_,fun s g σ k'=>?_⟩;simp only [gB] at c;subst c;exact ⟨d,rfl,by show (d*32+o%32)/32=d;omega,e⟩;unfold lH;rw [h4 s (g _ (gB.2 rfl))];rfl
theorem UA {d:Nat} {T:Ty} {c:TV} {t:St} {k:St→Option ρ} {r:ρ} {o:Nat} (h:newVar t o d T c k=some r):
 ∃v new,k (t.step (some d) v new)=some r∧(∀x∈new,∃b,some d=some b∧x.1/32=b∧t.box x.1=none)∧∀(s:St),(∀x∈new,s.box x.1=none)→∀{σ:Type} (k':St→Option σ),newVar s o d T c k'=k' (s.step (some d) v new):=by
 unfold newVar at h;obtain ⟨l,f,g,h4⟩:=yo h;refine ⟨.ref (ey o d) [],[(ey o d,⟨T,false,false,c⟩)],g,fun x e=>?_,fun s j σ k'=>?_⟩;simp only [gB] at e;subst e;exact ⟨d,rfl,by show (d*32+o%32)/32=d;omega,f⟩;unfold newVar;rw [h4 s (j _ (gB.2 rfl))];rfl
theorem Uy {d:Nat} {T:Ty} {xs:List T.ai} {t:St} {k:St→Option ρ} {r:ρ} {o:Nat} (h:q5 t o d T xs k=some r):
 ∃v new,k (t.step (some d) v new)=some r∧(∀x∈new,∃b,some d=some b∧x.1/32=b∧t.box x.1=none)∧∀(s:St),(∀x∈new,s.box x.1=none)→∀{σ:Type} (k':St→Option σ),q5 s o d T xs k'=k' (s.step (some d) v new):=by
 unfold q5 at h;obtain ⟨j,e,f,h4⟩:=yo h;refine ⟨.sl (ey o d) [],[(ey o d,⟨.slice T,true,false,.tup (.ad (.slice T) xs)⟩)],f,fun x c=>?_,fun s g σ k'=>?_⟩;simp only [gB] at c;subst c;exact ⟨d,rfl,by show (d*32+o%32)/32=d;omega,e⟩;unfold q5;rw [h4 s (g _ (gB.2 rfl))];rfl
theorem Um {K:Ty} {c:TV} {k:List (K.ai×Int×Unit)→Option ρ} {r:ρ} (h:iv K c k=some r):∃xs,k xs=some r∧∀{σ:Type} (k':List (K.ai×Int×Unit)→Option σ),iv K c k'=k' xs:=by
 unfold iv at h;split at h;rotate_left;cases h;split at h;rename_i y b;exact ⟨y,h,fun k'=>by simp only [iv,b]⟩;cases h
theorem aeX {K:Ty} {v:TV} {k:K.ai→Option ρ} {r:ρ} (h:kq K v k=some r):∃x,k x=some r∧∀{σ:Type} (k':K.ai→Option σ),kq K v k'=k' x:=by
 unfold kq at h;split at h;rotate_left;cases h;split at h;rename_i y b;exact ⟨y,h,fun k'=>by simp only [kq,b]⟩;cases h
theorem df {o:Oper} {op:Op} (b:o.op=op) {x:Operand} (c:x∈op.operands.toList):x∈o.op.operands.toList:=by rw [b];exact c
theorem UH {o:Oper} (ac:ra o.op=true) {t:St} {k:St→Option ρ} {r:ρ} (h:a2 E o t k=some r):
 ∃v new,k (t.step o.dst v new)=some r∧oQ E o t v new∧(Lv o.op=false→new=[]):=by
 generalize am:Lv o.op=q;cases f:o.op with
 |move x=>
  have m:x∈o.op.operands.toList:=df f (by simp [Op.operands]);have e:∀{σ:Type} (s:St) (k:St→Option σ),a2 E o s k=dp o s k (s.ev x):=by intro σ s k;unfold a2;rw [f]
  rw [e] at h;exact fA h fun s g σ k'=>by rw [e,(g x m).1]
 |assign x=>
  have m:x∈o.op.operands.toList:=df f (by simp [Op.operands]);have e:∀{σ:Type} (s:St) (k:St→Option σ),a2 E o s k=dp o s k (s.ev x):=by intro σ s k;unfold a2;rw [f]
  rw [e] at h;exact fA h fun s g σ k'=>by rw [e,(g x m).1]
 |pick c x y=>
  have an:c∈o.op.operands.toList:=df f (by simp [Op.operands]);have O:x∈o.op.operands.toList:=df f (by simp [Op.operands]);have af:y∈o.op.operands.toList:=df f (by simp [Op.operands]);unfold a2 at h;rw [f] at h;simp only at h;split at h;rename_i b aa;split at h;exact fA h fun s g σ k'=>by unfold a2;rw [f];simp only [(g c an).1,(g x O).1,aa]
  exact fA h fun s g σ k'=>by unfold a2;rw [f];simp only [(g c an).1,(g y af).1,aa]
  cases h
 |load T x=>
  have m:x∈o.op.operands.toList:=df f (by simp [Op.operands]);unfold a2 at h;rw [f] at h;simp only at h;obtain ⟨U,l,C⟩:=jE h;obtain ⟨v,z,h4⟩:=afp l;exact fA z fun s g σ k'=>by unfold a2;rw [f];simp only;rw [C,(g x m).1,h4 s (g x m).2]
 |nilCheck x=>
  have m:x∈o.op.operands.toList:=df f (by simp [Op.operands]);unfold a2 at h;rw [f] at h;simp only at h;split at h
  all_goals first
   |cases h
   |(rename_i I;exact fA h fun s g σ k'=>by unfold a2;rw [f];simp only;rw [(g x m).1,I])
 |binOp op T x y U=>
  have O:x∈o.op.operands.toList:=df f (by simp [Op.operands]);have af:y∈o.op.operands.toList:=df f (by simp [Op.operands]);unfold a2 at h;rw [f] at h;simp only at h;obtain ⟨v,z,h4⟩:=acL h;exact fA z fun s g σ k'=>by unfold a2;rw [f];simp only;rw [(g x O).1,(g y af).1,h4]
 |unOp op T x=>
  have m:x∈o.op.operands.toList:=df f (by simp [Op.operands]);unfold a2 at h;rw [f] at h;simp only at h;split at h;rename_i I;exact fA h fun s g σ k'=>by unfold a2;rw [f];simp only;rw [(g x m).1,I]
  rename_i I;obtain ⟨v,z,h4⟩:=S5 h;exact fA z fun s g σ k'=>by unfold a2;rw [f];simp only;rw [(g x m).1,I];simp only;rw [h4]
  cases h
 |convert u T x=>
  have m:x∈o.op.operands.toList:=df f (by simp [Op.operands]);unfold a2 at h;rw [f] at h;simp only at h;obtain ⟨U,l,C⟩:=jE h;obtain ⟨V,z,h4⟩:=jE l;split at z;rename_i I;exact fA z fun s g σ k'=>by unfold a2;rw [f];simp only;rw [C,h4,(g x m).1,I]
  rename_i I;obtain ⟨v,h5,h6⟩:=MB z;exact fA h5 fun s g σ k'=>by
   unfold a2;rw [f];simp only;rw [C,h4,(g x m).1];exact h6 s (g x m).2 _
  cases z
 |slice T x lo hi O=>
  have m:x∈o.op.operands.toList:=df f (by simp [Op.operands]);have a1:∀y,lo=some y→y∈o.op.operands.toList:=fun y e=>df f (by subst e;simp [Op.operands])
  have a0:∀y,hi=some y→y∈o.op.operands.toList:=fun y e=>df f (by subst e;simp [Op.operands])
  unfold a2 at h;rw [f] at h;simp only at h;split at h;obtain ⟨U,l,C⟩:=jE h;obtain ⟨v,z,h4⟩:=ak8 l;exact fA z fun s g σ k'=>by
   have Y:lo.map s.ev=lo.map t.ev:=by
    cases lo with
    |none=>rfl
    |some y=>simp only [cx];rw [(g y (a1 y rfl)).1]
   have Z:hi.map s.ev=hi.map t.ev:=by
    cases hi with
    |none=>rfl
    |some y=>simp only [cx];rw [(g y (a0 y rfl)).1]
   unfold a2;rw [f];simp only;rw [C,(g x m).1,Y,Z,h4 s (g x m).2]
  cases h
 |fieldAddr T x n=>
  have m:x∈o.op.operands.toList:=df f (by simp [Op.operands]);unfold a2 at h;rw [f] at h;simp only at h;obtain ⟨U,l,C⟩:=jE h;split at l;rename_i b p I;obtain ⟨y,z,_,h4⟩:=ka l;split at z;rename_i D;split at z;rename_i ae;exact fA z fun s g σ k'=>by
   have:=(g x m).2;rw [I] at this;unfold a2;rw [f];simp only;rw [C,(g x m).1,I];simp only;rw [h4 s (this b (by simp [TV.aF])),ak D,ae]
  cases z;cases z;rename_i I;split at l;rename_i D;obtain ⟨u,y,z,h4⟩:=ua _ _ _ _ _ l;exact fA z fun s g σ k'=>by
   unfold a2;rw [f];simp only;rw [C,(g x m).1,I];simp_all
  cases l;cases l
 |field T x n=>
  have m:x∈o.op.operands.toList:=df f (by simp [Op.operands]);unfold a2 at h;rw [f] at h;simp only at h;obtain ⟨U,l,C⟩:=jE h;split at l;rename_i I;split at l;rename_i D;obtain ⟨u,y,z,h4⟩:=ua _ _ _ _ _ l;exact fA z fun s g σ k'=>by
   unfold a2;rw [f];simp only;rw [C,(g x m).1,I];simp_all
  cases l;cases l
 |indexAddr T x i=>
  have O:x∈o.op.operands.toList:=df f (by simp [Op.operands]);have ao:i∈o.op.operands.toList:=df f (by simp [Op.operands]);unfold a2 at h;rw [f] at h;simp only at h;obtain ⟨U,l,C⟩:=jE h;obtain ⟨v,z,h4⟩:=aeI l;exact fA z fun s g σ k'=>by unfold a2;rw [f];simp only;rw [C,(g x O).1,(g i ao).1,h4 s (g x O).2]
 |index T x i=>
  have O:x∈o.op.operands.toList:=df f (by simp [Op.operands]);have ao:i∈o.op.operands.toList:=df f (by simp [Op.operands]);unfold a2 at h;rw [f] at h;simp only at h;obtain ⟨U,l,C⟩:=jE h;obtain ⟨az,n,z,h4⟩:=qC l;split at h4;rename_i I;split at h4;rename_i av;exact fA h4 fun s g σ k'=>by unfold a2;rw [f];simp only;rw [C,(g x O).1,(g i ao).1,z];simp only [asInt];rw [I];simp only [av]
  cases h4;rename_i I;split at h4;rename_i D;split at h4;rename_i av;exact fA h4 fun s g σ k'=>by unfold a2;rw [f];simp only;rw [C,(g x O).1,(g i ao).1,z];simp only [asInt];simp_all
  cases h4;cases h4;cases h4
 |extract x n=>
  have m:x∈o.op.operands.toList:=df f (by simp [Op.operands]);unfold a2 at h;rw [f] at h;simp only at h;split at h;rename_i I;split at h;rename_i J;exact fA h fun s g σ k'=>by unfold a2;rw [f];simp only;rw [(g x m).1,I];simp only [J]
  cases h;cases h
 |build T a4=>
  have m:∀x∈a4.toList,x.2∈o.op.operands.toList:=fun x X=>df f (by
   simp only [Op.operands,u1]
   grind)
  unfold a2 at h;rw [f] at h;simp only at h;obtain ⟨U,l,C⟩:=jE h;split at l;split at l;rename_i D;obtain ⟨v,z,ay,h4⟩:=acQ _ _ _ _ _ l;split at z;rename_i ae;obtain ⟨x,h5,h6⟩:=Mf _ _ _ _ z;exact fA h5 fun s g σ k'=>by
   unfold a2;rw [f];simp only;rw [C];simp only;rw [ak D,h4 s (fun x X=>(g x.2 (m x (Lq X))).1),ak ae,h6 s (fun b aa=>by
    obtain ⟨x,X,aa⟩:=ay b aa;exact (g x.2 (m x (Lq X))).2 b aa)]
  rename_i ae;exact fA z fun s g σ k'=>by
   unfold a2;rw [f];simp only;rw [C];simp only;rw [ak D,h4 s (fun x X=>(g x.2 (m x (Lq X))).1),aj ae]
  cases l;split at l;rename_i al;exact fA l fun s g σ k'=>by unfold a2;simp_all
  rename_i x y al;split at l;rename_i D;split at l;rename_i p q Y Z;have O:=m (0,x) (by rw [al];simp);have af:=m (1,y) (by rw [al];simp);exact fA l fun s g σ k'=>by
   unfold a2;rw [f];simp only;rw [C];simp only [al];rw [ak D,(g x O).1,(g y af).1,Y,Z]
  cases l;cases l;cases l;cases l
 |alloc T=>
  unfold a2 at h;rw [f] at h;simp only at h;split at h;rotate_left;cases h;rename_i d W;obtain ⟨U,l,C⟩:=jE h;split at l;rename_i D;obtain ⟨v,new,ag,ah,ar⟩:=UA l;refine ⟨v,new,by rw [W];exact ag,⟨by rw [W];exact ah,fun s g J σ k'=>?_⟩,fun J=>(by rw [←am,f] at J;cases J)⟩;unfold a2;grind;rename_i D;split at l;obtain ⟨v,new,ag,ah,ar⟩:=UA l;refine ⟨v,new,by rw [W];exact ag,⟨by rw [W];exact ah,fun s g J σ k'=>?_⟩,fun J=>(by rw [←am,f] at J;cases J)⟩;unfold a2;grind;cases l
 |makeSlice T n c=>
  have a3:n∈o.op.operands.toList:=df f (by simp [Op.operands]);have an:c∈o.op.operands.toList:=df f (by simp [Op.operands]);unfold a2 at h;rw [f] at h;simp only at h;split at h;rotate_left;cases h;rename_i d W;obtain ⟨U,l,C⟩:=jE h;split at l;obtain ⟨az,(i:Int),Y,z⟩:=qC l;obtain ⟨a5,(j:Int),Z,h4⟩:=qC z
  match i,j,Y,Z,h4 with
  | .ofNat i,.ofNat j,Y,Z,h4=>
   simp only at h4;split at h4;rename_i D;obtain ⟨v,new,ag,ah,ar⟩:=EY h4;refine ⟨v,new,by rw [W];exact ag,⟨by rw [W];exact ah,fun s g J σ k'=>?_⟩,fun J=>(by rw [←am,f] at J;cases J)⟩;unfold a2;rw [f];simp only [W];rw [C];simp only;rw [(g n a3).1,(g c an).1,Y,Z];simp only [asInt];rw [ak D,ar s J];cases h4
  | .negSucc _,_,_,_,h4=>cases h4
  | .ofNat _,.negSucc _,_,_,h4=>cases h4
  cases l
 |makeMap T n=>
  unfold a2 at h;rw [f] at h;simp only at h;split at h;rotate_left;cases h;rename_i d W;split at h;rotate_left;cases h;rename_i K ad;obtain ⟨l,C,z,h4⟩:=yo h;refine ⟨.mp (ey E.fL d),[(ey E.fL d,⟨.slice (eI K),true,false,.tup (.ab (.slice (eI K)) (show List (K.ai×Int×Unit) from []))⟩)],by rw [W];exact z,⟨fun x X=>?_,fun s g J σ k'=>?_⟩,fun J=>(by rw [←am,f] at J;cases J)⟩;simp only [gB] at X;subst X;exact ⟨d,W,by show ey E.fL d/32=d;unfold ey;omega,C⟩;unfold a2;rw [f];simp only [W,ad];rw [h4 s (J _ (gB.2 rfl))];rfl
 |lookup T m x ok=>
  have mm:m∈o.op.operands.toList:=df f (by simp [Op.operands]);have O:x∈o.op.operands.toList:=df f (by simp [Op.operands]);unfold a2 at h;rw [f] at h;simp only at h;split at h;rotate_left;cases h;rename_i K b ad ax;obtain ⟨bx,l,_,C⟩:=ka h;obtain ⟨xs,z,h4⟩:=Um l;obtain ⟨key,h5,h6⟩:=aeX z;exact fA h5 fun s g σ k'=>by
   have e:=g m mm;rw [ax] at e;unfold a2;rw [f];simp only [ad,e.1];rw [C s (e.2 _ (by simp [TV.aF])),h4,(g x O).1,h6]
 |call c=>
  cases D:c.callee with
  |builtin b=>
   cases b with
   |len=>
    unfold a2 at h;rw [f] at h;simp only [D] at h;unfold kj at h;split at h;rename_i T ts v _ aw I;obtain ⟨x,au,aq⟩:∃x,c.args.toList=[x]∧t.ev x=v:=by
     simp_all
    have m:x∈o.op.operands.toList:=df f (by
     have:x∈c.args.toList:=by rw [au];simp
     simp only [Op.operands,Call.operands,D,Array.toList_append];simp_all)
    split at h;rename_i ap;obtain ⟨n,z,h4⟩:=K3 h;exact fA z fun s g σ k'=>by
     have e:=g x m;rw [aq] at e;unfold a2;rw [f];simp only [D];unfold kj;simp_all
    rename_i ap;split at h;exact fA h fun s g σ k'=>by
     have e:=g x m;rw [aq] at e;unfold a2;rw [f];simp only [D];unfold kj;simp_all
    cases h
    ·rename_i ap;split at h;rotate_left;cases h;rename_i K ad;split at h;rotate_left;cases h;obtain ⟨bx,l,_,C⟩:=ka h;obtain ⟨xs,z,h4⟩:=Um l;exact fA z fun s g σ k'=>by
      have e:=g x m;rw [aq] at e;unfold a2;rw [f];simp only [D];unfold kj;rw [aw,au];simp only [dh,gC,ap,ad,e.1];rw [C s (e.2 _ (by simp [TV.aF])),h4]
    cases h;contradiction;contradiction;contradiction;cases h
   |_=>rw [f] at ac;simp [ra,D] at ac
  |_=>rw [f] at ac;simp [ra,D] at ac
 |_=>rw [f] at ac;simp [ra] at ac
end
section
variable {ρ σ:Type} {E:ao}
theorem ald {m:PM} (h:m.gM=true):m.fy=false∧m.jT=false:=by cases m<;>simp [PM.gM] at h<;>exact ⟨rfl,rfl⟩
theorem Vm:∀(b:List PM) (vs:List TV) (s:St) (k:St→List TV→(TV→TV)→Option ρ),(∀m∈b,m.gM=true)→b.length=vs.length→eB s b vs k=k s vs id:=by
 intro b
 induction b with
 |nil=>
  intro vs s k _ c;cases vs with
  |nil=>rfl
  |cons _ _=>simp at c
 |cons m b f=>
  intro vs s k e c;cases vs with
  |nil=>simp at c
  |cons v vs=>
   have d:=e m (by simp);have:eB s (m::b) (v::vs) k=eB s b vs fun s vs κ=>k s (κ v::vs) κ:=by cases m<;>first|rfl|simp [PM.gM] at d
   simp_all
theorem Vl:∀(b:List PM) (vs:List TV) (s:St) (k:St→List TV→(TV→TV)→Option ρ),(∀m∈b,m.gM=true)→b.length=vs.length→cO s b vs k=k s vs id:=by
 intro b
 induction b with
 |nil=>
  intro vs s k _ c;cases vs with
  |nil=>rfl
  |cons _ _=>simp at c
 |cons m b f=>
  intro vs s k e c;cases vs with
  |nil=>simp at c
  |cons v vs=>
   have d:=e m (by simp);have:cO s (m::b) (v::vs) k=cO s b vs fun s vs κ=>k s (κ v::vs) κ:=by
    cases m with
    |ro t=>simp only [cO]
    |bw t=>simp only [cO]
    |_=>simp [PM.gM] at d
   simp_all
theorem ahT:∀(b:List PM) (vs:List TV) (s:St) (k:St→List TV→(TV→TV)→Option ρ) (r:ρ),(∀m∈b,m.gM=true)→eB s b vs k=some r→b.length=vs.length:=by
 intro b
 induction b with
 |nil=>
  intro vs s k r _ h;cases vs with
  |nil=>rfl
  |cons _ _=>simp [eB] at h
 |cons m b f=>
  intro vs s k r d h;cases vs with
  |nil=>simp [eB] at h
  |cons v vs=>
   have c:=d m (by simp);have e:eB s (m::b) (v::vs) k=eB s b vs fun s vs κ=>k s (κ v::vs) κ:=by cases m<;>first|rfl|simp [PM.gM] at c
   grind
theorem T1 {t:St} {m:PM} {v:TV} {k:D→Option ρ} {r:ρ} (h:gr t m v k=some r):∃d,k d=some r∧∀(s:St),Ag s t v→∀{σ:Type} (k':D→Option σ),gr s m v k'=k' d:=by
 cases m with
 |ro T=>
  simp only [gr] at h;obtain ⟨x,e,g⟩:=Mf _ _ _ _ h;exact ⟨_,e,fun s f σ k'=>by simp only [gr];rw [g s f]⟩
 |bw T=>
  cases v with
  |bw u x=>
   simp only [gr] at h;split at h;rename_i y n;exact ⟨_,h,fun s f σ k'=>by simp only [gr,n]⟩;cases h
  |ref b p=>
   simp only [gr] at h;obtain ⟨x,e,_,g⟩:=ka h;split at e;rename_i l;obtain ⟨c,j,h4⟩:=pa _ _ _ _ e;obtain ⟨y,h5,h6⟩:=adh _ _ _ _ j;exact ⟨_,h5,fun s f σ k'=>by simp only [gr];rw [g s (f _ (by simp [TV.aF])),ak l,h4,h6]⟩;cases e
  |_=>simp [gr] at h
 |_=>simp [gr] at h
theorem ae9 {t:St}:∀(b:List PM) (vs:List TV) (k:List D→Option ρ) (r:ρ),(∀m∈b,m.gM=true)→ja t b vs k=some r→
 ∃ds,k ds=some r∧∀(s:St),(∀v∈vs,Ag s t v)→∀{σ:Type} (k':List D→Option σ),ja s b vs k'=k' ds:=by
 intro b
 induction b with
 |nil=>
  intro vs k r _ h;cases vs with
  |nil=>exact ⟨[],h,fun s j σ k'=>rfl⟩
  |cons _ _=>simp [ja] at h
 |cons m b l=>
  intro vs k r c h;cases vs with
  |nil=>simp [ja] at h
  |cons v vs=>
   have f:=c m (by simp);have e:∀{σ:Type} (s:St) (k:List D→Option σ),jY s m v k=gr s m v fun d=>k [d]:=by
    intro σ s k;cases m<;>first|rfl|simp [PM.gM] at f
   simp only [ja] at h;rw [e] at h;obtain ⟨d,g,n⟩:=T1 h;obtain ⟨ds,h4,h5⟩:=l vs _ r (fun m h=>c m (by simp [h])) g;refine ⟨_,h4,fun s j σ k'=>?_⟩;simp only [ja];simp_all
theorem acy:∀(b:List PM) (vs:List TV) (ds:List D) (s:St) (k:St→Option ρ) (r:ρ),(∀m∈b,m.gM=true)→gT s b vs ds k=some r→
 k s=some r∧∀(s:St) {σ:Type} (k':St→Option σ),gT s b vs ds k'=k' s:=by
 intro b
 induction b with
 |nil=>
  intro vs ds s k r _ h;cases vs<;>cases ds<;>first|exact ⟨h,fun s σ k'=>rfl⟩|simp [gT] at h
 |cons m b g=>
  intro vs ds s k r d h;cases vs with
  |nil=>simp [gT] at h
  |cons v vs=>
   have c:=(ald (d m (by simp))).1;simp only [gT] at h;rw [DW c] at h;obtain ⟨e,f⟩:=g vs ds s k r (fun m h=>d m (by simp [h])) h;exact ⟨e,fun s σ k'=>by simp only [gT];rw [DW c,f]⟩
def HL (d:Nat) (t:St) (new:List (Nat×bl)):Prop:=∀x∈new,x.1/32=d∧t.box x.1=none
theorem D0 (t:St) (new:List (Nat×bl)) (n:Nat):St.box {t with cj:=new++t.cj} n=(lk new n).or (t.box n):=yb _ _ _
theorem alS {d:Nat}:∀(T:Ty) (x:T.ai) (t:St) (id:Nat) (k:St→Nat→TV→Option ρ) (r:ρ),d*32≤id→id≤d*32+32→gg t id T x k=some r→
 ∃new g v,k {t with cj:=new++t.cj} g v=some r∧(id≤g∧g≤d*32+32)∧(∀y∈new,id≤y.1∧y.1<g)∧HL d t new∧
  ∀(s:St),(∀y∈new,s.box y.1=none)→∀{σ:Type} (k':St→Nat→TV→Option σ),gg s id T x k'=k' {s with cj:=new++s.cj} g v:=by
 have aQ:∀(T:Ty) (x:T.ai) (t:St) (id:Nat) (k:St→Nat→TV→Option ρ) (r:ρ),d*32≤id→id≤d*32+32→(∀{σ:Type} (s:St) (k:St→Nat→TV→Option σ),gg s id T x k=k s id (.ad T x))→gg t id T x k=some r→
  ∃new g v,k {t with cj:=new++t.cj} g v=some r∧(id≤g∧g≤d*32+32)∧(∀y∈new,id≤y.1∧y.1<g)∧HL d t new∧
   ∀(s:St),(∀y∈new,s.box y.1=none)→∀{σ:Type} (k':St→Nat→TV→Option σ),gg s id T x k'=k' {s with cj:=new++s.cj} g v:=by
  intro T x t id k r f c e h;rw [e] at h;exact ⟨[],id,_,h,⟨cf _,c⟩,fun y b=>(by cases b),fun y b=>(by cases b),fun s _ σ k'=>by rw [e];rfl⟩
 intro T
 induction T with
 |slice T _=>
  intro x t id k r f c h;simp only [gg] at h;obtain ⟨ag,ah,Z,al⟩:=yo h;have ac:id≤d*32+31:=by
   omega
  refine ⟨[(id,⟨.slice T,true,false,.ab (.slice T) x⟩)],id+1,_,Z,⟨by omega,by omega⟩,fun y b=>?_,fun y b=>?_,fun s l σ k'=>?_⟩;simp_all
  grind
  simp only [gg];simp_all
 |cons T U O W=>
  intro x t id k r f c h;by_cases j:(Ty.cons T U).aQ=true;exact aQ _ x t id k r f c (fun s k=>by simp only [gg];rw [ak j]) h;simp only [gg] at h;rw [aj j] at h;obtain ⟨X,J,am,q,u,a3,a4,a5⟩:=O x.1 t id _ r f c h;obtain ⟨Y,K,an,C,D,aa,o,I⟩:=W x.2 _ J _ r (by omega) u.2 q;refine ⟨Y++X,K,_,by rw [c6];exact C,⟨by omega,D.2⟩,fun y b=>?_,fun y b=>?_,fun s l σ k'=>?_⟩
  grind
  rcases aZ.1 b with b|b
  refine ⟨(o y b).1,?_⟩;have:=(o y b).2;rw [D0,Option.or_eq_none_iff] at this;exact this.2;exact a4 y b;simp only [gg];rw [aj j,a5 s (fun y b=>l y (aZ.2 (.inr b))),I _ (fun y b=>by
   rw [D0,l y (aZ.2 (.inl b)),pj (fun z ae=>by grind)];rfl),c6]
 |unit=>
  intro x t id k r f c h;exact ⟨[],id,_,h,⟨cf _,c⟩,fun y b=>(by cases b),fun y b=>(by cases b),fun s _ σ k'=>rfl⟩
 |int af=>intro x t id k r f c h;exact aQ _ x t id k r f c (fun s k=>rfl) h
 |bool=>intro x t id k r f c h;exact aQ _ x t id k r f c (fun s k=>rfl) h
 |bP=>intro x t id k r f c h;exact aQ _ x t id k r f c (fun s k=>rfl) h
 |bG=>intro x t id k r f c h;simp [gg,Ty.aQ] at h
 |arr n T _=>
  intro x t id k r f c h;by_cases j:(Ty.arr n T).aQ=true;exact aQ _ x t id k r f c (fun s k=>by simp only [gg];rw [ak j]) h;simp only [gg] at h;simp_all
theorem alR {d:Nat}:∀(c:List D) (t:St) (id:Nat) (k:St→TV→Option ρ) (r:ρ),d*32≤id→id≤d*32+32→oa t id c k=some r→
 ∃new v,k {t with cj:=new++t.cj} v=some r∧(∀y∈new,id≤y.1)∧HL d t new∧
  ∀(s:St),(∀y∈new,s.box y.1=none)→∀{σ:Type} (k':St→TV→Option σ),oa s id c k'=k' {s with cj:=new++s.cj} v:=by
 intro c
 induction c with
 |nil=>
  intro t id k r g j h;exact ⟨[],_,h,fun y b=>(by cases b),fun y b=>(by cases b),fun s _ σ k'=>rfl⟩
 |cons e c I=>
  intro t id k r g j h;simp only [oa] at h;obtain ⟨J,C,W,n,o,a3,a4,a5⟩:=alS e.t e.x t id _ r g j h;obtain ⟨K,X,q,O,f,u⟩:=I _ C _ r (by omega) o.2 n;refine ⟨K++J,_,by rw [c6];exact q,fun y b=>?_,fun y b=>?_,fun s l σ k'=>?_⟩
  grind
  rcases aZ.1 b with b|b
  refine ⟨(f y b).1,?_⟩;have:=(f y b).2;rw [D0,Option.or_eq_none_iff] at this;exact this.2;exact a4 y b;simp only [oa];rw [a5 s (fun y b=>l y (aZ.2 (.inr b))),u _ (fun y b=>by
   rw [D0,l y (aZ.2 (.inl b)),pj (fun z U=>by grind)];rfl),c6]
theorem aij (c:List D) (v:TV):∃u,∀{σ:Type} (d:Nat) (s:St) (k:St→Option σ),(match c,v with
 |[_],.cons a .unit=>k (s.put d a)
 |_,v=>k (s.put d (.tup v)))=k (s.put d u):=by
 match c,v with
 |[e],.cons a .unit=>exact ⟨a,fun d s k=>rfl⟩
 |[],v=>exact ⟨.tup v,fun d s k=>rfl⟩
 |e::f::c,v=>exact ⟨.tup v,fun d s k=>rfl⟩
 |[e],v=>
  cases v with
  |cons a b=>cases b<;>exact ⟨_,fun d s k=>rfl⟩
  |_=>exact ⟨.tup _,fun d s k=>rfl⟩
theorem VB {t:St} {dst:Option Nat} {b:List D} {k:St→Option ρ} {r:ρ} {o:Nat} (h:rc t o dst b k=some r):
 ∃v new,k (t.step dst v new)=some r∧(∀x∈new,∃d,dst=some d∧x.1/32=d∧t.box x.1=none)∧∀(s:St),(∀x∈new,s.box x.1=none)→∀{σ:Type} (k':St→Option σ),rc s o dst b k'=k' (s.step dst v new):=by
 cases dst with
 |none=>exact ⟨.unit,[],h,fun x c=>(by cases c),fun s _ σ k'=>rfl⟩
 |some d=>
  simp only [rc] at h;obtain ⟨new,v,f,_,g,h4⟩:=alR (d:=d) b t (ey o d) _ r (Nat.le_add_right _ _) (by unfold ey;omega) h;obtain ⟨u,e⟩:=aij b v;refine ⟨u,new,(e d _ k).symm.trans f,fun x c=>⟨d,rfl,g x c⟩,fun s j σ k'=>?_⟩;simp only [rc];rw [h4 s j];exact e d _ k'
theorem acV {t:St} {f:Nat} {vs:List TV} {dst:Option Nat} {k:St→Option ρ} {r:ρ} {c:aB} (j:E.fn f (vs.map mi)=some c) (l:c.bz) (b:∀m∈c.params,m.gM=true) (h:jt E t f vs dst k=some r):
 ∃v new,k (t.step dst v new)=some r∧(∀x∈new,∃d,dst=some d∧x.1/32=d∧t.box x.1=none)∧
  ∀(s:St),(∀v∈vs,Ag s t v)→(∀x∈new,s.box x.1=none)→∀{σ:Type} (k':St→Option σ),jt E s f vs dst k'=k' (s.step dst v new):=by
 unfold jt at h;rw [j] at h;simp only at h;have g:=ahT _ _ _ _ _ b h;rw [Vm _ _ _ _ b g,Vl _ _ _ _ b g] at h;obtain ⟨ds,e,n⟩:=ae9 _ _ _ _ b h;rw [l] at e;split at e;cases e;rename_i D C y;obtain ⟨o,h4⟩:=acy _ _ _ _ _ _ b e;obtain ⟨v,new,h5,h6,u⟩:=VB o;refine ⟨v,new,h5,h6,fun s q z σ k'=>?_⟩;unfold jt;rw [j];simp only;rw [Vm _ _ _ _ b g,Vl _ _ _ _ b g,n s q,l]
 grind
theorem adM {o:Oper} {s t:St} (h:HK o s t) {l:List Operand} (c:∀x∈l,x∈o.op.operands.toList):l.map s.ev=l.map t.ev∧∀v∈l.map t.ev,Ag s t v:=
 ⟨rF fun x b=>(h x (c x b)).1,fun v d=>by
  obtain ⟨x,b,rfl⟩:=b9.1 d;exact (h x (c x b)).2⟩
theorem SS {p:aB→Bool} {o:Oper} {s:St} (h:tM E p o s=true):∃c g f c',o.op=.call c∧c.callee=.value g∧s.ev g=.bV f .unit∧E.fn f ((c.args.toList.map s.ev).map mi)=some c'∧p c'=true:=by
 unfold tM at h
 grind
theorem tN {o:Oper} {c:Call} {g:Operand} {f:Nat} {s:St} (d:o.op=.call c) (b:c.callee=.value g) (e:s.ev g=.bV f .unit) (k:St→Option ρ):a2 E o s k=jt E s f (c.args.toList.map s.ev) o.dst k:=by
 unfold a2;rw [d];simp only [b,e,TV.o4,eF]
theorem Kh {o:Oper} {c:Call} {g:Operand} (d:o.op=.call c) (b:c.callee=.value g):g∈o.op.operands.toList∧∀x∈c.args.toList,x∈o.op.operands.toList:=
 ⟨df d (by
  simp only [Op.operands,Call.operands,b,Array.toList_append];simp_all),fun x e=>df d (by
  simp only [Op.operands,Call.operands,b,Array.toList_append];simp_all)⟩
end
def Mv.tv:Mv→TV→TV
 | .set _ _,v=>v
 | .aw b p,v=>v.aw b p
 | .drop b,v=>v.drop b
def Mv.bx (n:Nat):Mv→Option bl→Option bl
 | .set b x,y=>if b=n then y.map (fun _=>x) else y
 | .aw b p,y=>y.map (bl.aw b p)
 | .drop b,y=>if b=n then none else y.map (bl.bU fun c=> !Nat.beq b c)
def Mv.sv:Mv→List (List (Nat×TV))→List (List (Nat×TV))
 | .set _ _,l=>l
 | .aw b p,l=>l.map fun l=>l.map fun x=>(x.1,x.2.aw b p)
 | .drop b,l=>l.map fun l=>l.map fun x=>(x.1,x.2.drop b)
theorem hZ (s:St) (l m:List Mv):bJ s (l++m)=bJ (bJ s l) m:=by simp [bJ]
theorem afZ (s:St) (m:Mv) (n:Nat):(m.run s).get n=m.tv (s.get n):=by
 cases m with
 |set b x=>rfl
 |aw b p=>
  simp only [Mv.run,Mv.tv,St.get,St.aw,mC];cases lk s.tmps n<;>rfl
 |drop b=>
  simp only [Mv.run,Mv.tv,St.get,St.drop,mC];cases lk s.tmps n<;>rfl
theorem afY (s:St) (m:Mv) (n:Nat):(m.run s).box n=m.bx n (s.box n):=by
 cases m with
 |set b x=>
  simp only [Mv.run,Mv.bx,St.box,St.b4,T6]
 |aw b p=>exact Rm s b p n
 |drop b=>
  simp only [Mv.run,Mv.bx,St.box,St.drop,mC,EJ];split<;>rfl
theorem af0 (s:St) (m:Mv):(m.run s).sv=m.sv s.sv:=by cases m<;>rfl
def jx:List Mv→TV→TV
 |[],v=>v
 |m::l,v=>jx l (m.tv v)
def o1 (n:Nat):List Mv→Option bl→Option bl
 |[],v=>v
 |m::l,v=>o1 n l (m.bx n v)
def XY:List Mv→List (List (Nat×TV))→List (List (Nat×TV))
 |[],v=>v
 |m::l,v=>XY l (m.sv v)
theorem yJ:∀(l:List Mv) (s:St) (n:Nat),(bJ s l).get n=jx l (s.get n)
 |[],_,_=>rfl
 |m::l,s,n=>by rw [show bJ s (m::l)=bJ (m.run s) l from rfl,yJ l,afZ];rfl
theorem n2:∀(l:List Mv) (s:St) (n:Nat),(bJ s l).box n=o1 n l (s.box n)
 |[],_,_=>rfl
 |m::l,s,n=>by rw [show bJ s (m::l)=bJ (m.run s) l from rfl,n2 l,afY];rfl
theorem Mk:∀(l:List Mv) (s:St),(bJ s l).sv=XY l s.sv
 |[],_=>rfl
 |m::l,s=>by rw [show bJ s (m::l)=bJ (m.run s) l from rfl,Mk l,af0];rfl
theorem JN (n:Nat):∀(l:List Mv),o1 n l none=none
 |[]=>rfl
 |m::l=>by
  have:m.bx n none=none:=by cases m<;>simp [Mv.bx]
  simp only [o1,this,JN n l]
theorem TU (b:Nat) (p:aI):∀(v:TV),b∉v.aF→v.aw b p=v:=by
 intro v
 induction v with
 |ref c q=>intro h;simp only [TV.aF,gB] at h;simp only [TV.aw,iQ h,hl,cL]
 |sl c q=>intro h;simp only [TV.aF,gB] at h;simp only [TV.aw,iQ h,hl,cL]
 |slw c q lo n=>intro h;simp only [TV.aF,gB] at h;simp only [TV.aw,iQ h,hl,cL]
 |mp c=>intro h;simp only [TV.aF,gB] at h;simp only [TV.aw,iQ h,hl,cL]
 |cons a d g j=>intro h;simp only [TV.aF,aZ,gQ] at h;simp only [TV.aw,g h.1,j h.2]
 |tup a e=>intro h;simp only [TV.aF] at h;simp only [TV.aw,e h]
 |bV f c e=>intro h;simp only [TV.aF] at h;simp only [TV.aw,e h]
 |_=>intro h;rfl
theorem YF (p:Nat→Bool):∀(v:TV),(∀b∈v.aF,p b=true)→v.bU p=v:=by
 intro v
 induction v with
 |ref c q=>intro h;simp only [TV.bU,h c (by simp [TV.aF]),b5]
 |sl c q=>intro h;simp only [TV.bU,h c (by simp [TV.aF]),b5]
 |slw c q lo n=>intro h;simp only [TV.bU,h c (by simp [TV.aF]),b5]
 |mp c=>intro h;simp only [TV.bU,h c (by simp [TV.aF]),b5]
 |cons a d j l=>intro h;simp only [TV.aF,aZ] at h;simp only [TV.bU,j (fun b e=>h b (.inl e)),l (fun b e=>h b (.inr e))]
 |tup a g=>intro h;simp only [TV.aF] at h;simp only [TV.bU,g h]
 |bV f c g=>intro h;simp only [TV.aF] at h;simp only [TV.bU,g h]
 |_=>intro h;rfl
theorem UE {b:Nat} {v:TV} (h:b∉v.aF):∀c∈v.aF,(!Nat.beq b c)=true:=fun c d=>by
 have:b≠c:=fun e=>h (e▸d)
 simp [iQ this]
theorem af1 {m:Mv} {v:TV} (h:m.at∉v.aF):m.tv v=v:=by
 cases m with
 |set b x=>rfl
 |aw b p=>exact TU b p v h
 |drop b=>exact YF _ v (UE h)
theorem Tv {v:TV}:∀(l:List Mv),(∀m∈l,m.at∉v.aF)→jx l v=v
 |[],_=>rfl
 |m::l,h=>by
  simp only [jx,af1 (h m (by simp))];exact Tv l fun m b=>h m (by simp [b])
theorem Rn {n:Nat} {y:bl}:∀(l:List Mv),(∀m∈l,m.at≠n∧m.at∉y.c.aF)→o1 n l (some y)=some y
 |[],_=>rfl
 |m::l,h=>by
  have:m.bx n (some y)=some y:=by
   obtain ⟨d,e⟩:=h m (by simp);cases m with
   |set b x=>simp only [Mv.at] at d;simp [Mv.bx,d]
   |aw b p=>simp only [Mv.bx,cx,bl.aw,TU b p _ e]
   |drop b=>
    simp only [Mv.at] at d e;simp only [Mv.bx,d,cL,cx,bl.bU,YF _ y.c (UE e)]
  simp only [o1,this];exact Rn l fun m f=>h m (by simp [f])
def eu (B:Nat→Prop) (s t:St):Prop:=∀b,B b→s.box b=t.box b
theorem eu.bJ {B:Nat→Prop} {s t:St} (h:eu B s t) (l:List Mv):eu B (bJ s l) (bJ t l):=fun b c=>by rw [n2,n2,h b c]
theorem eu.ag {B:Nat→Prop} {s t:St} (h:eu B s t) {v:TV} (d:∀b∈v.aF,B b):Ag s t v:=fun b c y e=>by rw [h b (d b c),e]
theorem EF (b:Nat) (p:aI):∀(v:TV) (c:Nat),c∈(v.aw b p).aF→c∈v.aF:=by
 intro v
 induction v with
 |ref d q=>intro c h;simp only [TV.aw] at h;split at h<;>(try split at h)<;>(try split at h)<;>first|exact h|simp [TV.aF] at h
 |sl d q=>intro c h;simp only [TV.aw] at h;split at h<;>(try split at h)<;>first|exact h|simp [TV.aF] at h
 |slw d q lo n=>intro c h;simp only [TV.aw] at h;split at h<;>(try split at h)<;>first|exact h|simp [TV.aF] at h
 |mp d=>intro c h;simp only [TV.aw] at h;split at h<;>(try split at h)<;>first|exact h|simp [TV.aF] at h
 |cons a d g j=>intro c h;simp only [TV.aw,TV.aF,aZ] at h⊢;grind
 |tup a e=>intro c h;exact e c h
 |bV f d e=>intro c h;exact e c h
 |_=>intro c h;exact h
theorem Nx (p:Nat→Bool):∀(v:TV) (c:Nat),c∈(v.bU p).aF→c∈v.aF:=by
 intro v
 induction v with
 |ref d q=>intro c h;simp only [TV.bU] at h;split at h<;>first|exact h|simp [TV.aF] at h
 |sl d q=>intro c h;simp only [TV.bU] at h;split at h<;>first|exact h|simp [TV.aF] at h
 |slw d q lo n=>intro c h;simp only [TV.bU] at h;split at h<;>first|exact h|simp [TV.aF] at h
 |mp d=>intro c h;simp only [TV.bU] at h;split at h<;>first|exact h|simp [TV.aF] at h
 |cons a d e g=>intro c h;simp only [TV.bU,TV.aF,aZ] at h⊢;grind
 |tup a b=>intro c h;exact b c h
 |bV f d b=>intro c h;exact b c h
 |_=>intro c h;exact h
def lp (κ:TV→TV):Prop:=∀(v:TV) (b:Nat),b∈(κ v).aF→b∈v.aF
section
variable {ρ:Type} {E:ao} {B:Nat→Prop}
theorem pH {t:St} {b:Nat} {k:bl→Option ρ} {r:ρ} (g:B b) (h:b6 t b k=some r):∃y,t.box b=some y∧k y=some r∧
 ∀(s:St),eu B s t→∀{σ:Type} (k':bl→Option σ),b6 s b k'=k' y:=by
 obtain ⟨y,c,d,e⟩:=ka h;exact ⟨y,d,c,fun s f σ k'=>e s (fun z j=>by rw [f b g,j]) k'⟩
theorem uK:∀(c:TV) (p:aI) (v:TV) (k:TV→Option ρ) (r:ρ),bO c p v k=some r→∃y,k y=some r∧∀{σ:Type} (k':TV→Option σ),bO c p v k'=k' y:=Mo
theorem eu.ha {B:Nat→Prop} {s t:St} (h:eu B s t) {b:Nat} (c:B b):s.ha b=t.ha b:=by
 unfold St.ha;rw [h b c]
theorem xA:∀(T:Ty) (v:TV) (t:St) (k:St→TV→(TV→TV)→Option ρ) (r:ρ),(∀b∈v.aF,B b)→ct t T v k=some r→
 ∃l c κ,k (bJ t l) c κ=some r∧(∀m∈l,B m.at)∧lp κ∧∀(s:St),eu B s t→∀{σ:Type} (k':St→TV→(TV→TV)→Option σ),ct s T v k'=k' (bJ s l) c κ:=by
 have C:lp id:=fun v b h=>h
 have ad:∀(T u:Ty) (x:u.ai) (t:St) (k:St→TV→(TV→TV)→Option ρ) (r:ρ),(∀{σ:Type} (s:St) (k:St→TV→(TV→TV)→Option σ),ct s T (.ad u x) k=if decide (u=T) then k s (.ad u x) id else none)→ct t T (.ad u x) k=some r→
  ∃l c κ,k (bJ t l) c κ=some r∧(∀m∈l,B m.at)∧lp κ∧∀(s:St),eu B s t→∀{σ:Type} (k':St→TV→(TV→TV)→Option σ),ct s T (.ad u x) k'=k' (bJ s l) c κ:=by
  intro T u x t k r e h;rw [e] at h;split at h;rename_i K;exact ⟨[],_,id,h,fun m g=>(by cases g),C,fun s _ σ k'=>by rw [e,ak K];rfl⟩;cases h
 intro T
 induction T with
 |slice T _=>
  intro v t k r q h;cases v with
  |nil=>exact ⟨[],_,id,h,fun m g=>(by cases g),C,fun s _ σ k'=>rfl⟩
  |sl b p=>
   have D:B b:=q b (by simp [TV.aF]);simp only [ct] at h;split at h;rename_i O;exact ⟨[],_,id,h,fun m g=>(by cases g),C,fun s o σ k'=>by simp only [ct];rw [o.ha D,ak O];rfl⟩;rename_i O;obtain ⟨x,_,I,W⟩:=pH D h;obtain ⟨c,j,h4⟩:=pa _ _ _ _ I;split at j;rename_i u y;split at j;cases j;rename_i X;obtain ⟨c',h5,h6⟩:=uK _ _ _ _ _ j;refine ⟨[.set b {x with c:=c'},.aw b p],_,_,h5,fun m g=>?_,fun v c K=>EF b p v c K,fun s o σ k'=>?_⟩;simp only [cy,pS,or_false] at g;rcases g with rfl|rfl<;>exact D
   simp only [ct];rw [o.ha D,aj O,W s o,h4];simp only;rw [aj X,h6];rfl;cases j
  |slw b p lo n=>
   have D:B b:=q b (by simp [TV.aF]);simp only [ct] at h;split at h;cases h;rename_i O;obtain ⟨x,_,I,W⟩:=pH D h;obtain ⟨c,j,h4⟩:=pa _ _ _ _ I;split at j;rename_i u y;split at j;cases j;rename_i X;split at j;rename_i z aa;obtain ⟨c',h5,h6⟩:=uK _ _ _ _ _ j;refine ⟨[.set b {x with c:=c'},.aw b p],_,_,h5,fun m g=>?_,fun v c K=>EF b p v c K,fun s o σ k'=>?_⟩;simp only [cy,pS,or_false] at g;rcases g with rfl|rfl<;>exact D
   simp only [ct];rw [aj O,W s o,h4];simp only;rw [aj X];simp only [aa];rw [h6];rfl;cases j;cases j
  |ad u x=>exact ad _ u x t k r (fun s k=>rfl) h
  |_=>simp [ct] at h
 |cons T U ab ac=>
  intro v t k r q h;cases v with
  |cons a d=>
   simp only [ct] at h;obtain ⟨Y,ag,af,I,W,j,h4⟩:=ab a t _ r (fun b J=>q b (by simp [TV.aF,J])) h;obtain ⟨ae,ah,al,h5,h6,Z,h8⟩:=ac (af d) (bJ t Y) _ r (fun b J=>q b (by simp [TV.aF,j _ _ J])) I;refine ⟨Y++ae,_,_,by rw [hZ];exact h5,fun m g=>?_,fun v b J=>j _ _ (Z _ _ J),fun s o σ k'=>?_⟩
   grind
   simp only [ct];rw [h4 s o,h8 _ (o.bJ Y),hZ]
  |ad u x=>exact ad _ u x t k r (fun s k=>rfl) h
  |_=>simp [ct] at h
 |unit=>
  intro v t k r q h;cases v with
  |unit=>exact ⟨[],_,id,h,fun m g=>(by cases g),C,fun s _ σ k'=>rfl⟩
  |ad u x=>exact ad _ u x t k r (fun s k=>rfl) h
  |_=>simp [ct] at h
 |bG=>
  intro v t k r q h;cases v with
  |ad u x=>exact ad _ u x t k r (fun s k=>rfl) h
  |ref b p=>exact ⟨[],_,id,h,fun m g=>(by cases g),C,fun s _ σ k'=>rfl⟩
  |bw u x=>exact ⟨[],_,id,h,fun m g=>(by cases g),C,fun s _ σ k'=>rfl⟩
  |bV f c=>exact ⟨[],_,id,h,fun m g=>(by cases g),C,fun s _ σ k'=>rfl⟩
  |mp b=>exact ⟨[],_,id,h,fun m g=>(by cases g),C,fun s _ σ k'=>rfl⟩
  |_=>simp [ct] at h
 |_=>
  intro v t k r q h;cases v with
  |ad u x=>exact ad _ u x t k r (fun s k=>rfl) h
  |_=>simp [ct] at h
end
section
variable {ρ:Type} {E:ao} {A B:Nat→Prop}
theorem q6 {l m:List Mv} (b:∀x∈l,B x.at) (c:∀x∈m,B x.at):∀x∈l++m,B x.at:=fun x d=>by
 rcases aZ.1 d with h|h
 exact b x h;exact c x h
theorem E0 {m:Mv} (h:B m.at):∀x∈[m],B x.at:=fun x b=>by simp_all
theorem E1 {m c:Mv} (h:B m.at) (d:B c.at):∀x∈[m,c],B x.at:=fun x b=>by
 simp only [cy,pS,or_false] at b;rcases b with rfl|rfl<;>assumption
theorem alG {T:Ty} {a v:TV} {t:St} {k:St→Option ρ} {r:ρ} (I:∀b∈a.aF,B b) (K:∀b∈v.aF,B b) (h:lQ t T a v k=some r):
 ∃l,k (bJ t l)=some r∧(∀m∈l,B m.at)∧∀(s:St),eu B s t→∀{σ:Type} (k':St→Option σ),lQ s T a v k'=k' (bJ s l):=by
 cases a with
 |ref g o=>
  simp only [lQ] at h;obtain ⟨l,c,κ,q,z,D,h4⟩:=xA (B:=B) T v t _ r K h;split at q;rotate_left;cases q;rename_i b p C;have j:B b:=by
   have:=D (.ref g o) b (by rw [C];simp [TV.aF]);exact I b this
  obtain ⟨x,_,h5,h6⟩:=pH j q;split at h5;cases h5;rename_i J;obtain ⟨c',f,h8⟩:=uK _ _ _ _ _ h5;have e:∀(s:St),eu B s t→∀{σ:Type} (k':St→Option σ),lQ s T (.ref g o) v k'=match c with
   | .ad u _=>if u.aQ then k' ((bJ s l).b4 b {x with c:=c'}) else k' (((bJ s l).b4 b {x with c:=c'}).aw b p)
   |_=>k' (((bJ s l).b4 b {x with c:=c'}).aw b p):=by
   intro s d σ k';simp only [lQ];rw [h4 s d];simp only [C];rw [h6 _ (d.bJ l),aj J,h8];cases c<;>rfl
  have gX:(k (((bJ t l).b4 b {x with c:=c'}).aw b p)=some r)→(∀(s:St),eu B s t→∀{σ:Type} (k':St→Option σ),lQ s T (.ref g o) v k'=k' (((bJ s l).b4 b {x with c:=c'}).aw b p))→
   ∃l,k (bJ t l)=some r∧(∀m∈l,B m.at)∧∀(s:St),eu B s t→∀{σ:Type} (k':St→Option σ),lQ s T (.ref g o) v k'=k' (bJ s l):=by
   intro O U;refine ⟨l++[.set b {x with c:=c'},.aw b p],by rw [hZ];exact O,q6 z (by exact E1 j j),fun s d σ k'=>?_⟩;rw [U s d,hZ];rfl
  cases c with
  |ad u y=>
   simp only at f;by_cases n:u.aQ=true;rw [ak n] at f;refine ⟨l++[.set b {x with c:=c'}],by rw [hZ];exact f,q6 z (by exact E0 j),fun s d σ k'=>?_⟩;rw [e s d,hZ];simp only [ak n];rfl;rw [aj n] at f;exact gX f fun s d σ k'=>by rw [e s d];simp only [aj n]
  |_=>simp_all
 |_=>simp [lQ] at h
theorem alE {T:Ty} {a v:TV} {t:St} {k:St→Option ρ} {r:ρ} (n:∀b∈a.aF,B b) (h:lP t T a v k=some r):
 ∃l,k (bJ t l)=some r∧(∀m∈l,B m.at)∧∀(s:St),eu B s t→∀{σ:Type} (k':St→Option σ),lP s T a v k'=k' (bJ s l):=by
 cases a with
 |ref b p=>
  have g:B b:=n b (by simp [TV.aF]);simp only [lP] at h;split at h;rotate_left;cases h;rename_i c q;obtain ⟨x,_,h5,h6⟩:=pH g h;split at h5;cases h5;rename_i o;obtain ⟨c',f,h8⟩:=uK _ _ _ _ _ h5;have e:∀(s:St),eu B s t→∀{σ:Type} (k':St→Option σ),lP s T (.ref b p) v k'=match c with
   | .ad u _=>if u.aQ then k' (s.b4 b {x with c:=c'}) else k' ((s.b4 b {x with c:=c'}).aw b p)
   |_=>k' ((s.b4 b {x with c:=c'}).aw b p):=by
   intro s d σ k';simp only [lP,q];rw [h6 _ d,aj o,h8];cases c<;>rfl
  have gX:(k ((t.b4 b {x with c:=c'}).aw b p)=some r)→(∀(s:St),eu B s t→∀{σ:Type} (k':St→Option σ),lP s T (.ref b p) v k'=k' ((s.b4 b {x with c:=c'}).aw b p))→
   ∃l,k (bJ t l)=some r∧(∀m∈l,B m.at)∧∀(s:St),eu B s t→∀{σ:Type} (k':St→Option σ),lP s T (.ref b p) v k'=k' (bJ s l):=by
   intro z C;exact ⟨[.set b {x with c:=c'},.aw b p],z,(by exact E1 g g),fun s d σ k'=>C s d k'⟩
  cases c with
  |ad u y=>
   simp only at f;by_cases j:u.aQ=true;rw [ak j] at f;refine ⟨[.set b {x with c:=c'}],f,(by exact E0 g),fun s d σ k'=>?_⟩;rw [e s d];simp only [ak j];rfl;rw [aj j] at f;exact gX f fun s d σ k'=>by rw [e s d];simp only [aj j]
  |_=>simp_all
 |_=>simp [lP] at h
theorem Ti {T:Ty}:∀(vs:List TV) (kl:TV→TV) (t:St) (k:St→List T.ai→Option ρ) (r:ρ),(∀v∈vs,∀b∈v.aF,B b)→lp kl→nD t T kl vs k=some r→
 ∃l xs,k (bJ t l) xs=some r∧(∀m∈l,B m.at)∧∀(s:St),eu B s t→∀{σ:Type} (k':St→List T.ai→Option σ),nD s T kl vs k'=k' (bJ s l) xs:=by
 intro vs
 induction vs with
 |nil=>intro kl t k r _ _ h;exact ⟨[],[],h,fun m u=>(by cases u),fun s _ σ k'=>rfl⟩
 |cons v vs C=>
  intro kl t k r j f h;simp only [nD] at h;obtain ⟨l,c,κ,d,n,o,h4⟩:=xA (B:=B) T (kl v) t _ r (fun b e=>j v (by simp) b (f _ _ e)) h;split at d;rotate_left;cases d;rename_i x z;obtain ⟨D,xs,h5,h6,q⟩:=C _ _ _ _ (fun w y=>j w (by simp [y])) (fun v b e=>f _ _ (o _ _ e)) d;refine ⟨l++D,_,by rw [hZ];exact h5,q6 n h6,fun s g σ k'=>?_⟩;simp only [nD];rw [h4 s g];simp only [z];rw [q _ (g.bJ l),hZ]
def Pe (A B:Nat→Prop) (dst:Option Nat) (t:St) (k:St→Option ρ) (r:ρ) (f:(s:St)→∀{σ:Type},(St→Option σ)→Option σ):Prop:=
 ∃l v new,k ((bJ t l).step dst v new)=some r∧(∀m∈l,B m.at)∧(∀x∈new,∃d,dst=some d∧x.1/32=d∧(bJ t l).box x.1=none)∧
  ∀(s:St),eu A s t→(∀x∈new,(bJ s l).box x.1=none)→∀{σ:Type} (k':St→Option σ),f s k'=k' ((bJ s l).step dst v new)
theorem eu.mono {s t:St} (c:∀b,B b→A b) (h:eu A s t):eu B s t:=fun b d=>h b (c b d)
theorem afO {T f:Ty} {v:TV} {t:St} {k:St→List T.ai→(TV→TV)→Option ρ} {r:ρ} (x:∀b,B b→A b) (u:∀b∈v.aF,A b) (y:T.aQ=false→f≠ .bP→∀b∈v.aF,B b) (h:nU t T f v k=some r):
 ∃l xs κ,k (bJ t l) xs κ=some r∧(∀m∈l,B m.at)∧lp κ∧∀(s:St),eu A s t→∀{σ:Type} (k':St→List T.ai→(TV→TV)→Option σ),nU s T f v k'=k' (bJ s l) xs κ:=by
 unfold nU at h;split at h;split at h;split at h;rename_i xs o;exact ⟨[],_,id,h,fun m j=>(by cases j),fun v b h=>h,fun s _ σ k'=>by simp only [nU,o];rfl⟩;cases h;cases h;split at h;rename_i e;obtain ⟨xs,d,g⟩:=MB h;exact ⟨[],xs,id,d,fun m j=>(by cases j),fun v b h=>h,fun s n σ k'=>by simp only [nU,e,b5];rw [g s (n.ag u)];rfl⟩;rename_i e;obtain ⟨l,c,κ,d,g,q,h4⟩:=xA (B:=B) _ v t _ r (y (by simpa using e) (by simp)) h;split at d;rename_i xs o;refine ⟨l,xs,κ,d,g,q,fun s n σ k'=>?_⟩;simp only [nU,e];rw [aj (by simp),h4 s (n.mono x)];simp only [o];cases d;cases h
theorem acr {o d:Nat} {T f:Ty} {x y:TV} {t:St} {k:St→Option ρ} {r:ρ} (g:∀b,B b→A b) (I:∀b∈x.aF,B b) (K:∀b∈y.aF,A b) (O:T.aQ=false→∀b∈y.aF,B b) (h:qB t o d T f x y k=some r):
 Pe A B (some d) t k r fun s _ k'=>qB s o d T f x y k':=by
 unfold qB at h;split at h;cases h;rename_i D;obtain ⟨l,aa,κ,n,q,u,h4⟩:=afO g K (fun e _=>O e) h;obtain ⟨U,c,ab,h5,h6,Z,h8⟩:=xA (B:=B) _ (κ x) _ _ r (fun b z=>I b (u _ _ z)) n;split at h5;rotate_left;cases h5;rename_i xs J;split at h5;rotate_left;cases h5;rename_i C;obtain ⟨v,new,W,X,Y⟩:=EY h5;refine ⟨l++U,v,new,by rw [hZ];exact W,q6 q h6,by rw [hZ];exact X,fun s j e σ k'=>?_⟩;show qB s o d T f x y k'=_;unfold qB;rw [aj D,h4 s j,h8 _ ((j.mono g).bJ l)];simp only [J,C];rw [hZ] at e⊢;rw [Y _ e]
def fX (B:Nat→Prop):List PM→List TV→Prop
 |m::c,v::vs=>(m.gM=true∨∀b∈v.aF,B b)∧fX B c vs
 |_,_=>True
theorem fX.map {g:TV→TV} (c:lp g):∀{d:List PM} {vs:List TV},fX B d vs→fX B d (vs.map g)
 |[],_,_=>by unfold fX;trivial
 |_::_,[],_=>by simp_all
 |_::_,_::_,h=>⟨h.1.imp id fun h b e=>h b (c _ _ e),fX.map c h.2⟩
theorem ahU:∀(g:List PM) (vs:List TV) (t:St) (k:St→List TV→(TV→TV)→Option ρ) (r:ρ),fX B g vs→eB t g vs k=some r→
 ∃l f κ,k (bJ t l) f κ=some r∧(∀m∈l,B m.at)∧(∀A:Nat→Prop,(∀v∈vs,∀b∈v.aF,A b)→∀v∈f,∀b∈v.aF,A b)∧fX B g f∧lp κ∧∀(s:St),eu B s t→∀{σ:Type} (k':St→List TV→(TV→TV)→Option σ),eB s g vs k'=k' (bJ s l) f κ:=by
 intro g
 induction g with
 |nil=>
  intro vs t k r n h;cases vs with
  |nil=>exact ⟨[],[],id,h,fun m I=>(by cases I),fun _ _ v n=>(by cases n),trivial,fun v b h=>h,fun s _ σ k'=>rfl⟩
  |cons v vs=>simp [eB] at h
 |cons m g C=>
  intro vs t k r n h;cases vs with
  |nil=>simp [eB] at h
  |cons v vs=>
   have U:(∀{σ:Type} (s:St) (k:St→List TV→(TV→TV)→Option σ),eB s (m::g) (v::vs) k=eB s g vs fun s vs κ=>k s (κ v::vs) κ)→
    ∃l f κ,k (bJ t l) f κ=some r∧(∀m∈l,B m.at)∧(∀A:Nat→Prop,(∀w∈v::vs,∀b∈w.aF,A b)→∀v∈f,∀b∈v.aF,A b)∧fX B (m::g) f∧lp κ∧∀(s:St),eu B s t→∀{σ:Type} (k':St→List TV→(TV→TV)→Option σ),eB s (m::g) (v::vs) k'=k' (bJ s l) f κ:=by
    intro e;rw [e] at h;obtain ⟨l,f,κ,o,z,q,D,h4,h5⟩:=C vs t _ r n.2 h;refine ⟨l,κ v::f,κ,o,z,fun A u w j b d=>?_,⟨n.1.imp id fun h b d=>h b (h4 _ _ d),D⟩,h4,fun s y σ k'=>by rw [e,h5 s y]⟩;rcases cy.1 j with rfl|j
    exact u v (by simp) b (h4 _ _ d);exact q A (fun w j=>u w (by simp [j])) w j b d
   cases m with
   |ab T=>
    cases T with
    |slice T=>
     simp only [eB] at h;obtain ⟨l,c,κ,o,z,q,h4⟩:=xA (B:=B) _ v t _ r (n.1.resolve_left (by simp [PM.gM])) h;split at o;rotate_left;cases o;rename_i x K;obtain ⟨O,f,ad,W,X,Y,Z,aa,ac⟩:=C (vs.map κ) _ _ r (n.2.map q) o;refine ⟨l++O,_,_,by rw [hZ];exact W,q6 z X,fun A u w j b d=>?_,show fX B (_::g) (_::f) from ⟨.inr fun b d=>(by cases d),Z⟩,fun v b d=>q _ _ (aa _ _ d),fun s y σ k'=>?_⟩;rcases cy.1 j with rfl|j
     cases d;refine Y A (fun w j b d=>?_) w j b d;obtain ⟨w',J,rfl⟩:=b9.1 j;exact u w' (by simp [J]) b (q _ _ d);simp only [eB];rw [h4 s y];simp only [K];rw [ac _ (y.bJ l),hZ]
    |_=>simp [eB] at h
   |_=>exact U fun s k=>by simp only [eB]
theorem ahR:∀(n:List PM) (vs:List TV) (t:St) (k:St→List TV→(TV→TV)→Option ρ) (r:ρ),fX B n vs→cO t n vs k=some r→
 ∃l o κ,k (bJ t l) o κ=some r∧(∀m∈l,B m.at)∧(∀A:Nat→Prop,(∀v∈vs,∀b∈v.aF,A b)→∀v∈o,∀b∈v.aF,A b)∧lp κ∧∀(s:St),eu B s t→∀{σ:Type} (k':St→List TV→(TV→TV)→Option σ),cO s n vs k'=k' (bJ s l) o κ:=by
 intro n
 induction n with
 |nil=>
  intro vs t k r K h;cases vs with
  |nil=>exact ⟨[],[],id,h,fun m q=>(by cases q),fun _ _ v K=>(by cases K),fun v b h=>h,fun s _ σ k'=>rfl⟩
  |cons v vs=>simp [cO] at h
 |cons m n ab=>
  intro vs t k r K h;cases vs with
  |nil=>simp [cO] at h
  |cons v vs=>
   have ac:(∀{σ:Type} (s:St) (k:St→List TV→(TV→TV)→Option σ),cO s (m::n) (v::vs) k=cO s n vs fun s vs κ=>k s (κ v::vs) κ)→
    ∃l o κ,k (bJ t l) o κ=some r∧(∀m∈l,B m.at)∧(∀A:Nat→Prop,(∀w∈v::vs,∀b∈w.aF,A b)→∀v∈o,∀b∈v.aF,A b)∧lp κ∧∀(s:St),eu B s t→∀{σ:Type} (k':St→List TV→(TV→TV)→Option σ),cO s (m::n) (v::vs) k'=k' (bJ s l) o κ:=by
    intro e;rw [e] at h;obtain ⟨l,o,κ,j,D,z,h4,h5⟩:=ab vs t _ r K.2 h;refine ⟨l,κ v::o,κ,j,D,fun A C w d b f=>?_,h4,fun s J σ k'=>by rw [e,h5 s J]⟩;rcases cy.1 d with rfl|d
    exact C v (by simp) b (h4 _ _ f);exact z A (fun w d=>C w (by simp [d])) w d b f
   have U:∀(g:TV→TV) (x:TV),lp g→x.aF=[]→∀A:Nat→Prop,(∀w∈v::vs,∀b∈w.aF,A b)→∀w∈x::vs.map g,∀b∈w.aF,A b:=by
    intro g x W ad A C w d b f;rcases cy.1 d with rfl|d
    simp_all;obtain ⟨w',Z,rfl⟩:=b9.1 d;exact C w' (by simp [Z]) b (W _ _ f)
   have O:∀b p,m.gM=false→v=.ref b p∨v=.sl b p→B b:=by
    intro b p q Y;have:=K.1.resolve_left (by simp [q]);rcases Y with rfl|rfl<;>exact this b (by simp [TV.aF])
   cases m with
   |ptr T=>
    cases v with
    |ref b p=>
     cases p with
     |nil=>
      simp only [cO] at h;obtain ⟨x,_,j,D⟩:=pH (O b [] rfl (.inl rfl)) h;split at j;cases j;rename_i I;split at j;rotate_left;cases j;rename_i y aa;refine ⟨[.drop b],_,_,j,(by exact E0 (O b [] rfl (.inl rfl))),U _ _ (fun v c=>Nx _ v c) rfl,fun v c=>Nx _ v c,fun s J σ k'=>?_⟩;simp only [cO];rw [D s J,aj I];simp only [aa];rfl
     |cons _ _=>simp [cO] at h
    |_=>simp [cO] at h
   | «mut» T=>
    cases T with
    |slice T=>
     cases v with
     |nil=>
      simp only [cO] at h;split at h;cases h;rename_i I;exact ⟨[],_,id,h,fun m q=>(by cases q),fun A C w d b f=>(by
       rcases cy.1 d with rfl|d
       cases f;exact C w (by simp [d]) b f),fun v b h=>h,fun s _ σ k'=>by simp only [cO];rw [aj I];rfl⟩
     |sl b p=>
      have f:=O b p rfl (.inr rfl);simp only [cO] at h;split at h;cases h;rename_i I;obtain ⟨x,_,j,D⟩:=pH f h;obtain ⟨c,z,h4⟩:=pa _ _ _ _ j;split at z;rotate_left;cases z;rename_i u y;split at z;rotate_left;cases z;rename_i X;obtain ⟨c',h5,h6⟩:=uK _ _ _ _ _ z;refine ⟨[.set b {x with dN:=false},.set b {x with dN:=false,c:=c'},.aw b p],_,_,h5,fun m q=>?_,U _ _ (fun v c=>EF _ _ v c) rfl,fun v c=>EF _ _ v c,fun s J σ k'=>?_⟩;simp only [cy,pS,or_false] at q;rcases q with rfl|rfl|rfl<;>exact f
      simp only [cO];rw [aj I,D s J,h4];simp only;rw [ak X,h6];rfl
     |_=>simp [cO] at h
    |_=>simp [cO] at h
   |_=>exact ac fun s k=>by simp only [cO]
theorem afd {t:St} {m:PM} {v:TV} {k:List D→Option ρ} {r:ρ} (o:∀f c,m≠ .bV f c) (h:jY t m v k=some r):∃ds,k ds=some r∧∀(s:St),Ag s t v→∀{σ:Type} (k':List D→Option σ),jY s m v k'=k' ds:=by
 have b:(∀{σ:Type} (s:St) (k:List D→Option σ),jY s m v k=gr s m v fun d=>k [d])→∃ds,k ds=some r∧∀(s:St),Ag s t v→∀{σ:Type} (k':List D→Option σ),jY s m v k'=k' ds:=by
  intro e;rw [e] at h;obtain ⟨d,j,l⟩:=T1 h;exact ⟨[d],j,fun s g σ k'=>by rw [e,l s g]⟩
 have ab:∀(T u:Ty) (x:u.ai),(∀{σ:Type} (s:St) (k:List D→Option σ),jY s m v k=if decide (u=T) then k [⟨u,x⟩] else none)→∃ds,k ds=some r∧∀(s:St),Ag s t v→∀{σ:Type} (k':List D→Option σ),jY s m v k'=k' ds:=by
  intro T u x e;rw [e] at h;split at h;rename_i n;exact ⟨_,h,fun s g σ k'=>by rw [e,ak n]⟩;cases h
 cases m with
 |ptr T=>cases v<;>first|exact ab T _ _ fun s k=>rfl|exact b fun s k=>rfl
 | «mut» T=>cases v<;>first|exact ab T _ _ fun s k=>rfl|exact b fun s k=>rfl
 |ab T=>cases v<;>first|exact ab T _ _ fun s k=>rfl|exact b fun s k=>rfl
 |bV f c=>simp_all
 |ro T=>exact b fun s k=>by cases v<;>rfl
 |bw T=>exact b fun s k=>by cases v<;>rfl
theorem afa {t:St}:∀(b:List PM) (vs:List TV) (k:List D→Option ρ) (r:ρ),(∀m∈b,∀f c,m≠ .bV f c)→ja t b vs k=some r→
 ∃ds,k ds=some r∧∀(s:St),(∀v∈vs,Ag s t v)→∀{σ:Type} (k':List D→Option σ),ja s b vs k'=k' ds:=by
 intro b
 induction b with
 |nil=>
  intro vs k r _ h;cases vs with
  |nil=>exact ⟨[],h,fun s j σ k'=>rfl⟩
  |cons _ _=>simp [ja] at h
 |cons m b l=>
  intro vs k r e h;cases vs with
  |nil=>simp [ja] at h
  |cons v vs=>
   simp only [ja] at h;obtain ⟨d,g,n⟩:=afd (e m (by simp)) h;obtain ⟨ds,h4,h5⟩:=l vs _ r (fun m h=>e m (by simp [h])) g;refine ⟨_,h4,fun s j σ k'=>?_⟩;simp only [ja];simp_all
theorem acC {m:PM} {v:TV} {ds:List D} {t:St} {k:St→List D→Option ρ} {r:ρ} (I:m.gM=true∨∀b∈v.aF,B b) (h:eN t m v ds k=some r):
 ∃l g,k (bJ t l) g=some r∧(∀m∈l,B m.at)∧∀(s:St),eu B s t→∀{σ:Type} (k':St→List D→Option σ),eN s m v ds k'=k' (bJ s l) g:=by
 have no:(∀{σ:Type} (s:St) (k:St→List D→Option σ),eN s m v ds k=k s ds)→∃l g,k (bJ t l) g=some r∧(∀m∈l,B m.at)∧∀(s:St),eu B s t→∀{σ:Type} (k':St→List D→Option σ),eN s m v ds k'=k' (bJ s l) g:=by
  intro e;rw [e] at h;exact ⟨[],ds,h,fun m C=>(by cases C),fun s _ σ k'=>by rw [e];rfl⟩
 cases m with
 |ptr T=>
  cases v with
  |ref b p=>
   cases p with
   |nil=>
    cases ds with
    |nil=>simp [eN] at h
    |cons d ds=>
     have f:B b:=I.resolve_left (by simp [PM.gM]) b (by simp [TV.aF]);simp only [eN] at h;split at h;rotate_left;cases h;rename_i q;obtain ⟨x,_,y,o⟩:=pH f h;refine ⟨[.set b {x with c:=.ab d.t d.x},.aw b []],_,y,(by exact E1 f f),fun s n σ k'=>?_⟩;simp only [eN];rw [ak q,o s n];rfl
   |cons _ _=>simp [eN] at h
  |_=>simp [eN] at h
 | «mut» T=>
  cases v with
  |nil=>
   cases ds with
   |nil=>simp [eN] at h
   |cons d ds=>exact ⟨[],ds,h,fun m C=>(by cases C),fun s _ σ k'=>rfl⟩
  |sl b p=>
   cases ds with
   |nil=>simp [eN] at h
   |cons d ds=>
    have f:B b:=I.resolve_left (by simp [PM.gM]) b (by simp [TV.aF]);simp only [eN] at h;split at h;rotate_left;cases h;rename_i q;obtain ⟨x,_,y,o⟩:=pH f h;obtain ⟨c,j,h4⟩:=uK _ _ _ _ _ y;cases T with
    |slice u=>
     simp only at j;split at j;rename_i z;refine ⟨[.set b {x with c:=c}],_,j,(by exact E0 f),fun s n σ k'=>?_⟩;simp only [eN];rw [ak q,o s n,h4,ak z];rfl;rename_i z;refine ⟨[.set b {x with c:=c},.aw b p],_,j,(by exact E1 f f),fun s n σ k'=>?_⟩;simp only [eN];rw [ak q,o s n,h4,aj z];rfl
    |_=>cases j
  |_=>simp [eN] at h
 |_=>exact no fun s k=>by simp only [eN]
theorem acx:∀(b:List PM) (vs:List TV) (ds:List D) (t:St) (k:St→Option ρ) (r:ρ),fX B b vs→gT t b vs ds k=some r→
 ∃l,k (bJ t l)=some r∧(∀m∈l,B m.at)∧∀(s:St),eu B s t→∀{σ:Type} (k':St→Option σ),gT s b vs ds k'=k' (bJ s l):=by
 intro b
 induction b with
 |nil=>
  intro vs ds t k r c h;cases vs<;>cases ds<;>first|exact ⟨[],h,fun m n=>(by cases n),fun s _ σ k'=>rfl⟩|simp [gT] at h
 |cons m b o=>
  intro vs ds t k r c h;cases vs with
  |nil=>simp [gT] at h
  |cons v vs=>
   simp only [gT] at h;obtain ⟨l,e,f,g,j⟩:=acC c.1 h;obtain ⟨q,h4,h5,h6⟩:=o vs e _ k r c.2 f;refine ⟨l++q,by rw [hZ];exact h4,q6 g h5,fun s d σ k'=>?_⟩;simp only [gT];rw [j s d,h6 _ (d.bJ l),hZ]
theorem acW {t:St} {f:Nat} {vs:List TV} {dst:Option Nat} {k:St→Option ρ} {r:ρ} {c:aB} (o:E.fn f (vs.map mi)=some c) (q:c.bz) (aa:c.plain=true) (j:∀b,B b→A b) (Y:∀v∈vs,∀b∈v.aF,A b) (n:fX B c.params vs) (h:jt E t f vs dst k=some r):
 Pe A B dst t k r fun s _ k'=>jt E s f vs dst k':=by
 have l:∀m∈c.params,∀f x,m≠ .bV f x:=fun m l f x e=>by
  have:=dE.1 aa m l;simp_all
 unfold jt at h;rw [o] at h;simp only at h;obtain ⟨z,al,an,U,ad,af,C,_,I⟩:=ahU (B:=B) _ _ _ _ _ n h;obtain ⟨ab,am,ao,W,aj,ah,_,J⟩:=ahR (B:=B) _ _ _ _ _ C U;obtain ⟨ds,d,K⟩:=afa _ _ _ _ l W;rw [q] at d;split at d;cases d;rename_i ak ai Z;obtain ⟨ac,h4,ae,O⟩:=acx (B:=B) _ _ _ _ _ _ C d;obtain ⟨v,new,h5,h6,X⟩:=VB h4;refine ⟨z++ac,v,new,by rw [hZ];exact h5,q6 ad ae,by rw [hZ];exact h6,fun s y u σ k'=>?_⟩;rw [hZ] at u⊢;show jt E s f vs dst k'=_;unfold jt;rw [o];simp only;have g:=y.bJ z;have D:=g.bJ ab;rw [I s (y.mono j),J _ (g.mono j),K _ (fun v n=>D.ag (ah A (af A Y) v n)),q];simp only [Z];rw [O _ (g.mono j),X _ u]
theorem Yb:∀{d:List PM} {vs:List TV},(∀v∈vs,∀b∈v.aF,A b)→∀b,b∈lR d vs→A b
 |[],_,_,b,c=>by simp [lR] at c
 |_::_,[],_,b,c=>by simp [lR] at c
 |m::d,v::vs,h,b,c=>by
  simp only [lR,aZ] at c;rcases c with c|c
  simp_all;exact Yb (fun w e=>h w (by simp [e])) b c
theorem fX.imp {c:Nat→Prop} (h:∀b,B b→c b):∀{d:List PM} {vs:List TV},fX B d vs→fX c d vs
 |[],_,_=>by unfold fX;trivial
 |_::_,[],_=>by unfold fX;trivial
 |_::_,_::_,q=>⟨q.1.imp id fun q b e=>h b (q b e),fX.imp h q.2⟩
theorem Ya:∀(c:List PM) (vs:List TV),fX (· ∈lR c vs) c vs
 |[],_=>by unfold fX;trivial
 |_::_,[]=>by unfold fX;trivial
 |m::c,v::vs=>by
  refine ⟨?_,fX.imp (fun b d=>?_) (Ya c vs)⟩;cases e:m.gM with
  |true=>exact .inl rfl
  |false=>exact .inr fun b d=>by simp [lR,e,d]
  simp only [lR,aZ];exact .inr d
theorem Uq {o:Oper} {s:St} {x:Operand} (d:x∈o.op.operands.toList):∀b∈(s.ev x).aF,b∈hB o s:=fun b c=>
 List.mem_flatten.2 ⟨_,b9.2 ⟨x,d,rfl⟩,c⟩
def w5 (E:ao) (al:Bool) (o:Oper) (t:St) (k:St→Option ρ) (r:ρ):Prop:=
 ∃l v new,k ((bJ t l).step o.dst v new)=some r∧(∀m∈l,m.at∈iA E al o t)∧(∀x∈new,∃d,o.dst=some d∧x.1/32=d∧(bJ t l).box x.1=none)∧
  ∀(s:St),eu (· ∈hB o t) s t→(∀x∈o.op.operands.toList,s.ev x=t.ev x)→(∀x∈new,(bJ s l).box x.1=none)→∀{σ:Type} (k':St→Option σ),nY E al o s k'=k' ((bJ s l).step o.dst v new)
theorem agm (ax:E.w1) {o:Oper} {t:St} {k:St→Option ρ} {r:ρ} (an:ru E o t=true) (h:de E o t k=some r):w5 E false o t k r:=by
 have W:∀x∈o.op.operands.toList,∀b∈(t.ev x).aF,b∈hB o t:=fun x j=>Uq j
 cases n:o.op with
 |store T a x=>
  have al:a∈o.op.operands.toList:=df n (by simp [Op.operands]);have a1:x∈o.op.operands.toList:=df n (by simp [Op.operands]);have q:o.dst=none:=by
   unfold de at h;split at h;split at h;rw [n] at h;cases h;cases h;assumption
  have e:∀{σ:Type} (s:St) (k:St→Option σ),de E o s k=ea E T fun T=>lQ s T (s.ev a) (s.ev x) k:=by
   intro σ s k;unfold de a2;rw [q,n]
  rw [e] at h;obtain ⟨U,C,am⟩:=jE h;obtain ⟨l,ao,h4,h5⟩:=alG (B:=(· ∈hB o t)) (W a al) (W x a1) C;refine ⟨l,.unit,[],by rw [q];exact ao,(by unfold iA;rw [n];exact h4),fun x j=>(by cases j),fun s K j _ σ k'=>?_⟩;show de E o s k'=_;rw [e,am,j a al,j x a1,h5 s K,q];rfl
 |buildSlice T len Y=>
  have m:∀x∈Y.toList,x.2∈o.op.operands.toList:=fun x j=>df n (by
   simp only [Op.operands,u1];exact b9.2 ⟨x,j,rfl⟩)
  unfold de at h;split at h;rotate_left;rename_i q;unfold a2 at h;simp_all;rename_i d q;split at h;rotate_left;cases h;rename_i z;split at h;cases h;have e:∀{σ:Type} (s:St) (k:St→Option σ),de E o s k=ea E T fun T=>match T with
   | .slice u=>if Nat.beq Y.toList.length len&&uJ 0 Y.toList&&u.fY&&Nat.ble (len*u.size) 16777216&&(Nat.blt 0 u.size) then (match K7 u (Y.toList.map fun x=>s.ev x.2) with
    |some xs=>q5 s E.fL d u xs k
    |none=>nD s u id (Y.toList.map fun x=>s.ev x.2) fun s xs=>lH s E.fL d u xs k) else none
   |_=>none:=by
   intro σ s k;unfold de a2;rw [q];simp only [z,n];rfl
  unfold a2 at h;rw [n] at h;simp only [q] at h;obtain ⟨U,C,am⟩:=jE h;split at C;rotate_left;cases C;rename_i u;split at C;rotate_left;cases C;rename_i aj;split at C;rename_i xs au;obtain ⟨v,new,af,ag,ah⟩:=Uy (t:=t) C;refine ⟨[],v,new,by rw [q];exact af,fun m a0=>(by cases a0),by rw [q];exact ag,fun s K j Z σ k'=>?_⟩;have aa:(Y.toList.map fun x=>s.ev x.2)=Y.toList.map fun x=>t.ev x.2:=rF fun x ad=>j _ (m x ad)
  show de E o s k'=_;rw [e,am];simp only;rw [ak aj,aa,au,q];exact ah s Z k';rename_i au;obtain ⟨l,xs,ao,h4,h5⟩:=Ti (B:=(· ∈hB o t)) _ id _ _ _ (fun v D=>by
   obtain ⟨x,j,rfl⟩:=b9.1 D;exact W _ (m x j)) (fun v b h=>h) C
  obtain ⟨v,new,af,ag,ah⟩:=EY ao;refine ⟨l,v,new,by rw [q];exact af,(by unfold iA;rw [n];exact h4),by rw [q];exact ag,fun s K j Z σ k'=>?_⟩;have aa:(Y.toList.map fun x=>s.ev x.2)=Y.toList.map fun x=>t.ev x.2:=rF fun x ad=>j _ (m x ad)
  show de E o s k'=_;rw [e,am];simp only;rw [ak aj,aa,au];simp only;rw [h5 s K,ah _ Z,q]
 |call c=>
  have a4:a2 E o t k=some r∧∀{σ:Type} (s:St) (k:St→Option σ),de E o s k=a2 E o s k:=by
   unfold de at h;split at h;rename_i d q;split at h;rename_i z;rw [n] at h;refine ⟨h,fun s k=>?_⟩;unfold de;rw [q];simp only [z,n];cases h;rename_i q;exact ⟨h,fun s k=>by unfold de;rw [q]⟩
  obtain ⟨C,ap⟩:=a4;have call:tM E aB.plain o t=true→w5 E false o t k r:=by
   intro a8;obtain ⟨c,g,f,c',n,ac,ab,ay,aC⟩:=SS a8;obtain ⟨ae,X⟩:=Kh n ac;rw [tN n ac ab] at C;have aw:∀v∈c.args.toList.map t.ev,∀b∈v.aF,b∈hB o t:=fun v D=>by
    obtain ⟨x,j,rfl⟩:=b9.1 D;exact W _ (X x j)
   have ai:iA E false o t=lR c'.params (c.args.toList.map t.ev):=by
    unfold iA;simp_all
   obtain ⟨l,v,new,af,ag,ah,av⟩:=acW (A:=(· ∈hB o t)) (B:=(· ∈lR c'.params (c.args.toList.map t.ev))) ay (ax.fn _ _ _ ay) aC (Yb aw) aw (Ya _ _) C;refine ⟨l,v,new,af,by rw [ai];exact ag,ah,fun s K j Z σ k'=>?_⟩;have aa:c.args.toList.map s.ev=c.args.toList.map t.ev:=rF fun x ad=>j _ (X x ad)
   show de E o s k'=_;rw [ap,tN n ac ((j g ae).trans ab),aa];exact av s K Z k'
  have a3:Ez E o t=true→w5 E false o t k r:=by
   intro hi;unfold Ez at hi;rw [n] at hi;simp only at hi;split at hi;rotate_left;cases hi;rename_i g ac;split at hi;rotate_left;cases hi;rename_i f ab;split at hi;rotate_left;cases hi;rename_i I az ar;obtain ⟨ae,X⟩:=Kh n ac;rw [tN n ac ab] at C;unfold jt at C;rw [az,ar] at C;simp only at C;obtain ⟨l,v,hk,a9,aA⟩:=ax.inl _ _ _ ar hi _ _ _ _ _ C;have ai:iA E false o t=((c.args.toList.map t.ev).headD .un).aF:=by
    unfold iA;simp_all
   refine ⟨l,v,[],?_,fun m a0=>by simp_all,fun x j=>(by cases j),fun s K j Z σ k'=>?_⟩;rw [←hk];unfold St.step;cases o.dst<;>rfl
   have aa:c.args.toList.map s.ev=c.args.toList.map t.ev:=rF fun x ad=>j _ (X x ad)
   show de E o s k'=_;rw [ap,tN n ac ((j g ae).trans ab),aa];unfold jt;rw [az,ar];simp only;rw [aA s (fun v D b z=>by
    obtain ⟨x,j,rfl⟩:=b9.1 D;exact K b (W _ (X x j) b z))]
   unfold St.step;cases o.dst<;>rfl
  have both:(tM E aB.plain o t||Ez E o t)=true→w5 E false o t k r:=fun z=>by
   rw [fc] at z;exact z.elim call a3
  cases aj:c.callee with
  |builtin b=>
   cases b with
   |append=>
    have al:∀x∈c.args.toList,x∈o.op.operands.toList:=fun x j=>df n (by
     simp only [Op.operands,Call.operands,aj,Array.toList_append];simp_all)
    have e:∀{σ:Type} (s:St) (k:St→Option σ),de E o s k=kj E o s .append c.argTypes.toList (c.args.toList.map s.ev) k:=by
     intro σ s k;rw [ap];unfold a2;simp_all
    rw [e] at h;unfold kj at h;split at h;contradiction;rename_i T tx x y _ a5 D;split at h;rename_i U aD d a7 a6 q;obtain ⟨J,O,aq,rfl,rfl⟩:∃J O,c.args.toList=[J,O]∧t.ev J=x∧t.ev O=y:=by
     match a9:c.args.toList,D with
     |[J,O],D=>
      simp only [dh,gC,eK,eM] at D;exact ⟨J,O,rfl,D.1,D.2⟩
     |[],D=>simp at D
     |[_],D=>simp at D
     |_::_::_::_,D=>simp at D
    have ae:=al J (by rw [aq];simp);have X:=al O (by rw [aq];simp);have ai:iA E false o t=if U.aQ then (t.ev J).aF else hB o t:=by
     unfold iA;simp_all
    obtain ⟨l,v,new,af,ag,ah,av⟩:=acr (A:=(· ∈hB o t)) (B:=(· ∈iA E false o t)) (fun b z=>by
     rw [ai] at z;split at z;exact W J ae b z;exact z) (fun b z=>by
     show b∈iA E false o t;rw [ai];split;exact z;exact W J ae b z) (W O X) (fun ab b z=>by
     show b∈iA E false o t;rw [ai,ab];exact W O X b z) h
    refine ⟨l,v,new,by rw [q];exact af,ag,by rw [q];exact ah,fun s K j Z σ k'=>?_⟩;show de E o s k'=_;rw [e];unfold kj;rw [a5,aq];simp only [dh,gC,a7,a6,q];rw [j J ae,j O X];exact av s K Z k';cases h;contradiction;contradiction;cases h
   |_=>exact both (by simpa [ru,n,aj] using an)
  |_=>exact both (by simpa [ru,n,aj] using an)
 |_=>rw [ru,n] at an;cases an
theorem agl (q:E.w1) {al:Bool} {o:Oper} {t:St} {k:St→Option ρ} {r:ρ} (y:ru E o t=true) (h:nY E al o t k=some r):w5 E al o t k r:=by
 cases al with
 |false=>exact agm q y h
 |true=>
  unfold nY at h;simp only at h;split at h;rotate_left;cases h;rename_i T a x e c;have f:a∈o.op.operands.toList:=df c (by simp [Op.operands]);have z:x∈o.op.operands.toList:=df c (by simp [Op.operands]);obtain ⟨U,g,j⟩:=jE h;obtain ⟨l,n,h4,h5⟩:=alE (B:=(· ∈(t.ev a).aF)) (fun b u=>u) g;refine ⟨l,.unit,[],by rw [e];exact n,(by unfold iA;rw [c];exact h4),fun x d=>(by cases d),fun s v d _ σ k'=>?_⟩;unfold nY;simp only [e,c];rw [j,d a f,d x z,h5 s (v.mono (Uq f))];rfl
theorem afm {o:Oper} {t:St} {k:St→Option ρ} {r:ρ} (g:K8 o t=true) (h:a2 E o t k=some r):∃v new,k (t.step o.dst v new)=some r∧oQ E o t v new:=by
 unfold K8 at g;split at g;rotate_left;cases g;rename_i T len n j;have g:∀x∈n.toList,(t.ev x.2).aF=[]:=fun x c=>by simpa using dE.1 g x c
 have m:∀x∈n.toList,x.2∈o.op.operands.toList:=fun x c=>df j (by
  simp only [Op.operands];exact b9.2 ⟨x,c,rfl⟩)
 unfold a2 at h;rw [j] at h;simp only at h;split at h;rotate_left;cases h;rename_i d f;obtain ⟨U,e,J⟩:=jE h;split at e;rotate_left;cases e;rename_i u;split at e;rotate_left;cases e;rename_i O;have I:∀s:St,(∀x∈o.op.operands.toList,s.ev x=t.ev x∧Ag s t (t.ev x))→(n.toList.map fun x=>s.ev x.2)=n.toList.map fun x=>t.ev x.2:=fun s c=>rF fun x Z=>(c _ (m x Z)).1
 split at e;rename_i xs y;obtain ⟨v,new,z,C,D⟩:=Uy (t:=t) e;refine ⟨v,new,by rw [f];exact z,by rw [f];exact C,fun s c q σ k'=>?_⟩;unfold a2;rw [j];simp only [f];rw [J];simp only;rw [ak O,I s c,y];exact D s q k';rename_i y;obtain ⟨l,xs,W,h4,h5⟩:=Ti (B:=fun _=>False) _ id _ _ _ (fun v Y b K=>by
  obtain ⟨x,c,rfl⟩:=b9.1 Y;rw [g x c] at K;cases K) (fun v b h=>h) e
 have X:l=[]:=by
  cases l with
  |nil=>rfl
  |cons m l=>exact (h4 m (by simp)).elim
 subst X;obtain ⟨v,new,z,C,D⟩:=EY (t:=t) W;refine ⟨v,new,by rw [f];exact z,by rw [f];exact C,fun s c q σ k'=>?_⟩;unfold a2;rw [j];simp only [f];rw [J];simp only;rw [ak O,I s c,y];simp only;rw [h5 s (fun _ h=>h.elim)];exact D s q k'
theorem alc (K:E.w1) {o:Oper} {t:St} {k:St→Option ρ} {r:ρ} (b:KR E o t=true) (h:de E o t k=some r):∃v new,k (t.step o.dst v new)=some r∧oQ E o t v new∧(∀{σ:Type} (s:St) (k:St→Option σ),de E o s k=a2 E o s k):=by
 have J:∀(k:St→Option ρ) (r:ρ),de E o t k=some r→a2 E o t k=some r∧∀{σ:Type} (s:St) (k:St→Option σ),de E o s k=a2 E o s k:=by
  intro k r h;unfold de at h;split at h;rename_i d n;split at h;rename_i O;split at h;cases h;rename_i Y;refine ⟨h,fun s k=>?_⟩;unfold de;rw [n];simp only [O];cases h;rename_i n;exact ⟨h,fun s k=>by unfold de;rw [n]⟩
 obtain ⟨j,l⟩:=J _ _ h;simp only [KR,fc] at b;rcases b with b|b
 rcases b with b|b
 obtain ⟨v,new,e,h4,_⟩:=UH b j;exact ⟨v,new,e,h4,l⟩;obtain ⟨v,new,e,h4⟩:=afm b j;exact ⟨v,new,e,h4,l⟩;obtain ⟨c,g,f,c',u,q,C,z,x⟩:=SS b;have x:∀m∈c'.params,m.gM=true:=dE.1 x
 rw [tN u q C] at j;obtain ⟨v,new,e,h4,h5⟩:=acV z (K.fn _ _ _ z) x j;obtain ⟨W,X⟩:=Kh u q;refine ⟨v,new,e,⟨h4,fun s y U σ k'=>?_⟩,l⟩;obtain ⟨D,I⟩:=adM y X;rw [tN u q ((y g W).1.trans C),D,h5 s I U]
end
section
variable {E:ao}
def jO (ops:List Oper) (o:Oper) (t:St) (b:Bool):Prop:=
 match o.guard with
 |none=>b=true
 |some (j,want)=>∃(d:Nat) (x:Bool),(ops[j]?).bind (·.dst)=some d∧((t.get d=.ad .bool x∧decide (x=want)=b)∨(t.get d=.tup .unit∧b=false))
structure gl (s t:St):Prop where
 get:∀n,s.get n=t.get n
 box:∀b,s.box b=t.box b
 sv:s.sv=t.sv
theorem gl.rfl (s:St):gl s s:=⟨fun _=>Eq.refl _,fun _=>Eq.refl _,Eq.refl _⟩
def kh (E:ao) (ops:List Oper) (o:Oper) (t b:St):Prop:=
 (jO ops o t true∧∃v new,gl b (t.step o.dst v new)∧oQ E o t v new∧∀{σ:Type} (s:St) (k:St→Option σ),de E o s k=a2 E o s k)∨
 (jO ops o t false∧gl b (t.step o.dst (.tup .unit) []))
theorem adu {ρ:Type} {ops:List Oper} {k:St→Option ρ} {o:Oper} {bar:Option (List Nat)} {bo:List (Oper×Option (List Nat))} {t:St} {r:ρ} (h:iR E ops k ((o,bar)::bo) t=some r):
 (jO ops o t true∧pw E ops bar o t (iR E ops k bo)=some r)∨(jO ops o t false∧iR E ops k bo (t.step o.dst (.tup .unit) [])=some r):=by
 unfold iR at h;cases f:o.guard with
 |none=>rw [f] at h;exact .inl ⟨by simp [jO,f],h⟩
 |some n=>
  obtain ⟨j,want⟩:=n;rw [f] at h;simp only at h;cases l:(ops[j]?).bind (·.dst) with
  |none=>rw [l] at h;cases h
  |some d=>
   rw [l] at h;simp only at h;have w:∀(x:Bool) b,t.get d=.ad .bool x→decide (x=want)=b→jO ops o t b:=fun x b q u=>by
    unfold jO;grind
   split at h;rename_i x c;have c:t.get d=.ad .bool (show Bool from x):=c;revert h c;generalize (show Bool from x)=y;intro h c;cases y with
   |true=>
    simp only at h;split at h;simp_all;rename_i g;exact .inr ⟨w true _ c (by simp [g]),by cases e:o.dst<;>rw [e] at h<;>exact h⟩
   |false=>
    simp only at h;split at h;rename_i g;exact .inr ⟨w false _ c (by simp [g]),by cases e:o.dst<;>rw [e] at h<;>exact h⟩;simp_all
   rename_i c;refine .inr ⟨?_,by cases e:o.dst<;>rw [e] at h<;>exact h⟩;unfold jO;simp_all;cases h
def I7 (E:ao) (ops:List Oper) (zs:List (Oper×Option (List Nat))) {ρ:Type} (kn:St→Option ρ) (rn:ρ) (hi:Nat) (t:St):Prop:=
 (hi=ops.length∧kn t=some rn)∨∃o U al,zs[hi]?=some (o,some U)∧jO ops o t true∧y7 E al ops U o t=true∧nY E al o t (iR E ops kn (zs.drop (hi+1)))=some rn
structure gG (E:ao) (ops:List Oper) (zs:List (Oper×Option (List Nat))) {ρ:Type} (kn:St→Option ρ) (rn:ρ) (L0:Nat→Prop) (hi:Nat) (T:Nat→St):Prop where
 len:hi≤ops.length
 step:∀i o,i<hi→ops[i]?=some o→¬L0 i→kh E ops o (T i) (T (i+1))
 bo:∀i,i<hi→L0 i→gl (T (i+1)) (T i)
 stop:I7 E ops zs kn rn hi (T hi)
theorem VO (u:E.w1) (ops:List Oper) (zs:List (Oper×Option (List Nat))) (W:zs.map Prod.fst=ops) {ρ:Type} (kn:St→Option ρ) (rn:ρ):∀(n lo:Nat) (t:St),lo+n=ops.length→iR E ops kn (zs.drop lo) t=some rn→
 ∃(hi:Nat) (T:Nat→St),T lo=t∧lo≤hi∧hi≤ops.length∧(∀i o,lo≤i→i<hi→ops[i]?=some o→kh E ops o (T i) (T (i+1)))∧I7 E ops zs kn rn hi (T hi):=by
 have J:zs.length=ops.length:=by grind
 intro n
 induction n with
 |zero=>
  intro lo t x h;rw [List.drop_of_length_le (by omega)] at h;exact ⟨lo,fun _=>t,rfl,cf _,by omega,fun i o c b=>by omega,.inl ⟨by omega,h⟩⟩
 |succ n y=>
  intro lo t x h;have g:lo<zs.length:=by omega
  have l:zs[lo]?=some zs[lo]:=aT g;have O:ops[lo]?=some zs[lo].1:=by grind
  rw [kc g] at h;have fin:∀d,kh E ops zs[lo].1 t d→iR E ops kn (zs.drop (lo+1)) d=some rn→∃(hi:Nat) (T:Nat→St),T lo=t∧lo≤hi∧hi≤ops.length∧(∀i o,lo≤i→i<hi→ops[i]?=some o→kh E ops o (T i) (T (i+1)))∧I7 E ops zs kn rn hi (T hi):=by
   intro d j c;obtain ⟨hi,T,I,z,q,C,D⟩:=y (lo+1) d (by omega) c;refine ⟨hi,fun m=>if m=lo then t else T m,by simp,by omega,q,fun i o c b K=>?_,?_⟩
   grind
   grind
  rcases adu (o:=zs[lo].1) (bar:=zs[lo].2) h with ⟨c,b⟩|⟨c,b⟩
  unfold pw at b;split at b;rename_i j;obtain ⟨v,new,r,h4,h5⟩:=alc u j b;exact fin _ (.inl ⟨c,v,new,gl.rfl _,h4,h5⟩) r;split at b;rename_i U f;split at b;rename_i e;exact ⟨lo,fun _=>t,rfl,cf _,by omega,fun i o c b=>by omega,.inr ⟨zs[lo].1,U,false,by rw [l,←f],c,e,b⟩⟩;split at b;rename_i e;exact ⟨lo,fun _=>t,rfl,cf _,by omega,fun i o c b=>by omega,.inr ⟨zs[lo].1,U,true,by rw [l,←f],c,e,b⟩⟩;cases b;cases b;exact fin _ (.inr ⟨c,gl.rfl _⟩) b
theorem k5 (s:St) (dst:Option Nat) (v:TV) (new:List (Nat×bl)) (n:Nat):(s.step dst v new).get n=if dst=some n then v else s.get n:=by
 unfold St.step St.get;cases dst with
 |none=>simp
 |some d=>
  simp only [gK,az];split<;>rfl
theorem j8 (s:St) (dst:Option Nat) (v:TV) (new:List (Nat×bl)) (b:Nat):(s.step dst v new).box b=(lk new b).or (s.box b):=by
 unfold St.step St.box;cases dst<;>exact yb _ _ _
section
variable {ρ:Type} {kn:St→Option ρ} {rn:ρ} {ops:List Oper} {zs:List (Oper×Option (List Nat))} {L0:Nat→Prop} {hi:Nat} {T:Nat→St}
theorem yS (s:St) (dst:Option Nat) (v:TV) (new:List (Nat×bl)):(s.step dst v new).sv=s.sv:=by cases dst<;>rfl
theorem alD {o:Oper} {t b:St} (h:kh E ops o t b):b.sv=t.sv:=by
 rcases h with ⟨_,v,new,e,_⟩|⟨_,e⟩<;>rw [e.sv,yS]
theorem alB {o:Oper} {t b:St} (h:kh E ops o t b) {n:Nat} (c:o.dst≠some n):b.get n=t.get n:=by
 rcases h with ⟨_,v,new,e,_⟩|⟨_,e⟩<;>rw [e.get,k5,aj c]
theorem alA {o:Oper} {t c:St} (h:kh E ops o t c) {b:Nat} (n:o.dst≠some (b/32)):c.box b=t.box b:=by
 rcases h with ⟨_,v,new,e,f,_⟩|⟨_,e⟩
 rw [e.box,j8,pj (fun x g e=>?_)];rfl;obtain ⟨d,j,l,_⟩:=f.1 x g;simp_all;rw [e.box,j8];rfl
theorem alC {o:Oper} {t f:St} (h:kh E ops o t f) {b:Nat} {y:bl} (c:t.box b=some y):f.box b=some y:=by
 rcases h with ⟨_,v,new,e,g,_⟩|⟨_,e⟩
 rw [e.box,j8,pj (fun x j e=>?_),c];rfl;obtain ⟨d,l,n,q⟩:=g.1 x j;simp_all;rw [e.box,j8,c];rfl
theorem gG.b3 (S:gG E ops zs kn rn L0 hi T) {i:Nat} (b:i<hi):gl (T (i+1)) (T i)∨∃o,ops[i]?=some o∧¬L0 i∧kh E ops o (T i) (T (i+1)):=by
 by_cases h:L0 i;exact .inl (S.bo i b h);have c:ops[i]?=some _:=aT (jL b S.len);exact .inr ⟨_,c,h,S.step i _ b c h⟩
theorem gG.mono (S:gG E ops zs kn rn L0 hi T) {b:Nat} {y:bl} {m:Nat}:∀(n:Nat),m+n≤hi→(T m).box b=some y→(T (m+n)).box b=some y:=by
 intro n
 induction n with
 |zero=>intro _ h;exact h
 |succ n c=>
  intro f h;rcases S.b3 (i:=m+n) (by omega) with e|⟨o,g,_,d⟩
  exact (e.box b).trans (c (by omega) h);exact alC d (c (by omega) h)
theorem gG.qV (S:gG E ops zs kn rn L0 hi T) {x:Nat} {m:Nat}:∀(n:Nat),m+n≤hi→(∀i o,m≤i→i<m+n→¬L0 i→ops[i]?=some o→o.dst≠some x)→(T (m+n)).get x=(T m).get x:=by
 intro n
 induction n with
 |zero=>intro _ _;rfl
 |succ n g=>
  intro l h;rw [←g (by omega) (fun i o b j=>h i o b (by omega))];rcases S.b3 (i:=m+n) (by omega) with e|⟨o,d,c,f⟩
  exact e.get x;exact alB f (h _ _ (by omega) (by omega) c d)
theorem gG.TQ (S:gG E ops zs kn rn L0 hi T):∀(n:Nat),n≤hi→(T n).sv=(T 0).sv:=by
 intro n
 induction n with
 |zero=>intro _;rfl
 |succ n c=>
  intro f;rw [←c (by omega)];rcases S.b3 (i:=n) (by omega) with e|⟨o,g,d,b⟩
  exact e.sv;exact alD b
theorem gG.uh (S:gG E ops zs kn rn L0 hi T) {b:Nat} {m:Nat}:∀(n:Nat),m+n≤hi→(∀i o,m≤i→i<m+n→¬L0 i→ops[i]?=some o→o.dst≠some (b/32))→(T (m+n)).box b=(T m).box b:=by
 intro n
 induction n with
 |zero=>intro _ _;rfl
 |succ n j=>
  intro q h;rw [←j (by omega) (fun i o c l=>h i o c (by omega))];rcases S.b3 (i:=m+n) (by omega) with e|⟨o,f,d,g⟩
  exact e.box b;exact alA g (h _ _ (by omega) (by omega) d f)
end
structure kH (ops:List Oper):Prop where
 eN:∀(i:Nat) (o:Oper),ops[i]?=some o→∀j∈dW o,j<i
 guard:∀(i:Nat) (o:Oper),ops[i]?=some o→∀j w,o.guard=some (j,w)→j∈dW o
 ul:∀(i:Nat) (o:Oper),ops[i]?=some o→∀x∈fk ops o,∀(j:Nat) (b:Oper),ops[j]?=some b→b.dst=some x→j∈dW o∨(i<j∧((gU ops []).getD j 0).testBit i=true)
 b3:∀(i:Nat) (o:Oper),ops[i]?=some o→∀d,o.dst=some d→∀(j:Nat) (b:Oper),ops[j]?=some b→b.dst=some d→j=i
theorem mem_iff (l:List Nat) (n:Nat):mem l n=true↔n∈l:=by
 induction l with
 |nil=>simp [mem]
 |cons k l b=>
  simp only [mem];by_cases e:k=n;subst e;simp;simp [iQ e,b,fV e]
theorem KP (t:Nat) (o:Oper):nM t o=true↔o.dst=some t:=by
 unfold nM;cases o.dst with
 |none=>simp
 |some d=>
  simp_all
theorem Th {ops:List Oper} (h:Kr ops=true):kH ops:=by
 have key:∀(i:Nat) (o:Oper),ops[i]?=some o→Ks (gU ops []) ops i o=true:=by
  intro i o c;have:=dE.1 h (o,i) (by
   rw [oo];exact ⟨i,by simp [c]⟩)
  exact this
 have all:∀{p:Oper×Nat→Bool},ops.zipIdx.all p=true→∀(j:Nat) (b:Oper),ops[j]?=some b→p (b,j)=true:=by
  intro p u j b c;exact dE.1 u (b,j) (by
   rw [oo];exact ⟨j,by simp [c]⟩)
 refine ⟨fun i o c j r=>?_,fun i o c j w q=>?_,fun i o c x v j b f e=>?_,fun i o c d e j b f n=>?_⟩
 all_goals
  have hk:=key i o c;simp only [Ks,bp] at hk;obtain ⟨⟨⟨y,g⟩,z⟩,l⟩:=hk
 have:=dE.1 y j r;simpa [Nat.blt_eq] using this;rw [q] at g;exact (mem_iff _ _).1 g;have:=all (dE.1 z x v) j b f;simp only [(KP x b).2 e,Bool.not_true,k7,fc,bp] at this;exact this.imp (mem_iff _ _).1 fun h=>⟨by simpa [Nat.blt_eq] using h.1,h.2⟩
 rw [e] at l;have:=all l j b f;simp only [(KP d b).2 n,Bool.not_true,k7] at this;exact fe this
end
theorem afF (acc:List Nat) (k:Nat):∀(l:List Nat),(l.foldr (fun j m=>(2^j|||acc.getD j 0)|||m) 0).testBit k=true→∃j∈l,j=k∨(acc.getD j 0).testBit k=true:=by
 intro l
 induction l with
 |nil=>intro h;simp at h
 |cons j l b=>
  grind
theorem Rh:∀(ops:List Oper) (acc:List Nat),∃l,gU ops acc=acc++l∧l.length=ops.length∧
 ∀(i:Nat) (o:Oper),ops[i]?=some o→∀k,(l.getD i 0).testBit k=true→∃j∈dW o,j=k∨((gU ops acc).getD j 0).testBit k=true:=by
 intro ops
 induction ops with
 |nil=>intro acc;exact ⟨[],by simp [gU],rfl,fun i o h=>by simp at h⟩
 |cons o ops n=>
  intro acc;obtain ⟨l,c,d,f⟩:=n (acc++[(dW o).foldr (fun j m=>(2^j|||acc.getD j 0)|||m) 0]);refine ⟨(dW o).foldr (fun j m=>(2^j|||acc.getD j 0)|||m) 0::l,?_,by simp [d],fun i q b k hk=>?_⟩;simp only [gU];rw [c];simp;cases i with
  |zero=>
   simp only [List.getElem?_cons_zero,az] at b;subst b;simp only [List.getD_cons_zero] at hk;obtain ⟨j,g,e⟩:=afF _ _ _ hk;refine ⟨j,g,e.imp id fun e=>?_⟩;have r:j<acc.length:=by
    grind
   simp only [gU]
   grind
  |succ i=>
   simp only [List.getElem?_cons_succ] at b;simp only [List.getD_cons_succ] at hk;simpa only [gU] using f i q b k hk
def ov (ops:List Oper) (L:Nat→Prop):Prop:=∀(i:Nat) (o:Oper),ops[i]?=some o→L i→∀j∈dW o,L j
theorem tE {ops:List Oper} (hk:kH ops) {L:Nat→Prop} (u:ov ops L):∀(n i:Nat) (o:Oper),i<n→ops[i]?=some o→(∀j∈dW o,L j)→∀k,((gU ops []).getD i 0).testBit k=true→L k:=by
 obtain ⟨l,d,_,q⟩:=Rh ops [];rw [dJ] at d;intro n
 induction n with
 |zero=>intro i o h;omega
 |succ n y=>
  intro i o hi c f k r;obtain ⟨j,b,e⟩:=q i o c k (by rw [←d];exact r);rcases e with rfl|e
  exact f j b;have x:=hk.eN i o c j b;have v:j<ops.length:=Nat.lt_trans x (bR.1 c).1;have g:ops[j]?=some ops[j]:=aT v;exact y j _ (by omega) g (u j _ g (f j b)) k e
theorem Rf {ops:List Oper} {hi:Nat} {o:Oper} {U:List Nat} (h:(ops.zip (jP ops))[hi]?=some (o,some U)):
 ops[hi]?=some o∧∀j,j<ops.length→(j<hi→((gU ops []).getD hi 0).testBit j=true∨j∈U)∧(hi<j→((gU ops []).getD j 0).testBit hi=true):=by
 obtain ⟨l,c,f,_⟩:=Rh ops [];rw [dJ] at c;obtain ⟨d,g⟩:ops[hi]?=some o∧(jP ops)[hi]?=some (some U):=by
  grind
 refine ⟨d,fun j n=>?_⟩;have v:hi<ops.length:=(bR.1 d).1;have b:JH (gU ops []) hi=some U:=by
  unfold jP at g;simp_all
 unfold JH at b;simp only at b;split at b;rotate_left;cases b;rename_i u;obtain rfl:=bk b;have x:j∈List.range (gU ops []).length:=et.2 (by rw [c,f];exact n);constructor;intro q;have e:Nat.beq j hi=false:=iQ (by omega);simp_all;intro q;have e:Nat.beq j hi=false:=iQ (by omega);have r:Nat.blt j hi=false:=by
  cases h:Nat.blt j hi with
  |false=>rfl
  |true=>simp [Nat.blt_eq] at h;omega
 grind
section
variable {P:Program} {E:ao} {F:Fr} {Q:Exit→Act→World→Prop}
theorem aA.congr {G:Nat→Gh} {s d:St} {a:Act} {w:World} (h:aA F G s a w) (o:∀n,d.get n=s.get n) (l:∀b,d.box b=s.box b) (f:d.sv=s.sv):aA F G d a w:=by
 have e:d.box=s.box:=funext l;refine ⟨fun i x c=>?_,fun i x c=>?_,fun i j x y c g=>?_,fun i x c=>?_,fun i x c=>?_,h.R,fun n=>?_,h.bQ,h.gq,h.defers,h.nt,fun i x c=>?_,fun i n=>(by unfold St.gy;rw [e,f];exact h.sv i n),by rw [f];exact h.j9⟩;rw [e] at c⊢;exact h.box i x c;rw [e] at c;exact h.cF i x c;rw [e] at c g;exact h.dc i j x y c g;rw [e] at c;exact h.b7 i x c;rw [e] at c;exact h.bK i x c;rw [e,o];exact h.tmps n;rw [e] at c;exact h.c1 i x c
theorem bH.aF {B:Nat→Option bl} {G:Nat→Gh} {w:World} {R:Nat→Prop}:∀(v:TV) (cs:List Value),bH (ax B G) w R v cs→∀b∈v.aF,∃z,B b=some z:=by
 have j:∀b p u,ax B G b p=some u→∃z,B b=some z:=by
  intro b p u h;unfold ax at h
  grind
 intro v
 induction v with
 |ref b p=>intro cs h g e;simp only [TV.aF,gB] at e;subst e;obtain ⟨_,_,_,_,h,_⟩:=h;exact j _ _ _ h
 |sl b p=>intro cs h g e;simp only [TV.aF,gB] at e;subst e;obtain ⟨_,_,_,_,_,h,_⟩:=h;exact j _ _ _ h
 |slw b p lo n=>intro cs h g e;simp only [TV.aF,gB] at e;subst e;obtain ⟨_,_,_,_,_,h,_⟩:=h;exact j _ _ _ h
 |mp b=>intro cs h g e;simp only [TV.aF,gB] at e;subst e;obtain ⟨_,_,_,_,_,h,_⟩:=h;exact j _ _ _ h
 |cons a d y C=>
  intro cs h g e;obtain ⟨q,r,_,l,x⟩:=h;simp only [TV.aF,aZ] at e
  grind
 |bV f c o=>
  intro cs h g e;obtain ⟨vs,l,_⟩:=h;exact o vs l g e
 |tup a _=>intro cs h;exact h.elim
 |_=>intro cs h g e;simp [TV.aF] at e
theorem eV.aF {B:Nat→Option bl} {G:Nat→Gh} {w:World} {R:Nat→Prop} {v:TV} {x:Value} (h:eV (ax B G) w R v x):∀b∈v.aF,∃z,B b=some z:=by
 rcases h with rfl|⟨cs,h,_⟩
 intro b c;simp [TV.aF] at c;exact bH.aF v cs h
theorem fH.aF {B:Nat→Option bl} {G:Nat→Gh} {w:World} {R:Nat→Prop}:∀(v:TV) (xs:List Value),fH (ax B G) w R v xs→∀b∈v.aF,∃z,B b=some z:=by
 intro v
 induction v with
 |cons a r _ d=>
  intro xs h b c;cases xs with
  |nil=>exact h.elim
  |cons x xs=>
   simp only [TV.aF,aZ] at c;rcases c with c|c
   exact eV.aF h.1 b c;exact d xs h.2 b c
 |unit=>intro xs h b c;simp [TV.aF] at c
 |_=>intro xs h;exact h.elim
theorem VR.aF {B:Nat→Option bl} {G:Nat→Gh} {w:World} {R:Nat→Prop} {v:TV} {x:Value} (h:VR (ax B G) w R v x):∀b∈v.aF,∃z,B b=some z:=by
 by_cases c:∃a,v=.tup a
 obtain ⟨a,rfl⟩:=c;obtain ⟨xs,h,_⟩:=h;exact fH.aF a xs h;rw [nu (fun a e=>c ⟨a,e⟩)] at h;exact eV.aF h
end
section
variable {P:Program} {E:ao} {F:Fr} {Q:Exit→Act→World→Prop}
def cv (b:Array Bool) (i:Nat):Prop:=b.getD i false=true
theorem lM {ops:Array Oper} {b:Array Bool} (n:b.size=ops.size) (i:Nat):
 i∈Region.ready .any ops b↔∃o,ops.toList[i]?=some o∧¬cv b i∧∀j∈dW o,cv b j:=by
 have e:∀o:Oper,(o.after.all fun e=> !Region.binds .any e||b.getD e.on false)=true↔∀j∈dW o,cv b j:=by
  intro o;rw [←Array.all_toList,dE];constructor;intro h j f;simp only [dW,b9,dB] at f;obtain ⟨e,⟨d,c⟩,rfl⟩:=f;have:=h e d;rw [c,Bool.not_true,k7] at this;exact this;intro h e d;by_cases c:Region.binds .any e=true;have:=h e.on (by simp only [dW,b9,dB];grind);unfold cv at this;rw [this];simp;simp [c]
 unfold Region.ready;rw [dB];simp only [et,bp,hn];have g:∀i,i<ops.size→(b.getD i true=false↔¬cv b i):=by
  intro i hi;have l:i<b.size:=by omega
  unfold cv;simp_all
 grind
theorem jZ {b:Array Bool} {i:Nat} (hi:i<b.size) (j:Nat):cv (b.setIfInBounds i true) j↔j=i∨cv b j:=by
 unfold cv;rw [iB,iB,Array.getElem?_setIfInBounds]
 grind
def jq (ops:List Oper) (L L0:Nat→Prop) (hi:Nat) (x:Nat):Prop:=∃(i:Nat) (o:Oper),i<hi∧¬L0 i∧L i∧ops[i]?=some o∧o.dst=some x
structure Jn (ops:List Oper) (L L0:Nat→Prop) (hi:Nat) (T:Nat→St) (s:St):Prop where
 KF:∀x,jq ops L L0 hi x→s.get x=(T hi).get x
 KE:∀x,¬jq ops L L0 hi x→s.get x=(T 0).get x
 JM:∀b,jq ops L L0 hi (b/32)→s.box b=(T hi).box b
 o0:∀b,¬jq ops L L0 hi (b/32)→s.box b=(T 0).box b
 sv:s.sv=(T 0).sv
section
variable {ρ:Type} {kn:St→Option ρ} {rn:ρ} {ops:List Oper} {zs:List (Oper×Option (List Nat))} {L0:Nat→Prop} {hi:Nat} {T:Nat→St} {L:Nat→Prop} {s:St}
def hs (ops:List Oper) (L:Nat→Prop) (hi:Nat) (x:Nat):Prop:=∃(i:Nat) (o:Oper),i<hi∧¬L i∧ops[i]?=some o∧o.dst=some x
theorem Jn.FH (S:gG E ops zs kn rn L0 hi T) (J:Jn ops L L0 hi T s) {x:Nat} (g:¬hs ops L hi x):s.get x=(T hi).get x:=by
 by_cases b:jq ops L L0 hi x;exact J.KF x b;rw [J.KE x b];have:=S.qV (x:=x) (m:=0) hi (by omega) fun i o _ h f e d=>by
  by_cases c:L i;exact b ⟨i,o,by omega,f,c,e,d⟩;exact g ⟨i,o,by omega,c,e,d⟩
 simp_all
theorem Jn.yO (S:gG E ops zs kn rn L0 hi T) (J:Jn ops L L0 hi T s) {b:Nat} (h:¬hs ops L hi (b/32)):s.box b=(T hi).box b:=by
 by_cases c:jq ops L L0 hi (b/32);exact J.JM b c;rw [J.o0 b c];have:=S.uh (b:=b) (m:=0) hi (by omega) fun i o _ j g f e=>by
  by_cases d:L i;exact c ⟨i,o,by omega,g,d,f,e⟩;exact h ⟨i,o,by omega,d,f,e⟩
 simp_all
theorem Jn.tY (S:gG E ops zs kn rn L0 hi T) (J:Jn ops L L0 hi T s) (h:∀i,i<hi→L i):gl (T hi) s:=
 ⟨fun _=>(J.FH S fun ⟨i,_,b,c,_⟩=>c (h i b)).symm,fun _=>(J.yO S fun ⟨i,_,b,c,_⟩=>c (h i b)).symm,by rw [J.sv];exact S.TQ hi (cf _)⟩
theorem Jn.yc (hk:kH ops) (S:gG E ops zs kn rn L0 hi T) (J:Jn ops L L0 hi T s) (u:ov ops L) {i:Nat} {o:Oper} (X:i<hi) (r:ops[i]?=some o) (q:¬L i) (I:∀j∈dW o,L j) {x:Nat} (v:x∈fk ops o):
 s.get x=(T i).get x:=by
 have C:∀(j:Nat) (b:Oper),L j→ops[j]?=some b→b.dst=some x→j∈dW o:=fun j b n d c=>
  (hk.ul i o r x v j b d c).resolve_right fun h=>q (tE hk u (j+1) j b (lZ j) d (u j b d n) i h.2)
 have D:∀(j:Nat) (b:Oper),j<i→ops[j]?=some b→b.dst=some x→j∈dW o:=fun j b n d c=>
  (hk.ul i o r x v j b d c).resolve_right fun h=>by omega
 by_cases g:jq ops L L0 hi x;rw [J.KF x g];obtain ⟨j,b,Z,Y,O,y,z⟩:=g;have n:=hk.eN i o r j (C j b O y z);obtain ⟨m,K⟩:∃m,hi=i+m:=⟨hi-i,by omega⟩
 rw [K];refine S.qV m (by omega) fun e l U W _ f c=>?_
 have:=hk.b3 j b y x z e l f c;omega;rw [J.KE x g];have:=S.qV (x:=x) (m:=0) i (by omega) fun e l U W q f c=>g ⟨e,l,by omega,q,I e (D e l (by omega) f c),f,c⟩
 simp_all
theorem Jn.eS (S:gG E ops zs kn rn L0 hi T) (J:Jn ops L L0 hi T s) {i:Nat} (f:i≤hi) {b:Nat} {y z:bl} (e:(T i).box b=some y) (c:s.box b=some z):y=z:=by
 by_cases d:jq ops L L0 hi (b/32);rw [J.JM b d] at c;obtain ⟨m,g⟩:∃m,hi=i+m:=⟨hi-i,by omega⟩
 have:=S.mono m (by omega) e;simp_all;rw [J.o0 b d] at c;have:=S.mono (m:=0) i (by omega) c;simp_all
theorem Jn.cW {G:Nat→Gh} {a:Act} {w:World} (h:aA F G s a w) (hk:kH ops) (S:gG E ops zs kn rn L0 hi T) (J:Jn ops L L0 hi T s) (l:ov ops L) {i:Nat} {o:Oper} (d:i<hi) (q:ops[i]?=some o) (n:¬L i) (f:∀j∈dW o,L j):
 HK o s (T i):=by
 intro x r;have e:s.ev x=(T i).ev x:=by
  cases x with
  |tmp t=>
   refine J.yc hk S l d q n f ?_;unfold fk;refine aZ.2 (.inl (u4.2 ⟨_,r,rfl⟩))
  |_=>rfl
 refine ⟨e,fun b g y u=>?_⟩;obtain ⟨z,c⟩:=VR.aF (cA h x) b (by rw [e];exact g);rw [J.eS S (by omega) u c,c]
theorem Nv {ops:Array Oper} {G:Nat→Gh} {a:Act} {w:World} {t:St} (h:aA F G s a w) {o:Oper} (C:∀x∈fk ops.toList o,s.get x=t.get x) {b:Bool} (f:jO ops.toList o t b):Region.wanted o (yielded ops a.tmps)=b:=by
 unfold jO at f;cases g:o.guard with
 |none=>rw [g] at f;simp only at f;simp [Region.wanted,g,f]
 |some J=>
  obtain ⟨j,want⟩:=J;rw [g] at f;simp only at f;obtain ⟨d,x,c,y⟩:=f;have z:d∈fk ops.toList o:=by
   unfold fk;simp_all
  have e:=C d z;rcases y with ⟨l,u⟩|⟨l,u⟩
  rotate_left;rw [l] at e;rw [hF] at c;have r:=TB h c e;simp only [Region.wanted,g,r];simp_all;rw [l] at e;have q:=TA h e;have r:yielded ops a.tmps j=some x:=by
   have I:a.tmps[d]?=some (.bool x):=by
    rw [iB] at q;cases D:a.tmps[d]? with
    |none=>rw [D] at q;cases q
    |some v=>simp_all
   rw [hF] at c;cases n:ops[j]? with
   |none=>rw [n] at c;cases c
   |some K=>
    rw [n] at c;have c:K.dst=some d:=c;simp only [yielded,n,c,I,Option.bind_some]
  simp only [Region.wanted,g,r];rw [←u]
  grind
theorem Jn.next (hk:kH ops) (S:gG E ops zs kn rn L0 hi T) (J:Jn ops L L0 hi T s) {i:Nat} {o:Oper} (ac:i<hi) (g:ops[i]?=some o) (ae:¬L i) (aa:¬L0 i) {v:TV} {new:List (Nat×bl)}
 (K:gl (T (i+1)) ((T i).step o.dst v new)) (af:∀x∈new,∃d,o.dst=some d∧x.1/32=d) {L':Nat→Prop} (C:∀j,L' j↔j=i∨L j):Jn ops L' L0 hi T (s.step o.dst v new):=by
 obtain ⟨m,O⟩:∃m,hi=(i+1)+m:=⟨hi-(i+1),by omega⟩
 have ab:∀x,o.dst=some x→¬jq ops L L0 hi x:=fun x l ⟨j,c,_,_,y,n,q⟩=>by
  have:=hk.b3 i o g x l j c n q;simp_all
 have z:∀x,o.dst≠some x→(jq ops L' L0 hi x↔jq ops L L0 hi x):=fun x l=>by
  constructor;rintro ⟨j,c,D,I,y,n,q⟩;rcases (C j).1 y with rfl|h
  simp_all;exact ⟨j,c,D,I,h,n,q⟩;rintro ⟨j,c,D,I,y,n,q⟩;exact ⟨j,c,D,I,(C j).2 (.inr y),n,q⟩
 have U:∀b,o.dst≠some (b/32)→lk new b=none:=fun b ad=>pj fun x l e=>by
  grind
 have wr:∀x,o.dst=some x→jq ops L' L0 hi x:=fun x l=>⟨i,o,ac,aa,(C i).2 (.inl rfl),g,l⟩
 refine ⟨fun x f=>?_,fun x f=>?_,fun b f=>?_,fun b f=>?_,by rw [yS];exact J.sv⟩;rw [k5];by_cases e:o.dst=some x;rw [ak e,O];rw [S.qV (m:=i+1) m (by omega) (fun j c W X _ r u=>by have:=hk.b3 i o g x e j c r u;omega),K.get,k5,ak e];rw [aj e];exact J.KF x ((z x e).1 f);rw [k5];have e:o.dst≠some x:=fun e=>f (wr x e)
 rw [aj e];exact J.KE x (fun h=>f ((z x e).2 h));rw [j8];by_cases e:o.dst=some (b/32);rw [J.o0 b (ab _ e)];have Y:(T hi).box b=(T (i+1)).box b:=by
  rw [O];exact S.uh (m:=i+1) m (by omega) (fun j c W X _ r u=>by have:=hk.b3 i o g _ e j c r u;omega)
 have Z:(T i).box b=(T 0).box b:=by
  have:=S.uh (b:=b) (m:=0) i (by omega) (fun j c W X _ r u=>by have:=hk.b3 i o g _ e j c r u;omega);simp_all
 rw [Y,K.box,j8,Z];rw [U b e];exact J.JM b ((z _ e).1 f);rw [j8];have e:o.dst≠some (b/32):=fun e=>f (wr _ e)
 rw [U b e];exact J.o0 b (fun h=>f ((z _ e).2 h))
end
end
section
variable {E:ao}
theorem T5 {α:Type}:∀{l:List (Nat×α)} {n:Nat} {v:α},lk l n=some v→(n,v)∈l
 |[],_,_,h=>by cases h
 |(k,x)::l,n,v,h=>by
  rw [gK] at h;split at h;simp_all;exact List.mem_cons_of_mem _ (T5 h)
def ow (t:St) (B:List Nat) (b:Nat):Prop:=b∉B∧∀y,t.box b=some y→∀c∈y.c.aF,c∉B
theorem S2 {t:St} {B:List Nat} {b:Nat} (h:Ej t B b=true):ow t B b:=by
 have e:∀c,(!mem B c)=true→c∉B:=fun c d f=>by
  rw [(mem_iff B c).2 f] at d;cases d
 simp only [Ej,bp] at h;refine ⟨e b h.1,fun y g c d=>e c ?_⟩;simp_all
theorem anz {al:Bool} {ops:List Oper} {U:List Nat} {o:Oper} {t:St} (h:y7 E al ops U o t=true) {j:Nat} (l:j∈U):ru E o t=true∧∀(j:Nat) (p:Oper),j∈U→ops[j]?=some p→
 (∀x∈fk ops p,∀(i:Nat) (c:Oper),ops[i]?=some c→c.dst=some x→i∈dW p∨i∉U)∧(∀n∈ly ops p++p.dst.toList,∀b∈(t.get n).aF,ow t (iA E al o t) b)∧(∀d,p.dst=some d→∀b y,t.box b=some y→b/32=d→ow t (iA E al o t) b):=by
 simp only [y7,fc,bp] at h;rcases h with h|⟨q,r⟩
 simp_all;refine ⟨q,fun j p l z=>?_⟩;have:=dE.1 r j l;rw [z] at this;simp only [bp] at this;refine ⟨fun x C i c I f=>?_,fun n v b e=>S2 (dE.1 (dE.1 this.1.2 n v) b e),fun d f b y D e=>?_⟩;have h5:=dE.1 (dE.1 this.1.1 x C) (c,i) (by
  grind)
 simp only [(KP x c).2 f,Bool.not_true,k7,fc] at h5;refine h5.imp (mem_iff _ _).1 fun h u=>?_
 rw [(mem_iff _ _).2 u] at h;cases h;have g:=this.2;rw [f] at g;have h4:=dE.1 g (b,y) (T5 D);simp only [e,lY,Bool.not_true,k7] at h4;exact S2 h4
theorem Nw {ops:List Oper} {o:Oper} {s t:St} (n:∀x∈ly ops o,s.get x=t.get x) {b:Bool} (h:jO ops o t b):jO ops o s b:=by
 unfold jO at h⊢;cases c:o.guard with
 |none=>rw [c] at h;exact h
 |some e=>
  obtain ⟨j,want⟩:=e;rw [c] at h;simp only at h⊢;obtain ⟨d,x,f,g⟩:=h;have l:d∈ly ops o:=by
   unfold ly;split;simp_all;unfold fk;simp_all
  grind
theorem S4 {ops:List Oper} {o:Oper}:∀x∈ly ops o,x∈fk ops o:=by
 intro x b;unfold ly at b;split at b;unfold fk;simp_all;exact b
theorem S1 {ops:List Oper} {o:Oper} (h:∀x i,o.op≠ .extract x i):ly ops o=fk ops o:=by
 unfold ly;simp_all
theorem ame (m:Mv) (v:TV):m.tv (.tup v)=.tup (m.tv v):=by cases m<;>rfl
theorem Tx:∀(l:List Mv) (v:TV),jx l (.tup v)=.tup (jx l v)
 |[],_=>rfl
 |m::l,v=>by simp only [jx,ame,Tx l]
theorem amd (m:Mv):∀(v:TV) (i:Nat) (u:TV),gu v i=some u→gu (m.tv v) i=some (m.tv u):=by
 cases m with
 |set b x=>intro v i u h;exact h
 |aw b p=>
  intro v
  induction v with
  |cons a r f e=>
   intro i u h;cases i with
   |zero=>simp only [gu,az] at h;subst h;rfl
   |succ i=>exact e i u h
  |ad t x=>
   intro i u h;have:∀(i:Nat) (t:Ty) (x:t.ai) (u:TV),gu (.ad t x) i=some u→∃c x',u=.ad c x':=by
    intro i
    induction i with
    |zero=>intro t x u h;cases t<;>simp [gu] at h;grind
    |succ i d=>intro t x u h;cases t<;>simp [gu] at h;exact d _ _ _ h
   obtain ⟨c,x',rfl⟩:=this i t x u h;exact h
  |_=>intro i u h;cases i<;>simp [gu] at h
 |drop b=>
  intro v
  induction v with
  |cons a r f e=>
   intro i u h;cases i with
   |zero=>simp only [gu,az] at h;subst h;rfl
   |succ i=>exact e i u h
  |ad t x=>
   intro i u h;have:∀(i:Nat) (t:Ty) (x:t.ai) (u:TV),gu (.ad t x) i=some u→∃c x',u=.ad c x':=by
    intro i
    induction i with
    |zero=>intro t x u h;cases t<;>simp [gu] at h;grind
    |succ i d=>intro t x u h;cases t<;>simp [gu] at h;exact d _ _ _ h
   obtain ⟨c,x',rfl⟩:=this i t x u h;exact h
  |_=>intro i u h;cases i<;>simp [gu] at h
theorem Tw:∀(l:List Mv) (v:TV) (i:Nat) (u:TV),gu v i=some u→gu (jx l v) i=some (jx l u)
 |[],_,_,_,h=>h
 |m::l,v,i,u,h=>Tw l _ i _ (amd m v i u h)
theorem adR {o:Oper} {x:Operand} {i:Nat} (b:o.op=.extract x i) {t:St} {v u:TV} (e:t.ev x=.tup v) (d:gu v i=some u):oQ E o t u []:=
 ⟨fun y f=>(by cases f),fun s c _ σ k=>by
  have m:x∈o.op.operands.toList:=df b (by simp [Op.operands]);unfold a2;rw [b];simp only [(c x m).1,e,d];exact Fk _ _ _ _⟩
section
variable {ρ:Type} {kn:St→Option ρ} {rn:ρ} {ops:List Oper} {zs:List (Oper×Option (List Nat))} {L0:Nat→Prop} {hi:Nat} {T:Nat→St} {L:Nat→Prop} {s:St}
theorem Jn.acE (hk:kH ops) (S:gG E ops zs kn rn L0 hi T) (J:Jn ops L L0 hi T s) (aS:∀i,L0 i→L i) {e:Oper} (aE:ops[hi]?=some e) {B:List Nat}
 (av:∀n o,n<hi→¬L n→ops[n]?=some o→∀x∈fk ops o,∀(j:Nat) (aK:Oper),j≤hi→ops[j]?=some aK→aK.dst=some x→j∈dW o)
 (aD:∀j p,j<hi→¬L j→ops[j]?=some p→∀n∈ly ops p++p.dst.toList,∀b∈((T hi).get n).aF,ow (T hi) B b)
 (bs:∀j p,j<hi→¬L j→ops[j]?=some p→∀d,p.dst=some d→∀b y,(T hi).box b=some y→b/32=d→ow (T hi) B b)
 {l:List Mv} {v:TV} {new:List (Nat×bl)} (af:∀m∈l,m.at∈B) (bb:∀x∈new,∃d,e.dst=some d∧x.1/32=d∧(bJ (T hi) l).box x.1=none):
 ∃r:Nat→St,r 0=(bJ s l).step e.dst v new∧(∀i o,i<hi→ops[i]?=some o→¬L i→kh E ops o (r i) (r (i+1)))∧(∀i,i<hi→L i→gl (r (i+1)) (r i))∧
  gl ((bJ (T hi) l).step e.dst v new) (r hi):=by
 have a0:∀{t:TV},(∀b∈t.aF,ow (T hi) B b)→jx l t=t:=fun {t} h=>Tv l fun m ac I=>(h _ I).1 (af m ac)
 have aO:∀{b:Nat} {y:bl},(T hi).box b=some y→ow (T hi) B b→o1 b l (some y)=some y:=fun {b y} Y h=>Rn l fun m ac=>⟨fun e=>h.1 (e▸af m ac),fun aU=>h.2 y Y _ aU (af m ac)⟩
 have aI:∀b,e.dst≠some (b/32)→lk new b=none:=fun b I=>pj fun x q e=>by
  grind
 have bp:∀x,e.dst≠some x→((bJ s l).step e.dst v new).get x=jx l (s.get x):=fun x q=>by rw [k5,aj q,yJ]
 have bo:∀b,((bJ s l).step e.dst v new).box b=(lk new b).or (o1 b l (s.box b)):=fun b=>by rw [j8,n2]
 have ay:∀(j:Nat) (o:Oper) (x:Nat),j<hi→ops[j]?=some o→o.dst=some x→e.dst≠some x:=fun j o x bv X q am=>by
  have:=hk.b3 j o X x q hi e aE am;omega
 have key:∀n,n≤hi→∃r:Nat→St,r 0=(bJ s l).step e.dst v new∧(∀i o,i<n→ops[i]?=some o→¬L i→kh E ops o (r i) (r (i+1)))∧(∀i,i<n→L i→gl (r (i+1)) (r i))∧
  (∀x,hs ops L n x→(r n).get x=(T hi).get x)∧(∀x,¬hs ops L n x→(r n).get x=((bJ s l).step e.dst v new).get x)∧
  (∀b,hs ops L n (b/32)→(r n).box b=(T hi).box b)∧(∀b,¬hs ops L n (b/32)→(r n).box b=((bJ s l).step e.dst v new).box b)∧(r n).sv=((bJ s l).step e.dst v new).sv:=by
  intro n
  induction n with
  |zero=>
   intro _;have no:∀x,¬hs ops L 0 x:=fun x ⟨i,_,h,_⟩=>Nat.not_lt_zero i h
   exact ⟨fun _=>_,rfl,fun i o h=>absurd h (Nat.not_lt_zero i),fun i h=>absurd h (Nat.not_lt_zero i),fun x h=>absurd h (no x),fun x _=>rfl,fun b h=>absurd h (no _),fun b _=>rfl,rfl⟩
  |succ n bh=>
   intro ag;obtain ⟨r,t0,aL,aM,t3,t4,t5,a8,a9⟩:=bh (by omega);obtain ⟨o,X⟩:∃o,ops[n]?=some o:=⟨_,aT (jL ag S.len)⟩
   have ext:∀(u:St) (i:Nat),i≤n→(if i≤n then r i else u)=r i:=fun u i hi=>ak hi
   have aC:∀(u:St),(if n+1≤n then r (n+1) else u)=u:=fun u=>aj (by omega)
   by_cases al:L n
   ·
    have a4:∀x,hs ops L (n+1) x↔hs ops L n x:=fun x=>by
     constructor;rintro ⟨i,p,C,D,K⟩;by_cases az:i=n;simp_all;exact ⟨i,p,by omega,D,K⟩;rintro ⟨i,p,C,D,K⟩;exact ⟨i,p,by omega,D,K⟩
    refine ⟨fun i=>if i≤n then r i else r n,by simp [t0],fun i p hi Z af=>?_,fun i hi af=>?_,?_⟩
    grind
    by_cases az:i=n;subst az;simp only [ext _ i (cf _),aC];exact gl.rfl _
    grind
    grind
   have aY:¬L0 n:=fun h=>al (aS n h)
   have b0:∀(x:Nat),o.dst=some x→∀(j:Nat) (p:Oper),ops[j]?=some p→p.dst=some x→j=n:=fun x q j p Z bc=>hk.b3 n o X x q j p Z bc
   have bm:∀x,o.dst=some x→¬hs ops L n x:=fun x q ⟨j,p,C,_,K,O⟩=>by grind
   have bV:=aD n o ag al X;obtain ⟨m,ac⟩:∃m,hi=n+m:=⟨hi-n,by omega⟩
   obtain ⟨a6,a1⟩:∃m,hi=(n+1)+m:=⟨hi-(n+1),by omega⟩
   have a5:∀x∈fk ops o,(T hi).get x=(T n).get x:=fun x q=>by
    rw [ac];refine S.qV m (by omega) fun i p C D _ Z U=>?_
    have:=hk.eN n o X i (av n o ag al X x q i p (by omega) Z U);omega
   have aJ:∀x∈fk ops o,(r n).get x=(T n).get x∨(r n).get x=jx l ((T n).get x):=fun x q=>by
    rw [←a5 x q];by_cases W:hs ops L n x;exact .inl (t3 x W);right;have aW:e.dst≠some x:=fun am=>by
     have:=hk.eN n o X hi (av n o ag al X x q hi e (cf _) aE am);omega
    rw [t4 x W,bp x aW,J.FH S fun ⟨j,p,C,D,K,O⟩=>W ⟨j,p,hk.eN n o X j (av n o ag al X x q j p (by omega) K O),D,K,O⟩]
   have aw:∀x∈ly ops o,(r n).get x=(T n).get x:=fun x q=>by
    rcases aJ x (S4 x q) with h|h
    exact h;rw [h,←a5 x (S4 x q)];exact a0 fun b I=>bV x (aZ.2 (.inl q)) b I
   have bu:∀b,o.dst=some (b/32)→(r n).box b=(T n).box b:=fun b I=>by
    rw [a8 b (bm _ I),bo,aI b (ay n o _ ag X I)];have aP:(T n).box b=(T 0).box b:=by
     have:=S.uh (b:=b) (m:=0) n (by omega) fun i p C D _ Z U=>by grind
     grind
    have aQ:s.box b=(T 0).box b:=J.o0 b fun ⟨i,p,_,_,K,O,bz⟩=>by
     grind
    rw [aQ,←aP];cases Y:(T n).box b with
    |none=>rw [JN];rfl
    |some y=>
     have ar:(T hi).box b=some y:=by rw [ac];exact S.mono m (by omega) Y
     grind
   have aR:(∀x i,o.op≠ .extract x i)→∀x∈o.op.operands.toList,(r n).ev x=(T n).ev x:=fun an x q=>by
    cases x with
    |tmp t=>exact aw t (by
     rw [S1 an];unfold fk;exact aZ.2 (.inl (u4.2 ⟨_,q,rfl⟩)))
    |_=>rfl
   have aN:(∀x i,o.op≠ .extract x i)→∀x∈o.op.operands.toList,∀b∈((T n).ev x).aF,∀y,(T n).box b=some y→(r n).box b=some y:=by
    intro an x q b I y Y;have ar:(T hi).box b=some y:=by rw [ac];exact S.mono m (by omega) Y
    by_cases W:hs ops L n (b/32);rw [t5 b W,ar];have aV:ow (T hi) B b:=by
     cases x with
     |tmp t=>
      have aH:t∈fk ops o:=by
       unfold fk;exact aZ.2 (.inl (u4.2 ⟨_,q,rfl⟩))
      exact bV t (aZ.2 (.inl (by rw [S1 an];exact aH))) b (by rw [a5 t aH];exact I)
     |const c=>exact absurd I (by
      simp only [St.ev,Kp];split<;>(try split)<;>simp [TV.aF])
     |func f=>exact absurd I (by simp [St.ev,TV.aF])
     |global g=>exact absurd I (by simp [St.ev,TV.aF])
    have bx:s.box b=some y:=by
     by_cases aB:hs ops L hi (b/32);obtain ⟨j,p,C,D,K,O⟩:=aB;have bw:n≤j:=Nat.le_of_not_lt fun h=>W ⟨j,p,h,D,K,O⟩
     rw [J.o0 b fun ⟨i,a7,_,_,ad,r4,bn⟩=>by
      have:=hk.b3 j p K _ O i a7 r4 bn
      grind]
     have:=S.uh (b:=b) (m:=0) n (by omega) fun i a7 ao ap _ Z U=>by have:=hk.b3 j p K _ O i a7 Z U;omega
     grind
     rw [J.yO S aB,ar]
    have av:lk new b=none:=pj fun x q ex=>by
     obtain ⟨d,_,_,ad⟩:=bb x q;subst ex;rw [n2,ar,aO ar aV] at ad;cases ad
    grind
   obtain ⟨ae,aa,au,ba,aG⟩:∃ae aa,gl (T (n+1)) ((T n).step o.dst ae aa)∧(∀x∈aa,∃d,o.dst=some d∧x.1/32=d)∧kh E ops o (r n) ((r n).step o.dst ae aa):=by
    rcases S.step n o ag X aY with ⟨ax,ae,aa,C,D,K⟩|⟨ax,C⟩
    by_cases am:∃x i,o.op=.extract x i
    ·obtain ⟨x,i,a3⟩:=am;have bj:x∈o.op.operands.toList:=df a3 (by simp [Op.operands]);have ab:=D.2 (T n) (fun x _=>⟨rfl,fun b _ y Y=>Y⟩) (fun y Y=>by
      obtain ⟨d,_,_,ad⟩:=D.1 y Y;exact ad) some
     unfold a2 at ab;rw [a3] at ab;simp only at ab;split at ab;rotate_left;cases ab;rename_i v ah;split at ab;rotate_left;cases ab;rename_i u aq;rw [Fk] at ab;have be:=bk ab;rw [←be] at C;have bf:∃aA ai,(r n).ev x=.tup aA∧gu aA i=some ai∧(ai=u∨ai=jx l u):=by
      cases x with
      |tmp z=>
       have bg:z∈fk ops o:=by
        unfold fk;exact aZ.2 (.inl (u4.2 ⟨_,bj,rfl⟩))
       have ah:(T n).get z=.tup v:=ah;rcases aJ z bg with h|h
       exact ⟨v,u,h.trans ah,aq,.inl rfl⟩;exact ⟨jx l v,jx l u,by rw [←Tx,←ah];exact h,Tw l v i u aq,.inr rfl⟩
      |const c=>exact ⟨v,u,ah,aq,.inl rfl⟩
      |func f=>exact ⟨v,u,ah,aq,.inl rfl⟩
      |global g=>exact ⟨v,u,ah,aq,.inl rfl⟩
     obtain ⟨aA,ai,ao,ap,ad⟩:=bf;have aG:gl (T (n+1)) ((T n).step o.dst ai []):=by
      rcases ad with rfl|rfl
      exact C;cases U:o.dst with
      |none=>rw [U] at C;exact C
      |some d=>
       have au:(T hi).get d=u:=by
        rw [a1,S.qV a6 (by omega) (fun i p C D _ Z bt=>by grind),C.get,k5,ak U]
       rw [a0 fun b I=>bV d (aZ.2 (.inr (by rw [U];simp))) b (by rw [au];exact I),←U];exact C
     exact ⟨ai,[],aG,fun x q=>(by cases q),.inl ⟨Nw aw ax,ai,[],gl.rfl _,adR a3 ao ap,K⟩⟩
    have an:∀x i,o.op≠ .extract x i:=fun x i h=>am ⟨x,i,h⟩
    refine ⟨ae,aa,C,fun x q=>(D.1 x q).imp fun d U=>⟨U.1,U.2.1⟩,.inl ⟨Nw aw ax,ae,aa,gl.rfl _,⟨fun x q=>?_,fun s2 bd aX σ k=>?_⟩,K⟩⟩;obtain ⟨d,ao,ap,ad⟩:=D.1 x q
    grind
    refine D.2 s2 (fun x q=>?_) aX k;obtain ⟨ao,ap⟩:=bd x q;rw [aR an x q] at ao ap;exact ⟨ao,fun b I y Y=>ap b I y (aN an x q b I y Y)⟩;exact ⟨_,[],C,fun x q=>(by cases q),.inr ⟨Nw aw ax,gl.rfl _⟩⟩
   have bi:∀b,o.dst≠some (b/32)→lk aa b=none:=fun b I=>pj fun x q e=>by
    obtain ⟨d,C,D⟩:=ba x q
    grind
   have a4:∀x,hs ops L (n+1) x↔(hs ops L n x∨o.dst=some x):=fun x=>by
    constructor;rintro ⟨i,p,C,D,K,O⟩;by_cases az:i=n
    grind
    exact .inl ⟨i,p,by omega,D,K,O⟩;rintro (⟨i,p,C,D,K⟩|h);exact ⟨i,p,by omega,D,K⟩;exact ⟨n,o,by omega,al,X,h⟩
   have br:∀x,o.dst=some x→(T hi).get x=ae:=fun x q=>by
    rw [a1,S.qV a6 (by omega) (fun i p C D _ Z U=>by grind),au.get,k5,ak q]
   have bq:∀b,o.dst=some (b/32)→(T hi).box b=(lk aa b).or ((T n).box b):=fun b I=>by
    rw [a1,S.uh a6 (by omega) (fun i p C D _ Z U=>by grind),au.box,j8]
   refine ⟨fun i=>if i≤n then r i else (r n).step o.dst ae aa,by simp [t0],fun i p hi Z af=>?_,fun i hi af=>?_,?_⟩
   grind
   grind
   simp only [aC];refine ⟨fun x q=>?_,fun x q=>?_,fun b I=>?_,fun b I=>?_,by rw [yS];exact a9⟩;rw [k5];by_cases ex:o.dst=some x
   grind
   grind
   rw [k5,aj fun ex=>q ((a4 x).2 (.inr ex))]
   grind
   rw [j8];by_cases ex:o.dst=some (b/32)
   grind
   grind
   rw [j8,bi b fun ex=>I ((a4 _).2 (.inr ex))]
   grind
 obtain ⟨r,t0,aL,aM,t3,t4,t5,a8,a9⟩:=key hi (cf _);refine ⟨r,t0,aL,aM,⟨fun x=>?_,fun b=>?_,?_⟩⟩;by_cases W:hs ops L hi x;rw [t3 x W];obtain ⟨j,p,C,D,K,O⟩:=W;rw [k5,aj (ay j p x C K O),yJ];exact a0 fun b I=>aD j p C D K x (aZ.2 (.inr (by rw [O];simp))) b I
 rw [t4 x W,k5,k5];split;rfl;rw [yJ,yJ,J.FH S W];by_cases W:hs ops L hi (b/32);rw [t5 b W];obtain ⟨j,p,C,D,K,O⟩:=W;rw [j8,aI b (ay j p _ C K O),n2];cases Y:(T hi).box b with
 |none=>rw [JN];rfl
 |some y=>grind
 rw [a8 b W,j8,j8,n2,n2,J.yO S W];rw [a9,yS,yS,Mk,Mk,J.sv,S.TQ hi (cf _)]
end
end
section
variable {P:Program} {Q:Exit→Act→World→Prop}
theorem yA:∀(p:List Nat) (n:Nat),n∈p→ga p n<p.length∧p[ga p n]?=some n
 |[],_,h=>by cases h
 |k::r,n,h=>by
  by_cases e:k=n;subst e;simp [ga];have b:n∈r:=by grind
  obtain ⟨c,d⟩:=yA r n b;simp only [ga,iQ e,hl,cL,hH,List.getElem?_cons_succ];simp_all
theorem LW:∀(p:List Nat) (n:Nat),n∉p→ga p n=p.length
 |[],_,_=>rfl
 |k::r,n,h=>by
  simp only [cy,gQ] at h;simp only [ga,iQ (fV h.1),hl,cL,hH,LW r n h.2]
structure Perm (p:List Nat) (n:Nat):Prop where
 len:p.length=n
 mem:∀i,i<n→i∈p
 ck:∀i j,p[i]?=some j→ga p j=i
 lt:∀j,j∈p→j<n
theorem ahW {p:List Nat} {n:Nat} (h:LU p n=true):Perm p n:=by
 simp only [LU,bp] at h;obtain ⟨⟨b,e⟩,c⟩:=h;have b:p.length=n:=fe b;have c:∀i,i<n→i∈p∧ga p (p.getD i 0)=i:=fun i hi=>by
  have:=dE.1 c i (et.2 hi);simp only [bp] at this;exact ⟨(mem_iff p i).1 this.1,fe this.2⟩
 have d:∀i j,p[i]?=some j→ga p j=i:=fun i j f=>by
  grind
 exact ⟨b,fun i hi=>(c i hi).1,d,fun j g=>by simp_all⟩
section
variable {p:List Nat} {ops:Array Oper}
def jC (p:List Nat) (ops:Array Oper):Array Oper:=(p.filterMap fun i=>(ops.toList[i]?).map (lN p)).toArray
theorem Tn {α β:Type} {f:α→Option β}:∀(l:List α),(∀x∈l,∃y,f x=some y)→(l.filterMap f).length=l.length∧∀(i:Nat),(l.filterMap f)[i]?=(l[i]?).bind f
 |[],_=>⟨rfl,fun i=>by simp⟩
 |x::l,h=>by
  obtain ⟨y,e⟩:=h x (by simp);obtain ⟨c,d⟩:=Tn l fun x b=>h x (by simp [b])
  grind
theorem LS (c:Perm p ops.size):(jC p ops).size=ops.size∧(∀(i:Nat),(jC p ops)[i]?=(p[i]?).bind fun j=>(ops[j]?).map (lN p))∧∀(j:Nat),j<ops.size→(jC p ops)[ga p j]?=(ops[j]?).map (lN p):=by
 obtain ⟨e,g⟩:=Tn (f:=fun i=>(ops.toList[i]?).map (lN p)) p fun j b=>by
  have:=c.lt j b;simp_all
 have d:∀(i:Nat),(jC p ops)[i]?=(p[i]?).bind fun j=>(ops[j]?).map (lN p):=fun i=>by
  unfold jC;simp_all
 refine ⟨by unfold jC;rw [pU,e,c.len],d,fun j b=>?_⟩;rw [d,(yA p j (c.mem j b)).2];rfl
theorem Vz (o:Oper):dW (lN p o)=(dW o).map (ga p):=by
 unfold dW lN;simp only [u1,List.map_map,List.filter_map];congr 1
theorem anG (c:Perm p ops.size) (ts:Array Value) (j:Nat):yielded (jC p ops) ts (ga p j)=yielded ops ts j:=by
 unfold yielded;obtain ⟨g,l,d⟩:=LS c;by_cases b:j<ops.size;rw [d j b];cases ops[j]?<;>rfl
 have e:ops[j]?=none:=Array.getElem?_eq_none (by omega);have f:ga p j=p.length:=LW p j fun h=>b (c.lt j h)
 simp_all
theorem anu (c:Perm p ops.size) (o:Oper) (ts:Array Value):Region.wanted (lN p o) (yielded (jC p ops) ts)=Region.wanted o (yielded ops ts):=by
 unfold Region.wanted lN;cases o.guard with
 |none=>rfl
 |some g=>
  obtain ⟨j,b⟩:=g;simp only [cx];rw [anG c]
theorem anC (v:Perm p ops.size):∀(r:Nat) (l b:Array Bool) (a:Act) (w:World),l.size=ops.size→b.size=ops.size→(∀j,j<ops.size→(cv b (ga p j)↔cv l j))→
 wpAny P .any (jC p ops) Q r b a w→wpAny P .any ops Q r l a w:=by
 obtain ⟨s1,s2,Y⟩:=LS v;have X:∀(l:Array Bool) j,cv l j→j<l.size:=fun l j h=>by
  apply ho;intro u;unfold cv at h;simp_all
 have D:∀(l b:Array Bool),l.size=ops.size→b.size=ops.size→(∀j,j<ops.size→(cv b (ga p j)↔cv l j))→∀j,j∈Region.ready .any ops l→ga p j∈Region.ready .any (jC p ops) b:=by
  intro l b c q f j d;obtain ⟨o,g,u,z⟩:=(lM c j).1 d;have x:j<ops.size:=(bR.1 g).1;refine (lM (by rw [s1,q]) _).2 ⟨lN p o,?_,fun h=>u ((f j x).1 h),fun k hk=>?_⟩;simp_all;rw [Vz] at hk
  grind
 have K:∀(l b:Array Bool),l.size=ops.size→b.size=ops.size→(∀j,j<ops.size→(cv b (ga p j)↔cv l j))→Region.ready .any ops l=[]→Region.ready .any (jC p ops) b=[]:=by
  intro l b c q f I;apply zc.2;intro i hi;obtain ⟨ab,y,u,z⟩:=(lM (by rw [s1,q]) i).1 hi;rw [hF,s2] at y;cases d:p[i]? with
  |none=>simp_all
  |some j=>
   rw [d] at y;simp only [Option.bind_some] at y;cases g:ops[j]? with
   |none=>simp_all
   |some o=>
    rw [g] at y;obtain rfl:=bk y;have x:j<ops.size:=(pK.1 g).1;have Z:=v.ck i j d;have:j∈Region.ready .any ops l:=(lM c j).2 ⟨o,by simp_all,fun h=>u (by grind),fun k hk=>by
     have:=z (ga p k) (by rw [Vz];grind);have U:k<ops.size:=by
      apply ho;intro u;rw [LW p k fun h=>u (v.lt k h)] at this;have:=X _ _ this;have:=v.len;omega
     exact (f k U).1 this⟩
    simp_all
 intro r
 induction r with
 |zero=>
  intro l b a w c q f h;refine ⟨?_,h.2⟩;apply zc.2;intro j d;have:=D l b c q f j d;rw [h.1] at this;cases this
 |succ r W=>
  intro l b a w c q f h;refine ⟨fun I=>h.1 (K l b c q f I),fun j d=>?_⟩;obtain ⟨o,g,u,z⟩:=(lM c j).1 d;have x:j<ops.size:=(bR.1 g).1;have aa:ga p j<ops.size:=by grind
  have n:=h.2 _ (D l b c q f j d);have J:∀a w,wpAny P .any (jC p ops) Q r (b.setIfInBounds (ga p j) true) a w→wpAny P .any ops Q r (l.setIfInBounds j true) a w:=fun a w=>by
   refine W _ _ a w (by simp_all) (by simp_all) fun k hk=>?_
   rw [jZ (by omega),jZ (by omega),f k hk];refine ⟨fun h=>h.imp (fun e=>?_) id,fun h=>h.imp (fun e=>by rw [e]) id⟩;have O:=(yA p j (v.mem j x)).2;rw [←e,(yA p k (v.mem k hk)).2] at O;simp_all
  rw [hF] at g;unfold wpOp at n⊢;rw [Y j x,g] at n;rw [g];simp only [cx] at n⊢;rw [anu v] at n;split;rename_i C;rw [ak C] at n;exact n.imp (fun h=>Oper.wp_mono J h) id;rename_i C;rw [aj C] at n;exact J _ _ n
end
theorem anB {ops:Array Oper} {a:Act} {w:World} (h:wpAny P .any (kR ops.toList).toArray Q (kR ops.toList).toArray.size (Array.replicate (kR ops.toList).toArray.size false) a w):wpAny P .any ops Q ops.size (Array.replicate ops.size false) a w:=by
 unfold kR at h;simp only at h;split at h;rename_i b;have b:Perm (yt ops.toList.length 0 (mQ 0 ops.toList (gU ops.toList []))) ops.size:=ahW b;generalize yt ops.toList.length 0 (mQ 0 ops.toList (gU ops.toList []))=p at h b;have d:=(LS b).1;change wpAny P .any (jC p ops) Q (jC p ops).size (Array.replicate (jC p ops).size false) a w at h;rw [d] at h;have no:∀i,¬cv (Array.replicate ops.size false) i:=by
  intro i c;unfold cv at c;rw [iB,Ga] at c
  grind
 exact anC b _ _ _ a w (by simp) (by simp) (fun j _=>⟨fun h=>absurd h (no _),fun h=>absurd h (no _)⟩) h;simpa using h
end
end Go.TM
