/- Part 2 of 8. -/
import Derived.Great.FillDense
import Derived.Laws.IdiomCopy
import Derived.Laws.Tables
import Derived.Lib.MinMax
import Derived.Lib.SliceRun
import Derived.LoopN
import Derived.Test.YticidjkonpphfaaGreatXA
set_option autoImplicit false
set_option linter.unusedVariables false
set_option linter.unusedSimpArgs false
set_option linter.defProp false
set_option linter.constructorNameAsVariable false
namespace Go.TM
section
variable {Z:Type} {P:Program} {E:an} {F:Fr} {G:Nat->Gh} {s:St} {a:Act} {w:World} {Q:Exit->Act->World->Prop}
theorem putCells (pre old post:List Value) (vs:List Value) (h:old.length=vs.length):
 vs.toArray.zipIdx.foldl (λcs (x:Value×Nat)=>cs.setIfInBounds (pre.length+x.2) x.1) (pre++old++post).toArray=(pre++vs++post).toArray:=by
 have e0:vs.toArray.zipIdx=(vs.zipIdx 0).toArray:=by simp
 rw [e0,List.foldl_toArray];obtain ⟨b,c⟩:=Great.foldl_set pre.length vs 0 (pre++old++post).toArray
 grind
theorem tu {place:Nat->Option (Nat×Nat)} {i:Nat} {v:Value} {bo:List (Nat×Value)} {pre old post vs:List Value} (b:v.cells.toList=vs) (d:place i=some (pre.length,old.length)) (h:old.length=vs.length):
 Instr.fill place (pre++old++post).toArray ((i,v)::bo)=Instr.fill place (pre++vs++post).toArray bo:=by
 have c:v.cells=vs.toArray:=by rw [<-b]
 grind [Instr.fill,putCells]
theorem agN {β γ:Type} (f:Nat×β->Nat×γ) (b:∀x,(f x).1=x.1) (x:Nat×β):∀l:List (Nat×β),(l4 x l).map f=l4 (f x) (l.map f):=by
 intro l
 induction l with
 |nil=>rfl
 |cons y l c=>
  simp only [l4,fJ,b]
  grind
theorem anH {β γ:Type} (f:Nat×β->Nat×γ) (b:∀x,(f x).1=x.1):∀l:List (Nat×β),(o8 l).map f=o8 (l.map f):=by
 intro l
 induction l with
 |nil=>rfl
 |cons x l c=>simp only [o8,fJ,agN f b,c]
def ahH {β:Type} {x y:Nat×β}:∀{l:List (Nat×β)},y∈l4 x l->y=x\/y∈l:=by
 intro l
 induction l with
 |nil=>intro h;simpa [l4] using h
 |cons z l b=>
  intro h;simp only [l4] at h
  grind
theorem Mp {β:Type} {y:Nat×β}:∀{l:List (Nat×β)},y∈o8 l->y∈l:=by
 intro l
 induction l with
 |nil=>intro h;exact h
 |cons x l b=>
  intro h;rcases ahH h with rfl|h
  simp;simp [b h]
def EQ {place:Nat->Option (Nat×Nat)} {i:Nat} {v:Value} {bo:List (Nat×Value)} {L:List Value} {cs:Array Value} (h:Instr.fill place L.toArray ((i,v)::bo)=some cs):
 ∃o sz,place i=some (o,sz)/\v.cells.size=sz/\o+sz<=L.length:=by
 rw [Instr.fill] at h
 grind
def afm (L:List Value) (b s1 c s2:Nat) (h:b+s1<=c) (j:c+s2<=L.length):∃A B C D E,L=A++B++C++D++E/\A.length=b/\B.length=s1/\(A++B++C).length=c/\D.length=s2:=by
 refine ⟨L.take b,(L.drop b).take s1,(L.drop (b+s1)).take (c-(b+s1)),(L.drop c).take s2,L.drop (c+s2),?_,?_,?_,?_,?_⟩;have d:L=L.take b++L.drop b:=(iR _ _).symm;have e:L.drop b=(L.drop b).take s1++L.drop (b+s1):=by rw [<-jK];exact (iR _ _).symm
 have f:L.drop (b+s1)=(L.drop (b+s1)).take (c-(b+s1))++L.drop c:=by
  have:L.drop c=(L.drop (b+s1)).drop (c-(b+s1)):=by rw [jK];congr 1;omega
  rw [this];exact (iR _ _).symm
 have g:L.drop c=(L.drop c).take s2++L.drop (c+s2):=by rw [<-jK];exact (iR _ _).symm
 grind
 all_goals grind
def afZ {place:Nat->Option (Nat×Nat)} {i j:Nat} {v u:Value} {bo:List (Nat×Value)} {L:List Value} {cs:Array Value}
 (K:∀b s1 c s2,place i=some (b,s1)->place j=some (c,s2)->b+s1<=c) (h:Instr.fill place L.toArray ((i,v)::(j,u)::bo)=some cs):Instr.fill place L.toArray ((j,u)::(i,v)::bo)=some cs:=by
 obtain ⟨b,s1,e,x,W⟩:=EQ h;have e0:L=L.take b++(L.drop b).take s1++L.drop (b+s1):=by
  have z:L.drop b=(L.drop b).take s1++L.drop (b+s1):=by rw [<-jK];exact (iR _ _).symm
  rw [gb,<-z];simp
 have O:(L.take b).length=b:=by grind
 have o:((L.drop b).take s1).length=s1:=by grind
 have f:v.cells.toList.length=s1:=by simpa using x
 have n:=h;rw [e0,tu (place:=place) (vs:=v.cells.toList) rfl (by rw [O,o];exact e) (by rw [o,f])] at n;obtain ⟨c,s2,r,y,l⟩:=EQ n;have q:u.cells.toList.length=s2:=by simpa using y
 have l:c+s2<=L.length:=by
  grind
 obtain ⟨A,B,C,D,E,rfl,g,d,a3,a4⟩:=afm L b s1 c s2 (K _ _ _ _ e r) l;have U:A.length+B.length+C.length=c:=by grind
 have X:Instr.fill place (A++B++C++D++E).toArray ((i,v)::(j,u)::bo)=Instr.fill place (A++v.cells.toList++C++u.cells.toList++E).toArray bo:=by
  have I:=tu (place:=place) (i:=i) (v:=v) (bo:=(j,u)::bo) (pre:=A) (old:=B) (post:=C++D++E) rfl (by rw [g,d];exact e) (by rw [d,f]);have J:=tu (place:=place) (i:=j) (v:=u) (bo:=bo) (pre:=A++v.cells.toList++C) (old:=D) (post:=E) rfl (by grind) (by rw [a4,q])
  grind
 have aa:Instr.fill place (A++B++C++D++E).toArray ((j,u)::(i,v)::bo)=Instr.fill place (A++v.cells.toList++C++u.cells.toList++E).toArray bo:=by
  have I:=tu (place:=place) (i:=j) (v:=u) (bo:=(i,v)::bo) (pre:=A++B++C) (old:=D) (post:=E) rfl (by rw [a4,a3];exact r) (by rw [a4,q]);have J:=tu (place:=place) (i:=i) (v:=v) (bo:=bo) (pre:=A) (old:=B) (post:=C++u.cells.toList++E) rfl (by rw [g,d];exact e) (by rw [d,f])
  grind
 grind
def afX {place:Nat->Option (Nat×Nat)} (e:∀i j,i<j->∀b s1 d s2,place i=some (b,s1)->place j=some (d,s2)->b+s1<=d) (x:Nat×Value) {cs:Array Value}:
 ∀(l:List (Nat×Value)) (L:List Value),Instr.fill place L.toArray (l4 x l)=some cs->Instr.fill place L.toArray (x::l)=some cs:=by
 intro l
 induction l with
 |nil=>intro L h;exact h
 |cons y l o=>
  intro L h;simp only [l4] at h;split at h;rename_i c;have c:y.1<x.1:=by simp_all
  refine afZ (e _ _ c) ?_;obtain ⟨i,v⟩:=y;obtain ⟨b,s1,f,n,g⟩:=EQ h;rw [Instr.fill,f] at h|-;simp_all;exact h
theorem afY {place:Nat->Option (Nat×Nat)} (d:∀i j,i<j->∀b s1 c s2,place i=some (b,s1)->place j=some (c,s2)->b+s1<=c) {cs:Array Value}:
 ∀(l:List (Nat×Value)) (L:List Value),Instr.fill place L.toArray (o8 l)=some cs->Instr.fill place L.toArray l=some cs:=by
 intro l
 induction l with
 |nil=>intro L h;exact h
 |cons x l n=>
  intro L h;have h:=afX d x _ L h;obtain ⟨i,v⟩:=x;obtain ⟨b,s1,e,g,f⟩:=EQ h;rw [Instr.fill,e] at h|-;simp_all
theorem bH.len {A:b0} {R:Nat->Prop}:∀(v:TV) (cs:List Value),bH A w R v cs->cs.length=v.sz
 | .ad t x,cs,h=>Rd.len t x cs h
 | .nil,_,h=>by rw [show _=_ from h];rfl
 | .unit,_,h=>by rw [show _=_ from h];rfl
 | .cons a r,cs,h=>by
  obtain ⟨b,c,rfl,d,e⟩:=h;simp [TV.sz,bH.len a b d,bH.len r c e]
 | .ref _ _,cs,h=>by obtain ⟨_,_,_,_,_,rfl⟩:=h;rfl
 | .sl _ _,cs,h=>by obtain ⟨_,_,_,_,_,_,rfl⟩:=h;rfl
 | .slw _ _ _ _,cs,h=>by obtain ⟨_,_,_,_,_,_,_,_,_,rfl,_⟩:=h;rfl
 | .bw _ _,cs,h=>by obtain ⟨_,_,_,rfl,_⟩:=h;rfl
 | .bY _ _,cs,h=>by obtain ⟨_,_,rfl⟩:=h;rfl
 | .mp _,cs,h=>by obtain ⟨_,_,_,_,_,_,rfl⟩:=h;rfl
 | .un,cs,h=>by obtain ⟨_,rfl⟩:=h;rfl
 | .tup _,_,h=>h.elim
 | .ab _ _,_,h=>h.elim
theorem bH.cells {A:b0} {R:Nat->Prop} {v:TV} {x:Value} {cs:List Value} (h:bH A w R v cs) (c:v.mn=true) (b:if v.agg then x=.agg cs.toArray else cs=[x]):x.cells.toList=cs:=by
 refine xL b (λd=>?_);rw [d] at b;have b:cs=[x]:=b;subst b;cases v with
 |un=>simp [TV.mn] at c
 |tup _=>simp [TV.mn] at c
 |ab _ _=>simp [TV.mn] at c
 |ad t y=>exact Rd.ej t y _ h x (by simp)
 |nil=>obtain h:=hq (show [x]=[_] from h);rw [h.1];rfl
 |unit=>cases h
 |cons a r=>simp [TV.agg] at d
 |ref _ _=>obtain ⟨_,_,_,_,_,h⟩:=h;rw [(hq h).1];rfl
 |sl _ _=>obtain ⟨_,_,_,_,_,_,h⟩:=h;rw [(hq h).1];rfl
 |slw _ _ _ _=>obtain ⟨_,_,_,_,_,_,_,_,_,h,_⟩:=h;rw [(hq h).1];rfl
 |bw _ _=>obtain ⟨_,_,_,h,_⟩:=h;rw [(hq h).1];rfl
 |bY _ _=>obtain ⟨_,_,h⟩:=h;rw [(hq h).1];rfl
 |mp _=>obtain ⟨_,_,_,_,_,_,h⟩:=h;rw [(hq h).1];rfl
def hJ:Ty->Nat->List (Nat×Nat)
 | .cons t r,o=>(o,t.size)::hJ r (o+t.size)
 |_,_=>[]
theorem aj1:∀(t:Ty) (o:Nat),(∀(i:Nat) b s1,(hJ t o)[i]?=some (b,s1)->o<=b)/\∀(i j:Nat),i<j->∀b s1 c s2,(hJ t o)[i]?=some (b,s1)->(hJ t o)[j]?=some (c,s2)->b+s1<=c:=by
 intro t
 induction t with
 |cons t u _ e=>
  intro o;obtain ⟨l,n⟩:=e (o+t.size);refine ⟨λi b s1 h=>?_,λi j g b s1 c s2 f d=>?_⟩;cases i with
  |zero=>grind [hJ]
  |succ i=>simp only [hJ,List.getElem?_cons_succ] at h;grind
  cases j with
  |zero=>omega
  |succ j=>
   simp only [hJ,List.getElem?_cons_succ] at d;cases i with
   |zero=>
    grind [hJ]
   |succ i=>
    grind [hJ]
 |_=>grind [hJ]
theorem W2:∀(t:Ty) (l:List Field) (o:Nat),cK P t l o=true->l.mapM (λf=>(P.info? f.type).map λi=>(f.offset,i.size))=some (hJ t o)
 | .unit,[],_,_=>rfl
 | .cons a r,f::l,o,h=>by
  simp only [cK,bt,iS] at h;obtain ⟨⟨⟨⟨b,_⟩,_⟩,c⟩,h4⟩:=h;obtain ⟨i,hi,d,_⟩:=bE.gT (show bE P a f.type from c);simp [List.mapM_cons,hi,d,b,W2 r l _ h4,hJ]
 | .unit,_::_,_,h=>by simp [cK] at h
 | .cons _ _,[],_,h=>by simp [cK] at h
 | .int _,_,_,h=>by simp [cK] at h
 | .bool,_,_,h=>by simp [cK] at h
 | .bR,_,_,h=>by simp [cK] at h
 | .bG,_,_,h=>by simp [cK] at h
 | .slice _,_,_,h=>by simp [cK] at h
 | .arr _ _,_,_,h=>by simp [cK] at h
def uM:∀(t:Ty),t.aW=true->dl t (hM t)/\bJ t (hM t)=eS t
 | .int _,_=>⟨trivial,rfl⟩
 | .bool,_=>⟨trivial,rfl⟩
 | .bR,_=>⟨bL _,rfl⟩
 | .bG,h=>by simp [Ty.aW] at h
 | .slice _,h=>by simp [Ty.aW] at h
 | .unit,_=>⟨trivial,rfl⟩
 | .cons t r,h=>by
  simp only [Ty.aW,bt] at h;obtain ⟨b,c⟩:=uM t h.1;obtain ⟨d,e⟩:=uM r h.2;exact ⟨⟨b,d⟩,by simp [bJ,eS,hM,c,e]⟩
 | .arr n t,h=>by
  obtain ⟨b,c⟩:=uM t h;refine ⟨⟨by simp [hM],λx f=>?_⟩,?_⟩;have:=qZ (show x∈List.replicate n (hM t) from f);rw [this];exact b;show ((List.replicate n (hM t)).map (bJ t)).flatten=_;rw [List.map_replicate,c];rfl
def Ty.hA:Ty->Bool
 | .arr _ t=>t.aW
 | .cons t r=>t.hA&&r.hA
 |_=>true
def Z7:∀(T:Ty),(∀t,dH P T t=true->T.hA=true)/\(∀l o,cK P T l o=true->T.hA=true):=by
 intro T
 induction T with
 |cons a r c d=>
  have b:∀l o,cK P (.cons a r) l o=true->(Ty.cons a r).hA=true:=by
   intro l o h;cases l with
   |nil=>simp [cK] at h
   |cons f l=>
    grind [cK,Ty.hA]
  grind [dH,Ty.hA]
 |arr n t _=>
  refine ⟨λu h=>?_,λl o h=>by simp [cK] at h⟩;simp only [dH,bt] at h;exact h.1.2
 |_=>exact ⟨λ_ _=>rfl,λ_ _ _=>rfl⟩
theorem my:∀(t:Ty),(eS t).length=t.size
 | .int _=>rfl
 | .bool=>rfl
 | .bR=>rfl
 | .bG=>rfl
 | .slice _=>rfl
 | .unit=>rfl
 | .cons t r=>by simp [eS,Ty.size,my t,my r]
 | .arr n t=>by
  simp only [eS,Ty.size];have:=my t;simp_all
def OD {A:b0} {R:Nat->Prop}:∀(t:Ty),t.fE=true->t.hA=true->bH A w R (mz t) (eS t)/\(mz t).mn=true/\(mz t).agg=t.agg
 | .int _,_,_=>⟨⟨rfl,trivial,rfl⟩,rfl,rfl⟩
 | .bool,_,_=>⟨⟨rfl,trivial,rfl⟩,rfl,rfl⟩
 | .bR,_,_=>⟨⟨rfl,bL _,rfl⟩,rfl,rfl⟩
 | .bG,h,_=>by simp [Ty.fE] at h
 | .slice _,_,_=>⟨rfl,rfl,rfl⟩
 | .unit,_,_=>⟨rfl,rfl,rfl⟩
 | .cons t r,h,b=>by
  simp only [Ty.fE,bt] at h;simp only [Ty.hA,bt] at b;exact ⟨⟨_,_,rfl,(OD t h.1 b.1).1,(OD r h.2 b.2).1⟩,rfl,rfl⟩
 | .arr n t,_,h=>by
  have c:(Ty.arr n t).aW=true:=h;obtain ⟨d,e⟩:=uM (.arr n t) c;exact ⟨⟨c,d,e.symm⟩,rfl,rfl⟩
def aeR (h:aC F G s a w):∀(t:Ty) (n o:Nat) (c:List (Nat×Operand)) (l:List Field) (pre:List Value) (place:Nat->Option (Nat×Nat)) (k:TV->Option Z) (r:Z),
 cK P t l o=true->t.fE=true->pre.length=o->(∀j,place (n+j)=(hJ t o)[j]?)->g8 s t n c k=some r->
 ∃v cs,k v=some r/\bH (ax s.box G) w F.R v cs/\v.agg=true/\v.mn=true/\Instr.fill place (pre++eS t).toArray (c.map λx=>(x.1,a.eval x.2))=some (pre++cs).toArray:=by
 intro t
 induction t with
 |cons t u _ ac=>
  intro n o c l pre place k r g z D I hk;have ad:t.hA=true:=by
   have:=(Z7 (P:=P) (.cons t u)).2 _ _ g
   grind [Ty.hA]
  simp only [Ty.fE,bt] at z;cases l with
  |nil=>simp [cK] at g
  |cons f l=>
   simp only [cK,bt] at g;have zero:∀J,(g8 s u (n+1) J λd=>k (.cons (mz t) d))=some r->
    ∃v cs,k v=some r/\bH (ax s.box G) w F.R v cs/\v.agg=true/\v.mn=true/\Instr.fill place (pre++eS (.cons t u)).toArray (J.map λx=>(x.1,a.eval x.2))=some (pre++cs).toArray:=by
    intro J hk;obtain ⟨v,cs,K,O,_,_,X⟩:=ac (n+1) (o+t.size) J l (pre++eS t) place _ r g.2 z.2 (by simp [D,my]) (λj=>by
     have:=I (j+1)
     grind [hJ]) hk
    refine ⟨_,eS t++cs,K,⟨_,_,rfl,(OD t z.1 ad).1,O⟩,rfl,rfl,?_⟩;simp only [eS];simp_all
   cases c with
   |nil=>exact zero [] (by simpa only [g8] using hk)
   |cons q c=>
    obtain ⟨i,x⟩:=q;simp only [g8] at hk;split at hk;rename_i hi;have hi:i=n:=gj hi;subst hi;split at hk;rename_i aa;simp only [bt] at aa;obtain ⟨y,C⟩:=aa;have C:=gj C;have ae:=cw h x;obtain ⟨W,U,af⟩:=ae.cells (by intro e;rw [e] at y;simp [TV.mn] at y) (by intro b e;rw [e] at y;simp [TV.mn] at y);have ab:=bH.len _ _ U;obtain ⟨v,cs,K,O,_,_,X⟩:=ac (i+1) (o+t.size) c l (pre++W) place _ r g.2 z.2 (by simp [D,ab,C]) (λj=>by
     have:=I (j+1)
     grind [hJ]) hk
    refine ⟨_,W++cs,K,⟨_,_,rfl,U,O⟩,rfl,rfl,?_⟩;have:=I 0;simp only [hJ,List.getElem?_cons_zero,q3] at this;simp only [eS,fJ];rw [<-gb,tu (U.cells y af) (by rw [this,D,my]) (by rw [my,ab,C]),X,gb];cases hk;exact zero _ hk
 |unit=>
  intro n o c l pre place k r g z D I hk;cases c with
  |nil=>exact ⟨.unit,[],by simpa only [g8] using hk,rfl,rfl,rfl,by simp [eS,Instr.fill]⟩
  |cons _ _=>simp [g8] at hk
 |_=>intro n o c l pre place k r g;simp [cK] at g
def aeT (h:aC F G s a w) (I:dk P E F) {o:Oper} {t:TypeId} {parts:Array (Nat×Operand)} (a5:o.op=.build t parts) (ab:∀d,o.dst=some d->d<E.nt) {k:St->Option Z} {r:Z} (hk:a8 E o s k=some r):
 o.wp P a w (cf F k r) Q:=by
 unfold a8 at hk;rw [a5] at hk;simp only [dT] at hk;split at hk;rename_i T a0;have O:=I.ty t T a0;split at hk;rename_i A c;split at hk;rename_i al;obtain ⟨i,hi,a7,_,X⟩:=O.gT;obtain ⟨z,C,D,z3⟩:=X al;have b:=O;unfold bE at b;simp only [dH,bt] at b;obtain ⟨_,b⟩:=b;split at b;rename_i aH a2;split at b;rename_i f l a4;simp only [bt,iS] at b;have ai:cK P (.cons A c) (f::l) 0=true:=by
  grind [cK]
 have a6:=W2 (P:=P) _ _ _ ai;obtain ⟨v,cs,aa,ag,ap,aG,aq⟩:=aeR (P:=P) h (.cons A c) 0 0 (o8 parts.toList) (f::l) [] ((hJ (.cons A c) 0).toArray[·]?) _ r ai al rfl (λj=>by simp) hk;have g:z.cells=(eS (.cons A c)).toArray:=by rw [<-D]
 have e:P.built t (parts.map λ(i,x)=>(i,a.eval x)).toList=some cs.toArray:=by
  unfold Program.built;simp only [hi,a2,C,a4,a6,g];have ah:=aq;rw [anH (λx:Nat×Operand=>(x.1,a.eval x.2)) (λx=>rfl)] at ah;have ar:=afY (λi j a3 aE s1 aF s2 ae af=>(aj1 (.cons A c) 0).2 i j a3 aE s1 aF s2 (by simpa using ae) (by simpa using af)) _ _ ah;simpa using ar
 have am:=run_build (P:=P) w t _ _ e;have ao:∀tv,VR (ax s.box G) w F.R tv (.agg cs.toArray)->dm o s k tv=some r->o.wp P a w (cf F k r) Q:=by
  intro tv aB hk;refine c1 (v:=.agg cs.toArray) (w':=w) ?_ (dS h I aB ab hk);unfold execOp;simp_all
 split at aa;rename_i aj;obtain ⟨x,av,aw⟩:=F6 h _ v cs _ r ag aa;obtain ⟨ay,az⟩:=Rd.aW aj aw;refine ao _ ?_ av;rw [az];exact dF (v:=.ad (.cons A c) x) (Rd.fW aj ay) rfl;exact ao _ (dF ag (by rw [ap];rfl)) aa;cases b;cases b;cases hk;rename_i n u;obtain ⟨e0,an,aA,K⟩:=O.arr;obtain ⟨i,hi,a7,_,X⟩:=O.gT;obtain ⟨aI,ak,a9,_,_⟩:=aA.gT;split at hk;rename_i ac;have a1:∀(t:Ty),t.aW=true->t.fE=true:=by
  intro t
  induction t with
  |cons a r aJ aK=>grind [Ty.aW,Ty.fE]
  |arr n t aD=>intro h;exact aD h
  |bG=>intro h;simp [Ty.aW] at h
  |slice t _=>intro h;simp [Ty.aW] at h
  |_=>intro _;rfl
 obtain ⟨z,C,D,z3⟩:=X (a1 _ K);have g:z.cells=(eS (.arr n u)).toArray:=by rw [<-D]
 have e:P.built t (parts.map λ(i,x)=>(i,a.eval x)).toList=some (eS (.arr n u)).toArray:=by
  unfold Program.built;simp only [hi,an,C,ak,g];simp [ac,Instr.fill]
 have am:=run_build (P:=P) w t _ _ e;obtain ⟨ae,af⟩:=uM (.arr n u) K;refine c1 (v:=.agg (eS (.arr n u)).toArray) (w':=w) ?_ (dS h I ?_ ab hk);unfold execOp;simp_all;rw [<-af];exact dF (v:=.ad (.arr n u) (hM (.arr n u))) (Rd.fW K ae) rfl
 ·rename_i x y ac;split at hk;rotate_left;cases hk;rename_i J;have J:Ty.arr n u=.arr 2 (.int .i64):=e7 J;simp only [Ty.arr.injEq] at J;obtain ⟨rfl,rfl⟩:=J;split at hk;rotate_left;cases hk;rename_i p q ex au;have U:=cw h x;have W:=cw h y;rw [ex] at U;rw [au] at W;have U:=U.int;have W:=W.int;obtain ⟨z,C,D,z3⟩:=X rfl;have g:z.cells=(eS (.arr 2 (.int .i64))).toArray:=by rw [<-D]
  have e:P.built t (parts.map λ(i,x)=>(i,a.eval x)).toList=some #[.int .i64 p,.int .i64 q]:=by
   unfold Program.built;simp only [hi,an,C,ak,g,a9];simp [ac,Instr.fill,U,W,eS,Value.cells,Ty.size]
  have am:=run_build (P:=P) w t _ _ e;refine c1 (v:=.agg #[.int .i64 p,.int .i64 q]) (w':=w) ?_ (dS h I ?_ ab hk);unfold execOp;simp_all;refine dF (v:=.ad (.arr 2 (.int .i64)) (List.cons (α:=Int) p (List.cons (α:=Int) q []))) (Rd.fW K ⟨rfl,λ_ _=>trivial⟩) rfl
 cases hk;cases hk;cases hk
end
section
variable {Z:Type} {P:Program} {E:an} {F:Fr} {G:Nat->Gh} {s:St} {a:Act} {w:World} {Q:Exit->Act->World->Prop}
def ahK {A:b0} {R:Nat->Prop} {t:Ty} {y:t.ai} {cs:List Value} (h:Rd w R t y cs):VR A w R (.ad t y) (jX t cs):=by
 refine dF (cs:=cs) h ?_;unfold jX;simp only [TV.agg];split;rfl;rename_i b;have:=Rd.len _ _ _ h;rw [ml t (by simpa using b)] at this
 match cs,this with
 |[v],_=>rfl
def afV (h:aC F G s a w) (l:dk P E F) {o:Oper} {t:TypeId} {x:Operand} {n:Nat} (q:o.op=.field t x n) (ab:∀d,o.dst=some d->d<E.nt) {k:St->Option Z} {r:Z} (hk:a8 E o s k=some r):
 o.wp P a w (cf F k r) Q:=by
 unfold a8 at hk;rw [q] at hk;simp only [dT] at hk;have D:=cw h x;split at hk;rename_i T X;have ae:=l.ty t T X;split at hk;rename_i u y e;rw [e] at D;split at hk;rename_i b;have b:u=T:=e7 b;subst b;obtain ⟨cs,g,j⟩:=D.cells (by simp) (by simp);obtain ⟨v,z,I,c,J,af⟩:=Rd.field u y cs n _ r g hk;obtain ⟨ag,f,K,O,U,ah,W⟩:=ae.struct c;have aa:u.agg=true:=by
  cases u with
  |cons _ _=>rfl
  |_=>simp [cD] at c
 simp only [TV.agg,aa,cu] at j;have ai:=Rd.len _ _ _ g;have ac:(sub cs (ew u n) v.size).length=v.size:=by unfold sub;simp;omega
 have ad:cs=cs.take (ew u n)++sub cs (ew u n) v.size++cs.drop (ew u n+v.size):=by
  unfold sub;rw [gb,<-jK,iR,iR]
 have C:=Gd (w:=w) W (pre:=cs.take (ew u n)) (cs:=sub cs (ew u n) v.size) (post:=cs.drop (ew u n+v.size)) ac (ml v);rw [<-ad,List.length_take,Nat.min_eq_left (by omega)] at C;refine c1 (w':=w) ?_ (dS h l (ahK J) ab I);unfold execOp;rw [q];simp only [j,Instr.field,Sem.run_bind,run_underlying K,Result.andThen_ok,O,asAgg,Sem.run_pure,U,C];cases hk;cases hk;cases hk
theorem uq {o:Oper} {c:Call} {b:Builtin} (e:o.op=.call c) (d:c.callee=.builtin b):
 (execOp a.eval o).run P w=(builtin b c.argTypes o.type (c.args.map λ| .const _=>true|_=>false) (c.args.map a.eval)).run P w:=by
 unfold execOp;rw [e];simp only [resolve,d,Sem.run_bind,Sem.run_pure,Result.andThen_ok,invoke];rfl
def ag7 (h:aC F G s a w) (b:dk P E F) {o:Oper} {c:Call} (q:o.op=.call c) (j:c.callee=.builtin .len) (z:∀d,o.dst=some d->d<E.nt) {k:St->Option Z} {r:Z} (hk:a8 E o s k=some r):
 o.wp P a w (cf F k r) Q:=by
 unfold a8 at hk;rw [q] at hk;simp only [j] at hk;unfold jT at hk;split at hk;rename_i t ts v _ ab e;obtain ⟨x,y,ac⟩:∃x,c.args= #[x]/\s.ev x=v:=by
  match ah:c.args.toList,e with
  |[x],e=>
   grind
  |[],e=>simp at e
  |_::_::_,e=>simp at e
 have f:=cw h x;rw [ac] at f;have D:c.argTypes[0]?=some t:=by rw [<-qX,ab];rfl
 split at hk;rename_i T u;have C:=b.ty t _ u;obtain ⟨e0,I,_⟩:=C.slice;obtain ⟨n,ad,cap,J,g,_,_⟩:=Vv h f hk;refine c1 (v:=.int .i64 (n:Int)) (w':=w) ?_ (dS h b (gJ _ _) z J);rw [uq q j];simp [builtin,Builtin.len_,D,y,g,run_underlying I,goInt];rename_i u;have C:=b.ty t _ u;split at hk;rename_i _v l;obtain ⟨f,_⟩:=VR.bR f;refine c1 (v:=.int .i64 ((List.length (α:=UInt8) l:Nat):Int)) (w':=w) ?_ (dS h b (gJ _ _) z hk);rw [uq q j];have aa:(ByteArray.mk (List.toArray (α:=UInt8) l)).size=List.length (α:=UInt8) l:=rfl;have g:(Builtin.len_ c.argTypes o.type (c.args.map a.eval)).run P w=.ok (goInt (List.length (α:=UInt8) l)) w:=by
  rw [y];simp [Builtin.len_,D,f,run_underlying C.bR];rw [aa]
 simp only [builtin,Sem.run_bind,g,Result.andThen_ok,Sem.run_pure,goInt];cases hk
 ·split at hk;rotate_left;cases hk;rename_i K W;split at hk;rotate_left;cases hk;obtain ⟨xs,ae,af,X,g,O,U,ai,ag,I⟩:=ahz h (b.maps t K W) f hk;refine c1 (v:=.int .i64 (xs.length:Int)) (w':=w) ?_ (dS h b (gJ _ _) z X);rw [uq q j];simp [builtin,Builtin.len_,D,y,g,run_underlying I,goInt,Go.MapKept.run_getObj_map O,U]
 cases hk;contradiction;contradiction;contradiction;contradiction;contradiction;cases hk
theorem Sv {c:Call} {d e:TV} (b:c.args.toList.map s.ev=[d,e]):∃x y,c.args= #[x,y]/\s.ev x=d/\s.ev y=e:=by
 match f:c.args.toList,b with
 |[x,y],b=>
  grind
 |[],b=>simp at b
 |[_],b=>simp at b
 |_::_::_::_,b=>simp at b
def ahI (h:aC F G s a w) (n:dk P E F) {o:Oper} {c:Call} (f:o.op=.call c) (e:c.callee=.builtin .min) (u:∀d,o.dst=some d->d<E.nt) {k:St->Option Z} {r:Z} (hk:a8 E o s k=some r):
 o.wp P a w (cf F k r) Q:=by
 unfold a8 at hk;rw [f] at hk;simp only [e] at hk;unfold jT at hk;split at hk;contradiction;contradiction;rename_i O U _ z;obtain ⟨x,y,q,j,l⟩:=Sv z;obtain ⟨g,C,J,hk⟩:=k0 (j▸cw h x) hk;obtain ⟨I,D,K,hk⟩:=k0 (l▸cw h y) hk;split at hk;rename_i b;have b:g=I:=e7 b;subst b;refine c1 (v:=.int g (min C D)) (w':=w) ?_ (dS h n (gJ _ _) u hk);rw [uq f e];simp [builtin,q,J,K,Lib.run_min_ints];cases hk;contradiction;contradiction;contradiction;cases hk
def ahF (h:aC F G s a w) (u:dk P E F) {o:Oper} {c:Call} (j:o.op=.call c) (g:c.callee=.builtin .max) (C:∀d,o.dst=some d->d<E.nt) {k:St->Option Z} {r:Z} (hk:a8 E o s k=some r):
 o.wp P a w (cf F k r) Q:=by
 unfold a8 at hk;rw [j] at hk;simp only [g] at hk;unfold jT at hk;split at hk;contradiction;contradiction;contradiction;rename_i O U _ D;obtain ⟨x,y,z,n,q⟩:=Sv D;obtain ⟨l,b,J,hk⟩:=k0 (n▸cw h x) hk;obtain ⟨I,e,K,hk⟩:=k0 (q▸cw h y) hk;split at hk;rename_i f;have f:l=I:=e7 f;subst f;refine c1 (v:=.int l (max b e)) (w':=w) ?_ (dS h u (gJ _ _) C hk);rw [uq j g];have em:(if e>b then e else b)=max b e:=by
  omega
 simp [builtin,z,J,K,Builtin.max_,Builtin.max2,em];cases hk;contradiction;contradiction;cases hk
end
section
variable {Z:Type} {P:Program} {E:an} {F:Fr} {G:Nat->Gh} {s:St} {a:Act} {w:World} {Q:Exit->Act->World->Prop}
theorem Gb {x:Value} {c:IntKind} {m y:Nat} (b:x=.int c m) (d:m<=y) (code:BoundsCode):(Instr.sliceBound x y code).run P w=.ok m w:=by
 subst b;have:(0:Int)<=(m:Int)/\(m:Int)<=(y:Int):=by omega
 simp only [Instr.sliceBound,asIntOf,Sem.run_bind,Sem.run_pure,Result.andThen_ok,ay this,fg]
theorem SF (h:aC F G s a w) {n cap:Nat} (o:n<=cap) {lo hi:Option Operand} {k:Nat->Nat->Option Z} {r:Z} (hk:lV n (lo.map s.ev) (hi.map s.ev) k=some r) (b:Bool):
 ∃l u,k l u=some r/\l<=u/\u<=n/\(Instr.sliceBounds b n cap (lo.map a.eval) (hi.map a.eval) none).run P w=.ok (l,u,cap) w:=by
 unfold lV at hk;cases hi with
 |none=>
  cases lo with
  |none=>exact ⟨0,n,hk,bL _,cV _,by simp [Instr.sliceBounds]⟩
  |some x=>
   simp only [uW,dn] at hk;obtain ⟨f,i,c,hk⟩:=k0 (cw h x) hk;obtain ⟨m,rfl,e,hk⟩:=tE hk;refine ⟨m,n,hk,by omega,cV _,?_⟩;simp only [Instr.sliceBounds,uW,dn,Sem.run_bind,Sem.run_pure,Result.andThen_ok];rw [Gb c (by omega)];rfl
 |some y=>
  simp only [dn] at hk;obtain ⟨f,i,c,hk⟩:=k0 (cw h y) hk;obtain ⟨m,rfl,e,hk⟩:=tE hk;cases lo with
  |none=>
   refine ⟨0,m,hk,by omega,by omega,?_⟩;simp only [Instr.sliceBounds,uW,dn,Sem.run_bind,Sem.run_pure,Result.andThen_ok];rw [Gb c (by omega)];rfl
  |some x=>
   simp only [dn] at hk;obtain ⟨v,q,d,hk⟩:=k0 (cw h x) hk;obtain ⟨g,rfl,j,hk⟩:=tE hk;refine ⟨g,m,hk,by omega,by omega,?_⟩;simp only [Instr.sliceBounds,dn,Sem.run_bind,Sem.run_pure,Result.andThen_ok];rw [Gb c (by omega)];simp only [Result.andThen_ok];rw [Gb d (by omega)];rfl
theorem afQ (x:List UInt8) (l h:Nat):(ByteArray.mk x.toArray).extract l h=⟨((x.take h).drop l).toArray⟩:=by
 apply ByteArray.ext;rw [ByteArray.data_extract];simp [List.drop_take]
theorem akA {t:TypeId} (b:bE P .bR t) (x:List UInt8) {lo hi:Option Value} {l u:Nat} (c:(Instr.sliceBounds false x.length x.length lo hi none).run P w=.ok (l,u,x.length) w):
 (Instr.sliceAt t (.string ⟨x.toArray⟩) lo hi none).run P w=.ok (.string ⟨((x.take u).drop l).toArray⟩) w:=by
 rw [run_sliceAt_string w t _ _ _ _ b.bR];have d:(ByteArray.mk x.toArray).size=x.length:=by simp [ByteArray.size]
 simp [Instr.slice,run_underlying b.bR,d,c,afQ]
def akz {t:TypeId} {T:Ty} (f:bE P (.slice T) t) (b:Option Addr) (n cap:Nat) {lo hi:Option Value} {l u:Nat} (c:(Instr.sliceBounds true n cap lo hi none).run P w=.ok (l,u,cap) w):
 (Instr.sliceAt t (.slice b n cap) lo hi none).run P w=.ok (.slice (if cap=l then b else b.map (·.add (l*T.size))) (u-l) (cap-l)) w:=by
 obtain ⟨e,g,d⟩:=f.slice;simp [Instr.sliceAt,Instr.slice,run_underlying g,c,Xr d]
theorem mW (b o n:Nat):(Addr.mk b o none).add n=⟨b,o+n,none⟩:=by unfold Addr.add;split<;>simp_all
theorem Rd.cut {R:Nat->Prop} {T:Ty} {y:List T.ai} {d:Option Addr} {n cap:Nat} (h:Rd w R (.slice T) y [.slice d n cap]) {l u:Nat} (D:l<=u) (I:u<=n):
 Rd w R (.slice T) ((y.take u).drop l) [.slice (if cap=l then d else d.map (·.add (l*T.size))) (u-l) (cap-l)]:=by
 obtain ⟨x,C,c,⟨f,g⟩,o⟩:=h;have c:=(hq c).1;simp only [Value.slice.injEq] at c;obtain ⟨rfl,j,rfl⟩:=c;have j:n=y.length:=j;have f:y.length<=cap:=f;have g:y.length<=eL:=g;have e:((y.take u).drop l).length=u-l:=by simp_all
 refine ⟨_,cap-l,(by rw [e]),⟨(by rw [e];omega),(by rw [e];omega)⟩,λK=>?_⟩;have O:0<u-l:=by
  grind
 have r:y≠[]:=by
  grind
 obtain ⟨b,v,rfl,q,J⟩:=o r;rw [au (by omega)];refine ⟨b,v+l*T.size,by simp only [dn,mW],q,λi z U=>?_⟩
 grind
def anA (h:aC F G s a w) (X:dk P E F) {o:Oper} {t:TypeId} {x:Operand} {lo hi a3:Option Operand} (an:o.op=.slice t x lo hi a3) (al:∀d,o.dst=some d->d<E.nt) {k:St->Option Z} {r:Z} (hk:a8 E o s k=some r):
 o.wp P a w (cf F k r) Q:=by
 unfold a8 at hk;rw [an] at hk;simp only [dT] at hk;have c:=cw h x;split at hk;rotate_left;cases hk;split at hk;rotate_left;cases hk;rename_i T ar;have ap:=X.ty t T ar;unfold j2 at hk;split at hk;split at hk;rename_i l e;rw [e] at c;obtain ⟨c,a5⟩:=VR.bR c;obtain ⟨j,I,hk,ah,ai,W⟩:=SF (P:=P) h (cV _) hk false;refine c1 (w':=w) ?_ (dS h X (Ox ?_) al hk);unfold execOp;rw [an];simp only [uW,Sem.run_bind];rw [c,akA ap _ W];rfl
 grind
 cases hk;rename_i T;have az:=hk;obtain ⟨n,O,cap,am,aa,a6,ay⟩:=Vv h c hk;clear hk;obtain ⟨j,I,hk,ah,ai,W⟩:=SF (P:=P) h ay am true;clear am;have a9:=akz ap O n cap W;have fin:∀tv,VR (ax s.box G) w F.R tv (.slice (if cap=j then O else O.map (·.add (j*T.size))) (I-j) (cap-j))->dm o s k tv=some r->o.wp P a w (cf F k r) Q:=by
  intro tv a1 hk;refine c1 (w':=w) ?_ (dS h X a1 al hk);unfold execOp;simp_all
 split at hk;rename_i u y e;rw [e] at c;split at hk;rename_i g;have g:u=T:=e7 g;subst g;have ao:=c.b3 (by simp) (by simp) rfl;rw [aa] at ao;exact fin _ (dF (v:=.ad (.slice u) _) (cs:=[_]) (Rd.cut ao ah ai) rfl) hk;cases hk;rename_i b p e;rw [e] at c;unfold b5 at hk;split at hk;rename_i bx K
 try dsimp only at hk
 split at hk;rename_i C;have C:cD bx.ty p=some (.slice T):=e7 C;obtain ⟨a4,q,af,D,J,z,ab⟩:=c.b3 (by simp) (by simp) rfl;have g:=mX K z;rw [C] at g;simp only [aX,Ty.slice.injEq] at g;subst g;have f:=(hq ab).1;rw [aa] at f;simp only [Value.slice.injEq] at f;obtain ⟨rfl,rfl,rfl⟩:=f;split at hk;rename_i ak;simp only [bt] at ak;obtain ⟨_,ac,ae⟩:=ak;have ac:j=0:=gj ac;have ae:I=D.length:=gj ae;subst ac;subst ae;refine fin _ (dF (v:=.sl b p) (cs:=[_]) ⟨T,q,cap,D,J,z,?_⟩ rfl) hk;cases q<;>simp [mW]
 refine fin _ (dF (v:=.slw b p j (I-j)) (cs:=[_]) ⟨T,q,cap,D,J,z,⟨by omega,by omega⟩,_,_,rfl,⟨by omega,λag=>⟨by omega,by subst ag;cases q<;>simp [mW]⟩⟩,λa0=>?_⟩ rfl) hk;cases q with
 |none=>
  have:=(Vu h K (by rw [<-e];exact az) z).2 rfl;omega
 |some U=>
  rw [au (by omega)];exact ⟨U,rfl,by simp [mW]⟩
 cases hk;cases hk;rename_i b p a2 aA e;rw [e] at c;unfold b5 at hk;split at hk;rename_i bx K
 try dsimp only at hk
 split at hk;rename_i C;have C:cD bx.ty p=some (.slice T):=e7 C;obtain ⟨a4,q,af,D,J,z,a7,a',c',ab,aj,av⟩:=c.b3 (by simp) (by simp) rfl;have g:=mX K z;rw [C] at g;simp only [aX,Ty.slice.injEq] at g;subst g;have f:=(hq ab).1;rw [aa] at f;simp only [Value.slice.injEq] at f;obtain ⟨rfl,rfl,rfl⟩:=f;obtain ⟨aj,aw⟩:=aj;refine fin _ (dF (v:=.slw b p (a2+j) (I-j)) (cs:=[_]) ⟨T,q,af,D,J,z,⟨by omega,by omega⟩,_,_,rfl,⟨by omega,λag=>?_⟩,λa0=>?_⟩ rfl) hk;obtain ⟨f,aq⟩:=aw (by omega);have:j=0:=by omega
 subst this;refine ⟨by omega,?_⟩;rw [aq];cases q<;>simp [mW]
 obtain ⟨U,rfl,rfl⟩:=av (by omega);rw [au (by omega)];exact ⟨U,rfl,by simp [mW,Nat.add_mul]⟩;cases hk;cases hk;rename_i e;rw [e] at c;have f:=c.b3 (by simp) (by simp) rfl;have f:=(hq (show [a.eval x]=[_] from f)).1
 grind
 cases hk;cases hk
end
section
variable {Z:Type} {P:Program} {E:an} {F:Fr} {G:Nat->Gh} {s:St} {a:Act} {w w2:World} {Q:Exit->Act->World->Prop}
theorem aC.shift (h:aC F G s a w) (J:fM w w2) (j:∀b,F.R b->w2.heap[b]?=w.heap[b]?) (C:∀i x,s.box i=some x->∀b∈(G i).ae,w2.heap[b]?=w.heap[b]?)
 (D:∀b,b<F.w0.heap.size->b∉F.M->w2.heap[b]?=w.heap[b]?):aC F G s a w2:=by
 have g:hP (ax s.box G) (ax s.box G):=λ_ _ _ ft _ e=>⟨ft,e,rfl⟩
 refine ⟨λi x l=>?_,h.cC,h.c6,h.b7,λi x l b I=>?_,h.R,λn=>VR.mono g j (h.tmps n),λb y c=>?_,h.fT.trans J,h.defers,h.nt,h.cU,λi n=>VR.mono g j (h.sv i n),h.jF⟩;have r:∀b∈(G i).ae,w2.heap[b]?=w.heap[b]?:=λb c=>C i x l b c
 have d:=h.box i x l;unfold dw at d|-;split;rename_i u;rw [ay u] at d;obtain ⟨f,o,cs,q⟩:=d;exact ⟨f,o,cs,a1.mono g j _ _ _ _ (λb c=>r b (by simp [Gh.ae,c])) q⟩;rename_i u;rw [au u] at d;obtain ⟨v,row,z,f,o,q,h4⟩:=d;exact ⟨v,row,z,f,by rw [r v (by simp [Gh.ae,f])];exact o,q,a1.mono g j _ _ _ _ (λb c=>r b (by simp [Gh.ae,c])) h4⟩;obtain ⟨K,O,m3⟩:=h.bQ i x l b I
 grind
 rw [D b y c];exact h.bT b y c
def fi (G:Nat->Gh) (id:Nat) (g:Gh):Nat->Gh:=λj=>if j=id then g else G j
theorem lW (s:St) (id:Nat) (x:bl) (j:Nat):(St.box {s with cg:=(id,x)::s.cg} j)=if id=j then some x else s.box j:=gr id x s.cg j
def Vt {id:Nat} (d:s.box id=none) (x:bl) (g:Gh):hP (ax s.box G) (ax (St.box {s with cg:=(id,x)::s.cg}) (fi G id g)):=by
 intro b p t ft f c;refine ⟨ft,?_,rfl⟩;have:b≠id:=by
  rintro rfl;simp [ax,d] at c
 unfold ax at c|-;rw [lW,au (λe=>this e.symm)];simp only [fi,this,c2];exact c
structure hQ (F:Fr) (G:Nat->Gh) (s:St) (w:World) (g:Gh):Prop where
 b7:g.ae.Nodup
 out:∀b∈g.ae,∀j y,s.box j=some y->b∉(G j).ae
 bQ:∀b∈g.ae,¬F.R b/\b<w.heap.size/\(b∈F.M\/F.w0.heap.size<=b)
theorem aC.PB (h:aC F G s a w) {id:Nat} (af:id%32≠0) (ac:s.box id=none) {x:bl} {g:Gh} (ae:x.dD=false) (ab:x.ty.cC)
 (ad:dw (ax s.box G) w F.R g x) (C:hQ F G s w g):aC F (fi G id g) {s with cg:=(id,x)::s.cg} a w:=by
 have r:=Vt (G:=G) ac x g;have u:∀b,F.R b->w.heap[b]?=w.heap[b]?:=λ_ _=>rfl
 have old:∀{j y},(St.box {s with cg:=(id,x)::s.cg} j)=some y->(j=id/\y=x)\/(j≠id/\s.box j=some y):=by
  intro j y c;rw [lW] at c
  grind
 have up:∀(g:Gh) (x:bl),dw (ax s.box G) w F.R g x->dw (ax (St.box {s with cg:=(id,x)::s.cg}) (fi G id g)) w F.R g x->True:=λ_ _ _ _=>trivial
 have mono:∀(g':Gh) (y:bl),dw (ax s.box G) w F.R g' y->dw (ax (St.box {s with cg:=(id,x)::s.cg}) (fi G id g)) w F.R g' y:=by
  intro g' y q;unfold dw at q|-;split;rename_i K;rw [ay K] at q;obtain ⟨D,I,cs,J⟩:=q;exact ⟨D,I,cs,a1.mono r u _ _ _ _ (λ_ _=>rfl) J⟩;rename_i K;rw [au K] at q;obtain ⟨X,row,aa,D,I,J,h4⟩:=q;exact ⟨X,row,aa,D,I,J,a1.mono r u _ _ _ _ (λ_ _=>rfl) h4⟩
 refine ⟨λi y c=>?_,λi y c=>?_,λi j y z c W U b f l=>?_,λi y c=>?_,λi y c b v=>?_,h.R,λn=>VR.mono r u (h.tmps n),h.bT,h.fT,h.defers,h.nt,λi y c=>?_,λi n=>VR.mono r u (h.sv i n),h.jF⟩;rcases old c with ⟨rfl,rfl⟩|⟨e,d⟩
 have:fi G i g i=g:=by simp [fi]
 simp_all;have:fi G id g i=G i:=by simp [fi,e]
 rw [this];exact mono _ _ (h.box i y d);rcases old c with ⟨rfl,rfl⟩|⟨e,d⟩
 exact ab;exact h.cC i y d;rcases old c with ⟨rfl,rfl⟩|⟨e,d⟩
 rcases old W with ⟨o,_⟩|⟨o,O⟩
 exact U o.symm;simp only [fi,cu,o,c2] at f l;exact C.out b f j z O l;rcases old W with ⟨rfl,rfl⟩|⟨o,O⟩
 simp only [fi,cu,e,c2] at f l;exact C.out b l i y d f;simp only [fi,e,o,c2] at f l;exact h.c6 i j y z d O U b f l;rcases old c with ⟨rfl,rfl⟩|⟨e,d⟩
 simpa [fi] using C.b7;simpa [fi,e] using h.b7 i y d;rcases old c with ⟨rfl,rfl⟩|⟨e,d⟩
 simp only [fi,cu] at v;exact C.bQ b v;simp only [fi,e,c2] at v;exact h.bQ i y d b v;rcases old c with ⟨rfl,rfl⟩|⟨e,d⟩
 simp_all;simpa [fi,e] using h.cU i y d
theorem qz {id:Nat} {x:bl} {k:St->Option Z} {r:Z} (hk:jY s id x k=some r):id%32≠0/\s.box id=none/\k {s with cg:=(id,x)::s.cg}=some r:=by
 unfold jY at hk;split at hk;cases hk;rename_i e;split at hk;cases hk;rename_i b;refine ⟨λh=>?_,b,hk⟩;simp_all
def yl (h:aC F G s a w) (n:dk P E F) {d:Nat} {t:Ty} {xs:List t.ai} {k:St->Option Z} {r:Z} {o:Nat} (hk:lf s o d t xs k=some r) (q:d<E.nt) (y:t.cC)
 {f:FT} {v:Value} (c:bd w (.slice t) xs f [v]) (u:hQ F G s w ⟨none,f⟩):cf F k r (a.put (some d) v) w:=by
 obtain ⟨e,j,l⟩:=qz hk;have C:=h.PB (x:=⟨.slice t,true,false,.ab (.slice t) xs⟩) (g:=⟨none,f⟩) e j rfl y ⟨rfl,⟨t,rfl⟩,[v],⟨rfl,c⟩⟩ u;refine ⟨_,_,C.put (by rw [<-n.nt];exact q) ?_,l⟩;refine dF (v:=.sl (eg o d) []) (cs:=[v]) ?_ rfl;obtain ⟨b,cap,I,rfl,D,_,_,z,_⟩:=c;refine ⟨t,b,cap,I,none,?_,by rw [D,z]⟩;simp [ax,lW,fi,ak]
def Mw (h:aC F G s a w) (u:dk P E F) {d:Nat} {t:Ty} {c:TV} {k:St->Option Z} {r:Z} {o:Nat} (hk:newVar s o d t c k=some r) (y:d<E.nt) (C:t.cC)
 {f:FT} {row:Array Value} {e:TypeId} {b:Nat} (I:w.heap[b]?=some (.cells row e (0,0))) (j:a1 (ax s.box G) w F.R c t f row.toList) (z:hQ F G s w ⟨some b,f⟩):
 cf F k r (a.put (some d) (.pointer (some ⟨b,0,none⟩))) w:=by
 obtain ⟨l,n,q⟩:=qz hk;have D:=h.PB (x:=⟨t,false,false,c⟩) (g:=⟨some b,f⟩) l n rfl C ⟨b,row,e,rfl,I,by have:=a1.len _ _ _ _ j;simpa using this,j⟩ z;refine ⟨_,_,D.put (by rw [<-u.nt];exact y) ?_,q⟩;refine dF (v:=.ref (eg o d) []) (cs:=[_]) ?_ rfl;refine ⟨t,f,b,0,?_,rfl⟩;simp only [ax,lW,cu,fi];cases t<;>simp [ak]
end
section
variable {Z:Type} {P:Program} {E:an} {F:Fr} {G:Nat->Gh} {s:St} {a:Act} {w w2:World} {Q:Exit->Act->World->Prop}
def GV:∀(t:Ty),t.fE=true->t.hA=true->∃ft:FT,ft.ae=[]/\∀w,bd w t (hM t) ft (eS t)
 | .int _,_,_=>⟨.leaf,rfl,λ_=>⟨rfl,trivial,rfl,rfl⟩⟩
 | .bool,_,_=>⟨.leaf,rfl,λ_=>⟨rfl,trivial,rfl,rfl⟩⟩
 | .bR,_,_=>⟨.leaf,rfl,λ_=>⟨rfl,bL _,rfl,rfl⟩⟩
 | .bG,h,_=>by simp [Ty.fE] at h
 | .slice t,_,_=>⟨.node none 0 [],rfl,λ_=>⟨none,0,[],rfl,rfl,cV _,bL _,rfl,rfl⟩⟩
 | .unit,_,_=>⟨.leaf,rfl,λ_=>⟨rfl,trivial,rfl,rfl⟩⟩
 | .cons t r,h,b=>by
  simp only [Ty.fE,bt] at h;simp only [Ty.hA,bt] at b;obtain ⟨f,d,o⟩:=GV t h.1 b.1;obtain ⟨g,e,q⟩:=GV r h.2 b.2;exact ⟨.eE f g,by simp [FT.ae,d,e],λw=>⟨rfl,_,_,rfl,o w,q w⟩⟩
 | .arr n t,_,h=>by
  have c:(Ty.arr n t).aW=true:=h;obtain ⟨j,l⟩:=uM (.arr n t) c;exact ⟨.leaf,rfl,λw=>⟨c,j,rfl,l.symm⟩⟩
theorem bE.hA {T:Ty} {t:TypeId} (h:bE P T t):T.hA=true:=(Z7 T).1 t h
theorem p7 (w:World) (o:Obj) (b:Nat) (h:b<w.heap.size):(w.alloc o).heap[b]?=w.heap[b]?:=by
 unfold World.alloc
 grind
theorem lT (w:World) (o:Obj):(w.alloc o).heap[w.heap.size]?=some o:=by
 unfold World.alloc;simp_all
theorem Kv (w:World) (o:Obj):(w.alloc o).heap.size=w.heap.size+1:=World.size_alloc w o
theorem aC.alloc (h:aC F G s a w) (o:Obj):aC F G s a (w.alloc o):=
 h.grow ⟨by rw [Kv];omega,by unfold World.alloc;rfl,by unfold World.alloc;rfl⟩ (λb c=>p7 w o b c)
def Fx (h:aC F G s a w) (o:Obj) {f:FT} (d:hv F G s w f):hQ F G s (w.alloc o) ⟨some w.heap.size,f⟩:=by
 refine ⟨?_,λb c j y g e=>?_,λb c=>?_⟩;simp only [Gh.ae,hs,gM,jh];refine ⟨λe=>?_,d.b7⟩;have:=(d.bQ _ e).2.1;omega;simp only [Gh.ae,hs,gM,el] at c;rcases c with rfl|c
 have:=(h.bQ j y g _ e).2.1;omega;exact d.out b c j y g e;simp only [Gh.ae,hs,gM,el] at c;rw [Kv];rcases c with rfl|c
 refine ⟨λl=>?_,by omega,.inr h.size⟩;have:=h.o6 l;omega;obtain ⟨n,q,r⟩:=d.bQ b c
 grind
def ah3 (h:aC F G s a w) (o:Obj) {b:List FT} {cap:Nat} (c:hQ F G s (w.alloc o) ⟨some w.heap.size,.eE .leaf (.node none 0 b)⟩):hQ F G s (w.alloc o) ⟨none,.node (some w.heap.size) cap b⟩:=by
 have e:(Gh.mk none (.node (some w.heap.size) cap b)).ae=(Gh.mk (some w.heap.size) (.eE .leaf (.node none 0 b))).ae:=by simp [Gh.ae,FT.ae]
 exact ⟨by rw [e];exact c.b7,by rw [e];exact c.out,by rw [e];exact c.bQ⟩
def aep (h:aC F G s a w) (g:dk P E F) {o:Oper} {t:TypeId} (n:o.op=.alloc t) (C:∀d,o.dst=some d->d<E.nt) {k:St->Option Z} {r:Z} (hk:a8 E o s k=some r):
 o.wp P a w (cf F k r) Q:=by
 unfold a8 at hk;rw [n] at hk;simp only [dT] at hk;split at hk;rotate_left;cases hk;rename_i d j;split at hk;rotate_left;cases hk;rename_i T x;have e:=g.ty t T x;have key:∀(z:Value) (c:TV) (f:FT),(zeroValue t).run P w=.ok z w->f.ae=[]->a1 (ax s.box G) (w.alloc (.cells z.cells t)) F.R c T f z.cells.toList->newVar s E.fo d T c k=some r->o.wp P a w (cf F k r) Q:=by
  intro z c f b D y hk;have:=Mw (h.alloc (.cells z.cells t)) g hk (C d j) (bE.cC T t e) (lT w _) y (Fx h _ (hv.nil D));refine c1 (v:=.pointer (some ⟨w.heap.size,0,none⟩)) (w':=w.alloc (.cells z.cells t)) ?_ (by rw [j];exact this);unfold execOp;rw [n];simp [Instr.alloc,b,Go.newVar,newRow]
 split at hk;rename_i l;obtain ⟨i,hi,_,_,b⟩:=e.gT;obtain ⟨z,J,K,z3⟩:=b l;obtain ⟨f,q,u⟩:=GV T l e.hA;refine key z _ f ?_ q (show a1 _ _ _ (.ab T (hM T)) T f _ from ⟨rfl,by rw [K];exact u _⟩) hk;simp [zeroValue,typeInfo,hi,J];split at hk;obtain ⟨i,z,hi,b,I⟩:=e.bG;refine key z _ .leaf ?_ rfl (show a1 _ _ _ .un .bG .leaf _ from ⟨rfl,rfl,rfl,I⟩) hk;simp [zeroValue,typeInfo,hi,b];cases hk
def ahu (h:aC F G s a w) (b:dk P E F) {o:Oper} {t:TypeId} {n:Option Operand} (j:o.op=.makeMap t n) (z:∀d,o.dst=some d->d<E.nt) {k:St->Option Z} {r:Z} (hk:a8 E o s k=some r):
 o.wp P a w (cf F k r) Q:=by
 unfold a8 at hk;rw [j] at hk;simp only at hk;split at hk;rotate_left;cases hk;rename_i d c;split at hk;rotate_left;cases hk;rename_i K y;obtain ⟨U,I,O,J,_,e⟩:=qx (b.maps t K y);obtain ⟨l,q,u⟩:=qz hk;have C:=(h.alloc (.map #[] 0)).PB (x:=⟨.slice (eu K),true,false,.tup (.ab (.slice (eu K)) (show List (K.ai×Int×Unit) from []))⟩) (g:=⟨none,.node (some w.heap.size) 0 []⟩) l q rfl
  (by rcases e with rfl|rfl<;>simp [eu,Ty.cC]) ⟨rfl,⟨_,rfl⟩,[.map (some w.heap.size)],rfl,e,w.heap.size,#[],rfl,rfl,lT w _,rfl,λi x D=>by cases D⟩
  (ah3 h _ (Fx h _ (hv.nil (f:=.eE .leaf (.node none 0 [])) rfl)))
 refine c1 (v:=.map (some w.heap.size)) (w':=w.alloc (.map #[] 0)) ?_ (by rw [c];exact ⟨_,_,C.put (by rw [<-b.nt];exact z d c) (dF (v:=.mp (eg E.fo d)) (cs:=[_]) ⟨eu K,w.heap.size,0,[],none,by simp [ax,lW,fi,ak],rfl⟩ rfl),u⟩);unfold execOp;rw [j];rfl
def aeP (h:aC F G s a w) (u:dk P E F) {o:Oper} {t:TypeId} {x:Operand} (C:o.op=.box t x) (I:∀d,o.dst=some d->d<E.nt) {k:St->Option Z} {r:Z} (hk:a8 E o s k=some r):
 o.wp P a w (cf F k r) Q:=by
 unfold a8 at hk;rw [C] at hk;simp only [dT] at hk;split at hk;rotate_left;cases hk;rename_i d q;split at hk;rotate_left;cases hk;rename_i T W;have K:=u.ty t T W;have O:=cw h x;split at hk
 ·split at hk;rotate_left;cases hk;rename_i c j;obtain ⟨cs,D,n⟩:=O.cells (by intro e;rw [e] at j;cases T<;>simp [gA] at j) (by intro b e;rw [e] at j;cases T<;>simp [gA] at j);obtain ⟨f,J,aa,ac⟩:=Sp T _ c cs D j;have z:(a.eval x).cells.toList=cs:=xL n (λy=>by
   rw [y] at n;exact ac _ (by simp_all))
  have X:a1 (ax s.box G) (w.alloc (.cells (a.eval x).cells t)) F.R c T f (a.eval x).cells.toList:=by
   rw [z];exact a1.mono (λ_ _ _ ft _ e=>⟨ft,e,rfl⟩) (λb g=>p7 w _ b (h.o6 g)) _ _ _ _ (λb g=>by rw [J] at g;cases g) aa
  have:=Mw (h.alloc (.cells (a.eval x).cells t)) u hk (I d q) (bE.cC T t K) (lT w _) X (Fx h _ (hv.nil J));refine c1 (v:=.pointer (some ⟨w.heap.size,0,none⟩)) (w':=w.alloc (.cells (a.eval x).cells t)) ?_ (by rw [q];exact this);unfold execOp;rw [C];simp [Instr.box,Go.newVar,newRow]
 obtain ⟨cs,D,n⟩:=O.cells (by intro e;rw [e] at hk;cases T<;>simp [ck] at hk) (by intro b e;rw [e] at hk;cases T<;>simp [ck] at hk);obtain ⟨G1,s1,c,f,κ,ab,l⟩:=ow T _ G s cs _ r h D hk;have z:(a.eval x).cells.toList=cs:=xL n (λy=>by
  rw [y] at n;exact l.ej _ (by simp_all))
 have U:=l.rel.alloc (.cells (a.eval x).cells t);have j:a1 (ax s1.box G1) (w.alloc (.cells (a.eval x).cells t)) F.R c T f (a.eval x).cells.toList:=by
  rw [z];exact a1.mono (λ_ _ _ ft _ e=>⟨ft,e,rfl⟩) (λb g=>p7 w _ b (h.o6 g)) _ _ _ _ (λb g=>p7 w _ b (l.er.bQ b g).2.1) l.fa
 have:=Mw U u ab (I d q) (bE.cC T t K) (lT w _) j (Fx l.rel _ l.er);refine c1 (v:=.pointer (some ⟨w.heap.size,0,none⟩)) (w':=w.alloc (.cells (a.eval x).cells t)) ?_ (by rw [q];exact this);unfold execOp;rw [C];simp [Instr.box,Go.newVar,newRow]
end
section
variable {Z:Type} {P:Program} {E:an} {F:Fr} {G:Nat->Gh} {s:St} {a:Act} {w w2:World} {Q:Exit->Act->World->Prop}
def cM (w:World) (t:Ty):List t.ai->List FT->List Value->Prop
 |[],[],cs=>cs=[]
 |x::xs,k::d,cs=>∃b c,cs=b++c/\bd w t x k b/\cM w t xs d c
 |_,_,_=>False
variable {t:Ty}
theorem cM.len:∀{xs:List t.ai} {b:List FT} {cs:List Value},cM w t xs b cs->cs.length=xs.length*t.size/\b.length=xs.length
 |[],[],cs,h=>by rw [show cs=[] from h];simp
 |x::xs,k::b,cs,h=>by
  obtain ⟨g,j,rfl,e,f⟩:=h;obtain ⟨c,d⟩:=cM.len f;refine ⟨?_,by simp [d]⟩;rw [ea,bd.len _ _ _ _ e,c,jg,nM];omega
 |[],_::_,_,h=>h.elim
 |_::_,[],_,h=>h.elim
theorem cM.bT:∀{xs:List t.ai} {c:List FT} {cs:List Value},(∀b∈FT.bq c,w2.heap[b]?=w.heap[b]?)->cM w t xs c cs->cM w2 t xs c cs
 |[],[],_,_,h=>h
 |x::xs,k::c,cs,d,h=>by
  obtain ⟨e,f,rfl,g,j⟩:=h;exact ⟨e,f,rfl,bd.bT _ _ _ _ (λb m=>d b (by simp [FT.bq,m])) g,cM.bT (λb m=>d b (by simp [FT.bq,m])) j⟩
 |[],_::_,_,_,h=>h.elim
 |_::_,[],_,_,h=>h.elim
theorem cM.ej:∀{xs:List t.ai} {b:List FT} {cs:List Value},cM w t xs b cs->TM.ej cs
 |[],[],cs,h=>by rw [show cs=[] from h];intro v e;cases e
 |x::xs,k::b,cs,h=>by
  obtain ⟨f,g,rfl,c,d⟩:=h;exact ub (bd.ej _ _ _ _ c) (cM.ej d)
 |[],_::_,_,h=>h.elim
 |_::_,[],_,h=>h.elim
theorem cM.append:∀{xs d:List t.ai} {c ls:List FT} {cs ds:List Value},cM w t xs c cs->cM w t d ls ds->cM w t (xs++d) (c++ls) (cs++ds)
 |[],_,[],_,cs,_,h,b=>by rw [show cs=[] from h];exact b
 |x::xs,_,k::c,_,cs,_,h,b=>by
  obtain ⟨e,j,rfl,f,g⟩:=h;exact ⟨e,_,by rw [gb],f,cM.append g b⟩
 |[],_,_::_,_,_,_,h,_=>h.elim
 |_::_,_,[],_,_,_,h,_=>h.elim
theorem KE:∀(b ls:List FT),FT.bq (b++ls)=FT.bq b++FT.bq ls
 |[],_=>rfl
 |k::b,ls=>by simp [FT.bq,KE b ls]
def cM.Wd:∀{xs:List t.ai} {c:List FT} {cs:List Value},cM w t xs c cs->∀(i:Nat) (x:t.ai) (k:FT),xs[i]?=some x->c[i]?=some k->bd w t x k (sub cs (i*t.size) t.size)
 |[],[],_,_,i,x,k,b,_=>by simp at b
 |x::xs,k::c,cs,h,i,y,l,b,hk=>by
  obtain ⟨j,n,rfl,f,g⟩:=h;have d:=bd.len _ _ _ _ f;cases i with
  |zero=>
   simp only [List.getElem?_cons_zero,aX] at b hk;subst b hk;unfold sub;simp_all
  |succ i=>
   have:=cM.Wd g i y l (by simpa using b) (by simpa using hk);unfold sub at this|-;have e:(i+1)*t.size=t.size+i*t.size:=by grind
   rw [e,<-d,<-jK,List.drop_left,d];exact this
 |[],_::_,_,h,_,_,_,_,_=>h.elim
 |_::_,[],_,h,_,_,_,_,_=>h.elim
theorem cM.ab {xs:List t.ai} {d:List FT} {cs bo:List Value} (h:cM w t xs d cs) {b cap:Nat} {row:Array Value} {e:TypeId} (f:w.heap[b]?=some (.cells row e (0,0))) (r:row.toList=cs++bo)
 (g:cap*t.size=row.size) (j:xs.length<=cap) (o:xs.length<=eL):bd w (.slice t) xs (.node (some b) cap d) [.slice (some ⟨b,0,none⟩) xs.length cap]:=by
 obtain ⟨q,l⟩:=h.len;refine ⟨some b,cap,d,rfl,rfl,j,o,l,⟨row,e,f,g⟩,λi x k c hk=>?_⟩;have c:xs[i]?=some x:=c;have hi:i<xs.length:=(b6.1 c).1;have n:i*t.size+t.size<=xs.length*t.size:=by
  have:(i+1)*t.size<=xs.length*t.size:=jM _ hi
  grind
 refine ⟨_,⟨row,e,(0,0),f,?_,rfl⟩,?_⟩;rw [<-g];exact Nat.le_trans n (jM _ j);have:=h.Wd i x k c hk;unfold sub at this
 grind
def bd.toL {xs:List t.ai} {b cap:Nat} {d:List FT} {cs:List Value} (h:bd w (.slice t) xs (.node (some b) cap d) cs):
 ∃row e c bo,w.heap[b]?=some (.cells row e (0,0))/\cap*t.size=row.size/\row.toList=c++bo/\cM w t xs d c/\xs.length<=cap/\xs.length<=eL/\cs=[.slice (some ⟨b,0,none⟩) xs.length cap]:=by
 obtain ⟨K,O,ac,q,rfl,f,v,o,h4⟩:=h;simp only [FT.node.injEq] at q;obtain ⟨rfl,rfl,rfl⟩:=q;obtain ⟨⟨row,e,h5,h6⟩,aa⟩:=h4;have f:xs.length<=cap:=f;have o:d.length=xs.length:=o;refine ⟨row,e,row.toList.take (xs.length*t.size),row.toList.drop (xs.length*t.size),h5,h6,by simp_all,?_,f,v,rfl⟩;have C:xs.length*t.size<=row.size:=by rw [<-h6];exact jM _ f
 have key:∀(xs:List t.ai) (d:List FT) (n:Nat),d.length=xs.length->(n+xs.length)*t.size<=row.size->
  (∀(i:Nat) (x:t.ai) (k:FT),xs[i]?=some x->d[i]?=some k->∃c,At w b ((n+i)*t.size) t.size c/\bd w t x k c)->cM w t xs d ((row.toList.drop (n*t.size)).take (xs.length*t.size)):=by
  intro xs
  induction xs with
  |nil=>
   intro d n g _ _;cases d with
   |nil=>simp [cM]
   |cons _ _=>simp at g
  |cons x xs J=>
   intro d n g C u;cases d with
   |nil=>simp at g
   |cons k d=>
    obtain ⟨c,z,D⟩:=u 0 x k rfl rfl;obtain ⟨nu,U,W,j,X,r⟩:=z;rw [h5] at j;simp only [aX,Obj.cells.injEq] at j;obtain ⟨rfl,_,_⟩:=j;simp only [q3] at r;refine ⟨c,(row.toList.drop ((n+1)*t.size)).take (xs.length*t.size),?_,D,J d (n+1) (by simpa using g) (by grind) (λi y l I hk=>by
     have:=u (i+1) y l (by simpa using I) (by simpa using hk)
     grind)⟩
    rw [<-r,jg,nM,Nat.add_comm (xs.length*t.size),List.take_add,nM,jK]
 have:=key xs d 0 o (by simp_all) (λi x k ab hk=>by simp_all);simp_all
theorem cM.zero (g:t.fE=true) (e:t.hA=true):∀n,∃b:List FT,FT.bq b=[]/\∀w,cM w t (List.replicate n (hM t)) b (List.replicate n (eS t)).flatten:=by
 intro n;obtain ⟨f,c,d⟩:=GV t g e
 induction n with
 |zero=>exact ⟨[],rfl,λ_=>rfl⟩
 |succ n h=>
  obtain ⟨b,j,l⟩:=h;exact ⟨f::b,by simp [FT.bq,c,j],λw=>⟨_,_,by grind,d w,l w⟩⟩
theorem cM.aW (c:t.aW=true):∀(xs:List t.ai),(∀x∈xs,dl t x)->∃b:List FT,FT.bq b=[]/\∀w,cM w t xs b (xs.map (bJ t)).flatten
 |[],_=>⟨[],rfl,λ_=>rfl⟩
 |x::xs,h=>by
  obtain ⟨b,j,l⟩:=cM.aW c xs (λy g=>h y (by simp [g]));have:∃f:FT,f.ae=[]/\∀w,bd w t x f (bJ t x):=⟨.leaf,rfl,λw=>bd.fW c (h x (by simp)) rfl⟩
  obtain ⟨f,d,e⟩:=this;exact ⟨f::b,by simp [FT.bq,d,j],λw=>⟨_,_,by simp,e w,l w⟩⟩
theorem ahs (z:Array Value) (n:Nat):(madeCells z (n*z.size)).toList=(List.replicate n z.toList).flatten:=by
 unfold madeCells;rw [uN,Array.toList_range]
 induction n with
 |zero=>simp
 |succ n c=>
  rw [List.replicate_succ',List.flatten_append,List.flatten_singleton,<-c,nM,List.range_add,fI];congr 1;rw [List.map_map];apply List.ext_getElem;simp;intro i b d;simp only [dU,y9] at b;simp only [List.getElem_map,List.getElem_range,Function.comp_apply];have:(n*z.size+i)%z.size=i:=by rw [Nat.mul_comm,Nat.mul_add_mod];exact Nat.mod_eq_of_lt b
  simp_all
end
section
variable {Z:Type} {P:Program} {E:an} {F:Fr} {G:Nat->Gh} {s:St} {a:Act} {w w2:World} {Q:Exit->Act->World->Prop}
theorem hQ.row {o:Obj} {d:List FT} (cap:Nat) (h:aC F G s a w) (n:(FT.bq d).Nodup) (q:∀b∈FT.bq d,∀j y,s.box j=some y->b∉(G j).ae)
 (l:∀b∈FT.bq d,¬F.R b/\b<w.heap.size/\(b∈F.M\/F.w0.heap.size<=b)):hQ F G s (w.alloc o) ⟨none,.node (some w.heap.size) cap d⟩:=by
 refine ⟨?_,λb c j y g f=>?_,λb c=>?_⟩;simp only [Gh.ae,FT.ae,zd,dV,hs,gM,jh]
 grind
 simp only [Gh.ae,FT.ae,zd,dV,hs,gM,el] at c;rcases c with rfl|c
 have:=(h.bQ j y g _ f).2.1;omega;simp_all;simp only [Gh.ae,FT.ae,zd,dV,hs,gM,el] at c;rw [Kv];rcases c with rfl|c
 refine ⟨λe=>?_,by omega,.inr h.size⟩;have:=h.o6 e;omega
 grind
theorem En {n:Nat} (h:n<=bi):n<=eL:=Nat.le_trans h (by simp [bi,eL])
def ahv (h:aC F G s a w) (l:dk P E F) {o:Oper} {t:TypeId} {n c:Operand} (O:o.op=.makeSlice t n c) (J:∀d,o.dst=some d->d<E.nt) {k:St->Option Z} {r:Z} (hk:a8 E o s k=some r):
 o.wp P a w (cf F k r) Q:=by
 unfold a8 at hk;rw [O] at hk;simp only [dT] at hk;split at hk;rotate_left;cases hk;rename_i d x;split at hk;rotate_left;cases hk;rename_i T D;split at hk;rotate_left;cases hk;rename_i u;have X:=l.ty t _ D;obtain ⟨af,ap,al,hk⟩:=k0 (cw h n) hk;obtain ⟨ag,aq,am,hk⟩:=k0 (cw h c) hk;split at hk;rotate_left;cases hk;rename_i m ai _hk0;split at hk;rotate_left;cases hk;rename_i q;simp only [bt] at q;obtain ⟨⟨g,f⟩,c3⟩:=q;have g:m=ai:=gj g;have f:m<=bi:=po f;subst g;obtain ⟨e0,aa,j⟩:=X.slice;obtain ⟨i,hi,y,I,ac⟩:=j.gT;obtain ⟨z,aj,ak,z3⟩:=ac c3;have e:(i.bytes:Int)*(m:Int)<=281474976710656:=by
  have an:i.bytes*m<=4096*4294967296:=Nat.mul_le_mul I f;omega
 have K:(m:Int)<=9223372036854775807:=by
  have:m<=4294967296:=f;omega
 have W:=run_make (P:=P) w t e0 i z aa hi aj af ag m m (by omega) (by omega) e K;simp only [fg] at W;have ad:z.cells.size=u.size:=by
  have:=my u
  grind
 have ao:(madeCells z.cells (m*i.size)).toList=(List.replicate m (eS u)).flatten:=by
  rw [y,<-ad,ahs,ak]
 obtain ⟨ah,C,ae⟩:=cM.zero c3 j.hA m;have U:bd (w.alloc (.cells (madeCells z.cells (m*i.size)) e0)) (.slice u) (List.replicate m (hM u)) (.node (some w.heap.size) m ah) [.slice (some ⟨w.heap.size,0,none⟩) m m]:=by
  have:=cM.ab (bo:=[]) (cap:=m) (b:=w.heap.size) (ae (w.alloc (.cells (madeCells z.cells (m*i.size)) e0))) (lT w _) (by simp_all) (by rw [size_madeCells,y]) (by simp) (by simp;exact En f);simpa using this
 have:=yl (h.alloc (.cells (madeCells z.cells (m*i.size)) e0)) l hk (J d x) (bE.cC u e0 j) U (hQ.row m h (by simp_all) (λb e=>by rw [C] at e;cases e) (λb e=>by rw [C] at e;cases e));refine c1 (v:=.slice (some ⟨w.heap.size,0,none⟩) m m) (w':=w.alloc (.cells (madeCells z.cells (m*i.size)) e0)) ?_ (by rw [x];exact this);unfold execOp;simp_all
def afz (t:Ty):∀(vs:List TV) (xs:List Value) (G:Nat->Gh) (s:St) (kl:TV->TV) (k:St->List t.ai->Option Z) (r:Z),aC F G s a w->vs.length=xs.length->
 (∀(i:Nat) (v:TV) (x:Value),vs[i]?=some v->xs[i]?=some x->VR (ax s.box G) w F.R (kl v) x)->ob s t kl vs k=some r->
 ∃C u n l cs,k u n=some r/\aC F C u a w/\cM w t n l cs/\n.length=vs.length/\cs=(xs.map λx=>x.cells.toList).flatten/\(∀x∈xs,x.cells.size=t.size)/\(FT.bq l).Nodup/\
  (∀b∈FT.bq l,∀j y,u.box j=some y->b∉(C j).ae)/\(∀b∈FT.bq l,¬F.R b/\b<w.heap.size/\(b∈F.M\/F.w0.heap.size<=b))/\
  (∀b∈FT.bq l,∃i x,s.box i=some x/\b∈(G i).ae)/\ik G s C u:=by
 intro vs
 induction vs with
 |nil=>
  intro xs G s kl k r h q J hk;cases xs with
  |nil=>exact ⟨G,s,[],[],[],hk,h,rfl,rfl,rfl,(λx K=>by cases K),lB,(λb d=>by cases d),(λb d=>by cases d),(λb d=>by cases d),ik.refl⟩
  |cons _ _=>simp at q
 |cons v vs av=>
  intro xs G s kl k r h q J hk;cases xs with
  |nil=>simp at q
  |cons x xs=>
   simp only [ob] at hk;have K:=J 0 v x rfl rfl;obtain ⟨cs,ay,X⟩:=K.cells (by intro e;rw [e] at hk;cases t<;>simp [ck] at hk) (by intro b e;rw [e] at hk;cases t<;>simp [ck] at hk);obtain ⟨G1,s1,c,f,κ,D,g⟩:=ow t _ G s cs _ r h ay hk;split at D;rotate_left;cases D;rename_i y au;obtain ⟨ak,o,al⟩:=lU t c f cs y g.fa au;have aq:x.cells.toList=cs:=xL X (λao=>by
    rw [ao] at X;exact g.ej _ (by simp_all))
   obtain ⟨ac,s2,n,l,ds,ar,aj,ah,ad,ab,az,ag,aa,af,U,W⟩:=av xs G1 s1 _ _ r g.rel (by simpa using q) (λi aw x' am an=>g.vr _ _ (J (i+1) aw x' (by simpa using am) (by simpa using an))) D;have fr:=g.er.eY W;have a0:x.cells.size=t.size:=by
    have:=a1.len _ _ _ _ g.fa
    grind
   refine ⟨ac,s2,y::n,ak::l,cs++ds,ar,aj,⟨cs,ds,rfl,al,ah⟩,by simp [ad],by simp [ab,aq],?_,?_,?_,?_,?_,g.eY.trans W⟩
   grind
   simp only [FT.bq,cv,o];refine ⟨fr.b7,ag,λb d c ap e=>?_⟩;subst e;obtain ⟨i,z,O,I⟩:=U b ap;exact g.er.out b d i z O I;intro b d;simp only [FT.bq,bp,o] at d;rcases d with d|d
   exact fr.out b d;exact aa b d;intro b d;simp only [FT.bq,bp,o] at d;rcases d with d|d
   exact fr.bQ b d;exact af b d;intro b d;simp only [FT.bq,bp,o] at d;rcases d with d|d
   exact g.js b d;obtain ⟨i,z,O,I⟩:=U b d;exact g.eY.sub i z O b I
end
section
variable {Z:Type} {P:Program} {E:an} {F:Fr} {G:Nat->Gh} {s:St} {a:Act} {w w2:World} {Q:Exit->Act->World->Prop}
theorem Nk {f:Operand->Value}:∀(n:Nat) (l:List (Nat×Operand)),uu n l=true->(l.map λx=>(x.1,f x.2))=((l.map λx=>f x.2).zipIdx n).map λx=>(x.2,x.1)
 |_,[],_=>rfl
 |n,x::l,h=>by
  simp only [uu,bt] at h;have e:=gj h.1;simp only [fJ,List.zipIdx_cons];rw [<-Nk (n+1) l h.2,e]
def ahk {A:b0} {t:Ty}:∀(vs:List TV) (xs:List Value) (b:List (Ty.slice t).ai),(∀(i:Nat) v x,vs[i]?=some v->xs[i]?=some x->VR A w F.R v x)->vs.length=xs.length->x8 (.slice t) vs=some b->
 b.length=xs.length/\∀(i:Nat) (y:(Ty.slice t).ai),b[i]?=some y->∃x,xs[i]?=some x/\Rd w F.R (.slice t) y [x]:=by
 intro vs
 induction vs with
 |nil=>
  intro xs b _ c h;obtain rfl:=hO.1 c.symm;obtain rfl:=b2 h;simp_all
 |cons v vs n=>
  intro xs b j c h;cases xs with
  |nil=>cases c
  |cons x xs=>
   unfold x8 at h;split at h;rename_i e;cases e
   ·rename_i u z q e;obtain ⟨rfl,rfl⟩:=hq e;split at h;rotate_left;cases h;rename_i y d;split at h;rotate_left;cases h;rename_i o l;obtain rfl:=b2 h;obtain ⟨rfl,rfl⟩:=eO d;obtain ⟨f,g⟩:=n xs o (λi v x f g=>j (i+1) v x (by simpa using f) (by simpa using g)) (by simpa using c) l;refine ⟨by simpa using f,λi y d=>?_⟩;cases i with
    |zero=>
     obtain rfl:=b2 d;exact ⟨x,rfl,(j 0 _ x rfl rfl).b3 (by simp) (by simp) rfl⟩
    |succ i=>exact g i y d
   cases h
def ahm (h:aC F G s a w) (am:dk P E F) {o:Oper} {t:TypeId} {len:Nat} {parts:Array (Nat×Operand)} (au:o.op=.buildSlice t len parts) {d:Nat} (ap:o.dst=some d) (ao:d<E.nt) {u:Ty} {e0:TypeId} (az:P.underlying t=some (.slice e0)) (ay:bE P u e0)
 {i:TypeInfo} (hi:P.info? e0=some i) (X:i.size=u.size) {z:Value} (a1:i.zero=some z) (a5:z.cells.size=u.size) (y:parts.toList.length=len) (af:uu 0 parts.toList=true) (ag:len*u.size<=16777216)
 {xs:List u.ai} (j:L7 u (parts.toList.map λx=>s.ev x.2)=some xs) {k:St->Option Z} {r:Z} (hk:qA s E.fo d u xs k=some r):o.wp P a w (cf F k r) Q:=by
 obtain ⟨t0,rfl⟩:∃t0,u=.slice t0:=by
  cases u with
  |slice t0=>exact ⟨t0,rfl⟩
  |_=>cases j
 obtain ⟨v0,ae,aa⟩:∃v0 ae,(parts.toList.map λx=>s.ev x.2)=v0::ae:=by
  cases c:(parts.toList.map λx=>s.ev x.2) with
  |nil=>rw [c] at j;cases j
  |cons v vs=>exact ⟨v,vs,rfl⟩
 have j:x8 (.slice t0) (parts.toList.map λx=>s.ev x.2)=some xs:=by rw [aa] at j|-;exact j
 have a3:parts.toList≠[]:=λe=>by simp_all
 obtain ⟨a0,D⟩:=ahk (A:=ax s.box G) (w:=w) (F:=F) (parts.toList.map λx=>s.ev x.2) (parts.toList.map λx=>a.eval x.2) xs (λi v x c f=>by
  rw [uR] at c f;cases U:parts.toList[i]? with
  |none=>rw [U] at c;cases c
  |some q=>
   rw [U] at c f;obtain rfl:=b2 c;obtain rfl:=b2 f;exact cw h q.2) (by simp) j
 have K:xs.length=len:=by simp_all
 have O:∀x∈parts.toList.map λx=>a.eval x.2,x.cells= #[x]:=by
  intro x f;obtain ⟨i,hi,rfl⟩:=kI.1 f;obtain ⟨x',I,J⟩:=D i xs[i] (ba (by omega));rw [ba hi] at I;obtain rfl:=b2 I;obtain ⟨a2,cap,ac,_⟩:=J;simp only [gh,fK] at ac;rw [ac];rfl
 have a4:0<len:=by grind
 have W:(parts.map λ(i,x)=>(i,a.eval x)).toList=((parts.toList.map λx=>a.eval x.2).zipIdx 0).map λx=>(x.2,x.1):=by
  rw [uN];exact Nk 0 _ af
 have aq:(parts.toList.map λx=>a.eval x.2)=((parts.toList.map λx=>a.eval x.2).flatMap λv=>v.cells.toList):=by
  clear W a0 D j aa;generalize (parts.toList.map λx=>a.eval x.2)=l at O|-
  induction l with
  |nil=>rfl
  |cons x l ab=>grind
 have aw:(Instr.buildSlice t len (parts.map λ(i,x)=>(i,a.eval x))).run P w=.ok (.slice (some ⟨w.heap.size,0,none⟩) len len) (w.alloc (.cells (parts.toList.map λx=>a.eval x.2).toArray e0)):=by
  refine run_buildSlice (P:=P) w t e0 len _ _ i z az hi a1 (by grind) (by rw [X];simp only [Ty.size];omega) ?_;rw [W,X]
  conv=>rhs;rw [aq]
  exact Great.fill_whole (by simp [Ty.size]) _ _ (λv c=>by rw [O v c];rfl) (by simp [y])
 obtain ⟨ah,aj,al⟩:=qz hk;have an:FT.bq (List.replicate len FT.leaf)=[]:=by
  generalize len=n
  induction n with
  |zero=>rfl
  |succ n ab=>rw [List.replicate_succ];exact ab
 have ar:hQ F G s (w.alloc (.cells (parts.toList.map λx=>a.eval x.2).toArray e0)) ⟨none,.node (some w.heap.size) len (List.replicate len .leaf)⟩:=
  hQ.row len h (by grind) (λb C=>by grind) (λb C=>by grind)
 have av:=(h.alloc (.cells (parts.toList.map λx=>a.eval x.2).toArray e0)).PB (x:=⟨.slice (.slice t0),true,false,.tup (.ad (.slice (.slice t0)) xs)⟩) (g:=⟨none,.node (some w.heap.size) len (List.replicate len .leaf)⟩) ah aj rfl
  (bE.cC (.slice t0) e0 ay) ⟨rfl,⟨_,rfl⟩,[.slice (some ⟨w.heap.size,0,none⟩) len len],rfl,w.heap.size,len,_,rfl,an,by rw [K],by omega,by simp only [Ty.size] at ag;have:=En (n:=len) (by simp [bi];omega);omega,by simp [K],
   ⟨_,_,lT w _,by simp [Ty.size,y]⟩,λi x f=>by
    obtain ⟨v,I,J⟩:=D i x f;refine ⟨[v],⟨_,_,_,lT w _,?_,?_⟩,Rd.bT (λ_ h=>h) (λb C=>p7 w _ b (h.o6 C)) _ _ _ J⟩;have:=(b6.1 f).1;simp [Ty.size];simp at y;omega;simp only [Ty.size,Nat.mul_one];rw [List.take_one,List.head?_drop]
    grind⟩ ar
 refine c1 (v:=.slice (some ⟨w.heap.size,0,none⟩) len len) (w':=w.alloc (.cells (parts.toList.map λx=>a.eval x.2).toArray e0)) ?_ (by
  rw [ap];refine ⟨_,_,av.put (by rw [<-am.nt];exact ao) (dF (v:=.sl (eg E.fo d) []) (cs:=[_]) ⟨.slice t0,some w.heap.size,len,List.replicate len .leaf,none,by simp [ax,lW,fi,ak],by simp⟩ rfl),al⟩)
 unfold execOp;rw [au];simp only [Sem.run_bind]
 erw [aw]
 rfl
def aeS (h:aC F G s a w) (n:dk P E F) {o:Oper} {t:TypeId} {len:Nat} {parts:Array (Nat×Operand)} (ad:o.op=.buildSlice t len parts) (aa:∀d,o.dst=some d->d<E.nt) {k:St->Option Z} {r:Z} (hk:a8 E o s k=some r):
 o.wp P a w (cf F k r) Q:=by
 unfold a8 at hk;rw [ad] at hk;simp only [dT] at hk;split at hk;rotate_left;cases hk;rename_i d f;split at hk;rotate_left;cases hk;rename_i T al;split at hk;rotate_left;cases hk;rename_i u;have ax:=n.ty t _ al;split at hk;rotate_left;cases hk;rename_i X;simp only [bt] at X;obtain ⟨⟨⟨⟨e,U⟩,c3⟩,j⟩,l⟩:=X;have e:=gj e;have j:=po j;have l:0<u.size:=by simp_all
 obtain ⟨e0,C,y⟩:=ax.slice;obtain ⟨i,hi,g,a3,az⟩:=y.gT;obtain ⟨z,ag,a6,z3⟩:=az c3;split at hk;rename_i xs ay;exact ahm h n ad f (aa d f) C y hi g ag (by
  have:=my u
  grind) e U j ay hk
 obtain ⟨G1,s1,I,a0,cs,aq,O,K,a2,ai,ak,aj,ah,J,a1,_⟩:=afz u (parts.toList.map λx=>s.ev x.2) (parts.toList.map λx=>a.eval x.2) G s id _ r h (by simp)
  (λi v x c D=>by
   rw [uR] at c D;cases ae:parts.toList[i]? with
   |none=>rw [ae] at c;cases c
   |some q=>
    rw [ae] at c D;obtain rfl:=b2 c;obtain rfl:=b2 D;exact cw h q.2) hk
 have ac:I.length=len:=by simp_all
 have ar:I.length<=eL:=by
  rw [ac];have:len*1<=len*u.size:=Nat.mul_le_mul_left _ l;exact Nat.le_trans (by omega:len<=16777216) (by simp [eL])
 have a5:z.cells.size=u.size:=by
  have:=my u
  grind
 have ap:cs=((parts.toList.map λx=>a.eval x.2).flatMap λv=>v.cells.toList):=by grind
 have aw:(parts.map λ(i,x)=>(i,a.eval x)).toList=((parts.toList.map λx=>a.eval x.2).zipIdx 0).map λx=>(x.2,x.1):=by
  rw [uN];exact Nk 0 _ U
 have a4:(Instr.buildSlice t len (parts.map λ(i,x)=>(i,a.eval x))).run P w=.ok (.slice (some ⟨w.heap.size,0,none⟩) len len) (w.alloc (.cells cs.toArray e0)):=by
  by_cases W:len=0;subst W;have af:parts.toList=[]:=hO.1 e;have ao:cs=[]:=by rw [ai,af];rfl
  rw [ao];have av:parts= #[]:=by simpa using af
  subst av;simp [Instr.buildSlice,run_underlying C,sizeOf,typeInfo,hi,Instr.fill,newRow,Array.range_zero'];refine run_buildSlice (P:=P) w t e0 len _ cs.toArray i z C hi ag (by rw [g];omega) (by rw [g];exact Nat.mul_ne_zero W (by omega)) ?_;rw [aw,g,ap];exact Great.fill_whole l _ _ (λv c=>ak v c) (by simp [e])
 have au:bd (w.alloc (.cells cs.toArray e0)) (.slice u) I (.node (some w.heap.size) len a0) [.slice (some ⟨w.heap.size,0,none⟩) len len]:=by
  have an:=K.len;have:=cM.ab (bo:=[]) (cap:=len) (b:=w.heap.size) (cM.bT (λb am=>p7 w (.cells cs.toArray e0) b (J b am).2.1) K) (lT w _) (by simp) (by simp [an.1,ac]) (by omega) ar;simp_all
 have:=yl (O.alloc (.cells cs.toArray e0)) n aq (aa d f) (bE.cC u e0 y) au (hQ.row len O aj ah J);refine c1 (v:=.slice (some ⟨w.heap.size,0,none⟩) len len) (w':=w.alloc (.cells cs.toArray e0)) ?_ (by rw [f];exact this);unfold execOp;simp_all
end
section
variable {Z:Type} {P:Program} {E:an} {F:Fr} {G:Nat->Gh} {s:St} {a:Act} {w w2:World} {Q:Exit->Act->World->Prop}
def aeu {b o n:Nat} {cs:List Value} (h:At w b o n cs) {j:Nat} {u:Value} (c:cs[j]?=some u):w.cell? ⟨b,o+j,none⟩=some u:=by
 obtain ⟨row,e,fz,d,g,rfl⟩:=h;have f:j<n:=by
  grind
 rw [List.getElem?_take_of_lt f,List.getElem?_drop] at c;simp only [World.cell?,d];simpa using c
def Xn {b:Nat} {row:Array Value} {e:TypeId} {fz:Nat×Nat} (h:w.heap[b]?=some (.cells row e fz)) {j:Nat} {u:Value} (c:row.toList[j]?=some u):w.cell? ⟨b,j,none⟩=some u:=by
 simp only [World.cell?,h];simpa using c
theorem UU {α:Type} {n:Nat} (f:α->List Value):∀(xs:List α),(∀x∈xs,(f x).length=n)->∀(j:Nat) (u:Value),((xs.map f).flatten)[j]?=some u->∃i k x,j=i*n+k/\k<n/\xs[i]?=some x/\(f x)[k]?=some u
 |[],_,j,u,h=>by simp at h
 |x::xs,c,j,u,h=>by
  have l:=c x (by simp);simp only [fJ,mA] at h;by_cases d:j<n;rw [List.getElem?_append_left (by omega)] at h;exact ⟨0,j,x,by omega,d,rfl,h⟩;rw [List.getElem?_append_right (by omega),l] at h;obtain ⟨i,k,y,e,hk,b,g⟩:=UU f xs (λy b=>c y (by simp [b])) (j-n) u h;exact ⟨i+1,k,y,by grind,hk,by simpa using b,g⟩
def anL {R:Nat->Prop} {t O:TypeId} {T:Ty} (q:T.aW=true) {tx:TypeId} (hk:P.underlying tx=some (.slice O)) {d:List T.ai} {Y:Value} (h:Rd w R (.slice T) d [Y]):
 Src P T.size tx Y d.length (d.map (bJ T)).flatten w/\∀y∈d,dl T y:=by
 obtain ⟨g,cap,v,⟨aa,ab⟩,h4⟩:=h;have v:Y=.slice g d.length cap:=(hq v).1;subst v;by_cases J:d=[];subst J;refine ⟨?_,λy D=>by cases D⟩;cases g with
 |none=>exact Src.ofNil w hk cap
 |some g=>exact Src.ofSlice w hk g 0 cap [] (by simp) (λj u e=>by simp at e) (λu e=>by cases e)
 obtain ⟨b,o,rfl,_,I⟩:=h4 J;have z:∀y∈d,dl T y:=by
  intro y D;obtain ⟨i,hi,rfl⟩:=kI.1 D;obtain ⟨c,_,C⟩:=I i d[i] (ba hi);exact (Rd.aW q C).1
 refine ⟨Src.ofSlice w hk ⟨b,o,none⟩ d.length cap _ ?_ (λj u e=>?_) (λu e=>?_),z⟩;have key:∀l:List T.ai,(∀x∈l,dl T x)->((l.map (bJ T)).flatten).length=l.length*T.size:=by
  intro l
  induction l with
  |nil=>intro _;simp
  |cons a l X=>
   intro r;simp only [fJ,mA,ea,jg];rw [hb T a q (r a (by simp)),X (λx f=>r x (by simp [f])),nM];omega
 exact key d z;obtain ⟨i,k,x,rfl,ac,f,K⟩:=UU (n:=T.size) (bJ T) d (λx f=>hb T x q (z x f)) j u e;obtain ⟨c,U,C⟩:=I i x f;obtain ⟨_,W⟩:=Rd.aW q C;rw [<-W] at K;have:=aeu U K;rw [mW,<-Nat.add_assoc];exact this;obtain ⟨l,r,e⟩:=List.mem_flatten.1 e;obtain ⟨x,_,rfl⟩:=cQ.1 r;exact jB T x u e
theorem anM {tx:TypeId} (hk:P.underlying tx=some .string) (l:List UInt8):Src P 1 tx (.string ⟨l.toArray⟩) l.length (l.map λc=>Value.int .u8 (c.toNat:Int)) w:=by
 have:=Src.ofString (P:=P) w hk ⟨l.toArray⟩;have b:(ByteArray.mk l.toArray).size=l.length:=by simp [ByteArray.size]
 rw [b] at this;simpa [byteCells] using this
theorem Wk:∀(l:List UInt8),∃ls:List FT,FT.bq ls=[]/\∀w,cM w (.int .u8) (List.map (λc:UInt8=>(c.toNat:Int)) l) ls (l.map λc=>Value.int .u8 (c.toNat:Int))
 |[]=>⟨[],rfl,λ_=>rfl⟩
 |c::l=>by
  obtain ⟨ls,b,d⟩:=Wk l;exact ⟨.leaf::ls,by simp [FT.bq,FT.ae,b],λw=>⟨[_],_,rfl,⟨rfl,trivial,rfl,rfl⟩,d w⟩⟩
theorem an6 (l:List UInt8):List.length (α:=(Ty.int .u8).ai) (List.map (λc:UInt8=>(c.toNat:Int)) l)=l.length:=dU _
def Eg {t:Ty} {v:TV} {k:St->TV->(TV->TV)->Option Z} {r:Z} (h:ck s (.slice t) v k=some r):v.agg=false/\v≠ .un/\∀b,v≠ .tup b:=by
 cases v with
 |ad u x=>
  simp only [ck] at h;split at h;rename_i e;have e:=e7 e;subst e;exact ⟨rfl,by simp,by simp⟩;cases h
 |nil=>exact ⟨rfl,by simp,by simp⟩
 |sl b p=>exact ⟨rfl,by simp,by simp⟩
 |slw b p lo n=>exact ⟨rfl,by simp,by simp⟩
 |_=>simp [ck] at h
def VR.Gj {A:b0} {R:Nat->Prop} {v:TV} {x:Value} (h:VR A w R v x) (c:v.agg=false/\v≠ .un/\∀b,v≠ .tup b):bH A w R v [x]:=h.b3 c.2.1 c.2.2 c.1
structure aaL (F:Fr) (P:Program) (G:Nat->Gh) (s:St) (a:Act) (w:World) (tx:TypeId) (Y:Value) (κ:TV->TV) (t:Ty) (f:List t.ai) (ls:List FT) (ds:List Value) (c:Nat->Gh) (e:St):Prop where
 rel:aC F c e a w
 ab:cM w t f ls ds
 anK:Src P t.size tx Y f.length ds w
 b7:(FT.bq ls).Nodup
 out:∀b∈FT.bq ls,∀j y,e.box j=some y->b∉(c j).ae
 bQ:∀b∈FT.bq ls,¬F.R b/\b<w.heap.size/\(b∈F.M\/F.w0.heap.size<=b)
 vr:∀d y,VR (ax s.box G) w F.R d y->VR (ax e.box c) w F.R (κ d) y
def ahN (h:aC F G s a w) {t O:Ty} {tx:TypeId} (ac:bE P O tx) {v:TV} {Y:Value} (I:VR (ax s.box G) w F.R v Y) {k:St->List t.ai->(TV->TV)->Option Z} {r:Z} (hk:nk s t O v k=some r):
 ∃ag af g ls ds κ,k af g κ=some r/\aaL F P G s a w tx Y κ t g ls ds ag af:=by
 unfold nk at hk;split at hk;split at hk;rename_i x;split at hk;rename_i xs ao;obtain ⟨e,rfl⟩:=eO ao;simp only [Ty.slice.injEq] at e;subst e;obtain ⟨n,a6⟩:=VR.bR I;subst n;obtain ⟨ls,o,J⟩:=Wk x;have au:=anM (P:=P) (w:=w) ac.bR x;refine ⟨G,s,_,ls,_,id,hk,h,J w,?_,by simp_all,λb d=>(by rw [o] at d;cases d),λb d=>(by rw [o] at d;cases d),λ_ _ C=>C⟩;have:=an6 x
 erw [this]
 exact au;cases hk;cases hk;rename_i u;obtain ⟨az,D,_⟩:=ac.slice;split at hk;rename_i ab;obtain ⟨g,hk,ar⟩:=NC h I hk;obtain ⟨K,ad⟩:=anL (P:=P) (t:=tx) ab D ar;obtain ⟨ls,o,J⟩:=cM.aW ab g ad;exact ⟨G,s,g,ls,_,id,hk,h,J w,K,by simp_all,λb d=>(by rw [o] at d;cases d),λb d=>(by rw [o] at d;cases d),λ_ _ C=>C⟩
 ·have ay:=I.Gj (Eg hk);obtain ⟨G1,s1,c,f,κ,q,l⟩:=ow (.slice t) _ G s [Y] _ r h ay hk;split at q;rotate_left;cases q;rename_i g av;obtain ⟨a0,X,aa⟩:=lU (.slice t) c f [Y] g l.fa av;have aj:=aa;obtain ⟨U,cap,y,rfl,n,am,a5,an,h4⟩:=aa;have n:Y=.slice (U.map (⟨·,0,none⟩)) (List.length (α:=t.ai) g) cap:=(hq n).1;subst n;have sub:∀b∈FT.bq y,b∈f.ae:=λb d=>by rw [<-X];simp [FT.ae,d]
  have aq:(FT.bq y).Nodup:=by
   have:=l.er.b7;rw [<-X] at this;simp only [FT.ae,cv] at this;exact this.2.1
  cases U with
  |none=>
   subst h4;have al:List.length (α:=t.ai) g=0:=Nat.le_zero.1 am;have aw:g=([]:List t.ai):=hO.1 al;subst aw;have ap:y=[]:=hO.1 an;subst ap;exact ⟨G1,s1,_,[],[],κ,q,l.rel,rfl,Src.ofNil w D 0,lB,λb d=>(by cases d),λb d=>(by cases d),l.vr⟩
  |some ah=>
   obtain ⟨row,e,W,bo,ak,a1,a2,z,a3,a4,_⟩:=bd.toL aj;obtain ⟨K,ad⟩:=z.len;refine ⟨G1,s1,g,y,W,κ,q,l.rel,z,?_,aq,λb d=>l.er.out b (sub b d),λb d=>l.er.bQ b (sub b d),l.vr⟩;exact Src.ofSlice w D ⟨ah,0,none⟩ _ cap W K (λj u a7=>by
    rw [mW,ka];refine Xn ak ?_
    grind) z.ej
 cases hk
end
section
variable {Z:Type} {P:Program} {E:an} {F:Fr} {G:Nat->Gh} {s:St} {a:Act} {w w2:World} {Q:Exit->Act->World->Prop}
def agj {b o n:Nat} {row:Array Value} {e:TypeId} (h:w.heap[b]?=some (.cells row e (0,0))) (d:o+n<=row.size):
 (∀j,j<n->(w.cell? ⟨b,o+j,none⟩).isSome=true)/\(∀j,j<n->w.frozen? ⟨b,o+j,none⟩=false):=by
 refine ⟨λj c=>?_,λj c=>?_⟩;simp only [World.cell?,h];simp;omega;simp [World.frozen?,h]
theorem aax (z:Array Value) (n:Nat):(Builtin.zeroCells z n).size=n*z.size:=by simp [Builtin.zeroCells]
def agy (h:aC F G s a w) (f:dk P E F) {d:Nat} {t:Ty} {e0:TypeId} (q:t.cC) {xs:List t.ai} {c:List FT} {cs zs:List Value} {gc:Nat} {k:St->Option Z} {r:Z} {o:Nat} (hk:lf s o d t xs k=some r) (n:d<E.nt)
 (g:cM w t xs c cs) (x:(FT.bq c).Nodup) (z:∀b∈FT.bq c,∀j y,s.box j=some y->b∉(G j).ae)
 (e:∀b∈FT.bq c,¬F.R b/\b<w.heap.size/\(b∈F.M\/F.w0.heap.size<=b)) {row:Array Value} (C:row.toList=cs++zs) (D:gc*t.size=row.size) (u:xs.length<=gc) (v:xs.length<=eL):
 cf F k r (a.put (some d) (.slice (some ⟨w.heap.size,0,none⟩) xs.length gc)) (w.alloc (.cells row e0)):=
 yl (h.alloc _) f hk n q (cM.ab (cM.bT (λb l=>p7 w _ b (e b l).2.1) g) (lT w _) C D u v) (hQ.row gc h x z e)
def aes (h:aC F G s a w) (aa:dk P E F) {o:Oper} {c:Call} (aL:o.op=.call c) (g:c.callee=.builtin .append) (bh:∀d,o.dst=some d->d<E.nt) {k:St->Option Z} {r:Z} (hk:a8 E o s k=some r):
 o.wp P a w (cf F k r) Q:=by
 unfold a8 at hk;rw [aL] at hk;simp only [g] at hk;unfold jT at hk;split at hk;contradiction;rotate_left;contradiction;contradiction;contradiction;contradiction;cases hk;rename_i t tx bK bM _ cb J;split at hk;rotate_left;cases hk;rename_i T bP d aY aZ aG;have b0:=aa.ty t _ aY;have b1:=aa.ty tx _ aZ;have aw:=bh d aG;obtain ⟨x,y,bb,b6,bA⟩:∃x y,c.args= #[x,y]/\s.ev x=bK/\s.ev y=bM:=by
  match ca:c.args.toList,J with
  |[x,y],J=>
   grind
  |[],J=>simp at J
  |[_],J=>simp at J
  |_::_::_::_,J=>simp at J
 have b2:c.argTypes= #[t,tx]:=by grind
 have an:=cw h x;have O:=cw h y;rw [b6] at an;rw [bA] at O;unfold p8 at hk;split at hk;cases hk;rename_i a2;have a2:T.fE=true:=by simpa using a2
 obtain ⟨G1,s1,l,ls,ds,κ,aJ,C⟩:=ahN (P:=P) h b1 O hk;have b4:=C.vr _ _ an;have bN:=b4.Gj (Eg aJ);obtain ⟨ag,s2,aE,f,ch,I,q⟩:=ow (.slice T) _ G1 s1 [a.eval x] _ r C.rel bN aJ;split at I;rotate_left;cases I;rename_i aO ao
 suffices key:∀(xs:List T.ai),aE.du (.slice T)=some xs->Nat.ble (xs.length+l.length) bi=true->lf s2 E.fo d T (xs++l) k=some r->o.wp P a w (cf F k r) Q by
  split at I;rename_i ac;exact key aO ao ac I;cases I
 clear I ao aO;intro xs b5 ac I;have ac:xs.length+l.length<=bi:=po ac;obtain ⟨bS,aq,aF⟩:=lU (.slice T) aE f [a.eval x] xs q.fa b5;obtain ⟨e0,am,aM⟩:=b0.slice;obtain ⟨i,hi,ad,bf,bB⟩:=aM.gT;obtain ⟨z,bO,cg,z3⟩:=bB a2;have bC:z.cells.size=T.size:=by
  have:=my T
  grind
 have ax:=bE.cC T e0 aM;have U:=C.anK;rw [<-ad] at U;have bG:∀b∈FT.bq ls,∀j y,s2.box j=some y->b∉(ag j).ae:=by
  intro b g j y O bt;obtain ⟨a7,x',a6,a1⟩:=q.eY.sub j y O b bt;exact C.out b g a7 x' a6 a1
 have bF:∀b∈f.ae,b∉FT.bq ls:=by
  intro b g bc;obtain ⟨a7,x',a6,a1⟩:=q.js b g;exact C.out b bc a7 x' a6 a1
 have bv:∀(X:Value),a.eval x=X->∀v w',(Builtin.append_ #[t,tx] o.type #[X,a.eval y]).run P w=.ok v w'->cf F k r (a.put (some d) v) w'->o.wp P a w (cf F k r) Q:=by
  intro X K v w' al a4;refine c1 (v:=v) (w':=w') ?_ (by rw [aG];exact a4);rw [uq aL g,b2,bb];simp only [List.map_toArray,fJ,nG,K,builtin,Sem.run_bind,al,Result.andThen_ok,Sem.run_pure]
 obtain ⟨aD,cap,D,rfl,K,aU,bX,aV,h4⟩:=id aF;have K:a.eval x=.slice (aD.map (⟨·,0,none⟩)) (xs.length) cap:=(hq K).1;have a9:∀b∈FT.bq D,b∈f.ae:=λb g=>by rw [<-aq];simp [FT.ae,g]
 have ay:=q.er.b7;rw [<-aq] at ay;simp only [FT.ae,cv] at ay;obtain ⟨_,bD,cc⟩:=ay;have ba:(FT.bq (D++ls)).Nodup/\(∀b∈FT.bq (D++ls),∀j y,s2.box j=some y->b∉(ag j).ae)/\(∀b∈FT.bq (D++ls),¬F.R b/\b<w.heap.size/\(b∈F.M\/F.w0.heap.size<=b)):=by
  rw [KE];refine ⟨?_,λb g=>?_,λb g=>?_⟩;rw [cv];exact ⟨bD,C.b7,λb g c av e=>bF b (a9 b g) (e▸av)⟩;rcases bp.1 g with g|g
  exact q.er.out b (a9 b g);exact bG b g;rcases bp.1 g with g|g
  exact q.er.bQ b (a9 b g);exact C.bQ b g
 obtain ⟨aP,aB,a3⟩:=ba;have aj:(xs++l:List T.ai).length=xs.length+l.length:=ea;have aK:(xs++l:List T.ai).length<=eL:=by rw [aj];exact En ac
 have grow:∀(W:List Value) (bj:Option Addr),a.eval x=.slice bj (xs.length) cap->(Builtin.firstCells i.size (xs.length) (.slice bj (xs.length) cap)).run P w.drew=.ok W.toArray w.drew->
  cM w T xs D W->cap<xs.length+l.length->o.wp P a w (cf F k r) Q:=by
  intro W bj bY bu aW aH;have bl:Builtin.nextslicecap (xs.length+l.length) cap*i.bytes<=281474976710656:=by
   have af:=nextslicecap_le aH;have aA:Builtin.nextslicecap (xs.length+l.length) cap<=8589934592:=Nat.le_trans af (by have:bi=4294967296:=rfl;omega);have ce:Builtin.nextslicecap (xs.length+l.length) cap*i.bytes<=8589934592*4096:=Nat.mul_le_mul aA bf;omega
  have LG:((xs.length+l.length:Nat):Int)<=9223372036854775807:=by
   have:bi=4294967296:=rfl;omega
  have al:=run_append_grow_src (P:=P) w t tx o.type e0 i z am hi bO bj (xs.length) cap W bu (a.eval y) l.length ds U aH LG bl;have bm:=grownCap_ge w (xs.length+l.length) cap e0;have ap:aC F ag s2 a w.drew:=q.rel.shift ⟨cV _,rfl,rfl⟩ (λ_ _=>rfl) (λ_ _ _ _ _=>rfl) (λ_ _ _=>rfl);have ah:cM w.drew T (xs++l) (D++ls) (W++ds):=cM.bT (w:=w) (λ_ _=>rfl) (cM.append aW C.ab);have aX:=ah.len.1;have a4:=agy (e0:=e0) (zs:=(Builtin.zeroCells z.cells (grownCap w (xs.length+l.length) cap e0-(xs.length+l.length))).toList)
   (row:=(W++ds).toArray++Builtin.zeroCells z.cells (grownCap w (xs.length+l.length) cap e0-(xs.length+l.length))) (gc:=grownCap w (xs.length+l.length) cap e0)
   ap aa ax I aw ah aP aB a3 (by simp) (by
    rw [Array.size_append,aax,za,aX,aj,bC,<-Nat.add_mul];congr 1;omega) (by rw [aj];exact bm) aK
  simp_all
 cases aD with
 |none=>
  subst h4;have aT:xs.length=0:=Nat.le_zero.1 aU;have ao:xs=([]:List T.ai):=hO.1 aT;subst ao;have br:D=[]:=hO.1 aV;subst br;by_cases b8:l.length=0;have b9:l=[]:=hO.1 b8;subst b9;have bs:ls=[]:=hO.1 C.ab.len.2;subst bs;refine bv (.slice none 0 0) K (.slice none 0 0) w ?_ ?_;have af:=U.len;have aA:=U.cells;rcases U.kind with ⟨bR,aI⟩|aI<;>(simp [Builtin.append_,run_underlying am,run_underlying aI,sizeOf,typeInfo,hi,af];simp_all)
  exact yl (xs:=([]:List T.ai)) q.rel aa I aw ax (f:=.node none 0 []) ⟨none,0,[],rfl,rfl,cV _,bL _,rfl,rfl⟩ ⟨lB,λb g=>(by cases g),λb g=>(by cases g)⟩;exact grow [] none K (run_firstCells_none w.drew i.size 0 0 0) rfl (by omega)
 |some n=>
  obtain ⟨row,e,cs,bo,ar,aS,bU,au,bV,bW,_⟩:=bd.toL aF;obtain ⟨af,aA⟩:=au.len;by_cases a5:xs.length+l.length<=cap;have az:n∈f.ae:=by rw [<-aq];simp [FT.ae]
  obtain ⟨bH,cd,m3⟩:=q.er.bQ n az;have bk:=C.ab.len.1;have bz:0+xs.length*T.size+ds.length<=row.size:=by
   rw [<-aS,bk,ka,<-Nat.add_mul];exact jM _ a5
  obtain ⟨aQ,aR⟩:=agj ar bz;have al:=run_append_room_src (P:=P) w t tx o.type e0 i am hi n 0 xs.length cap (a.eval y) l.length ds U a5 (λj a0=>by rw [ad];exact aQ j a0) (λj a0=>by rw [ad];exact aR j a0);rw [ad,ka] at al;have ak:∀c,c≠n->(w.setCells n (xs.length*T.size) ds).heap[c]?=w.heap[c]?:=λc av=>Np n ds _ w c av
  obtain ⟨aN,bI,bJ⟩:=Nr n ds (xs.length*T.size) w row e (0,0) ar (by omega);have bn:∀b∈FT.bq (D++ls),b≠n:=by
   intro b g e;subst e;rw [KE] at g
   grind
  have b3:=Ns n ds (xs.length*T.size) w;have ap:aC F ag s2 a (w.setCells n (xs.length*T.size) ds):=q.rel.shift ⟨Nat.le_of_eq b3.symm,No _ _ _ _,Nq _ _ _ _⟩ (λb g=>ak b (λe=>bH (e▸g)))
   (λi x an b g=>ak b (λe=>q.er.out n az i x an (e▸g))) (λb g bZ=>ak b (λe=>by
    grind))
  have ah:cM (w.setCells n (xs.length*T.size) ds) T (xs++l) (D++ls) (cs++ds):=cM.bT (w:=w) (λb g=>ak b (bn b g)) (cM.append au C.ab);have bx:aN.toList=(cs++ds)++row.toList.drop (xs.length*T.size+ds.length):=by
   simp_all
  have bg:cap*T.size=aN.size:=by
   have:=dB List.length bJ
   grind
  have bw:=cM.ab (b:=n) ah bI bx bg (by rw [aj];exact a5) aK;have a4:=yl ap aa I aw ax bw (by
   have be:∀b∈(Gh.mk none (.node (some n) cap (D++ls))).ae,b=n\/b∈FT.bq (D++ls):=by
    intro b g;simpa [Gh.ae,FT.ae] using g
   refine ⟨?_,λb g j y O=>?_,λb g=>?_⟩;simp only [Gh.ae,FT.ae,zd,dV,hs,gM,jh]
   grind
   rcases be b g with rfl|g
   exact q.er.out b az j y O;exact aB b g j y O
   grind)
  simp_all;refine grow cs (some ⟨n,0,none⟩) K ?_ au (by omega);have:=run_firstCells_some (P:=P) w.drew i.size (xs.length) ⟨n,0,none⟩ (xs.length) cap cs (by rw [ad];exact af) (λj u am=>by
   rw [mW,ka];refine Xn (w:=w.drew) (b:=n) (row:=row) (e:=e) (fz:=(0,0)) ar ?_
   grind)
  exact this
end
def e1 (T:Ty) (X:T.ai) (p:aM):Option (List Int):=ch T X p λu z=>cG u (.slice (.int .i64)) z
def aqH:∀(T:Ty) (X:T.ai) (p:aM) (xs:List Int),e1 T X p=some xs->
 (∀{Y:Type} (k:T.ai->Option Y),dM T X p (.slice (.int .i64)) xs k=k X)/\
 (∀(b:List Int),∃c,(∀{Y:Type} (k:T.ai->Option Y),dM T X p (.slice (.int .i64)) b k=k c)/\e1 T c p=some b/\
  ∀(zs:List Int) {Y:Type} (k:T.ai->Option Y),dM T c p (.slice (.int .i64)) zs k=dM T X p (.slice (.int .i64)) zs k)/\
 (∀(j:Nat) (y:Int),j<xs.length->∀{Y:Type} (k:T.ai->Option Y),dM T X (p++[.i j]) (.int .i64) y k=dM T X p (.slice (.int .i64)) (xs.set j y) k):=by
 have nil:∀(T:Ty) (X:T.ai) (xs:List Int),cG T (.slice (.int .i64)) X=some xs->
  (∀{Y:Type} (k:T.ai->Option Y),dM T X [] (.slice (.int .i64)) xs k=k X)/\
  (∀(b:List Int),∃c,(∀{Y:Type} (k:T.ai->Option Y),dM T X [] (.slice (.int .i64)) b k=k c)/\e1 T c []=some b/\
   ∀(zs:List Int) {Y:Type} (k:T.ai->Option Y),dM T c [] (.slice (.int .i64)) zs k=dM T X [] (.slice (.int .i64)) zs k)/\
  (∀(j:Nat) (y:Int),j<xs.length->∀{Y:Type} (k:T.ai->Option Y),dM T X ([]++[.i j]) (.int .i64) y k=dM T X [] (.slice (.int .i64)) (xs.set j y) k):=by
  intro T X xs h;obtain ⟨e,h⟩:=eO h;subst e;subst h;have K:∀b:List Int,cG (.slice (.int .i64)) (.slice (.int .i64)) b=some b:=λb=>mY (a:=.slice (.int .i64)) b
  refine ⟨λk=>?_,λb=>⟨b,λk=>?_,K b,λzs Y k=>?_⟩,λj y g Y k=>?_⟩;simp only [dM,mY];simp only [dM,K];simp only [dM];simp only [dV,dM,iG];rw [ba (show j<List.length (α:=(Ty.int IntKind.i64).ai) X from g)];rfl
 intro T
 induction T with
 |cons t r U O=>
  intro X p xs h
  match p with
  |[]=>exact nil _ X xs h
  | .f 0::p=>
   obtain ⟨u,v,z⟩:=U X.1 p xs h;refine ⟨λk=>by simp only [dM,u];rfl,λb=>?_,λj y g Y k=>by simp only [jJ,dM,z j y g]⟩;obtain ⟨c,l,o,q⟩:=v b;exact ⟨(c,X.2),λk=>by simp only [dM,l],o,λzs Y k=>by simp only [dM,q]⟩
  | .f (n+1)::p=>
   obtain ⟨u,v,z⟩:=O X.2 (.f n::p) xs h;refine ⟨λk=>by simp only [dM,u];rfl,λb=>?_,λj y g Y k=>?_⟩;obtain ⟨c,l,o,q⟩:=v b;exact ⟨(X.1,c),λk=>by simp only [dM,l],o,λzs Y k=>by simp only [dM,q]⟩;have:=z j y g (Y:=Y);simp only [jJ] at this|-;simp only [dM,this]
  | .i n::p=>simp [e1,ch] at h
 |slice t J=>
  intro X p xs h
  match p with
  |[]=>exact nil _ X xs h
  | .f n::p=>cases n<;>simp [e1,ch] at h
  | .i n::p=>
   simp only [e1,ch] at h;split at h;rotate_left;cases h;rename_i x d;obtain ⟨u,v,z⟩:=J x p xs h;have I:=(b6.1 d);refine ⟨λk=>?_,λb=>?_,λj y g Y k=>?_⟩;simp only [dM,d,u];have:List.set (α:=t.ai) X n x=X:=by
    obtain ⟨a,rfl⟩:=I;exact List.set_getElem_self a
   rw [this];obtain ⟨c,l,o,q⟩:=v b;have D:iG (α:=t.ai) (List.set (α:=t.ai) X n c) n=some c:=by
    unfold iG;rw [q0 I.1]
   refine ⟨List.set (α:=t.ai) X n c,λk=>by simp only [dM,d,l],?_,λzs Y k=>?_⟩;simp only [e1,ch,D];exact o;simp only [dM,d,D,q];congr 1;funext a;exact dB k (List.set_set ..);simp only [jJ,dM,d,z j y g]
 |arr m t J=>
  intro X p xs h
  match p with
  |[]=>exact nil _ X xs h
  | .f n::p=>cases n<;>simp [e1,ch] at h
  | .i n::p=>
   simp only [e1,ch] at h;split at h;cases h;rename_i C;split at h;rotate_left;cases h;rename_i x d;obtain ⟨u,v,z⟩:=J x p xs h;have I:=(b6.1 d);refine ⟨λk=>?_,λb=>?_,λj y g Y k=>?_⟩;simp only [dM,d,u,au C];have:List.set (α:=t.ai) X n x=X:=by
    obtain ⟨a,rfl⟩:=I;exact List.set_getElem_self a
   rw [this];obtain ⟨c,l,o,q⟩:=v b;have D:iG (α:=t.ai) (List.set (α:=t.ai) X n c) n=some c:=by
    unfold iG;rw [q0 I.1]
   refine ⟨List.set (α:=t.ai) X n c,λk=>by simp only [dM,d,l,au C],?_,λzs Y k=>?_⟩;simp only [e1,ch,D,au C];exact o;simp only [dM,d,D,q,au C];congr 1;funext a;exact dB k (List.set_set ..);simp only [jJ,dM,d,z j y g,au C]
 |_=>
  intro X p xs h
  match p with
  |[]=>exact nil _ X xs h
  | .f n::p=>cases n<;>simp [e1,ch] at h
  | .i n::p=>simp [e1,ch] at h
theorem aru (xs:List Int) (lo:Nat):r5 xs lo []=xs:=by simp [r5]
theorem arZ (xs:List Int) (lo:Nat) (y:Int) (b:List Int) (h:lo<xs.length):r5 (xs.set lo y) (lo+1) b=r5 xs lo (y::b):=by
 unfold r5;have c:(xs.set lo y).take (lo+1)=xs.take lo++[y]:=by
  rw [iQ,q0 h,List.take_set_of_le (cV _)];rfl
 have d:(xs.set lo y).drop (lo+1+b.length)=xs.drop (lo+1+b.length):=List.drop_set_of_lt (by omega);rw [c,d,show lo+1+b.length=lo+(y::b).length by simp;omega];simp
section
variable {Z:Type} {P:Program} {E:an} {F:Fr} {G:Nat->Gh} {s:St} {a:Act} {w:World} {Q:Exit->Act->World->Prop}
theorem asf {α:Type} (l:List (Nat×α)) (n:Nat) (v u:α):bD (bD l n v) n u=bD l n u:=by
 induction l with
 |nil=>rfl
 |cons x l b=>
  obtain ⟨k,y⟩:=x;by_cases e:Nat.beq k n=true;simp [bD,e];simp [bD,e,b]
theorem ar3 (b:Nat) (x y:bl):(s.b4 b x).b4 b y=s.b4 b y:=by
 unfold St.b4;simp only [asf]
theorem arx {b:Nat} {x:bl} (h:s.box b=some x):s.b4 b x=s:=by
 unfold St.b4;rw [aoD h]
def ase (h:aC F G s a w) {b:Nat} {p:aM} {bx:bl} (l:s.box b=some bx) {T:Ty} {X d:T.ai} (aa:bx.c=.ab T X) {xs:List Int} (af:e1 T X p=some xs) {g cap:Nat} {e:List FT} {C:Option (Nat×Nat)}
 (D:ax s.box G b p=some (.slice (.int .i64),.node (some g) cap e,C)) {j:Nat} (ag:j<xs.length) (hk:j<e.length) (y:Int)
 (W:∀{Y:Type} (k:T.ai->Option Y),dM T X p (.slice (.int .i64)) (xs.set j y) k=k d):
 ∃x,aC F x (s.b4 b {bx with c:=.ab T d}) a (w.setCells g j [.int .i64 y])/\∃o,o.length=e.length/\∃J,ax (s.b4 b {bx with c:=.ab T d}).box x b p=some (.slice (.int .i64),.node (some g) cap o,J):=by
 have ah:e[j]?=some (e[j]'hk):=ba hk;have I:ax s.box G b (p++[.i j])=some (.int .i64,e[j]'hk,some (g,j)):=by
  rw [s9 D];simp only [ak,ah,Ty.size,Nat.mul_one]
 have aj:∀{Y:Type} (k':TV->Option Y),bP bx.c (p++[.i j]) (.ad (.int .i64) y) k'=k' (.ab T d):=by
  intro Y k';have:=(aqH T X p xs af).2.2 j y ag (λz=>k' (.ab T z));rw [aa];cases p<;>simp only [dV,jJ,bP,Ty.aW,cu] at this|- <;>rw [this,W]
 have r:=ag6 (kl:=λv=>v) (f:=.leaf) l I rfl rfl (Eo l (.ab T d));refine ⟨_,h.ZS l I (f:=.leaf) (cs:=[.int .i64 y]) (c:=.ad (.int .i64) y) ⟨rfl,rfl,⟨rfl,trivial,rfl⟩⟩ (hv.nil rfl) (λv=>v) (s.b4 b {bx with c:=.ab T d}) (.ab T d) (λn=>rfl) (λ_ _=>rfl) rfl (Eo l _)
  (λA' w' q u v y al=>by subst q;exact VR.mono r u al)
  (λA' w' q u c t ft cs ac ae=>by subst q;exact a1.mono r u c t ft cs ac ae) aj,?_⟩
 obtain ⟨am,K,O⟩:=r b p _ _ _ D;obtain ⟨o,rfl,U⟩:=m7 O;exact ⟨o,U,C,K⟩
def asi {b:Nat} {p:aM} {T:Ty} {bx:bl} {o cap:Nat}:∀(d:List Int) {s:St} {G:Nat->Gh} {w:World} {X:T.ai} {xs:List Int} {lo:Nat} {g:List FT} {l:Option (Nat×Nat)},aC F G s a w->s.box b=some {bx with c:=.ab T X}->e1 T X p=some xs->
 ax s.box G b p=some (.slice (.int .i64),.node (some o) cap g,l)->g.length=xs.length->lo+d.length<=xs.length->
 ∃n v,(∀{Y:Type} (k:T.ai->Option Y),dM T X p (.slice (.int .i64)) (r5 xs lo d) k=k n)/\aC F v (s.b4 b {bx with c:=.ab T n}) a (w.setCells o lo (d.map (Value.int .i64))):=by
 intro d
 induction d with
 |nil=>
  intro s G w X xs lo g l h e f r U u;refine ⟨X,G,λk=>?_,?_⟩;rw [aru];exact (aqH T X p xs f).1 k;rw [arx e];exact h
 |cons y d W=>
  intro s G w X xs lo g l h e f r U u;rw [jg] at u;obtain ⟨aa,C,D,I⟩:=(aqH T X p xs f).2.1 (xs.set lo y);obtain ⟨G1,J,ad,ae,ac,O⟩:=ase h e rfl f r (j:=lo) (by omega) (by omega) y C;obtain ⟨z,x,K,q⟩:=W (lo:=lo+1) J (by rw [Eo e];simp;rfl) D O (by simp;omega) (by simp;omega);refine ⟨z,x,λk=>?_,?_⟩;rw [<-arZ xs lo y d (by omega),<-I,K];rw [ar3] at q;exact q
theorem arH (h:aC F G s a w) {b:Nat} {p:aM} {g:Option Nat} {cap:Nat} {j:List FT} {ae:Option (Nat×Nat)} {t:Ty} (J:ax s.box G b p=some (.slice t,.node g cap j,ae)) {lo:Nat} {f:List Int->List Int} (v:∀xs,xs.length=j.length->lo+(f xs).length<=j.length)
 {k:St->List Int->Option Z} {r:Z} (hk:aqJ s b p lo f k=some r):t=.int .i64/\∃xs C l,xs.length=j.length/\k C (f xs)=some r/\((g=none/\j.length=0/\aC F l C a w)\/∃n,g=some n/\aC F l C a (w.setCells n lo ((f xs).map (Value.int .i64)))/\∃row e,w.heap[n]?=some (.cells row e (0,0))/\j.length<=row.size):=by
 unfold aqJ b5 at hk;split at hk;rotate_left;cases hk;rename_i bx O;dsimp only at hk;split at hk;rotate_left;cases hk;rename_i T X K;obtain ⟨u,z,d,W⟩:=tB T X p _ r hk;split at d;rotate_left;cases d;rename_i xs ad;have aa:e1 T X p=some xs:=(W (λu z=>cG u (.slice (.int .i64)) z)).trans ad;have ak:c7 bx.c p (λc=>some c)=some (.ab u z):=by
  rw [K];have:=W (λu y=>some (TV.ab u y));cases p with
  |nil=>simpa [c7,ch] using this
  |cons q p=>simpa [c7] using this
 obtain ⟨c',ap,af,ag,_⟩:=h.Gk O ak J;cases af;obtain ⟨rfl,ah⟩:=ag;obtain ⟨e,x⟩:=eO ad;cases e;have x:z=xs:=x;subst x;obtain ⟨an,ao,aq,I,_,h6,h4,h5,o⟩:=ah;simp only [FT.node.injEq] at I;obtain ⟨rfl,rfl,rfl⟩:=I;have U:s.box b=some {bx with c:=.ab T X}:=by rw [O,<-K]
 have v:=v z h5.symm;refine ⟨rfl,z,?_⟩;cases g with
 |none=>
  have o:cap=0:=o;have ac:f z=[]:=List.eq_nil_of_length_eq_zero (by omega);rw [ac] at d;have:=(aqH T X p z aa).1 (λD=>k (s.b4 b {bx with c:=.ab T D}) []);rw [show r5 z lo []=z from aru z lo,this] at d;exact ⟨_,G,h5.symm,by rw [ac];exact d,.inl ⟨rfl,by omega,by rw [arx U];exact h⟩⟩
 |some g=>
  obtain ⟨⟨row,e,al,am⟩,_⟩:=o;obtain ⟨D,l,aj,ai⟩:=asi (lo:=lo) (f z) h U aa J h5 (Nat.le_trans v (Nat.le_of_eq h5));rw [aj] at d;refine ⟨_,l,h5.symm,d,.inr ⟨g,rfl,ai,row,e,al,?_⟩⟩;simp only [Ty.size,Nat.mul_one] at am;omega
def aqG {b:Nat} {row:Array Value} {e:TypeId} (h:w.heap[b]?=some (.cells row e (0,0))) {j:Nat} (c:j<row.size):(w.cell? ⟨b,j,none⟩).isSome=true/\w.frozen? ⟨b,j,none⟩=false:=by
 unfold World.cell? World.frozen?;simp [h,c]
def arI (h:aC F G s a w) {v:TV} {x:Value} (J:VR (ax s.box G) w F.R v x) {g:Nat->List Int} (I:∀n,(g n).length<=n) {k:St->List Int->Option Z} {r:Z} (hk:aqK s v g k=some r):
 ∃n q cap f j,k f (g n)=some r/\x=.slice q n cap/\((n=0/\aC F j f a w)\/∃b o,q=some ⟨b,o,none⟩/\aC F j f a (w.setCells b o ((g n).map (Value.int .i64)))/\∃row e,w.heap[b]?=some (.cells row e (0,0))/\o+n<=row.size):=by
 unfold aqK at hk;split at hk;rename_i b p;obtain ⟨t,W,cap,U,q,D,l⟩:=J.b3 (by simp) (by simp) rfl;simp only [gh,fK] at l;obtain ⟨rfl,xs,f,j,K,y,d⟩:=arH h D (λxs O=>by rw [O];have:=I U.length;omega) hk;rw [K] at y d;refine ⟨_,_,cap,f,j,y,l,?_⟩;rcases d with ⟨rfl,u,d⟩|⟨z,rfl,d,row,e,C,ab⟩
 exact .inl ⟨u,d⟩;exact .inr ⟨z,0,rfl,d,row,e,C,by omega⟩;rename_i b p lo m;obtain ⟨t,W,cap,U,q,D,ae,a',c,l,ad,ac⟩:=J.b3 (by simp) (by simp) rfl;simp only [gh,fK] at l;obtain ⟨rfl,xs,f,j,K,y,d⟩:=arH h D (λxs O=>by have:=I m;omega) hk;refine ⟨m,a',c,f,j,y,l,?_⟩;by_cases u:m=0;have:g m=[]:=List.eq_nil_of_length_eq_zero (by have:=I m;omega);rw [this] at d;rcases d with ⟨_,_,d⟩|⟨z,_,d,_⟩
 exact .inl ⟨u,d⟩;exact .inl ⟨u,d⟩;obtain ⟨X,rfl,rfl⟩:=ac (by omega);rcases d with ⟨e,_⟩|⟨z,e,d,row,aa,C,ab⟩
 cases e;cases e;exact .inr ⟨X,lo,by simp [Ty.size],d,row,aa,C,by omega⟩;have:=J.b3 (by simp) (by simp) rfl;have:[x]=[Value.slice none 0 0]:=this;cases this;exact ⟨0,none,0,s,G,hk,rfl,.inl ⟨rfl,h⟩⟩;cases hk
def asj {t:TypeId} (c:bE P (.int .i64) t) (w:World):(zeroValue t).run P w=.ok (.int .i64 0) w:=by
 obtain ⟨i,hi,_,_,d⟩:=c.gT;obtain ⟨z,e,b,z3⟩:=d rfl;have:z=.int .i64 0:=by
  cases z<;>first|(simp [Value.cells,eS] at b;done)|(simp [Value.cells,eS] at b;simp [b];done)|(cases z3;done)
 simp [zeroValue,typeInfo,hi,e,this]
def arV (h:aC F G s a w) (X:dk P E F) {o:Oper} {c:Call} (J:o.op=.call c) (D:c.callee=.builtin .clear) {k:St->Option Z} {r:Z} (hk:a8 E o s k=some r):
 o.wp P a w (cf F k r) Q:=by
 unfold a8 at hk;rw [J] at hk;simp only [D] at hk;unfold jT at hk;split at hk;contradiction;contradiction;contradiction;contradiction;contradiction;rotate_left;cases hk;rename_i t ts v _ ai f;split at hk;rotate_left;cases hk;rename_i I;simp only [bt,nO,Option.isNone_iff_eq_none] at I;obtain ⟨aa,ab⟩:=I;have ah:=X.ty t _ aa;obtain ⟨e0,u,ac⟩:=ah.slice;obtain ⟨x,g,aj⟩:∃x,c.args= #[x]/\s.ev x=v:=by
  match al:c.args.toList,f with
  |[x],f=>grind
  |[],f=>simp at f
  |_::_::_,f=>simp at f
 have K:=cw h x;rw [aj] at K;have q:c.argTypes[0]?=some t:=by rw [<-qX,ai];rfl
 obtain ⟨n,U,cap,O,z,ae,y,d⟩:=arI h K (λn=>by simp) hk;have af:a.put o.dst (.tuple #[])=a:=by rw [ab];rfl
 have l:∀w',(Builtin.clear_ c.argTypes o.type (c.args.map a.eval)).run P w=.ok (.tuple #[]) w'->aC F z O a w'->o.wp P a w (cf F k r) Q:=λw' ag d=>by
  refine c1 (v:=.tuple #[]) (w':=w') ?_ (by rw [af];exact ⟨z,O,d,ae⟩);rw [uq J D];simp [builtin,ag]
 rcases d with ⟨rfl,d⟩|⟨b,of,rfl,d,row,e,C,ak⟩
 refine l w ?_ d;rw [g];cases U<;>simp [Builtin.clear_,q,y,run_underlying u]
 by_cases W:n=0;subst W;refine l w ?_ d;rw [g];simp [Builtin.clear_,q,y,run_underlying u];refine l _ ?_ d;have:=Lib.run_clear_slice (P:=P) w t e0 o.type (.int .i64 0) u (asj ac) rfl rfl b of n cap (by omega) (λj ad=>(aqG C (by omega)).1) (λj ad=>(aqG C (by omega)).2);rw [List.map_replicate,<-this,g];simp [Builtin.clear_,q,y]
def arW (h:aC F G s a w) (ab:dk P E F) {o:Oper} {c:Call} (ae:o.op=.call c) (ac:c.callee=.builtin .copy) (au:∀d,o.dst=some d->d<E.nt) {k:St->Option Z} {r:Z} (hk:a8 E o s k=some r):
 o.wp P a w (cf F k r) Q:=by
 unfold a8 at hk;rw [ae] at hk;simp only [ac] at hk;unfold jT at hk;split at hk;contradiction;contradiction;contradiction;contradiction;rotate_left;contradiction;cases hk;rename_i t tx aF aG _ aE a5;split at hk;rotate_left;cases hk;rename_i K;have K:E.iN t=some (.slice (.int .i64)):=e7 K;have a2:=ab.ty t _ K;obtain ⟨e0,ah,av⟩:=a2.slice;obtain ⟨i,hi,a1,_⟩:=av.gT;have ag:(P.info? e0).map (·.size)=some 1:=by rw [hi];exact dB some a1
 obtain ⟨x,y,ao,a6,a9⟩:=Sv a5;have ai:=cw h x;have ak:=cw h y;rw [a6] at ai;rw [a9] at ak;have a3:c.argTypes= #[t,tx]:=by grind
 obtain ⟨q,aw,a0⟩:=NC h ak hk;have aH:List Int:=q;obtain ⟨n,am,cap,al,W,ad,aj,f⟩:=arI h ai (λn=>List.length_take_le n _) aw;obtain ⟨an,X,O,aB,ar⟩:=a0;simp only [gh,fK] at O;obtain ⟨zs,D⟩:∃zs:List Int,zs=List.take n (show List Int from q):=⟨_,rfl⟩
 have I:zs.length=Nat.min (List.length (α:=Int) q) n:=by rw [D,List.length_take,Nat.min_comm]
 rw [<-D] at ad f;have af:∀w',(Builtin.copy_ #[t,tx] o.type #[a.eval x,a.eval y]).run P w=.ok (goInt zs.length) w'->aC F W al a w'->o.wp P a w (cf F k r) Q:=λw' ay f=>by
  refine c1 (v:=goInt zs.length) (w':=w') ?_ (dS f ab (gJ _ _) au ad);rw [uq ae ac,a3,ao];simp [builtin,ay]
 have none:Nat.min (List.length (α:=Int) q) n=0->aC F W al a w->o.wp P a w (cf F k r) Q:=λC f=>by
  refine af w ?_ f;rw [aj,O,I,C];exact run_copy_none (P:=P) w t tx o.type e0 am an n cap _ X ah ag C
 rcases f with ⟨rfl,f⟩|⟨b,of,rfl,f,row,e,aa,aA⟩
 exact none (Nat.min_zero _) f;by_cases C:zs=[];subst C;exact none (by rw [<-I];rfl) f;have ax:(show List Int from q)≠[]:=by
  intro e;rw [e] at D;exact C (by rw [D];simp)
 obtain ⟨J,U,rfl,_,aq⟩:=ar ax;refine af _ ?_ f;have aD:zs.length<=n:=by rw [I];exact Nat.min_le_right _ _
 have:=run_copy_cells (P:=P) w t tx o.type e0 b of n cap ⟨J,U,.none⟩ (List.length (α:=Int) q) X (zs.map (Value.int .i64)) ah ag (by rw [dU];exact I) (λj v g=>?_)
  (λj g=>(aqG aa (by rw [dU] at g;omega)).1) (λj g=>(aqG aa (by rw [dU] at g;omega)).2) (λv a4=>by
   obtain ⟨z,_,rfl⟩:=cQ.1 a4;rfl)
 rw [dU] at this;rw [aj,O];exact this;rw [uR] at g;cases l:zs[j]? with
 |none=>rw [l] at g;cases g
 |some z=>
  rw [l] at g;cases g;have a7:(show List Int from q)[j]?=some z:=by
   rw [D] at l;rw [List.getElem?_take] at l;split at l;exact l;cases l
  obtain ⟨cs,ap,az⟩:=aq j z a7;obtain ⟨_,_,rfl⟩:=az;have:=aeu ap (j:=0) (u:=.int .i64 z) rfl;rw [show (⟨J,U,.none⟩:Addr).add j=⟨J,U+j,.none⟩ from by unfold Addr.add;split<;>simp_all];simpa [Ty.size] using this
end
def A0:b0:=λ_ _=>none
def zg (w:World) (R:Nat->Prop):PM->D->Value->Prop
 | .ro t,d,v=>d.t=t/\VR A0 w R (.ad d.t d.x) v
 | .bw t,d,v=>d.t=t/\VR A0 w R (.bw d.t d.x) v
 |_,_,_=>False
def u0 (w:World) (R:Nat->Prop):List PM->List D->List Value->Prop
 |[],[],[]=>True
 |m::b,d::ds,v::vs=>zg w R m d v/\u0 w R b ds vs
 |_,_,_=>False
def sG (w:World) (t:Ty) (x:t.ai) (g:Gh) (v:Value):Prop:=
 ∃b row e,g.bj=some b/\v=.pointer (some ⟨b,0,none⟩)/\w.heap[b]?=some (.cells row e (0,0))/\row.size=t.size/\bd w t x g.ft row.toList
def zf (w:World) (R:Nat->Prop):PM->List D->Value->Gh->Prop
 | .ptr t,[d],v,g=>d.t=t/\sG w d.t d.x g v
 | .mut t,[d],v,g=>d.t=t/\(∃u,t=.slice u)/\g.bj=none/\bd w d.t d.x g.ft [v]
 | .ab t,[d],v,g=>d.t=t/\(∃u,t=.slice u)/\g.bj=none/\bd w d.t d.x g.ft [v]
 | .bY f b,ds,v,g=>g.ae=[]/\∃vs,v=.func (.func f) #[] (List.toArray vs)/\u0 w R b ds vs
 |m,[d],v,g=>g.ae=[]/\zg w R m d v
 |_,_,_,_=>False
def lE (w:World) (R:Nat->Prop):List PM->List D->List Value->List Gh->Prop
 |[],[],[],[]=>True
 |m::e,ds,v::vs,g::d=>∃b c,ds=b++c/\zf w R m b v g/\lE w R e c vs d
 |_,_,_,_=>False
def bW (b:List Gh):List Nat:=(b.map Gh.ae).flatten
def Qm (w:World) (d:D) (v:Value) (ft:FT):Prop:=∃cs,bd w d.t d.x ft cs/\(if d.t.agg then v=.agg cs.toArray else cs=[v])
def s0 (w:World):List D->List Value->List FT->Prop
 |[],[],[]=>True
 |d::ds,v::vs,f::b=>Qm w d v f/\s0 w ds vs b
 |_,_,_=>False
def JR (w:World) (c:List D) (v:Value) (b:List FT):Prop:=
 match c with
 |[]=>v=.tuple #[]/\b=[]
 |[d]=>∃f,b=[f]/\Qm w d v f
 |c=>∃vs,v=.tuple (List.toArray vs)/\s0 w c vs b
def kU (w:World):List PM->List D->List Value->List Gh->List Gh->Prop
 |[],[],[],[],[]=>True
 |m::e,ds,v::vs,g::b,g'::c=>match m,ds with
  | .ptr t,d::ds=>(d.t=t/\g'.bj=g.bj/\sG w d.t d.x g' v)/\kU w e ds vs b c
  | .mut t,d::ds=>(d.t=t/\g'.bj=none/\bd w d.t d.x g'.ft [v])/\kU w e ds vs b c
  | .ptr _,[]=>False
  | .mut _,[]=>False
  |_,ds=>g'.ae=[]/\kU w e ds vs b c
 |_,_,_,_,_=>False
structure xh (w:World) (R:Nat->Prop) (c:aA) (ds:List D) (vs:List Value) (d:List Gh):Prop where
 args:lE w R c.params ds vs d
 b7:(bW d).Nodup
 bQ:∀b∈bW d,¬R b/\b<w.heap.size
 R:∀b,R b->b<w.heap.size
structure u1 (w:World) (c:aA) (vs:List Value) (e:List Gh) (g h:List D) (v:Value) (w':World) (d:List FT) (f:List Gh):Prop where
 dd:JR w' g v d
 types:g.map D.t=c.results
 ahT:kU w' c.params h vs e f
 b7:(FT.bq d++bW f).Nodup
 bQ:∀b∈FT.bq d++bW f,b<w'.heap.size/\(b∈bW e\/w.heap.size<=b)
 fT:fM w w'
 bT:∀b,b<w.heap.size->b∉bW e->w'.heap[b]?=w.heap[b]?
theorem u1.size {w:World} {c:aA} {vs:List Value} {d:List Gh} {g f:List D} {v:Value} {w':World} {b:List FT} {e:List Gh} (h:u1 w c vs d g f v w' b e):w.heap.size<=w'.heap.size:=h.fT.size
def s3 (P:Program) (f:Nat) (vs:Array Value) (w:World) (Q:Ending->World->Prop):Prop:=
 ((∀args w,(callFunc f args).run P w=.ok (.enter f args) w)/\Calls P f vs w Q)\/(∃v w',(callFunc f vs).run P w=.ok (.value v) w'/\Q (.returned v) w')
theorem s3.mono {P:Program} {f:Nat} {vs:Array Value} {w:World} {Q d:Ending->World->Prop} (h:s3 P f vs w Q) (g:∀e w',Q e w'->d e w'):s3 P f vs w d:=by
 rcases h with ⟨b,c⟩|⟨v,w',b,c⟩
 exact .inl ⟨b,c.mono g⟩;exact .inr ⟨v,w',b,g _ _ c⟩
structure aN (P:Program) (f:Nat) (c:aA):Prop where
 L2:c.bu
 cC:∀t∈c.results,t.cC
 Up:∀(w:World) (R:Nat->Prop) (ds:List D) (vs:List Value) (b:List Gh) (h d:List D),xh w R c ds vs b->c.g ds=some (h,d)->
  s3 P f vs.toArray w λe w'=>match e with
   | .returned v=>∃j l,u1 w c vs b h d v w' j l
   |_=>False
def dq (A:b0) (w:World) (R:Nat->Prop):List TV->List Value->Prop
 |[],[]=>True
 |v::vs,x::xs=>VR A w R v x/\dq A w R vs xs
 |_,_=>False
def dO (P:Program) (f:Nat) (I:dx):Prop:=∀(Z:Type) (F:Fr) (G:Nat->Gh) (s:St) (a:Act) (w:World) (vs:List TV) (xs:List Value) (k:St->TV->Option Z) (r:Z),
 aC F G s a w->dq (ax s.box G) w F.R vs xs->I.run s vs k=some r->s3 P f xs.toArray w λe w'=>match e with
  | .returned v=>∃c b tv,aC F c b a w'/\VR (ax b.box c) w' F.R tv v/\k b tv=some r
  |_=>False
structure e8 (P:Program) (E:an):Prop where
 fn:∀f ids c,E.fn f ids=some c->aN P f c
 inl:∀f ids I,E.inl f ids=some I->dO P f I
 hW:∀f ids I,E.inl f ids=some I->I.hW=true->I.ru
section
variable {Z:Type} {P:Program} {E:an} {F:Fr} {G:Nat->Gh} {s s2:St} {a:Act} {w w2:World} {Q:Exit->Act->World->Prop} {A A':b0} {R:Nat->Prop} {p:Nat->Bool}
theorem ap6 (p:Nat->Bool) (v:TV):(v.bX p).agg=v.agg:=by
 cases v<;>simp only [TV.bX]<;>(try split)<;>rfl
theorem bH.bX (l:∀c q,p c=true->A' c q=A c q):∀(v:TV) (cs:List Value),bH A w R v cs->bH A' w R (v.bX p) cs
 | .ad _ _,_,h=>h
 | .nil,_,h=>h
 | .unit,_,h=>h
 | .un,_,h=>h
 | .tup _,_,h=>h.elim
 | .ab _ _,_,h=>h.elim
 | .cons a r,cs,h=>by
  obtain ⟨x,y,rfl,b,j⟩:=h;exact ⟨x,y,rfl,bH.bX l a x b,bH.bX l r y j⟩
 | .ref c q,cs,h=>by
  simp only [TV.bX];split;rename_i o;obtain ⟨t,ft,u,off,b,rfl⟩:=h;exact ⟨t,ft,u,off,by simp_all,rfl⟩;obtain ⟨t,ft,u,off,b,rfl⟩:=h;exact ⟨_,rfl⟩
 | .sl c q,cs,h=>by
  simp only [TV.bX];split;rename_i o;obtain ⟨t,e,cap,g,d,b,rfl⟩:=h;exact ⟨t,e,cap,g,d,by simp_all,rfl⟩;obtain ⟨t,e,cap,g,d,b,rfl⟩:=h;exact ⟨_,rfl⟩
 | .slw c q lo n,cs,h=>by
  simp only [TV.bX];split;rename_i o;obtain ⟨t,e,cap,g,d,b,j⟩:=h;exact ⟨t,e,cap,g,d,by simp_all,j⟩;obtain ⟨t,e,cap,g,d,b,_,a',c',rfl,_⟩:=h;exact ⟨_,rfl⟩
 | .bw _ _,_,h=>h
 | .bY f z,cs,h=>by
  obtain ⟨vs,b,rfl⟩:=h;exact ⟨vs,bH.bX l z vs b,rfl⟩
 | .mp c,cs,h=>by
  simp only [TV.bX];split;rename_i o;obtain ⟨t,e,cap,g,d,b,rfl⟩:=h;exact ⟨t,e,cap,g,d,by simp_all,rfl⟩;obtain ⟨t,e,cap,g,d,b,rfl⟩:=h;exact ⟨_,rfl⟩
theorem eI.bX (e:∀c q,p c=true->A' c q=A c q) {v:TV} {x:Value} (h:eI A w R v x):eI A' w R (v.bX p) x:=by
 rcases h with rfl|⟨cs,b,d⟩
 exact .inl rfl;exact .inr ⟨cs,bH.bX e v cs b,by rw [ap6];exact d⟩
theorem fh.bX (b:∀c q,p c=true->A' c q=A c q):∀(v:TV) (xs:List Value),fh A w R v xs->fh A' w R (v.bX p) xs:=by
 intro v
 induction v with
 |cons a r _ d=>
  intro xs h;cases xs with
  |nil=>exact h.elim
  |cons x xs=>exact ⟨eI.bX b h.1,d xs h.2⟩
 |unit=>
  intro xs h;cases xs with
  |nil=>trivial
  |cons _ _=>exact h.elim
 |_=>intro xs h;exact h.elim
theorem VR.bX (b:∀c q,p c=true->A' c q=A c q) {v:TV} {x:Value} (h:VR A w R v x):VR A' w R (v.bX p) x:=by
 by_cases f:∃a,v=.tup a
 obtain ⟨a,rfl⟩:=f;obtain ⟨xs,g,j⟩:=h;exact ⟨xs,fh.bX b a xs g,j⟩;have d:∀a,v≠ .tup a:=λa e=>f ⟨a,e⟩
 rw [mV d] at h;have l:∀a,v.bX p≠ .tup a:=by
  intro a e;cases v<;>simp only [TV.bX] at e<;>first|exact d _ rfl|(split at e<;>cases e)|cases e
 rw [mV l];exact eI.bX b h
theorem a1.bX (l:∀c q,p c=true->A' c q=A c q):∀(c:TV) (t:Ty) (ft:FT) (cs:List Value),a1 A w R c t ft cs->a1 A' w R (c.bX p) t ft cs:=by
 have dv:∀(v:TV) (t:Ty) (ft:FT) (cs:List Value),t.size=1->t.agg=false->ft.ae=[]->bH A w R v cs->(v.bX p=.un\/∀(t:Ty) (ft:FT) (cs:List Value),(t.size=1/\t.agg=false/\ft.ae=[]/\bH A' w R (v.bX p) cs)->a1 A' w R (v.bX p) t ft cs)->cs.length=1->
  a1 A' w R (v.bX p) t ft cs:=by
  intro v t ft cs e g j h4 h5 h6;rcases h5 with h5|h5
  rw [h5];exact ⟨j,e,g,h6⟩;exact h5 t ft cs ⟨e,g,j,bH.bX l v cs h4⟩
 intro c
 induction c with
 |ab u x=>intro t ft cs h;exact h
 |ad u x=>intro t ft cs h;exact h
 |cons a d D I=>
  intro t ft cs h;cases t with
  |cons t r=>
   obtain ⟨z,o,y,rfl,C,e,g⟩:=h;exact ⟨z,o,y,rfl,C,D _ _ _ e,I _ _ _ g⟩
  |_=>exact h.elim
 |unit=>intro t ft cs h;exact h
 |un=>intro t ft cs h;exact h
 |tup c _=>
  intro t ft cs h;cases t<;>try exact h.elim
  rcases fN.out h with ⟨xs,K,rfl,e⟩|⟨xs,rfl,e⟩|⟨xs,rfl,e⟩<;>exact ⟨rfl,e⟩
 |nil=>intro t ft cs h;exact h
 |bw u x=>intro t ft cs h;exact h
 |ref b q=>
  intro t ft cs h;obtain ⟨e,g,j,h4⟩:=h;refine dv _ t ft cs e g j h4 ?_ (by have:=bH.len _ _ h4;exact this);simp only [TV.bX];split;exact .inr λ_ _ _ h=>h
  exact .inl rfl
 |sl b q=>
  intro t ft cs h;obtain ⟨e,g,j,h4⟩:=h;refine dv _ t ft cs e g j h4 ?_ (by have:=bH.len _ _ h4;exact this);simp only [TV.bX];split;exact .inr λ_ _ _ h=>h
  exact .inl rfl
 |slw b q lo n=>
  intro t ft cs h;obtain ⟨e,g,j,h4⟩:=h;refine dv _ t ft cs e g j h4 ?_ (by have:=bH.len _ _ h4;exact this);simp only [TV.bX];split;exact .inr λ_ _ _ h=>h
  exact .inl rfl
 |bY f J _=>
  intro t ft cs h;obtain ⟨e,g,j,h4⟩:=h;exact ⟨e,g,j,bH.bX l _ cs h4⟩
 |mp b=>
  intro t ft cs h;obtain ⟨e,g,j,h4⟩:=h;refine dv _ t ft cs e g j h4 ?_ (by have:=bH.len _ _ h4;exact this);simp only [TV.bX];split;exact .inr λ_ _ _ h=>h
  exact .inl rfl
def aC.UW (h:aC F G s a w) (p:Nat->Bool) (C:∀j,s2.box j=if p j then (s.box j).map (bl.bX p) else none) (I:∀n,s2.get n=(s.get n).bX p\/s2.get n=.un) (K:∀i n,s2.fZ i n=(s.fZ i n).bX p) (J:s2.sv.length=s.sv.length):aC F G s2 a w:=by
 have g:∀c q,p c=true->ax s2.box G c q=ax s.box G c q:=by
  intro c q D;unfold ax;rw [C,ay D];cases s.box c<;>rfl
 have cm:∀{j y},s2.box j=some y->∃o,s.box j=some o/\y=o.bX p:=by
  simp_all
 refine ⟨λi x b=>?_,λi x b=>?_,λi j x y b d=>?_,λi x b=>?_,λi x b=>?_,h.R,λn=>?_,h.bT,h.fT,h.defers,h.nt,λi x b=>?_,λi n=>(by rw [K];exact VR.bX g (h.sv i n)),J.trans h.jF⟩;obtain ⟨y,d,rfl⟩:=cm b;have f:=h.box i y d;unfold dw at f|-;by_cases l:y.cn=true;rw [ay l] at f;rw [ay (show (y.bX p).cn=true from l)];obtain ⟨r,u,cs,v⟩:=f;exact ⟨r,u,cs,a1.bX g _ _ _ _ v⟩;rw [au l] at f;rw [au (show ¬(y.bX p).cn=true from l)];obtain ⟨z,row,e,r,u,v,h4⟩:=f;exact ⟨z,row,e,r,u,v,a1.bX g _ _ _ _ h4⟩;obtain ⟨y,d,rfl⟩:=cm b;exact h.cC i y d;obtain ⟨x',O,rfl⟩:=cm b;obtain ⟨o,U,rfl⟩:=cm d;exact h.c6 i j x' o O U;obtain ⟨y,d,rfl⟩:=cm b;exact h.b7 i y d;obtain ⟨y,d,rfl⟩:=cm b;exact h.bQ i y d;rcases I n with e|e
 rw [e];exact VR.bX g (h.tmps n);rw [e];exact .inl rfl;obtain ⟨y,d,rfl⟩:=cm b;exact h.cU i y d
def VA (f:Nat->TV) (ts:List Nat) (n:Nat):(lk (ts.map λn=>(n,f n)) n).getD .un=f n\/(lk (ts.map λn=>(n,f n)) n).getD .un=.un:=by
 induction ts with
 |nil=>exact .inr rfl
 |cons t ts b=>
  simp only [fJ,gr]
  grind
def ahn (f:Nat->Option bl) (bs:List Nat) (n:Nat):lk (bs.filterMap λn=>(f n).map λb=>(n,b)) n=if mem bs n then f n else none:=by
 induction bs with
 |nil=>rfl
 |cons b bs c=>
  have g:mem (b::bs) n=if b=n then true else mem bs n:=by
   simp only [mem];simp_all
  rw [g];simp only [List.filterMap_cons];by_cases e:b=n;subst e;cases d:f b with
  |none=>simp [c,d]
  |some x=>simp [gr]
  cases d:f b with
  |none=>simp [e,c]
  |some x=>simp [gr,e,c]
theorem aC.tJ (h:aC F G s a w) (ts bs:List Nat):aC F G (s.tJ ts bs) a w:=by
 refine h.UW (mem bs) (λj=>?_) (λn=>VA (λn=>(s.get n).bX (mem bs)) ts n) (λi n=>NU (λv=>v.bX (mem bs)) rfl s.sv i n) (dU _);have:=ahn (λn=>(s.box n).map (bl.bX (mem bs))) bs j;rw [<-this];show lk (bs.filterMap λn=>(s.box n).map λb=>(n,b.bX (mem bs))) j=_;congr 1;congr 1;funext n;cases s.box n<;>rfl
theorem Fg {α:Type} (l:List (Nat×α)) (b n:Nat):lk (oG l b) n=if b=n then none else lk l n:=by
 induction l with
 |nil=>simp [oG,lk]
 |cons x l c=>
  obtain ⟨k,v⟩:=x;simp only [oG];by_cases e:k=b;subst e;rw [nK];simp only [cu,c,gr];simp_all;rw [jR e];simp only [ie,c2,gr,c]
  grind
theorem aC.drop (h:aC F G s a w) (b:Nat):aC F G (s.drop b) a w:=by
 refine h.UW (λc=> !Nat.beq b c) (λj=>?_) (λn=>.inl ?_) (λi n=>NU (TV.drop b) rfl s.sv i n) (dU _);unfold St.drop St.box;simp only [l7,Fg];by_cases e:b=j;subst e;simp;simp_all;unfold St.drop St.get;simp only [l7];cases lk s.tmps n<;>rfl
end
section
variable {Z:Type} {P:Program} {E:an} {F:Fr} {G:Nat->Gh} {s s2:St} {a:Act} {w w2:World}
def aq3 (Z:Type) (P:Program) (E:an) (F:Fr):Prop:=∀(G:Nat->Gh) (s:St) (a:Act) (w:World) (Q:Exit->Act->World->Prop) (o:Oper) (k:St->Option Z) (r:Z),
 aC F G s a w->c9 E o s k=some r->o.wp P a w (cf F k r) Q
theorem U5 (h:aC F G s a w) {d:Nat} {b:Bool} (e:s.get d=.ad .bool b):a.tmps.getD d undef=.bool b:=by
 have:=h.tmps d;rw [e] at this;exact this.bool
theorem aik (O:aq3 Z P E F) (ops:Array Oper) (k:St->Option Z) (r:Z) (Q:Exit->Act->World->Prop) (U:∀a w,cf F k r a w->Q .normal a w):
 ∀(l:List Oper) (G:Nat->Gh) (s:St) (a:Act) (w:World),aC F G s a w->kA E ops k l s=some r->wpList P ops Q l a w:=by
 intro l
 induction l with
 |nil=>intro G s a w h hk;exact U a w ⟨G,s,h,hk⟩
 |cons o bo x=>
  intro G s a w h hk;have step:∀{G s a w},aC F G s a w->c9 E o s (kA E ops k bo)=some r->∀K:Act->World->Prop,(∀a w,wpList P ops Q bo a w->K a w)->o.wp P a w K Q:=by
   intro G s a w h hk K g;exact Oper.wp_mono (λa w W=>g a w (by obtain ⟨ae,ah,af,ag⟩:=W;grind)) (O G s a w Q o _ r h hk)
  refine wpList_step λK g=>?_
  simp only [kA] at hk;split at hk;rename_i q;rw [ay (by simp [Region.wanted,q])];exact step h hk K g;rename_i j want q;split at hk;cases hk;rename_i d f;split at hk;rename_i b y;have D:=U5 h y;have u:yielded ops a.tmps j=some (show Bool from b):=by
   have ab:a.tmps[d]?=some (.bool b):=by
    rw [jI] at D;cases aa:a.tmps[d]? with
    |none=>rw [aa] at D;cases D
    |some v=>simp_all
   cases C:ops[j]? with
   |none=>rw [C] at f;cases f
   |some ac=>
    rw [C] at f;have f:ac.dst=some d:=f;simp only [yielded,C,f,ab,Option.bind_some]
  have X:∀c,s.get d=.ad .bool c->aC F G (s.put d (.ad .bool c)) a w:=λc z=>h.F9 (by have:=h.tmps d;rwa [z] at this)
  have skip:∀c,s.get d=.ad .bool c->kA E ops k bo (match o.dst with|some e=>(s.put d (.ad .bool c)).put e (.tup .unit)|none=>s.put d (.ad .bool c))=some r->K (a.put o.dst undef) w:=by
   intro c z hk;have J:=X c z;refine g _ _ ?_;cases n:o.dst with
   |none=>rw [n] at hk;exact x G _ _ _ J hk
   |some e=>rw [n] at hk;exact x G _ _ _ (J.MY e) hk
  split at hk;have I:Region.wanted o (yielded ops a.tmps)=want:=by
   simp only [Region.wanted,q,u];cases want<;>rfl
  grind
  have I:Region.wanted o (yielded ops a.tmps)= !want:=by
   simp only [Region.wanted,q,u];cases want<;>rfl
  grind
  rename_i y;have u:=U6 h f y;have I:Region.wanted o (yielded ops a.tmps)=false:=by
   simp only [Region.wanted,q,u];cases want<;>rfl
  rw [I,au (by simp)];refine g _ _ ?_;cases n:o.dst with
  |none=>rw [n] at hk;exact x G _ _ _ h hk
  |some e=>rw [n] at hk;exact x G _ _ _ (h.MY e) hk
  cases hk
def xg (F:Fr) (k:Ex->St->Option Z) (r:Z):Exit->Act->World->Prop
 | .normal,a,w=>cf F (k .normal) r a w
 | .exit id,a,w=>cf F (k (.exit id)) r a w
 | .ret,a,w=>cf F (k .ret) r a w
 |_,_,_=>False
def Ql (Z:Type) (P:Program) (E:an) (F:Fr):Prop:=∀(G:Nat->Gh) (s:St) (a:Act) (w:World) (id:Nat) (ops:Array Oper) (b:Bool) (k:Ex->St->Option Z) (r:Z),
 aC F G s a w->ha E 0 (.region id ops b) k s=some r->(Code.region id ops b).wp P (xg F k r) a w
end
section
variable {Z:Type} {P:Program} {E:an} {F:Fr} {G:Nat->Gh} {s s2:St} {a:Act} {w w2:World} {Q:Exit->Act->World->Prop}
structure u9 (F:Fr) (G:Nat->Gh) (s:St) (a:Act) (w:World) (e:List Nat) (c:Nat->Gh) (d:St):Prop where
 rel:aC F c d a w
 le:hP (ax s.box G) (ax d.box c)
 sub:∀j y,d.box j=some y->∀b∈(c j).ae,(∃i x,s.box i=some x/\b∈(G i).ae)\/b∈e
theorem u9.refl (h:aC F G s a w) (c:List Nat):u9 F G s a w c G s:=⟨h,λ_ _ _ ft _ e=>⟨ft,e,rfl⟩,λj y f b d=>.inl ⟨j,y,f,d⟩⟩
theorem hP.trans {A B C:b0} (h:hP A B) (g:hP B C):hP A C:=λb p t ft c e=>by
 obtain ⟨f,d,n⟩:=h b p t ft c e;obtain ⟨l,j,o⟩:=g b p t f c d;simp_all
def aog:∀(t:Ty) (x:t.ai) (G:Nat->Gh) (s:St) (id:Nat) (ft:FT) (cs:List Value) (k:St->Nat->TV->Option Z) (r:Z),aC F G s a w->t.cC->bd w t x ft cs->
 ft.ae.Nodup->(∀b∈ft.ae,∀j y,s.box j=some y->b∉(G j).ae)->(∀b∈ft.ae,¬F.R b/\b<w.heap.size/\(b∈F.M\/F.w0.heap.size<=b))->fG s id t x k=some r->
 ∃q f aa v,k f aa v=some r/\u9 F G s a w ft.ae q f/\bH (ax f.box q) w F.R v cs/\v.agg=t.agg:=by
 have aW:∀(t:Ty) (x:t.ai) (G:Nat->Gh) (s:St) (id:Nat) (ft:FT) (cs:List Value) (k:St->Nat->TV->Option Z) (r:Z),aC F G s a w->bd w t x ft cs->t.aW=true->k s id (.ad t x)=some r->
  ∃q f aa v,k f aa v=some r/\u9 F G s a w ft.ae q f/\bH (ax f.box q) w F.R v cs/\v.agg=t.agg:=by
  intro t x G s id ft cs k r h c l hk;obtain ⟨a8,a9,aF⟩:=bd.l0 l c;exact ⟨G,s,id,_,hk,.refl h _,by rw [a9];exact Rd.fW l a8,rfl⟩
 intro t
 induction t with
 |slice t _=>
  intro x G s id ft cs k r h O c J X K hk;simp only [fG] at hk;obtain ⟨a4,ah,a5⟩:=qz hk;have av:hQ F G s w ⟨none,ft⟩:=⟨by simpa [Gh.ae] using J,λb d=>X b (by simpa [Gh.ae] using d),λb d=>K b (by simpa [Gh.ae] using d)⟩;have aw:=h.PB (x:=⟨.slice t,true,false,.ab (.slice t) x⟩) (g:=⟨none,ft⟩) a4 ah rfl O ⟨rfl,⟨t,rfl⟩,cs,⟨rfl,c⟩⟩ av;refine ⟨_,_,_,_,a5,⟨aw,Vt ah _ _,λj y o b d=>?_⟩,?_,rfl⟩;rw [lW] at o;by_cases e:id=j;subst e;simp only [fi,cu,Gh.ae,zd,dV] at d;exact .inr d;rw [au e] at o;simp only [fi,kM e,c2] at d
  grind
  obtain ⟨b,cap,a3,rfl,ay,_,_,ar,_⟩:=c;refine ⟨t,b,cap,a3,none,?_,by rw [ay,ar]⟩;simp [ax,lW,fi,ak]
 |cons t u a1 a2=>
  intro x G s id ft cs k r h O c J X K hk;simp only [fG] at hk;split at hk;rename_i l;exact aW _ x G s id ft cs k r h c l hk;obtain ⟨I,ac,af,rfl,a6,a7⟩:=c;rw [I,cv] at J;obtain ⟨an,ao,aD⟩:=J;obtain ⟨G1,s1,az,aG,ap,C,al,aA⟩:=a1 x.1 G s id ft.fst ac _ r h O.1 a6 an (λb d=>X b (by rw [I];simp [d])) (λb d=>K b (by rw [I];simp [d])) hk;obtain ⟨aj,s2,a0,aH,aq,D,am,aB⟩:=a2 x.2 G1 s1 az ft.snd af _ r C.rel O.2.1 a7 ao (λb d j y o U=>by
   rcases C.sub j y o b U with ⟨i,z,ag,W⟩|W
   simp_all
   grind) (λb d=>K b (by rw [I];simp [d])) ap
  refine ⟨aj,s2,a0,_,aq,⟨D.rel,C.le.trans D.le,λj y o b d=>?_⟩,⟨ac,af,rfl,bH.mono D.le (λ_ _=>rfl) _ _ al,am⟩,rfl⟩;rcases D.sub j y o b d with ⟨i,z,ag,U⟩|U
  rcases C.sub i z ag b U with W|W
  exact .inl W;simp_all;simp_all
 |unit=>
  intro x G s id ft cs k r h _ c _ _ _ hk;simp only [fG] at hk;obtain ⟨_,_,_,rfl⟩:=c;exact ⟨G,s,id,_,hk,.refl h _,rfl,rfl⟩
 |int aE=>intro x G s id ft cs k r h _ c _ _ _ hk;exact aW _ x G s id ft cs k r h c rfl (by simpa [fG,Ty.aW] using hk)
 |bool=>intro x G s id ft cs k r h _ c _ _ _ hk;exact aW _ x G s id ft cs k r h c rfl (by simpa [fG,Ty.aW] using hk)
 |bR=>intro x G s id ft cs k r h _ c _ _ _ hk;exact aW _ x G s id ft cs k r h c rfl (by simpa [fG,Ty.aW] using hk)
 |bG=>intro x G s id ft cs k r h _ c _ _ _ hk;exact c.elim
 |arr n t _=>
  intro x G s id ft cs k r h _ c _ _ _ hk;simp only [fG] at hk;split at hk;rename_i l;exact aW _ x G s id ft cs k r h c l hk;cases hk
def ZX:∀(n:List D) (vs:List Value) (c:List FT) (G:Nat->Gh) (s:St) (id:Nat) (k:St->TV->Option Z) (r:Z),aC F G s a w->(∀d∈n,d.t.cC)->s0 w n vs c->
 (FT.bq c).Nodup->(∀b∈FT.bq c,∀j y,s.box j=some y->b∉(G j).ae)->(∀b∈FT.bq c,¬F.R b/\b<w.heap.size/\(b∈F.M\/F.w0.heap.size<=b))->nx s id n k=some r->
 ∃K J v,k J v=some r/\u9 F G s a w (FT.bq c) K J/\fh (ax J.box K) w F.R v vs:=by
 intro n
 induction n with
 |nil=>
  intro vs c G s id k r h _ e _ _ _ hk;cases vs<;>cases c<;>first|exact e.elim|skip
  exact ⟨G,s,.unit,hk,.refl h _,trivial⟩
 |cons d n al=>
  intro vs c G s id k r h X e O U W hk
  match vs,c,e with
  |v::vs,f::c,e=>
   obtain ⟨⟨cs,am,an⟩,e⟩:=e;simp only [FT.bq,cv] at O;obtain ⟨af,ag,ao⟩:=O;simp only [nx] at hk;obtain ⟨G1,s1,ak,ap,ai,q,ac,aa⟩:=aog d.t d.x G s id f cs _ r h (X d (by simp)) am af (λb g=>U b (by simp [FT.bq,g])) (λb g=>W b (by simp [FT.bq,g])) hk;obtain ⟨ab,s2,aq,aj,u,ad⟩:=al vs c G1 s1 ak _ r q.rel (λd ah=>X d (by simp [ah])) e ag (λb g j y C o=>by
    rcases q.sub j y C b o with ⟨i,z,I,l⟩|l
    exact U b (by simp [FT.bq,g]) i z I l
    grind) (λb g=>W b (by simp [FT.bq,g])) ai
   refine ⟨ab,s2,_,aj,⟨u.rel,q.le.trans u.le,λj y C b g=>?_⟩,⟨?_,ad⟩⟩;rcases u.sub j y C b g with ⟨i,z,I,o⟩|o
   rcases q.sub i z I b o with l|l
   exact .inl l;exact .inr (by simp [FT.bq,l]);exact .inr (by simp [FT.bq,o]);exact .inr ⟨cs,bH.mono u.le (λ_ _=>rfl) _ _ ac,by rw [aa];exact an⟩
  |[],_,e=>exact e.elim
  |_::_,[],e=>exact e.elim
def akk (h:aC F G s a w) (O:E.nt=F.nt) {dst:Option Nat} {g:List D} {v:Value} {l:List FT} (q:∀d∈g,d.t.cC) (c:JR w g v l)
 (I:(FT.bq l).Nodup) (J:∀b∈FT.bq l,∀j y,s.box j=some y->b∉(G j).ae) (K:∀b∈FT.bq l,¬F.R b/\b<w.heap.size/\(b∈F.M\/F.w0.heap.size<=b))
 (n:∀d,dst=some d->d<E.nt) {k:St->Option Z} {r:Z} {o:Nat} (hk:qM s o dst g k=some r):cf F k r (a.put dst v) w:=by
 unfold qM at hk;cases dst with
 |none=>exact ⟨G,s,h,hk⟩
 |some d=>
  simp only at hk;have n:=n d rfl;rw [O] at n;have hl:∀(vs:List Value),v=.tuple (List.toArray vs)->s0 w g vs l->(nx s (eg o d) g λs u=>k (s.put d (.tup u)))=some r->cf F k r (a.put (some d) v) w:=by
   intro vs e aa hk;obtain ⟨z,ab,u,C,T,V⟩:=ZX g vs l G s _ _ r h q aa I J K hk;exact ⟨z,_,T.rel.put n (v:=.tup u) ⟨vs,V,e⟩,C⟩
  match g,c,hk,hl,q with
  |[],c,hk,hl,_=>exact hl [] c.1 (by rw [c.2];trivial) hk
  |[e],c,hk,_,q=>
   obtain ⟨f,rfl,U⟩:=c;obtain ⟨z,ab,u,C,T,V⟩:=ZX [e] [v] [f] G s _ _ r h q ⟨U,trivial⟩ I J K hk;cases u with
   |cons x y=>
    cases y with
    |unit=>exact ⟨z,_,T.rel.put n V.1.vr,C⟩
    |_=>exact V.2.elim
   |_=>exact V.elim
  |e::ac::g,c,hk,hl,_=>
   obtain ⟨vs,W,X⟩:=c;exact hl vs W X hk
end
section
variable {Z:Type} {P:Program} {E:an} {F:Fr} {G:Nat->Gh} {s s2:St} {a:Act} {w w2:World} {Q:Exit->Act->World->Prop}
def PM.jr:PM->Bool
 | .ab _=>true
 |_=>false
def uZ (A:b0) (w:World) (R:Nat->Prop):List PM->List TV->List Value->List Gh->Prop
 |[],[],[],[]=>True
 |m::c,v::vs,x::xs,g::b=>(if m.jr then ∃u y,m=.ab (.slice u)/\v=.ab (.slice u) y/\g.bj=none/\bd w (.slice u) y g.ft [x] else VR A w R v x/\g=⟨none,.leaf⟩)/\uZ A w R c vs xs b
 |_,_,_,_=>False
theorem dq.map {A A':b0} {R:Nat->Prop} {κ:TV->TV} (b:∀v y,VR A w R v y->VR A' w R (κ v) y):∀(vs:List TV) (xs:List Value),dq A w R vs xs->dq A' w R (vs.map κ) xs
 |[],[],_=>trivial
 |_::vs,_::xs,h=>⟨b _ _ h.1,dq.map b vs xs h.2⟩
 |[],_::_,h=>h.elim
 |_::_,[],h=>h.elim
structure lI (F:Fr) (G:Nat->Gh) (s:St) (a:Act) (w:World) (κ:TV->TV) (d:List Nat) (c:Nat->Gh) (e:St):Prop where
 rel:aC F c e a w
 b7:d.Nodup
 out:∀b∈d,∀j y,e.box j=some y->b∉(c j).ae
 bQ:∀b∈d,¬F.R b/\b<w.heap.size/\(b∈F.M\/F.w0.heap.size<=b)
 js:∀b∈d,∃i x,s.box i=some x/\b∈(G i).ae
 eY:ik G s c e
 vr:∀v y,VR (ax s.box G) w F.R v y->VR (ax e.box c) w F.R (κ v) y
theorem lI.none (h:aC F G s a w):lI F G s a w id [] G s:=⟨h,lB,λb c=>(by cases c),λb c=>(by cases c),λb c=>(by cases c),ik.refl,λ_ _ h=>h⟩
def ajT:∀(u:List PM) (vs:List TV) (xs:List Value) (G:Nat->Gh) (s:St) (k:St->List TV->(TV->TV)->Option Z) (r:Z),aC F G s a w->dq (ax s.box G) w F.R vs xs->ek s u vs k=some r->
 ∃q n o κ g,k n o κ=some r/\lI F G s a w κ (bW g) q n/\uZ (ax n.box q) w F.R u o xs g:=by
 intro u
 induction u with
 |nil=>
  intro vs xs G s k r h j hk
  match vs,xs,j,hk with
  |[],[],_,hk=>exact ⟨G,s,[],id,[],hk,.none h,trivial⟩
  |_::_,_,_,hk=>simp [ek] at hk
 |cons m u U=>
  intro vs xs G s k r h j hk
  match vs,xs,j,hk with
  |[],_,_,hk=>simp [ek] at hk
  |_::_,[],j,_=>exact j.elim
  |v::vs,x::xs,j,hk=>
   have dv:m.jr=false->(ek s u vs λs vs κ=>k s (κ v::vs) κ)=some r->∃q n o κ g,k n o κ=some r/\lI F G s a w κ (bW g) q n/\uZ (ax n.box q) w F.R (m::u) o (x::xs) g:=by
    intro C hk;obtain ⟨q,n,o,κ,g,aa,T,A⟩:=U vs xs G s _ r h j.2 hk;refine ⟨q,n,κ v::o,κ,⟨Option.none,.leaf⟩::g,aa,T,?_,A⟩;rw [au (by simp [C])];exact ⟨T.vr _ _ j.1,rfl⟩
   cases m with
   |ab t=>
    cases t with
    |slice t=>
     simp only [ek] at hk;have af:=j.1.Gj (Eg hk);obtain ⟨G1,s1,c,f,κ,J,l⟩:=ow (.slice t) _ G s [x] _ r h af hk;split at J;rotate_left;cases J;rename_i y ad;obtain ⟨D,O,ag⟩:=lU (.slice t) c f [x] y l.fa ad;obtain ⟨W,s2,o,ah,g,ac,T,A⟩:=U (vs.map κ) xs G1 s1 _ r l.rel (dq.map l.vr vs xs j.2) J;have fr:=l.er.eY T.eY;have I:∀b,b∈bW (⟨Option.none,D⟩::g)↔b∈f.ae\/b∈bW g:=by
      intro b;simp [bW,Gh.ae,O]
     refine ⟨W,s2,_,_,⟨Option.none,D⟩::g,ac,⟨T.rel,?_,?_,?_,?_,l.eY.trans T.eY,λv y j=>T.vr _ _ (l.vr v y j)⟩,?_,A⟩;have e:bW (⟨Option.none,D⟩::g)=f.ae++bW g:=by simp [bW,Gh.ae,O]
     rw [e,cv];refine ⟨fr.b7,T.b7,λb d c X e=>?_⟩;subst e;obtain ⟨i,z,K,C⟩:=T.js b X;exact l.er.out b d i z K C;intro b d;rcases (I b).1 d with d|d
     exact fr.out b d;exact T.out b d;intro b d;rcases (I b).1 d with d|d
     exact fr.bQ b d;exact T.bQ b d;intro b d;rcases (I b).1 d with d|d
     exact l.js b d;obtain ⟨i,z,K,C⟩:=T.js b d;exact l.eY.sub i z K b C;rw [ay (show (PM.ab (.slice t)).jr=true from rfl)];simp_all
    |_=>simp [ek] at hk
   |ro t=>exact dv rfl (by simpa only [ek] using hk)
   |bw t=>exact dv rfl (by simpa only [ek] using hk)
   |ptr t=>exact dv rfl (by simpa only [ek] using hk)
   | «mut» t=>exact dv rfl (by simpa only [ek] using hk)
   |bY f c=>exact dv rfl (by simpa only [ek] using hk)
end
section
variable {Z:Type} {P:Program} {E:an} {F:Fr} {G:Nat->Gh} {s s2:St} {a:Act} {w w2:World} {Q:Exit->Act->World->Prop}
def wX (A:b0) (w:World) (R:Nat->Prop) (G:Nat->Gh) (s:St) (m:PM) (v0 v:TV) (x:Value) (g:Gh):Prop:=
 match m with
 | .ptr t=>∃b bx y,v0=.ref b []/\v=.ab t y/\sG w t y g x/\s.box b=some bx/\bx.cn=false/\bx.ty=t/\g.bj=(G b).bj/\g.ft.ae=(G b).ft.ae
 | .mut t=>∃u y,t=.slice u/\v=.ab (.slice u) y/\g.bj=none/\bd w (.slice u) y g.ft [x]/\
  ((v0=.nil/\g.ft.ae=[])\/∃b p bx c,v0=.sl b p/\s.box b=some bx/\aM.dC p=false/\ax s.box G b p=some (.slice u,g.ft,c)/\(∀d o,c=some (d,o)->At w d o 1 [x]))
 | .ab t=>∃u y,t=.slice u/\v=.ab (.slice u) y/\g.bj=none/\bd w (.slice u) y g.ft [x]
 |_=>VR A w R v x/\g=⟨none,.leaf⟩
def pr (A:b0) (w:World) (R:Nat->Prop) (G:Nat->Gh) (s:St):List PM->List TV->List TV->List Value->List Gh->Prop
 |[],[],[],[],[]=>True
 |m::c,v0::d,v::vs,x::xs,g::b=>wX A w R G s m v0 v x g/\pr A w R G s c d vs xs b
 |_,_,_,_,_=>False
def akp {κ:TV->TV} {o:Nat->Gh} {q:St} (n:∀v y,VR (ax s.box G) w F.R v y->VR (ax q.box o) w F.R (κ v) y) (C:∀t y,κ (.ab t y)=.ab t y):
 ∀(j:List PM) (vs:List TV) (xs:List Value) (d:List Gh),j.any PM.fc=false->uZ (ax s.box G) w F.R j vs xs d->pr (ax q.box o) w F.R G s j vs (vs.map κ) xs d:=by
 intro j
 induction j with
 |nil=>
  intro vs xs d _ h
  match vs,xs,d,h with
  |[],[],[],_=>trivial
 |cons m j D=>
  intro vs xs d l h;simp only [List.any_cons,Bool.or_eq_false_iff] at l
  match vs,xs,d,h with
  |v::vs,x::xs,g::d,h=>
   refine ⟨?_,D vs xs d l.2 h.2⟩;have b:=h.1;cases m with
   |ptr t=>cases l.1
   | «mut» t=>cases l.1
   |ab t=>
    rw [ay (show (PM.ab t).jr=true from rfl)] at b;obtain ⟨u,y,e,rfl,r,z⟩:=b;simp only [PM.ab.injEq] at e;exact ⟨u,y,e,C _ _,r,z⟩
   |ro t=>rw [au (by simp [PM.jr])] at b;exact ⟨n _ _ b.1,b.2⟩
   |bw t=>rw [au (by simp [PM.jr])] at b;exact ⟨n _ _ b.1,b.2⟩
   |bY f c=>rw [au (by simp [PM.jr])] at b;exact ⟨n _ _ b.1,b.2⟩
  |[],_,_,h=>exact h.elim
  |_::_,[],_,h=>exact h.elim
  |_::_,_::_,[],h=>exact h.elim
def Lo (h:aC F G s a w) (b:Nat):(∀v y,VR (ax s.box G) w F.R v y->VR (ax (s.drop b).box G) w F.R (v.drop b) y)/\(∀j,(s.drop b).box j=if b=j then none else (s.box j).map (bl.bX λc=> !Nat.beq b c)):=by
 have f:∀j,(s.drop b).box j=if b=j then none else (s.box j).map (bl.bX λc=> !Nat.beq b c):=by
  intro j;unfold St.drop St.box;simp only [l7,Fg]
  grind
 refine ⟨λv y g=>VR.bX (λc q d=>?_) g,f⟩;unfold ax;have d:¬b=c:=by
  intro e;subst e;simp at d
 rw [f,au d];cases s.box c<;>rfl
end
section
variable {Z:Type} {P:Program} {E:an} {F:Fr} {G:Nat->Gh} {s s2:St} {a:Act} {w w2:World} {Q:Exit->Act->World->Prop}
theorem p4 {b:Nat} {bx:bl} (c:s.box b=some bx):ax s.box G b []=some (bx.ty,(G b).ft,(G b).bj.map (·,0)):=by
 simp only [ax,c];cases bx.ty<;>rfl
def ahe (h:aC F G s a w) {b:Nat} {bx:bl} (n:s.box b=some bx) (ad:bx.cn=false) {t:Ty} (ac:bx.ty=t) {y:t.ai} (l:bx.c.du t=some y) {x:Value} (ag:VR (ax s.box G) w F.R (.ref b []) x):
 ∃g:Gh,sG w t y g x/\g.bj=(G b).bj/\g.ft.ae=(G b).ft.ae/\lI F G s a w (TV.drop b) g.ae G (s.drop b):=by
 obtain ⟨af,O⟩:=Lo h b;have I:=h.box b bx n;unfold dw at I;rw [au (by simp [ad])] at I;obtain ⟨q,row,e,r,X,aa,h4⟩:=I;subst ac;obtain ⟨J,K,W⟩:=lU _ _ _ _ _ h4 l;obtain ⟨u,f,aj,off,v,ah⟩:=ag.b3 (by simp) (by simp) rfl;rw [p4 n,r] at v;simp only [dn,aX,bk] at v;obtain ⟨rfl,rfl,rfl,rfl⟩:=v;have C:(Gh.mk (some q) J).ae=(G b).ae:=by simp [Gh.ae,r,K]
 refine ⟨⟨some q,J⟩,⟨q,row,e,rfl,(hq ah).1,X,aa,W⟩,r.symm,K,h.drop b,?_,?_,?_,?_,⟨λj y l o d=>?_⟩,af⟩;rw [C];exact h.b7 b bx n;intro o d j ak U ab;rw [C] at d;rw [O] at U;by_cases e:b=j;simp_all;rw [au e] at U;cases D:s.box j with
 |none=>simp_all
 |some z=>exact h.c6 b j bx z n D e o d ab
 intro o d;rw [C] at d;exact h.bQ b bx n o d
 grind
 rw [O] at l;by_cases e:b=j;simp_all;rw [au e] at l;cases D:s.box j with
 |none=>rw [D] at l;cases l
 |some z=>grind
def aC.aoA (h:aC F G s a w) {b:Nat} {bx:bl} (r:s.box b=some bx):aC F G (s.b4 b {bx with dD:=false}) a w:=by
 have J:∀j,(s.b4 b {bx with dD:=false}).box j=if b=j then some {bx with dD:=false} else s.box j:=λj=>kk s b _ bx r j
 have o:ax (s.b4 b {bx with dD:=false}).box G=ax s.box G:=by
  funext c q;unfold ax
  grind
 have cm:∀{j y},(s.b4 b {bx with dD:=false}).box j=some y->∃z,s.box j=some z/\y.ty=z.ty/\y.cn=z.cn/\y.c=z.c/\(y.dD=true->y=z):=by
  grind
 refine ⟨λi x d=>?_,λi x d=>?_,λi j x y d u=>?_,λi x d=>?_,λi x d=>?_,h.R,λn=>?_,h.bT,h.fT,h.defers,h.nt,λi x d=>?_,λi n=>(by rw [o];exact h.sv i n),h.jF⟩;obtain ⟨z,g,l,D,I,_⟩:=cm d;have:=h.box i z g;unfold dw at this|-;simp_all;obtain ⟨z,g,l,_⟩:=cm d;rw [l];exact h.cC i z g;obtain ⟨x',f,_⟩:=cm d;obtain ⟨C,v,_⟩:=cm u;exact h.c6 i j x' C f v;obtain ⟨x',f,_⟩:=cm d;exact h.b7 i x' f;obtain ⟨x',f,_⟩:=cm d;exact h.bQ i x' f;rw [o];exact h.tmps n;obtain ⟨x',f,_,_,_,e⟩:=cm d;obtain ⟨K,O⟩:=h.cU i x' f
 grind
def aeo {b:Nat} {bx:bl} (d:s.box b=some bx):ax (s.b4 b {bx with dD:=false}).box G=ax s.box G:=by
 funext c q;unfold ax;rw [kk s b _ bx d]
 grind
def ahd (h:aC F G s a w) {b:Nat} {p:aM} {bx:bl} (f:s.box b=some bx) (ar:aM.dC p=false) {t:Ty} {x:Value} (a2:VR (ax s.box G) w F.R (.sl b p) x)
 {k:(u:Ty)->u.ai->TV->Option Z} {r:Z} (hk:(c7 bx.c p λc=>match c with
  | .ab u y=>if decide (u=.slice t) then bP bx.c p .un λc'=>k u y c' else none
  |_=>none)=some r):
 ∃c' q I X,∃y:(Ty.slice t).ai,k (.slice t) y c'=some r/\bd w (.slice t) y I [x]/\ax s.box G b p=some (.slice t,I,X)/\(∀d o,X=some (d,o)->At w d o 1 [x])/\
  lI F G s a w (TV.aw b p) I.ae q (((s.b4 b {bx with dD:=false}).b4 b {bx with dD:=false,c:=c'}).aw b p):=by
 obtain ⟨aj,ap,ao⟩:=(h.box b bx f).fa;obtain ⟨c',u,am,a',ah,g,ak,al,D⟩:=a1.get bx.c bx.ty (G b).ft aj ((G b).bj.map (·,0)) p _ r ap (λd o e=>(ao d o e).1) hk;split at g;rename_i a4 y;split at g;rename_i W;have W:a4=.slice t:=e7 W;subst W;have J:ax s.box G b p=some (u,am,a'):=by rw [fu f];exact ak
 have av:=h.aoA f;have an:(s.b4 b {bx with dD:=false}).box b=some {bx with dD:=false}:=by rw [kk s b _ bx f,ay rfl]
 have O:=aeo (G:=G) f;obtain ⟨ag,q,a3,af,n,aa,C,az,ad,ac⟩:=av.move an rfl (.inl ar) rfl rfl (by rw [O];exact J) (by rw [O];exact al) D g;subst az;obtain ⟨aI,a8,cap,aD,a6,K,aA⟩:=a2.b3 (by simp) (by simp) rfl;rw [J] at K;simp only [aX,bk] at K;obtain ⟨_,rfl,_⟩:=K;have aq:ah=[x]:=by
  obtain ⟨a7,a9,aE,aF,aG,_,_,aH,_⟩:=C;simp_all
 rw [aq] at C D;have cm:∀{j z},(s.b4 b {bx with dD:=false}).box j=some z->∃a5,s.box j=some a5:=by
  intro j z l;rw [kk s b _ bx f] at l
  grind
 refine ⟨ag,q,_,a',y,a3,C,J,D,af,n.b7,n.out,n.bQ,λd U=>?_,⟨λj z l d U=>?_⟩,λv z a0=>?_⟩;obtain ⟨i,z,l,au⟩:=ac d U
 grind
 obtain ⟨i,aJ,aB,au⟩:=ad.sub j z l d U
 grind
 exact VR.aw aa (λ_ _=>rfl) (by rw [O];exact a0);cases g;cases g
end
section
variable {Z:Type} {P:Program} {E:an} {F:Fr} {G:Nat->Gh} {s s2:St} {a:Act} {w w2:World} {Q:Exit->Act->World->Prop}
def eD:List PM->List Gh->List Nat
 |m::c,g::b=>(if m.fc then g.ae else [])++eD c b
 |_,_=>[]
theorem L5:∀(b:List PM) (c:List Gh),b.any PM.fc=false->eD b c=[]
 |[],_,_=>by cases ‹List Gh› <;>rfl
 |_::_,[],_=>rfl
 |m::b,g::c,h=>by
  simp only [List.any_cons,Bool.or_eq_false_iff] at h;simp [eD,h.1,L5 b c h.2]
def ajQ (h:aC F G s a w):∀(n:List PM) (vs:List TV) (xs:List Value) (q:List Gh) (k:St->List TV->(TV->TV)->Option Z) (r:Z),uZ (ax s.box G) w F.R n vs xs q->cH s n vs k=some r->
 ∃j d I κ o,k d I κ=some r/\lI F G s a w κ (eD n o) j d/\pr (ax d.box j) w F.R G s n vs I xs o/\(∀t y,κ (.ab t y)=.ab t y)/\
  (∀b,b∈bW o↔b∈eD n o\/b∈bW q)/\((bW q).Nodup->(∀b∈bW q,b∉eD n o)->(bW o).Nodup):=by
 intro n
 induction n with
 |nil=>
  intro vs xs q k r C hk
  match vs,xs,q,C,hk with
  |[],[],[],_,hk=>exact ⟨G,s,[],id,[],hk,.none h,trivial,λ_ _=>rfl,λb=>(by simp [eD,bW]),λW _=>W⟩
 |cons m n a6=>
  intro vs xs q k r C hk
  match vs,xs,q,C,hk with
  |[],_,_,C,_=>exact C.elim
  |_::_,[],_,C,_=>exact C.elim
  |_::_,_::_,[],C,_=>exact C.elim
  |v::vs,x::xs,g::q,C,hk=>
   have dv:m.fc=false->(cH s n vs λs vs κ=>k s (κ v::vs) κ)=some r->(∀(κ:TV->TV) (j:Nat->Gh) (d:St),(∀v y,VR (ax s.box G) w F.R v y->VR (ax d.box j) w F.R (κ v) y)->(∀t y,κ (.ab t y)=.ab t y)->wX (ax d.box j) w F.R G s m v (κ v) x g)->
    ∃j d I κ o,k d I κ=some r/\lI F G s a w κ (eD (m::n) o) j d/\pr (ax d.box j) w F.R G s (m::n) (v::vs) I (x::xs) o/\(∀t y,κ (.ab t y)=.ab t y)/\
   (∀b,b∈bW o↔b∈eD (m::n) o\/b∈bW (g::q))/\((bW (g::q)).Nodup->(∀b∈bW (g::q),b∉eD (m::n) o)->(bW o).Nodup):=by
    intro ah hk aj;obtain ⟨j,d,I,κ,o,ag,T,A,K,B,N⟩:=a6 vs xs q _ r C.2 hk;have J:eD (m::n) (g::o)=eD n o:=by simp [eD,ah]
    have aa:∀l:List Gh,bW (g::l)=g.ae++bW l:=λl=>by simp [bW]
    refine ⟨j,d,_,κ,g::o,ag,by rw [J];exact T,⟨aj κ j d T.vr K,A⟩,K,λb=>?_,λW af=>?_⟩
    grind
    grind
   have ak:∀(g':Gh) (j:Nat->Gh) (d:St) (κ:TV->TV) (al:TV),m.fc=true->n.any PM.fc=false->g=⟨Option.none,.leaf⟩->lI F G s a w κ g'.ae j d->(∀t y,κ (.ab t y)=.ab t y)->wX (ax d.box j) w F.R G s m v al x g'->k d (al::vs.map κ) κ=some r->
    ∃j d I κ o,k d I κ=some r/\lI F G s a w κ (eD (m::n) o) j d/\pr (ax d.box j) w F.R G s (m::n) (v::vs) I (x::xs) o/\(∀t y,κ (.ab t y)=.ab t y)/\
   (∀b,b∈bW o↔b∈eD (m::n) o\/b∈bW (g::q))/\((bW (g::q)).Nodup->(∀b∈bW (g::q),b∉eD (m::n) o)->(bW o).Nodup):=by
    intro g' j d κ al ah an O T K aj ag;subst O;have J:eD (m::n) (g'::q)=g'.ae:=by simp [eD,ah,L5 n q an]
    have aa:bW (g'::q)=g'.ae++bW q:=by simp [bW]
    have ac:bW ((⟨Option.none,.leaf⟩:Gh)::q)=bW q:=by simp [bW,Gh.ae,FT.ae]
    refine ⟨j,d,_,κ,g'::q,ag,by rw [J];exact T,⟨aj,akp T.vr K n vs xs q an C.2⟩,K,λb=>?_,λW af=>?_⟩;simp_all;rw [J,ac] at af;rw [ac] at W;rw [aa,cv];exact ⟨T.b7,W,λb a1 c D e=>af c D (e▸a1)⟩
   have z:=C.1;cases m with
   |ro t=>exact dv rfl (by simpa only [cH] using hk) (λκ j d X _=>by rw [au (by simp [PM.jr])] at z;exact ⟨X _ _ z.1,z.2⟩)
   |bw t=>exact dv rfl (by simpa only [cH] using hk) (λκ j d X _=>by rw [au (by simp [PM.jr])] at z;exact ⟨X _ _ z.1,z.2⟩)
   |bY f c=>exact dv rfl (by simpa only [cH] using hk) (λκ j d X _=>by rw [au (by simp [PM.jr])] at z;exact ⟨X _ _ z.1,z.2⟩)
   |ab t=>exact dv rfl (by simpa only [cH] using hk) (λκ j d _ a3=>by
    rw [ay (show (PM.ab t).jr=true from rfl)] at z;obtain ⟨u,y,e,rfl,az,a0⟩:=z;simp only [PM.ab.injEq] at e;exact ⟨u,y,e,a3 _ _,az,a0⟩)
   |ptr t=>
    rw [au (by simp [PM.jr])] at z;obtain ⟨ad,O⟩:=z;cases v with
    |ref b p=>
     cases p with
     |nil=>
      simp only [cH] at hk;unfold b5 at hk;split at hk;rotate_left;cases hk;rename_i bx U
      try dsimp only at hk
      split at hk;cases hk;rename_i D;simp only [fC,hp,pq,gN,uO,jf] at D;obtain ⟨⟨am,ap⟩,c3⟩:=D;split at hk;rename_i y a5;obtain ⟨g',a7,a8,a9,aA⟩:=ahe h U am c3 a5 ad;exact ak g' G _ _ _ rfl ap O aA (λ_ _=>rfl) ⟨b,bx,y,rfl,rfl,a7,U,am,c3,a8,a9⟩ hk;cases hk
     |cons _ _=>simp [cH] at hk
    |_=>simp [cH] at hk
   | «mut» t=>
    rw [au (by simp [PM.jr])] at z;obtain ⟨ad,O⟩:=z;cases t with
    |slice t=>
     cases v with
     |nil=>
      simp only [cH] at hk;split at hk;cases hk;rename_i D;have D:n.any PM.fc=false:=by simpa using D
      have a4:[x]=[Value.slice none 0 0]:=ad.b3 (by simp) (by simp) rfl;have a2:k s (.ab (.slice t) ([]:List t.ai)::vs.map id) id=some r:=by rw [nF];exact hk
      refine ak ⟨none,.node none 0 []⟩ G s id _ rfl D O (.none h) (λ_ _=>rfl) ⟨t,_,rfl,rfl,rfl,?_,.inl ⟨rfl,rfl⟩⟩ a2;rw [a4];exact ⟨none,0,[],rfl,rfl,cV _,bL _,rfl,rfl⟩
     |sl b p=>
      simp only [cH] at hk;split at hk;cases hk
      ·rename_i D;simp only [fC,gN,jf] at D;unfold b5 at hk;split at hk;rotate_left;cases hk;rename_i bx U
       try dsimp only at hk
       obtain ⟨c',j,av,ao,y,J,aa,ac,ar,aq⟩:=ahd h U D.1 ad (k:=λu y c'=>k (((s.b4 b {bx with dD:=false}).b4 b {bx with dD:=false,c:=c'}).aw b p) (.ab u y::vs.map (TV.aw b p)) (TV.aw b p)) hk;exact ak ⟨none,av⟩ j _ _ _ rfl D.2 O (by simpa [Gh.ae] using aq) (λ_ _=>rfl) ⟨t,y,rfl,rfl,rfl,aa,.inr ⟨b,p,bx,ao,rfl,U,D.1,ac,ar⟩⟩ J
     |_=>simp [cH] at hk
    |_=>simp [cH] at hk
end
section
variable {Z:Type} {P:Program} {E:an} {F:Fr} {G:Nat->Gh} {s s2:St} {a:Act} {w w2:World} {Q:Exit->Act->World->Prop}
def Nc:∀(t:Ty) (v:TV) (k:t.ai->Option Z) (r:Z),dL s t v k=some r->v.agg=t.agg/\v≠ .un/\∀b,v≠ .tup b:=by
 have ad:∀(t u:Ty) (x:u.ai) (k:t.ai->Option Z) (r:Z),(∃y,cG u t x=some y/\k y=some r)->(TV.ad u x).agg=t.agg/\TV.ad u x≠ .un/\∀b,TV.ad u x≠ .tup b:=by
  intro t u x k r h;obtain ⟨y,e,h⟩:=h;obtain ⟨rfl,_⟩:=eO e;exact ⟨rfl,by simp,by simp⟩
 intro t v k r h;cases t with
 |slice t=>
  simp only [dL] at h;cases v with
  |nil=>exact ⟨rfl,by simp,by simp⟩
  |sl b p=>exact ⟨rfl,by simp,by simp⟩
  |slw b p lo n=>exact ⟨rfl,by simp,by simp⟩
  |ad u x=>
   simp only [gY] at h;split at h;rename_i y e;obtain ⟨rfl,_⟩:=eO e;exact ⟨rfl,by simp,by simp⟩;cases h
  |_=>simp [gY] at h
 |cons t u=>
  cases v with
  |cons a d=>exact ⟨rfl,by simp,by simp⟩
  |ad c x=>exact ad _ c x k r (by simp only [dL] at h;grind)
  |_=>simp [dL] at h
 |unit=>
  cases v with
  |unit=>exact ⟨rfl,by simp,by simp⟩
  |ad c x=>exact ad _ c x k r (by simp only [dL] at h;grind)
  |_=>simp [dL] at h
 |_=>
  cases v with
  |ad c x=>exact ad _ c x k r (by simp only [dL] at h;grind)
  |_=>simp [dL] at h
def aff {A:b0} {R j:Nat->Prop} (I:∀b,R b->j b):∀(t:Ty) (c:TV) (ft:FT) (cs:List Value) (k:t.ai->Option Z) (r:Z),a1 A w R c t ft cs->(∀b∈ft.ae,j b)->eK t c k=some r->
 ∃x,k x=some r/\Rd w j t x cs:=by
 have cast:∀(t u:Ty) (x:u.ai) (k:t.ai->Option Z) (r:Z),(∃y,cG u t x=some y/\k y=some r)->∃e:u=t,k (e▸x)=some r:=by
  intro t u x k r h;obtain ⟨y,O,h⟩:=h;obtain ⟨e,rfl⟩:=eO O;exact ⟨e,h⟩
 have ab:∀(t u:Ty) (x:u.ai) (ft:FT) (cs:List Value) (k:t.ai->Option Z) (r:Z),a1 A w R (.ab u x) t ft cs->(∀b∈ft.ae,j b)->(∃y,cG u t x=some y/\k y=some r)->∃x,k x=some r/\Rd w j t x cs:=by
  intro t u x ft cs k r f g h;obtain ⟨e,h⟩:=cast t u x k r h;subst e;exact ⟨x,h,bd.rd _ _ _ _ g f.2⟩
 have ad:∀(t u:Ty) (x:u.ai) (ft:FT) (cs:List Value) (k:t.ai->Option Z) (r:Z),a1 A w R (.ad u x) t ft cs->(∃y,cG u t x=some y/\k y=some r)->∃x,k x=some r/\Rd w j t x cs:=by
  intro t u x ft cs k r f h;obtain ⟨e,h⟩:=cast t u x k r h;subst e;exact ⟨x,h,Rd.bT I (λ_ _=>rfl) _ _ _ f.2.2⟩
 intro t
 induction t with
 |slice t _=>
  intro c ft cs k r f g h;cases c with
  |ab u x=>exact ab _ u x ft cs k r f g (by simp only [eK] at h;grind)
  |ad u x=>exact ad _ u x ft cs k r f (by simp only [eK] at h;grind)
  |nil=>
   simp only [eK] at h;obtain ⟨_,_,_,K⟩:=f;exact ⟨_,h,none,0,K,⟨cV _,bL _⟩,λJ=>absurd rfl J⟩
  |_=>simp [eK] at h
 |cons t u U W=>
  intro c ft cs k r f g h;cases c with
  |ab u x=>exact ab _ u x ft cs k r f g (by simp only [eK] at h;grind)
  |ad u x=>exact ad _ u x ft cs k r f (by simp only [eK] at h;grind)
  |cons c d=>
   simp only [eK] at h;obtain ⟨q,n,o,rfl,_,C,D⟩:=f;obtain ⟨x,v,X⟩:=U c ft.fst n _ r C (λb l=>g b (by rw [q];simp [l])) h;obtain ⟨y,z,aa⟩:=W d ft.snd o _ r D (λb l=>g b (by rw [q];simp [l])) v;exact ⟨(x,y),z,n,o,rfl,X,aa⟩
  |_=>simp [eK] at h
 |unit=>
  intro c ft cs k r f g h;cases c with
  |ab u x=>exact ab _ u x ft cs k r f g (by simp only [eK] at h;grind)
  |ad u x=>exact ad _ u x ft cs k r f (by simp only [eK] at h;grind)
  |unit=>
   simp only [eK] at h;exact ⟨_,h,rfl,trivial,f.2.2⟩
  |_=>simp [eK] at h
 |_=>
  intro c ft cs k r f g h;cases c with
  |ab u x=>exact ab _ u x ft cs k r f g (by simp only [eK] at h;grind)
  |ad u x=>exact ad _ u x ft cs k r f (by simp only [eK] at h;grind)
  |_=>simp [eK] at h
end
section
variable {Z:Type} {P:Program} {E:an} {F:Fr} {G:Nat->Gh} {s s2:St} {a:Act} {w w2:World} {Q:Exit->Act->World->Prop}
def L4 (h:aC F G s a w) {m:PM} {v:TV} {x:Value} (K:VR (ax s.box G) w F.R v x) {k:D->Option Z} {r:Z} (hk:fU s m v k=some r):
 ∃d,k d=some r/\zg w (RR F G s) m d x:=by
 have I:∀b,F.R b->RR F G s b:=λb q=>.inl q
 cases m with
 |ro t=>
  simp only [fU] at hk;obtain ⟨ai,aj,ak⟩:=Nc t v _ r hk;obtain ⟨cs,ay,X⟩:=K.cells aj ak;obtain ⟨y,e,C⟩:=F6 h t v cs _ r ay hk;exact ⟨⟨t,y⟩,e,rfl,dF (v:=.ad t y) C (by rw [ai] at X;exact X)⟩
 |bw t=>
  cases v with
  |bw u y=>
   simp only [fU] at hk;split at hk;rename_i z au;obtain ⟨rfl,rfl⟩:=eO au;obtain ⟨f,off,c,O,al,am,ar⟩:=K.b3 (by simp) (by simp) rfl;exact ⟨_,hk,rfl,dF (v:=.bw u y) (cs:=[x]) ⟨f,off,c,O,I _ al,am,Rd.bT I (λ_ _=>rfl) _ _ _ ar⟩ rfl⟩;cases hk
  |ref b p=>
   simp only [fU] at hk;unfold b5 at hk;split at hk
   ·rename_i bx g
    try dsimp only at hk
    split at hk;rotate_left;cases hk;rename_i J;have J:cD bx.ty p=some t:=e7 J;obtain ⟨a2,ft,f,off,n,O⟩:=K.b3 (by simp) (by simp) rfl;obtain ⟨ab,ap,ao⟩:=(h.box b bx g).fa;obtain ⟨c',u,ah,a',U,ac,l,af,ag⟩:=a1.get bx.c bx.ty (G b).ft ab ((G b).bj.map (·,0)) p _ r ap (λj o e=>(ao j o e).1) hk;rw [fu g,l] at n;simp only [aX,bk] at n;obtain ⟨rfl,rfl,rfl⟩:=n;obtain ⟨s1,aw⟩:=fR _ _ _ _ l;have aq:f∈(G b).ae:=by
     simp only [Gh.ae,bp];rcases aw with ⟨aa,a0,e0,az,_⟩|⟨d,e0,_⟩
     simp_all;cases q:(G b).bj with
     |none=>rw [q] at e0;cases e0
     |some aa=>simp_all
    have W:=Sn _ _ _ _ l;rw [J] at W;obtain rfl:=b2 W;obtain ⟨y,av,C⟩:=aff I t c' ah U _ r af (λj an=>.inr ⟨b,bx,g,by simp only [Gh.ae,bp];exact .inr (s1 j an)⟩) ac;exact ⟨⟨t,y⟩,av,rfl,dF (v:=.bw t y) (cs:=[x]) ⟨f,off,U,O,.inr ⟨b,bx,g,aq⟩,ag _ _ rfl,C⟩ rfl⟩
   cases hk
  |_=>simp [fU] at hk
 |_=>simp [fU] at hk
end
section
variable {Z:Type} {P:Program} {E:an} {F:Fr} {G:Nat->Gh} {s s2:St} {a:Act} {w w2:World} {Q:Exit->Act->World->Prop}
theorem Uq {A:b0} {R:Nat->Prop}:∀(c:TV) (xs:List Value) (l:List TV),bH A w R c xs->c.oD=some l->dq A w R l xs:=by
 intro c
 induction c with
 |unit=>
  intro xs l h b;simp only [TV.oD,aX] at b;subst b;rw [show xs=[] from h];trivial
 |cons a r _ q=>
  intro xs l h b;obtain ⟨f,g,rfl,d,j⟩:=h;simp only [TV.oD] at b;split at b;rename_i e;split at b;rename_i u n;simp only [aX] at b;subst b;have o:∃x,f=[x]:=by
   cases a<;>simp [TV.LP] at e
   obtain ⟨_,_,_,_,_,rfl⟩:=d;exact ⟨_,rfl⟩;obtain ⟨_,_,_,rfl,_⟩:=d;exact ⟨_,rfl⟩
  obtain ⟨x,rfl⟩:=o;refine ⟨dF d ?_,q g u j n⟩;cases a<;>simp [TV.LP] at e<;>rfl
  cases b;cases b
 |_=>intro xs l h b;simp [TV.oD] at b
theorem ahb (h:aC F G s a w):∀(c:List PM) (vs:List TV) (xs:List Value) (k:List D->Option Z) (r:Z),dq (ax s.box G) w F.R vs xs->tK s c vs k=some r->
 ∃ds,k ds=some r/\u0 w (RR F G s) c ds xs:=by
 intro c
 induction c with
 |nil=>
  intro vs xs k r b hk
  match vs,xs,b,hk with
  |[],[],_,hk=>exact ⟨[],hk,trivial⟩
  |_::_,_,_,hk=>simp [tK] at hk
 |cons m c l=>
  intro vs xs k r b hk
  match vs,xs,b,hk with
  |[],_,_,hk=>simp [tK] at hk
  |_::_,[],b,_=>exact b.elim
  |v::vs,x::xs,b,hk=>
   simp only [tK] at hk;obtain ⟨d,g,e⟩:=L4 h b.1 hk;obtain ⟨ds,j,f⟩:=l vs xs _ r b.2 g;exact ⟨d::ds,j,e,f⟩
end
section
variable {Z:Type} {P:Program} {E:an} {F:Fr} {G G1:Nat->Gh} {s s1:St} {a:Act} {w w2:World} {Q:Exit->Act->World->Prop}
def ahf (h:aC F G1 s1 a w) {m:PM} {v0 v:TV} {x:Value} {g:Gh} (c:wX (ax s1.box G1) w F.R G s m v0 v x g) {k:List D->Option Z} {r:Z} (hk:jx s1 m v k=some r):
 ∃ds,k ds=some r/\zf w (RR F G1 s1) m ds x g:=by
 cases m with
 |ptr t=>
  obtain ⟨b,bx,y,rfl,rfl,j,_⟩:=c;simp only [jx,decide_true,cu] at hk;exact ⟨_,hk,rfl,j⟩
 | «mut» t=>
  obtain ⟨u,y,rfl,rfl,o,j,_⟩:=c;simp only [jx,decide_true,cu] at hk;exact ⟨_,hk,rfl,⟨u,rfl⟩,o,j⟩
 |ab t=>
  obtain ⟨u,y,rfl,rfl,o,j⟩:=c;simp only [jx,decide_true,cu] at hk;exact ⟨_,hk,rfl,⟨u,rfl⟩,o,j⟩
 |ro t=>
  obtain ⟨n,rfl⟩:=c;have hk:fU s1 (.ro t) v (λd=>k [d])=some r:=hk;obtain ⟨d,hk,q⟩:=L4 h n hk;exact ⟨_,hk,rfl,q⟩
 |bw t=>
  obtain ⟨n,rfl⟩:=c;have hk:fU s1 (.bw t) v (λd=>k [d])=some r:=hk;obtain ⟨d,hk,q⟩:=L4 h n hk;exact ⟨_,hk,rfl,q⟩
 |bY f O=>
  obtain ⟨n,rfl⟩:=c;cases v with
  |bY U z=>
   simp only [jx] at hk;split at hk;rename_i e;have e:=gj e;subst e;split at hk;rename_i l I;obtain ⟨vs,J,K⟩:=n.b3 (by simp) (by simp) rfl;obtain ⟨ds,hk,C⟩:=ahb h O l vs _ r (Uq z vs l J I) hk;exact ⟨ds,hk,rfl,vs,(hq K).1,C⟩;cases hk;cases hk
  |_=>simp [jx,fU] at hk
def aha (h:aC F G1 s1 a w):∀(e:List PM) (d vs:List TV) (xs:List Value) (c:List Gh) (k:List D->Option Z) (r:Z),pr (ax s1.box G1) w F.R G s e d vs xs c->iI s1 e vs k=some r->
 ∃ds,k ds=some r/\lE w (RR F G1 s1) e ds xs c:=by
 intro e
 induction e with
 |nil=>
  intro d vs xs c k r b hk
  match d,vs,xs,c,b,hk with
  |[],[],[],[],_,hk=>exact ⟨[],hk,trivial⟩
 |cons m e u=>
  intro d vs xs c k r b hk
  match d,vs,xs,c,b,hk with
  |v0::d,v::vs,x::xs,g::c,b,hk=>
   simp only [iI] at hk;obtain ⟨f,o,l⟩:=ahf h b.1 hk;obtain ⟨j,q,n⟩:=u d vs xs c _ r b.2 o;exact ⟨f++j,q,f,j,rfl,l,n⟩
  |[],_,_,_,b,_=>exact b.elim
  |_::_,[],_,_,b,_=>exact b.elim
  |_::_,_::_,[],_,b,_=>exact b.elim
  |_::_,_::_,_::_,[],b,_=>exact b.elim
end
section
variable {Z:Type} {P:Program} {E:an} {F:Fr} {G:Nat->Gh} {s:St} {a:Act} {w w2:World} {Q:Exit->Act->World->Prop}
theorem Gf (t:Ty) (ft f:FT):bC t ft [] f=f:=by cases t<;>rfl
def Sz (h:aC F G s a w) {b:Nat} {bx:bl} (g:s.box b=some bx) (l:bx.cn=false) (ag:fM w w2) (q:∀b,F.R b->w2.heap[b]?=w.heap[b]?)
 (K:∀j y,j≠b->s.box j=some y->∀d∈(G j).ae,w2.heap[d]?=w.heap[d]?) (O:∀d,d<F.w0.heap.size->d∉F.M->w2.heap[d]?=w.heap[d]?)
 {g':Gh} {t:Ty} {x:t.ai} {X:Value} (aj:g'.bj=(G b).bj) (af:sG w2 t x g' X) (C:bx.ty=t) (z:g'.ae.Nodup)
 (aa:∀d∈g'.ft.ae,d∈(G b).ft.ae\/∀j y,s.box j=some y->d∉(G j).ae) (ac:∀d∈g'.ft.ae,¬F.R d/\d<w2.heap.size/\(d∈F.M\/F.w0.heap.size<=d)):
 aC F (λj=>if j=b then ⟨(G b).bj,g'.ft⟩ else G j) ((s.b4 b {bx with c:=.ab t x}).aw b []) a w2:=by
 have n:ax s.box G b []=some (bx.ty,(G b).ft,(G b).bj.map (·,0)):=p4 g;have o:(λj=>if j=b then (⟨(G b).bj,g'.ft⟩:Gh) else G j)=λj=>if j=b then ⟨(G b).bj,bC bx.ty (G b).ft [] g'.ft⟩ else G j:=by
  funext j;rw [Gf]
 have r:=k1 g (.ab t x) [];have u:=tf (f:=g'.ft) (c':=(TV.ab t x).aw b []) (kl:=λv=>v.aw b []) g n o r;have ad:g'.ft.ae.Nodup:=by
  simp only [Gh.ae,cv] at z;exact z.2.1
 refine h.xR g n (λv=>v.aw b []) o (x2 _ b []) (yL _ b []) (yM _ b []) r (λv y l=>VR.aw u q l) (λc t ft cs U W=>a1.aw u q c t ft cs U W) ?_ ag K O ad aa ac (λak al=>by simp_all);obtain ⟨D,row,e,ah,_,I,J,h4⟩:=af;unfold dw;rw [au (show ¬(bx.with ((TV.ab t x).aw b [])).cn=true from by simp [bl.with,l])];refine ⟨D,row,e,?_,I,J.trans (dB Ty.size C.symm),?_⟩;simp_all;simp only [cu];exact ⟨C.symm,h4⟩
end
def aen {f:FT} {u:Ty} {x:FT} (H:∀(a:Option (Nat×Nat)) (q:aM) {v:Ty} {g:FT} {h:Option (Nat×Nat)},ak u x a q=some (v,g,h)->∃l,ak u f a q=some (v,l,h)/\fj v l=fj v g):
 ∀(t:Ty) (ft:FT) (a:Option (Nat×Nat)) (p q:aM) {v:Ty} {g:FT} {j h:Option (Nat×Nat)},
 ak t ft a p=some (u,x,j)->ak t ft a q=some (v,g,h)->
 ∃l,ak t (bC t ft p f) a q=some (v,l,h)/\fj v l=fj v g:=by
 intro t;have o:∀(t:Ty) (ft:FT) (a:Option (Nat×Nat)) (q:aM) {v:Ty} {g:FT} {j h:Option (Nat×Nat)},
  ak t ft a []=some (u,x,j)->ak t ft a q=some (v,g,h)->∃l,ak t f a q=some (v,l,h)/\fj v l=fj v g:=by
  intro t ft a q v g j h d c;have e:ak t ft a []=some (t,ft,a):=by cases t<;>rfl
  simp_all
 induction t with
 |cons t r z J=>
  intro ft a p q v g j h d c
  match p,d with
  |[],d=>exact o _ _ _ _ d c
  | .i n::p,d=>simp [ak] at d
  | .f 0::p,d=>
   match q,c with
   |[],c=>simp only [ak,aX,bk] at c;obtain ⟨rfl,rfl,rfl⟩:=c;exact ⟨_,rfl,rfl⟩
   | .i n::q,c=>simp [ak] at c
   | .f 0::q,c=>
    simp only [ak] at d c;simpa [ak,bC,FT.fst] using z _ _ p q d c
   | .f (n+1)::q,c=>simp only [ak] at c;exact ⟨g,by simpa [ak,bC,FT.snd] using c,rfl⟩
  | .f (m+1)::p,d=>
   match q,c with
   |[],c=>simp only [ak,aX,bk] at c;obtain ⟨rfl,rfl,rfl⟩:=c;exact ⟨_,rfl,rfl⟩
   | .i n::q,c=>simp [ak] at c
   | .f 0::q,c=>simp only [ak] at c;exact ⟨g,by simpa [ak,bC,FT.fst] using c,rfl⟩
   | .f (n+1)::q,c=>
    simp only [ak] at d c;have:=J _ _ (.f m::p) (.f n::q) d c;simp only [ak,bC,FT.snd];exact this
 |slice t z=>
  intro ft a p q v g j h d c
  match p,d with
  |[],d=>exact o _ _ _ _ d c
  | .f n::p,d=>simp [ak] at d
  | .i n::p,d=>
   match ft,d,c with
   | .leaf,d,_=>simp [ak] at d
   | .eE _ _,d,_=>simp [ak] at d
   | .node none _ _,d,_=>simp [ak] at d
   | .node (some b) cap D,d,c=>
    simp only [ak] at d;split at d;rename_i kn hk
    match q,c with
    |[],c=>
     simp only [ak,aX,bk] at c;obtain ⟨rfl,rfl,rfl⟩:=c;exact ⟨_,rfl,by simp [fj,FT.dy,bC,hk]⟩
    | .f n::q,c=>simp [ak] at c
    | .i m::q,c=>
     simp only [ak] at c;split at c;rename_i K C;by_cases I:m=n;subst I;rw [hk] at C;obtain rfl:=b2 C;have y:(D.set m (bC t kn p f))[m]?=some (bC t kn p f):=by
      grind
     simpa [ak,bC,hk,y] using z _ _ p q d c;have y:(D.set n (bC t kn p f))[m]?=some K:=by grind
     exact ⟨g,by simp only [bC,hk,ak,y];exact c,rfl⟩;cases c
    cases d
 |arr m t _=>
  intro ft a p q v g j h d c
  match p,d with
  |[],d=>exact o _ _ _ _ d c
  | .f n::p,d=>simp [ak] at d
  | .i n::s::p,d=>simp [ak] at d
  |[.i n],d=>
   have e:bC (.arr m t) ft [.i n] f=ft:=by cases ft<;>rfl
   simp_all
 |_=>
  intro ft a p q v g j h d c;cases p with
  |nil=>exact o _ _ _ _ d c
  |cons s p=>simp [ak] at d
def ahj {u:Ty} (C:u.aW=true) {b:Option Nat} {cap:Nat} {j c:List FT} (y:c.length=j.length) (a:Option (Nat×Nat)) (q:aM) {v:Ty} {e:FT} {d:Option (Nat×Nat)}
 (h:ak (.slice u) (.node b cap j) a q=some (v,e,d)):∃g,ak (.slice u) (.node b cap c) a q=some (v,g,d)/\fj v g=fj v e:=by
 match q,h with
 |[],h=>
  simp only [ak,aX,bk] at h;obtain ⟨rfl,rfl,rfl⟩:=h;exact ⟨_,rfl,by simp [fj,FT.dy,y]⟩
 | .f n::q,h=>simp [ak] at h
 | .i n::q,h=>
  cases b with
  |none=>simp [ak] at h
  |some b=>
   simp only [ak] at h;split at h;rename_i k hk;have z:n<c.length:=by grind
   obtain ⟨o,r⟩:=UT _ _ _ _ C h;obtain ⟨l,x⟩:=r c[n];exact ⟨l,by simp only [ak,ba z];exact x,Va o _ _⟩;cases h
section
variable {Z:Type} {P:Program} {E:an} {F:Fr} {G:Nat->Gh} {s:St} {a:Act} {w w2:World} {Q:Exit->Act->World->Prop}
def ag5 {i:Nat} {x:bl} (C:s.box i=some x) {p:aM} {u:Ty} {b:FT} {g:Option (Nat×Nat)}
 (I:ax s.box G i p=some (u,b,g)) {f:FT} (H:∀(a:Option (Nat×Nat)) (q:aM) {v:Ty} {n:FT} {l:Option (Nat×Nat)},ak u b a q=some (v,n,l)->∃o,ak u f a q=some (v,o,l)/\fj v o=fj v n)
 {s2:St} {d:Nat->Gh} {c':TV} {kl:TV->TV}
 (K:d=λj=>if j=i then ⟨(G i).bj,bC x.ty (G i).ft p f⟩ else G j)
 (r:∀j,s2.box j=if j=i then some (x.with c') else (s.box j).map λy=>y.with (kl y.c)):hP (ax s.box G) (ax s2.box d):=by
 subst K;intro c q t ft aP h;have J:ak x.ty (G i).ft ((G i).bj.map (·,0)) p=some (u,b,g):=by rw [<-fu C];exact I
 by_cases e:i=c;subst e;rw [fu C] at h;have z:ax s2.box (λj=>if j=i then ⟨(G i).bj,bC x.ty (G i).ft p f⟩ else G j) i q=ak x.ty (bC x.ty (G i).ft p f) ((G i).bj.map (·,0)) q:=by
  simp [ax,r,bl.with]
 rw [z];exact aen H x.ty (G i).ft _ p q J h;have z:ax s2.box (λj=>if j=i then ⟨(G i).bj,bC x.ty (G i).ft p f⟩ else G j) c q=ax s.box G c q:=by
  have D:¬c=i:=λh=>e h.symm
  simp only [ax,r,D,c2];cases s.box c<;>rfl
 simp_all
end
section
variable {Z:Type} {P:Program} {E:an} {F:Fr} {G:Nat->Gh} {s:St} {a:Act} {w w2:World} {Q:Exit->Act->World->Prop}
def aC.Sy (h:aC F G s a w) {b:Nat} {p:aM} {x:bl} (u:s.box b=some x) (aO:aM.dC p=false) {t:Ty} {y:(Ty.slice t).ai} {l f:FT} {I:Option (Nat×Nat)} {v:Value}
 (ac:ax s.box G b p=some (.slice t,l,I)) (D:∀d o,I=some (d,o)->At w d o 1 [v]) (am:bd w2 (.slice t) y f [v])
 (aY:fM w w2) (ag:∀b,F.R b->w2.heap[b]?=w.heap[b]?)
 (a2:∀j z,j≠b->s.box j=some z->∀d∈(G j).ae,w2.heap[d]?=w.heap[d]?) (ad:∀d∈(G b).ae,d∉l.ae->w2.heap[d]?=w.heap[d]?)
 (a3:∀d,d<F.w0.heap.size->d∉F.M->w2.heap[d]?=w.heap[d]?)
 (aP:f.ae.Nodup) (aQ:∀d∈f.ae,d∈l.ae\/∀j z,s.box j=some z->d∉(G j).ae) (aR:∀d∈f.ae,¬F.R d/\d<w2.heap.size/\(d∈F.M\/F.w0.heap.size<=d))
 (aT:f.dy=l.dy) (kl:TV->TV) (s2:St) (c':TV)
 (aS:∀n,s2.get n=kl (s.get n)) (aX:∀i n,s2.fZ i n=kl (s.fZ i n)) (aU:s2.sv.length=s.sv.length) (aA:∀j,s2.box j=if j=b then some (x.with (kl c')) else (s.box j).map λy=>y.with (kl y.c))
 (a4:∀v y,VR (ax s.box G) w F.R v y->VR (ax s2.box (λj=>if j=b then ⟨(G b).bj,bC x.ty (G b).ft p f⟩ else G j)) w2 F.R (kl v) y)
 (af:∀(w':World),(∀b,F.R b->w'.heap[b]?=w.heap[b]?)->∀c t ft cs,(∀b∈ft.ae,w'.heap[b]?=w.heap[b]?)->a1 (ax s.box G) w F.R c t ft cs->a1 (ax s2.box (λj=>if j=b then ⟨(G b).bj,bC x.ty (G b).ft p f⟩ else G j)) w' F.R (kl c) t ft cs)
 (ah:∀{Y:Type} (k':TV->Option Y),bP (kl x.c) p (.ab (.slice t) y) k'=k' (kl c')):
 aC F (λj=>if j=b then ⟨(G b).bj,bC x.ty (G b).ft p f⟩ else G j) s2 a w2:=by
 have J:ak x.ty (G b).ft ((G b).bj.map (·,0)) p=some (.slice t,l,I):=by rw [<-fu u];exact ac
 obtain ⟨s1,bu⟩:=fR _ _ _ _ J;have al:=h.b7 b x u;simp only [Gh.ae,cv] at al;obtain ⟨bs,aZ,ao⟩:=al;obtain ⟨bh,bq,aH⟩:=(h.box b x u).fa;have aj:∀g,(G b).bj=some g->w2.heap[g]?=w.heap[g]?:=λg e=>ad g (by simp [Gh.ae,e]) (λC=>ao g (by simp [e]) g (s1 g C) rfl)
 have an:x.cn=true->(G b).bj=none/\p=[]/\x.ty=.slice t/\l=(G b).ft:=by
  intro D;have:=h.box b x u;unfold dw at this;rw [ay D] at this;obtain ⟨bo,⟨ar,a0⟩,_⟩:=this;rw [a0] at J|-;cases p with
  |nil=>
   have bi:ak (.slice ar) (G b).ft ((G b).bj.map (·,0)) []=some (.slice ar,(G b).ft,(G b).bj.map (·,0)):=rfl;simp_all
  |cons q p=>cases q<;>simp [ak,aM.dC] at J aO
 refine h.xR u ac kl rfl aS aX aU aA a4 (λc t ft cs a6 aL=>af w2 ag c t ft cs a6 aL) ?_ aY a2 a3 aP aQ aR (λ_ D=>by
  obtain ⟨_,rfl,e,aa⟩:=an D;rw [Gf,aT,aa])
 unfold dw;by_cases K:x.cn=true;obtain ⟨aJ,rfl,X,aa⟩:=an K;rw [ay (show (x.with (kl c')).cn=true from K)];refine ⟨by simpa using aJ,⟨t,X⟩,[v],?_⟩;have av:∀{Y:Type} (c v:TV) (k:TV->Option Y),bP c [] v k=k v:=by intro Y c v k;cases c<;>rfl
 have:=ah some;rw [av] at this;have aK:kl c'=.ab (.slice t) y:=(b2 this).symm;change a1 _ w2 F.R (kl c') x.ty _ [v];rw [aK];simp only [cu,Gf];exact ⟨X.symm,am⟩;rw [au (show ¬(x.with (kl c')).cn=true from K)];have U:=h.box b x u;unfold dw at U;rw [au K] at U;obtain ⟨g,row,e,r,aD,aF,aG⟩:=U;have a7:∃o,I=some (g,o):=by
  grind
 obtain ⟨o,rfl⟩:=a7;have aI:g∉(G b).ft.ae:=λC=>ao g (by simp [r]) g C rfl
 have a8:At w g o 1 [v]:=D g o rfl;have a5:Wr w w2 g o (Ty.slice t).size [v]:=by
  obtain ⟨ap,be,bf,O,fz,aq,ba,bb,bc⟩:=Wr.refl a8;exact ⟨ap,be,bf,O,fz,aq,(aj g r).trans ba,bb,bc⟩
 have bp:At w g 0 x.ty.size row.toList:=(aH g 0 (by rw [r];rfl)).1|>λbr=>by
  simp_all
 have aN:a1 (ax s2.box (λj=>if j=b then ⟨(G b).bj,bC x.ty (G b).ft p f⟩ else G j)) w F.R (kl x.c) x.ty (G b).ft row.toList:=af w (λ_ _=>rfl) _ _ _ _ (λ_ _=>rfl) aG;obtain ⟨bg,W,aw,bm,bn,az⟩:=a1.set (v:=.ab (.slice t) y) (ft2:=f) a5 ⟨rfl,am⟩ (kl x.c) x.ty (G b).ft row.toList ((G b).bj.map (·,0)) p (λc=>some c) (kl c') aN
  (λd bt O=>by
   grind) aZ J (ah some) ⟨λd aB aV _=>ad d (by simp [Gh.ae,aB]) aV,λC=>aI (s1 g C),ag⟩
 obtain rfl:=b2 aw;have aE:w2.heap[g]?=some (.cells row e (0,0)):=(aj g r).trans aD;refine ⟨g,row,e,by simp [r],aE,aF,?_⟩;have a9:=az g 0 (by rw [r];rfl);have aW:W=row.toList:=by
  obtain ⟨nu,O,bk,ap,aq,rfl⟩:=a9
  grind
 rw [<-aW];change a1 _ w2 F.R (kl c') x.ty _ W
 grind
end
section
variable {Z:Type} {P:Program} {E:an} {F:Fr} {G:Nat->Gh} {s:St} {a:Act} {w w2:World} {Q:Exit->Act->World->Prop}
def ain {w w2:World} {t:Ty} {x y:(Ty.slice t).ai} {f g:FT} {v:Value} (h:bd w (.slice t) x f [v]) (j:bd w2 (.slice t) y g [v]):
 ∃b cap c d,f=.node b cap c/\g=.node b cap d/\d.length=c.length:=by
 obtain ⟨b,cap,c,rfl,e,_,_,q,_⟩:=h;obtain ⟨l,n,d,rfl,o,_,_,r,_⟩:=j
 grind
def JV (G:Nat->Gh) (s:St) (g g':List Nat) (c:Nat->Gh) (d:St):Prop:=
 ∀j y,d.box j=some y->∀b∈(c j).ae,b∈g'\/(b∉g/\∃i z,s.box i=some z/\b∈(G i).ae)
def aeA (h:aC F G s a w) {A:b0} {R:Nat->Prop} {m:PM} {v0 v:TV} {x:Value} {g g':Gh} (I:wX A w R G s m v0 v x g) (bd:m.fc=true)
 {a9 aA:List Gh} {vs:List Value} {aS:List PM} {ds:List D}
 (an:fM w w2) (ab:∀b,F.R b->w2.heap[b]?=w.heap[b]?)
 (aj:∀j z,s.box j=some z->∀b∈(G j).ae,b∉g.ae->w2.heap[b]?=w.heap[b]?)
 (al:∀l,l<F.w0.heap.size->l∉F.M->w2.heap[l]?=w.heap[l]?) (aO:g'.ae.Nodup)
 (ba:∀b∈g'.ae,b∈g.ae\/∀j z,s.box j=some z->b∉(G j).ae)
 (aI:∀b∈g'.ae,¬F.R b/\b<w2.heap.size/\(b∈F.M\/F.w0.heap.size<=b))
 (U:kU w2 (m::aS) ds (x::vs) (g::a9) (g'::aA)) {k:St->List D->Option Z} {r:Z} (hk:eA s m v0 ds k=some r):
 ∃a4 a3 a5,k a3 a5=some r/\aC F a4 a3 a w2/\kU w2 aS a5 vs a9 aA/\JV G s g.ae g'.ae a4 a3:=by
 cases m with
 |ptr t=>
  obtain ⟨b,bx,y,rfl,rfl,aP,C,ai,bi,ac,bb⟩:=I;cases ds with
  |nil=>exact U.elim
  |cons d ds=>
   obtain ⟨⟨ad,am,ah⟩,U⟩:=U;simp only [eA] at hk;rw [ay (by simp [ad])] at hk;unfold b5 at hk;rw [C] at hk;have X:g.ae=(G b).ae:=by simp [Gh.ae,ac,bb]
   have hrel:=Sz (t:=d.t) (x:=d.x) h C ai an ab (λj y O J l o=>aj j y J l o (λI=>h.c6 j b y bx J C O l o (X▸I))) al (am.trans ac) ah (bi.trans ad.symm) aO
    (λl o=>by
     rcases ba l (by simp [Gh.ae,o]) with K|K
     left;rw [X] at K;simp only [Gh.ae,bp] at K;rcases K with K|K
     exfalso;simp only [Gh.ae,cv] at aO
     grind
     exact K;exact .inr K)
    (λl o=>aI l (by simp [Gh.ae,o]))
   refine ⟨_,_,ds,hk,hrel,U,λj y J l o=>?_⟩;rw [k1 C] at J;by_cases e:j=b;subst e;left;simp only [cu] at o;have:(⟨(G j).bj,g'.ft⟩:Gh).ae=g'.ae:=by simp [Gh.ae,am,ac]
   simp_all;right;simp only [e,c2] at o J;cases O:s.box j with
   |none=>rw [O] at J;cases J
   |some z=>exact ⟨λI=>h.c6 j b z bx O C e l o (X▸I),j,z,O,o⟩
 | «mut» t=>
  obtain ⟨u,y,rfl,rfl,ac,aP,bg⟩:=I;cases ds with
  |nil=>exact U.elim
  |cons d ds=>
   obtain ⟨⟨ad,am,ah⟩,U⟩:=U;obtain ⟨aX,bn⟩:=d;have ad:aX=.slice u:=ad;subst ad;rcases bg with ⟨rfl,bf⟩|⟨b,p,bx,aU,rfl,C,aH,af,aF⟩
   simp only [eA] at hk;have aK:g.ae=[]:=by simp [Gh.ae,ac,bf]
   refine ⟨G,s,ds,hk,h.shift an ab (λj z aa b ag=>aj j z aa b ag (by simp [aK])) al,U,λj y J b ag=>.inr ⟨by simp [aK],j,y,J,ag⟩⟩;simp only [eA,decide_true,cu] at hk;unfold b5 at hk;rw [C] at hk;simp only at hk;have X:g.ae=g.ft.ae:=by simp [Gh.ae,ac]
   have bc:g'.ae=g'.ft.ae:=by simp [Gh.ae,am]
   have aB:ak bx.ty (G b).ft ((G b).bj.map (·,0)) p=some (.slice u,g.ft,aU):=by rw [<-fu C];exact af
   obtain ⟨bk,_⟩:=fR _ _ _ _ aB;have aM:∀l∈g.ae,l∈(G b).ae:=λl I=>by rw [X] at I;simp only [Gh.ae,bp];exact .inr (bk l I)
   obtain ⟨bm,cap,br,bs,a6,a7,a8⟩:=ain aP ah;have aE:∀j z,j≠b->s.box j=some z->∀l∈(G j).ae,w2.heap[l]?=w.heap[l]?:=λj z O aa l o=>aj j z aa l o (λI=>h.c6 j b z bx aa C O l o (aM l I))
   have aD:∀l∈(G b).ae,l∉g.ft.ae->w2.heap[l]?=w.heap[l]?:=λl o be=>aj b bx C l o (by rw [X];exact be)
   have av:g'.ft.ae.Nodup:=by simp_all
   have au:∀l∈g'.ft.ae,l∈g.ft.ae\/∀j z,s.box j=some z->l∉(G j).ae:=λl I=>by simp_all
   have aJ:∀l∈g'.ft.ae,¬F.R l/\l<w2.heap.size/\(l∈F.M\/F.w0.heap.size<=l):=λl I=>aI l (by rw [bc];exact I)
   have aL:g'.ft.dy=g.ft.dy:=by rw [a6,a7];simp [FT.dy,a8]
   have az:=h.b7 b bx C;simp only [Gh.ae,cv] at az;have aR:∀(s2:St),(∀j y,s2.box j=some y->∃z,s.box j=some z)->JV G s g.ae g'.ae (λj=>if j=b then ⟨(G b).bj,bC bx.ty (G b).ft p g'.ft⟩ else G j) s2:=by
    intro s2 bh j y J l o;obtain ⟨z,aa⟩:=bh j y J;by_cases e:j=b;subst e;simp only [cu,Gh.ae,bp] at o;obtain ⟨_,aV⟩:=Ge bx.ty (G j).ft _ p g'.ft aB az.2.1 av (λb ag=>(au b ag).imp id λaZ aY=>aZ j bx C (by simp [Gh.ae,aY]));rcases o with I|I
    exact .inr ⟨λbq=>az.2.2 l I l (by simp_all) rfl,j,bx,C,by simp only [Gh.ae,bp];exact .inl I⟩;rcases aV l I with K|K
    simp_all;exact .inr ⟨by rw [X];exact K.2,j,bx,C,by simp only [Gh.ae,bp];exact .inr K.1⟩;simp only [e,c2] at o;exact .inr ⟨λI=>h.c6 j b z bx aa C e l o (aM l I),j,z,aa,o⟩
   by_cases a0:u.aW=true;obtain ⟨c',ao,a2⟩:=Nn _ _ _ _ _ hk;simp only [a0,cu] at ao;have W:∀j,(s.b4 b {bx with c:=c'}).box j=if j=b then some (bx.with c') else (s.box j).map λy=>y.with y.c:=Eo C c'
   have aN:hP (ax s.box G) (ax (s.b4 b {bx with c:=c'}).box (λj=>if j=b then ⟨(G b).bj,bC bx.ty (G b).ft p g'.ft⟩ else G j)):=
    ag5 C af (λaT q v bo bl aQ=>by rw [a6] at aQ;rw [a7];exact ahj a0 a8 aT q aQ) rfl (kl:=id) W
   refine ⟨_,_,ds,ao,h.Sy C aH af aF ah an ab aE aD al av au aJ aL id _ c' (λn=>rfl) (λ_ _=>rfl) rfl W (λv y ai=>VR.mono aN ab ai) (λw' ap c t ft cs aq ar=>a1.mono aN ap c t ft cs aq ar) a2,U,aR _ (λj y J=>?_)⟩;rw [W] at J;by_cases e:j=b;simp_all;simp only [e,c2] at J;cases O:s.box j with
   |none=>rw [O] at J;cases J
   |some z=>exact ⟨z,rfl⟩
   simp only [a0,ie,c2] at hk;obtain ⟨c',ao,a2⟩:=Nm b p _ _ _ _ _ hk;have W:=k1 C c' p;have aG:=tf (f:=g'.ft) (kl:=λv=>v.aw b p) C af rfl W;refine ⟨_,_,ds,ao,h.Sy C aH af aF ah an ab aE aD al av au aJ aL (λv=>v.aw b p) _ c' (x2 _ b p) (yL _ b p) (yM _ b p) W (λv y ai=>VR.aw aG ab ai) (λw' ap c t ft cs aq ar=>a1.aw aG ap c t ft cs aq ar) a2,U,aR _ (λj y J=>?_)⟩;rw [W] at J;by_cases e:j=b;simp_all;simp only [e,c2] at J;cases O:s.box j with
   |none=>rw [O] at J;cases J
   |some z=>exact ⟨z,rfl⟩
 |_=>simp [PM.fc] at bd
end
section
variable {Z:Type} {P:Program} {E:an} {F:Fr} {G:Nat->Gh} {s:St} {a:Act} {w w2:World} {Q:Exit->Act->World->Prop}
def oX:List PM->Bool
 |[]=>true
 |m::b=>if m.fc then !(b.any PM.fc) else oX b
def ajO:∀(e:List PM) (s:St) (vs:List TV) (k:St->List TV->(TV->TV)->Option Z) (r:Z),cH s e vs k=some r->oX e=true:=by
 intro e
 induction e with
 |nil=>intros;rfl
 |cons m e g=>
  intro s vs k r hk;cases vs with
  |nil=>simp [cH] at hk
  |cons v vs=>
   cases m with
   |ptr t=>
    cases v with
    |ref b p=>
     cases p with
     |nil=>
      simp only [cH] at hk;unfold b5 at hk;split at hk
      try dsimp only at hk
      split at hk;cases hk;rename_i d;simp only [fC,gN,jf] at d;simp [oX,PM.fc,d.1.2];cases hk
     |cons _ _=>simp [cH] at hk
    |_=>simp [cH] at hk
   | «mut» t=>
    cases t with
    |slice t=>
     cases v with
     |nil=>
      simp only [cH] at hk;split at hk;cases hk;rename_i d;simpa [oX,PM.fc] using d
     |sl b p=>
      simp only [cH] at hk;split at hk;cases hk;rename_i d;simp only [fC,gN,jf] at d;simp [oX,PM.fc,d.2]
     |_=>simp [cH] at hk
    |_=>simp [cH] at hk
   |ro t=>exact g s vs _ r (by simpa only [cH] using hk)
   |bw t=>exact g s vs _ r (by simpa only [cH] using hk)
   |ab t=>exact g s vs _ r (by simpa only [cH] using hk)
   |bY f c=>exact g s vs _ r (by simpa only [cH] using hk)
theorem El {m:PM} (b:m.fc=false) (v:TV) (ds:List D) (k:St->List D->Option Z):eA s m v ds k=k s ds:=by
 cases m<;>first|rfl|simp [PM.fc] at b
def aev:∀(b:List PM) (vs:List TV) (ds:List D) (s:St) (k:St->Option Z) (r:Z),b.any PM.fc=false->gB s b vs ds k=some r->k s=some r:=by
 intro b
 induction b with
 |nil=>
  intro vs ds s k r _ hk;cases vs<;>cases ds<;>first|exact hk|simp [gB] at hk
 |cons m b d=>
  intro vs ds s k r c hk;simp only [List.any_cons,Bool.or_eq_false_iff] at c;cases vs with
  |nil=>simp [gB] at hk
  |cons v vs=>
   simp only [gB] at hk;rw [El c.1] at hk
   grind
def ahS {m:PM} (e:m.fc=false) {d:List PM} {ds:List D} {v:Value} {vs:List Value} {g g':Gh} {b c:List Gh} (h:kU w (m::d) ds (v::vs) (g::b) (g'::c)):g'.ae=[]/\kU w d ds vs b c:=by
 cases m<;>first|exact h|simp [PM.fc] at e
theorem EX (g:Gh) (b:List Gh):bW (g::b)=g.ae++bW b:=by simp [bW]
def aey (h:aC F G s a w) {A:b0} {R:Nat->Prop} (ad:fM w w2) (ac:∀b,F.R b->w2.heap[b]?=w.heap[b]?)
 (ab:∀K,K<F.w0.heap.size->K∉F.M->w2.heap[K]?=w.heap[K]?):
 ∀(d:List PM) (q vs:List TV) (xs:List Value) (c f:List Gh) (ds:List D) (k:St->Option Z) (r:Z),pr A w R G s d q vs xs c->kU w2 d ds xs c f->oX d=true->
 (∀j z,s.box j=some z->∀b∈(G j).ae,b∉eD d c->w2.heap[b]?=w.heap[b]?)->(bW f).Nodup->
 (∀b∈bW f,b∈eD d c\/∀j z,s.box j=some z->b∉(G j).ae)->
 (∀b∈bW f,¬F.R b/\b<w2.heap.size/\(b∈F.M\/F.w0.heap.size<=b))->gB s d q ds k=some r->
 ∃J I,k I=some r/\aC F J I a w2/\JV G s (eD d c) (bW f) J I:=by
 intro d
 induction d with
 |nil=>
  intro q vs xs c f ds k r e l _ u _ _ _ hk
  match q,vs,xs,c,f,ds,e,l,hk with
  |[],[],[],[],[],[],_,_,hk=>
   exact ⟨G,s,hk,h.shift ad ac (λj z al b n=>u j z al b n (by simp [eD])) ab,λj y aa b n=>.inr ⟨by simp [eD],j,y,aa,n⟩⟩
  |[],[],[],[],_::_,[],_,l,_=>exact l.elim
  |[],[],[],[],_,_::_,_,_,hk=>simp [gB] at hk
 |cons m d am=>
  intro q vs xs c f ds k r e l W u U C O hk
  match q,vs,xs,c,f,e,l with
  |v0::q,v::vs,x::xs,g::c,g'::f,e,l=>
   simp only [gB] at hk;by_cases o:m.fc=true;simp only [oX,o,cu,hp] at W;have X:eD (m::d) (g::c)=g.ae:=by simp [eD,o,L5 d c W]
   rw [X] at u C|-;rw [EX] at U C O|-;obtain ⟨J,I,ah,an,af,ao,ag⟩:=aeA h e.1 o ad ac u ab (cv.1 U).1 (λb n=>C b (bp.2 (.inl n))) (λb n=>O b (bp.2 (.inl n))) l hk;exact ⟨J,I,aev d q ah I k r W an,af,λj y aa b n=>(ag j y aa b n).imp (λh=>bp.2 (.inl h)) id⟩;have o:m.fc=false:=by simpa using o
   rw [El o] at hk;obtain ⟨aj,ak⟩:=ahS o l;have X:eD (m::d) (g::c)=eD d c:=by simp [eD,o]
   have ai:bW (g'::f)=bW f:=by rw [EX,aj];rfl
   rw [X] at u C|-;rw [ai] at U C O|-;exact am q vs xs c f ds k r e.2 ak (by simpa [oX,o] using W) u U C O hk
  |[],_,_,_,_,e,_=>exact e.elim
  |_::_,[],_,_,_,e,_=>exact e.elim
  |_::_,_::_,[],_,_,e,_=>exact e.elim
  |_::_,_::_,_::_,[],_,e,_=>exact e.elim
  |_::_,_::_,_::_,_::_,[],_,l=>exact l.elim
theorem aeX (h:aC F G s a w) (ai:e8 P E) (a9:E.nt=F.nt) {f:Nat} {vs:List TV} {xs:List Value} (ap:dq (ax s.box G) w F.R vs xs) {dst:Option Nat} {k:St->Option Z} {r:Z}
 (aj:∀d,dst=some d->d<E.nt) (hk:iZ E s f vs dst k=some r):
 s3 P f xs.toArray w λe w'=>match e with
  | .returned v=>cf F k r (a.put dst v) w'
  |_=>False:=by
 unfold iZ at hk;split at hk;split at hk;cases hk;rename_i I az;refine (ai.inl f _ I az Z F G s a w vs xs _ r h ap hk).mono λe w' al=>?_
 cases e with
 |returned v=>
  obtain ⟨ad,aK,tv,ag,aL,k'⟩:=al;cases dst with
  |none=>exact ⟨ad,aK,ag,k'⟩
  |some d=>exact ⟨ad,_,ag.put (by simp_all) aL,k'⟩
 |_=>exact al.elim
 rename_i c a3;have aa:=ai.fn f _ c a3;obtain ⟨af,ar,aM,aP,aw,am,n,A0⟩:=ajT _ _ _ _ _ _ _ h ap hk;have aB:=ajO _ _ _ _ _ am;obtain ⟨G1,s1,aN,aQ,o,a6,u,ac,_,B,N⟩:=ajQ n.rel _ _ _ _ _ _ A0 am;obtain ⟨ds,W,a1⟩:=aha u.rel _ _ _ _ _ _ _ ac a6;rw [aa.L2] at W;split at W;cases W;rename_i aJ aq a5;have bQ:∀b∈bW o,¬F.R b/\b<w.heap.size/\(b∈F.M\/F.w0.heap.size<=b):=λb g=>by
  rcases (B b).1 g with g|g
  exact u.bQ b g;exact n.bQ b g
 have a4:∀b∈bW aw,b∉eD c.params o:=λb g a2=>by
  obtain ⟨i,x,C,l⟩:=u.js b a2;exact n.out b g i x C l
 have aD:xh w (RR F G1 s1) c ds xs o:=by
  refine ⟨a1,N n.b7 a4,λb g=>⟨?_,(bQ b g).2.1⟩,?_⟩;rintro (J|⟨i,x,C,l⟩);exact (bQ b g).1 J;rcases (B b).1 g with g|g
  exact u.out b g i x C l;obtain ⟨aG,x',aE,ab⟩:=u.eY.sub i x C b l;exact n.out b g aG x' aE ab;rintro b (J|⟨i,x,C,l⟩);exact h.o6 J;exact (u.rel.bQ i x C b l).2.1
 refine (aa.Up w _ ds xs o aJ aq aD a5).mono λe w' ak=>?_
 cases e with
 |returned v=>
  obtain ⟨ah,X,D⟩:=ak;have a8:∀b,F.R b->b∉bW o:=λb g l=>(bQ b l).1 g
  have J:∀b,F.R b->w'.heap[b]?=w.heap[b]?:=λb g=>D.bT b (h.o6 g) (a8 b g)
  have a0:∀U,U<F.w0.heap.size->U∉F.M->w'.heap[U]?=w.heap[U]?:=λb g l=>D.bT b (kJ g h.size) (λab=>by
   grind)
  have ay:∀j z,ar.box j=some z->∀b∈(af j).ae,b∉eD c.params o->w'.heap[b]?=w.heap[b]?:=λj z K b g a7=>D.bT b (n.rel.bQ j z K b g).2.1 (λl=>by
   rcases (B b).1 l with q|q
   exact a7 q;exact n.out b q j z K g)
  have an:=cv.1 D.b7;have ao:∀b∈FT.bq ah++bW X,¬F.R b/\b<w'.heap.size/\(b∈F.M\/F.w0.heap.size<=b):=λb g=>by
   obtain ⟨aI,O⟩:=D.bQ b g
   grind
  have aA:∀b∈FT.bq ah++bW X,b∈eD c.params o\/∀j z,ar.box j=some z->b∉(af j).ae:=λb g=>by
   obtain ⟨aI,O⟩:=D.bQ b g;rcases O with O|O
   exact ((B b).1 O).imp id λq j z K=>n.out b q j z K
   grind
  obtain ⟨aO,s2,aH,au,av⟩:=aey n.rel D.fT J a0 c.params aM aN xs o X aq _ r ac D.ahT aB ay an.2.1 (λb g=>aA b (bp.2 (.inr g))) (λb g=>ao b (bp.2 (.inr g))) W;refine akk au a9 (λd aj=>aa.cC _ ?_) D.dd an.1 (λb g j y aF l=>?_) (λb g=>ao b (bp.2 (.inl g))) aj aH;have:=D.types
  grind
  rcases av j y aF b l with q|⟨q,i,z,K,ab⟩
  grind
  grind
 |_=>exact ak.elim
end
section
variable {Z:Type} {P:Program} {E:an} {F:Fr} {G:Nat->Gh} {s:St} {a:Act} {w w2:World} {Q:Exit->Act->World->Prop}
theorem dq.tc {A:b0} {R:Nat->Prop}:∀(vs b:List TV) (xs c:List Value),dq A w R vs xs->dq A w R b c->dq A w R (vs++b) (xs++c)
 |[],_,[],_,_,h=>h
 |_::vs,b,_::xs,c,h,d=>⟨h.1,dq.tc vs b xs c h.2 d⟩
 |[],_,_::_,_,h,_=>h.elim
 |_::_,_,[],_,h,_=>h.elim
theorem dq.k4 (h:aC F G s a w):∀(l:List Operand),dq (ax s.box G) w F.R (l.map s.ev) (l.map a.eval)
 |[]=>trivial
 |x::l=>⟨cw h x,dq.k4 h l⟩
def aeZ (h:aC F G s a w) (x:dk P E F) (y:e8 P E) {o:Oper} {c:Call} {g:Operand} (n:o.op=.call c) (j:c.callee=.value g) (C:∀d,o.dst=some d->d<E.nt) {k:St->Option Z} {r:Z} (hk:a8 E o s k=some r):
 o.wp P a w (cf F k r) Q:=by
 unfold a8 at hk;rw [n] at hk;simp only [j] at hk;split at hk;rename_i f u D;split at hk;rename_i l I;have q:=cw h g;rw [D] at q;obtain ⟨vs,K,b⟩:=q.b3 (by simp) (by simp) rfl;have b:=(hq b).1;rcases aeX h y x.nt (dq.tc _ _ _ _ (dq.k4 h c.args.toList) (Uq u vs l K I)) C hk with ⟨W,z⟩|⟨v,w',X,J⟩
 have e:(execOp a.eval o).run P w=.ok (.enter f (c.args.toList.map a.eval++vs).toArray) w:=by
  unfold execOp;rw [n];simp only [resolve,j,b,Deferred.ofValue,Sem.run_bind,Sem.run_pure,Result.andThen_ok,invoke];simp_all
 unfold Oper.wp;rw [e,Oper.upon_enter];refine z.mono λe w' U=>?_
 grind
 have O:(c.args.map a.eval)++vs.toArray=(c.args.toList.map a.eval++vs).toArray:=by
  simp_all
 refine c1 (v:=v) (w':=w') ?_ J;unfold execOp;rw [n];simp only [resolve,j,b,Deferred.ofValue,Sem.run_bind,Sem.run_pure,Result.andThen_ok,invoke]
 grind
 cases hk;cases hk
end
section
variable {Z:Type} {P:Program} {E:an} {F:Fr} {G:Nat->Gh} {s:St} {a:Act} {w w2:World} {Q:Exit->Act->World->Prop}
def Wg (h:aC F G s a w) (j:dk P E F) (z:e8 P E) {o:Oper} (l:∀d,o.dst=some d->d<E.nt) (C:∀t x y,o.op=.store t x y->o.dst=none) {k:St->Option Z} {r:Z} (hk:a8 E o s k=some r):
 o.wp P a w (cf F k r) Q:=by
 cases e:o.op with
 |move x=>exact V0 h j (.inl e) l hk
 |assign x=>exact V0 h j (.inr e) l hk
 |pick c x y=>exact ajV h j e l hk
 |alloc t=>exact aep h j e l hk
 |box t x=>exact aeP h j e l hk
 |build t D=>exact aeT h j e l hk
 |buildSlice t n D=>exact aeS h j e l hk
 |load t x=>exact ahp h j e l hk
 |store t x y=>exact an5 h j e (C _ _ _ e) hk
 |nilCheck x=>exact ah5 h j e l hk
 |binOp op t x y J=>exact aeN h j e l hk
 |unOp op t x=>exact aoz h j e l hk
 |convert t u x=>exact afh h j e l hk
 |makeSlice t n c=>exact ahv h j e l hk
 |slice t x lo hi I=>exact anA h j e l hk
 |makeMap t n=>exact ahu h j e l hk
 |lookup t m x ok=>exact ahr h j e l hk
 |mapUpdate t m x v=>exact ahA h j e hk
 |fieldAddr t x n=>exact afU h j e l hk
 |field t x n=>exact afV h j e l hk
 |indexAddr t x y=>exact agI h j e l hk
 |index t x y=>exact agJ h j e l hk
 |extract x n=>exact UR h j e l hk
 |makeFunc f x y=>exact aht h j e l hk
 |call c=>
  cases q:c.callee with
  |value g=>exact aeZ h j z e q l hk
  |builtin b=>
   cases b with
   |len=>exact ag7 h j e q l hk
   |append=>exact aes h j e q l hk
   |min=>exact ahI h j e q l hk
   |max=>exact ahF h j e q l hk
   |copy=>exact arW h j e q l hk
   |clear=>exact arV h j e q hk
   |_=>unfold a8 at hk;rw [e] at hk;simp [q,jT] at hk
  |invoke x n=>unfold a8 at hk;simp_all
 |_=>unfold a8 at hk;simp_all
theorem yn (f:dk P E F) (g:e8 P E):aq3 Z P E F:=by
 intro G s a w Q o k r h hk;unfold c9 at hk;split at hk;rename_i d c;split at hk;rename_i n;have q:d<E.nt:=by simp_all
 have j:∀b,o.dst=some b->b<E.nt:=λb e=>by simp_all
 split at hk;cases hk;rename_i l;exact Wg h f g j (λt x y e=>absurd e (l t x y)) hk;cases hk;rename_i c;exact Wg h f g (λb e=>by rw [c] at e;cases e) (λ_ _ _ _=>c) hk
end
section
variable {Z Y:Type} {E:an}
def Ag (s t:St) (v:TV):Prop:=∀b∈v.aI,∀y,t.box b=some y->s.box b=some y
theorem jH {t:St} {b:Nat} {k:bl->Option Z} {r:Z} (h:b5 t b k=some r):∃y,k y=some r/\t.box b=some y/\
 ∀(s:St),(∀y,t.box b=some y->s.box b=some y)->∀{Y:Type} (k':bl->Option Y),b5 s b k'=k' y:=by
 grind [b5]
def Ur {a b:Ty} {x:a.ai} {k:b.ai->Option Z} {r:Z} (h:(match cG a b x with
 |some y=>k y
 |none=>none)=some r):∃y,k y=some r/\∀{Y:Type} (k':b.ai->Option Y),(match cG a b x with
 |some y=>k' y
 |none=>none)=k' y:=by
 grind
theorem ags {c:TV} {n:Nat} {p:aM} {k:TV->Option Z} {r:Z} (h:ql c n p k=some r):∃y,k y=some r/\∀{Y:Type} (k':TV->Option Y),ql c n p k'=k' y:=by
 unfold ql at h;split at h;rotate_left;cases h;rename_i t xs b;split at h;rotate_left;cases h
 grind [tB,ql]
def oL:∀(c:TV) (p:aM) (k:TV->Option Z) (r:Z),c7 c p k=some r->∃y,k y=some r/\∀{Y:Type} (k':TV->Option Y),c7 c p k'=k' y:=by
 have b:∀(c:TV) (k:TV->Option Z) (r:Z),c7 c [] k=some r->∃y,k y=some r/\∀{Y:Type} (k':TV->Option Y),c7 c [] k'=k' y:=by
  grind [c7]
 intro c
 induction c with
 |ab t x=>
  intro p k r h;cases p with
  |nil=>exact b _ _ _ h
  |cons s p=>
   grind [c7,tB]
 |ad t x=>
  intro p k r h;cases p with
  |nil=>exact b _ _ _ h
  |cons s p=>
   grind [c7,tB]
 |cons a d e g=>
  intro p k r h
  match p,h with
  |[],h=>exact b _ _ _ h
  | .i n::p,h=>simp [c7] at h
  | .f 0::p,h=>
   grind [c7]
  | .f (n+1)::p,h=>
   grind [c7]
 |tup c _=>
  intro p k r h
  match p,h with
  |[],h=>exact b _ _ _ h
  | .f n::p,h=>cases n<;>simp [c7] at h
  | .i n::p,h=>
   grind [ags,c7]
 |_=>
  grind [c7]
theorem NB {t:St} {T:Ty} {v:TV} {k:List T.ai->Option Z} {r:Z} (h:gY t T v k=some r):
 ∃xs,k xs=some r/\∀(s:St),Ag s t v->∀{Y:Type} (k':List T.ai->Option Y),gY s T v k'=k' xs:=by
 cases v with
 |nil=>exact ⟨[],h,λs e Y k'=>rfl⟩
 |ad u x=>
  grind [gY]
 |sl b p=>
  simp only [gY] at h;obtain ⟨x,j,_,g⟩:=jH h;obtain ⟨c,d,h4⟩:=oL _ _ _ _ j;split at d;rename_i u y;split at d;rename_i z f;exact ⟨z,d,λs e Y k'=>by simp only [gY];rw [g s (e _ (by simp [TV.aI])),h4];simp only [f]⟩;cases d;rename_i u y;split at d;rename_i z f;exact ⟨z,d,λs e Y k'=>by simp only [gY];rw [g s (e _ (by simp [TV.aI])),h4];simp only [f]⟩;cases d;cases d
 |slw b p lo n=>
  simp only [gY] at h;obtain ⟨x,j,_,g⟩:=jH h;obtain ⟨c,d,h4⟩:=oL _ _ _ _ j;split at d;rename_i u y;split at d;rename_i z f;exact ⟨_,d,λs e Y k'=>by simp only [gY];rw [g s (e _ (by simp [TV.aI])),h4];simp only [f]⟩;cases d;cases d
 |_=>simp [gY] at h
theorem L3 {t:St} {v:TV} {k:Nat->Option Z} {r:Z} (h:jv t v k=some r):
 ∃n,k n=some r/\∀(s:St),Ag s t v->∀{Y:Type} (k':Nat->Option Y),jv s v k'=k' n:=by
 cases v with
 |nil=>exact ⟨0,h,λs e Y k'=>rfl⟩
 |ad u x=>
  cases u with
  |slice u=>exact ⟨_,h,λs e Y k'=>rfl⟩
  |_=>simp [jv] at h
 |sl b p=>
  simp only [jv] at h;obtain ⟨x,g,_,f⟩:=jH h;obtain ⟨c,d,h4⟩:=oL _ _ _ _ g;split at d;exact ⟨_,d,λs e Y k'=>by simp only [jv];rw [f s (e _ (by simp [TV.aI])),h4]⟩;unfold Vw at d;split at d;exact ⟨_,d,λs e Y k'=>by simp only [jv];rw [f s (e _ (by simp [TV.aI])),h4];rfl⟩;cases d;cases d
 |slw b p lo n=>exact ⟨n,h,λs e Y k'=>rfl⟩
 |_=>simp [jv] at h
theorem Ag.fst {s t:St} {a d:TV} (h:Ag s t (.cons a d)):Ag s t a:=λb c=>h b (by simp [TV.aI,c])
theorem Ag.snd {s t:St} {a d:TV} (h:Ag s t (.cons a d)):Ag s t d:=λb c=>h b (by simp [TV.aI,c])
theorem Nd {t:St}:∀(T:Ty) (v:TV) (k:T.ai->Option Z) (r:Z),dL t T v k=some r->∃x,k x=some r/\∀(s:St),Ag s t v->∀{Y:Type} (k':T.ai->Option Y),dL s T v k'=k' x:=by
 have ad:∀(T u:Ty) (x:u.ai) (k:T.ai->Option Z) (r:Z),(∀{Y:Type} (w:St) (k:T.ai->Option Y),dL w T (.ad u x) k=match cG u T x with
  |some y=>k y
  |none=>none)->dL t T (.ad u x) k=some r->∃c,k c=some r/\∀(s:St),Ag s t (.ad u x)->∀{Y:Type} (k':T.ai->Option Y),dL s T (.ad u x) k'=k' c:=by
  grind
 intro T
 induction T with
 |slice T _=>
  grind [dL,NB]
 |cons T U j l=>
  intro v k r h;cases v with
  |cons a d=>
   simp only [dL] at h;obtain ⟨x,e,f⟩:=j a _ r h;obtain ⟨y,g,h4⟩:=l d _ r e;exact ⟨(x,y),g,λs b Y k'=>by simp only [dL];rw [f s b.fst,h4 s b.snd]⟩
  |ad u x=>exact ad _ u x k r (λw k=>rfl) h
  |_=>simp [dL] at h
 |unit=>
  intro v k r h;cases v with
  |unit=>exact ⟨(),h,λs b Y k'=>rfl⟩
  |ad u x=>exact ad _ u x k r (λw k=>rfl) h
  |_=>simp [dL] at h
 |_=>
  intro v k r h;cases v with
  |ad u x=>exact ad _ u x k r (λw k=>rfl) h
  |_=>simp [dL] at h
def afe:∀(T:Ty) (v:TV) (k:T.ai->Option Z) (r:Z),eK T v k=some r->∃x,k x=some r/\∀{Y:Type} (k':T.ai->Option Y),eK T v k'=k' x:=by
 have ad:∀(T u:Ty) (x:u.ai) (c:TV) (k:T.ai->Option Z) (r:Z),(∀{Y:Type} (k:T.ai->Option Y),eK T c k=match cG u T x with
  |some y=>k y
  |none=>none)->eK T c k=some r->∃b,k b=some r/\∀{Y:Type} (k':T.ai->Option Y),eK T c k'=k' b:=by
  grind
 intro T
 induction T with
 |slice T _=>
  intro v k r h;cases v with
  |ab u x=>exact ad _ u x _ k r (λk=>rfl) h
  |ad u x=>exact ad _ u x _ k r (λk=>rfl) h
  |nil=>exact ⟨[],h,λk'=>rfl⟩
  |_=>simp [eK] at h
 |cons T U e f=>
  intro v k r h;cases v with
  |ab u x=>exact ad _ u x _ k r (λk=>rfl) h
  |ad u x=>exact ad _ u x _ k r (λk=>rfl) h
  |cons a d=>
   grind [eK]
  |_=>simp [eK] at h
 |unit=>
  intro v k r h;cases v with
  |ab u x=>exact ad _ u x _ k r (λk=>rfl) h
  |ad u x=>exact ad _ u x _ k r (λk=>rfl) h
  |unit=>exact ⟨(),h,λk'=>rfl⟩
  |_=>simp [eK] at h
 |_=>
  intro v k r h;cases v with
  |ab u x=>exact ad _ u x _ k r (λk=>rfl) h
  |ad u x=>exact ad _ u x _ k r (λk=>rfl) h
  |_=>simp [eK] at h
theorem p9 {v:TV} {k:IntKind->Int->Option Z} {r:Z} (h:asInt v k=some r):∃b n,v=.ad (.int b) n/\k b n=some r:=by
 unfold asInt at h
 grind
theorem tD {n:Nat} {i:Int} {k:Nat->Option Z} {r:Z} (h:eh n i k=some r):∃m,k m=some r/\∀{Y:Type} (k':Nat->Option Y),eh n i k'=k' m:=by
 unfold eh at h;split at h
 grind [eh]
 cases h
theorem Uz {op:BinOp} {b:IntKind} {x y:Int} {k:TV->Option Z} {r:Z} (h:jS op b x y k=some r):∃v,k v=some r/\∀{Y:Type} (k':TV->Option Y),jS op b x y k'=k' v:=by
 unfold jS at h|-;split at h
 all_goals first
  |exact ⟨_,h,λk'=>rfl⟩
  |(split at h<;>first|grind|cases h|(rename_i c;exact ⟨_,h,λk'=>by simp only [c]⟩))
  |skip
theorem aeL {op:BinOp} {T:Option Ty} {a b:TV} {k:TV->Option Z} {r:Z} (h:td op T a b k=some r):∃v,k v=some r/\∀{Y:Type} (k':TV->Option Y),td op T a b k'=k' v:=by
 unfold td at h|-;split at h
 grind [Uz]
 all_goals grind
end
section
variable {Z Y:Type} {E:an}
def St.step (s:St) (dst:Option Nat) (v:TV) (new:List (Nat×bl)):St:=
 match dst with
 |some d=>{s with tmps:=(d,v)::s.tmps,cg:=new++s.cg}
 |none=>{s with cg:=new++s.cg}
theorem FW (o:Oper) (s:St) (k:St->Option Z) (v:TV):dm o s k v=k (s.step o.dst v []):=by
 unfold dm St.step;cases o.dst<;>rfl
def oh (E:an) (o:Oper) (t:St) (v:TV) (new:List (Nat×bl)):Prop:=
 (∀x∈new,∃d,o.dst=some d/\x.1/32=d/\t.box x.1=none)/\
 ∀(s:St),(∀x∈o.op.operands.toList,s.ev x=t.ev x/\Ag s t (t.ev x))->(∀x∈new,s.box x.1=none)->∀{Y:Type} (k:St->Option Y),a8 E o s k=k (s.step o.dst v new)
theorem jd {t:Nat} {k:Ty->Option Z} {r:Z} (h:dT E t k=some r):∃T,k T=some r/\∀{Y:Type} (k':Ty->Option Y),dT E t k'=k' T:=by
 unfold dT at h;split at h;rename_i T b;exact ⟨T,h,λk'=>by unfold dT;rw [b]⟩;cases h
theorem aho {t:St} {T:Ty} {a:TV} {k:TV->Option Z} {r:Z} (h:ku t T a k=some r):∃v,k v=some r/\∀(s:St),Ag s t a->∀{Y:Type} (k':TV->Option Y),ku s T a k'=k' v:=by
 cases a with
 |ref b p=>
  simp only [ku] at h;obtain ⟨x,d,_,g⟩:=jH h;split at d;rename_i e;obtain ⟨c,j,h4⟩:=oL _ _ _ _ d;exact ⟨_,j,λs f Y k'=>by simp only [ku];rw [g s (f _ (by simp [TV.aI])),ay e,h4]⟩;cases d
 |bw u x=>
  simp only [ku] at h;split at h;rename_i e;exact ⟨_,h,λs f Y k'=>by simp only [ku];rw [ay e]⟩;cases h
 |_=>simp [ku] at h
theorem agH {t:St} {T:Ty} {x i:TV} {k:TV->Option Z} {r:Z} (h:m9 t T x i k=some r):∃v,k v=some r/\∀(s:St),Ag s t x->∀{Y:Type} (k':TV->Option Y),m9 s T x i k'=k' v:=by
 unfold m9 at h;obtain ⟨y,n,rfl,d⟩:=p9 h;clear h;cases x with
 |ad u xs=>
  cases u with
  |slice u=>
   simp only at d;split at d;rename_i f;split at d;rename_i a q;exact ⟨_,d,λs e Y k'=>by simp only [m9,asInt];simp_all⟩;cases d;cases d
  |_=>simp at d
 |sl b p=>
  simp only at d;obtain ⟨x,c,_,g⟩:=jH d;split at c;rename_i f;obtain ⟨m,l,h4⟩:=L3 c;obtain ⟨j,h5,h6⟩:=tD l;exact ⟨_,h5,λs e Y k'=>by simp only [m9,asInt];rw [g s (e _ (by simp [TV.aI])),ay f,h4 s e,h6]⟩;cases c
 |slw b p lo n=>
  simp only at d;obtain ⟨x,c,_,g⟩:=jH d;split at c;rename_i f;obtain ⟨j,h5,h6⟩:=tD c;exact ⟨_,h5,λs e Y k'=>by simp only [m9,asInt];rw [g s (e _ (by simp [TV.aI])),ay f,h6]⟩;cases c
 |ref b p=>
  simp only at d;obtain ⟨x,c,_,g⟩:=jH d;split at c;rename_i f;split at c;split at c;cases c;rename_i o;obtain ⟨j,h5,h6⟩:=tD c;exact ⟨_,h5,λs e Y k'=>by simp only [m9,asInt];rw [g s (e _ (by simp [TV.aI])),ay f,au o,h6]⟩;cases c;cases c
 |_=>simp at d
def SE {n:Nat} {lo hi:Option TV} {k:Nat->Nat->Option Z} {r:Z} (h:lV n lo hi k=some r):∃l g,k l g=some r/\∀{Y:Type} (k':Nat->Nat->Option Y),lV n lo hi k'=k' l g:=by
 unfold lV at h;split at h;split at h;exact ⟨_,_,h,λk'=>rfl⟩;obtain ⟨d,m,rfl,b⟩:=p9 h;obtain ⟨j,h5,h6⟩:=tD b;exact ⟨_,_,h5,λk'=>by simp only [lV,asInt];rw [h6]⟩;obtain ⟨d,m,rfl,b⟩:=p9 h;obtain ⟨j,h5,h6⟩:=tD b;split at h5;exact ⟨_,_,h5,λk'=>by simp only [lV,asInt];rw [h6]⟩;obtain ⟨f,o,rfl,c⟩:=p9 h5;obtain ⟨e,h8,h9⟩:=tD c;exact ⟨_,_,h8,λk'=>by simp only [lV,asInt];rw [h6,h9]⟩
theorem anz {t:St} {T:Ty} {x:TV} {lo hi:Option TV} {k:TV->Option Z} {r:Z} (h:j2 t T x lo hi k=some r):∃v,k v=some r/\∀(s:St),Ag s t x->∀{Y:Type} (k':TV->Option Y),j2 s T x lo hi k'=k' v:=by
 cases T with
 |bR=>
  simp only [j2] at h;split at h;obtain ⟨l,g,j,e⟩:=SE h;exact ⟨_,j,λs c Y k'=>by simp only [j2];rw [e]⟩;cases h
 |slice T=>
  simp only [j2] at h;obtain ⟨n,j,e⟩:=L3 h;obtain ⟨l,g,d,h4⟩:=SE j;cases x with
  |ad u xs=>
   cases u with
   |slice u=>
    simp only at d;split at d;rename_i f;exact ⟨_,d,λs c Y k'=>by simp only [j2];simp_all⟩;cases d
   |_=>simp at d
  |sl b p=>
   simp only at d;obtain ⟨y,h5,_,h6⟩:=jH d;split at h5;rename_i f;split at h5;rename_i o;exact ⟨_,h5,λs c Y k'=>by simp only [j2];rw [e s c,h4,h6 s (c _ (by simp [TV.aI])),ay f,o]⟩;rename_i o;exact ⟨_,h5,λs c Y k'=>by simp only [j2];rw [e s c,h4,h6 s (c _ (by simp [TV.aI])),ay f,o]⟩;cases h5
  |slw b p q z=>
   simp only at d;obtain ⟨y,h5,_,h6⟩:=jH d;split at h5;rename_i f;exact ⟨_,h5,λs c Y k'=>by simp only [j2];rw [e s c,h4,h6 s (c _ (by simp [TV.aI])),ay f]⟩;cases h5
  |nil=>exact ⟨_,d,λs c Y k'=>by simp only [j2];rw [e s c,h4]⟩
  |_=>simp at d
 |_=>simp [j2] at h
theorem aeQ {t:St}:∀(T:Ty) (n:Nat) (f:List (Nat×Operand)) (k:TV->Option Z) (r:Z),g8 t T n f k=some r->
 ∃v,k v=some r/\(∀b∈v.aI,∃x∈f,b∈(t.ev x.2).aI)/\∀(s:St),(∀x∈f,s.ev x.2=t.ev x.2)->∀{Y:Type} (k':TV->Option Y),g8 s T n f k'=k' v:=by
 have u:∀T:Ty,(mz T).aI=[]:=by
  intro T
  induction T with
  |cons a d y z=>simp only [mz,TV.aI,y,z];rfl
  |_=>rfl
 intro T
 induction T with
 |cons T U _ q=>
  intro n f k r h
  match f,h with
  |[],h=>
   simp only [g8] at h;obtain ⟨v,j,l,o⟩:=q _ _ _ r h;refine ⟨_,j,λb c=>?_,λs g Y k'=>by simp only [g8];rw [o s g]⟩;simp only [TV.aI,u,dV] at c;exact l b c
  |(i,x)::f,h=>
   simp only [g8] at h;split at h;rename_i hi;split at h;rename_i C;obtain ⟨v,j,l,o⟩:=q _ _ _ r h;refine ⟨_,j,λb c=>?_,λs g Y k'=>by have e:=g (i,x) (by simp);simp only at e;simp only [g8,hi];grind⟩;simp only [TV.aI,bp] at c;rcases c with c|c
   simp_all;simp_all;cases h;rename_i hi;obtain ⟨v,j,l,o⟩:=q _ _ _ r h;refine ⟨_,j,λb c=>?_,λs g Y k'=>by simp only [g8,hi];rw [o s g]⟩;simp only [TV.aI,u,dV] at c;exact l b c
 |unit=>
  intro n f k r h
  match f,h with
  |[],h=>exact ⟨_,h,λb c=>by simp [TV.aI] at c,λs g Y k'=>rfl⟩
  |_::_,h=>simp [g8] at h
 |_=>intro n f k r h;simp [g8] at h
theorem x9 {α:Type} (l m:List (Nat×α)) (n:Nat):lk (l++m) n=(lk l n).or (lk m n):=by
 induction l with
 |nil=>rfl
 |cons x l b=>
  obtain ⟨k,v⟩:=x;rw [jJ,gr,gr,b];split<;>rfl
theorem oV {α:Type} {l:List (Nat×α)} {n:Nat} (h:∀x∈l,x.1≠n):lk l n=none:=by
 induction l with
 |nil=>rfl
 |cons x l c=>
  obtain ⟨k,v⟩:=x;rw [gr,au (h (k,v) (by simp)),c (λy b=>h y (by simp [b]))]
theorem yk {t:St} {id:Nat} {x:bl} {k:St->Option Z} {r:Z} (h:jY t id x k=some r):
 id%32≠0/\t.box id=none/\k {t with cg:=(id,x)::t.cg}=some r/\∀(s:St),s.box id=none->∀{Y:Type} (k':St->Option Y),jY s id x k'=k' {s with cg:=(id,x)::s.cg}:=by
 unfold jY at h;split at h;cases h;rename_i b;have c:id%32≠0:=by
  intro e;simp_all
 split at h;cases h;rename_i d;exact ⟨c,d,h,λs f Y k'=>by unfold jY;rw [b];simp only [f]⟩
end
section
variable {Z Y:Type} {E:an}
def Iu (o:Oper) (s t:St):Prop:=∀x∈o.op.operands.toList,s.ev x=t.ev x/\Ag s t (t.ev x)
theorem fe {q:Bool} {o:Oper} {t:St} {k:St->Option Z} {r:Z} {v:TV} (h:dm o t k v=some r)
 (c:∀(s:St),Iu o s t->∀{Y:Type} (k':St->Option Y),a8 E o s k'=dm o s k' v):
 ∃v new,k (t.step o.dst v new)=some r/\oh E o t v new/\(q=false->new=[]):=
 ⟨v,[],by rw [FW] at h;exact h,⟨λx d=>(by cases d),λs b _ Y k'=>by rw [c s b,FW]⟩,λ_=>rfl⟩
theorem Fy {d:Nat} {T:Ty} {xs:List T.ai} {t:St} {k:St->Option Z} {r:Z} {o:Nat} (h:lf t o d T xs k=some r):
 ∃v new,k (t.step (some d) v new)=some r/\(∀x∈new,∃b,some d=some b/\x.1/32=b/\t.box x.1=none)/\∀(s:St),(∀x∈new,s.box x.1=none)->∀{Y:Type} (k':St->Option Y),lf s o d T xs k'=k' (s.step (some d) v new):=by
 unfold lf at h;obtain ⟨j,e,f,h4⟩:=yk h;refine ⟨.sl (eg o d) [],[(eg o d,⟨.slice T,true,false,.ab (.slice T) xs⟩)],f,λx c=>?_,λs g Y k'=>?_⟩;simp only [fq] at c;subst c;exact ⟨d,rfl,by show (d*32+o%32)/32=d;omega,e⟩;unfold lf;rw [h4 s (g _ (fq.2 rfl))];rfl
theorem V8 {d:Nat} {T:Ty} {c:TV} {t:St} {k:St->Option Z} {r:Z} {o:Nat} (h:newVar t o d T c k=some r):
 ∃v new,k (t.step (some d) v new)=some r/\(∀x∈new,∃b,some d=some b/\x.1/32=b/\t.box x.1=none)/\∀(s:St),(∀x∈new,s.box x.1=none)->∀{Y:Type} (k':St->Option Y),newVar s o d T c k'=k' (s.step (some d) v new):=by
 unfold newVar at h;obtain ⟨l,f,g,h4⟩:=yk h;refine ⟨.ref (eg o d) [],[(eg o d,⟨T,false,false,c⟩)],g,λx e=>?_,λs j Y k'=>?_⟩;simp only [fq] at e;subst e;exact ⟨d,rfl,by show (d*32+o%32)/32=d;omega,f⟩;unfold newVar;rw [h4 s (j _ (fq.2 rfl))];rfl
theorem V6 {d:Nat} {T:Ty} {xs:List T.ai} {t:St} {k:St->Option Z} {r:Z} {o:Nat} (h:qA t o d T xs k=some r):
 ∃v new,k (t.step (some d) v new)=some r/\(∀x∈new,∃b,some d=some b/\x.1/32=b/\t.box x.1=none)/\∀(s:St),(∀x∈new,s.box x.1=none)->∀{Y:Type} (k':St->Option Y),qA s o d T xs k'=k' (s.step (some d) v new):=by
 unfold qA at h;obtain ⟨j,e,f,h4⟩:=yk h;refine ⟨.sl (eg o d) [],[(eg o d,⟨.slice T,true,false,.tup (.ad (.slice T) xs)⟩)],f,λx c=>?_,λs g Y k'=>?_⟩;simp only [fq] at c;subst c;exact ⟨d,rfl,by show (d*32+o%32)/32=d;omega,e⟩;unfold qA;rw [h4 s (g _ (fq.2 rfl))];rfl
theorem VU {K:Ty} {c:TV} {k:List (K.ai×Int×Unit)->Option Z} {r:Z} (h:h0 K c k=some r):∃xs,k xs=some r/\∀{Y:Type} (k':List (K.ai×Int×Unit)->Option Y),h0 K c k'=k' xs:=by
 unfold h0 at h
 grind [h0]
theorem agW {K:Ty} {v:TV} {k:K.ai->Option Z} {r:Z} (h:jV K v k=some r):∃x,k x=some r/\∀{Y:Type} (k':K.ai->Option Y),jV K v k'=k' x:=by
 unfold jV at h
 grind [jV]
theorem da {o:Oper} {op:Op} (b:o.op=op) {x:Operand} (c:x∈op.operands.toList):x∈o.op.operands.toList:=by rw [b];exact c
theorem Wf {o:Oper} (ae:qJ o.op=true) {t:St} {k:St->Option Z} {r:Z} (h:a8 E o t k=some r):
 ∃v new,k (t.step o.dst v new)=some r/\oh E o t v new/\(Mu o.op=false->new=[]):=by
 generalize am:Mu o.op=q;cases f:o.op with
 |move x=>
  have m:x∈o.op.operands.toList:=da f (by simp [Op.operands]);have e:∀{Y:Type} (s:St) (k:St->Option Y),a8 E o s k=dm o s k (s.ev x):=by intro Y s k;unfold a8;rw [f]
  rw [e] at h;exact fe h λs g Y k'=>by rw [e,(g x m).1]
 |assign x=>
  have m:x∈o.op.operands.toList:=da f (by simp [Op.operands]);have e:∀{Y:Type} (s:St) (k:St->Option Y),a8 E o s k=dm o s k (s.ev x):=by intro Y s k;unfold a8;rw [f]
  rw [e] at h;exact fe h λs g Y k'=>by rw [e,(g x m).1]
 |pick c x y=>
  have ap:c∈o.op.operands.toList:=da f (by simp [Op.operands]);have O:x∈o.op.operands.toList:=da f (by simp [Op.operands]);have ah:y∈o.op.operands.toList:=da f (by simp [Op.operands]);unfold a8 at h;rw [f] at h;simp only at h;split at h;rename_i b ad;split at h;exact fe h λs g Y k'=>by unfold a8;rw [f];simp only [(g c ap).1,(g x O).1,ad]
  exact fe h λs g Y k'=>by unfold a8;rw [f];simp only [(g c ap).1,(g y ah).1,ad]
  cases h
 |load T x=>
  have m:x∈o.op.operands.toList:=da f (by simp [Op.operands]);unfold a8 at h;rw [f] at h;simp only at h;obtain ⟨U,l,C⟩:=jd h;obtain ⟨v,z,h4⟩:=aho l;exact fe z λs g Y k'=>by unfold a8;rw [f];simp only;rw [C,(g x m).1,h4 s (g x m).2]
 |nilCheck x=>
  have m:x∈o.op.operands.toList:=da f (by simp [Op.operands]);unfold a8 at h;rw [f] at h;simp only at h;split at h
  all_goals first
   |cases h
   |(rename_i D;exact fe h λs g Y k'=>by unfold a8;rw [f];simp only;rw [(g x m).1,D])
 |binOp op T x y U=>
  have O:x∈o.op.operands.toList:=da f (by simp [Op.operands]);have ah:y∈o.op.operands.toList:=da f (by simp [Op.operands]);unfold a8 at h;rw [f] at h;simp only at h;obtain ⟨v,z,h4⟩:=aeL h;exact fe z λs g Y k'=>by unfold a8;rw [f];simp only;rw [(g x O).1,(g y ah).1,h4]
 |unOp op T x=>
  have m:x∈o.op.operands.toList:=da f (by simp [Op.operands]);unfold a8 at h;rw [f] at h;simp only at h;split at h;rename_i D;exact fe h λs g Y k'=>by unfold a8;rw [f];simp only;rw [(g x m).1,D]
  rename_i D;obtain ⟨v,z,h4⟩:=Uz h;exact fe z λs g Y k'=>by unfold a8;rw [f];simp only;rw [(g x m).1,D];simp only;rw [h4]
  cases h
 |convert u T x=>
  have m:x∈o.op.operands.toList:=da f (by simp [Op.operands]);unfold a8 at h;rw [f] at h;simp only at h;obtain ⟨U,l,C⟩:=jd h;obtain ⟨V,z,h4⟩:=jd l;split at z;rename_i D;exact fe z λs g Y k'=>by unfold a8;rw [f];simp only;rw [C,h4,(g x m).1,D]
  rename_i D;obtain ⟨v,h5,h6⟩:=NB z;exact fe h5 λs g Y k'=>by
   unfold a8;rw [f];simp only;rw [C,h4,(g x m).1];exact h6 s (g x m).2 _
  cases z
 |slice T x lo hi O=>
  have m:x∈o.op.operands.toList:=da f (by simp [Op.operands]);have a3:∀y,lo=some y->y∈o.op.operands.toList:=λy e=>da f (by subst e;simp [Op.operands])
  have a2:∀y,hi=some y->y∈o.op.operands.toList:=λy e=>da f (by subst e;simp [Op.operands])
  unfold a8 at h;rw [f] at h;simp only at h;split at h;obtain ⟨U,l,C⟩:=jd h;obtain ⟨v,z,h4⟩:=anz l;exact fe z λs g Y k'=>by
   have aa:lo.map s.ev=lo.map t.ev:=by
    cases lo with
    |none=>rfl
    |some y=>simp only [dn];rw [(g y (a3 y rfl)).1]
   have ac:hi.map s.ev=hi.map t.ev:=by
    cases hi with
    |none=>rfl
    |some y=>simp only [dn];rw [(g y (a2 y rfl)).1]
   unfold a8;rw [f];simp only;rw [C,(g x m).1,aa,ac,h4 s (g x m).2]
  cases h
 |fieldAddr T x n=>
  have m:x∈o.op.operands.toList:=da f (by simp [Op.operands]);unfold a8 at h;rw [f] at h;simp only at h;obtain ⟨U,l,C⟩:=jd h;split at l;rename_i b p D;obtain ⟨y,z,_,h4⟩:=jH l;split at z;rename_i I;split at z;rename_i ag;exact fe z λs g Y k'=>by
   have:=(g x m).2;rw [D] at this;unfold a8;rw [f];simp only;rw [C,(g x m).1,D];simp only;rw [h4 s (this b (by simp [TV.aI])),ay I,ag]
  cases z;cases z;rename_i D;split at l;rename_i I;obtain ⟨u,y,z,h4⟩:=tB _ _ _ _ _ l;exact fe z λs g Y k'=>by
   unfold a8;rw [f];simp only;rw [C,(g x m).1,D];simp_all
  cases l;cases l
 |field T x n=>
  have m:x∈o.op.operands.toList:=da f (by simp [Op.operands]);unfold a8 at h;rw [f] at h;simp only at h;obtain ⟨U,l,C⟩:=jd h;split at l;rename_i D;split at l;rename_i I;obtain ⟨u,y,z,h4⟩:=tB _ _ _ _ _ l;exact fe z λs g Y k'=>by
   unfold a8;rw [f];simp only;rw [C,(g x m).1,D];simp_all
  cases l;cases l
 |indexAddr T x i=>
  have O:x∈o.op.operands.toList:=da f (by simp [Op.operands]);have an:i∈o.op.operands.toList:=da f (by simp [Op.operands]);unfold a8 at h;rw [f] at h;simp only at h;obtain ⟨U,l,C⟩:=jd h;obtain ⟨v,z,h4⟩:=agH l;exact fe z λs g Y k'=>by unfold a8;rw [f];simp only;rw [C,(g x O).1,(g i an).1,h4 s (g x O).2]
 |index T x i=>
  have O:x∈o.op.operands.toList:=da f (by simp [Op.operands]);have an:i∈o.op.operands.toList:=da f (by simp [Op.operands]);unfold a8 at h;rw [f] at h;simp only at h;obtain ⟨U,l,C⟩:=jd h;obtain ⟨a1,n,z,h4⟩:=p9 l;split at h4;rename_i D;split at h4;rename_i aq;exact fe h4 λs g Y k'=>by unfold a8;rw [f];simp only;rw [C,(g x O).1,(g i an).1,z];simp only [asInt];rw [D];simp only [aq]
  cases h4;rename_i D;split at h4;rename_i I;split at h4;rename_i aq;exact fe h4 λs g Y k'=>by unfold a8;rw [f];simp only;rw [C,(g x O).1,(g i an).1,z];simp only [asInt];simp_all
  cases h4;cases h4;cases h4
 |extract x n=>
  have m:x∈o.op.operands.toList:=da f (by simp [Op.operands]);unfold a8 at h;rw [f] at h;simp only at h;split at h;rename_i D;split at h;rename_i J;exact fe h λs g Y k'=>by unfold a8;rw [f];simp only;rw [(g x m).1,D];simp only [J]
  cases h;cases h
 |build T a4=>
  have m:∀x∈a4.toList,x.2∈o.op.operands.toList:=λx X=>da f (by
   simp only [Op.operands,uN]
   grind)
  unfold a8 at h;rw [f] at h;simp only at h;obtain ⟨U,l,C⟩:=jd h;split at l;split at l;rename_i I;obtain ⟨v,z,a0,h4⟩:=aeQ _ _ _ _ _ l;split at z;rename_i ag;obtain ⟨x,h5,h6⟩:=Nd _ _ _ _ z;exact fe h5 λs g Y k'=>by
   unfold a8;rw [f];simp only;rw [C];simp only;rw [ay I,h4 s (λx X=>(g x.2 (m x (Mp X))).1),ay ag,h6 s (λb ad=>by
    obtain ⟨x,X,ad⟩:=a0 b ad;exact (g x.2 (m x (Mp X))).2 b ad)]
  rename_i ag;exact fe z λs g Y k'=>by
   unfold a8;rw [f];simp only;rw [C];simp only;rw [ay I,h4 s (λx X=>(g x.2 (m x (Mp X))).1),au ag]
  cases l;split at l;rename_i al;exact fe l λs g Y k'=>by unfold a8;simp_all
  rename_i x y al;split at l;rename_i I;split at l;rename_i p q aa ac;have O:=m (0,x) (by rw [al];simp);have ah:=m (1,y) (by rw [al];simp);exact fe l λs g Y k'=>by
   unfold a8;rw [f];simp only;rw [C];simp only [al];rw [ay I,(g x O).1,(g y ah).1,aa,ac]
  cases l;cases l;cases l;cases l
 |alloc T=>
  unfold a8 at h;rw [f] at h;simp only at h;split at h;rotate_left;cases h;rename_i d W;obtain ⟨U,l,C⟩:=jd h;split at l;rename_i I;obtain ⟨v,new,aj,ak,av⟩:=V8 l;refine ⟨v,new,by rw [W];exact aj,⟨by rw [W];exact ak,λs g J Y k'=>?_⟩,λJ=>(by rw [<-am,f] at J;cases J)⟩;unfold a8;grind;rename_i I;split at l;obtain ⟨v,new,aj,ak,av⟩:=V8 l;refine ⟨v,new,by rw [W];exact aj,⟨by rw [W];exact ak,λs g J Y k'=>?_⟩,λJ=>(by rw [<-am,f] at J;cases J)⟩;unfold a8;grind;cases l
 |makeSlice T n c=>
  have a6:n∈o.op.operands.toList:=da f (by simp [Op.operands]);have ap:c∈o.op.operands.toList:=da f (by simp [Op.operands]);unfold a8 at h;rw [f] at h;simp only at h;split at h;rotate_left;cases h;rename_i d W;obtain ⟨U,l,C⟩:=jd h;split at l;obtain ⟨a1,(i:Int),aa,z⟩:=p9 l;obtain ⟨a5,(j:Int),ac,h4⟩:=p9 z
  match i,j,aa,ac,h4 with
  | .ofNat i,.ofNat j,aa,ac,h4=>
   simp only at h4;split at h4;rename_i I;obtain ⟨v,new,aj,ak,av⟩:=Fy h4;refine ⟨v,new,by rw [W];exact aj,⟨by rw [W];exact ak,λs g J Y k'=>?_⟩,λJ=>(by rw [<-am,f] at J;cases J)⟩
   grind [a8,asInt]
   cases h4
  | .negSucc _,_,_,_,h4=>cases h4
  | .ofNat _,.negSucc _,_,_,h4=>cases h4
  cases l
 |makeMap T n=>
  unfold a8 at h;rw [f] at h;simp only at h;split at h;rotate_left;cases h;rename_i d W;split at h;rotate_left;cases h;rename_i K af;obtain ⟨l,C,z,h4⟩:=yk h;refine ⟨.mp (eg E.fo d),[(eg E.fo d,⟨.slice (eu K),true,false,.tup (.ab (.slice (eu K)) (show List (K.ai×Int×Unit) from []))⟩)],by rw [W];exact z,⟨λx X=>?_,λs g J Y k'=>?_⟩,λJ=>(by rw [<-am,f] at J;cases J)⟩
  grind [eg]
  unfold a8;rw [f];simp only [W,af];rw [h4 s (J _ (fq.2 rfl))];rfl
 |lookup T m x ok=>
  have mm:m∈o.op.operands.toList:=da f (by simp [Op.operands]);have O:x∈o.op.operands.toList:=da f (by simp [Op.operands]);unfold a8 at h;rw [f] at h;simp only at h;split at h;rotate_left;cases h;rename_i K b af az;obtain ⟨bx,l,_,C⟩:=jH h;obtain ⟨xs,z,h4⟩:=VU l;obtain ⟨key,h5,h6⟩:=agW z;exact fe h5 λs g Y k'=>by
   have e:=g m mm;rw [az] at e;unfold a8;rw [f];simp only [af,e.1];rw [C s (e.2 _ (by simp [TV.aI])),h4,(g x O).1,h6]
 |call c=>
  cases I:c.callee with
  |builtin b=>
   cases b with
   |len=>
    unfold a8 at h;rw [f] at h;simp only [I] at h;unfold jT at h;split at h;rename_i T ts v _ aw D;obtain ⟨x,ax,ar⟩:∃x,c.args.toList=[x]/\t.ev x=v:=by
     simp_all
    have m:x∈o.op.operands.toList:=da f (by
     grind [Op.operands,Call.operands])
    split at h;rename_i ao;obtain ⟨n,z,h4⟩:=L3 h;exact fe z λs g Y k'=>by
     have e:=g x m;rw [ar] at e;unfold a8;rw [f];simp only [I];unfold jT;simp_all
    rename_i ao;split at h;exact fe h λs g Y k'=>by
     have e:=g x m
     grind [a8,jT]
    cases h
    ·rename_i ao;split at h;rotate_left;cases h;rename_i K af;split at h;rotate_left;cases h;obtain ⟨bx,l,_,C⟩:=jH h;obtain ⟨xs,z,h4⟩:=VU l;exact fe z λs g Y k'=>by
      have e:=g x m;rw [ar] at e;unfold a8;rw [f];simp only [I];unfold jT;rw [aw,ax];simp only [fJ,nG,ao,af,e.1];rw [C s (e.2 _ (by simp [TV.aI])),h4]
    cases h
    all_goals grind
   |_=>rw [f] at ae;simp [qJ,I] at ae
  |_=>rw [f] at ae;simp [qJ,I] at ae
 |_=>rw [f] at ae;simp [qJ] at ae
end
section
variable {Z Y:Type} {E:an}
theorem anE {m:PM} (h:m.gv=true):m.fc=false/\m.jr=false:=by cases m<;>simp [PM.gv] at h<;>exact ⟨rfl,rfl⟩
theorem W0:∀(b:List PM) (vs:List TV) (s:St) (k:St->List TV->(TV->TV)->Option Z),(∀m∈b,m.gv=true)->b.length=vs.length->ek s b vs k=k s vs id:=by
 intro b
 induction b with
 |nil=>
  intro vs s k _ c;cases vs with
  |nil=>rfl
  |cons _ _=>simp at c
 |cons m b f=>
  intro vs s k e c;cases vs with
  |nil=>simp at c
  |cons v vs=>
   have d:=e m (by simp);have:ek s (m::b) (v::vs) k=ek s b vs λs vs κ=>k s (κ v::vs) κ:=by cases m<;>first|rfl|simp [PM.gv] at d
   simp_all
theorem WZ:∀(b:List PM) (vs:List TV) (s:St) (k:St->List TV->(TV->TV)->Option Z),(∀m∈b,m.gv=true)->b.length=vs.length->cH s b vs k=k s vs id:=by
 intro b
 induction b with
 |nil=>
  intro vs s k _ c;cases vs with
  |nil=>rfl
  |cons _ _=>simp at c
 |cons m b f=>
  intro vs s k e c;cases vs with
  |nil=>simp at c
  |cons v vs=>
   have d:=e m (by simp);have:cH s (m::b) (v::vs) k=cH s b vs λs vs κ=>k s (κ v::vs) κ:=by
    cases m with
    |ro t=>simp only [cH]
    |bw t=>simp only [cH]
    |_=>simp [PM.gv] at d
   simp_all
theorem ajR:∀(b:List PM) (vs:List TV) (s:St) (k:St->List TV->(TV->TV)->Option Z) (r:Z),(∀m∈b,m.gv=true)->ek s b vs k=some r->b.length=vs.length:=by
 intro b
 induction b with
 |nil=>
  grind [ek]
 |cons m b f=>
  intro vs s k r d h;cases vs with
  |nil=>simp [ek] at h
  |cons v vs=>
   have c:=d m (by simp);have e:ek s (m::b) (v::vs) k=ek s b vs λs vs κ=>k s (κ v::vs) κ:=by cases m<;>first|rfl|simp [PM.gv] at c
   grind
theorem Vx {t:St} {m:PM} {v:TV} {k:D->Option Z} {r:Z} (h:fU t m v k=some r):∃d,k d=some r/\∀(s:St),Ag s t v->∀{Y:Type} (k':D->Option Y),fU s m v k'=k' d:=by
 cases m with
 |ro T=>
  grind [fU,Nd]
 |bw T=>
  cases v with
  |bw u x=>
   grind [fU]
  |ref b p=>
   simp only [fU] at h;obtain ⟨x,e,_,f⟩:=jH h;split at e;rename_i l;obtain ⟨c,g,h4⟩:=oL _ _ _ _ e;obtain ⟨y,h5,h6⟩:=afe _ _ _ _ g;exact ⟨_,h5,λs j Y k'=>by simp only [fU];rw [f s (j _ (by simp [TV.aI])),ay l,h4,h6]⟩;cases e
  |_=>simp [fU] at h
 |_=>simp [fU] at h
theorem ag8 {t:St}:∀(b:List PM) (vs:List TV) (k:List D->Option Z) (r:Z),(∀m∈b,m.gv=true)->iI t b vs k=some r->
 ∃ds,k ds=some r/\∀(s:St),(∀v∈vs,Ag s t v)->∀{Y:Type} (k':List D->Option Y),iI s b vs k'=k' ds:=by
 intro b
 induction b with
 |nil=>
  grind [iI]
 |cons m b j=>
  intro vs k r c h;cases vs with
  |nil=>simp [iI] at h
  |cons v vs=>
   have f:=c m (by simp);have e:∀{Y:Type} (s:St) (k:List D->Option Y),jx s m v k=fU s m v λd=>k [d]:=by
    intro Y s k;cases m<;>first|rfl|simp [PM.gv] at f
   simp only [iI] at h;rw [e] at h;obtain ⟨d,g,l⟩:=Vx h;obtain ⟨ds,h4,h5⟩:=j vs _ r (λm h=>c m (by simp [h])) g
   grind [iI]
theorem aex:∀(b:List PM) (vs:List TV) (ds:List D) (s:St) (k:St->Option Z) (r:Z),(∀m∈b,m.gv=true)->gB s b vs ds k=some r->
 k s=some r/\∀(s:St) {Y:Type} (k':St->Option Y),gB s b vs ds k'=k' s:=by
 intro b
 induction b with
 |nil=>
  grind [gB]
 |cons m b d=>
  intro vs ds s k r c h;cases vs with
  |nil=>simp [gB] at h
  |cons v vs=>
   grind [anE,gB,El]
def Iv (d:Nat) (t:St) (new:List (Nat×bl)):Prop:=∀x∈new,x.1/32=d/\t.box x.1=none
theorem Ep (t:St) (new:List (Nat×bl)) (n:Nat):St.box {t with cg:=new++t.cg} n=(lk new n).or (t.box n):=x9 _ _ _
def aof {d:Nat}:∀(T:Ty) (x:T.ai) (t:St) (id:Nat) (k:St->Nat->TV->Option Z) (r:Z),d*32<=id->id<=d*32+32->fG t id T x k=some r->
 ∃new g v,k {t with cg:=new++t.cg} g v=some r/\(id<=g/\g<=d*32+32)/\(∀y∈new,id<=y.1/\y.1<g)/\Iv d t new/\
  ∀(s:St),(∀y∈new,s.box y.1=none)->∀{Y:Type} (k':St->Nat->TV->Option Y),fG s id T x k'=k' {s with cg:=new++s.cg} g v:=by
 have aW:∀(T:Ty) (x:T.ai) (t:St) (id:Nat) (k:St->Nat->TV->Option Z) (r:Z),d*32<=id->id<=d*32+32->(∀{Y:Type} (s:St) (k:St->Nat->TV->Option Y),fG s id T x k=k s id (.ad T x))->fG t id T x k=some r->
  ∃new g v,k {t with cg:=new++t.cg} g v=some r/\(id<=g/\g<=d*32+32)/\(∀y∈new,id<=y.1/\y.1<g)/\Iv d t new/\
   ∀(s:St),(∀y∈new,s.box y.1=none)->∀{Y:Type} (k':St->Nat->TV->Option Y),fG s id T x k'=k' {s with cg:=new++s.cg} g v:=by
  intro T x t id k r f c e h;rw [e] at h;exact ⟨[],id,_,h,⟨cV _,c⟩,λy b=>(by cases b),λy b=>(by cases b),λs _ Y k'=>by rw [e];rfl⟩
 intro T
 induction T with
 |slice T _=>
  intro x t id k r f c h;simp only [fG] at h;obtain ⟨ag,ah,aa,aj⟩:=yk h;have ae:id<=d*32+31:=by
   omega
  refine ⟨[(id,⟨.slice T,true,false,.ab (.slice T) x⟩)],id+1,_,aa,⟨by omega,by omega⟩,λy b=>?_,λy b=>?_,λs o Y k'=>?_⟩;simp_all
  grind
  simp only [fG];simp_all
 |cons T U K O=>
  intro x t id k r f c h;by_cases l:(Ty.cons T U).aW=true
  grind [fG]
  simp only [fG] at h;rw [au l] at h;obtain ⟨W,I,ak,q,u,a3,a4,a5⟩:=K x.1 t id _ r f c h;obtain ⟨X,J,al,z,C,ac,j,D⟩:=O x.2 _ I _ r (by omega) u.2 q;refine ⟨X++W,J,_,by rw [gb];exact z,⟨by omega,C.2⟩,λy b=>?_,λy b=>?_,λs o Y k'=>?_⟩
  grind
  rcases bp.1 b with b|b
  refine ⟨(j y b).1,?_⟩;have:=(j y b).2
  grind [Ep]
  exact a4 y b;simp only [fG];rw [au l,a5 s (λy b=>o y (bp.2 (.inr b))),D _ (λy b=>by
   grind [Ep,oV]),gb]
 |unit=>
  intro x t id k r f c h;exact ⟨[],id,_,h,⟨cV _,c⟩,λy b=>(by cases b),λy b=>(by cases b),λs _ Y k'=>rfl⟩
 |int af=>intro x t id k r f c h;exact aW _ x t id k r f c (λs k=>rfl) h
 |bool=>intro x t id k r f c h;exact aW _ x t id k r f c (λs k=>rfl) h
 |bR=>intro x t id k r f c h;exact aW _ x t id k r f c (λs k=>rfl) h
 |bG=>intro x t id k r f c h;simp [fG,Ty.aW] at h
 |arr n T _=>
  grind [fG]
def aoe {d:Nat}:∀(c:List D) (t:St) (id:Nat) (k:St->TV->Option Z) (r:Z),d*32<=id->id<=d*32+32->nx t id c k=some r->
 ∃new v,k {t with cg:=new++t.cg} v=some r/\(∀y∈new,id<=y.1)/\Iv d t new/\
  ∀(s:St),(∀y∈new,s.box y.1=none)->∀{Y:Type} (k':St->TV->Option Y),nx s id c k'=k' {s with cg:=new++s.cg} v:=by
 intro c
 induction c with
 |nil=>
  intro t id k r g j h;exact ⟨[],_,h,λy b=>(by cases b),λy b=>(by cases b),λs _ Y k'=>rfl⟩
 |cons e c z=>
  intro t id k r g j h;simp only [nx] at h;obtain ⟨C,u,O,l,n,a3,a4,a5⟩:=aof e.t e.x t id _ r g j h;obtain ⟨I,U,J,K,f,o⟩:=z _ u _ r (by omega) n.2 l;refine ⟨I++C,_,by simp_all<;>omega,λy b=>?_,λy b=>?_,λs q Y k'=>?_⟩
  grind
  rcases bp.1 b with b|b
  refine ⟨(f y b).1,?_⟩;have:=(f y b).2
  grind [Ep]
  exact a4 y b;simp only [nx];rw [a5 s (λy b=>q y (bp.2 (.inr b))),o _ (λy b=>by
   grind [Ep,oV]),gb]
theorem ako (c:List D) (v:TV):∃u,∀{Y:Type} (d:Nat) (s:St) (k:St->Option Y),(match c,v with
 |[_],.cons a .unit=>k (s.put d a)
 |_,v=>k (s.put d (.tup v)))=k (s.put d u):=by
 match c,v with
 |[e],.cons a .unit=>exact ⟨a,λd s k=>rfl⟩
 |[],v=>exact ⟨.tup v,λd s k=>rfl⟩
 |e::f::c,v=>exact ⟨.tup v,λd s k=>rfl⟩
 |[e],v=>
  cases v with
  |cons a b=>cases b<;>exact ⟨_,λd s k=>rfl⟩
  |_=>exact ⟨.tup _,λd s k=>rfl⟩
theorem Xi {t:St} {dst:Option Nat} {b:List D} {k:St->Option Z} {r:Z} {o:Nat} (h:qM t o dst b k=some r):
 ∃v new,k (t.step dst v new)=some r/\(∀x∈new,∃d,dst=some d/\x.1/32=d/\t.box x.1=none)/\∀(s:St),(∀x∈new,s.box x.1=none)->∀{Y:Type} (k':St->Option Y),qM s o dst b k'=k' (s.step dst v new):=by
 cases dst with
 |none=>exact ⟨.unit,[],h,λx c=>(by cases c),λs _ Y k'=>rfl⟩
 |some d=>
  simp only [qM] at h;obtain ⟨new,v,f,_,g,h4⟩:=aoe (d:=d) b t (eg o d) _ r (Nat.le_add_right _ _) (by unfold eg;omega) h;obtain ⟨u,e⟩:=ako b v;refine ⟨u,new,(e d _ k).symm.trans f,λx c=>⟨d,rfl,g x c⟩,λs j Y k'=>?_⟩;simp only [qM];rw [h4 s j];exact e d _ k'
def aeV {t:St} {f:Nat} {vs:List TV} {dst:Option Nat} {k:St->Option Z} {r:Z} {c:aA} (j:E.fn f (vs.map lX)=some c) (l:c.bu) (b:∀m∈c.params,m.gv=true) (h:iZ E t f vs dst k=some r):
 ∃v new,k (t.step dst v new)=some r/\(∀x∈new,∃d,dst=some d/\x.1/32=d/\t.box x.1=none)/\
  ∀(s:St),(∀v∈vs,Ag s t v)->(∀x∈new,s.box x.1=none)->∀{Y:Type} (k':St->Option Y),iZ E s f vs dst k'=k' (s.step dst v new):=by
 unfold iZ at h;rw [j] at h;simp only at h;have g:=ajR _ _ _ _ _ b h;rw [W0 _ _ _ _ b g,WZ _ _ _ _ b g] at h;obtain ⟨ds,e,n⟩:=ag8 _ _ _ _ b h;rw [l] at e;split at e;cases e;rename_i D C y;obtain ⟨o,h4⟩:=aex _ _ _ _ _ _ b e;obtain ⟨v,new,h5,h6,u⟩:=Xi o;refine ⟨v,new,h5,h6,λs q z Y k'=>?_⟩;unfold iZ;rw [j];simp only;rw [W0 _ _ _ _ b g,WZ _ _ _ _ b g,n s q,l]
 grind
def afK {o:Oper} {s t:St} (h:Iu o s t) {l:List Operand} (c:∀x∈l,x∈o.op.operands.toList):l.map s.ev=l.map t.ev/\∀v∈l.map t.ev,Ag s t v:=
 ⟨lA λx b=>(h x (c x b)).1,λv d=>by
  obtain ⟨x,b,rfl⟩:=cQ.1 d;exact (h x (c x b)).2⟩
def Uo {p:aA->Bool} {o:Oper} {s:St} (h:tk E p o s=true):∃c g f c',o.op=.call c/\c.callee=.value g/\s.ev g=.bY f .unit/\E.fn f ((c.args.toList.map s.ev).map lX)=some c'/\p c'=true:=by
 unfold tk at h
 grind
theorem tm {o:Oper} {c:Call} {g:Operand} {f:Nat} {s:St} (d:o.op=.call c) (b:c.callee=.value g) (e:s.ev g=.bY f .unit) (k:St->Option Z):a8 E o s k=iZ E s f (c.args.toList.map s.ev) o.dst k:=by
 grind [a8,TV.oD]
theorem Lc {o:Oper} {c:Call} {g:Operand} (b:o.op=.call c) (d:c.callee=.value g):g∈o.op.operands.toList/\∀x∈c.args.toList,x∈o.op.operands.toList:=
 ⟨da b (by
  grind [Op.operands,Call.operands]),λx e=>da b (by
  grind [Op.operands,Call.operands])⟩
end
def Mv.tv:Mv->TV->TV
 | .set _ _,v=>v
 | .aw b p,v=>v.aw b p
 | .drop b,v=>v.drop b
def Mv.bx (n:Nat):Mv->Option bl->Option bl
 | .set b x,y=>if b=n then y.map (λ_=>x) else y
 | .aw b p,y=>y.map (bl.aw b p)
 | .drop b,y=>if b=n then none else y.map (bl.bX λc=> !Nat.beq b c)
def Mv.sv:Mv->List (List (Nat×TV))->List (List (Nat×TV))
 | .set _ _,l=>l
 | .aw b p,l=>l.map λl=>l.map λx=>(x.1,x.2.aw b p)
 | .drop b,l=>l.map λl=>l.map λx=>(x.1,x.2.drop b)
theorem hK (s:St) (l m:List Mv):bK s (l++m)=bK (bK s l) m:=by simp [bK]
theorem ahW (s:St) (m:Mv) (n:Nat):(m.run s).get n=m.tv (s.get n):=by
 cases m with
 |set b x=>rfl
 |aw b p=>
  simp only [Mv.run,Mv.tv,St.get,St.aw,l7];cases lk s.tmps n<;>rfl
 |drop b=>
  simp only [Mv.run,Mv.tv,St.get,St.drop,l7];cases lk s.tmps n<;>rfl
theorem ahV (s:St) (m:Mv) (n:Nat):(m.run s).box n=m.bx n (s.box n):=by
 cases m with
 |set b x=>
  simp only [Mv.run,Mv.bx,St.box,St.b4,VC]
 |aw b p=>exact SG s b p n
 |drop b=>
  simp only [Mv.run,Mv.bx,St.box,St.drop,l7,Fg];split<;>rfl
theorem ahX (s:St) (m:Mv):(m.run s).sv=m.sv s.sv:=by cases m<;>rfl
def i4:List Mv->TV->TV
 |[],v=>v
 |m::l,v=>i4 l (m.tv v)
def oB (n:Nat):List Mv->Option bl->Option bl
 |[],v=>v
 |m::l,v=>oB n l (m.bx n v)
def ZU:List Mv->List (List (Nat×TV))->List (List (Nat×TV))
 |[],v=>v
 |m::l,v=>ZU l (m.sv v)
theorem yA:∀(l:List Mv) (s:St) (n:Nat),(bK s l).get n=i4 l (s.get n)
 |[],_,_=>rfl
 |m::l,s,n=>by rw [show bK s (m::l)=bK (m.run s) l from rfl,yA l,ahW];rfl
theorem nv:∀(l:List Mv) (s:St) (n:Nat),(bK s l).box n=oB n l (s.box n)
 |[],_,_=>rfl
 |m::l,s,n=>by rw [show bK s (m::l)=bK (m.run s) l from rfl,nv l,ahV];rfl
theorem Nj:∀(l:List Mv) (s:St),(bK s l).sv=ZU l s.sv
 |[],_=>rfl
 |m::l,s=>by rw [show bK s (m::l)=bK (m.run s) l from rfl,Nj l,ahX];rfl
theorem KH (n:Nat):∀(l:List Mv),oB n l none=none
 |[]=>rfl
 |m::l=>by
  have:m.bx n none=none:=by cases m<;>simp [Mv.bx]
  simp only [oB,this,KH n l]
theorem Vr (b:Nat) (p:aM):∀(v:TV),b∉v.aI->v.aw b p=v:=by
 intro v
 induction v with
 |ref c q=>grind [TV.aI,TV.aw,jR]
 |sl c q=>grind [TV.aI,TV.aw,jR]
 |slw c q lo n=>grind [TV.aI,TV.aw,jR]
 |mp c=>grind [TV.aI,TV.aw,jR]
 |cons a d g j=>grind [TV.aI,TV.aw]
 |tup a e=>intro h;simp only [TV.aI] at h;simp only [TV.aw,e h]
 |bY f c e=>intro h;simp only [TV.aI] at h;simp only [TV.aw,e h]
 |_=>intro h;rfl
theorem aaw (p:Nat->Bool):∀(v:TV),(∀b∈v.aI,p b=true)->v.bX p=v:=by
 intro v
 induction v with
 |ref c q=>grind [TV.bX,TV.aI]
 |sl c q=>grind [TV.bX,TV.aI]
 |slw c q lo n=>grind [TV.bX,TV.aI]
 |mp c=>grind [TV.bX,TV.aI]
 |cons a d g j=>grind [TV.aI,TV.bX]
 |tup a e=>grind [TV.aI,TV.bX]
 |bY f c e=>grind [TV.aI,TV.bX]
 |_=>intro h;rfl
theorem Wc {b:Nat} {v:TV} (h:b∉v.aI):∀c∈v.aI,(!Nat.beq b c)=true:=λc d=>by
 grind [jR]
theorem ahY {m:Mv} {v:TV} (h:m.at∉v.aI):m.tv v=v:=by
 cases m with
 |set b x=>rfl
 |aw b p=>exact Vr b p v h
 |drop b=>exact aaw _ v (Wc h)
theorem U1 {v:TV}:∀(l:List Mv),(∀m∈l,m.at∉v.aI)->i4 l v=v
 |[],_=>rfl
 |m::l,h=>by
  simp only [i4,ahY (h m (by simp))];exact U1 l λm b=>h m (by simp [b])
def SH {n:Nat} {y:bl}:∀(l:List Mv),(∀m∈l,m.at≠n/\m.at∉y.c.aI)->oB n l (some y)=some y
 |[],_=>rfl
 |m::l,h=>by
  have:m.bx n (some y)=some y:=by
   obtain ⟨d,e⟩:=h m (by simp);cases m with
   |set b x=>simp only [Mv.at] at d;simp [Mv.bx,d]
   |aw b p=>simp only [Mv.bx,dn,bl.aw,Vr b p _ e]
   |drop b=>
    simp only [Mv.at] at d e;simp only [Mv.bx,d,c2,dn,bl.bX,aaw _ y.c (Wc e)]
  simp only [oB,this];exact SH l λm f=>h m (by simp [f])
def eb (B:Nat->Prop) (s t:St):Prop:=∀b,B b->s.box b=t.box b
theorem eb.bK {B:Nat->Prop} {s t:St} (h:eb B s t) (l:List Mv):eb B (bK s l) (bK t l):=λb c=>by rw [nv,nv,h b c]
theorem eb.ag {B:Nat->Prop} {s t:St} (h:eb B s t) {v:TV} (d:∀b∈v.aI,B b):Ag s t v:=λb c y e=>by rw [h b (d b c),e]
def Fb (b:Nat) (p:aM):∀(v:TV) (c:Nat),c∈(v.aw b p).aI->c∈v.aI:=by
 intro v
 induction v with
 |ref d q=>grind [TV.aw,TV.aI]
 |sl d q=>grind [TV.aw,TV.aI]
 |slw d q lo n=>grind [TV.aw,TV.aI]
 |mp d=>grind [TV.aw,TV.aI]
 |cons a d g j=>grind [TV.aw,TV.aI]
 |tup a e=>intro c h;exact e c h
 |bY f d e=>intro c h;exact e c h
 |_=>intro c h;exact h
theorem OB (p:Nat->Bool):∀(v:TV) (c:Nat),c∈(v.bX p).aI->c∈v.aI:=by
 intro v
 induction v with
 |ref d q=>grind [TV.bX,TV.aI]
 |sl d q=>grind [TV.bX,TV.aI]
 |slw d q lo n=>grind [TV.bX,TV.aI]
 |mp d=>grind [TV.bX,TV.aI]
 |cons a d e g=>grind [TV.bX,TV.aI]
 |tup a b=>intro c h;exact b c h
 |bY f d b=>intro c h;exact b c h
 |_=>intro c h;exact h
def kX (κ:TV->TV):Prop:=∀(v:TV) (b:Nat),b∈(κ v).aI->b∈v.aI
section
variable {Z:Type} {E:an} {B:Nat->Prop}
def pe {t:St} {b:Nat} {k:bl->Option Z} {r:Z} (g:B b) (h:b5 t b k=some r):∃y,t.box b=some y/\k y=some r/\
 ∀(s:St),eb B s t->∀{Y:Type} (k':bl->Option Y),b5 s b k'=k' y:=by
 obtain ⟨y,c,d,e⟩:=jH h;exact ⟨y,d,c,λs f Y k'=>e s (λz j=>by rw [f b g,j]) k'⟩
def uv:∀(c:TV) (p:aM) (v:TV) (k:TV->Option Z) (r:Z),bP c p v k=some r->∃y,k y=some r/\∀{Y:Type} (k':TV->Option Y),bP c p v k'=k' y:=Nn
theorem eb.gq {B:Nat->Prop} {s t:St} (h:eb B s t) {b:Nat} (c:B b):s.gq b=t.gq b:=by
 unfold St.gq;rw [h b c]
theorem xx:∀(T:Ty) (v:TV) (t:St) (k:St->TV->(TV->TV)->Option Z) (r:Z),(∀b∈v.aI,B b)->ck t T v k=some r->
 ∃l c κ,k (bK t l) c κ=some r/\(∀m∈l,B m.at)/\kX κ/\∀(s:St),eb B s t->∀{Y:Type} (k':St->TV->(TV->TV)->Option Y),ck s T v k'=k' (bK s l) c κ:=by
 have C:kX id:=λv b h=>h
 have ad:∀(T u:Ty) (x:u.ai) (t:St) (k:St->TV->(TV->TV)->Option Z) (r:Z),(∀{Y:Type} (s:St) (k:St->TV->(TV->TV)->Option Y),ck s T (.ad u x) k=if decide (u=T) then k s (.ad u x) id else none)->ck t T (.ad u x) k=some r->
  ∃l c κ,k (bK t l) c κ=some r/\(∀m∈l,B m.at)/\kX κ/\∀(s:St),eb B s t->∀{Y:Type} (k':St->TV->(TV->TV)->Option Y),ck s T (.ad u x) k'=k' (bK s l) c κ:=by
  intro T u x t k r e h;rw [e] at h;split at h;rename_i K;exact ⟨[],_,id,h,λm g=>(by cases g),C,λs _ Y k'=>by rw [e,ay K];rfl⟩;cases h
 intro T
 induction T with
 |slice T _=>
  intro v t k r q h;cases v with
  |nil=>exact ⟨[],_,id,h,λm g=>(by cases g),C,λs _ Y k'=>rfl⟩
  |sl b p=>
   have D:B b:=q b (by simp [TV.aI]);simp only [ck] at h;split at h;rename_i O;exact ⟨[],_,id,h,λm g=>(by cases g),C,λs o Y k'=>by simp only [ck];rw [o.gq D,ay O];rfl⟩;rename_i O;obtain ⟨x,_,I,W⟩:=pe D h;obtain ⟨c,j,h4⟩:=oL _ _ _ _ I;split at j;rename_i u y;split at j;cases j;rename_i X;obtain ⟨c',h5,h6⟩:=uv _ _ _ _ _ j;refine ⟨[.set b {x with c:=c'},.aw b p],_,_,h5,λm g=>?_,λv c K=>Fb b p v c K,λs o Y k'=>?_⟩;simp only [el,q1,or_false] at g;rcases g with rfl|rfl<;>exact D
   simp only [ck];rw [o.gq D,au O,W s o,h4];simp only;rw [au X,h6];rfl;cases j
  |slw b p lo n=>
   have D:B b:=q b (by simp [TV.aI]);simp only [ck] at h;split at h;cases h;rename_i O;obtain ⟨x,_,I,W⟩:=pe D h;obtain ⟨c,j,h4⟩:=oL _ _ _ _ I;split at j;rename_i u y;split at j;cases j;rename_i X;split at j;rename_i z ac;obtain ⟨c',h5,h6⟩:=uv _ _ _ _ _ j;refine ⟨[.set b {x with c:=c'},.aw b p],_,_,h5,λm g=>?_,λv c K=>Fb b p v c K,λs o Y k'=>?_⟩;simp only [el,q1,or_false] at g;rcases g with rfl|rfl<;>exact D
   simp only [ck];rw [au O,W s o,h4];simp only;rw [au X];simp only [ac];rw [h6];rfl;cases j;cases j
  |ad u x=>exact ad _ u x t k r (λs k=>rfl) h
  |_=>simp [ck] at h
 |cons T U ae af=>
  intro v t k r q h;cases v with
  |cons a d=>
   simp only [ck] at h;obtain ⟨aa,aj,ah,I,W,j,h4⟩:=ae a t _ r (λb J=>q b (by simp [TV.aI,J])) h;obtain ⟨ag,ak,al,h5,h6,ab,h8⟩:=af (ah d) (bK t aa) _ r (λb J=>q b (by simp [TV.aI,j _ _ J])) I;refine ⟨aa++ag,_,_,by rw [hK];exact h5,λm g=>?_,λv b J=>j _ _ (ab _ _ J),λs o Y k'=>?_⟩
   grind
   simp only [ck];rw [h4 s o,h8 _ (o.bK aa),hK]
  |ad u x=>exact ad _ u x t k r (λs k=>rfl) h
  |_=>simp [ck] at h
 |unit=>
  intro v t k r q h;cases v with
  |unit=>exact ⟨[],_,id,h,λm g=>(by cases g),C,λs _ Y k'=>rfl⟩
  |ad u x=>exact ad _ u x t k r (λs k=>rfl) h
  |_=>simp [ck] at h
 |bG=>
  intro v t k r q h;cases v with
  |ad u x=>exact ad _ u x t k r (λs k=>rfl) h
  |ref b p=>exact ⟨[],_,id,h,λm g=>(by cases g),C,λs _ Y k'=>rfl⟩
  |bw u x=>exact ⟨[],_,id,h,λm g=>(by cases g),C,λs _ Y k'=>rfl⟩
  |bY f c=>exact ⟨[],_,id,h,λm g=>(by cases g),C,λs _ Y k'=>rfl⟩
  |mp b=>exact ⟨[],_,id,h,λm g=>(by cases g),C,λs _ Y k'=>rfl⟩
  |_=>simp [ck] at h
 |_=>
  intro v t k r q h;cases v with
  |ad u x=>exact ad _ u x t k r (λs k=>rfl) h
  |_=>simp [ck] at h
end
section
variable {Z:Type} {E:an} {A B:Nat->Prop}
theorem qC {l m:List Mv} (b:∀x∈l,B x.at) (c:∀x∈m,B x.at):∀x∈l++m,B x.at:=λx d=>by
 grind
theorem FA {m:Mv} (h:B m.at):∀x∈[m],B x.at:=λx b=>by simp_all
theorem FB {m b:Mv} (h:B m.at) (c:B b.at):∀x∈[m,b],B x.at:=λx d=>by
 grind
theorem an4 {T:Ty} {a v:TV} {t:St} {k:St->Option Z} {r:Z} (I:∀b∈a.aI,B b) (K:∀b∈v.aI,B b) (h:lr t T a v k=some r):
 ∃l,k (bK t l)=some r/\(∀m∈l,B m.at)/\∀(s:St),eb B s t->∀{Y:Type} (k':St->Option Y),lr s T a v k'=k' (bK s l):=by
 cases a with
 |ref f j=>
  simp only [lr] at h;obtain ⟨l,c,κ,n,q,D,h4⟩:=xx (B:=B) T v t _ r K h;split at n;rotate_left;cases n;rename_i b p C;have g:B b:=by
   have:=D (.ref f j) b (by rw [C];simp [TV.aI]);exact I b this
  obtain ⟨x,_,h5,h6⟩:=pe g n;split at h5;cases h5;rename_i J;obtain ⟨c',o,h8⟩:=uv _ _ _ _ _ h5;have e:∀(s:St),eb B s t->∀{Y:Type} (k':St->Option Y),lr s T (.ref f j) v k'=match c with
   | .ad u _=>if u.aW then k' ((bK s l).b4 b {x with c:=c'}) else k' (((bK s l).b4 b {x with c:=c'}).aw b p)
   |_=>k' (((bK s l).b4 b {x with c:=c'}).aw b p):=by
   intro s d Y k';simp only [lr];rw [h4 s d];simp only [C];rw [h6 _ (d.bK l),au J,h8];cases c<;>rfl
  have hl:(k (((bK t l).b4 b {x with c:=c'}).aw b p)=some r)->(∀(s:St),eb B s t->∀{Y:Type} (k':St->Option Y),lr s T (.ref f j) v k'=k' (((bK s l).b4 b {x with c:=c'}).aw b p))->
   ∃l,k (bK t l)=some r/\(∀m∈l,B m.at)/\∀(s:St),eb B s t->∀{Y:Type} (k':St->Option Y),lr s T (.ref f j) v k'=k' (bK s l):=by
   intro O U;refine ⟨l++[.set b {x with c:=c'},.aw b p],by rw [hK];exact O,qC q (by exact FB g g),λs d Y k'=>?_⟩;rw [U s d,hK];rfl
  cases c with
  |ad u y=>
   simp only at o;by_cases z:u.aW=true;rw [ay z] at o;refine ⟨l++[.set b {x with c:=c'}],by rw [hK];exact o,qC q (by exact FA g),λs d Y k'=>?_⟩;rw [e s d,hK];simp only [ay z];rfl
   grind
  |_=>simp_all
 |_=>simp [lr] at h
theorem an2 {T:Ty} {a v:TV} {t:St} {k:St->Option Z} {r:Z} (n:∀b∈a.aI,B b) (h:lq t T a v k=some r):
 ∃l,k (bK t l)=some r/\(∀m∈l,B m.at)/\∀(s:St),eb B s t->∀{Y:Type} (k':St->Option Y),lq s T a v k'=k' (bK s l):=by
 cases a with
 |ref b p=>
  have f:B b:=n b (by simp [TV.aI]);simp only [lq] at h;split at h;rotate_left;cases h;rename_i c q;obtain ⟨x,_,h5,h6⟩:=pe f h;split at h5;cases h5;rename_i o;obtain ⟨c',g,h8⟩:=uv _ _ _ _ _ h5;have e:∀(s:St),eb B s t->∀{Y:Type} (k':St->Option Y),lq s T (.ref b p) v k'=match c with
   | .ad u _=>if u.aW then k' (s.b4 b {x with c:=c'}) else k' ((s.b4 b {x with c:=c'}).aw b p)
   |_=>k' ((s.b4 b {x with c:=c'}).aw b p):=by
   intro s d Y k';simp only [lq,q];rw [h6 _ d,au o,h8];cases c<;>rfl
  have hl:(k ((t.b4 b {x with c:=c'}).aw b p)=some r)->(∀(s:St),eb B s t->∀{Y:Type} (k':St->Option Y),lq s T (.ref b p) v k'=k' ((s.b4 b {x with c:=c'}).aw b p))->
   ∃l,k (bK t l)=some r/\(∀m∈l,B m.at)/\∀(s:St),eb B s t->∀{Y:Type} (k':St->Option Y),lq s T (.ref b p) v k'=k' (bK s l):=by
   intro z C;exact ⟨[.set b {x with c:=c'},.aw b p],z,(by exact FB f f),λs d Y k'=>C s d k'⟩
  cases c with
  |ad u y=>
   simp only at g;by_cases j:u.aW=true;rw [ay j] at g;refine ⟨[.set b {x with c:=c'}],g,(by exact FA f),λs d Y k'=>?_⟩;rw [e s d];simp only [ay j];rfl
   grind
  |_=>simp_all
 |_=>simp [lq] at h
theorem UJ {T:Ty}:∀(vs:List TV) (kl:TV->TV) (t:St) (k:St->List T.ai->Option Z) (r:Z),(∀v∈vs,∀b∈v.aI,B b)->kX kl->ob t T kl vs k=some r->
 ∃l xs,k (bK t l) xs=some r/\(∀m∈l,B m.at)/\∀(s:St),eb B s t->∀{Y:Type} (k':St->List T.ai->Option Y),ob s T kl vs k'=k' (bK s l) xs:=by
 intro vs
 induction vs with
 |nil=>intro kl t k r _ _ h;exact ⟨[],[],h,λm u=>(by cases u),λs _ Y k'=>rfl⟩
 |cons v vs C=>
  intro kl t k r j f h;simp only [ob] at h;obtain ⟨l,c,κ,d,n,o,h4⟩:=xx (B:=B) T (kl v) t _ r (λb e=>j v (by simp) b (f _ _ e)) h;split at d;rotate_left;cases d;rename_i x z;obtain ⟨D,xs,h5,h6,q⟩:=C _ _ _ _ (λw y=>j w (by simp [y])) (λv b e=>f _ _ (o _ _ e)) d;refine ⟨l++D,_,by rw [hK];exact h5,qC n h6,λs g Y k'=>?_⟩;simp only [ob];rw [h4 s g];simp only [z];rw [q _ (g.bK l),hK]
def Qn (A B:Nat->Prop) (dst:Option Nat) (t:St) (k:St->Option Z) (r:Z) (f:(s:St)->∀{Y:Type},(St->Option Y)->Option Y):Prop:=
 ∃l v new,k ((bK t l).step dst v new)=some r/\(∀m∈l,B m.at)/\(∀x∈new,∃d,dst=some d/\x.1/32=d/\(bK t l).box x.1=none)/\
  ∀(s:St),eb A s t->(∀x∈new,(bK s l).box x.1=none)->∀{Y:Type} (k':St->Option Y),f s k'=k' ((bK s l).step dst v new)
theorem eb.mono {s t:St} (c:∀b,B b->A b) (h:eb A s t):eb B s t:=λb d=>h b (c b d)
theorem ahM {T f:Ty} {v:TV} {t:St} {k:St->List T.ai->(TV->TV)->Option Z} {r:Z} (x:∀b,B b->A b) (u:∀b∈v.aI,A b) (y:T.aW=false->f≠ .bR->∀b∈v.aI,B b) (h:nk t T f v k=some r):
 ∃l xs κ,k (bK t l) xs κ=some r/\(∀m∈l,B m.at)/\kX κ/\∀(s:St),eb A s t->∀{Y:Type} (k':St->List T.ai->(TV->TV)->Option Y),nk s T f v k'=k' (bK s l) xs κ:=by
 unfold nk at h;split at h;split at h;split at h;rename_i xs o;exact ⟨[],_,id,h,λm j=>(by cases j),λv b h=>h,λs _ Y k'=>by simp only [nk,o];rfl⟩;cases h;cases h;split at h;rename_i e;obtain ⟨xs,d,g⟩:=NB h;exact ⟨[],xs,id,d,λm j=>(by cases j),λv b h=>h,λs n Y k'=>by simp only [nk,e,cu];rw [g s (n.ag u)];rfl⟩;rename_i e;obtain ⟨l,c,κ,d,g,q,h4⟩:=xx (B:=B) _ v t _ r (y (by simpa using e) (by simp)) h;split at d;rename_i xs o;refine ⟨l,xs,κ,d,g,q,λs n Y k'=>?_⟩;simp only [nk,e];rw [au (by simp),h4 s (n.mono x)];simp only [o];cases d;cases h
def aer {o d:Nat} {T f:Ty} {x y:TV} {t:St} {k:St->Option Z} {r:Z} (g:∀b,B b->A b) (I:∀b∈x.aI,B b) (K:∀b∈y.aI,A b) (O:T.aW=false->∀b∈y.aI,B b) (h:p8 t o d T f x y k=some r):
 Qn A B (some d) t k r λs _ k'=>p8 s o d T f x y k':=by
 unfold p8 at h;split at h;cases h;rename_i D;obtain ⟨l,ac,κ,n,q,u,h4⟩:=ahM g K (λe _=>O e) h;obtain ⟨U,c,ad,h5,h6,ab,h8⟩:=xx (B:=B) _ (κ x) _ _ r (λb z=>I b (u _ _ z)) n;split at h5;rotate_left;cases h5;rename_i xs J;split at h5;rotate_left;cases h5;rename_i C;obtain ⟨v,new,W,X,aa⟩:=Fy h5;refine ⟨l++U,v,new,by rw [hK];exact W,qC q h6,by rw [hK];exact X,λs j e Y k'=>?_⟩;show p8 s o d T f x y k'=_;unfold p8;rw [au D,h4 s j,h8 _ ((j.mono g).bK l)];simp only [J,C];rw [hK] at e|-;rw [aa _ e]
def fQ (B:Nat->Prop):List PM->List TV->Prop
 |m::c,v::vs=>(m.gv=true\/∀b∈v.aI,B b)/\fQ B c vs
 |_,_=>True
theorem fQ.map {g:TV->TV} (c:kX g):∀{d:List PM} {vs:List TV},fQ B d vs->fQ B d (vs.map g)
 |[],_,_=>by unfold fQ;trivial
 |_::_,[],_=>by simp_all
 |_::_,_::_,h=>⟨h.1.imp id λh b e=>h b (c _ _ e),fQ.map c h.2⟩
theorem ajS:∀(g:List PM) (vs:List TV) (t:St) (k:St->List TV->(TV->TV)->Option Z) (r:Z),fQ B g vs->ek t g vs k=some r->
 ∃l f κ,k (bK t l) f κ=some r/\(∀m∈l,B m.at)/\(∀A:Nat->Prop,(∀v∈vs,∀b∈v.aI,A b)->∀v∈f,∀b∈v.aI,A b)/\fQ B g f/\kX κ/\∀(s:St),eb B s t->∀{Y:Type} (k':St->List TV->(TV->TV)->Option Y),ek s g vs k'=k' (bK s l) f κ:=by
 intro g
 induction g with
 |nil=>
  intro vs t k r n h;cases vs with
  |nil=>exact ⟨[],[],id,h,λm I=>(by cases I),λ_ _ v n=>(by cases n),trivial,λv b h=>h,λs _ Y k'=>rfl⟩
  |cons v vs=>simp [ek] at h
 |cons m g C=>
  intro vs t k r n h;cases vs with
  |nil=>simp [ek] at h
  |cons v vs=>
   have U:(∀{Y:Type} (s:St) (k:St->List TV->(TV->TV)->Option Y),ek s (m::g) (v::vs) k=ek s g vs λs vs κ=>k s (κ v::vs) κ)->
    ∃l f κ,k (bK t l) f κ=some r/\(∀m∈l,B m.at)/\(∀A:Nat->Prop,(∀w∈v::vs,∀b∈w.aI,A b)->∀v∈f,∀b∈v.aI,A b)/\fQ B (m::g) f/\kX κ/\∀(s:St),eb B s t->∀{Y:Type} (k':St->List TV->(TV->TV)->Option Y),ek s (m::g) (v::vs) k'=k' (bK s l) f κ:=by
    intro e;rw [e] at h;obtain ⟨l,f,κ,o,z,q,D,h4,h5⟩:=C vs t _ r n.2 h;refine ⟨l,κ v::f,κ,o,z,λA u w j b d=>?_,⟨n.1.imp id λh b d=>h b (h4 _ _ d),D⟩,h4,λs y Y k'=>by rw [e,h5 s y]⟩;rcases el.1 j with rfl|j
    exact u v (by simp) b (h4 _ _ d);exact q A (λw j=>u w (by simp [j])) w j b d
   cases m with
   |ab T=>
    cases T with
    |slice T=>
     simp only [ek] at h;obtain ⟨l,c,κ,o,z,q,h4⟩:=xx (B:=B) _ v t _ r (n.1.resolve_left (by simp [PM.gv])) h;split at o;rotate_left;cases o;rename_i x K;obtain ⟨O,f,af,W,X,aa,ac,ad,ae⟩:=C (vs.map κ) _ _ r (n.2.map q) o;refine ⟨l++O,_,_,by rw [hK];exact W,qC z X,λA u w j b d=>?_,show fQ B (_::g) (_::f) from ⟨.inr λb d=>(by cases d),ac⟩,λv b d=>q _ _ (ad _ _ d),λs y Y k'=>?_⟩;rcases el.1 j with rfl|j
     cases d;refine aa A (λw j b d=>?_) w j b d;obtain ⟨w',J,rfl⟩:=cQ.1 j;exact u w' (by simp [J]) b (q _ _ d);simp only [ek];rw [h4 s y];simp only [K];rw [ae _ (y.bK l),hK]
    |_=>simp [ek] at h
   |_=>exact U λs k=>by simp only [ek]
theorem ajP:∀(n:List PM) (vs:List TV) (t:St) (k:St->List TV->(TV->TV)->Option Z) (r:Z),fQ B n vs->cH t n vs k=some r->
 ∃l o κ,k (bK t l) o κ=some r/\(∀m∈l,B m.at)/\(∀A:Nat->Prop,(∀v∈vs,∀b∈v.aI,A b)->∀v∈o,∀b∈v.aI,A b)/\kX κ/\∀(s:St),eb B s t->∀{Y:Type} (k':St->List TV->(TV->TV)->Option Y),cH s n vs k'=k' (bK s l) o κ:=by
 intro n
 induction n with
 |nil=>
  intro vs t k r K h;cases vs with
  |nil=>exact ⟨[],[],id,h,λm q=>(by cases q),λ_ _ v K=>(by cases K),λv b h=>h,λs _ Y k'=>rfl⟩
  |cons v vs=>simp [cH] at h
 |cons m n ac=>
  intro vs t k r K h;cases vs with
  |nil=>simp [cH] at h
  |cons v vs=>
   have ad:(∀{Y:Type} (s:St) (k:St->List TV->(TV->TV)->Option Y),cH s (m::n) (v::vs) k=cH s n vs λs vs κ=>k s (κ v::vs) κ)->
    ∃l o κ,k (bK t l) o κ=some r/\(∀m∈l,B m.at)/\(∀A:Nat->Prop,(∀w∈v::vs,∀b∈w.aI,A b)->∀v∈o,∀b∈v.aI,A b)/\kX κ/\∀(s:St),eb B s t->∀{Y:Type} (k':St->List TV->(TV->TV)->Option Y),cH s (m::n) (v::vs) k'=k' (bK s l) o κ:=by
    intro e;rw [e] at h;obtain ⟨l,o,κ,f,C,z,h4,h5⟩:=ac vs t _ r K.2 h;refine ⟨l,κ v::o,κ,f,C,λA D w d b j=>?_,h4,λs J Y k'=>by rw [e,h5 s J]⟩;rcases el.1 d with rfl|d
    exact D v (by simp) b (h4 _ _ j);exact z A (λw d=>D w (by simp [d])) w d b j
   have U:∀(g:TV->TV) (x:TV),kX g->x.aI=[]->∀A:Nat->Prop,(∀w∈v::vs,∀b∈w.aI,A b)->∀w∈x::vs.map g,∀b∈w.aI,A b:=by
    intro g x W af A D w d b j;rcases el.1 d with rfl|d
    simp_all;obtain ⟨w',aa,rfl⟩:=cQ.1 d;exact D w' (by simp [aa]) b (W _ _ j)
   have O:∀b p,m.gv=false->v=.ref b p\/v=.sl b p->B b:=by
    intro b p q ae;have:=K.1.resolve_left (by simp [q])
    grind [TV.aI]
   cases m with
   |ptr T=>
    cases v with
    |ref b p=>
     cases p with
     |nil=>
      simp only [cH] at h;obtain ⟨x,_,f,C⟩:=pe (O b [] rfl (.inl rfl)) h;split at f;cases f;rename_i I;split at f;rotate_left;cases f;rename_i y ab;refine ⟨[.drop b],_,_,f,(by exact FA (O b [] rfl (.inl rfl))),U _ _ (λv c=>OB _ v c) rfl,λv c=>OB _ v c,λs J Y k'=>?_⟩;simp only [cH];rw [C s J,au I];simp only [ab];rfl
     |cons _ _=>simp [cH] at h
    |_=>simp [cH] at h
   | «mut» T=>
    cases T with
    |slice T=>
     cases v with
     |nil=>
      simp only [cH] at h;split at h;cases h;rename_i I;exact ⟨[],_,id,h,λm q=>(by cases q),λA D w d b j=>(by
       rcases el.1 d with rfl|d
       cases j
       grind),λv b h=>h,λs _ Y k'=>by simp only [cH];rw [au I];rfl⟩
     |sl b p=>
      have j:=O b p rfl (.inr rfl);simp only [cH] at h;split at h;cases h;rename_i I;obtain ⟨x,_,f,C⟩:=pe j h;obtain ⟨c,z,h4⟩:=oL _ _ _ _ f;split at z;rotate_left;cases z;rename_i u y;split at z;rotate_left;cases z;rename_i X;obtain ⟨c',h5,h6⟩:=uv _ _ _ _ _ z;refine ⟨[.set b {x with dD:=false},.set b {x with dD:=false,c:=c'},.aw b p],_,_,h5,λm q=>?_,U _ _ (λv c=>Fb _ _ v c) rfl,λv c=>Fb _ _ v c,λs J Y k'=>?_⟩;simp only [el,q1,or_false] at q;rcases q with rfl|rfl|rfl<;>exact j
      simp only [cH];rw [au I,C s J,h4];simp only;rw [ay X,h6];rfl
     |_=>simp [cH] at h
    |_=>simp [cH] at h
   |_=>exact ad λs k=>by simp only [cH]
def ahc {t:St} {m:PM} {v:TV} {k:List D->Option Z} {r:Z} (e:∀f c,m≠ .bY f c) (h:jx t m v k=some r):∃ds,k ds=some r/\∀(s:St),Ag s t v->∀{Y:Type} (k':List D->Option Y),jx s m v k'=k' ds:=by
 have b:(∀{Y:Type} (s:St) (k:List D->Option Y),jx s m v k=fU s m v λd=>k [d])->∃ds,k ds=some r/\∀(s:St),Ag s t v->∀{Y:Type} (k':List D->Option Y),jx s m v k'=k' ds:=by
  grind [Vx]
 have ab:∀(T u:Ty) (x:u.ai),(∀{Y:Type} (s:St) (k:List D->Option Y),jx s m v k=if decide (u=T) then k [⟨u,x⟩] else none)->∃ds,k ds=some r/\∀(s:St),Ag s t v->∀{Y:Type} (k':List D->Option Y),jx s m v k'=k' ds:=by
  grind
 cases m with
 |ptr T=>cases v<;>first|exact ab T _ _ λs k=>rfl|exact b λs k=>rfl
 | «mut» T=>cases v<;>first|exact ab T _ _ λs k=>rfl|exact b λs k=>rfl
 |ab T=>cases v<;>first|exact ab T _ _ λs k=>rfl|exact b λs k=>rfl
 |bY f c=>simp_all
 |ro T=>exact b λs k=>by cases v<;>rfl
 |bw T=>exact b λs k=>by cases v<;>rfl
theorem ag9 {t:St}:∀(b:List PM) (vs:List TV) (k:List D->Option Z) (r:Z),(∀m∈b,∀f c,m≠ .bY f c)->iI t b vs k=some r->
 ∃ds,k ds=some r/\∀(s:St),(∀v∈vs,Ag s t v)->∀{Y:Type} (k':List D->Option Y),iI s b vs k'=k' ds:=by
 intro b
 induction b with
 |nil=>
  grind [iI]
 |cons m b l=>
  intro vs k r e h;cases vs with
  |nil=>simp [iI] at h
  |cons v vs=>
   simp only [iI] at h;obtain ⟨d,g,j⟩:=ahc (e m (by simp)) h
   grind [iI]
def aeB {m:PM} {v:TV} {ds:List D} {t:St} {k:St->List D->Option Z} {r:Z} (I:m.gv=true\/∀b∈v.aI,B b) (h:eA t m v ds k=some r):
 ∃l g,k (bK t l) g=some r/\(∀m∈l,B m.at)/\∀(s:St),eb B s t->∀{Y:Type} (k':St->List D->Option Y),eA s m v ds k'=k' (bK s l) g:=by
 have no:(∀{Y:Type} (s:St) (k:St->List D->Option Y),eA s m v ds k=k s ds)->∃l g,k (bK t l) g=some r/\(∀m∈l,B m.at)/\∀(s:St),eb B s t->∀{Y:Type} (k':St->List D->Option Y),eA s m v ds k'=k' (bK s l) g:=by
  intro e;rw [e] at h;exact ⟨[],ds,h,λm C=>(by cases C),λs _ Y k'=>by rw [e];rfl⟩
 cases m with
 |ptr T=>
  cases v with
  |ref b p=>
   cases p with
   |nil=>
    cases ds with
    |nil=>simp [eA] at h
    |cons d ds=>
     have f:B b:=I.resolve_left (by simp [PM.gv]) b (by simp [TV.aI]);simp only [eA] at h;split at h;rotate_left;cases h;rename_i q;obtain ⟨x,_,y,o⟩:=pe f h;refine ⟨[.set b {x with c:=.ab d.t d.x},.aw b []],_,y,(by exact FB f f),λs n Y k'=>?_⟩;simp only [eA];rw [ay q,o s n];rfl
   |cons _ _=>simp [eA] at h
  |_=>simp [eA] at h
 | «mut» T=>
  cases v with
  |nil=>
   cases ds with
   |nil=>simp [eA] at h
   |cons d ds=>exact ⟨[],ds,h,λm C=>(by cases C),λs _ Y k'=>rfl⟩
  |sl b p=>
   cases ds with
   |nil=>simp [eA] at h
   |cons d ds=>
    have f:B b:=I.resolve_left (by simp [PM.gv]) b (by simp [TV.aI]);simp only [eA] at h;split at h;rotate_left;cases h;rename_i q;obtain ⟨x,_,y,o⟩:=pe f h;obtain ⟨c,j,h4⟩:=uv _ _ _ _ _ y;cases T with
    |slice u=>
     simp only at j;split at j;rename_i z;refine ⟨[.set b {x with c:=c}],_,j,(by exact FA f),λs n Y k'=>?_⟩;simp only [eA];rw [ay q,o s n,h4,ay z];rfl;rename_i z;refine ⟨[.set b {x with c:=c},.aw b p],_,j,(by exact FB f f),λs n Y k'=>?_⟩;simp only [eA];rw [ay q,o s n,h4,au z];rfl
    |_=>cases j
  |_=>simp [eA] at h
 |_=>exact no λs k=>by simp only [eA]
theorem aew:∀(b:List PM) (vs:List TV) (ds:List D) (t:St) (k:St->Option Z) (r:Z),fQ B b vs->gB t b vs ds k=some r->
 ∃l,k (bK t l)=some r/\(∀m∈l,B m.at)/\∀(s:St),eb B s t->∀{Y:Type} (k':St->Option Y),gB s b vs ds k'=k' (bK s l):=by
 intro b
 induction b with
 |nil=>
  intro vs ds t k r c h;cases vs<;>cases ds<;>first|exact ⟨[],h,λm n=>(by cases n),λs _ Y k'=>rfl⟩|simp [gB] at h
 |cons m b o=>
  intro vs ds t k r c h;cases vs with
  |nil=>simp [gB] at h
  |cons v vs=>
   simp only [gB] at h;obtain ⟨l,e,f,g,j⟩:=aeB c.1 h;obtain ⟨q,h4,h5,h6⟩:=o vs e _ k r c.2 f;refine ⟨l++q,by rw [hK];exact h4,qC g h5,λs d Y k'=>?_⟩;simp only [gB];rw [j s d,h6 _ (d.bK l),hK]
def aeW {t:St} {f:Nat} {vs:List TV} {dst:Option Nat} {k:St->Option Z} {r:Z} {c:aA} (o:E.fn f (vs.map lX)=some c) (q:c.bu) (ac:c.plain=true) (j:∀b,B b->A b) (aa:∀v∈vs,∀b∈v.aI,A b) (n:fQ B c.params vs) (h:iZ E t f vs dst k=some r):
 Qn A B dst t k r λs _ k'=>iZ E s f vs dst k':=by
 have l:∀m∈c.params,∀f x,m≠ .bY f x:=λm l f x e=>by
  have:=eT.1 ac m l;simp_all
 unfold iZ at h;rw [o] at h;simp only at h;obtain ⟨z,an,ap,U,af,ai,C,_,I⟩:=ajS (B:=B) _ _ _ _ _ n h;obtain ⟨ad,ao,aq,W,al,aj,_,J⟩:=ajP (B:=B) _ _ _ _ _ C U;obtain ⟨ds,d,K⟩:=ag9 _ _ _ _ l W;rw [q] at d;split at d;cases d;rename_i am ak ab;obtain ⟨ae,h4,ah,O⟩:=aew (B:=B) _ _ _ _ _ _ C d;obtain ⟨v,new,h5,h6,X⟩:=Xi h4;refine ⟨z++ae,v,new,by rw [hK];exact h5,qC af ah,by rw [hK];exact h6,λs y u Y k'=>?_⟩;rw [hK] at u|-;show iZ E s f vs dst k'=_;unfold iZ;rw [o];simp only;have g:=y.bK z;have D:=g.bK ad;rw [I s (y.mono j),J _ (g.mono j),K _ (λv n=>D.ag (aj A (ai A aa) v n)),q];simp only [ab];rw [O _ (g.mono j),X _ u]
theorem Z4:∀{d:List PM} {vs:List TV},(∀v∈vs,∀b∈v.aI,A b)->∀b,b∈lu d vs->A b
 |[],_,_,b,c=>by simp [lu] at c
 |_::_,[],_,b,c=>by simp [lu] at c
 |m::d,v::vs,h,b,c=>by
  simp only [lu,bp] at c;rcases c with c|c
  simp_all;exact Z4 (λw e=>h w (by simp [e])) b c
theorem fQ.imp {c:Nat->Prop} (h:∀b,B b->c b):∀{d:List PM} {vs:List TV},fQ B d vs->fQ c d vs
 |[],_,_=>by unfold fQ;trivial
 |_::_,[],_=>by unfold fQ;trivial
 |_::_,_::_,q=>⟨q.1.imp id λq b e=>h b (q b e),fQ.imp h q.2⟩
def Z3:∀(c:List PM) (vs:List TV),fQ (· ∈lu c vs) c vs
 |[],_=>by unfold fQ;trivial
 |_::_,[]=>by unfold fQ;trivial
 |m::c,v::vs=>by
  refine ⟨?_,fQ.imp (λb d=>?_) (Z3 c vs)⟩;cases e:m.gv with
  |true=>exact .inl rfl
  |false=>exact .inr λb d=>by simp [lu,e,d]
  simp only [lu,bp];exact .inr d
theorem VY {o:Oper} {s:St} {x:Operand} (d:x∈o.op.operands.toList):∀b∈(s.ev x).aI,b∈hh o s:=λb c=>
 List.mem_flatten.2 ⟨_,cQ.2 ⟨x,d,rfl⟩,c⟩
def wY (E:an) (b:Bool) (o:Oper) (t:St) (k:St->Option Z) (r:Z):Prop:=
 ∃l v new,k ((bK t l).step o.dst v new)=some r/\(∀m∈l,m.at∈ib E b o t)/\(∀x∈new,∃d,o.dst=some d/\x.1/32=d/\(bK t l).box x.1=none)/\
  ∀(s:St),eb (· ∈hh o t) s t->(∀x∈o.op.operands.toList,s.ev x=t.ev x)->(∀x∈new,(bK s l).box x.1=none)->∀{Y:Type} (k':St->Option Y),nq E b o s k'=k' ((bK s l).step o.dst v new)
def aij (aw:E.wV) {o:Oper} {t:St} {k:St->Option Z} {r:Z} (al:qU E o t=true) (h:c9 E o t k=some r):wY E false o t k r:=by
 have aj:∀x∈o.op.operands.toList,∀b∈(t.ev x).aI,b∈hh o t:=λx j=>VY j
 cases q:o.op with
 |store T a x=>
  have ah:a∈o.op.operands.toList:=da q (by simp [Op.operands]);have a3:x∈o.op.operands.toList:=da q (by simp [Op.operands]);have z:o.dst=none:=by
   grind [c9]
  have fin:∀(an:{Y:Type}->St->Ty->TV->TV->(St->Option Y)->Option Y),(∀{Y:Type} (s:St) (k:St->Option Y),c9 E o s k=dT E T λT=>an s T (s.ev a) (s.ev x) k)->
   (∀{U:Ty} {k:St->Option Z},an t U (t.ev a) (t.ev x) k=some r->∃l,k (bK t l)=some r/\(∀m∈l,m.at∈hh o t)/\∀(s:St),eb (· ∈hh o t) s t->∀{Y:Type} (k':St->Option Y),an s U (t.ev a) (t.ev x) k'=k' (bK s l))->wY E false o t k r:=by
   intro an e a6;rw [e] at h;obtain ⟨U,n,ap⟩:=jd h;obtain ⟨l,aq,h4,h5⟩:=a6 n;refine ⟨l,.unit,[],by rw [z];exact aq,(by unfold ib;rw [q];exact h4),λx j=>(by cases j),λs K j _ Y k'=>?_⟩;show c9 E o s k'=_;rw [e,ap,j a ah,j x a3,h5 s K,z];rfl
  cases D:arz E x with
  |true=>exact fin (λs T a v k=>lq s T a v k) (λs k=>by unfold c9 a8;rw [z,q];simp only [D]) λn=>an2 (B:=(· ∈hh o t)) (aj a ah) n
  |false=>exact fin (λs T a v k=>lr s T a v k) (λs k=>by unfold c9 a8;rw [z,q];simp only [D]) λn=>an4 (B:=(· ∈hh o t)) (aj a ah) (aj x a3) n
 |buildSlice T len J=>
  have m:∀x∈J.toList,x.2∈o.op.operands.toList:=λx j=>da q (by
   grind [Op.operands])
  unfold c9 at h;split at h;rotate_left;rename_i z;unfold a8 at h;simp_all;rename_i d z;split at h;rotate_left;cases h;rename_i D;split at h;cases h;have e:∀{Y:Type} (s:St) (k:St->Option Y),c9 E o s k=dT E T λT=>match T with
   | .slice u=>if Nat.beq J.toList.length len&&uu 0 J.toList&&u.fE&&Nat.ble (len*u.size) 16777216&&(Nat.blt 0 u.size) then (match L7 u (J.toList.map λx=>s.ev x.2) with
    |some xs=>qA s E.fo d u xs k
    |none=>ob s u id (J.toList.map λx=>s.ev x.2) λs xs=>lf s E.fo d u xs k) else none
   |_=>none:=by
   intro Y s k;unfold c9 a8;rw [z];simp only [D,q];rfl
  unfold a8 at h;rw [q] at h;simp only [z] at h;obtain ⟨U,n,ap⟩:=jd h;split at n;rotate_left;cases n;rename_i u;split at n;rotate_left;cases n;rename_i ak;split at n;rename_i xs a2;obtain ⟨v,new,X,aa,ai⟩:=V6 (t:=t) n;refine ⟨[],v,new,by rw [z];exact X,λm a1=>(by cases a1),by rw [z];exact aa,λs K j af Y k'=>?_⟩;have ad:(J.toList.map λx=>s.ev x.2)=J.toList.map λx=>t.ev x.2:=lA λx W=>j _ (m x W)
  show c9 E o s k'=_;rw [e,ap];simp only;rw [ay ak,ad,a2,z];exact ai s af k';rename_i a2;obtain ⟨l,xs,aq,h4,h5⟩:=UJ (B:=(· ∈hh o t)) _ id _ _ _ (λv C=>by
   grind) (λv b h=>h) n
  obtain ⟨v,new,X,aa,ai⟩:=Fy aq;refine ⟨l,v,new,by rw [z];exact X,(by unfold ib;rw [q];exact h4),by rw [z];exact aa,λs K j af Y k'=>?_⟩;have ad:(J.toList.map λx=>s.ev x.2)=J.toList.map λx=>t.ev x.2:=lA λx W=>j _ (m x W)
  show c9 E o s k'=_
  grind
 |call c=>
  have a5:a8 E o t k=some r/\∀{Y:Type} (s:St) (k:St->Option Y),c9 E o s k=a8 E o s k:=by
   grind [c9]
  obtain ⟨n,ar⟩:=a5;have call:tk E aA.plain o t=true->wY E false o t k r:=by
   intro a7;obtain ⟨c,g,f,c',q,O,ae,az,aC⟩:=Uo a7;obtain ⟨am,ag⟩:=Lc q O;rw [tm q O ae] at n;have av:∀v∈c.args.toList.map t.ev,∀b∈v.aI,b∈hh o t:=λv C=>by
    grind
   have ao:ib E false o t=lu c'.params (c.args.toList.map t.ev):=by
    unfold ib;simp_all
   obtain ⟨l,v,new,X,aa,ai,a4⟩:=aeW (A:=(· ∈hh o t)) (B:=(· ∈lu c'.params (c.args.toList.map t.ev))) az (aw.fn _ _ _ az) aC (Z4 av) av (Z3 _ _) n;refine ⟨l,v,new,X,by rw [ao];exact aa,ai,λs K j af Y k'=>?_⟩;have ad:c.args.toList.map s.ev=c.args.toList.map t.ev:=lA λx W=>j _ (ag x W)
   show c9 E o s k'=_;rw [ar,tm q O ((j g am).trans ae),ad];exact a4 s K af k'
  have aE:E2 E o t=true->wY E false o t k r:=by
   intro hi;unfold E2 at hi;rw [q] at hi;simp only at hi;split at hi;rotate_left;cases hi;rename_i g O;split at hi;rotate_left;cases hi;rename_i f ae;split at hi;rotate_left;cases hi;rename_i I a0 au;obtain ⟨am,ag⟩:=Lc q O;rw [tm q O ae] at n;unfold iZ at n;rw [a0,au] at n;simp only at n;obtain ⟨l,v,hk,a9,aB⟩:=aw.inl _ _ _ au hi _ _ _ _ _ n;have ao:ib E false o t=((c.args.toList.map t.ev).headD .un).aI:=by
    unfold ib;simp_all
   refine ⟨l,v,[],?_,λm a1=>by simp_all,λx j=>(by cases j),λs K j af Y k'=>?_⟩;rw [<-hk];unfold St.step;cases o.dst<;>rfl
   have ad:c.args.toList.map s.ev=c.args.toList.map t.ev:=lA λx W=>j _ (ag x W)
   show c9 E o s k'=_;rw [ar,tm q O ((j g am).trans ae),ad];unfold iZ;rw [a0,au];simp only;rw [aB s (λv C b D=>by
    obtain ⟨x,j,rfl⟩:=cQ.1 C;exact K b (aj _ (ag x j) b D))]
   unfold St.step;cases o.dst<;>rfl
  have both:(tk E aA.plain o t||E2 E o t)=true->wY E false o t k r:=λD=>by
   grind
  cases ak:c.callee with
  |builtin b=>
   cases b with
   |append=>
    have ah:∀x∈c.args.toList,x∈o.op.operands.toList:=λx j=>da q (by
     grind [Op.operands,Call.operands])
    have e:∀{Y:Type} (s:St) (k:St->Option Y),c9 E o s k=jT E o s .append c.argTypes.toList (c.args.toList.map s.ev) k:=by
     intro Y s k;rw [ar];unfold a8;simp_all
    rw [e] at h;unfold jT at h;split at h;contradiction;rename_i T tx x y _ aF C;split at h;rename_i U aD d aH aG z;obtain ⟨ab,ac,ax,rfl,rfl⟩:∃ab ac,c.args.toList=[ab,ac]/\t.ev ab=x/\t.ev ac=y:=by
     match a9:c.args.toList,C with
     |[ab,ac],C=>
      grind
     |[],C=>simp at C
     |[_],C=>simp at C
     |_::_::_::_,C=>simp at C
    have am:=ah ab (by rw [ax];simp);have ag:=ah ac (by rw [ax];simp);have ao:ib E false o t=if U.aW then (t.ev ab).aI else hh o t:=by
     unfold ib;simp_all
    obtain ⟨l,v,new,X,aa,ai,a4⟩:=aer (A:=(· ∈hh o t)) (B:=(· ∈ib E false o t)) (λb D=>by
     grind) (λb D=>by
     grind) (aj ac ag) (λae b D=>by
     grind) h
    refine ⟨l,v,new,by rw [z];exact X,aa,by rw [z];exact ai,λs K j af Y k'=>?_⟩;show c9 E o s k'=_
    grind [jT]
    cases h
    all_goals grind
   |_=>exact both (by simpa [qU,q,ak] using al)
  |_=>exact both (by simpa [qU,q,ak] using al)
 |_=>rw [qU,q] at al;cases al
def aii (u:E.wV) {e:Bool} {o:Oper} {t:St} {k:St->Option Z} {r:Z} (z:qU E o t=true) (h:nq E e o t k=some r):wY E e o t k r:=by
 cases e with
 |false=>exact aij u z h
 |true=>
  unfold nq at h;simp only at h;split at h;rotate_left;cases h;rename_i T a x f c;have g:a∈o.op.operands.toList:=da c (by simp [Op.operands]);have C:x∈o.op.operands.toList:=da c (by simp [Op.operands]);obtain ⟨U,j,n⟩:=jd h;obtain ⟨l,q,h4,h5⟩:=an2 (B:=(· ∈(t.ev a).aI)) (λb v=>v) j;refine ⟨l,.unit,[],by rw [f];exact q,(by unfold ib;rw [c];exact h4),λx d=>(by cases d),λs y d _ Y k'=>?_⟩;unfold nq;simp only [f,c];rw [n,d a g,d x C,h5 s (y.mono (VY g))];rfl
theorem ahl {o:Oper} {t:St} {k:St->Option Z} {r:Z} (j:L8 o t=true) (h:a8 E o t k=some r):∃v new,k (t.step o.dst v new)=some r/\oh E o t v new:=by
 unfold L8 at j;split at j;rotate_left;cases j;rename_i T len n g;have j:∀x∈n.toList,(t.ev x.2).aI=[]:=λx e=>by grind
 have m:∀x∈n.toList,x.2∈o.op.operands.toList:=λx e=>da g (by
  grind [Op.operands])
 unfold a8 at h;rw [g] at h;simp only at h;split at h;rotate_left;cases h;rename_i d f;obtain ⟨U,c,J⟩:=jd h;split at c;rotate_left;cases c;rename_i u;split at c;rotate_left;cases c;rename_i K;have I:∀s:St,(∀x∈o.op.operands.toList,s.ev x=t.ev x/\Ag s t (t.ev x))->(n.toList.map λx=>s.ev x.2)=n.toList.map λx=>t.ev x.2:=λs e=>lA λx X=>(e _ (m x X)).1
 split at c;rename_i xs y;obtain ⟨v,new,z,C,D⟩:=V6 (t:=t) c;refine ⟨v,new,by rw [f];exact z,by rw [f];exact C,λs e q Y k'=>?_⟩;unfold a8;rw [g];simp only [f];rw [J];simp only;rw [ay K,I s e,y];exact D s q k';rename_i y;obtain ⟨l,xs,O,h4,h5⟩:=UJ (B:=λ_=>False) _ id _ _ _ (λv ab b aa=>by
  grind) (λv b h=>h) c
 have W:l=[]:=by
  cases l with
  |nil=>rfl
  |cons m l=>exact (h4 m (by simp)).elim
 subst W;obtain ⟨v,new,z,C,D⟩:=Fy (t:=t) O;refine ⟨v,new,by rw [f];exact z,by rw [f];exact C,λs e q Y k'=>?_⟩;unfold a8;rw [g];simp only [f];rw [J];simp only;rw [ay K,I s e,y];simp only;rw [h5 s (λ_ h=>h.elim)];exact D s q k'
theorem anD (I:E.wV) {o:Oper} {t:St} {k:St->Option Z} {r:Z} (b:LQ E o t=true) (h:c9 E o t k=some r):∃v new,k (t.step o.dst v new)=some r/\oh E o t v new/\(∀{Y:Type} (s:St) (k:St->Option Y),c9 E o s k=a8 E o s k):=by
 have D:∀(k:St->Option Z) (r:Z),c9 E o t k=some r->a8 E o t k=some r/\∀{Y:Type} (s:St) (k:St->Option Y),c9 E o s k=a8 E o s k:=by
  grind [c9]
 obtain ⟨l,z⟩:=D _ _ h;simp only [LQ,fC] at b;rcases b with b|b
 grind [Wf,ahl]
 obtain ⟨c,g,f,c',e,d,u,q,j⟩:=Uo b;have j:∀m∈c'.params,m.gv=true:=eT.1 j
 rw [tm e d u] at l;obtain ⟨v,new,C,h4,h5⟩:=aeV q (I.fn _ _ _ q) j l;obtain ⟨K,O⟩:=Lc e d;refine ⟨v,new,C,⟨h4,λs n J Y k'=>?_⟩,z⟩;obtain ⟨x,y⟩:=afK n O;rw [tm e d ((n g K).1.trans u),x,h5 s y J]
end
section
variable {E:an}
def jk (ops:List Oper) (o:Oper) (t:St) (b:Bool):Prop:=
 match o.guard with
 |none=>b=true
 |some (j,want)=>∃(d:Nat) (x:Bool),(ops[j]?).bind (·.dst)=some d/\((t.get d=.ad .bool x/\decide (x=want)=b)\/(t.get d=.tup .unit/\b=false))
structure fP (s t:St):Prop where
 get:∀n,s.get n=t.get n
 box:∀b,s.box b=t.box b
 sv:s.sv=t.sv
theorem fP.rfl (s:St):fP s s:=⟨λ_=>Eq.refl _,λ_=>Eq.refl _,Eq.refl _⟩
def jQ (E:an) (ops:List Oper) (o:Oper) (t b:St):Prop:=
 (jk ops o t true/\∃v new,fP b (t.step o.dst v new)/\oh E o t v new/\∀{Y:Type} (s:St) (k:St->Option Y),c9 E o s k=a8 E o s k)\/
 (jk ops o t false/\fP b (t.step o.dst (.tup .unit) []))
def afs {Z:Type} {ops:List Oper} {k:St->Option Z} {o:Oper} {bar:Option (List Nat)} {bo:List (Oper×Option (List Nat))} {t:St} {r:Z} (h:iC E ops k ((o,bar)::bo) t=some r):
 (jk ops o t true/\o7 E ops bar o t (iC E ops k bo)=some r)\/(jk ops o t false/\iC E ops k bo (t.step o.dst (.tup .unit) [])=some r):=by
 unfold iC at h;cases f:o.guard with
 |none=>rw [f] at h;exact .inl ⟨by simp [jk,f],h⟩
 |some n=>
  obtain ⟨j,want⟩:=n;rw [f] at h;simp only at h;cases l:(ops[j]?).bind (·.dst) with
  |none=>rw [l] at h;cases h
  |some d=>
   rw [l] at h;simp only at h;have w:∀(x:Bool) b,t.get d=.ad .bool x->decide (x=want)=b->jk ops o t b:=λx b q u=>by
    unfold jk;grind
   split at h;rename_i x c;have c:t.get d=.ad .bool (show Bool from x):=c;revert h c;generalize (show Bool from x)=y;intro h c;cases y with
   |true=>
    simp only at h;split at h;simp_all;rename_i g;exact .inr ⟨w true _ c (by simp [g]),by cases e:o.dst<;>rw [e] at h<;>exact h⟩
   |false=>
    simp only at h;split at h;rename_i g;exact .inr ⟨w false _ c (by simp [g]),by cases e:o.dst<;>rw [e] at h<;>exact h⟩;simp_all
   rename_i c;refine .inr ⟨?_,by cases e:o.dst<;>rw [e] at h<;>exact h⟩;unfold jk;simp_all;cases h
def JU (E:an) (ops:List Oper) (zs:List (Oper×Option (List Nat))) {Z:Type} (kn:St->Option Z) (rn:Z) (hi:Nat) (t:St):Prop:=
 (hi=ops.length/\kn t=some rn)\/∃o U b,zs[hi]?=some (o,some U)/\jk ops o t true/\y3 E b ops U o t=true/\nq E b o t (iC E ops kn (zs.drop (hi+1)))=some rn
structure gm (E:an) (ops:List Oper) (zs:List (Oper×Option (List Nat))) {Z:Type} (kn:St->Option Z) (rn:Z) (L0:Nat->Prop) (hi:Nat) (T:Nat->St):Prop where
 len:hi<=ops.length
 step:∀i o,i<hi->ops[i]?=some o->¬L0 i->jQ E ops o (T i) (T (i+1))
 bo:∀i,i<hi->L0 i->fP (T (i+1)) (T i)
 stop:JU E ops zs kn rn hi (T hi)
def Xv (u:E.wV) (ops:List Oper) (zs:List (Oper×Option (List Nat))) (W:zs.map Prod.fst=ops) {Z:Type} (kn:St->Option Z) (rn:Z):∀(n lo:Nat) (t:St),lo+n=ops.length->iC E ops kn (zs.drop lo) t=some rn->
 ∃(hi:Nat) (T:Nat->St),T lo=t/\lo<=hi/\hi<=ops.length/\(∀i o,lo<=i->i<hi->ops[i]?=some o->jQ E ops o (T i) (T (i+1)))/\JU E ops zs kn rn hi (T hi):=by
 have J:zs.length=ops.length:=by grind
 intro n
 induction n with
 |zero=>
  intro lo t x h;rw [List.drop_of_length_le (by omega)] at h;exact ⟨lo,λ_=>t,rfl,cV _,by omega,λi o c b=>by omega,.inl ⟨by omega,h⟩⟩
 |succ n y=>
  intro lo t x h;have g:lo<zs.length:=by omega
  have l:zs[lo]?=some zs[lo]:=ba g;have O:ops[lo]?=some zs[lo].1:=by grind
  rw [jL g] at h;have fin:∀d,jQ E ops zs[lo].1 t d->iC E ops kn (zs.drop (lo+1)) d=some rn->∃(hi:Nat) (T:Nat->St),T lo=t/\lo<=hi/\hi<=ops.length/\(∀i o,lo<=i->i<hi->ops[i]?=some o->jQ E ops o (T i) (T (i+1)))/\JU E ops zs kn rn hi (T hi):=by
   intro d j c;obtain ⟨hi,T,I,z,q,C,D⟩:=y (lo+1) d (by omega) c;refine ⟨hi,λm=>if m=lo then t else T m,by simp,by omega,q,λi o c b K=>?_,?_⟩
   grind
   grind
  rcases afs (o:=zs[lo].1) (bar:=zs[lo].2) h with ⟨c,b⟩|⟨c,b⟩
  unfold o7 at b;split at b;rename_i j;obtain ⟨v,new,r,h4,h5⟩:=anD u j b;exact fin _ (.inl ⟨c,v,new,fP.rfl _,h4,h5⟩) r;split at b;rename_i U f;split at b;rename_i e;exact ⟨lo,λ_=>t,rfl,cV _,by omega,λi o c b=>by omega,.inr ⟨zs[lo].1,U,false,by rw [l,<-f],c,e,b⟩⟩;split at b;rename_i e;exact ⟨lo,λ_=>t,rfl,cV _,by omega,λi o c b=>by omega,.inr ⟨zs[lo].1,U,true,by rw [l,<-f],c,e,b⟩⟩;cases b;cases b;exact fin _ (.inr ⟨c,fP.rfl _⟩) b
theorem kE (s:St) (dst:Option Nat) (v:TV) (new:List (Nat×bl)) (n:Nat):(s.step dst v new).get n=if dst=some n then v else s.get n:=by
 unfold St.step St.get
 grind [gr]
theorem jE (s:St) (dst:Option Nat) (v:TV) (new:List (Nat×bl)) (b:Nat):(s.step dst v new).box b=(lk new b).or (s.box b):=by
 unfold St.step St.box;cases dst<;>exact x9 _ _ _
section
variable {Z:Type} {kn:St->Option Z} {rn:Z} {ops:List Oper} {zs:List (Oper×Option (List Nat))} {L0:Nat->Prop} {hi:Nat} {T:Nat->St}
theorem yK (s:St) (dst:Option Nat) (v:TV) (new:List (Nat×bl)):(s.step dst v new).sv=s.sv:=by cases dst<;>rfl
def an1 {o:Oper} {t b:St} (h:jQ E ops o t b):b.sv=t.sv:=by
 rcases h with ⟨_,v,new,e,_⟩|⟨_,e⟩<;>rw [e.sv,yK]
def anZ {o:Oper} {t b:St} (h:jQ E ops o t b) {n:Nat} (c:o.dst≠some n):b.get n=t.get n:=by
 rcases h with ⟨_,v,new,e,_⟩|⟨_,e⟩<;>rw [e.get,kE,au c]
def anY {o:Oper} {t c:St} (h:jQ E ops o t c) {b:Nat} (n:o.dst≠some (b/32)):c.box b=t.box b:=by
 rcases h with ⟨_,v,new,e,f,_⟩|⟨_,e⟩
 rw [e.box,jE,oV (λx g e=>?_)];rfl;obtain ⟨d,j,l,_⟩:=f.1 x g;simp_all;rw [e.box,jE];rfl
def an0 {o:Oper} {t f:St} (h:jQ E ops o t f) {b:Nat} {y:bl} (c:t.box b=some y):f.box b=some y:=by
 rcases h with ⟨_,v,new,e,g,_⟩|⟨_,e⟩
 rw [e.box,jE,oV (λx j e=>?_),c];rfl;obtain ⟨d,l,n,q⟩:=g.1 x j;simp_all;rw [e.box,jE,c];rfl
theorem gm.b3 (S:gm E ops zs kn rn L0 hi T) {i:Nat} (b:i<hi):fP (T (i+1)) (T i)\/∃o,ops[i]?=some o/\¬L0 i/\jQ E ops o (T i) (T (i+1)):=by
 by_cases h:L0 i;exact .inl (S.bo i b h);have c:ops[i]?=some _:=ba (kJ b S.len);exact .inr ⟨_,c,h,S.step i _ b c h⟩
theorem gm.mono (S:gm E ops zs kn rn L0 hi T) {b:Nat} {y:bl} {m:Nat}:∀(n:Nat),m+n<=hi->(T m).box b=some y->(T (m+n)).box b=some y:=by
 intro n
 induction n with
 |zero=>intro _ h;exact h
 |succ n c=>
  intro f h;rcases S.b3 (i:=m+n) (by omega) with e|⟨o,g,_,d⟩
  exact (e.box b).trans (c (by omega) h);exact an0 d (c (by omega) h)
theorem gm.qq (S:gm E ops zs kn rn L0 hi T) {x:Nat} {m:Nat}:∀(n:Nat),m+n<=hi->(∀i o,m<=i->i<m+n->¬L0 i->ops[i]?=some o->o.dst≠some x)->(T (m+n)).get x=(T m).get x:=by
 intro n
 induction n with
 |zero=>intro _ _;rfl
 |succ n g=>
  intro l h;rw [<-g (by omega) (λi o b j=>h i o b (by omega))];rcases S.b3 (i:=m+n) (by omega) with e|⟨o,d,c,f⟩
  exact e.get x;exact anZ f (h _ _ (by omega) (by omega) c d)
theorem gm.Vn (S:gm E ops zs kn rn L0 hi T):∀(n:Nat),n<=hi->(T n).sv=(T 0).sv:=by
 intro n
 induction n with
 |zero=>intro _;rfl
 |succ n c=>
  intro f;rw [<-c (by omega)];rcases S.b3 (i:=n) (by omega) with e|⟨o,g,d,b⟩
  exact e.sv;exact an1 b
theorem gm.tH (S:gm E ops zs kn rn L0 hi T) {b:Nat} {m:Nat}:∀(n:Nat),m+n<=hi->(∀i o,m<=i->i<m+n->¬L0 i->ops[i]?=some o->o.dst≠some (b/32))->(T (m+n)).box b=(T m).box b:=by
 intro n
 induction n with
 |zero=>intro _ _;rfl
 |succ n j=>
  intro q h;rw [<-j (by omega) (λi o c l=>h i o c (by omega))];rcases S.b3 (i:=m+n) (by omega) with e|⟨o,f,d,g⟩
  exact e.box b;exact anY g (h _ _ (by omega) (by omega) d f)
end
structure kc (ops:List Oper):Prop where
 eA:∀(i:Nat) (o:Oper),ops[i]?=some o->∀j∈dP o,j<i
 guard:∀(i:Nat) (o:Oper),ops[i]?=some o->∀j w,o.guard=some (j,w)->j∈dP o
 tM:∀(i:Nat) (o:Oper),ops[i]?=some o->∀x∈eZ ops o,∀(j:Nat) (b:Oper),ops[j]?=some b->b.dst=some x->j∈dP o\/(i<j/\((g7 ops []).getD j 0).testBit i=true)
 b3:∀(i:Nat) (o:Oper),ops[i]?=some o->∀d,o.dst=some d->∀(j:Nat) (b:Oper),ops[j]?=some b->b.dst=some d->j=i
theorem mem_iff (l:List Nat) (n:Nat):mem l n=true↔n∈l:=by
 induction l with
 |nil=>simp [mem]
 |cons k l b=>
  simp only [mem];by_cases e:k=n;subst e;simp;simp_all<;>omega
theorem LN (t:Nat) (o:Oper):nc t o=true↔o.dst=some t:=by
 unfold nc;cases o.dst with
 |none=>simp
 |some d=>
  simp_all
theorem UI {ops:List Oper} (h:Lm ops=true):kc ops:=by
 have key:∀(i:Nat) (o:Oper),ops[i]?=some o->Ln (g7 ops []) ops i o=true:=by
  intro i o c;have:=eT.1 h (o,i) (by
   rw [nI];exact ⟨i,by simp [c]⟩)
  exact this
 have all:∀{p:Oper×Nat->Bool},ops.zipIdx.all p=true->∀(j:Nat) (b:Oper),ops[j]?=some b->p (b,j)=true:=by
  intro p u j b c;exact eT.1 u (b,j) (by
   rw [nI];exact ⟨j,by simp [c]⟩)
 refine ⟨λi o c j r=>?_,λi o c j w q=>?_,λi o c x v j b f e=>?_,λi o c d e j b f n=>?_⟩
 all_goals
  have hk:=key i o c;simp only [Ln,bt] at hk;obtain ⟨⟨⟨y,g⟩,z⟩,l⟩:=hk
 have:=eT.1 y j r;simpa [Nat.blt_eq] using this;rw [q] at g;exact (mem_iff _ _).1 g;have:=all (eT.1 z x v) j b f;simp only [(LN x b).2 e,Bool.not_true,kH,fC,bt] at this;exact this.imp (mem_iff _ _).1 λh=>⟨by simpa [Nat.blt_eq] using h.1,h.2⟩
 rw [e] at l;have:=all l j b f;simp only [(LN d b).2 n,Bool.not_true,kH] at this;exact gj this
end
def ahD (acc:List Nat) (k:Nat):∀(l:List Nat),(l.foldr (λj m=>(2^j|||acc.getD j 0)|||m) 0).testBit k=true->∃j∈l,j=k\/(acc.getD j 0).testBit k=true:=by
 intro l
 induction l with
 |nil=>intro h;simp at h
 |cons j l b=>
  grind
def SB:∀(ops:List Oper) (acc:List Nat),∃l,g7 ops acc=acc++l/\l.length=ops.length/\
 ∀(i:Nat) (o:Oper),ops[i]?=some o->∀k,(l.getD i 0).testBit k=true->∃j∈dP o,j=k\/((g7 ops acc).getD j 0).testBit k=true:=by
 intro ops
 induction ops with
 |nil=>intro acc;exact ⟨[],by simp [g7],rfl,λi o h=>by simp at h⟩
 |cons o ops n=>
  intro acc;obtain ⟨l,c,d,f⟩:=n (acc++[(dP o).foldr (λj m=>(2^j|||acc.getD j 0)|||m) 0]);refine ⟨(dP o).foldr (λj m=>(2^j|||acc.getD j 0)|||m) 0::l,?_,by simp [d],λi q b k hk=>?_⟩;simp only [g7];rw [c];simp;cases i with
  |zero=>
   simp only [List.getElem?_cons_zero,aX] at b;subst b;simp only [List.getD_cons_zero] at hk;obtain ⟨j,g,e⟩:=ahD _ _ _ hk;refine ⟨j,g,e.imp id λe=>?_⟩;have r:j<acc.length:=by
    grind
   simp only [g7]
   grind
  |succ i=>
   simp only [List.getElem?_cons_succ] at b;simp only [List.getD_cons_succ] at hk;simpa only [g7] using f i q b k hk
def nP (ops:List Oper) (L:Nat->Prop):Prop:=∀(i:Nat) (o:Oper),ops[i]?=some o->L i->∀j∈dP o,L j
def te {ops:List Oper} (hk:kc ops) {L:Nat->Prop} (u:nP ops L):∀(n i:Nat) (o:Oper),i<n->ops[i]?=some o->(∀j∈dP o,L j)->∀k,((g7 ops []).getD i 0).testBit k=true->L k:=by
 obtain ⟨l,d,_,q⟩:=SB ops [];rw [dV] at d;intro n
 induction n with
 |zero=>intro i o h;omega
 |succ n y=>
  intro i o hi c f k r;obtain ⟨j,b,e⟩:=q i o c k (by rw [<-d];exact r);rcases e with rfl|e
  exact f j b;have x:=hk.eA i o c j b;have v:j<ops.length:=Nat.lt_trans x (b6.1 c).1;have g:ops[j]?=some ops[j]:=ba v;exact y j _ (by omega) g (u j _ g (f j b)) k e
def aeC {ops:List Oper} {hi:Nat} {o:Oper} {U:List Nat} (h:(ops.zip (jl ops))[hi]?=some (o,some U)):
 ops[hi]?=some o/\∀j,j<ops.length->(j<hi->((g7 ops []).getD hi 0).testBit j=true\/j∈U)/\(hi<j->((g7 ops []).getD j 0).testBit hi=true):=by
 obtain ⟨l,c,f,_⟩:=SB ops [];rw [dV] at c;obtain ⟨d,g⟩:ops[hi]?=some o/\(jl ops)[hi]?=some (some U):=by
  grind
 refine ⟨d,λj n=>?_⟩;have v:hi<ops.length:=(b6.1 d).1;have b:KB (g7 ops []) hi=some U:=by
  unfold jl at g;simp_all
 unfold KB at b;simp only at b;split at b;rotate_left;cases b;rename_i u;obtain rfl:=b2 b;have x:j∈List.range (g7 ops []).length:=g2.2 (by rw [c,f];exact n);constructor;intro q;have e:Nat.beq j hi=false:=jR (by omega);simp_all;intro q;have e:Nat.beq j hi=false:=jR (by omega);have r:Nat.blt j hi=false:=by
  cases h:Nat.blt j hi with
  |false=>rfl
  |true=>simp [Nat.blt_eq] at h;omega
 grind
section
variable {P:Program} {E:an} {F:Fr} {Q:Exit->Act->World->Prop}
theorem aC.congr {G:Nat->Gh} {s d:St} {a:Act} {w:World} (h:aC F G s a w) (o:∀n,d.get n=s.get n) (l:∀b,d.box b=s.box b) (f:d.sv=s.sv):aC F G d a w:=by
 have e:d.box=s.box:=funext l;refine ⟨λi x c=>?_,λi x c=>?_,λi j x y c g=>?_,λi x c=>?_,λi x c=>?_,h.R,λn=>?_,h.bT,h.fT,h.defers,h.nt,λi x c=>?_,λi n=>(by unfold St.fZ;rw [e,f];exact h.sv i n),by rw [f];exact h.jF⟩;rw [e] at c|-;exact h.box i x c;rw [e] at c;exact h.cC i x c;rw [e] at c g;exact h.c6 i j x y c g;rw [e] at c;exact h.b7 i x c;rw [e] at c;exact h.bQ i x c;rw [e,o];exact h.tmps n;rw [e] at c;exact h.cU i x c
theorem bH.aI {B:Nat->Option bl} {G:Nat->Gh} {w:World} {R:Nat->Prop}:∀(v:TV) (cs:List Value),bH (ax B G) w R v cs->∀b∈v.aI,∃z,B b=some z:=by
 have j:∀b p u,ax B G b p=some u->∃z,B b=some z:=by
  intro b p u h;unfold ax at h
  grind
 intro v
 induction v with
 |ref b p=>intro cs h g e;simp only [TV.aI,fq] at e;subst e;obtain ⟨_,_,_,_,h,_⟩:=h;exact j _ _ _ h
 |sl b p=>intro cs h g e;simp only [TV.aI,fq] at e;subst e;obtain ⟨_,_,_,_,_,h,_⟩:=h;exact j _ _ _ h
 |slw b p lo n=>intro cs h g e;simp only [TV.aI,fq] at e;subst e;obtain ⟨_,_,_,_,_,h,_⟩:=h;exact j _ _ _ h
 |mp b=>intro cs h g e;simp only [TV.aI,fq] at e;subst e;obtain ⟨_,_,_,_,_,h,_⟩:=h;exact j _ _ _ h
 |cons a d y C=>
  intro cs h g e;obtain ⟨q,r,_,l,x⟩:=h;simp only [TV.aI,bp] at e
  grind
 |bY f c o=>
  intro cs h g e;obtain ⟨vs,l,_⟩:=h;exact o vs l g e
 |tup a _=>intro cs h;exact h.elim
 |_=>intro cs h g e;simp [TV.aI] at e
theorem eI.aI {B:Nat->Option bl} {G:Nat->Gh} {w:World} {R:Nat->Prop} {v:TV} {x:Value} (h:eI (ax B G) w R v x):∀b∈v.aI,∃z,B b=some z:=by
 rcases h with rfl|⟨cs,h,_⟩
 intro b c;simp [TV.aI] at c;exact bH.aI v cs h
theorem fh.aI {B:Nat->Option bl} {G:Nat->Gh} {w:World} {R:Nat->Prop}:∀(v:TV) (xs:List Value),fh (ax B G) w R v xs->∀b∈v.aI,∃z,B b=some z:=by
 intro v
 induction v with
 |cons a r _ d=>
  intro xs h b c;cases xs with
  |nil=>exact h.elim
  |cons x xs=>
   simp only [TV.aI,bp] at c;rcases c with c|c
   exact eI.aI h.1 b c;exact d xs h.2 b c
 |unit=>intro xs h b c;simp [TV.aI] at c
 |_=>intro xs h;exact h.elim
theorem VR.aI {B:Nat->Option bl} {G:Nat->Gh} {w:World} {R:Nat->Prop} {v:TV} {x:Value} (h:VR (ax B G) w R v x):∀b∈v.aI,∃z,B b=some z:=by
 by_cases c:∃a,v=.tup a
 obtain ⟨a,rfl⟩:=c;obtain ⟨xs,h,_⟩:=h;exact fh.aI a xs h;rw [mV (λa e=>c ⟨a,e⟩)] at h;exact eI.aI h
end
section
variable {P:Program} {E:an} {F:Fr} {Q:Exit->Act->World->Prop}
def cp (b:Array Bool) (i:Nat):Prop:=b.getD i false=true
theorem ll {ops:Array Oper} {b:Array Bool} (n:b.size=ops.size) (i:Nat):
 i∈Region.ready .any ops b↔∃o,ops.toList[i]?=some o/\¬cp b i/\∀j∈dP o,cp b j:=by
 have e:∀o:Oper,(o.after.all λe=> !Region.binds .any e||b.getD e.on false)=true↔∀j∈dP o,cp b j:=by
  intro o;rw [<-Array.all_toList,eT];constructor;intro h j f;simp only [dP,cQ,gy] at f;obtain ⟨e,⟨d,c⟩,rfl⟩:=f;have:=h e d;rw [c,Bool.not_true,kH] at this;exact this;intro h e d;by_cases c:Region.binds .any e=true;have:=h e.on (by simp only [dP,cQ,gy];grind);unfold cp at this;rw [this];simp;simp [c]
 unfold Region.ready;rw [gy];simp only [g2,bt,hp];have g:∀i,i<ops.size->(b.getD i true=false↔¬cp b i):=by
  intro i hi;have l:i<b.size:=by omega
  unfold cp;simp_all
 grind
theorem jy {b:Array Bool} {i:Nat} (hi:i<b.size) (j:Nat):cp (b.setIfInBounds i true) j↔j=i\/cp b j:=by
 unfold cp;rw [jI,jI,Array.getElem?_setIfInBounds]
 grind
def iX (ops:List Oper) (L L0:Nat->Prop) (hi:Nat) (x:Nat):Prop:=∃(i:Nat) (o:Oper),i<hi/\¬L0 i/\L i/\ops[i]?=some o/\o.dst=some x
structure Jn (ops:List Oper) (L L0:Nat->Prop) (hi:Nat) (T:Nat->St) (s:St):Prop where
 LB:∀x,iX ops L L0 hi x->s.get x=(T hi).get x
 LA:∀x,¬iX ops L L0 hi x->s.get x=(T 0).get x
 KG:∀b,iX ops L L0 hi (b/32)->s.box b=(T hi).box b
 oA:∀b,¬iX ops L L0 hi (b/32)->s.box b=(T 0).box b
 sv:s.sv=(T 0).sv
section
variable {Z:Type} {kn:St->Option Z} {rn:Z} {ops:List Oper} {zs:List (Oper×Option (List Nat))} {L0:Nat->Prop} {hi:Nat} {T:Nat->St} {L:Nat->Prop} {s:St}
def g5 (ops:List Oper) (L:Nat->Prop) (hi:Nat) (x:Nat):Prop:=∃(i:Nat) (o:Oper),i<hi/\¬L i/\ops[i]?=some o/\o.dst=some x
theorem Jn.Gi (S:gm E ops zs kn rn L0 hi T) (J:Jn ops L L0 hi T s) {x:Nat} (g:¬g5 ops L hi x):s.get x=(T hi).get x:=by
 by_cases b:iX ops L L0 hi x;exact J.LB x b;rw [J.LA x b];have:=S.qq (x:=x) (m:=0) hi (by omega) λi o _ h f e d=>by
  by_cases c:L i;exact b ⟨i,o,by omega,f,c,e,d⟩;exact g ⟨i,o,by omega,c,e,d⟩
 simp_all
theorem Jn.yE (S:gm E ops zs kn rn L0 hi T) (J:Jn ops L L0 hi T s) {b:Nat} (h:¬g5 ops L hi (b/32)):s.box b=(T hi).box b:=by
 by_cases c:iX ops L L0 hi (b/32);exact J.KG b c;rw [J.oA b c];have:=S.tH (b:=b) (m:=0) hi (by omega) λi o _ j g f e=>by
  by_cases d:L i;exact c ⟨i,o,by omega,g,d,f,e⟩;exact h ⟨i,o,by omega,d,f,e⟩
 simp_all
def Jn.tz (S:gm E ops zs kn rn L0 hi T) (J:Jn ops L L0 hi T s) (h:∀i,i<hi->L i):fP (T hi) s:=
 ⟨λ_=>(J.Gi S λ⟨i,_,b,c,_⟩=>c (h i b)).symm,λ_=>(J.yE S λ⟨i,_,b,c,_⟩=>c (h i b)).symm,by rw [J.sv];exact S.Vn hi (cV _)⟩
def Jn.ya (hk:kc ops) (S:gm E ops zs kn rn L0 hi T) (J:Jn ops L L0 hi T s) (u:nP ops L) {i:Nat} {o:Oper} (X:i<hi) (r:ops[i]?=some o) (q:¬L i) (I:∀j∈dP o,L j) {x:Nat} (v:x∈eZ ops o):
 s.get x=(T i).get x:=by
 have C:∀(j:Nat) (b:Oper),L j->ops[j]?=some b->b.dst=some x->j∈dP o:=λj b n d c=>
  (hk.tM i o r x v j b d c).resolve_right λh=>q (te hk u (j+1) j b (nL j) d (u j b d n) i h.2)
 have D:∀(j:Nat) (b:Oper),j<i->ops[j]?=some b->b.dst=some x->j∈dP o:=λj b n d c=>
  (hk.tM i o r x v j b d c).resolve_right λh=>by omega
 by_cases g:iX ops L L0 hi x;rw [J.LB x g];obtain ⟨j,b,ab,aa,O,y,z⟩:=g;have n:=hk.eA i o r j (C j b O y z);obtain ⟨m,K⟩:∃m,hi=i+m:=⟨hi-i,by omega⟩
 rw [K];refine S.qq m (by omega) λe l U W _ f c=>?_
 have:=hk.b3 j b y x z e l f c;omega;rw [J.LA x g];have:=S.qq (x:=x) (m:=0) i (by omega) λe l U W q f c=>g ⟨e,l,by omega,q,I e (D e l (by omega) f c),f,c⟩
 simp_all
theorem Jn.e3 (S:gm E ops zs kn rn L0 hi T) (J:Jn ops L L0 hi T s) {i:Nat} (f:i<=hi) {b:Nat} {y z:bl} (e:(T i).box b=some y) (c:s.box b=some z):y=z:=by
 by_cases d:iX ops L L0 hi (b/32);rw [J.KG b d] at c;obtain ⟨m,g⟩:∃m,hi=i+m:=⟨hi-i,by omega⟩
 have:=S.mono m (by omega) e;simp_all;rw [J.oA b d] at c;have:=S.mono (m:=0) i (by omega) c;simp_all
theorem Jn.cL {G:Nat->Gh} {a:Act} {w:World} (h:aC F G s a w) (hk:kc ops) (S:gm E ops zs kn rn L0 hi T) (J:Jn ops L L0 hi T s) (l:nP ops L) {i:Nat} {o:Oper} (d:i<hi) (q:ops[i]?=some o) (n:¬L i) (f:∀j∈dP o,L j):
 Iu o s (T i):=by
 intro x r;have e:s.ev x=(T i).ev x:=by
  cases x with
  |tmp t=>
   refine J.ya hk S l d q n f ?_;unfold eZ;refine bp.2 (.inl (uS.2 ⟨_,r,rfl⟩))
  |_=>rfl
 refine ⟨e,λb g y u=>?_⟩;obtain ⟨z,c⟩:=VR.aI (cw h x) b (by rw [e];exact g);rw [J.e3 S (by omega) u c,c]
theorem Oz {ops:Array Oper} {G:Nat->Gh} {a:Act} {w:World} {t:St} (h:aC F G s a w) {o:Oper} (C:∀x∈eZ ops.toList o,s.get x=t.get x) {b:Bool} (f:jk ops.toList o t b):Region.wanted o (yielded ops a.tmps)=b:=by
 unfold jk at f;cases g:o.guard with
 |none=>rw [g] at f;simp only at f;simp [Region.wanted,g,f]
 |some J=>
  obtain ⟨j,want⟩:=J;rw [g] at f;simp only at f;obtain ⟨d,x,c,y⟩:=f;have z:d∈eZ ops.toList o:=by
   unfold eZ;simp_all
  have e:=C d z;rcases y with ⟨l,u⟩|⟨l,u⟩
  rotate_left;rw [l] at e;rw [qX] at c;have r:=U6 h c e;simp only [Region.wanted,g,r];simp_all;rw [l] at e;have q:=U5 h e;have r:yielded ops a.tmps j=some x:=by
   have I:a.tmps[d]?=some (.bool x):=by
    rw [jI] at q;cases D:a.tmps[d]? with
    |none=>rw [D] at q;cases q
    |some v=>simp_all
   rw [qX] at c;cases n:ops[j]? with
   |none=>rw [n] at c;cases c
   |some K=>
    rw [n] at c;have c:K.dst=some d:=c;simp only [yielded,n,c,I,Option.bind_some]
  simp only [Region.wanted,g,r];rw [<-u]
  grind
theorem Jn.next (hk:kc ops) (S:gm E ops zs kn rn L0 hi T) (J:Jn ops L L0 hi T s) {i:Nat} {o:Oper} (ae:i<hi) (g:ops[i]?=some o) (ag:¬L i) (ad:¬L0 i) {v:TV} {new:List (Nat×bl)}
 (K:fP (T (i+1)) ((T i).step o.dst v new)) (ah:∀x∈new,∃d,o.dst=some d/\x.1/32=d) {L':Nat->Prop} (C:∀j,L' j↔j=i\/L j):Jn ops L' L0 hi T (s.step o.dst v new):=by
 obtain ⟨m,O⟩:∃m,hi=(i+1)+m:=⟨hi-(i+1),by omega⟩
 have ab:∀x,o.dst=some x->¬iX ops L L0 hi x:=λx l ⟨j,c,_,_,y,n,q⟩=>by
  have:=hk.b3 i o g x l j c n q;simp_all
 have z:∀x,o.dst≠some x->(iX ops L' L0 hi x↔iX ops L L0 hi x):=λx l=>by
  constructor;rintro ⟨j,c,D,I,y,n,q⟩;rcases (C j).1 y with rfl|h
  simp_all;exact ⟨j,c,D,I,h,n,q⟩;rintro ⟨j,c,D,I,y,n,q⟩;exact ⟨j,c,D,I,(C j).2 (.inr y),n,q⟩
 have U:∀b,o.dst≠some (b/32)->lk new b=none:=λb af=>oV λx l e=>by
  grind
 have wr:∀x,o.dst=some x->iX ops L' L0 hi x:=λx l=>⟨i,o,ae,ad,(C i).2 (.inl rfl),g,l⟩
 refine ⟨λx f=>?_,λx f=>?_,λb f=>?_,λb f=>?_,by rw [yK];exact J.sv⟩;rw [kE];by_cases e:o.dst=some x;rw [ay e,O];rw [S.qq (m:=i+1) m (by omega) (λj c W X _ r u=>by have:=hk.b3 i o g x e j c r u;omega),K.get,kE,ay e];rw [au e];exact J.LB x ((z x e).1 f);rw [kE];have e:o.dst≠some x:=λe=>f (wr x e)
 rw [au e];exact J.LA x (λh=>f ((z x e).2 h));rw [jE];by_cases e:o.dst=some (b/32);rw [J.oA b (ab _ e)];have aa:(T hi).box b=(T (i+1)).box b:=by
  rw [O];exact S.tH (m:=i+1) m (by omega) (λj c W X _ r u=>by have:=hk.b3 i o g _ e j c r u;omega)
 have ac:(T i).box b=(T 0).box b:=by
  have:=S.tH (b:=b) (m:=0) i (by omega) (λj c W X _ r u=>by have:=hk.b3 i o g _ e j c r u;omega);simp_all
 rw [aa,K.box,jE,ac];rw [U b e];exact J.KG b ((z _ e).1 f);rw [jE];have e:o.dst≠some (b/32):=λe=>f (wr _ e)
 rw [U b e];exact J.oA b (λh=>f ((z _ e).2 h))
end
end
section
variable {E:an}
theorem VB {α:Type}:∀{l:List (Nat×α)} {n:Nat} {v:α},lk l n=some v->(n,v)∈l
 |[],_,_,h=>by cases h
 |(k,x)::l,n,v,h=>by
  rw [gr] at h;split at h;simp_all;exact List.mem_cons_of_mem _ (VB h)
def nQ (t:St) (B:List Nat) (b:Nat):Prop:=b∉B/\∀y,t.box b=some y->∀c∈y.c.aI,c∉B
theorem Ux {t:St} {B:List Nat} {b:Nat} (h:EK t B b=true):nQ t B b:=by
 have e:∀c,(!mem B c)=true->c∉B:=λc d f=>by
  rw [(mem_iff B c).2 f] at d;cases d
 simp only [EK,bt] at h;refine ⟨e b h.1,λy g c d=>e c ?_⟩;simp_all
def ap7 {e:Bool} {ops:List Oper} {U:List Nat} {o:Oper} {t:St} (h:y3 E e ops U o t=true) {j:Nat} (q:j∈U):qU E o t=true/\∀(j:Nat) (p:Oper),j∈U->ops[j]?=some p->
 (∀x∈eZ ops p,∀(i:Nat) (c:Oper),ops[i]?=some c->c.dst=some x->i∈dP p\/i∉U)/\(∀n∈k2 ops p++p.dst.toList,∀b∈(t.get n).aI,nQ t (ib E e o t) b)/\(∀d,p.dst=some d->∀b y,t.box b=some y->b/32=d->nQ t (ib E e o t) b):=by
 simp only [y3,fC,bt] at h;rcases h with h|⟨r,u⟩
 simp_all;refine ⟨r,λj p q z=>?_⟩;have:=eT.1 u j q;rw [z] at this;simp only [bt] at this;refine ⟨λx C i c I l=>?_,λn v b f=>Ux (eT.1 (eT.1 this.1.2 n v) b f),λd l b y D f=>?_⟩;have h5:=eT.1 (eT.1 this.1.1 x C) (c,i) (by
  grind)
 grind [LN,mem_iff]
 have g:=this.2;rw [l] at g;have h4:=eT.1 g (b,y) (VB D);simp only [f,nK,Bool.not_true,kH] at h4;exact Ux h4
def OA {ops:List Oper} {o:Oper} {s t:St} (c:∀x∈k2 ops o,s.get x=t.get x) {b:Bool} (h:jk ops o t b):jk ops o s b:=by
 grind [jk,k2,eZ]
theorem Uy {ops:List Oper} {o:Oper}:∀x∈k2 ops o,x∈eZ ops o:=by
 grind [k2,eZ]
theorem EL {ops:List Oper} {o:Oper} (h:∀x i,o.op≠ .extract x i):k2 ops o=eZ ops o:=by
 unfold k2;simp_all
theorem aoy (m:Mv) (v:TV):m.tv (.tup v)=.tup (m.tv v):=by cases m<;>rfl
theorem U3:∀(l:List Mv) (v:TV),i4 l (.tup v)=.tup (i4 l v)
 |[],_=>rfl
 |m::l,v=>by simp only [i4,aoy,U3 l]
def aox (m:Mv):∀(v:TV) (i:Nat) (u:TV),fV v i=some u->fV (m.tv v) i=some (m.tv u):=by
 cases m with
 |set b x=>intro v i u h;exact h
 |aw b p=>
  intro v
  induction v with
  |cons a r f e=>
   intro i u h;cases i with
   |zero=>simp only [fV,aX] at h;subst h;rfl
   |succ i=>exact e i u h
  |ad t x=>
   intro i u h;have:∀(i:Nat) (t:Ty) (x:t.ai) (u:TV),fV (.ad t x) i=some u->∃c x',u=.ad c x':=by
    intro i
    induction i with
    |zero=>intro t x u h;cases t<;>simp [fV] at h;grind
    |succ i d=>intro t x u h;cases t<;>simp [fV] at h;exact d _ _ _ h
   obtain ⟨c,x',rfl⟩:=this i t x u h;exact h
  |_=>intro i u h;cases i<;>simp [fV] at h
 |drop b=>
  intro v
  induction v with
  |cons a r f e=>
   intro i u h;cases i with
   |zero=>simp only [fV,aX] at h;subst h;rfl
   |succ i=>exact e i u h
  |ad t x=>
   intro i u h;have:∀(i:Nat) (t:Ty) (x:t.ai) (u:TV),fV (.ad t x) i=some u->∃c x',u=.ad c x':=by
    intro i
    induction i with
    |zero=>intro t x u h;cases t<;>simp [fV] at h;grind
    |succ i d=>intro t x u h;cases t<;>simp [fV] at h;exact d _ _ _ h
   obtain ⟨c,x',rfl⟩:=this i t x u h;exact h
  |_=>intro i u h;cases i<;>simp [fV] at h
def U2:∀(l:List Mv) (v:TV) (i:Nat) (u:TV),fV v i=some u->fV (i4 l v) i=some (i4 l u)
 |[],_,_,_,h=>h
 |m::l,v,i,u,h=>U2 l _ i _ (aox m v i u h)
def afP {o:Oper} {x:Operand} {i:Nat} (c:o.op=.extract x i) {t:St} {v u:TV} (f:t.ev x=.tup v) (e:fV v i=some u):oh E o t u []:=
 ⟨λy b=>(by cases b),λs d _ Y k=>by
  grind [Op.operands,a8,FW]⟩
section
variable {Z:Type} {kn:St->Option Z} {rn:Z} {ops:List Oper} {zs:List (Oper×Option (List Nat))} {L0:Nat->Prop} {hi:Nat} {T:Nat->St} {L:Nat->Prop} {s:St}
def Jn.aeE (hk:kc ops) (S:gm E ops zs kn rn L0 hi T) (J:Jn ops L L0 hi T s) (aR:∀i,L0 i->L i) {e:Oper} (aC:ops[hi]?=some e) {B:List Nat}
 (ar:∀n o,n<hi->¬L n->ops[n]?=some o->∀x∈eZ ops o,∀(j:Nat) (aH:Oper),j<=hi->ops[j]?=some aH->aH.dst=some x->j∈dP o)
 (aB:∀j p,j<hi->¬L j->ops[j]?=some p->∀n∈k2 ops p++p.dst.toList,∀b∈((T hi).get n).aI,nQ (T hi) B b)
 (br:∀j p,j<hi->¬L j->ops[j]?=some p->∀d,p.dst=some d->∀b y,(T hi).box b=some y->b/32=d->nQ (T hi) B b)
 {l:List Mv} {v:TV} {new:List (Nat×bl)} (ag:∀m∈l,m.at∈B) (aX:∀x∈new,∃d,e.dst=some d/\x.1/32=d/\(bK (T hi) l).box x.1=none):
 ∃r:Nat->St,r 0=(bK s l).step e.dst v new/\(∀i o,i<hi->ops[i]?=some o->¬L i->jQ E ops o (r i) (r (i+1)))/\(∀i,i<hi->L i->fP (r (i+1)) (r i))/\
  fP ((bK (T hi) l).step e.dst v new) (r hi):=by
 have az:∀{t:TV},(∀b∈t.aI,nQ (T hi) B b)->i4 l t=t:=λ{t} h=>U1 l λm ae K=>(h _ K).1 (ag m ae)
 have bo:∀{b:Nat} {y:bl},(T hi).box b=some y->nQ (T hi) B b->oB b l (some y)=some y:=λ{b y} aa h=>SH l λm ae=>⟨λe=>h.1 (e▸ag m ae),λaS=>h.2 y aa _ aS (ag m ae)⟩
 have aF:∀b,e.dst≠some (b/32)->lk new b=none:=λb K=>oV λx q e=>by
  grind
 have bm:∀x,e.dst≠some x->((bK s l).step e.dst v new).get x=i4 l (s.get x):=λx q=>by rw [kE,au q,yA]
 have bk:∀b,((bK s l).step e.dst v new).box b=(lk new b).or (oB b l (s.box b)):=λb=>by rw [jE,nv]
 have ax:∀(j:Nat) (o:Oper) (x:Nat),j<hi->ops[j]?=some o->o.dst=some x->e.dst≠some x:=λj o x bv X q al=>by
  have:=hk.b3 j o X x q hi e aC al;omega
 have key:∀n,n<=hi->∃r:Nat->St,r 0=(bK s l).step e.dst v new/\(∀i o,i<n->ops[i]?=some o->¬L i->jQ E ops o (r i) (r (i+1)))/\(∀i,i<n->L i->fP (r (i+1)) (r i))/\
  (∀x,g5 ops L n x->(r n).get x=(T hi).get x)/\(∀x,¬g5 ops L n x->(r n).get x=((bK s l).step e.dst v new).get x)/\
  (∀b,g5 ops L n (b/32)->(r n).box b=(T hi).box b)/\(∀b,¬g5 ops L n (b/32)->(r n).box b=((bK s l).step e.dst v new).box b)/\(r n).sv=((bK s l).step e.dst v new).sv:=by
  intro n
  induction n with
  |zero=>
   intro _;have no:∀x,¬g5 ops L 0 x:=λx ⟨i,_,h,_⟩=>Nat.not_lt_zero i h
   exact ⟨λ_=>_,rfl,λi o h=>absurd h (Nat.not_lt_zero i),λi h=>absurd h (Nat.not_lt_zero i),λx h=>absurd h (no x),λx _=>rfl,λb h=>absurd h (no _),λb _=>rfl,rfl⟩
  |succ n bf=>
   intro ah;obtain ⟨r,t0,aJ,aK,t3,t4,t5,a6,a7⟩:=bf (by omega);obtain ⟨o,X⟩:∃o,ops[n]?=some o:=⟨_,ba (kJ ah S.len)⟩
   have ext:∀(u:St) (i:Nat),i<=n->(if i<=n then r i else u)=r i:=λu i hi=>ay hi
   have aQ:∀(u:St),(if n+1<=n then r (n+1) else u)=u:=λu=>au (by omega)
   by_cases ak:L n
   ·
    have bd:∀x,g5 ops L (n+1) x↔g5 ops L n x:=λx=>by
     constructor;rintro ⟨i,p,C,D,I⟩;by_cases aO:i=n;simp_all;exact ⟨i,p,by omega,D,I⟩;rintro ⟨i,p,C,D,I⟩;exact ⟨i,p,by omega,D,I⟩
    refine ⟨λi=>if i<=n then r i else r n,by simp [t0],λi p hi ab ag=>?_,λi hi ag=>?_,?_⟩
    grind
    grind [fP.rfl]
    grind
   have aV:¬L0 n:=λh=>ak (aR n h)
   have b1:∀(x:Nat),o.dst=some x->∀(j:Nat) (p:Oper),ops[j]?=some p->p.dst=some x->j=n:=λx q j p ab aY=>hk.b3 n o X x q j p ab aY
   have bh:∀x,o.dst=some x->¬g5 ops L n x:=λx q ⟨j,p,C,_,I,O⟩=>by grind
   have bY:=aB n o ah ak X;obtain ⟨m,ae⟩:∃m,hi=n+m:=⟨hi-n,by omega⟩
   obtain ⟨a4,a0⟩:∃m,hi=(n+1)+m:=⟨hi-(n+1),by omega⟩
   have a3:∀x∈eZ ops o,(T hi).get x=(T n).get x:=λx q=>by
    rw [ae];refine S.qq m (by omega) λi p C D _ ab U=>?_
    have:=hk.eA n o X i (ar n o ah ak X x q i p (by omega) ab U);omega
   have aG:∀x∈eZ ops o,(r n).get x=(T n).get x\/(r n).get x=i4 l ((T n).get x):=λx q=>by
    rw [<-a3 x q];by_cases W:g5 ops L n x;exact .inl (t3 x W);right;have aT:e.dst≠some x:=λal=>by
     have:=hk.eA n o X hi (ar n o ah ak X x q hi e (cV _) aC al);omega
    rw [t4 x W,bm x aT,J.Gi S λ⟨j,p,C,D,I,O⟩=>W ⟨j,p,hk.eA n o X j (ar n o ah ak X x q j p (by omega) I O),D,I,O⟩]
   have av:∀x∈k2 ops o,(r n).get x=(T n).get x:=λx q=>by
    rcases aG x (Uy x q) with h|h
    exact h;rw [h,<-a3 x (Uy x q)];exact az λb K=>bY x (bp.2 (.inl q)) b K
   have bu:∀b,o.dst=some (b/32)->(r n).box b=(T n).box b:=λb K=>by
    rw [a6 b (bh _ K),bk,aF b (ax n o _ ah X K)];have aM:(T n).box b=(T 0).box b:=by
     have:=S.tH (b:=b) (m:=0) n (by omega) λi p C D _ ab U=>by grind
     grind
    have aN:s.box b=(T 0).box b:=J.oA b λ⟨i,p,_,_,I,O,b0⟩=>by
     grind
    rw [aN,<-aM];cases aa:(T n).box b with
    |none=>rw [KH];rfl
    |some y=>
     have a2:(T hi).box b=some y:=by rw [ae];exact S.mono m (by omega) aa
     grind
   have aP:(∀x i,o.op≠ .extract x i)->∀x∈o.op.operands.toList,(r n).ev x=(T n).ev x:=λam x q=>by
    cases x with
    |tmp t=>exact av t (by
     rw [EL am];unfold eZ;exact bp.2 (.inl (uS.2 ⟨_,q,rfl⟩)))
    |_=>rfl
   have aL:(∀x i,o.op≠ .extract x i)->∀x∈o.op.operands.toList,∀b∈((T n).ev x).aI,∀y,(T n).box b=some y->(r n).box b=some y:=by
    intro am x q b K y aa;have a2:(T hi).box b=some y:=by rw [ae];exact S.mono m (by omega) aa
    by_cases W:g5 ops L n (b/32);rw [t5 b W,a2];have bs:nQ (T hi) B b:=by
     cases x with
     |tmp t=>
      have aE:t∈eZ ops o:=by
       unfold eZ;exact bp.2 (.inl (uS.2 ⟨_,q,rfl⟩))
      exact bY t (bp.2 (.inl (by rw [EL am];exact aE))) b (by rw [a3 t aE];exact K)
     |const c=>exact absurd K (by
      simp only [St.ev,Lk];split<;>(try split)<;>simp [TV.aI])
     |func f=>exact absurd K (by simp [St.ev,TV.aI])
     |global g=>exact absurd K (by simp [St.ev,TV.aI])
    have bx:s.box b=some y:=by
     by_cases aA:g5 ops L hi (b/32);obtain ⟨j,p,C,D,I,O⟩:=aA;have bw:n<=j:=Nat.le_of_not_lt λh=>W ⟨j,p,h,D,I,O⟩
     rw [J.oA b λ⟨i,a5,_,_,r3,bi,bj⟩=>by
      have:=hk.b3 j p I _ O i a5 bi bj
      grind]
     have:=S.tH (b:=b) (m:=0) n (by omega) λi a5 an ao _ ab U=>by have:=hk.b3 j p I _ O i a5 ab U;omega
     grind
     rw [J.yE S aA,a2]
    have ar:lk new b=none:=oV λx q ex=>by
     obtain ⟨d,_,_,r3⟩:=aX x q
     grind [nv]
    grind
   obtain ⟨af,ac,aq,aW,aD⟩:∃af ac,fP (T (n+1)) ((T n).step o.dst af ac)/\(∀x∈ac,∃d,o.dst=some d/\x.1/32=d)/\jQ E ops o (r n) ((r n).step o.dst af ac):=by
    rcases S.step n o ah X aV with ⟨aw,af,ac,C,D,I⟩|⟨aw,C⟩
    by_cases al:∃x i,o.op=.extract x i
    ·obtain ⟨x,i,a1⟩:=al;have bg:x∈o.op.operands.toList:=da a1 (by simp [Op.operands]);have ad:=D.2 (T n) (λx _=>⟨rfl,λb _ y aa=>aa⟩) (λy aa=>by
      obtain ⟨d,_,_,r3⟩:=D.1 y aa;exact r3) some
     unfold a8 at ad;rw [a1] at ad;simp only at ad;split at ad;rotate_left;cases ad;rename_i v ai;split at ad;rotate_left;cases ad;rename_i u ap;rw [FW] at ad;have bb:=b2 ad;rw [<-bb] at C;have bc:∃a9 aj,(r n).ev x=.tup a9/\fV a9 i=some aj/\(aj=u\/aj=i4 l u):=by
      cases x with
      |tmp z=>
       have be:z∈eZ ops o:=by
        unfold eZ;exact bp.2 (.inl (uS.2 ⟨_,bg,rfl⟩))
       have ai:(T n).get z=.tup v:=ai;rcases aG z be with h|h
       exact ⟨v,u,h.trans ai,ap,.inl rfl⟩;exact ⟨i4 l v,i4 l u,by rw [<-U3,<-ai];exact h,U2 l v i u ap,.inr rfl⟩
      |const c=>exact ⟨v,u,ai,ap,.inl rfl⟩
      |func f=>exact ⟨v,u,ai,ap,.inl rfl⟩
      |global g=>exact ⟨v,u,ai,ap,.inl rfl⟩
     obtain ⟨a9,aj,an,ao,r3⟩:=bc;have aD:fP (T (n+1)) ((T n).step o.dst aj []):=by
      rcases r3 with rfl|rfl
      exact C;cases U:o.dst with
      |none=>rw [U] at C;exact C
      |some d=>
       have aq:(T hi).get d=u:=by
        rw [a0,S.qq a4 (by omega) (λi p C D _ ab bt=>by grind),C.get,kE,ay U]
       rw [az λb K=>bY d (bp.2 (.inr (by rw [U];simp))) b (by rw [aq];exact K),<-U];exact C
     exact ⟨aj,[],aD,λx q=>(by cases q),.inl ⟨OA av aw,aj,[],fP.rfl _,afP a1 an ao,I⟩⟩
    have am:∀x i,o.op≠ .extract x i:=λx i h=>al ⟨x,i,h⟩
    refine ⟨af,ac,C,λx q=>(D.1 x q).imp λd U=>⟨U.1,U.2.1⟩,.inl ⟨OA av aw,af,ac,fP.rfl _,⟨λx q=>?_,λs2 aZ aU Y k=>?_⟩,I⟩⟩;obtain ⟨d,an,ao,r3⟩:=D.1 x q
    grind
    refine D.2 s2 (λx q=>?_) aU k;obtain ⟨an,ao⟩:=aZ x q;rw [aP am x q] at an ao;exact ⟨an,λb K y aa=>ao b K y (aL am x q b K y aa)⟩;exact ⟨_,[],C,λx q=>(by cases q),.inr ⟨OA av aw,fP.rfl _⟩⟩
   have bz:∀b,o.dst≠some (b/32)->lk ac b=none:=λb K=>oV λx q e=>by
    obtain ⟨d,C,D⟩:=aW x q
    grind
   have bd:∀x,g5 ops L (n+1) x↔(g5 ops L n x\/o.dst=some x):=λx=>by
    constructor;rintro ⟨i,p,C,D,I,O⟩;by_cases aO:i=n
    grind
    exact .inl ⟨i,p,by omega,D,I,O⟩;rintro (⟨i,p,C,D,I⟩|h);exact ⟨i,p,by omega,D,I⟩;exact ⟨n,o,by omega,ak,X,h⟩
   have bq:∀x,o.dst=some x->(T hi).get x=af:=λx q=>by
    rw [a0,S.qq a4 (by omega) (λi p C D _ ab U=>by grind),aq.get,kE,ay q]
   have bn:∀b,o.dst=some (b/32)->(T hi).box b=(lk ac b).or ((T n).box b):=λb K=>by
    rw [a0,S.tH a4 (by omega) (λi p C D _ ab U=>by grind),aq.box,jE]
   refine ⟨λi=>if i<=n then r i else (r n).step o.dst af ac,by simp [t0],λi p hi ab ag=>?_,λi hi ag=>?_,?_⟩
   grind
   grind
   simp only [aQ];refine ⟨λx q=>?_,λx q=>?_,λb K=>?_,λb K=>?_,by rw [yK];exact a7⟩;rw [kE];by_cases ex:o.dst=some x
   grind
   grind
   grind [kE]
   rw [jE];by_cases ex:o.dst=some (b/32)
   grind
   grind
   grind [jE]
 obtain ⟨r,t0,aJ,aK,t3,t4,t5,a6,a7⟩:=key hi (cV _);refine ⟨r,t0,aJ,aK,⟨λx=>?_,λb=>?_,?_⟩⟩;by_cases W:g5 ops L hi x;rw [t3 x W];obtain ⟨j,p,C,D,I,O⟩:=W;rw [kE,au (ax j p x C I O),yA];exact az λb K=>aB j p C D I x (bp.2 (.inr (by rw [O];simp))) b K
 rw [t4 x W,kE,kE];split;rfl;rw [yA,yA,J.Gi S W];by_cases W:g5 ops L hi (b/32);rw [t5 b W];obtain ⟨j,p,C,D,I,O⟩:=W;rw [jE,aF b (ax j p _ C I O),nv];cases aa:(T hi).box b with
 |none=>rw [KH];rfl
 |some y=>grind
 rw [a6 b W,jE,jE,nv,nv,J.yE S W];rw [a7,yK,yK,Nj,Nj,J.sv,S.Vn hi (cV _)]
end
end
section
variable {P:Program} {Q:Exit->Act->World->Prop}
theorem FV:∀(p:List Nat) (n:Nat),n∈p->fF p n<p.length/\p[fF p n]?=some n
 |[],_,h=>by cases h
 |k::r,n,h=>by
  by_cases e:k=n;subst e;simp [fF];have b:n∈r:=by grind
  obtain ⟨c,d⟩:=FV r n b;simp only [fF,jR e,ie,c2,jg,List.getElem?_cons_succ];simp_all
theorem MX:∀(p:List Nat) (n:Nat),n∉p->fF p n=p.length
 |[],_,_=>rfl
 |k::r,n,h=>by
  simp only [el,gN] at h;simp only [fF,jR (kM h.1),ie,c2,jg,MX r n h.2]
structure Perm (p:List Nat) (n:Nat):Prop where
 len:p.length=n
 mem:∀i,i<n->i∈p
 cm:∀i j,p[i]?=some j->fF p j=i
 lt:∀j,j∈p->j<n
theorem ajU {p:List Nat} {n:Nat} (h:MU p n=true):Perm p n:=by
 simp only [MU,bt] at h;obtain ⟨⟨b,e⟩,c⟩:=h;have b:p.length=n:=gj b;have c:∀i,i<n->i∈p/\fF p (p.getD i 0)=i:=λi hi=>by
  have:=eT.1 c i (g2.2 hi);simp only [bt] at this;exact ⟨(mem_iff p i).1 this.1,gj this.2⟩
 have d:∀i j,p[i]?=some j->fF p j=i:=λi j f=>by
  grind
 exact ⟨b,λi hi=>(c i hi).1,d,λj g=>by simp_all⟩
section
variable {p:List Nat} {ops:Array Oper}
def ja (p:List Nat) (ops:Array Oper):Array Oper:=(p.filterMap λi=>(ops.toList[i]?).map (lm p)).toArray
theorem US {α β:Type} {f:α->Option β}:∀(l:List α),(∀x∈l,∃y,f x=some y)->(l.filterMap f).length=l.length/\∀(i:Nat),(l.filterMap f)[i]?=(l[i]?).bind f
 |[],_=>⟨rfl,λi=>by simp⟩
 |x::l,h=>by
  obtain ⟨y,e⟩:=h x (by simp);obtain ⟨c,d⟩:=US l λx b=>h x (by simp [b])
  grind
theorem MT (c:Perm p ops.size):(ja p ops).size=ops.size/\(∀(i:Nat),(ja p ops)[i]?=(p[i]?).bind λj=>(ops[j]?).map (lm p))/\∀(j:Nat),j<ops.size->(ja p ops)[fF p j]?=(ops[j]?).map (lm p):=by
 obtain ⟨e,g⟩:=US (f:=λi=>(ops.toList[i]?).map (lm p)) p λj b=>by
  have:=c.lt j b;simp_all
 have d:∀(i:Nat),(ja p ops)[i]?=(p[i]?).bind λj=>(ops[j]?).map (lm p):=λi=>by
  unfold ja;simp_all
 refine ⟨by unfold ja;rw [za,e,c.len],d,λj b=>?_⟩;rw [d,(FV p j (c.mem j b)).2];rfl
theorem Xg (o:Oper):dP (lm p o)=(dP o).map (fF p):=by
 unfold dP lm;simp only [uN,List.map_map,List.filter_map];congr 1
theorem aqe (c:Perm p ops.size) (ts:Array Value) (j:Nat):yielded (ja p ops) ts (fF p j)=yielded ops ts j:=by
 unfold yielded;obtain ⟨g,l,d⟩:=MT c;by_cases b:j<ops.size;rw [d j b];cases ops[j]?<;>rfl
 have e:ops[j]?=none:=Array.getElem?_eq_none (by omega);have f:fF p j=p.length:=MX p j λh=>b (c.lt j h)
 simp_all
theorem ap3 (c:Perm p ops.size) (o:Oper) (ts:Array Value):Region.wanted (lm p o) (yielded (ja p ops) ts)=Region.wanted o (yielded ops ts):=by
 unfold Region.wanted lm;cases o.guard with
 |none=>rfl
 |some g=>
  obtain ⟨j,b⟩:=g;simp only [dn];rw [aqe c]
def aqa (v:Perm p ops.size):∀(r:Nat) (l b:Array Bool) (a:Act) (w:World),l.size=ops.size->b.size=ops.size->(∀j,j<ops.size->(cp b (fF p j)↔cp l j))->
 wpAny P .any (ja p ops) Q r b a w->wpAny P .any ops Q r l a w:=by
 obtain ⟨s1,s2,aa⟩:=MT v;have X:∀(l:Array Bool) j,cp l j->j<l.size:=λl j h=>by
  apply hN;intro u;unfold cp at h;simp_all
 have D:∀(l b:Array Bool),l.size=ops.size->b.size=ops.size->(∀j,j<ops.size->(cp b (fF p j)↔cp l j))->∀j,j∈Region.ready .any ops l->fF p j∈Region.ready .any (ja p ops) b:=by
  intro l b c q f j d;obtain ⟨o,g,u,z⟩:=(ll c j).1 d;have x:j<ops.size:=(b6.1 g).1;refine (ll (by rw [s1,q]) _).2 ⟨lm p o,?_,λh=>u ((f j x).1 h),λk hk=>?_⟩;simp_all;rw [Xg] at hk
  grind
 have K:∀(l b:Array Bool),l.size=ops.size->b.size=ops.size->(∀j,j<ops.size->(cp b (fF p j)↔cp l j))->Region.ready .any ops l=[]->Region.ready .any (ja p ops) b=[]:=by
  intro l b c q f I;apply y8.2;intro i hi;obtain ⟨ad,y,u,z⟩:=(ll (by rw [s1,q]) i).1 hi;rw [qX,s2] at y;cases d:p[i]? with
  |none=>simp_all
  |some j=>
   rw [d] at y;simp only [Option.bind_some] at y;cases g:ops[j]? with
   |none=>simp_all
   |some o=>
    rw [g] at y;obtain rfl:=b2 y;have x:j<ops.size:=(y5.1 g).1;have ab:=v.cm i j d;have:j∈Region.ready .any ops l:=(ll c j).2 ⟨o,by simp_all,λh=>u (by grind),λk hk=>by
     have:=z (fF p k) (by rw [Xg];grind);have U:k<ops.size:=by
      apply hN;intro u;rw [MX p k λh=>u (v.lt k h)] at this;have:=X _ _ this;have:=v.len;omega
     exact (f k U).1 this⟩
    simp_all
 intro r
 induction r with
 |zero=>
  intro l b a w c q f h;refine ⟨?_,h.2⟩;apply y8.2;intro j d;have:=D l b c q f j d;rw [h.1] at this;cases this
 |succ r W=>
  intro l b a w c q f h;refine ⟨λI=>h.1 (K l b c q f I),λj d=>?_⟩;obtain ⟨o,g,u,z⟩:=(ll c j).1 d;have x:j<ops.size:=(b6.1 g).1;have ac:fF p j<ops.size:=by grind
  have n:=h.2 _ (D l b c q f j d);have J:∀a w,wpAny P .any (ja p ops) Q r (b.setIfInBounds (fF p j) true) a w->wpAny P .any ops Q r (l.setIfInBounds j true) a w:=λa w=>by
   refine W _ _ a w (by simp_all) (by simp_all) λk hk=>?_
   rw [jy (by omega),jy (by omega),f k hk];refine ⟨λh=>h.imp (λe=>?_) id,λh=>h.imp (λe=>by rw [e]) id⟩;have O:=(FV p j (v.mem j x)).2;rw [<-e,(FV p k (v.mem k hk)).2] at O;simp_all
  rw [qX] at g;unfold wpOp at n|-;rw [aa j x,g] at n;rw [g];simp only [dn] at n|-;rw [ap3 v] at n;split;rename_i C;rw [ay C] at n;exact n.imp (λh=>Oper.wp_mono J h) id;rename_i C;rw [au C] at n;exact J _ _ n
end
theorem ap9 {ops:Array Oper} {a:Act} {w:World} (h:wpAny P .any (ko ops.toList).toArray Q (ko ops.toList).toArray.size (Array.replicate (ko ops.toList).toArray.size false) a w):wpAny P .any ops Q ops.size (Array.replicate ops.size false) a w:=by
 unfold ko at h;simp only at h;split at h;rename_i b;have b:Perm (yo ops.toList.length 0 (mi 0 ops.toList (g7 ops.toList []))) ops.size:=ajU b;generalize yo ops.toList.length 0 (mi 0 ops.toList (g7 ops.toList []))=p at h b;have d:=(MT b).1;change wpAny P .any (ja p ops) Q (ja p ops).size (Array.replicate (ja p ops).size false) a w at h;rw [d] at h;have no:∀i,¬cp (Array.replicate ops.size false) i:=by
  intro i c;unfold cp at c;rw [jI,GW] at c
  grind
 exact aqa b _ _ _ a w (by simp) (by simp) (λj _=>⟨λh=>absurd h (no _),λh=>absurd h (no _)⟩) h;simpa using h
end
end Go.TM
