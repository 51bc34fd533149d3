/- Part 2 of 8. -/
import Derived.Great.FillDense
import Derived.Laws.Tables
import Derived.Lib.MinMax
import Derived.LoopN
import Derived.Test.YticidjkonpphfaaGreatXA
set_option autoImplicit false
set_option linter.unusedVariables false
set_option linter.unusedSimpArgs false
set_option linter.defProp false
set_option linter.constructorNameAsVariable false
namespace Go.TM
section
variable {Z:Type} {P:Program} {E:an} {F:Fr} {G:Nat->Gh} {s:St} {a:Act} {w:World} {Q:Exit->Act->World->Prop}
theorem putCells (pre old post:List Value) (vs:List Value) (h:old.length=vs.length):
 vs.toArray.zipIdx.foldl (λcs (x:Value×Nat)=>cs.setIfInBounds (pre.length+x.2) x.1) (pre++old++post).toArray=(pre++vs++post).toArray:=by
 have e0:vs.toArray.zipIdx=(vs.zipIdx 0).toArray:=by simp
 rw [e0,List.foldl_toArray];obtain ⟨b,c⟩:=Great.foldl_set pre.length vs 0 (pre++old++post).toArray
 grind
theorem tU {place:Nat->Option (Nat×Nat)} {i:Nat} {v:Value} {bn:List (Nat×Value)} {pre old post vs:List Value} (b:v.cells.toList=vs) (d:place i=some (pre.length,old.length)) (h:old.length=vs.length):
 Instr.fill place (pre++old++post).toArray ((i,v)::bn)=Instr.fill place (pre++vs++post).toArray bn:=by
 have c:v.cells=vs.toArray:=by rw [<-b]
 grind [Instr.fill,putCells]
theorem ah1 {β γ:Type} (f:Nat×β->Nat×γ) (b:∀x,(f x).1=x.1) (x:Nat×β):∀l:List (Nat×β),(l8 x l).map f=l8 (f x) (l.map f):=by
 intro l
 induction l with
 |nil=>rfl
 |cons y l c=>
  simp only [l8,gP,b]
  grind
theorem ao6 {β γ:Type} (f:Nat×β->Nat×γ) (b:∀x,(f x).1=x.1):∀l:List (Nat×β),(pk l).map f=pk (l.map f):=by
 intro l
 induction l with
 |nil=>rfl
 |cons x l c=>simp only [pk,gP,ah1 f b,c]
def aiW {β:Type} {x y:Nat×β}:∀{l:List (Nat×β)},y∈l8 x l->y=x\/y∈l:=by
 intro l
 induction l with
 |nil=>intro h;simpa [l8] using h
 |cons z l b=>
  intro h;simp only [l8] at h
  grind
theorem Ng {β:Type} {y:Nat×β}:∀{l:List (Nat×β)},y∈pk l->y∈l:=by
 intro l
 induction l with
 |nil=>intro h;exact h
 |cons x l b=>
  intro h;rcases aiW h with rfl|h
  simp;simp [b h]
def Fu {place:Nat->Option (Nat×Nat)} {i:Nat} {v:Value} {bn:List (Nat×Value)} {L:List Value} {cs:Array Value} (h:Instr.fill place L.toArray ((i,v)::bn)=some cs):
 ∃o sz,place i=some (o,sz)/\v.cells.size=sz/\o+sz<=L.length:=by
 rw [Instr.fill] at h
 grind
def agA (L:List Value) (b s1 c s2:Nat) (h:b+s1<=c) (j:c+s2<=L.length):∃A B C D E,L=A++B++C++D++E/\A.length=b/\B.length=s1/\(A++B++C).length=c/\D.length=s2:=by
 refine ⟨L.take b,(L.drop b).take s1,(L.drop (b+s1)).take (c-(b+s1)),(L.drop c).take s2,L.drop (c+s2),?_,?_,?_,?_,?_⟩;have d:L=L.take b++L.drop b:=(iS _ _).symm;have e:L.drop b=(L.drop b).take s1++L.drop (b+s1):=by rw [<-jN];exact (iS _ _).symm
 have f:L.drop (b+s1)=(L.drop (b+s1)).take (c-(b+s1))++L.drop c:=by
  have:L.drop c=(L.drop (b+s1)).drop (c-(b+s1)):=by rw [jN];congr 1;omega
  rw [this];exact (iS _ _).symm
 have g:L.drop c=(L.drop c).take s2++L.drop (c+s2):=by rw [<-jN];exact (iS _ _).symm
 grind
 all_goals grind
def ahf {place:Nat->Option (Nat×Nat)} {i j:Nat} {v u:Value} {bn:List (Nat×Value)} {L:List Value} {cs:Array Value}
 (K:∀b s1 c s2,place i=some (b,s1)->place j=some (c,s2)->b+s1<=c) (h:Instr.fill place L.toArray ((i,v)::(j,u)::bn)=some cs):Instr.fill place L.toArray ((j,u)::(i,v)::bn)=some cs:=by
 obtain ⟨b,s1,e,x,W⟩:=Fu h;have e0:L=L.take b++(L.drop b).take s1++L.drop (b+s1):=by
  have z:L.drop b=(L.drop b).take s1++L.drop (b+s1):=by rw [<-jN];exact (iS _ _).symm
  rw [gz,<-z];simp
 have O:(L.take b).length=b:=by grind
 have o:((L.drop b).take s1).length=s1:=by grind
 have f:v.cells.toList.length=s1:=by simpa using x
 have n:=h;rw [e0,tU (place:=place) (vs:=v.cells.toList) rfl (by rw [O,o];exact e) (by rw [o,f])] at n;obtain ⟨c,s2,r,y,l⟩:=Fu n;have q:u.cells.toList.length=s2:=by simpa using y
 have l:c+s2<=L.length:=by
  grind
 obtain ⟨A,B,C,D,E,rfl,g,d,a3,a4⟩:=agA L b s1 c s2 (K _ _ _ _ e r) l;have U:A.length+B.length+C.length=c:=by grind
 have X:Instr.fill place (A++B++C++D++E).toArray ((i,v)::(j,u)::bn)=Instr.fill place (A++v.cells.toList++C++u.cells.toList++E).toArray bn:=by
  have I:=tU (place:=place) (i:=i) (v:=v) (bn:=(j,u)::bn) (pre:=A) (old:=B) (post:=C++D++E) rfl (by rw [g,d];exact e) (by rw [d,f]);have J:=tU (place:=place) (i:=j) (v:=u) (bn:=bn) (pre:=A++v.cells.toList++C) (old:=D) (post:=E) rfl (by grind) (by rw [a4,q])
  grind
 have aa:Instr.fill place (A++B++C++D++E).toArray ((j,u)::(i,v)::bn)=Instr.fill place (A++v.cells.toList++C++u.cells.toList++E).toArray bn:=by
  have I:=tU (place:=place) (i:=j) (v:=u) (bn:=(i,v)::bn) (pre:=A++B++C) (old:=D) (post:=E) rfl (by rw [a4,a3];exact r) (by rw [a4,q]);have J:=tU (place:=place) (i:=i) (v:=v) (bn:=bn) (pre:=A) (old:=B) (post:=C++u.cells.toList++E) rfl (by rw [g,d];exact e) (by rw [d,f])
  grind
 grind
def ahd {place:Nat->Option (Nat×Nat)} (e:∀i j,i<j->∀b s1 d s2,place i=some (b,s1)->place j=some (d,s2)->b+s1<=d) (x:Nat×Value) {cs:Array Value}:
 ∀(l:List (Nat×Value)) (L:List Value),Instr.fill place L.toArray (l8 x l)=some cs->Instr.fill place L.toArray (x::l)=some cs:=by
 intro l
 induction l with
 |nil=>intro L h;exact h
 |cons y l o=>
  intro L h;simp only [l8] at h;split at h;rename_i c;have c:y.1<x.1:=by simp_all
  refine ahf (e _ _ c) ?_;obtain ⟨i,v⟩:=y;obtain ⟨b,s1,f,n,g⟩:=Fu h;rw [Instr.fill,f] at h|-;simp_all;exact h
theorem ahe {place:Nat->Option (Nat×Nat)} (d:∀i j,i<j->∀b s1 c s2,place i=some (b,s1)->place j=some (c,s2)->b+s1<=c) {cs:Array Value}:
 ∀(l:List (Nat×Value)) (L:List Value),Instr.fill place L.toArray (pk l)=some cs->Instr.fill place L.toArray l=some cs:=by
 intro l
 induction l with
 |nil=>intro L h;exact h
 |cons x l n=>
  intro L h;have h:=ahd d x _ L h;obtain ⟨i,v⟩:=x;obtain ⟨b,s1,e,g,f⟩:=Fu h;rw [Instr.fill,e] at h|-;simp_all
theorem bF.len {A:b0} {R:Nat->Prop}:∀(v:TV) (cs:List Value),bF A w R v cs->cs.length=v.sz
 | .ad t x,cs,h=>Rd.len t x cs h
 | .nil,_,h=>by rw [show _=_ from h];rfl
 | .unit,_,h=>by rw [show _=_ from h];rfl
 | .cons a r,cs,h=>by
  obtain ⟨b,c,rfl,d,e⟩:=h;simp [TV.sz,bF.len a b d,bF.len r c e]
 | .ref _ _,cs,h=>by obtain ⟨_,_,_,_,_,rfl⟩:=h;rfl
 | .sl _ _,cs,h=>by obtain ⟨_,_,_,_,_,_,rfl⟩:=h;rfl
 | .slw _ _ _ _,cs,h=>by obtain ⟨_,_,_,_,_,_,_,_,_,rfl,_⟩:=h;rfl
 | .bt _ _,cs,h=>by obtain ⟨_,_,_,rfl,_⟩:=h;rfl
 | .bU _ _,cs,h=>by obtain ⟨_,_,rfl⟩:=h;rfl
 | .mp _,cs,h=>by obtain ⟨_,_,_,_,_,_,rfl⟩:=h;rfl
 | .un,cs,h=>by obtain ⟨_,rfl⟩:=h;rfl
 | .tup _,_,h=>h.elim
 | .ab _ _,_,h=>h.elim
theorem bF.cells {A:b0} {R:Nat->Prop} {v:TV} {x:Value} {cs:List Value} (h:bF A w R v cs) (c:v.mw=true) (b:if v.agg then x=.agg cs.toArray else cs=[x]):x.cells.toList=cs:=by
 refine yg b (λd=>?_);rw [d] at b;have b:cs=[x]:=b;subst b;cases v with
 |un=>simp [TV.mw] at c
 |tup _=>simp [TV.mw] at c
 |ab _ _=>simp [TV.mw] at c
 |ad t y=>exact Rd.ei t y _ h x (by simp)
 |nil=>obtain h:=hr (show [x]=[_] from h);rw [h.1];rfl
 |unit=>cases h
 |cons a r=>simp [TV.agg] at d
 |ref _ _=>obtain ⟨_,_,_,_,_,h⟩:=h;rw [(hr h).1];rfl
 |sl _ _=>obtain ⟨_,_,_,_,_,_,h⟩:=h;rw [(hr h).1];rfl
 |slw _ _ _ _=>obtain ⟨_,_,_,_,_,_,_,_,_,h,_⟩:=h;rw [(hr h).1];rfl
 |bt _ _=>obtain ⟨_,_,_,h,_⟩:=h;rw [(hr h).1];rfl
 |bU _ _=>obtain ⟨_,_,h⟩:=h;rw [(hr h).1];rfl
 |mp _=>obtain ⟨_,_,_,_,_,_,h⟩:=h;rw [(hr h).1];rfl
def ig:Ty->Nat->List (Nat×Nat)
 | .cons t r,o=>(o,t.size)::ig r (o+t.size)
 |_,_=>[]
theorem alj:∀(t:Ty) (o:Nat),(∀(i:Nat) b s1,(ig t o)[i]?=some (b,s1)->o<=b)/\∀(i j:Nat),i<j->∀b s1 c s2,(ig t o)[i]?=some (b,s1)->(ig t o)[j]?=some (c,s2)->b+s1<=c:=by
 intro t
 induction t with
 |cons t u _ e=>
  intro o;obtain ⟨l,n⟩:=e (o+t.size);refine ⟨λi b s1 h=>?_,λi j g b s1 c s2 f d=>?_⟩;cases i with
  |zero=>grind [ig]
  |succ i=>simp only [ig,List.getElem?_cons_succ] at h;grind
  cases j with
  |zero=>omega
  |succ j=>
   simp only [ig,List.getElem?_cons_succ] at d;cases i with
   |zero=>
    grind [ig]
   |succ i=>
    grind [ig]
 |_=>grind [ig]
theorem XX:∀(t:Ty) (l:List Field) (o:Nat),cQ P t l o=true->l.mapM (λf=>(P.info? f.type).map λi=>(f.offset,i.size))=some (ig t o)
 | .unit,[],_,_=>rfl
 | .cons a r,f::l,o,h=>by
  simp only [cQ,bE,jR] at h;obtain ⟨⟨⟨⟨b,_⟩,_⟩,c⟩,h4⟩:=h;obtain ⟨i,hi,d,_⟩:=bC.gX (show bC P a f.type from c);simp [List.mapM_cons,hi,d,b,XX r l _ h4,ig]
 | .unit,_::_,_,h=>by simp [cQ] at h
 | .cons _ _,[],_,h=>by simp [cQ] at h
 | .int _,_,_,h=>by simp [cQ] at h
 | .bool,_,_,h=>by simp [cQ] at h
 | .bR,_,_,h=>by simp [cQ] at h
 | .bz,_,_,h=>by simp [cQ] at h
 | .slice _,_,_,h=>by simp [cQ] at h
 | .arr _ _,_,_,h=>by simp [cQ] at h
def vb:∀(t:Ty),t.aY=true->dg t (hS t)/\bH t (hS t)=eV t
 | .int _,_=>⟨trivial,rfl⟩
 | .bool,_=>⟨trivial,rfl⟩
 | .bR,_=>⟨bG _,rfl⟩
 | .bz,h=>by simp [Ty.aY] at h
 | .slice _,h=>by simp [Ty.aY] at h
 | .unit,_=>⟨trivial,rfl⟩
 | .cons t r,h=>by
  simp only [Ty.aY,bE] at h;obtain ⟨b,c⟩:=vb t h.1;obtain ⟨d,e⟩:=vb r h.2;exact ⟨⟨b,d⟩,by simp [bH,eV,hS,c,e]⟩
 | .arr n t,h=>by
  obtain ⟨b,c⟩:=vb t h;refine ⟨⟨by simp [hS],λx f=>?_⟩,?_⟩;have:=ri (show x∈List.replicate n (hS t) from f);rw [this];exact b;show ((List.replicate n (hS t)).map (bH t)).flatten=_;rw [List.map_replicate,c];rfl
def Ty.hF:Ty->Bool
 | .arr _ t=>t.aY
 | .cons t r=>t.hF&&r.hF
 |_=>true
def abg:∀(T:Ty),(∀t,dL P T t=true->T.hF=true)/\(∀l o,cQ P T l o=true->T.hF=true):=by
 intro T
 induction T with
 |cons a r c d=>
  have b:∀l o,cQ P (.cons a r) l o=true->(Ty.cons a r).hF=true:=by
   intro l o h;cases l with
   |nil=>simp [cQ] at h
   |cons f l=>
    grind [cQ,Ty.hF]
  grind [dL,Ty.hF]
 |arr n t _=>
  refine ⟨λu h=>?_,λl o h=>by simp [cQ] at h⟩;simp only [dL,bE] at h;exact h.1.2
 |_=>exact ⟨λ_ _=>rfl,λ_ _ _=>rfl⟩
theorem mC:∀(t:Ty),(eV t).length=t.size
 | .int _=>rfl
 | .bool=>rfl
 | .bR=>rfl
 | .bz=>rfl
 | .slice _=>rfl
 | .unit=>rfl
 | .cons t r=>by simp [eV,Ty.size,mC t,mC r]
 | .arr n t=>by
  simp only [eV,Ty.size];have:=mC t;simp_all
def Pq {A:b0} {R:Nat->Prop}:∀(t:Ty),t.fE=true->t.hF=true->bF A w R (mD t) (eV t)/\(mD t).mw=true/\(mD t).agg=t.agg
 | .int _,_,_=>⟨⟨rfl,trivial,rfl⟩,rfl,rfl⟩
 | .bool,_,_=>⟨⟨rfl,trivial,rfl⟩,rfl,rfl⟩
 | .bR,_,_=>⟨⟨rfl,bG _,rfl⟩,rfl,rfl⟩
 | .bz,h,_=>by simp [Ty.fE] at h
 | .slice _,_,_=>⟨rfl,rfl,rfl⟩
 | .unit,_,_=>⟨rfl,rfl,rfl⟩
 | .cons t r,h,b=>by
  simp only [Ty.fE,bE] at h;simp only [Ty.hF,bE] at b;exact ⟨⟨_,_,rfl,(Pq t h.1 b.1).1,(Pq r h.2 b.2).1⟩,rfl,rfl⟩
 | .arr n t,_,h=>by
  have c:(Ty.arr n t).aY=true:=h;obtain ⟨d,e⟩:=vb (.arr n t) c;exact ⟨⟨c,d,e.symm⟩,rfl,rfl⟩
def af4 (h:aC F G s a w):∀(t:Ty) (n o:Nat) (c:List (Nat×Operand)) (l:List Field) (pre:List Value) (place:Nat->Option (Nat×Nat)) (k:TV->Option Z) (r:Z),
 cQ P t l o=true->t.fE=true->pre.length=o->(∀j,place (n+j)=(ig t o)[j]?)->hb s t n c k=some r->
 ∃v cs,k v=some r/\bF (ay s.box G) w F.R v cs/\v.agg=true/\v.mw=true/\Instr.fill place (pre++eV t).toArray (c.map λx=>(x.1,a.eval x.2))=some (pre++cs).toArray:=by
 intro t
 induction t with
 |cons t u _ ac=>
  intro n o c l pre place k r g z D I hk;have ad:t.hF=true:=by
   have:=(abg (P:=P) (.cons t u)).2 _ _ g
   grind [Ty.hF]
  simp only [Ty.fE,bE] at z;cases l with
  |nil=>simp [cQ] at g
  |cons f l=>
   simp only [cQ,bE] at g;have zero:∀J,(hb s u (n+1) J λd=>k (.cons (mD t) d))=some r->
    ∃v cs,k v=some r/\bF (ay s.box G) w F.R v cs/\v.agg=true/\v.mw=true/\Instr.fill place (pre++eV (.cons t u)).toArray (J.map λx=>(x.1,a.eval x.2))=some (pre++cs).toArray:=by
    intro J hk;obtain ⟨v,cs,K,O,_,_,X⟩:=ac (n+1) (o+t.size) J l (pre++eV t) place _ r g.2 z.2 (by simp [D,mC]) (λj=>by
     have:=I (j+1)
     grind [ig]) hk
    refine ⟨_,eV t++cs,K,⟨_,_,rfl,(Pq t z.1 ad).1,O⟩,rfl,rfl,?_⟩;simp only [eV];simp_all
   cases c with
   |nil=>exact zero [] (by simpa only [hb] using hk)
   |cons q c=>
    obtain ⟨i,x⟩:=q;simp only [hb] at hk;split at hk;rename_i hi;have hi:i=n:=ga hi;subst hi;split at hk;rename_i aa;simp only [bE] at aa;obtain ⟨y,C⟩:=aa;have C:=ga C;have ae:=cu h x;obtain ⟨W,U,af⟩:=ae.cells (by intro e;rw [e] at y;simp [TV.mw] at y) (by intro b e;rw [e] at y;simp [TV.mw] at y);have ab:=bF.len _ _ U;obtain ⟨v,cs,K,O,_,_,X⟩:=ac (i+1) (o+t.size) c l (pre++W) place _ r g.2 z.2 (by simp [D,ab,C]) (λj=>by
     have:=I (j+1)
     grind [ig]) hk
    refine ⟨_,W++cs,K,⟨_,_,rfl,U,O⟩,rfl,rfl,?_⟩;have:=I 0;simp only [ig,List.getElem?_cons_zero,rl] at this;simp only [eV,gP];rw [<-gz,tU (U.cells y af) (by rw [this,D,mC]) (by rw [mC,ab,C]),X,gz];cases hk;exact zero _ hk
 |unit=>
  intro n o c l pre place k r g z D I hk;cases c with
  |nil=>exact ⟨.unit,[],by simpa only [hb] using hk,rfl,rfl,rfl,by simp [eV,Instr.fill]⟩
  |cons _ _=>simp [hb] at hk
 |_=>intro n o c l pre place k r g;simp [cQ] at g
def af6 (h:aC F G s a w) (I:df P E F) {o:Oper} {t:TypeId} {parts:Array (Nat×Operand)} (a5:o.op=.build t parts) (ab:∀d,o.dst=some d->d<E.nt) {k:St->Option Z} {r:Z} (hk:a8 E o s k=some r):
 o.wp P a w (cf F k r) Q:=by
 unfold a8 at hk;rw [a5] at hk;simp only [dW] at hk;split at hk;rename_i T a0;have O:=I.ty t T a0;split at hk;rename_i A c;split at hk;rename_i al;obtain ⟨i,hi,a7,_,X⟩:=O.gX;obtain ⟨z,C,D,z3⟩:=X al;have b:=O;unfold bC at b;simp only [dL,bE] at b;obtain ⟨_,b⟩:=b;split at b;rename_i aH a2;split at b;rename_i f l a4;simp only [bE,jR] at b;have ai:cQ P (.cons A c) (f::l) 0=true:=by
  grind [cQ]
 have a6:=XX (P:=P) _ _ _ ai;obtain ⟨v,cs,aa,ag,ap,aG,aq⟩:=af4 (P:=P) h (.cons A c) 0 0 (pk parts.toList) (f::l) [] ((ig (.cons A c) 0).toArray[·]?) _ r ai al rfl (λj=>by simp) hk;have g:z.cells=(eV (.cons A c)).toArray:=by rw [<-D]
 have e:P.built t (parts.map λ(i,x)=>(i,a.eval x)).toList=some cs.toArray:=by
  unfold Program.built;simp only [hi,a2,C,a4,a6,g];have ah:=aq;rw [ao6 (λx:Nat×Operand=>(x.1,a.eval x.2)) (λx=>rfl)] at ah;have ar:=ahe (λi j a3 aE s1 aF s2 ae af=>(alj (.cons A c) 0).2 i j a3 aE s1 aF s2 (by simpa using ae) (by simpa using af)) _ _ ah;simpa using ar
 have am:=run_build (P:=P) w t _ _ e;have ao:∀tv,VR (ay s.box G) w F.R tv (.agg cs.toArray)->dj o s k tv=some r->o.wp P a w (cf F k r) Q:=by
  intro tv aB hk;refine c1 (v:=.agg cs.toArray) (w':=w) ?_ (dU h I aB ab hk);unfold execOp;simp_all
 split at aa;rename_i aj;obtain ⟨x,av,aw⟩:=GL h _ v cs _ r ag aa;obtain ⟨ax,az⟩:=Rd.aY aj aw;refine ao _ ?_ av;rw [az];exact dJ (v:=.ad (.cons A c) x) (Rd.fS aj ax) rfl;exact ao _ (dJ ag (by rw [ap];rfl)) aa;cases b;cases b;cases hk;rename_i n u;obtain ⟨e0,an,aA,K⟩:=O.arr;obtain ⟨i,hi,a7,_,X⟩:=O.gX;obtain ⟨aI,ak,a9,_,_⟩:=aA.gX;split at hk;rename_i ac;have a1:∀(t:Ty),t.aY=true->t.fE=true:=by
  intro t
  induction t with
  |cons a r aJ aK=>grind [Ty.aY,Ty.fE]
  |arr n t aD=>intro h;exact aD h
  |bz=>intro h;simp [Ty.aY] at h
  |slice t _=>intro h;simp [Ty.aY] at h
  |_=>intro _;rfl
 obtain ⟨z,C,D,z3⟩:=X (a1 _ K);have g:z.cells=(eV (.arr n u)).toArray:=by rw [<-D]
 have e:P.built t (parts.map λ(i,x)=>(i,a.eval x)).toList=some (eV (.arr n u)).toArray:=by
  unfold Program.built;simp only [hi,an,C,ak,g];simp [ac,Instr.fill]
 have am:=run_build (P:=P) w t _ _ e;obtain ⟨ae,af⟩:=vb (.arr n u) K;refine c1 (v:=.agg (eV (.arr n u)).toArray) (w':=w) ?_ (dU h I ?_ ab hk);unfold execOp;simp_all;rw [<-af];exact dJ (v:=.ad (.arr n u) (hS (.arr n u))) (Rd.fS K ae) rfl
 ·rename_i x y ac;split at hk;rotate_left;cases hk;rename_i J;have J:Ty.arr n u=.arr 2 (.int .i64):=fb J;simp only [Ty.arr.injEq] at J;obtain ⟨rfl,rfl⟩:=J;split at hk;rotate_left;cases hk;rename_i p q ex au;have U:=cu h x;have W:=cu h y;rw [ex] at U;rw [au] at W;have U:=U.int;have W:=W.int;obtain ⟨z,C,D,z3⟩:=X rfl;have g:z.cells=(eV (.arr 2 (.int .i64))).toArray:=by rw [<-D]
  have e:P.built t (parts.map λ(i,x)=>(i,a.eval x)).toList=some #[.int .i64 p,.int .i64 q]:=by
   unfold Program.built;simp only [hi,an,C,ak,g,a9];simp [ac,Instr.fill,U,W,eV,Value.cells,Ty.size]
  have am:=run_build (P:=P) w t _ _ e;refine c1 (v:=.agg #[.int .i64 p,.int .i64 q]) (w':=w) ?_ (dU h I ?_ ab hk);unfold execOp;simp_all;refine dJ (v:=.ad (.arr 2 (.int .i64)) (List.cons (α:=Int) p (List.cons (α:=Int) q []))) (Rd.fS K ⟨rfl,λ_ _=>trivial⟩) rfl
 cases hk;cases hk;cases hk
end
section
variable {Z:Type} {P:Program} {E:an} {F:Fr} {G:Nat->Gh} {s:St} {a:Act} {w:World} {Q:Exit->Act->World->Prop}
def aiZ {A:b0} {R:Nat->Prop} {t:Ty} {y:t.ai} {cs:List Value} (h:Rd w R t y cs):VR A w R (.ad t y) (j0 t cs):=by
 refine dJ (cs:=cs) h ?_;unfold j0;simp only [TV.agg];split;rfl;rename_i b;have:=Rd.len _ _ _ h;rw [mu t (by simpa using b)] at this
 match cs,this with
 |[v],_=>rfl
def ahb (h:aC F G s a w) (l:df P E F) {o:Oper} {t:TypeId} {x:Operand} {n:Nat} (q:o.op=.field t x n) (ab:∀d,o.dst=some d->d<E.nt) {k:St->Option Z} {r:Z} (hk:a8 E o s k=some r):
 o.wp P a w (cf F k r) Q:=by
 unfold a8 at hk;rw [q] at hk;simp only [dW] at hk;have D:=cu h x;split at hk;rename_i T X;have ae:=l.ty t T X;split at hk;rename_i u y e;rw [e] at D;split at hk;rename_i b;have b:u=T:=fb b;subst b;obtain ⟨cs,g,j⟩:=D.cells (by simp) (by simp);obtain ⟨v,z,I,c,J,af⟩:=Rd.field u y cs n _ r g hk;obtain ⟨ag,f,K,O,U,ah,W⟩:=ae.struct c;have aa:u.agg=true:=by
  cases u with
  |cons _ _=>rfl
  |_=>simp [cE] at c
 simp only [TV.agg,aa,cN] at j;have ai:=Rd.len _ _ _ g;have ac:(sub cs (ew u n) v.size).length=v.size:=by unfold sub;simp;omega
 have ad:cs=cs.take (ew u n)++sub cs (ew u n) v.size++cs.drop (ew u n+v.size):=by
  unfold sub;rw [gz,<-jN,iS,iS]
 have C:=GS (w:=w) W (pre:=cs.take (ew u n)) (cs:=sub cs (ew u n) v.size) (post:=cs.drop (ew u n+v.size)) ac (mu v);rw [<-ad,List.length_take,Nat.min_eq_left (by omega)] at C;refine c1 (w':=w) ?_ (dU h l (aiZ J) ab I);unfold execOp;rw [q];simp only [j,Instr.field,Sem.run_bind,run_underlying K,Result.andThen_ok,O,asAgg,Sem.run_pure,U,C];cases hk;cases hk;cases hk
theorem uL {o:Oper} {c:Call} {b:Builtin} (e:o.op=.call c) (d:c.callee=.builtin b):
 (execOp a.eval o).run P w=(builtin b c.argTypes o.type (c.args.map λ| .const _=>true|_=>false) (c.args.map a.eval)).run P w:=by
 unfold execOp;rw [e];simp only [resolve,d,Sem.run_bind,Sem.run_pure,Result.andThen_ok,invoke];rfl
def aim (h:aC F G s a w) (b:df P E F) {o:Oper} {c:Call} (q:o.op=.call c) (j:c.callee=.builtin .len) (z:∀d,o.dst=some d->d<E.nt) {k:St->Option Z} {r:Z} (hk:a8 E o s k=some r):
 o.wp P a w (cf F k r) Q:=by
 unfold a8 at hk;rw [q] at hk;simp only [j] at hk;unfold builtinK at hk;split at hk;rename_i t ts v _ ab e;obtain ⟨x,y,ac⟩:∃x,c.args= #[x]/\s.ev x=v:=by
  match ah:c.args.toList,e with
  |[x],e=>
   grind
  |[],e=>simp at e
  |_::_::_,e=>simp at e
 have f:=cu h x;rw [ac] at f;have D:c.argTypes[0]?=some t:=by rw [<-rc,ab];rfl
 split at hk;rename_i T u;have C:=b.ty t _ u;obtain ⟨e0,I,_⟩:=C.slice;obtain ⟨n,ad,cap,J,g,_,_⟩:=Wq h f hk;refine c1 (v:=.int .i64 (n:Int)) (w':=w) ?_ (dU h b (gO _ _) z J);rw [uL q j];simp [builtin,Builtin.len_,D,y,g,run_underlying I,goInt];rename_i u;have C:=b.ty t _ u;split at hk;rename_i _v l;obtain ⟨f,_⟩:=VR.bR f;refine c1 (v:=.int .i64 ((List.length (α:=UInt8) l:Nat):Int)) (w':=w) ?_ (dU h b (gO _ _) z hk);rw [uL q j];have aa:(ByteArray.mk (List.toArray (α:=UInt8) l)).size=List.length (α:=UInt8) l:=rfl;have g:(Builtin.len_ c.argTypes o.type (c.args.map a.eval)).run P w=.ok (goInt (List.length (α:=UInt8) l)) w:=by
  rw [y];simp [Builtin.len_,D,f,run_underlying C.bR];rw [aa]
 simp only [builtin,Sem.run_bind,g,Result.andThen_ok,Sem.run_pure,goInt];cases hk
 ·split at hk;rotate_left;cases hk;rename_i K W;split at hk;rotate_left;cases hk;obtain ⟨xs,ae,af,X,g,O,U,ai,ag,I⟩:=aiO h (b.maps t K W) f hk;refine c1 (v:=.int .i64 (xs.length:Int)) (w':=w) ?_ (dU h b (gO _ _) z X);rw [uL q j];simp [builtin,Builtin.len_,D,y,g,run_underlying I,goInt,Go.MapKept.run_getObj_map O,U]
 cases hk;contradiction;contradiction;contradiction;cases hk
theorem Tp {c:Call} {d e:TV} (b:c.args.toList.map s.ev=[d,e]):∃x y,c.args= #[x,y]/\s.ev x=d/\s.ev y=e:=by
 match f:c.args.toList,b with
 |[x,y],b=>
  grind
 |[],b=>simp at b
 |[_],b=>simp at b
 |_::_::_::_,b=>simp at b
def aiX (h:aC F G s a w) (n:df P E F) {o:Oper} {c:Call} (f:o.op=.call c) (e:c.callee=.builtin .min) (u:∀d,o.dst=some d->d<E.nt) {k:St->Option Z} {r:Z} (hk:a8 E o s k=some r):
 o.wp P a w (cf F k r) Q:=by
 unfold a8 at hk;rw [f] at hk;simp only [e] at hk;unfold builtinK at hk;split at hk;contradiction;contradiction;rename_i O U _ z;obtain ⟨x,y,q,j,l⟩:=Tp z;obtain ⟨g,C,J,hk⟩:=k4 (j▸cu h x) hk;obtain ⟨I,D,K,hk⟩:=k4 (l▸cu h y) hk;split at hk;rename_i b;have b:g=I:=fb b;subst b;refine c1 (v:=.int g (min C D)) (w':=w) ?_ (dU h n (gO _ _) u hk);rw [uL f e];simp [builtin,q,J,K,Lib.run_min_ints];cases hk;contradiction;cases hk
def aiU (h:aC F G s a w) (u:df P E F) {o:Oper} {c:Call} (j:o.op=.call c) (g:c.callee=.builtin .max) (C:∀d,o.dst=some d->d<E.nt) {k:St->Option Z} {r:Z} (hk:a8 E o s k=some r):
 o.wp P a w (cf F k r) Q:=by
 unfold a8 at hk;rw [j] at hk;simp only [g] at hk;unfold builtinK at hk;split at hk;contradiction;contradiction;contradiction;rename_i O U _ D;obtain ⟨x,y,z,n,q⟩:=Tp D;obtain ⟨l,b,J,hk⟩:=k4 (n▸cu h x) hk;obtain ⟨I,e,K,hk⟩:=k4 (q▸cu h y) hk;split at hk;rename_i f;have f:l=I:=fb f;subst f;refine c1 (v:=.int l (max b e)) (w':=w) ?_ (dU h u (gO _ _) C hk);rw [uL j g];have em:(if e>b then e else b)=max b e:=by
  omega
 simp [builtin,z,J,K,Builtin.max_,Builtin.max2,em];cases hk;cases hk
end
section
variable {Z:Type} {P:Program} {E:an} {F:Fr} {G:Nat->Gh} {s:St} {a:Act} {w:World} {Q:Exit->Act->World->Prop}
theorem GQ {x:Value} {c:IntKind} {m y:Nat} (b:x=.int c m) (d:m<=y) (code:BoundsCode):(Instr.sliceBound x y code).run P w=.ok m w:=by
 subst b;have:(0:Int)<=(m:Int)/\(m:Int)<=(y:Int):=by omega
 simp only [Instr.sliceBound,asIntOf,Sem.run_bind,Sem.run_pure,Result.andThen_ok,aE this,fk]
theorem TA (h:aC F G s a w) {n cap:Nat} (o:n<=cap) {lo hi:Option Operand} {k:Nat->Nat->Option Z} {r:Z} (hk:lZ n (lo.map s.ev) (hi.map s.ev) k=some r) (b:Bool):
 ∃l u,k l u=some r/\l<=u/\u<=n/\(Instr.sliceBounds b n cap (lo.map a.eval) (hi.map a.eval) none).run P w=.ok (l,u,cap) w:=by
 unfold lZ at hk;cases hi with
 |none=>
  cases lo with
  |none=>exact ⟨0,n,hk,bG _,cS _,by simp [Instr.sliceBounds]⟩
  |some x=>
   simp only [vn,dy] at hk;obtain ⟨f,i,c,hk⟩:=k4 (cu h x) hk;obtain ⟨m,rfl,e,hk⟩:=uc hk;refine ⟨m,n,hk,by omega,cS _,?_⟩;simp only [Instr.sliceBounds,vn,dy,Sem.run_bind,Sem.run_pure,Result.andThen_ok];rw [GQ c (by omega)];rfl
 |some y=>
  simp only [dy] at hk;obtain ⟨f,i,c,hk⟩:=k4 (cu h y) hk;obtain ⟨m,rfl,e,hk⟩:=uc hk;cases lo with
  |none=>
   refine ⟨0,m,hk,by omega,by omega,?_⟩;simp only [Instr.sliceBounds,vn,dy,Sem.run_bind,Sem.run_pure,Result.andThen_ok];rw [GQ c (by omega)];rfl
  |some x=>
   simp only [dy] at hk;obtain ⟨v,q,d,hk⟩:=k4 (cu h x) hk;obtain ⟨g,rfl,j,hk⟩:=uc hk;refine ⟨g,m,hk,by omega,by omega,?_⟩;simp only [Instr.sliceBounds,dy,Sem.run_bind,Sem.run_pure,Result.andThen_ok];rw [GQ c (by omega)];simp only [Result.andThen_ok];rw [GQ d (by omega)];rfl
theorem ag6 (x:List UInt8) (l h:Nat):(ByteArray.mk x.toArray).extract l h=⟨((x.take h).drop l).toArray⟩:=by
 apply ByteArray.ext;rw [ByteArray.data_extract];simp [List.drop_take]
theorem alV {t:TypeId} (b:bC P .bR t) (x:List UInt8) {lo hi:Option Value} {l u:Nat} (c:(Instr.sliceBounds false x.length x.length lo hi none).run P w=.ok (l,u,x.length) w):
 (Instr.sliceAt t (.string ⟨x.toArray⟩) lo hi none).run P w=.ok (.string ⟨((x.take u).drop l).toArray⟩) w:=by
 rw [run_sliceAt_string w t _ _ _ _ b.bR];have d:(ByteArray.mk x.toArray).size=x.length:=by simp [ByteArray.size]
 simp [Instr.slice,run_underlying b.bR,d,c,ag6]
def alU {t:TypeId} {T:Ty} (f:bC P (.slice T) t) (b:Option Addr) (n cap:Nat) {lo hi:Option Value} {l u:Nat} (c:(Instr.sliceBounds true n cap lo hi none).run P w=.ok (l,u,cap) w):
 (Instr.sliceAt t (.slice b n cap) lo hi none).run P w=.ok (.slice (if cap=l then b else b.map (·.add (l*T.size))) (u-l) (cap-l)) w:=by
 obtain ⟨e,g,d⟩:=f.slice;simp [Instr.sliceAt,Instr.slice,run_underlying g,c,Yo d]
theorem mZ (b o n:Nat):(Addr.mk b o none).add n=⟨b,o+n,none⟩:=by unfold Addr.add;split<;>simp_all
theorem Rd.cut {R:Nat->Prop} {T:Ty} {y:List T.ai} {d:Option Addr} {n cap:Nat} (h:Rd w R (.slice T) y [.slice d n cap]) {l u:Nat} (D:l<=u) (I:u<=n):
 Rd w R (.slice T) ((y.take u).drop l) [.slice (if cap=l then d else d.map (·.add (l*T.size))) (u-l) (cap-l)]:=by
 obtain ⟨x,C,c,⟨f,g⟩,o⟩:=h;have c:=(hr c).1;simp only [Value.slice.injEq] at c;obtain ⟨rfl,j,rfl⟩:=c;have j:n=y.length:=j;have f:y.length<=cap:=f;have g:y.length<=eK:=g;have e:((y.take u).drop l).length=u-l:=by simp_all
 refine ⟨_,cap-l,(by rw [e]),⟨(by rw [e];omega),(by rw [e];omega)⟩,λK=>?_⟩;have O:0<u-l:=by
  grind
 have r:y≠[]:=by
  grind
 obtain ⟨b,v,rfl,q,J⟩:=o r;rw [av (by omega)];refine ⟨b,v+l*T.size,by simp only [dy,mZ],q,λi z U=>?_⟩
 grind
def aoZ (h:aC F G s a w) (X:df P E F) {o:Oper} {t:TypeId} {x:Operand} {lo hi a3:Option Operand} (an:o.op=.slice t x lo hi a3) (al:∀d,o.dst=some d->d<E.nt) {k:St->Option Z} {r:Z} (hk:a8 E o s k=some r):
 o.wp P a w (cf F k r) Q:=by
 unfold a8 at hk;rw [an] at hk;simp only [dW] at hk;have c:=cu h x;split at hk;rotate_left;cases hk;split at hk;rotate_left;cases hk;rename_i T ar;have ap:=X.ty t T ar;unfold j6 at hk;split at hk;split at hk;rename_i l e;rw [e] at c;obtain ⟨c,a5⟩:=VR.bR c;obtain ⟨j,I,hk,ah,ai,W⟩:=TA (P:=P) h (cS _) hk false;refine c1 (w':=w) ?_ (dU h X (Pj ?_) al hk);unfold execOp;rw [an];simp only [vn,Sem.run_bind];rw [c,alV ap _ W];rfl
 grind
 cases hk;rename_i T;have az:=hk;obtain ⟨n,O,cap,am,aa,a6,ax⟩:=Wq h c hk;clear hk;obtain ⟨j,I,hk,ah,ai,W⟩:=TA (P:=P) h ax am true;clear am;have a9:=alU ap O n cap W;have fin:∀tv,VR (ay s.box G) w F.R tv (.slice (if cap=j then O else O.map (·.add (j*T.size))) (I-j) (cap-j))->dj o s k tv=some r->o.wp P a w (cf F k r) Q:=by
  intro tv a1 hk;refine c1 (w':=w) ?_ (dU h X a1 al hk);unfold execOp;simp_all
 split at hk;rename_i u y e;rw [e] at c;split at hk;rename_i g;have g:u=T:=fb g;subst g;have ao:=c.b1 (by simp) (by simp) rfl;rw [aa] at ao;exact fin _ (dJ (v:=.ad (.slice u) _) (cs:=[_]) (Rd.cut ao ah ai) rfl) hk;cases hk;rename_i b p e;rw [e] at c;unfold b6 at hk;split at hk;rename_i bx K
 try dsimp only at hk
 split at hk;rename_i C;have C:cE bx.ty p=some (.slice T):=fb C;obtain ⟨a4,q,af,D,J,z,ab⟩:=c.b1 (by simp) (by simp) rfl;have g:=m0 K z;rw [C] at g;simp only [bi,Ty.slice.injEq] at g;subst g;have f:=(hr ab).1;rw [aa] at f;simp only [Value.slice.injEq] at f;obtain ⟨rfl,rfl,rfl⟩:=f;split at hk;rename_i ak;simp only [bE] at ak;obtain ⟨_,ac,ae⟩:=ak;have ac:j=0:=ga ac;have ae:I=D.length:=ga ae;subst ac;subst ae;refine fin _ (dJ (v:=.sl b p) (cs:=[_]) ⟨T,q,cap,D,J,z,?_⟩ rfl) hk;cases q<;>simp [mZ]
 refine fin _ (dJ (v:=.slw b p j (I-j)) (cs:=[_]) ⟨T,q,cap,D,J,z,⟨by omega,by omega⟩,_,_,rfl,⟨by omega,λag=>⟨by omega,by subst ag;cases q<;>simp [mZ]⟩⟩,λa0=>?_⟩ rfl) hk;cases q with
 |none=>
  have:=(Wp h K (by rw [<-e];exact az) z).2 rfl;omega
 |some U=>
  rw [av (by omega)];exact ⟨U,rfl,by simp [mZ]⟩
 cases hk;cases hk;rename_i b p a2 aA e;rw [e] at c;unfold b6 at hk;split at hk;rename_i bx K
 try dsimp only at hk
 split at hk;rename_i C;have C:cE bx.ty p=some (.slice T):=fb C;obtain ⟨a4,q,af,D,J,z,a7,a',c',ab,aj,au⟩:=c.b1 (by simp) (by simp) rfl;have g:=m0 K z;rw [C] at g;simp only [bi,Ty.slice.injEq] at g;subst g;have f:=(hr ab).1;rw [aa] at f;simp only [Value.slice.injEq] at f;obtain ⟨rfl,rfl,rfl⟩:=f;obtain ⟨aj,aw⟩:=aj;refine fin _ (dJ (v:=.slw b p (a2+j) (I-j)) (cs:=[_]) ⟨T,q,af,D,J,z,⟨by omega,by omega⟩,_,_,rfl,⟨by omega,λag=>?_⟩,λa0=>?_⟩ rfl) hk;obtain ⟨f,aq⟩:=aw (by omega);have:j=0:=by omega
 subst this;refine ⟨by omega,?_⟩;rw [aq];cases q<;>simp [mZ]
 obtain ⟨U,rfl,rfl⟩:=au (by omega);rw [av (by omega)];exact ⟨U,rfl,by simp [mZ,Nat.add_mul]⟩;cases hk;cases hk;rename_i e;rw [e] at c;have f:=c.b1 (by simp) (by simp) rfl;have f:=(hr (show [a.eval x]=[_] from f)).1
 grind
 cases hk;cases hk
end
section
variable {Z:Type} {P:Program} {E:an} {F:Fr} {G:Nat->Gh} {s:St} {a:Act} {w w2:World} {Q:Exit->Act->World->Prop}
theorem aC.shift (h:aC F G s a w) (J:fJ w w2) (j:∀b,F.R b->w2.heap[b]?=w.heap[b]?) (C:∀i x,s.box i=some x->∀b∈(G i).af,w2.heap[b]?=w.heap[b]?)
 (D:∀b,b<F.w0.heap.size->b∉F.M->w2.heap[b]?=w.heap[b]?):aC F G s a w2:=by
 have g:hV (ay s.box G) (ay s.box G):=λ_ _ _ ft _ e=>⟨ft,e,rfl⟩
 refine ⟨λi x l=>?_,h.cC,h.c7,h.b5,λi x l b I=>?_,h.R,λn=>VR.mono g j (h.tmps n),λb y c=>?_,h.fQ.trans J,h.defers,h.nt,h.cW,λi n=>VR.mono g j (h.sv i n),h.jI⟩;have r:∀b∈(G i).af,w2.heap[b]?=w.heap[b]?:=λb c=>C i x l b c
 have d:=h.box i x l;unfold dB at d|-;split;rename_i u;rw [aE u] at d;obtain ⟨f,o,cs,q⟩:=d;exact ⟨f,o,cs,aZ.mono g j _ _ _ _ (λb c=>r b (by simp [Gh.af,c])) q⟩;rename_i u;rw [av u] at d;obtain ⟨v,row,z,f,o,q,h4⟩:=d;exact ⟨v,row,z,f,by rw [r v (by simp [Gh.af,f])];exact o,q,aZ.mono g j _ _ _ _ (λb c=>r b (by simp [Gh.af,c])) h4⟩;obtain ⟨K,O,U⟩:=h.bQ i x l b I
 grind
 rw [D b y c];exact h.bT b y c
def fo (G:Nat->Gh) (id:Nat) (g:Gh):Nat->Gh:=λj=>if j=id then g else G j
theorem l0 (s:St) (id:Nat) (x:bm) (j:Nat):(St.box {s with cg:=(id,x)::s.cg} j)=if id=j then some x else s.box j:=gr id x s.cg j
def Wo {id:Nat} (d:s.box id=none) (x:bm) (g:Gh):hV (ay s.box G) (ay (St.box {s with cg:=(id,x)::s.cg}) (fo G id g)):=by
 intro b p t ft f c;refine ⟨ft,?_,rfl⟩;have:b≠id:=by
  rintro rfl;simp [ay,d] at c
 unfold ay at c|-;rw [l0,av (λe=>this e.symm)];simp only [fo,this,dA];exact c
structure hW (F:Fr) (G:Nat->Gh) (s:St) (w:World) (g:Gh):Prop where
 b5:g.af.Nodup
 out:∀b∈g.af,∀j y,s.box j=some y->b∉(G j).af
 bQ:∀b∈g.af,¬F.R b/\b<w.heap.size/\(b∈F.M\/F.w0.heap.size<=b)
theorem aC.qg (h:aC F G s a w) {id:Nat} (af:id%32≠0) (ac:s.box id=none) {x:bm} {g:Gh} (ae:x.dI=false) (ab:x.ty.cC)
 (ad:dB (ay s.box G) w F.R g x) (C:hW F G s w g):aC F (fo G id g) {s with cg:=(id,x)::s.cg} a w:=by
 have r:=Wo (G:=G) ac x g;have u:∀b,F.R b->w.heap[b]?=w.heap[b]?:=λ_ _=>rfl
 have old:∀{j y},(St.box {s with cg:=(id,x)::s.cg} j)=some y->(j=id/\y=x)\/(j≠id/\s.box j=some y):=by
  intro j y c;rw [l0] at c
  grind
 have up:∀(g:Gh) (x:bm),dB (ay s.box G) w F.R g x->dB (ay (St.box {s with cg:=(id,x)::s.cg}) (fo G id g)) w F.R g x->True:=λ_ _ _ _=>trivial
 have mono:∀(g':Gh) (y:bm),dB (ay s.box G) w F.R g' y->dB (ay (St.box {s with cg:=(id,x)::s.cg}) (fo G id g)) w F.R g' y:=by
  intro g' y q;unfold dB at q|-;split;rename_i K;rw [aE K] at q;obtain ⟨D,I,cs,J⟩:=q;exact ⟨D,I,cs,aZ.mono r u _ _ _ _ (λ_ _=>rfl) J⟩;rename_i K;rw [av K] at q;obtain ⟨X,row,aa,D,I,J,h4⟩:=q;exact ⟨X,row,aa,D,I,J,aZ.mono r u _ _ _ _ (λ_ _=>rfl) h4⟩
 refine ⟨λi y c=>?_,λi y c=>?_,λi j y z c W U b f l=>?_,λi y c=>?_,λi y c b v=>?_,h.R,λn=>VR.mono r u (h.tmps n),h.bT,h.fQ,h.defers,h.nt,λi y c=>?_,λi n=>VR.mono r u (h.sv i n),h.jI⟩;rcases old c with ⟨rfl,rfl⟩|⟨e,d⟩
 have:fo G i g i=g:=by simp [fo]
 simp_all;have:fo G id g i=G i:=by simp [fo,e]
 rw [this];exact mono _ _ (h.box i y d);rcases old c with ⟨rfl,rfl⟩|⟨e,d⟩
 exact ab;exact h.cC i y d;rcases old c with ⟨rfl,rfl⟩|⟨e,d⟩
 rcases old W with ⟨o,_⟩|⟨o,O⟩
 exact U o.symm;simp only [fo,cN,o,dA] at f l;exact C.out b f j z O l;rcases old W with ⟨rfl,rfl⟩|⟨o,O⟩
 simp only [fo,cN,e,dA] at f l;exact C.out b l i y d f;simp only [fo,e,o,dA] at f l;exact h.c7 i j y z d O U b f l;rcases old c with ⟨rfl,rfl⟩|⟨e,d⟩
 simpa [fo] using C.b5;simpa [fo,e] using h.b5 i y d;rcases old c with ⟨rfl,rfl⟩|⟨e,d⟩
 simp only [fo,cN] at v;exact C.bQ b v;simp only [fo,e,dA] at v;exact h.bQ i y d b v;rcases old c with ⟨rfl,rfl⟩|⟨e,d⟩
 simp_all;simpa [fo,e] using h.cW i y d
theorem qL {id:Nat} {x:bm} {k:St->Option Z} {r:Z} (hk:j1 s id x k=some r):id%32≠0/\s.box id=none/\k {s with cg:=(id,x)::s.cg}=some r:=by
 unfold j1 at hk;split at hk;cases hk;rename_i e;split at hk;cases hk;rename_i b;refine ⟨λh=>?_,b,hk⟩;simp_all
def yR (h:aC F G s a w) (n:df P E F) {d:Nat} {t:Ty} {xs:List t.ai} {k:St->Option Z} {r:Z} {o:Nat} (hk:lh s o d t xs k=some r) (q:d<E.nt) (y:t.cC)
 {f:FT} {v:Value} (c:bd w (.slice t) xs f [v]) (u:hW F G s w ⟨none,f⟩):cf F k r (a.put (some d) v) w:=by
 obtain ⟨e,j,l⟩:=qL hk;have C:=h.qg (x:=⟨.slice t,true,false,.ab (.slice t) xs⟩) (g:=⟨none,f⟩) e j rfl y ⟨rfl,⟨t,rfl⟩,[v],⟨rfl,c⟩⟩ u;refine ⟨_,_,C.put (by rw [<-n.nt];exact q) ?_,l⟩;refine dJ (v:=.sl (er o d) []) (cs:=[v]) ?_ rfl;obtain ⟨b,cap,I,rfl,D,_,_,z,_⟩:=c;refine ⟨t,b,cap,I,none,?_,by rw [D,z]⟩;simp [ay,l0,fo,ak]
def Nm (h:aC F G s a w) (u:df P E F) {d:Nat} {t:Ty} {c:TV} {k:St->Option Z} {r:Z} {o:Nat} (hk:newVar s o d t c k=some r) (y:d<E.nt) (C:t.cC)
 {f:FT} {row:Array Value} {e:TypeId} {b:Nat} (I:w.heap[b]?=some (.cells row e (0,0))) (j:aZ (ay s.box G) w F.R c t f row.toList) (z:hW F G s w ⟨some b,f⟩):
 cf F k r (a.put (some d) (.pointer (some ⟨b,0,none⟩))) w:=by
 obtain ⟨l,n,q⟩:=qL hk;have D:=h.qg (x:=⟨t,false,false,c⟩) (g:=⟨some b,f⟩) l n rfl C ⟨b,row,e,rfl,I,by have:=aZ.len _ _ _ _ j;simpa using this,j⟩ z;refine ⟨_,_,D.put (by rw [<-u.nt];exact y) ?_,q⟩;refine dJ (v:=.ref (er o d) []) (cs:=[_]) ?_ rfl;refine ⟨t,f,b,0,?_,rfl⟩;simp only [ay,l0,cN,fo];cases t<;>simp [ak]
end
section
variable {Z:Type} {P:Program} {E:an} {F:Fr} {G:Nat->Gh} {s:St} {a:Act} {w w2:World} {Q:Exit->Act->World->Prop}
def HA:∀(t:Ty),t.fE=true->t.hF=true->∃ft:FT,ft.af=[]/\∀w,bd w t (hS t) ft (eV t)
 | .int _,_,_=>⟨.leaf,rfl,λ_=>⟨rfl,trivial,rfl,rfl⟩⟩
 | .bool,_,_=>⟨.leaf,rfl,λ_=>⟨rfl,trivial,rfl,rfl⟩⟩
 | .bR,_,_=>⟨.leaf,rfl,λ_=>⟨rfl,bG _,rfl,rfl⟩⟩
 | .bz,h,_=>by simp [Ty.fE] at h
 | .slice t,_,_=>⟨.node none 0 [],rfl,λ_=>⟨none,0,[],rfl,rfl,cS _,bG _,rfl,rfl⟩⟩
 | .unit,_,_=>⟨.leaf,rfl,λ_=>⟨rfl,trivial,rfl,rfl⟩⟩
 | .cons t r,h,b=>by
  simp only [Ty.fE,bE] at h;simp only [Ty.hF,bE] at b;obtain ⟨f,d,o⟩:=HA t h.1 b.1;obtain ⟨g,e,q⟩:=HA r h.2 b.2;exact ⟨.eI f g,by simp [FT.af,d,e],λw=>⟨rfl,_,_,rfl,o w,q w⟩⟩
 | .arr n t,_,h=>by
  have c:(Ty.arr n t).aY=true:=h;obtain ⟨j,l⟩:=vb (.arr n t) c;exact ⟨.leaf,rfl,λw=>⟨c,j,rfl,l.symm⟩⟩
theorem bC.hF {T:Ty} {t:TypeId} (h:bC P T t):T.hF=true:=(abg T).1 t h
theorem qj (w:World) (o:Obj) (b:Nat) (h:b<w.heap.size):(w.alloc o).heap[b]?=w.heap[b]?:=by
 unfold World.alloc
 grind
theorem lX (w:World) (o:Obj):(w.alloc o).heap[w.heap.size]?=some o:=by
 unfold World.alloc;simp_all
theorem Lk (w:World) (o:Obj):(w.alloc o).heap.size=w.heap.size+1:=World.size_alloc w o
theorem aC.alloc (h:aC F G s a w) (o:Obj):aC F G s a (w.alloc o):=
 h.grow ⟨by rw [Lk];omega,by unfold World.alloc;rfl,by unfold World.alloc;rfl⟩ (λb c=>qj w o b c)
def Gb (h:aC F G s a w) (o:Obj) {f:FT} (d:hz F G s w f):hW F G s (w.alloc o) ⟨some w.heap.size,f⟩:=by
 refine ⟨?_,λb c j y g e=>?_,λb c=>?_⟩;simp only [Gh.af,hU,ht,jP];refine ⟨λe=>?_,d.b5⟩;have:=(d.bQ _ e).2.1;omega;simp only [Gh.af,hU,ht,eN] at c;rcases c with rfl|c
 have:=(h.bQ j y g _ e).2.1;omega;exact d.out b c j y g e;simp only [Gh.af,hU,ht,eN] at c;rw [Lk];rcases c with rfl|c
 refine ⟨λl=>?_,by omega,.inr h.size⟩;have:=h.ph l;omega;obtain ⟨n,q,r⟩:=d.bQ b c
 grind
def aji (h:aC F G s a w) (o:Obj) {b:List FT} {cap:Nat} (c:hW F G s (w.alloc o) ⟨some w.heap.size,.eI .leaf (.node none 0 b)⟩):hW F G s (w.alloc o) ⟨none,.node (some w.heap.size) cap b⟩:=by
 have e:(Gh.mk none (.node (some w.heap.size) cap b)).af=(Gh.mk (some w.heap.size) (.eI .leaf (.node none 0 b))).af:=by simp [Gh.af,FT.af]
 exact ⟨by rw [e];exact c.b5,by rw [e];exact c.out,by rw [e];exact c.bQ⟩
def afC (h:aC F G s a w) (g:df P E F) {o:Oper} {t:TypeId} (n:o.op=.alloc t) (C:∀d,o.dst=some d->d<E.nt) {k:St->Option Z} {r:Z} (hk:a8 E o s k=some r):
 o.wp P a w (cf F k r) Q:=by
 unfold a8 at hk;rw [n] at hk;simp only [dW] at hk;split at hk;rotate_left;cases hk;rename_i d j;split at hk;rotate_left;cases hk;rename_i T x;have e:=g.ty t T x;have key:∀(z:Value) (c:TV) (f:FT),(zeroValue t).run P w=.ok z w->f.af=[]->aZ (ay s.box G) (w.alloc (.cells z.cells t)) F.R c T f z.cells.toList->newVar s E.fA d T c k=some r->o.wp P a w (cf F k r) Q:=by
  intro z c f b D y hk;have:=Nm (h.alloc (.cells z.cells t)) g hk (C d j) (bC.cC T t e) (lX w _) y (Gb h _ (hz.nil D));refine c1 (v:=.pointer (some ⟨w.heap.size,0,none⟩)) (w':=w.alloc (.cells z.cells t)) ?_ (by rw [j];exact this);unfold execOp;rw [n];simp [Instr.alloc,b,Go.newVar,newRow]
 split at hk;rename_i l;obtain ⟨i,hi,_,_,b⟩:=e.gX;obtain ⟨z,J,K,z3⟩:=b l;obtain ⟨f,q,u⟩:=HA T l e.hF;refine key z _ f ?_ q (show aZ _ _ _ (.ab T (hS T)) T f _ from ⟨rfl,by rw [K];exact u _⟩) hk;simp [zeroValue,typeInfo,hi,J];split at hk;obtain ⟨i,z,hi,b,I⟩:=e.bz;refine key z _ .leaf ?_ rfl (show aZ _ _ _ .un .bz .leaf _ from ⟨rfl,rfl,rfl,I⟩) hk;simp [zeroValue,typeInfo,hi,b];cases hk
def aiJ (h:aC F G s a w) (b:df P E F) {o:Oper} {t:TypeId} {n:Option Operand} (j:o.op=.makeMap t n) (z:∀d,o.dst=some d->d<E.nt) {k:St->Option Z} {r:Z} (hk:a8 E o s k=some r):
 o.wp P a w (cf F k r) Q:=by
 unfold a8 at hk;rw [j] at hk;simp only at hk;split at hk;rotate_left;cases hk;rename_i d c;split at hk;rotate_left;cases hk;rename_i K y;obtain ⟨U,I,O,J,_,e⟩:=qJ (b.maps t K y);obtain ⟨l,q,u⟩:=qL hk;have C:=(h.alloc (.map #[] 0)).qg (x:=⟨.slice (eT K),true,false,.tup (.ab (.slice (eT K)) (show List (K.ai×Int×Unit) from []))⟩) (g:=⟨none,.node (some w.heap.size) 0 []⟩) l q rfl
  (by rcases e with rfl|rfl<;>simp [eT,Ty.cC]) ⟨rfl,⟨_,rfl⟩,[.map (some w.heap.size)],rfl,e,w.heap.size,#[],rfl,rfl,lX w _,rfl,λi x D=>by cases D⟩
  (aji h _ (Gb h _ (hz.nil (f:=.eI .leaf (.node none 0 [])) rfl)))
 refine c1 (v:=.map (some w.heap.size)) (w':=w.alloc (.map #[] 0)) ?_ (by rw [c];exact ⟨_,_,C.put (by rw [<-b.nt];exact z d c) (dJ (v:=.mp (er E.fA d)) (cs:=[_]) ⟨eT K,w.heap.size,0,[],none,by simp [ay,l0,fo,ak],rfl⟩ rfl),u⟩);unfold execOp;rw [j];rfl
def af2 (h:aC F G s a w) (u:df P E F) {o:Oper} {t:TypeId} {x:Operand} (C:o.op=.box t x) (I:∀d,o.dst=some d->d<E.nt) {k:St->Option Z} {r:Z} (hk:a8 E o s k=some r):
 o.wp P a w (cf F k r) Q:=by
 unfold a8 at hk;rw [C] at hk;simp only [dW] at hk;split at hk;rotate_left;cases hk;rename_i d q;split at hk;rotate_left;cases hk;rename_i T W;have K:=u.ty t T W;have O:=cu h x;split at hk
 ·split at hk;rotate_left;cases hk;rename_i c j;obtain ⟨cs,D,n⟩:=O.cells (by intro e;rw [e] at j;cases T<;>simp [gF] at j) (by intro b e;rw [e] at j;cases T<;>simp [gF] at j);obtain ⟨f,J,aa,ac⟩:=Tl T _ c cs D j;have z:(a.eval x).cells.toList=cs:=yg n (λy=>by
   rw [y] at n;exact ac _ (by simp_all))
  have X:aZ (ay s.box G) (w.alloc (.cells (a.eval x).cells t)) F.R c T f (a.eval x).cells.toList:=by
   rw [z];exact aZ.mono (λ_ _ _ ft _ e=>⟨ft,e,rfl⟩) (λb g=>qj w _ b (h.ph g)) _ _ _ _ (λb g=>by rw [J] at g;cases g) aa
  have:=Nm (h.alloc (.cells (a.eval x).cells t)) u hk (I d q) (bC.cC T t K) (lX w _) X (Gb h _ (hz.nil J));refine c1 (v:=.pointer (some ⟨w.heap.size,0,none⟩)) (w':=w.alloc (.cells (a.eval x).cells t)) ?_ (by rw [q];exact this);unfold execOp;rw [C];simp [Instr.box,Go.newVar,newRow]
 obtain ⟨cs,D,n⟩:=O.cells (by intro e;rw [e] at hk;cases T<;>simp [cj] at hk) (by intro b e;rw [e] at hk;cases T<;>simp [cj] at hk);obtain ⟨G1,s1,c,f,κ,ab,l⟩:=oH T _ G s cs _ r h D hk;have z:(a.eval x).cells.toList=cs:=yg n (λy=>by
  rw [y] at n;exact l.ei _ (by simp_all))
 have U:=l.rel.alloc (.cells (a.eval x).cells t);have j:aZ (ay s1.box G1) (w.alloc (.cells (a.eval x).cells t)) F.R c T f (a.eval x).cells.toList:=by
  rw [z];exact aZ.mono (λ_ _ _ ft _ e=>⟨ft,e,rfl⟩) (λb g=>qj w _ b (h.ph g)) _ _ _ _ (λb g=>qj w _ b (l.et.bQ b g).2.1) l.ff
 have:=Nm U u ab (I d q) (bC.cC T t K) (lX w _) j (Gb l.rel _ l.et);refine c1 (v:=.pointer (some ⟨w.heap.size,0,none⟩)) (w':=w.alloc (.cells (a.eval x).cells t)) ?_ (by rw [q];exact this);unfold execOp;rw [C];simp [Instr.box,Go.newVar,newRow]
end
section
variable {Z:Type} {P:Program} {E:an} {F:Fr} {G:Nat->Gh} {s:St} {a:Act} {w w2:World} {Q:Exit->Act->World->Prop}
def cO (w:World) (t:Ty):List t.ai->List FT->List Value->Prop
 |[],[],cs=>cs=[]
 |x::xs,k::d,cs=>∃b c,cs=b++c/\bd w t x k b/\cO w t xs d c
 |_,_,_=>False
variable {t:Ty}
theorem cO.len:∀{xs:List t.ai} {b:List FT} {cs:List Value},cO w t xs b cs->cs.length=xs.length*t.size/\b.length=xs.length
 |[],[],cs,h=>by rw [show cs=[] from h];simp
 |x::xs,k::b,cs,h=>by
  obtain ⟨g,j,rfl,e,f⟩:=h;obtain ⟨c,d⟩:=cO.len f;refine ⟨?_,by simp [d]⟩;rw [ea,bd.len _ _ _ _ e,c,jh,nR];omega
 |[],_::_,_,h=>h.elim
 |_::_,[],_,h=>h.elim
theorem cO.bT:∀{xs:List t.ai} {c:List FT} {cs:List Value},(∀b∈FT.bo c,w2.heap[b]?=w.heap[b]?)->cO w t xs c cs->cO w2 t xs c cs
 |[],[],_,_,h=>h
 |x::xs,k::c,cs,d,h=>by
  obtain ⟨e,f,rfl,g,j⟩:=h;exact ⟨e,f,rfl,bd.bT _ _ _ _ (λb m=>d b (by simp [FT.bo,m])) g,cO.bT (λb m=>d b (by simp [FT.bo,m])) j⟩
 |[],_::_,_,_,h=>h.elim
 |_::_,[],_,_,h=>h.elim
theorem cO.ei:∀{xs:List t.ai} {b:List FT} {cs:List Value},cO w t xs b cs->TM.ei cs
 |[],[],cs,h=>by rw [show cs=[] from h];intro v e;cases e
 |x::xs,k::b,cs,h=>by
  obtain ⟨f,g,rfl,c,d⟩:=h;exact uz (bd.ei _ _ _ _ c) (cO.ei d)
 |[],_::_,_,h=>h.elim
 |_::_,[],_,h=>h.elim
theorem cO.append:∀{xs d:List t.ai} {c ls:List FT} {cs ds:List Value},cO w t xs c cs->cO w t d ls ds->cO w t (xs++d) (c++ls) (cs++ds)
 |[],_,[],_,cs,_,h,b=>by rw [show cs=[] from h];exact b
 |x::xs,_,k::c,_,cs,_,h,b=>by
  obtain ⟨e,j,rfl,f,g⟩:=h;exact ⟨e,_,by rw [gz],f,cO.append g b⟩
 |[],_,_::_,_,_,_,h,_=>h.elim
 |_::_,_,[],_,_,_,h,_=>h.elim
theorem Lt:∀(b ls:List FT),FT.bo (b++ls)=FT.bo b++FT.bo ls
 |[],_=>rfl
 |k::b,ls=>by simp [FT.bo,Lt b ls]
def cO.Xa:∀{xs:List t.ai} {c:List FT} {cs:List Value},cO w t xs c cs->∀(i:Nat) (x:t.ai) (k:FT),xs[i]?=some x->c[i]?=some k->bd w t x k (sub cs (i*t.size) t.size)
 |[],[],_,_,i,x,k,b,_=>by simp at b
 |x::xs,k::c,cs,h,i,y,l,b,hk=>by
  obtain ⟨j,n,rfl,f,g⟩:=h;have d:=bd.len _ _ _ _ f;cases i with
  |zero=>
   simp only [List.getElem?_cons_zero,bi] at b hk;subst b hk;unfold sub;simp_all
  |succ i=>
   have:=cO.Xa g i y l (by simpa using b) (by simpa using hk);unfold sub at this|-;have e:(i+1)*t.size=t.size+i*t.size:=by grind
   rw [e,<-d,<-jN,List.drop_left,d];exact this
 |[],_::_,_,h,_,_,_,_,_=>h.elim
 |_::_,[],_,h,_,_,_,_,_=>h.elim
theorem cO.ab {xs:List t.ai} {d:List FT} {cs bn:List Value} (h:cO w t xs d cs) {b cap:Nat} {row:Array Value} {e:TypeId} (f:w.heap[b]?=some (.cells row e (0,0))) (r:row.toList=cs++bn)
 (g:cap*t.size=row.size) (j:xs.length<=cap) (o:xs.length<=eK):bd w (.slice t) xs (.node (some b) cap d) [.slice (some ⟨b,0,none⟩) xs.length cap]:=by
 obtain ⟨q,l⟩:=h.len;refine ⟨some b,cap,d,rfl,rfl,j,o,l,⟨row,e,f,g⟩,λi x k c hk=>?_⟩;have c:xs[i]?=some x:=c;have hi:i<xs.length:=(b4.1 c).1;have n:i*t.size+t.size<=xs.length*t.size:=by
  have:(i+1)*t.size<=xs.length*t.size:=jQ _ hi
  grind
 refine ⟨_,⟨row,e,(0,0),f,?_,rfl⟩,?_⟩;rw [<-g];exact Nat.le_trans n (jQ _ j);have:=h.Xa i x k c hk;unfold sub at this
 grind
def bd.toL {xs:List t.ai} {b cap:Nat} {d:List FT} {cs:List Value} (h:bd w (.slice t) xs (.node (some b) cap d) cs):
 ∃row e c bn,w.heap[b]?=some (.cells row e (0,0))/\cap*t.size=row.size/\row.toList=c++bn/\cO w t xs d c/\xs.length<=cap/\xs.length<=eK/\cs=[.slice (some ⟨b,0,none⟩) xs.length cap]:=by
 obtain ⟨K,O,ac,q,rfl,f,v,o,h4⟩:=h;simp only [FT.node.injEq] at q;obtain ⟨rfl,rfl,rfl⟩:=q;obtain ⟨⟨row,e,h5,h6⟩,aa⟩:=h4;have f:xs.length<=cap:=f;have o:d.length=xs.length:=o;refine ⟨row,e,row.toList.take (xs.length*t.size),row.toList.drop (xs.length*t.size),h5,h6,by simp_all,?_,f,v,rfl⟩;have C:xs.length*t.size<=row.size:=by rw [<-h6];exact jQ _ f
 have key:∀(xs:List t.ai) (d:List FT) (n:Nat),d.length=xs.length->(n+xs.length)*t.size<=row.size->
  (∀(i:Nat) (x:t.ai) (k:FT),xs[i]?=some x->d[i]?=some k->∃c,At w b ((n+i)*t.size) t.size c/\bd w t x k c)->cO w t xs d ((row.toList.drop (n*t.size)).take (xs.length*t.size)):=by
  intro xs
  induction xs with
  |nil=>
   intro d n g _ _;cases d with
   |nil=>simp [cO]
   |cons _ _=>simp at g
  |cons x xs J=>
   intro d n g C u;cases d with
   |nil=>simp at g
   |cons k d=>
    obtain ⟨c,z,D⟩:=u 0 x k rfl rfl;obtain ⟨nA,U,W,j,X,r⟩:=z;rw [h5] at j;simp only [bi,Obj.cells.injEq] at j;obtain ⟨rfl,_,_⟩:=j;simp only [rl] at r;refine ⟨c,(row.toList.drop ((n+1)*t.size)).take (xs.length*t.size),?_,D,J d (n+1) (by simpa using g) (by grind) (λi y l I hk=>by
     have:=u (i+1) y l (by simpa using I) (by simpa using hk)
     grind)⟩
    rw [<-r,jh,nR,Nat.add_comm (xs.length*t.size),List.take_add,nR,jN]
 have:=key xs d 0 o (by simp_all) (λi x k ab hk=>by simp_all);simp_all
theorem cO.zero (g:t.fE=true) (e:t.hF=true):∀n,∃b:List FT,FT.bo b=[]/\∀w,cO w t (List.replicate n (hS t)) b (List.replicate n (eV t)).flatten:=by
 intro n;obtain ⟨f,c,d⟩:=HA t g e
 induction n with
 |zero=>exact ⟨[],rfl,λ_=>rfl⟩
 |succ n h=>
  obtain ⟨b,j,l⟩:=h;exact ⟨f::b,by simp [FT.bo,c,j],λw=>⟨_,_,by grind,d w,l w⟩⟩
theorem cO.aY (c:t.aY=true):∀(xs:List t.ai),(∀x∈xs,dg t x)->∃b:List FT,FT.bo b=[]/\∀w,cO w t xs b (xs.map (bH t)).flatten
 |[],_=>⟨[],rfl,λ_=>rfl⟩
 |x::xs,h=>by
  obtain ⟨b,j,l⟩:=cO.aY c xs (λy g=>h y (by simp [g]));have:∃f:FT,f.af=[]/\∀w,bd w t x f (bH t x):=⟨.leaf,rfl,λw=>bd.fS c (h x (by simp)) rfl⟩
  obtain ⟨f,d,e⟩:=this;exact ⟨f::b,by simp [FT.bo,d,j],λw=>⟨_,_,by simp,e w,l w⟩⟩
theorem aiH (z:Array Value) (n:Nat):(madeCells z (n*z.size)).toList=(List.replicate n z.toList).flatten:=by
 unfold madeCells;rw [zz,Array.toList_range]
 induction n with
 |zero=>simp
 |succ n c=>
  rw [List.replicate_succ',List.flatten_append,List.flatten_singleton,<-c,nR,List.range_add,fH];congr 1;rw [List.map_map];apply List.ext_getElem;simp;intro i b d;simp only [eb,zD] at b;simp only [List.getElem_map,List.getElem_range,Function.comp_apply];have:(n*z.size+i)%z.size=i:=by rw [Nat.mul_comm,Nat.mul_add_mod];exact Nat.mod_eq_of_lt b
  simp_all
end
section
variable {Z:Type} {P:Program} {E:an} {F:Fr} {G:Nat->Gh} {s:St} {a:Act} {w w2:World} {Q:Exit->Act->World->Prop}
theorem hW.row {o:Obj} {d:List FT} (cap:Nat) (h:aC F G s a w) (n:(FT.bo d).Nodup) (q:∀b∈FT.bo d,∀j y,s.box j=some y->b∉(G j).af)
 (l:∀b∈FT.bo d,¬F.R b/\b<w.heap.size/\(b∈F.M\/F.w0.heap.size<=b)):hW F G s (w.alloc o) ⟨none,.node (some w.heap.size) cap d⟩:=by
 refine ⟨?_,λb c j y g f=>?_,λb c=>?_⟩;simp only [Gh.af,FT.af,zH,el,hU,ht,jP]
 grind
 simp only [Gh.af,FT.af,zH,el,hU,ht,eN] at c;rcases c with rfl|c
 have:=(h.bQ j y g _ f).2.1;omega;simp_all;simp only [Gh.af,FT.af,zH,el,hU,ht,eN] at c;rw [Lk];rcases c with rfl|c
 refine ⟨λe=>?_,by omega,.inr h.size⟩;have:=h.ph e;omega
 grind
theorem E1 {n:Nat} (h:n<=bg):n<=eK:=Nat.le_trans h (by simp [bg,eK])
def aiK (h:aC F G s a w) (q:df P E F) {o:Oper} {t:TypeId} {n c:Operand} (U:o.op=.makeSlice t n c) (K:∀d,o.dst=some d->d<E.nt) {k:St->Option Z} {r:Z} (hk:a8 E o s k=some r):
 o.wp P a w (cf F k r) Q:=by
 unfold a8 at hk;rw [U] at hk;simp only [dW] at hk;split at hk;rotate_left;cases hk;rename_i d y;split at hk;rotate_left;cases hk;rename_i T I;split at hk;rotate_left;cases hk;rename_i u;have aa:=q.ty t _ I;obtain ⟨ag,aq,am,hk⟩:=k4 (cu h n) hk;obtain ⟨ah,ar,an,hk⟩:=k4 (cu h c) hk;split at hk;rotate_left;cases hk;rename_i m aj _hk0;split at hk;rotate_left;cases hk;rename_i x;simp only [bE] at x;obtain ⟨⟨g,f⟩,l⟩:=x;have g:m=aj:=ga g;have f:m<=bg:=rm f;subst g;obtain ⟨e0,ac,j⟩:=aa.slice;obtain ⟨i,hi,C,J,ad⟩:=j.gX;obtain ⟨z,ak,al,z3⟩:=ad l;have e:(i.bytes:Int)*(m:Int)<=281474976710656:=by
  have ao:i.bytes*m<=4096*4294967296:=Nat.mul_le_mul J f;omega
 have O:(m:Int)<=9223372036854775807:=by
  have:m<=4294967296:=f;omega
 have X:=run_make (P:=P) w t e0 i z ac hi ak ag ah m m (by omega) (by omega) e O;simp only [fk] at X;have ae:z.cells.size=u.size:=by
  have:=mC u
  grind
 have ap:(madeCells z.cells (m*i.size)).toList=(List.replicate m (eV u)).flatten:=by
  rw [C,<-ae,aiH,al]
 obtain ⟨ai,D,af⟩:=cO.zero l j.hF m;have W:bd (w.alloc (.cells (madeCells z.cells (m*i.size)) e0)) (.slice u) (List.replicate m (hS u)) (.node (some w.heap.size) m ai) [.slice (some ⟨w.heap.size,0,none⟩) m m]:=by
  have:=cO.ab (bn:=[]) (cap:=m) (b:=w.heap.size) (af (w.alloc (.cells (madeCells z.cells (m*i.size)) e0))) (lX w _) (by simp_all) (by rw [size_madeCells,C]) (by simp) (by simp;exact E1 f);simpa using this
 have:=yR (h.alloc (.cells (madeCells z.cells (m*i.size)) e0)) q hk (K d y) (bC.cC u e0 j) W (hW.row m h (by simp_all) (λb e=>by rw [D] at e;cases e) (λb e=>by rw [D] at e;cases e));refine c1 (v:=.slice (some ⟨w.heap.size,0,none⟩) m m) (w':=w.alloc (.cells (madeCells z.cells (m*i.size)) e0)) ?_ (by rw [y];exact this);unfold execOp;simp_all
def agO (t:Ty):∀(vs:List TV) (xs:List Value) (G:Nat->Gh) (s:St) (kl:TV->TV) (k:St->List t.ai->Option Z) (r:Z),aC F G s a w->vs.length=xs.length->
 (∀(i:Nat) (v:TV) (x:Value),vs[i]?=some v->xs[i]?=some x->VR (ay s.box G) w F.R (kl v) x)->m9 s t kl vs k=some r->
 ∃C u n l cs,k u n=some r/\aC F C u a w/\cO w t n l cs/\n.length=vs.length/\cs=(xs.map λx=>x.cells.toList).flatten/\(∀x∈xs,x.cells.size=t.size)/\(FT.bo l).Nodup/\
  (∀b∈FT.bo l,∀j y,u.box j=some y->b∉(C j).af)/\(∀b∈FT.bo l,¬F.R b/\b<w.heap.size/\(b∈F.M\/F.w0.heap.size<=b))/\
  (∀b∈FT.bo l,∃i x,s.box i=some x/\b∈(G i).af)/\iv G s C u:=by
 intro vs
 induction vs with
 |nil=>
  intro xs G s kl k r h q J hk;cases xs with
  |nil=>exact ⟨G,s,[],[],[],hk,h,rfl,rfl,rfl,(λx K=>by cases K),lD,(λb d=>by cases d),(λb d=>by cases d),(λb d=>by cases d),iv.refl⟩
  |cons _ _=>simp at q
 |cons v vs av=>
  intro xs G s kl k r h q J hk;cases xs with
  |nil=>simp at q
  |cons x xs=>
   simp only [m9] at hk;have K:=J 0 v x rfl rfl;obtain ⟨cs,ax,X⟩:=K.cells (by intro e;rw [e] at hk;cases t<;>simp [cj] at hk) (by intro b e;rw [e] at hk;cases t<;>simp [cj] at hk);obtain ⟨G1,s1,c,f,κ,D,g⟩:=oH t _ G s cs _ r h ax hk;split at D;rotate_left;cases D;rename_i y au;obtain ⟨ak,o,al⟩:=lY t c f cs y g.ff au;have aq:x.cells.toList=cs:=yg X (λao=>by
    rw [ao] at X;exact g.ei _ (by simp_all))
   obtain ⟨ac,s2,n,l,ds,ar,aj,ah,ad,ab,az,ag,aa,ae,U,W⟩:=av xs G1 s1 _ _ r g.rel (by simpa using q) (λi aw x' am an=>g.vr _ _ (J (i+1) aw x' (by simpa using am) (by simpa using an))) D;have fr:=g.et.eZ W;have a0:x.cells.size=t.size:=by
    have:=aZ.len _ _ _ _ g.ff
    grind
   refine ⟨ac,s2,y::n,ak::l,cs++ds,ar,aj,⟨cs,ds,rfl,al,ah⟩,by simp [ad],by simp [ab,aq],?_,?_,?_,?_,?_,g.eZ.trans W⟩
   grind
   simp only [FT.bo,cF,o];refine ⟨fr.b5,ag,λb d c ap e=>?_⟩;subst e;obtain ⟨i,z,O,I⟩:=U b ap;exact g.et.out b d i z O I;intro b d;simp only [FT.bo,bI,o] at d;rcases d with d|d
   exact fr.out b d;exact aa b d;intro b d;simp only [FT.bo,bI,o] at d;rcases d with d|d
   exact fr.bQ b d;exact ae b d;intro b d;simp only [FT.bo,bI,o] at d;rcases d with d|d
   exact g.jt b d;obtain ⟨i,z,O,I⟩:=U b d;exact g.eZ.sub i z O b I
end
section
variable {Z:Type} {P:Program} {E:an} {F:Fr} {G:Nat->Gh} {s:St} {a:Act} {w w2:World} {Q:Exit->Act->World->Prop}
theorem N8 {f:Operand->Value}:∀(n:Nat) (l:List (Nat×Operand)),uQ n l=true->(l.map λx=>(x.1,f x.2))=((l.map λx=>f x.2).zipIdx n).map λx=>(x.2,x.1)
 |_,[],_=>rfl
 |n,x::l,h=>by
  simp only [uQ,bE] at h;have e:=ga h.1;simp only [gP,List.zipIdx_cons];rw [<-N8 (n+1) l h.2,e]
def aiz {A:b0} {t:Ty}:∀(vs:List TV) (xs:List Value) (b:List (Ty.slice t).ai),(∀(i:Nat) v x,vs[i]?=some v->xs[i]?=some x->VR A w F.R v x)->vs.length=xs.length->yE (.slice t) vs=some b->
 b.length=xs.length/\∀(i:Nat) (y:(Ty.slice t).ai),b[i]?=some y->∃x,xs[i]?=some x/\Rd w F.R (.slice t) y [x]:=by
 intro vs
 induction vs with
 |nil=>
  intro xs b _ c h;obtain rfl:=hT.1 c.symm;obtain rfl:=b3 h;simp_all
 |cons v vs n=>
  intro xs b j c h;cases xs with
  |nil=>cases c
  |cons x xs=>
   unfold yE at h;split at h;rename_i e;cases e
   ·rename_i u z q e;obtain ⟨rfl,rfl⟩:=hr e;split at h;rotate_left;cases h;rename_i y d;split at h;rotate_left;cases h;rename_i o l;obtain rfl:=b3 h;obtain ⟨rfl,rfl⟩:=eP d;obtain ⟨f,g⟩:=n xs o (λi v x f g=>j (i+1) v x (by simpa using f) (by simpa using g)) (by simpa using c) l;refine ⟨by simpa using f,λi y d=>?_⟩;cases i with
    |zero=>
     obtain rfl:=b3 d;exact ⟨x,rfl,(j 0 _ x rfl rfl).b1 (by simp) (by simp) rfl⟩
    |succ i=>exact g i y d
   cases h
def aiB (h:aC F G s a w) (am:df P E F) {o:Oper} {t:TypeId} {len:Nat} {parts:Array (Nat×Operand)} (au:o.op=.buildSlice t len parts) {d:Nat} (ap:o.dst=some d) (ao:d<E.nt) {u:Ty} {e0:TypeId} (az:P.underlying t=some (.slice e0)) (ax:bC P u e0)
 {i:TypeInfo} (hi:P.info? e0=some i) (X:i.size=u.size) {z:Value} (a1:i.zero=some z) (a5:z.cells.size=u.size) (y:parts.toList.length=len) (af:uQ 0 parts.toList=true) (ag:len*u.size<=16777216)
 {xs:List u.ai} (j:MX u (parts.toList.map λx=>s.ev x.2)=some xs) {k:St->Option Z} {r:Z} (hk:qM s E.fA d u xs k=some r):o.wp P a w (cf F k r) Q:=by
 obtain ⟨t0,rfl⟩:∃t0,u=.slice t0:=by
  cases u with
  |slice t0=>exact ⟨t0,rfl⟩
  |_=>cases j
 obtain ⟨v0,ae,aa⟩:∃v0 ae,(parts.toList.map λx=>s.ev x.2)=v0::ae:=by
  cases c:(parts.toList.map λx=>s.ev x.2) with
  |nil=>rw [c] at j;cases j
  |cons v vs=>exact ⟨v,vs,rfl⟩
 have j:yE (.slice t0) (parts.toList.map λx=>s.ev x.2)=some xs:=by rw [aa] at j|-;exact j
 have a3:parts.toList≠[]:=λe=>by simp_all
 obtain ⟨a0,D⟩:=aiz (A:=ay s.box G) (w:=w) (F:=F) (parts.toList.map λx=>s.ev x.2) (parts.toList.map λx=>a.eval x.2) xs (λi v x c f=>by
  rw [vg] at c f;cases U:parts.toList[i]? with
  |none=>rw [U] at c;cases c
  |some q=>
   rw [U] at c f;obtain rfl:=b3 c;obtain rfl:=b3 f;exact cu h q.2) (by simp) j
 have K:xs.length=len:=by simp_all
 have O:∀x∈parts.toList.map λx=>a.eval x.2,x.cells= #[x]:=by
  intro x f;obtain ⟨i,hi,rfl⟩:=kN.1 f;obtain ⟨x',I,J⟩:=D i xs[i] (a6 (by omega));rw [a6 hi] at I;obtain rfl:=b3 I;obtain ⟨a2,cap,ac,_⟩:=J;simp only [gB,gb] at ac;rw [ac];rfl
 have a4:0<len:=by grind
 have W:(parts.map λ(i,x)=>(i,a.eval x)).toList=((parts.toList.map λx=>a.eval x.2).zipIdx 0).map λx=>(x.2,x.1):=by
  rw [zz];exact N8 0 _ af
 have aq:(parts.toList.map λx=>a.eval x.2)=((parts.toList.map λx=>a.eval x.2).flatMap λv=>v.cells.toList):=by
  clear W a0 D j aa;generalize (parts.toList.map λx=>a.eval x.2)=l at O|-
  induction l with
  |nil=>rfl
  |cons x l ab=>grind
 have aw:(Instr.buildSlice t len (parts.map λ(i,x)=>(i,a.eval x))).run P w=.ok (.slice (some ⟨w.heap.size,0,none⟩) len len) (w.alloc (.cells (parts.toList.map λx=>a.eval x.2).toArray e0)):=by
  refine run_buildSlice (P:=P) w t e0 len _ _ i z az hi a1 (by grind) (by rw [X];simp only [Ty.size];omega) ?_;rw [W,X]
  conv=>rhs;rw [aq]
  exact Great.fill_whole (by simp [Ty.size]) _ _ (λv c=>by rw [O v c];rfl) (by simp [y])
 obtain ⟨ah,aj,al⟩:=qL hk;have an:FT.bo (List.replicate len FT.leaf)=[]:=by
  generalize len=n
  induction n with
  |zero=>rfl
  |succ n ab=>rw [List.replicate_succ];exact ab
 have ar:hW F G s (w.alloc (.cells (parts.toList.map λx=>a.eval x.2).toArray e0)) ⟨none,.node (some w.heap.size) len (List.replicate len .leaf)⟩:=
  hW.row len h (by grind) (λb C=>by grind) (λb C=>by grind)
 have av:=(h.alloc (.cells (parts.toList.map λx=>a.eval x.2).toArray e0)).qg (x:=⟨.slice (.slice t0),true,false,.tup (.ad (.slice (.slice t0)) xs)⟩) (g:=⟨none,.node (some w.heap.size) len (List.replicate len .leaf)⟩) ah aj rfl
  (bC.cC (.slice t0) e0 ax) ⟨rfl,⟨_,rfl⟩,[.slice (some ⟨w.heap.size,0,none⟩) len len],rfl,w.heap.size,len,_,rfl,an,by rw [K],by omega,by simp only [Ty.size] at ag;have:=E1 (n:=len) (by simp [bg];omega);omega,by simp [K],
   ⟨_,_,lX w _,by simp [Ty.size,y]⟩,λi x f=>by
    obtain ⟨v,I,J⟩:=D i x f;refine ⟨[v],⟨_,_,_,lX w _,?_,?_⟩,Rd.bT (λ_ h=>h) (λb C=>qj w _ b (h.ph C)) _ _ _ J⟩;have:=(b4.1 f).1;simp [Ty.size];simp at y;omega;simp only [Ty.size,Nat.mul_one];rw [List.take_one,List.head?_drop]
    grind⟩ ar
 refine c1 (v:=.slice (some ⟨w.heap.size,0,none⟩) len len) (w':=w.alloc (.cells (parts.toList.map λx=>a.eval x.2).toArray e0)) ?_ (by
  rw [ap];refine ⟨_,_,av.put (by rw [<-am.nt];exact ao) (dJ (v:=.sl (er E.fA d) []) (cs:=[_]) ⟨.slice t0,some w.heap.size,len,List.replicate len .leaf,none,by simp [ay,l0,fo,ak],by simp⟩ rfl),al⟩)
 unfold execOp;rw [au];simp only [Sem.run_bind]
 erw [aw]
 rfl
def af5 (h:aC F G s a w) (l:df P E F) {o:Oper} {t:TypeId} {len:Nat} {parts:Array (Nat×Operand)} (ac:o.op=.buildSlice t len parts) (X:∀d,o.dst=some d->d<E.nt) {k:St->Option Z} {r:Z} (hk:a8 E o s k=some r):
 o.wp P a w (cf F k r) Q:=by
 unfold a8 at hk;rw [ac] at hk;simp only [dW] at hk;split at hk;rotate_left;cases hk;rename_i d f;split at hk;rotate_left;cases hk;rename_i T al;split at hk;rotate_left;cases hk;rename_i u;have ax:=l.ty t _ al;split at hk;rotate_left;cases hk;rename_i W;simp only [bE] at W;obtain ⟨⟨⟨⟨e,O⟩,ak⟩,j⟩,c5⟩:=W;have e:=ga e;have j:=rm j;have c5:0<u.size:=by simp_all
 obtain ⟨e0,y,n⟩:=ax.slice;obtain ⟨i,hi,g,a3,az⟩:=n.gX;obtain ⟨z,af,a6,z3⟩:=az ak;split at hk;rename_i xs ay;exact aiB h l ac f (X d f) y n hi g af (by
  have:=mC u
  grind) e O j ay hk
 obtain ⟨G1,s1,D,a0,cs,aq,K,J,a2,ah,aj,ai,ag,I,a1,_⟩:=agO u (parts.toList.map λx=>s.ev x.2) (parts.toList.map λx=>a.eval x.2) G s id _ r h (by simp)
  (λi v x c C=>by
   rw [vg] at c C;cases ad:parts.toList[i]? with
   |none=>rw [ad] at c;cases c
   |some q=>
    rw [ad] at c C;obtain rfl:=b3 c;obtain rfl:=b3 C;exact cu h q.2) hk
 have aa:D.length=len:=by simp_all
 have ar:D.length<=eK:=by
  rw [aa];have:len*1<=len*u.size:=Nat.mul_le_mul_left _ c5;exact Nat.le_trans (by omega:len<=16777216) (by simp [eK])
 have a5:z.cells.size=u.size:=by
  have:=mC u
  grind
 have ap:cs=((parts.toList.map λx=>a.eval x.2).flatMap λv=>v.cells.toList):=by grind
 have aw:(parts.map λ(i,x)=>(i,a.eval x)).toList=((parts.toList.map λx=>a.eval x.2).zipIdx 0).map λx=>(x.2,x.1):=by
  rw [zz];exact N8 0 _ O
 have a4:(Instr.buildSlice t len (parts.map λ(i,x)=>(i,a.eval x))).run P w=.ok (.slice (some ⟨w.heap.size,0,none⟩) len len) (w.alloc (.cells cs.toArray e0)):=by
  by_cases U:len=0;subst U;have ae:parts.toList=[]:=hT.1 e;have ao:cs=[]:=by rw [ah,ae];rfl
  rw [ao];have av:parts= #[]:=by simpa using ae
  subst av;simp [Instr.buildSlice,run_underlying y,sizeOf,typeInfo,hi,Instr.fill,newRow,Array.range_zero'];refine run_buildSlice (P:=P) w t e0 len _ cs.toArray i z y hi af (by rw [g];omega) (by rw [g];exact Nat.mul_ne_zero U (by omega)) ?_;rw [aw,g,ap];exact Great.fill_whole c5 _ _ (λv c=>aj v c) (by simp [e])
 have au:bd (w.alloc (.cells cs.toArray e0)) (.slice u) D (.node (some w.heap.size) len a0) [.slice (some ⟨w.heap.size,0,none⟩) len len]:=by
  have an:=J.len;have:=cO.ab (bn:=[]) (cap:=len) (b:=w.heap.size) (cO.bT (λb am=>qj w (.cells cs.toArray e0) b (I b am).2.1) J) (lX w _) (by simp) (by simp [an.1,aa]) (by omega) ar;simp_all
 have:=yR (K.alloc (.cells cs.toArray e0)) l aq (X d f) (bC.cC u e0 n) au (hW.row len K ai ag I);refine c1 (v:=.slice (some ⟨w.heap.size,0,none⟩) len len) (w':=w.alloc (.cells cs.toArray e0)) ?_ (by rw [f];exact this);unfold execOp;simp_all
end
section
variable {Z:Type} {P:Program} {E:an} {F:Fr} {G:Nat->Gh} {s:St} {a:Act} {w w2:World} {Q:Exit->Act->World->Prop}
def afH {b o n:Nat} {cs:List Value} (h:At w b o n cs) {j:Nat} {u:Value} (c:cs[j]?=some u):w.cell? ⟨b,o+j,none⟩=some u:=by
 obtain ⟨row,e,fz,d,g,rfl⟩:=h;have f:j<n:=by
  grind
 rw [List.getElem?_take_of_lt f,List.getElem?_drop] at c;simp only [World.cell?,d];simpa using c
def Yk {b:Nat} {row:Array Value} {e:TypeId} {fz:Nat×Nat} (h:w.heap[b]?=some (.cells row e fz)) {j:Nat} {u:Value} (c:row.toList[j]?=some u):w.cell? ⟨b,j,none⟩=some u:=by
 simp only [World.cell?,h];simpa using c
theorem VM {α:Type} {n:Nat} (f:α->List Value):∀(xs:List α),(∀x∈xs,(f x).length=n)->∀(j:Nat) (u:Value),((xs.map f).flatten)[j]?=some u->∃i k x,j=i*n+k/\k<n/\xs[i]?=some x/\(f x)[k]?=some u
 |[],_,j,u,h=>by simp at h
 |x::xs,c,j,u,h=>by
  have l:=c x (by simp);simp only [gP,mE] at h;by_cases d:j<n;rw [List.getElem?_append_left (by omega)] at h;exact ⟨0,j,x,by omega,d,rfl,h⟩;rw [List.getElem?_append_right (by omega),l] at h;obtain ⟨i,k,y,e,hk,b,g⟩:=VM f xs (λy b=>c y (by simp [b])) (j-n) u h;exact ⟨i+1,k,y,by grind,hk,by simpa using b,g⟩
def apa {R:Nat->Prop} {t O:TypeId} {T:Ty} (q:T.aY=true) {tx:TypeId} (hk:P.underlying tx=some (.slice O)) {d:List T.ai} {Y:Value} (h:Rd w R (.slice T) d [Y]):
 Src P T.size tx Y d.length (d.map (bH T)).flatten w/\∀y∈d,dg T y:=by
 obtain ⟨g,cap,v,⟨aa,ab⟩,h4⟩:=h;have v:Y=.slice g d.length cap:=(hr v).1;subst v;by_cases J:d=[];subst J;refine ⟨?_,λy D=>by cases D⟩;cases g with
 |none=>exact Src.ofNil w hk cap
 |some g=>exact Src.ofSlice w hk g 0 cap [] (by simp) (λj u e=>by simp at e) (λu e=>by cases e)
 obtain ⟨b,o,rfl,_,I⟩:=h4 J;have z:∀y∈d,dg T y:=by
  intro y D;obtain ⟨i,hi,rfl⟩:=kN.1 D;obtain ⟨c,_,C⟩:=I i d[i] (a6 hi);exact (Rd.aY q C).1
 refine ⟨Src.ofSlice w hk ⟨b,o,none⟩ d.length cap _ ?_ (λj u e=>?_) (λu e=>?_),z⟩;have key:∀l:List T.ai,(∀x∈l,dg T x)->((l.map (bH T)).flatten).length=l.length*T.size:=by
  intro l
  induction l with
  |nil=>intro _;simp
  |cons a l X=>
   intro r;simp only [gP,mE,ea,jh];rw [hf T a q (r a (by simp)),X (λx f=>r x (by simp [f])),nR];omega
 exact key d z;obtain ⟨i,k,x,rfl,ac,f,K⟩:=VM (n:=T.size) (bH T) d (λx f=>hf T x q (z x f)) j u e;obtain ⟨c,U,C⟩:=I i x f;obtain ⟨_,W⟩:=Rd.aY q C;rw [<-W] at K;have:=afH U K;rw [mZ,<-Nat.add_assoc];exact this;obtain ⟨l,r,e⟩:=List.mem_flatten.1 e;obtain ⟨x,_,rfl⟩:=dm.1 r;exact jD T x u e
theorem apb {tx:TypeId} (hk:P.underlying tx=some .string) (l:List UInt8):Src P 1 tx (.string ⟨l.toArray⟩) l.length (l.map λc=>Value.int .u8 (c.toNat:Int)) w:=by
 have:=Src.ofString (P:=P) w hk ⟨l.toArray⟩;have b:(ByteArray.mk l.toArray).size=l.length:=by simp [ByteArray.size]
 rw [b] at this;simpa [byteCells] using this
theorem Xh:∀(l:List UInt8),∃ls:List FT,FT.bo ls=[]/\∀w,cO w (.int .u8) (List.map (λc:UInt8=>(c.toNat:Int)) l) ls (l.map λc=>Value.int .u8 (c.toNat:Int))
 |[]=>⟨[],rfl,λ_=>rfl⟩
 |c::l=>by
  obtain ⟨ls,b,d⟩:=Xh l;exact ⟨.leaf::ls,by simp [FT.bo,FT.af,b],λw=>⟨[_],_,rfl,⟨rfl,trivial,rfl,rfl⟩,d w⟩⟩
theorem apu (l:List UInt8):List.length (α:=(Ty.int .u8).ai) (List.map (λc:UInt8=>(c.toNat:Int)) l)=l.length:=eb _
def EW {t:Ty} {v:TV} {k:St->TV->(TV->TV)->Option Z} {r:Z} (h:cj s (.slice t) v k=some r):v.agg=false/\v≠ .un/\∀b,v≠ .tup b:=by
 cases v with
 |ad u x=>
  simp only [cj] at h;split at h;rename_i e;have e:=fb e;subst e;exact ⟨rfl,by simp,by simp⟩;cases h
 |nil=>exact ⟨rfl,by simp,by simp⟩
 |sl b p=>exact ⟨rfl,by simp,by simp⟩
 |slw b p lo n=>exact ⟨rfl,by simp,by simp⟩
 |_=>simp [cj] at h
def VR.GY {A:b0} {R:Nat->Prop} {v:TV} {x:Value} (h:VR A w R v x) (c:v.agg=false/\v≠ .un/\∀b,v≠ .tup b):bF A w R v [x]:=h.b1 c.2.1 c.2.2 c.1
structure abW (F:Fr) (P:Program) (G:Nat->Gh) (s:St) (a:Act) (w:World) (tx:TypeId) (Y:Value) (κ:TV->TV) (t:Ty) (f:List t.ai) (ls:List FT) (ds:List Value) (c:Nat->Gh) (e:St):Prop where
 rel:aC F c e a w
 ab:cO w t f ls ds
 ao9:Src P t.size tx Y f.length ds w
 b5:(FT.bo ls).Nodup
 out:∀b∈FT.bo ls,∀j y,e.box j=some y->b∉(c j).af
 bQ:∀b∈FT.bo ls,¬F.R b/\b<w.heap.size/\(b∈F.M\/F.w0.heap.size<=b)
 vr:∀d y,VR (ay s.box G) w F.R d y->VR (ay e.box c) w F.R (κ d) y
def ai2 (h:aC F G s a w) {t O:Ty} {tx:TypeId} (ac:bC P O tx) {v:TV} {Y:Value} (I:VR (ay s.box G) w F.R v Y) {k:St->List t.ai->(TV->TV)->Option Z} {r:Z} (hk:nr s t O v k=some r):
 ∃ag ae g ls ds κ,k ae g κ=some r/\abW F P G s a w tx Y κ t g ls ds ag ae:=by
 unfold nr at hk;split at hk;split at hk;rename_i x;split at hk;rename_i xs ao;obtain ⟨e,rfl⟩:=eP ao;simp only [Ty.slice.injEq] at e;subst e;obtain ⟨n,a6⟩:=VR.bR I;subst n;obtain ⟨ls,o,J⟩:=Xh x;have au:=apb (P:=P) (w:=w) ac.bR x;refine ⟨G,s,_,ls,_,id,hk,h,J w,?_,by simp_all,λb d=>(by rw [o] at d;cases d),λb d=>(by rw [o] at d;cases d),λ_ _ C=>C⟩;have:=apu x
 erw [this]
 exact au;cases hk;cases hk;rename_i u;obtain ⟨az,D,_⟩:=ac.slice;split at hk;rename_i ab;obtain ⟨g,hk,ar⟩:=Ou h I hk;obtain ⟨K,ad⟩:=apa (P:=P) (t:=tx) ab D ar;obtain ⟨ls,o,J⟩:=cO.aY ab g ad;exact ⟨G,s,g,ls,_,id,hk,h,J w,K,by simp_all,λb d=>(by rw [o] at d;cases d),λb d=>(by rw [o] at d;cases d),λ_ _ C=>C⟩
 ·have ax:=I.GY (EW hk);obtain ⟨G1,s1,c,f,κ,q,l⟩:=oH (.slice t) _ G s [Y] _ r h ax hk;split at q;rotate_left;cases q;rename_i g av;obtain ⟨a0,X,aa⟩:=lY (.slice t) c f [Y] g l.ff av;have aj:=aa;obtain ⟨U,cap,y,rfl,n,am,a5,an,h4⟩:=aa;have n:Y=.slice (U.map (⟨·,0,none⟩)) (List.length (α:=t.ai) g) cap:=(hr n).1;subst n;have sub:∀b∈FT.bo y,b∈f.af:=λb d=>by rw [<-X];simp [FT.af,d]
  have aq:(FT.bo y).Nodup:=by
   have:=l.et.b5;rw [<-X] at this;simp only [FT.af,cF] at this;exact this.2.1
  cases U with
  |none=>
   subst h4;have al:List.length (α:=t.ai) g=0:=Nat.le_zero.1 am;have aw:g=([]:List t.ai):=hT.1 al;subst aw;have ap:y=[]:=hT.1 an;subst ap;exact ⟨G1,s1,_,[],[],κ,q,l.rel,rfl,Src.ofNil w D 0,lD,λb d=>(by cases d),λb d=>(by cases d),l.vr⟩
  |some ah=>
   obtain ⟨row,e,W,bn,ak,a1,a2,z,a3,a4,_⟩:=bd.toL aj;obtain ⟨K,ad⟩:=z.len;refine ⟨G1,s1,g,y,W,κ,q,l.rel,z,?_,aq,λb d=>l.et.out b (sub b d),λb d=>l.et.bQ b (sub b d),l.vr⟩;exact Src.ofSlice w D ⟨ah,0,none⟩ _ cap W K (λj u a7=>by
    rw [mZ,kR];refine Yk ak ?_
    grind) z.ei
 cases hk
end
section
variable {Z:Type} {P:Program} {E:an} {F:Fr} {G:Nat->Gh} {s:St} {a:Act} {w w2:World} {Q:Exit->Act->World->Prop}
def ahy {b o n:Nat} {row:Array Value} {e:TypeId} (h:w.heap[b]?=some (.cells row e (0,0))) (d:o+n<=row.size):
 (∀j,j<n->(w.cell? ⟨b,o+j,none⟩).isSome=true)/\(∀j,j<n->w.frozen? ⟨b,o+j,none⟩=false):=by
 refine ⟨λj c=>?_,λj c=>?_⟩;simp only [World.cell?,h];simp;omega;simp [World.frozen?,h]
theorem abI (z:Array Value) (n:Nat):(Builtin.zeroCells z n).size=n*z.size:=by simp [Builtin.zeroCells]
def ahM (h:aC F G s a w) (f:df P E F) {d:Nat} {t:Ty} {e0:TypeId} (q:t.cC) {xs:List t.ai} {c:List FT} {cs zs:List Value} {gc:Nat} {k:St->Option Z} {r:Z} {o:Nat} (hk:lh s o d t xs k=some r) (n:d<E.nt)
 (g:cO w t xs c cs) (x:(FT.bo c).Nodup) (z:∀b∈FT.bo c,∀j y,s.box j=some y->b∉(G j).af)
 (e:∀b∈FT.bo c,¬F.R b/\b<w.heap.size/\(b∈F.M\/F.w0.heap.size<=b)) {row:Array Value} (C:row.toList=cs++zs) (D:gc*t.size=row.size) (u:xs.length<=gc) (v:xs.length<=eK):
 cf F k r (a.put (some d) (.slice (some ⟨w.heap.size,0,none⟩) xs.length gc)) (w.alloc (.cells row e0)):=
 yR (h.alloc _) f hk n q (cO.ab (cO.bT (λb l=>qj w _ b (e b l).2.1) g) (lX w _) C D u v) (hW.row gc h x z e)
def afF (h:aC F G s a w) (aa:df P E F) {o:Oper} {c:Call} (aL:o.op=.call c) (g:c.callee=.builtin .append) (bi:∀d,o.dst=some d->d<E.nt) {k:St->Option Z} {r:Z} (hk:a8 E o s k=some r):
 o.wp P a w (cf F k r) Q:=by
 unfold a8 at hk;rw [aL] at hk;simp only [g] at hk;unfold builtinK at hk;split at hk;contradiction;rotate_left;contradiction;contradiction;cases hk;rename_i t tx bL bM _ cb J;split at hk;rotate_left;cases hk;rename_i T bP d aY aZ aG;have bz:=aa.ty t _ aY;have b0:=aa.ty tx _ aZ;have aw:=bi d aG;obtain ⟨x,y,bb,b6,b9⟩:∃x y,c.args= #[x,y]/\s.ev x=bL/\s.ev y=bM:=by
  match ca:c.args.toList,J with
  |[x,y],J=>
   grind
  |[],J=>simp at J
  |[_],J=>simp at J
  |_::_::_::_,J=>simp at J
 have b1:c.argTypes= #[t,tx]:=by grind
 have an:=cu h x;have O:=cu h y;rw [b6] at an;rw [b9] at O;unfold qk at hk;split at hk;cases hk;rename_i a2;have a2:T.fE=true:=by simpa using a2
 obtain ⟨G1,s1,l,ls,ds,κ,aJ,C⟩:=ai2 (P:=P) h b0 O hk;have b3:=C.vr _ _ an;have bN:=b3.GY (EW aJ);obtain ⟨ag,s2,aE,f,ci,I,q⟩:=oH (.slice T) _ G1 s1 [a.eval x] _ r C.rel bN aJ;split at I;rotate_left;cases I;rename_i aO ao
 suffices key:∀(xs:List T.ai),aE.dv (.slice T)=some xs->Nat.ble (xs.length+l.length) bg=true->lh s2 E.fA d T (xs++l) k=some r->o.wp P a w (cf F k r) Q by
  split at I;rename_i ac;exact key aO ao ac I;cases I
 clear I ao aO;intro xs b4 ac I;have ac:xs.length+l.length<=bg:=rm ac;obtain ⟨bS,aq,aF⟩:=lY (.slice T) aE f [a.eval x] xs q.ff b4;obtain ⟨e0,am,aM⟩:=bz.slice;obtain ⟨i,hi,ad,bf,bA⟩:=aM.gX;obtain ⟨z,bO,ch,z3⟩:=bA a2;have bB:z.cells.size=T.size:=by
  have:=mC T
  grind
 have ax:=bC.cC T e0 aM;have U:=C.ao9;rw [<-ad] at U;have bF:∀b∈FT.bo ls,∀j y,s2.box j=some y->b∉(ag j).af:=by
  intro b g j y O bs;obtain ⟨a7,x',a6,a1⟩:=q.eZ.sub j y O b bs;exact C.out b g a7 x' a6 a1
 have bE:∀b∈f.af,b∉FT.bo ls:=by
  intro b g bc;obtain ⟨a7,x',a6,a1⟩:=q.jt b g;exact C.out b bc a7 x' a6 a1
 have bu:∀(X:Value),a.eval x=X->∀v w',(Builtin.append_ #[t,tx] o.type #[X,a.eval y]).run P w=.ok v w'->cf F k r (a.put (some d) v) w'->o.wp P a w (cf F k r) Q:=by
  intro X K v w' al a4;refine c1 (v:=v) (w':=w') ?_ (by rw [aG];exact a4);rw [uL aL g,b1,bb];simp only [List.map_toArray,gP,rj,K,builtin,Sem.run_bind,al,Result.andThen_ok,Sem.run_pure]
 obtain ⟨aD,cap,D,rfl,K,aU,bX,aV,h4⟩:=id aF;have K:a.eval x=.slice (aD.map (⟨·,0,none⟩)) (xs.length) cap:=(hr K).1;have a9:∀b∈FT.bo D,b∈f.af:=λb g=>by rw [<-aq];simp [FT.af,g]
 have ay:=q.et.b5;rw [<-aq] at ay;simp only [FT.af,cF] at ay;obtain ⟨_,bD,cc⟩:=ay;have ba:(FT.bo (D++ls)).Nodup/\(∀b∈FT.bo (D++ls),∀j y,s2.box j=some y->b∉(ag j).af)/\(∀b∈FT.bo (D++ls),¬F.R b/\b<w.heap.size/\(b∈F.M\/F.w0.heap.size<=b)):=by
  rw [Lt];refine ⟨?_,λb g=>?_,λb g=>?_⟩;rw [cF];exact ⟨bD,C.b5,λb g c av e=>bE b (a9 b g) (e▸av)⟩;rcases bI.1 g with g|g
  exact q.et.out b (a9 b g);exact bF b g;rcases bI.1 g with g|g
  exact q.et.bQ b (a9 b g);exact C.bQ b g
 obtain ⟨aP,aB,a3⟩:=ba;have aj:(xs++l:List T.ai).length=xs.length+l.length:=ea;have aK:(xs++l:List T.ai).length<=eK:=by rw [aj];exact E1 ac
 have grow:∀(W:List Value) (bj:Option Addr),a.eval x=.slice bj (xs.length) cap->(Builtin.firstCells i.size (xs.length) (.slice bj (xs.length) cap)).run P w.drew=.ok W.toArray w.drew->
  cO w T xs D W->cap<xs.length+l.length->o.wp P a w (cf F k r) Q:=by
  intro W bj bY bt aW aH;have bl:Builtin.nextslicecap (xs.length+l.length) cap*i.bytes<=281474976710656:=by
   have ae:=nextslicecap_le aH;have aA:Builtin.nextslicecap (xs.length+l.length) cap<=8589934592:=Nat.le_trans ae (by have:bg=4294967296:=rfl;omega);have cg:Builtin.nextslicecap (xs.length+l.length) cap*i.bytes<=8589934592*4096:=Nat.mul_le_mul aA bf;omega
  have MA:((xs.length+l.length:Nat):Int)<=9223372036854775807:=by
   have:bg=4294967296:=rfl;omega
  have al:=run_append_grow_src (P:=P) w t tx o.type e0 i z am hi bO bj (xs.length) cap W bt (a.eval y) l.length ds U aH MA bl;have bm:=grownCap_ge w (xs.length+l.length) cap e0;have ap:aC F ag s2 a w.drew:=q.rel.shift ⟨cS _,rfl,rfl⟩ (λ_ _=>rfl) (λ_ _ _ _ _=>rfl) (λ_ _ _=>rfl);have ah:cO w.drew T (xs++l) (D++ls) (W++ds):=cO.bT (w:=w) (λ_ _=>rfl) (cO.append aW C.ab);have aX:=ah.len.1;have a4:=ahM (e0:=e0) (zs:=(Builtin.zeroCells z.cells (grownCap w (xs.length+l.length) cap e0-(xs.length+l.length))).toList)
   (row:=(W++ds).toArray++Builtin.zeroCells z.cells (grownCap w (xs.length+l.length) cap e0-(xs.length+l.length))) (gc:=grownCap w (xs.length+l.length) cap e0)
   ap aa ax I aw ah aP aB a3 (by simp) (by
    rw [Array.size_append,abI,zF,aX,aj,bB,<-Nat.add_mul];congr 1;omega) (by rw [aj];exact bm) aK
  simp_all
 cases aD with
 |none=>
  subst h4;have aT:xs.length=0:=Nat.le_zero.1 aU;have ao:xs=([]:List T.ai):=hT.1 aT;subst ao;have bq:D=[]:=hT.1 aV;subst bq;by_cases b7:l.length=0;have b8:l=[]:=hT.1 b7;subst b8;have br:ls=[]:=hT.1 C.ab.len.2;subst br;refine bu (.slice none 0 0) K (.slice none 0 0) w ?_ ?_;have ae:=U.len;have aA:=U.cells;rcases U.kind with ⟨bR,aI⟩|aI<;>(simp [Builtin.append_,run_underlying am,run_underlying aI,sizeOf,typeInfo,hi,ae];simp_all)
  exact yR (xs:=([]:List T.ai)) q.rel aa I aw ax (f:=.node none 0 []) ⟨none,0,[],rfl,rfl,cS _,bG _,rfl,rfl⟩ ⟨lD,λb g=>(by cases g),λb g=>(by cases g)⟩;exact grow [] none K (run_firstCells_none w.drew i.size 0 0 0) rfl (by omega)
 |some n=>
  obtain ⟨row,e,cs,bn,ar,aS,bU,au,bV,bW,_⟩:=bd.toL aF;obtain ⟨ae,aA⟩:=au.len;by_cases a5:xs.length+l.length<=cap;have az:n∈f.af:=by rw [<-aq];simp [FT.af]
  obtain ⟨bH,cd,ce⟩:=q.et.bQ n az;have bk:=C.ab.len.1;have bx:0+xs.length*T.size+ds.length<=row.size:=by
   rw [<-aS,bk,kR,<-Nat.add_mul];exact jQ _ a5
  obtain ⟨aQ,aR⟩:=ahy ar bx;have al:=run_append_room_src (P:=P) w t tx o.type e0 i am hi n 0 xs.length cap (a.eval y) l.length ds U a5 (λj a0=>by rw [ad];exact aQ j a0) (λj a0=>by rw [ad];exact aR j a0);rw [ad,kR] at al;have ak:∀c,c≠n->(w.setCells n (xs.length*T.size) ds).heap[c]?=w.heap[c]?:=λc av=>Od n ds _ w c av
  obtain ⟨aN,bJ,bK⟩:=Of n ds (xs.length*T.size) w row e (0,0) ar (by omega);have bp:∀b∈FT.bo (D++ls),b≠n:=by
   intro b g e;subst e;rw [Lt] at g
   grind
  have b2:=Og n ds (xs.length*T.size) w;have ap:aC F ag s2 a (w.setCells n (xs.length*T.size) ds):=q.rel.shift ⟨Nat.le_of_eq b2.symm,Oc _ _ _ _,Oe _ _ _ _⟩ (λb g=>ak b (λe=>bH (e▸g)))
   (λi x an b g=>ak b (λe=>q.et.out n az i x an (e▸g))) (λb g bZ=>ak b (λe=>by
    grind))
  have ah:cO (w.setCells n (xs.length*T.size) ds) T (xs++l) (D++ls) (cs++ds):=cO.bT (w:=w) (λb g=>ak b (bp b g)) (cO.append au C.ab);have bw:aN.toList=(cs++ds)++row.toList.drop (xs.length*T.size+ds.length):=by
   simp_all
  have bh:cap*T.size=aN.size:=by
   have:=dz List.length bK
   grind
  have bv:=cO.ab (b:=n) ah bJ bw bh (by rw [aj];exact a5) aK;have a4:=yR ap aa I aw ax bv (by
   have be:∀b∈(Gh.mk none (.node (some n) cap (D++ls))).af,b=n\/b∈FT.bo (D++ls):=by
    intro b g;simpa [Gh.af,FT.af] using g
   refine ⟨?_,λb g j y O=>?_,λb g=>?_⟩;simp only [Gh.af,FT.af,zH,el,hU,ht,jP]
   grind
   rcases be b g with rfl|g
   exact q.et.out b az j y O;exact aB b g j y O
   grind)
  simp_all;refine grow cs (some ⟨n,0,none⟩) K ?_ au (by omega);have:=run_firstCells_some (P:=P) w.drew i.size (xs.length) ⟨n,0,none⟩ (xs.length) cap cs (by rw [ad];exact ae) (λj u am=>by
   rw [mZ,kR];refine Yk (w:=w.drew) (b:=n) (row:=row) (e:=e) (fz:=(0,0)) ar ?_
   grind)
  exact this
end
def A0:b0:=λ_ _=>none
def zK (w:World) (R:Nat->Prop):PM->D->Value->Prop
 | .ro t,d,v=>d.t=t/\VR A0 w R (.ad d.t d.x) v
 | .bt t,d,v=>d.t=t/\VR A0 w R (.bt d.t d.x) v
 |_,_,_=>False
def vt (w:World) (R:Nat->Prop):List PM->List D->List Value->Prop
 |[],[],[]=>True
 |m::b,d::ds,v::vs=>zK w R m d v/\vt w R b ds vs
 |_,_,_=>False
def s4 (w:World) (t:Ty) (x:t.ai) (g:Gh) (v:Value):Prop:=
 ∃b row e,g.bj=some b/\v=.pointer (some ⟨b,0,none⟩)/\w.heap[b]?=some (.cells row e (0,0))/\row.size=t.size/\bd w t x g.ft row.toList
def zJ (w:World) (R:Nat->Prop):PM->List D->Value->Gh->Prop
 | .ptr t,[d],v,g=>d.t=t/\s4 w d.t d.x g v
 | .mut t,[d],v,g=>d.t=t/\(∃u,t=.slice u)/\g.bj=none/\bd w d.t d.x g.ft [v]
 | .ab t,[d],v,g=>d.t=t/\(∃u,t=.slice u)/\g.bj=none/\bd w d.t d.x g.ft [v]
 | .bU f b,ds,v,g=>g.af=[]/\∃vs,v=.func (.func f) #[] (List.toArray vs)/\vt w R b ds vs
 |m,[d],v,g=>g.af=[]/\zK w R m d v
 |_,_,_,_=>False
def lG (w:World) (R:Nat->Prop):List PM->List D->List Value->List Gh->Prop
 |[],[],[],[]=>True
 |m::e,ds,v::vs,g::d=>∃b c,ds=b++c/\zJ w R m b v g/\lG w R e c vs d
 |_,_,_,_=>False
def bX (b:List Gh):List Nat:=(b.map Gh.af).flatten
def Ra (w:World) (d:D) (v:Value) (ft:FT):Prop:=∃cs,bd w d.t d.x ft cs/\(if d.t.agg then v=.agg cs.toArray else cs=[v])
def tq (w:World):List D->List Value->List FT->Prop
 |[],[],[]=>True
 |d::ds,v::vs,f::b=>Ra w d v f/\tq w ds vs b
 |_,_,_=>False
def KC (w:World) (c:List D) (v:Value) (b:List FT):Prop:=
 match c with
 |[]=>v=.tuple #[]/\b=[]
 |[d]=>∃f,b=[f]/\Ra w d v f
 |c=>∃vs,v=.tuple (List.toArray vs)/\tq w c vs b
def kZ (w:World):List PM->List D->List Value->List Gh->List Gh->Prop
 |[],[],[],[],[]=>True
 |m::e,ds,v::vs,g::b,g'::c=>match m,ds with
  | .ptr t,d::ds=>(d.t=t/\g'.bj=g.bj/\s4 w d.t d.x g' v)/\kZ w e ds vs b c
  | .mut t,d::ds=>(d.t=t/\g'.bj=none/\bd w d.t d.x g'.ft [v])/\kZ w e ds vs b c
  | .ptr _,[]=>False
  | .mut _,[]=>False
  |_,ds=>g'.af=[]/\kZ w e ds vs b c
 |_,_,_,_,_=>False
structure xN (w:World) (R:Nat->Prop) (c:az) (ds:List D) (vs:List Value) (d:List Gh):Prop where
 args:lG w R c.params ds vs d
 b5:(bX d).Nodup
 bQ:∀b∈bX d,¬R b/\b<w.heap.size
 R:∀b,R b->b<w.heap.size
structure vu (w:World) (c:az) (vs:List Value) (e:List Gh) (g h:List D) (v:Value) (w':World) (d:List FT) (f:List Gh):Prop where
 ek:KC w' g v d
 types:g.map D.t=c.results
 ai8:kZ w' c.params h vs e f
 b5:(FT.bo d++bX f).Nodup
 bQ:∀b∈FT.bo d++bX f,b<w'.heap.size/\(b∈bX e\/w.heap.size<=b)
 fQ:fJ w w'
 bT:∀b,b<w.heap.size->b∉bX e->w'.heap[b]?=w.heap[b]?
theorem vu.size {w:World} {c:az} {vs:List Value} {d:List Gh} {g f:List D} {v:Value} {w':World} {b:List FT} {e:List Gh} (h:vu w c vs d g f v w' b e):w.heap.size<=w'.heap.size:=h.fQ.size
def tr (P:Program) (f:Nat) (vs:Array Value) (w:World) (Q:Ending->World->Prop):Prop:=
 ((∀args w,(callFunc f args).run P w=.ok (.enter f args) w)/\Calls P f vs w Q)\/(∃v w',(callFunc f vs).run P w=.ok (.value v) w'/\Q (.returned v) w')
theorem tr.mono {P:Program} {f:Nat} {vs:Array Value} {w:World} {Q d:Ending->World->Prop} (h:tr P f vs w Q) (g:∀e w',Q e w'->d e w'):tr P f vs w d:=by
 rcases h with ⟨b,c⟩|⟨v,w',b,c⟩
 exact .inl ⟨b,c.mono g⟩;exact .inr ⟨v,w',b,g _ _ c⟩
structure aM (P:Program) (f:Nat) (c:az):Prop where
 MS:c.bq
 cC:∀t∈c.results,t.cC
 Vj:∀(w:World) (R:Nat->Prop) (ds:List D) (vs:List Value) (b:List Gh) (h d:List D),xN w R c ds vs b->c.g ds=some (h,d)->
  tr P f vs.toArray w λe w'=>match e with
   | .returned v=>∃j l,vu w c vs b h d v w' j l
   |_=>False
def dq (A:b0) (w:World) (R:Nat->Prop):List TV->List Value->Prop
 |[],[]=>True
 |v::vs,x::xs=>VR A w R v x/\dq A w R vs xs
 |_,_=>False
def dH (P:Program) (f:Nat) (I:du):Prop:=∀(Z:Type) (F:Fr) (G:Nat->Gh) (s:St) (a:Act) (w:World) (vs:List TV) (xs:List Value) (k:St->TV->Option Z) (r:Z),
 aC F G s a w->dq (ay s.box G) w F.R vs xs->I.run s vs k=some r->tr P f xs.toArray w λe w'=>match e with
  | .returned v=>∃c b tv,aC F c b a w'/\VR (ay b.box c) w' F.R tv v/\k b tv=some r
  |_=>False
structure fc (P:Program) (E:an):Prop where
 fn:∀f ids c,E.fn f ids=some c->aM P f c
 inl:∀f ids I,E.inl f ids=some I->dH P f I
 h3:∀f ids I,E.inl f ids=some I->I.h3=true->I.rN
section
variable {Z:Type} {P:Program} {E:an} {F:Fr} {G:Nat->Gh} {s s2:St} {a:Act} {w w2:World} {Q:Exit->Act->World->Prop} {A A':b0} {R:Nat->Prop} {p:Nat->Bool}
theorem ary (p:Nat->Bool) (v:TV):(v.bY p).agg=v.agg:=by
 cases v<;>simp only [TV.bY]<;>(try split)<;>rfl
theorem bF.bY (l:∀c q,p c=true->A' c q=A c q):∀(v:TV) (cs:List Value),bF A w R v cs->bF A' w R (v.bY p) cs
 | .ad _ _,_,h=>h
 | .nil,_,h=>h
 | .unit,_,h=>h
 | .un,_,h=>h
 | .tup _,_,h=>h.elim
 | .ab _ _,_,h=>h.elim
 | .cons a r,cs,h=>by
  obtain ⟨x,y,rfl,b,j⟩:=h;exact ⟨x,y,rfl,bF.bY l a x b,bF.bY l r y j⟩
 | .ref c q,cs,h=>by
  simp only [TV.bY];split;rename_i o;obtain ⟨t,ft,u,off,b,rfl⟩:=h;exact ⟨t,ft,u,off,by simp_all,rfl⟩;obtain ⟨t,ft,u,off,b,rfl⟩:=h;exact ⟨_,rfl⟩
 | .sl c q,cs,h=>by
  simp only [TV.bY];split;rename_i o;obtain ⟨t,e,cap,g,d,b,rfl⟩:=h;exact ⟨t,e,cap,g,d,by simp_all,rfl⟩;obtain ⟨t,e,cap,g,d,b,rfl⟩:=h;exact ⟨_,rfl⟩
 | .slw c q lo n,cs,h=>by
  simp only [TV.bY];split;rename_i o;obtain ⟨t,e,cap,g,d,b,j⟩:=h;exact ⟨t,e,cap,g,d,by simp_all,j⟩;obtain ⟨t,e,cap,g,d,b,_,a',c',rfl,_⟩:=h;exact ⟨_,rfl⟩
 | .bt _ _,_,h=>h
 | .bU f z,cs,h=>by
  obtain ⟨vs,b,rfl⟩:=h;exact ⟨vs,bF.bY l z vs b,rfl⟩
 | .mp c,cs,h=>by
  simp only [TV.bY];split;rename_i o;obtain ⟨t,e,cap,g,d,b,rfl⟩:=h;exact ⟨t,e,cap,g,d,by simp_all,rfl⟩;obtain ⟨t,e,cap,g,d,b,rfl⟩:=h;exact ⟨_,rfl⟩
theorem eJ.bY (e:∀c q,p c=true->A' c q=A c q) {v:TV} {x:Value} (h:eJ A w R v x):eJ A' w R (v.bY p) x:=by
 rcases h with rfl|⟨cs,b,d⟩
 exact .inl rfl;exact .inr ⟨cs,bF.bY e v cs b,by rw [ary];exact d⟩
theorem fl.bY (b:∀c q,p c=true->A' c q=A c q):∀(v:TV) (xs:List Value),fl A w R v xs->fl A' w R (v.bY p) xs:=by
 intro v
 induction v with
 |cons a r _ d=>
  intro xs h;cases xs with
  |nil=>exact h.elim
  |cons x xs=>exact ⟨eJ.bY b h.1,d xs h.2⟩
 |unit=>
  intro xs h;cases xs with
  |nil=>trivial
  |cons _ _=>exact h.elim
 |_=>intro xs h;exact h.elim
theorem VR.bY (b:∀c q,p c=true->A' c q=A c q) {v:TV} {x:Value} (h:VR A w R v x):VR A' w R (v.bY p) x:=by
 by_cases f:∃a,v=.tup a
 obtain ⟨a,rfl⟩:=f;obtain ⟨xs,g,j⟩:=h;exact ⟨xs,fl.bY b a xs g,j⟩;have d:∀a,v≠ .tup a:=λa e=>f ⟨a,e⟩
 rw [oG d] at h;have l:∀a,v.bY p≠ .tup a:=by
  intro a e;cases v<;>simp only [TV.bY] at e<;>first|exact d _ rfl|(split at e<;>cases e)|cases e
 rw [oG l];exact eJ.bY b h
theorem aZ.bY (l:∀c q,p c=true->A' c q=A c q):∀(c:TV) (t:Ty) (ft:FT) (cs:List Value),aZ A w R c t ft cs->aZ A' w R (c.bY p) t ft cs:=by
 have dx:∀(v:TV) (t:Ty) (ft:FT) (cs:List Value),t.size=1->t.agg=false->ft.af=[]->bF A w R v cs->(v.bY p=.un\/∀(t:Ty) (ft:FT) (cs:List Value),(t.size=1/\t.agg=false/\ft.af=[]/\bF A' w R (v.bY p) cs)->aZ A' w R (v.bY p) t ft cs)->cs.length=1->
  aZ A' w R (v.bY p) t ft cs:=by
  intro v t ft cs e g j h4 h5 h6;rcases h5 with h5|h5
  rw [h5];exact ⟨j,e,g,h6⟩;exact h5 t ft cs ⟨e,g,j,bF.bY l v cs h4⟩
 intro c
 induction c with
 |ab u x=>intro t ft cs h;exact h
 |ad u x=>intro t ft cs h;exact h
 |cons a d D I=>
  intro t ft cs h;cases t with
  |cons t r=>
   obtain ⟨z,o,y,rfl,C,e,g⟩:=h;exact ⟨z,o,y,rfl,C,D _ _ _ e,I _ _ _ g⟩
  |_=>exact h.elim
 |unit=>intro t ft cs h;exact h
 |un=>intro t ft cs h;exact h
 |tup c _=>
  intro t ft cs h;cases t<;>try exact h.elim
  rcases fK.out h with ⟨xs,K,rfl,e⟩|⟨xs,rfl,e⟩|⟨xs,rfl,e⟩<;>exact ⟨rfl,e⟩
 |nil=>intro t ft cs h;exact h
 |bt u x=>intro t ft cs h;exact h
 |ref b q=>
  intro t ft cs h;obtain ⟨e,g,j,h4⟩:=h;refine dx _ t ft cs e g j h4 ?_ (by have:=bF.len _ _ h4;exact this);simp only [TV.bY];split;exact .inr λ_ _ _ h=>h
  exact .inl rfl
 |sl b q=>
  intro t ft cs h;obtain ⟨e,g,j,h4⟩:=h;refine dx _ t ft cs e g j h4 ?_ (by have:=bF.len _ _ h4;exact this);simp only [TV.bY];split;exact .inr λ_ _ _ h=>h
  exact .inl rfl
 |slw b q lo n=>
  intro t ft cs h;obtain ⟨e,g,j,h4⟩:=h;refine dx _ t ft cs e g j h4 ?_ (by have:=bF.len _ _ h4;exact this);simp only [TV.bY];split;exact .inr λ_ _ _ h=>h
  exact .inl rfl
 |bU f J _=>
  intro t ft cs h;obtain ⟨e,g,j,h4⟩:=h;exact ⟨e,g,j,bF.bY l _ cs h4⟩
 |mp b=>
  intro t ft cs h;obtain ⟨e,g,j,h4⟩:=h;refine dx _ t ft cs e g j h4 ?_ (by have:=bF.len _ _ h4;exact this);simp only [TV.bY];split;exact .inr λ_ _ _ h=>h
  exact .inl rfl
def aC.VN (h:aC F G s a w) (p:Nat->Bool) (C:∀j,s2.box j=if p j then (s.box j).map (bm.bY p) else none) (I:∀n,s2.get n=(s.get n).bY p\/s2.get n=.un) (K:∀i n,s2.fW i n=(s.fW i n).bY p) (J:s2.sv.length=s.sv.length):aC F G s2 a w:=by
 have g:∀c q,p c=true->ay s2.box G c q=ay s.box G c q:=by
  intro c q D;unfold ay;rw [C,aE D];cases s.box c<;>rfl
 have ck:∀{j y},s2.box j=some y->∃o,s.box j=some o/\y=o.bY p:=by
  simp_all
 refine ⟨λi x b=>?_,λi x b=>?_,λi j x y b d=>?_,λi x b=>?_,λi x b=>?_,h.R,λn=>?_,h.bT,h.fQ,h.defers,h.nt,λi x b=>?_,λi n=>(by rw [K];exact VR.bY g (h.sv i n)),J.trans h.jI⟩;obtain ⟨y,d,rfl⟩:=ck b;have f:=h.box i y d;unfold dB at f|-;by_cases l:y.cm=true;rw [aE l] at f;rw [aE (show (y.bY p).cm=true from l)];obtain ⟨r,u,cs,v⟩:=f;exact ⟨r,u,cs,aZ.bY g _ _ _ _ v⟩;rw [av l] at f;rw [av (show ¬(y.bY p).cm=true from l)];obtain ⟨z,row,e,r,u,v,h4⟩:=f;exact ⟨z,row,e,r,u,v,aZ.bY g _ _ _ _ h4⟩;obtain ⟨y,d,rfl⟩:=ck b;exact h.cC i y d;obtain ⟨x',O,rfl⟩:=ck b;obtain ⟨o,U,rfl⟩:=ck d;exact h.c7 i j x' o O U;obtain ⟨y,d,rfl⟩:=ck b;exact h.b5 i y d;obtain ⟨y,d,rfl⟩:=ck b;exact h.bQ i y d;rcases I n with e|e
 rw [e];exact VR.bY g (h.tmps n);rw [e];exact .inl rfl;obtain ⟨y,d,rfl⟩:=ck b;exact h.cW i y d
def Ww (f:Nat->TV) (ts:List Nat) (n:Nat):(lk (ts.map λn=>(n,f n)) n).getD .un=f n\/(lk (ts.map λn=>(n,f n)) n).getD .un=.un:=by
 induction ts with
 |nil=>exact .inr rfl
 |cons t ts b=>
  simp only [gP,gr]
  grind
def aiC (f:Nat->Option bm) (bs:List Nat) (n:Nat):lk (bs.filterMap λn=>(f n).map λb=>(n,b)) n=if mem bs n then f n else none:=by
 induction bs with
 |nil=>rfl
 |cons b bs c=>
  have g:mem (b::bs) n=if b=n then true else mem bs n:=by
   simp only [mem];simp_all
  rw [g];simp only [List.filterMap_cons];by_cases e:b=n;subst e;cases d:f b with
  |none=>simp [c,d]
  |some x=>simp [gr]
  cases d:f b with
  |none=>simp [e,c]
  |some x=>simp [gr,e,c]
theorem aC.ug (h:aC F G s a w) (ts bs:List Nat):aC F G (s.ug ts bs) a w:=by
 refine h.VN (mem bs) (λj=>?_) (λn=>Ww (λn=>(s.get n).bY (mem bs)) ts n) (λi n=>OM (λv=>v.bY (mem bs)) rfl s.sv i n) (eb _);have:=aiC (λn=>(s.box n).map (bm.bY (mem bs))) bs j;rw [<-this];show lk (bs.filterMap λn=>(s.box n).map λb=>(n,b.bY (mem bs))) j=_;congr 1;congr 1;funext n;cases s.box n<;>rfl
theorem FW {α:Type} (l:List (Nat×α)) (b n:Nat):lk (oR l b) n=if b=n then none else lk l n:=by
 induction l with
 |nil=>simp [oR,lk]
 |cons x l c=>
  obtain ⟨k,v⟩:=x;simp only [oR];by_cases e:k=b;subst e;rw [nP];simp only [cN,c,gr];simp_all;rw [ko e];simp only [kK,dA,gr,c]
  grind
theorem aC.drop (h:aC F G s a w) (b:Nat):aC F G (s.drop b) a w:=by
 refine h.VN (λc=> !Nat.beq b c) (λj=>?_) (λn=>.inl ?_) (λi n=>OM (TV.drop b) rfl s.sv i n) (eb _);unfold St.drop St.box;simp only [mb,FW];by_cases e:b=j;subst e;simp;simp_all;unfold St.drop St.get;simp only [mb];cases lk s.tmps n<;>rfl
end
section
variable {Z:Type} {P:Program} {E:an} {F:Fr} {G:Nat->Gh} {s s2:St} {a:Act} {w w2:World}
def QQ (Z:Type) (P:Program) (E:an) (F:Fr):Prop:=∀(G:Nat->Gh) (s:St) (a:Act) (w:World) (Q:Exit->Act->World->Prop) (o:Oper) (k:St->Option Z) (r:Z),
 aC F G s a w->dF E o s k=some r->o.wp P a w (cf F k r) Q
theorem VY (h:aC F G s a w) {d:Nat} {b:Bool} (e:s.get d=.ad .bool b):a.tmps.getD d undef=.bool b:=by
 have:=h.tmps d;rw [e] at this;exact this.bool
theorem ajy (O:QQ Z P E F) (ops:Array Oper) (k:St->Option Z) (r:Z) (Q:Exit->Act->World->Prop) (U:∀a w,cf F k r a w->Q .normal a w):
 ∀(l:List Oper) (G:Nat->Gh) (s:St) (a:Act) (w:World),aC F G s a w->kC E ops k l s=some r->wpList P ops Q l a w:=by
 intro l
 induction l with
 |nil=>intro G s a w h hk;exact U a w ⟨G,s,h,hk⟩
 |cons o bn x=>
  intro G s a w h hk;have step:∀{G s a w},aC F G s a w->dF E o s (kC E ops k bn)=some r->∀K:Act->World->Prop,(∀a w,wpList P ops Q bn a w->K a w)->o.wp P a w K Q:=by
   intro G s a w h hk K g;exact Oper.wp_mono (λa w W=>g a w (by obtain ⟨ae,ah,af,ag⟩:=W;grind)) (O G s a w Q o _ r h hk)
  refine wpList_step λK g=>?_
  simp only [kC] at hk;split at hk;rename_i q;rw [aE (by simp [Region.wanted,q])];exact step h hk K g;rename_i j want q;split at hk;cases hk;rename_i d f;split at hk;rename_i b y;have D:=VY h y;have u:yielded ops a.tmps j=some (show Bool from b):=by
   have ab:a.tmps[d]?=some (.bool b):=by
    rw [jL] at D;cases aa:a.tmps[d]? with
    |none=>rw [aa] at D;cases D
    |some v=>simp_all
   cases C:ops[j]? with
   |none=>rw [C] at f;cases f
   |some ac=>
    rw [C] at f;have f:ac.dst=some d:=f;simp only [yielded,C,f,ab,Option.bind_some]
  have X:∀c,s.get d=.ad .bool c->aC F G (s.put d (.ad .bool c)) a w:=λc z=>h.GO (by have:=h.tmps d;rwa [z] at this)
  have skip:∀c,s.get d=.ad .bool c->kC E ops k bn (match o.dst with|some e=>(s.put d (.ad .bool c)).put e (.tup .unit)|none=>s.put d (.ad .bool c))=some r->K (a.put o.dst undef) w:=by
   intro c z hk;have J:=X c z;refine g _ _ ?_;cases n:o.dst with
   |none=>rw [n] at hk;exact x G _ _ _ J hk
   |some e=>rw [n] at hk;exact x G _ _ _ (J.NL e) hk
  split at hk;have I:Region.wanted o (yielded ops a.tmps)=want:=by
   simp only [Region.wanted,q,u];cases want<;>rfl
  grind
  have I:Region.wanted o (yielded ops a.tmps)= !want:=by
   simp only [Region.wanted,q,u];cases want<;>rfl
  grind
  rename_i y;have u:=VZ h f y;have I:Region.wanted o (yielded ops a.tmps)=false:=by
   simp only [Region.wanted,q,u];cases want<;>rfl
  rw [I,av (by simp)];refine g _ _ ?_;cases n:o.dst with
  |none=>rw [n] at hk;exact x G _ _ _ h hk
  |some e=>rw [n] at hk;exact x G _ _ _ (h.NL e) hk
  cases hk
def xM (F:Fr) (k:Ex->St->Option Z) (r:Z):Exit->Act->World->Prop
 | .normal,a,w=>cf F (k .normal) r a w
 | .exit id,a,w=>cf F (k (.exit id)) r a w
 | .ret,a,w=>cf F (k .ret) r a w
 |_,_,_=>False
def Q9 (Z:Type) (P:Program) (E:an) (F:Fr):Prop:=∀(G:Nat->Gh) (s:St) (a:Act) (w:World) (id:Nat) (ops:Array Oper) (b:Bool) (k:Ex->St->Option Z) (r:Z),
 aC F G s a w->hd E 0 (.region id ops b) k s=some r->(Code.region id ops b).wp P (xM F k r) a w
end
section
variable {Z:Type} {P:Program} {E:an} {F:Fr} {G:Nat->Gh} {s s2:St} {a:Act} {w w2:World} {Q:Exit->Act->World->Prop}
structure vC (F:Fr) (G:Nat->Gh) (s:St) (a:Act) (w:World) (e:List Nat) (c:Nat->Gh) (d:St):Prop where
 rel:aC F c d a w
 le:hV (ay s.box G) (ay d.box c)
 sub:∀j y,d.box j=some y->∀b∈(c j).af,(∃i x,s.box i=some x/\b∈(G i).af)\/b∈e
theorem vC.refl (h:aC F G s a w) (c:List Nat):vC F G s a w c G s:=⟨h,λ_ _ _ ft _ e=>⟨ft,e,rfl⟩,λj y f b d=>.inl ⟨j,y,f,d⟩⟩
theorem hV.trans {A B C:b0} (h:hV A B) (g:hV B C):hV A C:=λb p t ft c e=>by
 obtain ⟨f,d,n⟩:=h b p t ft c e;obtain ⟨l,j,o⟩:=g b p t f c d;simp_all
def apE:∀(t:Ty) (x:t.ai) (G:Nat->Gh) (s:St) (id:Nat) (ft:FT) (cs:List Value) (k:St->Nat->TV->Option Z) (r:Z),aC F G s a w->t.cC->bd w t x ft cs->
 ft.af.Nodup->(∀b∈ft.af,∀j y,s.box j=some y->b∉(G j).af)->(∀b∈ft.af,¬F.R b/\b<w.heap.size/\(b∈F.M\/F.w0.heap.size<=b))->fX s id t x k=some r->
 ∃q f aa v,k f aa v=some r/\vC F G s a w ft.af q f/\bF (ay f.box q) w F.R v cs/\v.agg=t.agg:=by
 have aY:∀(t:Ty) (x:t.ai) (G:Nat->Gh) (s:St) (id:Nat) (ft:FT) (cs:List Value) (k:St->Nat->TV->Option Z) (r:Z),aC F G s a w->bd w t x ft cs->t.aY=true->k s id (.ad t x)=some r->
  ∃q f aa v,k f aa v=some r/\vC F G s a w ft.af q f/\bF (ay f.box q) w F.R v cs/\v.agg=t.agg:=by
  intro t x G s id ft cs k r h c l hk;obtain ⟨a8,a9,aF⟩:=bd.l5 l c;exact ⟨G,s,id,_,hk,.refl h _,by rw [a9];exact Rd.fS l a8,rfl⟩
 intro t
 induction t with
 |slice t _=>
  intro x G s id ft cs k r h O c J X K hk;simp only [fX] at hk;obtain ⟨a4,ah,a5⟩:=qL hk;have au:hW F G s w ⟨none,ft⟩:=⟨by simpa [Gh.af] using J,λb d=>X b (by simpa [Gh.af] using d),λb d=>K b (by simpa [Gh.af] using d)⟩;have aw:=h.qg (x:=⟨.slice t,true,false,.ab (.slice t) x⟩) (g:=⟨none,ft⟩) a4 ah rfl O ⟨rfl,⟨t,rfl⟩,cs,⟨rfl,c⟩⟩ au;refine ⟨_,_,_,_,a5,⟨aw,Wo ah _ _,λj y o b d=>?_⟩,?_,rfl⟩;rw [l0] at o;by_cases e:id=j;subst e;simp only [fo,cN,Gh.af,zH,el] at d;exact .inr d;rw [av e] at o;simp only [fo,Ne.symm e,dA] at d
  grind
  obtain ⟨b,cap,a3,rfl,ax,_,_,ar,_⟩:=c;refine ⟨t,b,cap,a3,none,?_,by rw [ax,ar]⟩;simp [ay,l0,fo,ak]
 |cons t u a1 a2=>
  intro x G s id ft cs k r h O c J X K hk;simp only [fX] at hk;split at hk;rename_i l;exact aY _ x G s id ft cs k r h c l hk;obtain ⟨I,ac,ae,rfl,a6,a7⟩:=c;rw [I,cF] at J;obtain ⟨an,ao,aD⟩:=J;obtain ⟨G1,s1,az,aG,ap,C,al,aA⟩:=a1 x.1 G s id ft.fst ac _ r h O.1 a6 an (λb d=>X b (by rw [I];simp [d])) (λb d=>K b (by rw [I];simp [d])) hk;obtain ⟨aj,s2,a0,aH,aq,D,am,aB⟩:=a2 x.2 G1 s1 az ft.snd ae _ r C.rel O.2.1 a7 ao (λb d j y o U=>by
   rcases C.sub j y o b U with ⟨i,z,ag,W⟩|W
   simp_all
   grind) (λb d=>K b (by rw [I];simp [d])) ap
  refine ⟨aj,s2,a0,_,aq,⟨D.rel,C.le.trans D.le,λj y o b d=>?_⟩,⟨ac,ae,rfl,bF.mono D.le (λ_ _=>rfl) _ _ al,am⟩,rfl⟩;rcases D.sub j y o b d with ⟨i,z,ag,U⟩|U
  rcases C.sub i z ag b U with W|W
  exact .inl W;simp_all;simp_all
 |unit=>
  intro x G s id ft cs k r h _ c _ _ _ hk;simp only [fX] at hk;obtain ⟨_,_,_,rfl⟩:=c;exact ⟨G,s,id,_,hk,.refl h _,rfl,rfl⟩
 |int aE=>intro x G s id ft cs k r h _ c _ _ _ hk;exact aY _ x G s id ft cs k r h c rfl (by simpa [fX,Ty.aY] using hk)
 |bool=>intro x G s id ft cs k r h _ c _ _ _ hk;exact aY _ x G s id ft cs k r h c rfl (by simpa [fX,Ty.aY] using hk)
 |bR=>intro x G s id ft cs k r h _ c _ _ _ hk;exact aY _ x G s id ft cs k r h c rfl (by simpa [fX,Ty.aY] using hk)
 |bz=>intro x G s id ft cs k r h _ c _ _ _ hk;exact c.elim
 |arr n t _=>
  intro x G s id ft cs k r h _ c _ _ _ hk;simp only [fX] at hk;split at hk;rename_i l;exact aY _ x G s id ft cs k r h c l hk;cases hk
def aa6:∀(n:List D) (vs:List Value) (c:List FT) (G:Nat->Gh) (s:St) (id:Nat) (k:St->TV->Option Z) (r:Z),aC F G s a w->(∀d∈n,d.t.cC)->tq w n vs c->
 (FT.bo c).Nodup->(∀b∈FT.bo c,∀j y,s.box j=some y->b∉(G j).af)->(∀b∈FT.bo c,¬F.R b/\b<w.heap.size/\(b∈F.M\/F.w0.heap.size<=b))->nD s id n k=some r->
 ∃K J v,k J v=some r/\vC F G s a w (FT.bo c) K J/\fl (ay J.box K) w F.R v vs:=by
 intro n
 induction n with
 |nil=>
  intro vs c G s id k r h _ e _ _ _ hk;cases vs<;>cases c<;>first|exact e.elim|skip
  exact ⟨G,s,.unit,hk,.refl h _,trivial⟩
 |cons d n al=>
  intro vs c G s id k r h X e O U W hk
  match vs,c,e with
  |v::vs,f::c,e=>
   obtain ⟨⟨cs,am,an⟩,e⟩:=e;simp only [FT.bo,cF] at O;obtain ⟨ae,ag,ao⟩:=O;simp only [nD] at hk;obtain ⟨G1,s1,ak,ap,ai,q,ac,aa⟩:=apE d.t d.x G s id f cs _ r h (X d (by simp)) am ae (λb g=>U b (by simp [FT.bo,g])) (λb g=>W b (by simp [FT.bo,g])) hk;obtain ⟨ab,s2,aq,aj,u,ad⟩:=al vs c G1 s1 ak _ r q.rel (λd ah=>X d (by simp [ah])) e ag (λb g j y C o=>by
    rcases q.sub j y C b o with ⟨i,z,I,l⟩|l
    exact U b (by simp [FT.bo,g]) i z I l
    grind) (λb g=>W b (by simp [FT.bo,g])) ai
   refine ⟨ab,s2,_,aj,⟨u.rel,q.le.trans u.le,λj y C b g=>?_⟩,⟨?_,ad⟩⟩;rcases u.sub j y C b g with ⟨i,z,I,o⟩|o
   rcases q.sub i z I b o with l|l
   exact .inl l;exact .inr (by simp [FT.bo,l]);exact .inr (by simp [FT.bo,o]);exact .inr ⟨cs,bF.mono u.le (λ_ _=>rfl) _ _ ac,by rw [aa];exact an⟩
  |[],_,e=>exact e.elim
  |_::_,[],e=>exact e.elim
def alE (h:aC F G s a w) (O:E.nt=F.nt) {dst:Option Nat} {g:List D} {v:Value} {l:List FT} (q:∀d∈g,d.t.cC) (c:KC w g v l)
 (I:(FT.bo l).Nodup) (J:∀b∈FT.bo l,∀j y,s.box j=some y->b∉(G j).af) (K:∀b∈FT.bo l,¬F.R b/\b<w.heap.size/\(b∈F.M\/F.w0.heap.size<=b))
 (n:∀d,dst=some d->d<E.nt) {k:St->Option Z} {r:Z} {o:Nat} (hk:qY s o dst g k=some r):cf F k r (a.put dst v) w:=by
 unfold qY at hk;cases dst with
 |none=>exact ⟨G,s,h,hk⟩
 |some d=>
  simp only at hk;have n:=n d rfl;rw [O] at n;have ik:∀(vs:List Value),v=.tuple (List.toArray vs)->tq w g vs l->(nD s (er o d) g λs u=>k (s.put d (.tup u)))=some r->cf F k r (a.put (some d) v) w:=by
   intro vs e aa hk;obtain ⟨z,ab,u,C,T,V⟩:=aa6 g vs l G s _ _ r h q aa I J K hk;exact ⟨z,_,T.rel.put n (v:=.tup u) ⟨vs,V,e⟩,C⟩
  match g,c,hk,ik,q with
  |[],c,hk,ik,_=>exact ik [] c.1 (by rw [c.2];trivial) hk
  |[e],c,hk,_,q=>
   obtain ⟨f,rfl,U⟩:=c;obtain ⟨z,ab,u,C,T,V⟩:=aa6 [e] [v] [f] G s _ _ r h q ⟨U,trivial⟩ I J K hk;cases u with
   |cons x y=>
    cases y with
    |unit=>exact ⟨z,_,T.rel.put n V.1.vr,C⟩
    |_=>exact V.2.elim
   |_=>exact V.elim
  |e::ac::g,c,hk,ik,_=>
   obtain ⟨vs,W,X⟩:=c;exact ik vs W X hk
end
section
variable {Z:Type} {P:Program} {E:an} {F:Fr} {G:Nat->Gh} {s s2:St} {a:Act} {w w2:World} {Q:Exit->Act->World->Prop}
def PM.js:PM->Bool
 | .ab _=>true
 |_=>false
def vq (A:b0) (w:World) (R:Nat->Prop):List PM->List TV->List Value->List Gh->Prop
 |[],[],[],[]=>True
 |m::c,v::vs,x::xs,g::b=>(if m.js then ∃u y,m=.ab (.slice u)/\v=.ab (.slice u) y/\g.bj=none/\bd w (.slice u) y g.ft [x] else VR A w R v x/\g=⟨none,.leaf⟩)/\vq A w R c vs xs b
 |_,_,_,_=>False
theorem dq.map {A A':b0} {R:Nat->Prop} {κ:TV->TV} (b:∀v y,VR A w R v y->VR A' w R (κ v) y):∀(vs:List TV) (xs:List Value),dq A w R vs xs->dq A' w R (vs.map κ) xs
 |[],[],_=>trivial
 |_::vs,_::xs,h=>⟨b _ _ h.1,dq.map b vs xs h.2⟩
 |[],_::_,h=>h.elim
 |_::_,[],h=>h.elim
structure lK (F:Fr) (G:Nat->Gh) (s:St) (a:Act) (w:World) (κ:TV->TV) (d:List Nat) (c:Nat->Gh) (e:St):Prop where
 rel:aC F c e a w
 b5:d.Nodup
 out:∀b∈d,∀j y,e.box j=some y->b∉(c j).af
 bQ:∀b∈d,¬F.R b/\b<w.heap.size/\(b∈F.M\/F.w0.heap.size<=b)
 jt:∀b∈d,∃i x,s.box i=some x/\b∈(G i).af
 eZ:iv G s c e
 vr:∀v y,VR (ay s.box G) w F.R v y->VR (ay e.box c) w F.R (κ v) y
theorem lK.none (h:aC F G s a w):lK F G s a w id [] G s:=⟨h,lD,λb c=>(by cases c),λb c=>(by cases c),λb c=>(by cases c),iv.refl,λ_ _ h=>h⟩
def ala:∀(u:List PM) (vs:List TV) (xs:List Value) (G:Nat->Gh) (s:St) (k:St->List TV->(TV->TV)->Option Z) (r:Z),aC F G s a w->dq (ay s.box G) w F.R vs xs->ej s u vs k=some r->
 ∃q n o κ g,k n o κ=some r/\lK F G s a w κ (bX g) q n/\vq (ay n.box q) w F.R u o xs g:=by
 intro u
 induction u with
 |nil=>
  intro vs xs G s k r h j hk
  match vs,xs,j,hk with
  |[],[],_,hk=>exact ⟨G,s,[],id,[],hk,.none h,trivial⟩
  |_::_,_,_,hk=>simp [ej] at hk
 |cons m u U=>
  intro vs xs G s k r h j hk
  match vs,xs,j,hk with
  |[],_,_,hk=>simp [ej] at hk
  |_::_,[],j,_=>exact j.elim
  |v::vs,x::xs,j,hk=>
   have dx:m.js=false->(ej s u vs λs vs κ=>k s (κ v::vs) κ)=some r->∃q n o κ g,k n o κ=some r/\lK F G s a w κ (bX g) q n/\vq (ay n.box q) w F.R (m::u) o (x::xs) g:=by
    intro C hk;obtain ⟨q,n,o,κ,g,aa,T,A⟩:=U vs xs G s _ r h j.2 hk;refine ⟨q,n,κ v::o,κ,⟨Option.none,.leaf⟩::g,aa,T,?_,A⟩;rw [av (by simp [C])];exact ⟨T.vr _ _ j.1,rfl⟩
   cases m with
   |ab t=>
    cases t with
    |slice t=>
     simp only [ej] at hk;have ae:=j.1.GY (EW hk);obtain ⟨G1,s1,c,f,κ,J,l⟩:=oH (.slice t) _ G s [x] _ r h ae hk;split at J;rotate_left;cases J;rename_i y ad;obtain ⟨D,O,ag⟩:=lY (.slice t) c f [x] y l.ff ad;obtain ⟨W,s2,o,ah,g,ac,T,A⟩:=U (vs.map κ) xs G1 s1 _ r l.rel (dq.map l.vr vs xs j.2) J;have fr:=l.et.eZ T.eZ;have I:∀b,b∈bX (⟨Option.none,D⟩::g)↔b∈f.af\/b∈bX g:=by
      intro b;simp [bX,Gh.af,O]
     refine ⟨W,s2,_,_,⟨Option.none,D⟩::g,ac,⟨T.rel,?_,?_,?_,?_,l.eZ.trans T.eZ,λv y j=>T.vr _ _ (l.vr v y j)⟩,?_,A⟩;have e:bX (⟨Option.none,D⟩::g)=f.af++bX g:=by simp [bX,Gh.af,O]
     rw [e,cF];refine ⟨fr.b5,T.b5,λb d c X e=>?_⟩;subst e;obtain ⟨i,z,K,C⟩:=T.jt b X;exact l.et.out b d i z K C;intro b d;rcases (I b).1 d with d|d
     exact fr.out b d;exact T.out b d;intro b d;rcases (I b).1 d with d|d
     exact fr.bQ b d;exact T.bQ b d;intro b d;rcases (I b).1 d with d|d
     exact l.jt b d;obtain ⟨i,z,K,C⟩:=T.jt b d;exact l.eZ.sub i z K b C;rw [aE (show (PM.ab (.slice t)).js=true from rfl)];simp_all
    |_=>simp [ej] at hk
   |ro t=>exact dx rfl (by simpa only [ej] using hk)
   |bt t=>exact dx rfl (by simpa only [ej] using hk)
   |ptr t=>exact dx rfl (by simpa only [ej] using hk)
   | «mut» t=>exact dx rfl (by simpa only [ej] using hk)
   |bU f c=>exact dx rfl (by simpa only [ej] using hk)
end
section
variable {Z:Type} {P:Program} {E:an} {F:Fr} {G:Nat->Gh} {s s2:St} {a:Act} {w w2:World} {Q:Exit->Act->World->Prop}
def xv (A:b0) (w:World) (R:Nat->Prop) (G:Nat->Gh) (s:St) (m:PM) (v0 v:TV) (x:Value) (g:Gh):Prop:=
 match m with
 | .ptr t=>∃b bx y,v0=.ref b []/\v=.ab t y/\s4 w t y g x/\s.box b=some bx/\bx.cm=false/\bx.ty=t/\g.bj=(G b).bj/\g.ft.af=(G b).ft.af
 | .mut t=>∃u y,t=.slice u/\v=.ab (.slice u) y/\g.bj=none/\bd w (.slice u) y g.ft [x]/\
  ((v0=.nil/\g.ft.af=[])\/∃b p bx c,v0=.sl b p/\s.box b=some bx/\aN.dM p=false/\ay s.box G b p=some (.slice u,g.ft,c)/\(∀d o,c=some (d,o)->At w d o 1 [x]))
 | .ab t=>∃u y,t=.slice u/\v=.ab (.slice u) y/\g.bj=none/\bd w (.slice u) y g.ft [x]
 |_=>VR A w R v x/\g=⟨none,.leaf⟩
def pA (A:b0) (w:World) (R:Nat->Prop) (G:Nat->Gh) (s:St):List PM->List TV->List TV->List Value->List Gh->Prop
 |[],[],[],[],[]=>True
 |m::c,v0::d,v::vs,x::xs,g::b=>xv A w R G s m v0 v x g/\pA A w R G s c d vs xs b
 |_,_,_,_,_=>False
def alJ {κ:TV->TV} {o:Nat->Gh} {q:St} (n:∀v y,VR (ay s.box G) w F.R v y->VR (ay q.box o) w F.R (κ v) y) (C:∀t y,κ (.ab t y)=.ab t y):
 ∀(j:List PM) (vs:List TV) (xs:List Value) (d:List Gh),j.any PM.fh=false->vq (ay s.box G) w F.R j vs xs d->pA (ay q.box o) w F.R G s j vs (vs.map κ) xs d:=by
 intro j
 induction j with
 |nil=>
  intro vs xs d _ h
  match vs,xs,d,h with
  |[],[],[],_=>trivial
 |cons m j D=>
  intro vs xs d l h;simp only [List.any_cons,Bool.or_eq_false_iff] at l
  match vs,xs,d,h with
  |v::vs,x::xs,g::d,h=>
   refine ⟨?_,D vs xs d l.2 h.2⟩;have b:=h.1;cases m with
   |ptr t=>cases l.1
   | «mut» t=>cases l.1
   |ab t=>
    rw [aE (show (PM.ab t).js=true from rfl)] at b;obtain ⟨u,y,e,rfl,r,z⟩:=b;simp only [PM.ab.injEq] at e;exact ⟨u,y,e,C _ _,r,z⟩
   |ro t=>rw [av (by simp [PM.js])] at b;exact ⟨n _ _ b.1,b.2⟩
   |bt t=>rw [av (by simp [PM.js])] at b;exact ⟨n _ _ b.1,b.2⟩
   |bU f c=>rw [av (by simp [PM.js])] at b;exact ⟨n _ _ b.1,b.2⟩
  |[],_,_,h=>exact h.elim
  |_::_,[],_,h=>exact h.elim
  |_::_,_::_,[],h=>exact h.elim
def Mj (h:aC F G s a w) (b:Nat):(∀v y,VR (ay s.box G) w F.R v y->VR (ay (s.drop b).box G) w F.R (v.drop b) y)/\(∀j,(s.drop b).box j=if b=j then none else (s.box j).map (bm.bY λc=> !Nat.beq b c)):=by
 have f:∀j,(s.drop b).box j=if b=j then none else (s.box j).map (bm.bY λc=> !Nat.beq b c):=by
  intro j;unfold St.drop St.box;simp only [mb,FW]
  grind
 refine ⟨λv y g=>VR.bY (λc q d=>?_) g,f⟩;unfold ay;have d:¬b=c:=by
  intro e;subst e;simp at d
 rw [f,av d];cases s.box c<;>rfl
end
section
variable {Z:Type} {P:Program} {E:an} {F:Fr} {G:Nat->Gh} {s s2:St} {a:Act} {w w2:World} {Q:Exit->Act->World->Prop}
theorem qh {b:Nat} {bx:bm} (c:s.box b=some bx):ay s.box G b []=some (bx.ty,(G b).ft,(G b).bj.map (·,0)):=by
 simp only [ay,c];cases bx.ty<;>rfl
def ait (h:aC F G s a w) {b:Nat} {bx:bm} (n:s.box b=some bx) (ad:bx.cm=false) {t:Ty} (ac:bx.ty=t) {y:t.ai} (l:bx.c.dv t=some y) {x:Value} (ag:VR (ay s.box G) w F.R (.ref b []) x):
 ∃g:Gh,s4 w t y g x/\g.bj=(G b).bj/\g.ft.af=(G b).ft.af/\lK F G s a w (TV.drop b) g.af G (s.drop b):=by
 obtain ⟨ae,O⟩:=Mj h b;have I:=h.box b bx n;unfold dB at I;rw [av (by simp [ad])] at I;obtain ⟨q,row,e,r,X,aa,h4⟩:=I;subst ac;obtain ⟨J,K,W⟩:=lY _ _ _ _ _ h4 l;obtain ⟨u,f,aj,off,v,ah⟩:=ag.b1 (by simp) (by simp) rfl;rw [qh n,r] at v;simp only [dy,bi,bK] at v;obtain ⟨rfl,rfl,rfl,rfl⟩:=v;have C:(Gh.mk (some q) J).af=(G b).af:=by simp [Gh.af,r,K]
 refine ⟨⟨some q,J⟩,⟨q,row,e,rfl,(hr ah).1,X,aa,W⟩,r.symm,K,h.drop b,?_,?_,?_,?_,⟨λj y l o d=>?_⟩,ae⟩;rw [C];exact h.b5 b bx n;intro o d j ak U ab;rw [C] at d;rw [O] at U;by_cases e:b=j;simp_all;rw [av e] at U;cases D:s.box j with
 |none=>simp_all
 |some z=>exact h.c7 b j bx z n D e o d ab
 intro o d;rw [C] at d;exact h.bQ b bx n o d
 grind
 rw [O] at l;by_cases e:b=j;simp_all;rw [av e] at l;cases D:s.box j with
 |none=>rw [D] at l;cases l
 |some z=>grind
def aC.apY (h:aC F G s a w) {b:Nat} {bx:bm} (r:s.box b=some bx):aC F G (s.b2 b {bx with dI:=false}) a w:=by
 have J:∀j,(s.b2 b {bx with dI:=false}).box j=if b=j then some {bx with dI:=false} else s.box j:=λj=>kq s b _ bx r j
 have o:ay (s.b2 b {bx with dI:=false}).box G=ay s.box G:=by
  funext c q;unfold ay
  grind
 have ck:∀{j y},(s.b2 b {bx with dI:=false}).box j=some y->∃z,s.box j=some z/\y.ty=z.ty/\y.cm=z.cm/\y.c=z.c/\(y.dI=true->y=z):=by
  grind
 refine ⟨λi x d=>?_,λi x d=>?_,λi j x y d u=>?_,λi x d=>?_,λi x d=>?_,h.R,λn=>?_,h.bT,h.fQ,h.defers,h.nt,λi x d=>?_,λi n=>(by rw [o];exact h.sv i n),h.jI⟩;obtain ⟨z,g,l,D,I,_⟩:=ck d;have:=h.box i z g;unfold dB at this|-;simp_all;obtain ⟨z,g,l,_⟩:=ck d;rw [l];exact h.cC i z g;obtain ⟨x',f,_⟩:=ck d;obtain ⟨C,v,_⟩:=ck u;exact h.c7 i j x' C f v;obtain ⟨x',f,_⟩:=ck d;exact h.b5 i x' f;obtain ⟨x',f,_⟩:=ck d;exact h.bQ i x' f;rw [o];exact h.tmps n;obtain ⟨x',f,_,_,_,e⟩:=ck d;obtain ⟨K,O⟩:=h.cW i x' f
 grind
def afB {b:Nat} {bx:bm} (d:s.box b=some bx):ay (s.b2 b {bx with dI:=false}).box G=ay s.box G:=by
 funext c q;unfold ay;rw [kq s b _ bx d]
 grind
def ais (h:aC F G s a w) {b:Nat} {p:aN} {bx:bm} (f:s.box b=some bx) (ar:aN.dM p=false) {t:Ty} {x:Value} (a0:VR (ay s.box G) w F.R (.sl b p) x)
 {k:(u:Ty)->u.ai->TV->Option Z} {r:Z} (hk:(dC bx.c p λc=>match c with
  | .ab u y=>if decide (u=.slice t) then b7 bx.c p .un λc'=>k u y c' else none
  |_=>none)=some r):
 ∃c' q I X,∃y:(Ty.slice t).ai,k (.slice t) y c'=some r/\bd w (.slice t) y I [x]/\ay s.box G b p=some (.slice t,I,X)/\(∀d o,X=some (d,o)->At w d o 1 [x])/\
  lK F G s a w (TV.ax b p) I.af q (((s.b2 b {bx with dI:=false}).b2 b {bx with dI:=false,c:=c'}).ax b p):=by
 obtain ⟨aj,ap,ao⟩:=(h.box b bx f).ff;obtain ⟨c',u,am,a',ah,g,ak,al,D⟩:=aZ.get bx.c bx.ty (G b).ft aj ((G b).bj.map (·,0)) p _ r ap (λd o e=>(ao d o e).1) hk;split at g;rename_i a2 y;split at g;rename_i W;have W:a2=.slice t:=fb W;subst W;have J:ay s.box G b p=some (u,am,a'):=by rw [fv f];exact ak
 have av:=h.apY f;have an:(s.b2 b {bx with dI:=false}).box b=some {bx with dI:=false}:=by rw [kq s b _ bx f,aE rfl]
 have O:=afB (G:=G) f;obtain ⟨ag,q,a1,ae,n,aa,C,aw,ad,ac⟩:=av.move an rfl (.inl ar) rfl rfl (by rw [O];exact J) (by rw [O];exact al) D g;subst aw;obtain ⟨aH,a6,cap,aA,a4,K,a8⟩:=a0.b1 (by simp) (by simp) rfl;rw [J] at K;simp only [bi,bK] at K;obtain ⟨_,rfl,_⟩:=K;have aq:ah=[x]:=by
  obtain ⟨a5,a7,aB,aD,aF,_,_,aG,_⟩:=C;simp_all
 rw [aq] at C D;have ck:∀{j z},(s.b2 b {bx with dI:=false}).box j=some z->∃a3,s.box j=some a3:=by
  intro j z l;rw [kq s b _ bx f] at l
  grind
 refine ⟨ag,q,_,a',y,a1,C,J,D,ae,n.b5,n.out,n.bQ,λd U=>?_,⟨λj z l d U=>?_⟩,λv z az=>?_⟩;obtain ⟨i,z,l,au⟩:=ac d U
 grind
 obtain ⟨i,aI,a9,au⟩:=ad.sub j z l d U
 grind
 exact VR.ax aa (λ_ _=>rfl) (by rw [O];exact az);cases g;cases g
end
section
variable {Z:Type} {P:Program} {E:an} {F:Fr} {G:Nat->Gh} {s s2:St} {a:Act} {w w2:World} {Q:Exit->Act->World->Prop}
def eH:List PM->List Gh->List Nat
 |m::c,g::b=>(if m.fh then g.af else [])++eH c b
 |_,_=>[]
theorem MV:∀(b:List PM) (c:List Gh),b.any PM.fh=false->eH b c=[]
 |[],_,_=>by cases ‹List Gh› <;>rfl
 |_::_,[],_=>rfl
 |m::b,g::c,h=>by
  simp only [List.any_cons,Bool.or_eq_false_iff] at h;simp [eH,h.1,MV b c h.2]
def ak7 (h:aC F G s a w):∀(n:List PM) (vs:List TV) (xs:List Value) (q:List Gh) (k:St->List TV->(TV->TV)->Option Z) (r:Z),vq (ay s.box G) w F.R n vs xs q->cH s n vs k=some r->
 ∃j d I κ o,k d I κ=some r/\lK F G s a w κ (eH n o) j d/\pA (ay d.box j) w F.R G s n vs I xs o/\(∀t y,κ (.ab t y)=.ab t y)/\
  (∀b,b∈bX o↔b∈eH n o\/b∈bX q)/\((bX q).Nodup->(∀b∈bX q,b∉eH n o)->(bX o).Nodup):=by
 intro n
 induction n with
 |nil=>
  intro vs xs q k r C hk
  match vs,xs,q,C,hk with
  |[],[],[],_,hk=>exact ⟨G,s,[],id,[],hk,.none h,trivial,λ_ _=>rfl,λb=>(by simp [eH,bX]),λW _=>W⟩
 |cons m n a6=>
  intro vs xs q k r C hk
  match vs,xs,q,C,hk with
  |[],_,_,C,_=>exact C.elim
  |_::_,[],_,C,_=>exact C.elim
  |_::_,_::_,[],C,_=>exact C.elim
  |v::vs,x::xs,g::q,C,hk=>
   have dx:m.fh=false->(cH s n vs λs vs κ=>k s (κ v::vs) κ)=some r->(∀(κ:TV->TV) (j:Nat->Gh) (d:St),(∀v y,VR (ay s.box G) w F.R v y->VR (ay d.box j) w F.R (κ v) y)->(∀t y,κ (.ab t y)=.ab t y)->xv (ay d.box j) w F.R G s m v (κ v) x g)->
    ∃j d I κ o,k d I κ=some r/\lK F G s a w κ (eH (m::n) o) j d/\pA (ay d.box j) w F.R G s (m::n) (v::vs) I (x::xs) o/\(∀t y,κ (.ab t y)=.ab t y)/\
   (∀b,b∈bX o↔b∈eH (m::n) o\/b∈bX (g::q))/\((bX (g::q)).Nodup->(∀b∈bX (g::q),b∉eH (m::n) o)->(bX o).Nodup):=by
    intro ah hk aj;obtain ⟨j,d,I,κ,o,ag,T,A,K,B,N⟩:=a6 vs xs q _ r C.2 hk;have J:eH (m::n) (g::o)=eH n o:=by simp [eH,ah]
    have aa:∀l:List Gh,bX (g::l)=g.af++bX l:=λl=>by simp [bX]
    refine ⟨j,d,_,κ,g::o,ag,by rw [J];exact T,⟨aj κ j d T.vr K,A⟩,K,λb=>?_,λW ae=>?_⟩
    grind
    grind
   have ak:∀(g':Gh) (j:Nat->Gh) (d:St) (κ:TV->TV) (al:TV),m.fh=true->n.any PM.fh=false->g=⟨Option.none,.leaf⟩->lK F G s a w κ g'.af j d->(∀t y,κ (.ab t y)=.ab t y)->xv (ay d.box j) w F.R G s m v al x g'->k d (al::vs.map κ) κ=some r->
    ∃j d I κ o,k d I κ=some r/\lK F G s a w κ (eH (m::n) o) j d/\pA (ay d.box j) w F.R G s (m::n) (v::vs) I (x::xs) o/\(∀t y,κ (.ab t y)=.ab t y)/\
   (∀b,b∈bX o↔b∈eH (m::n) o\/b∈bX (g::q))/\((bX (g::q)).Nodup->(∀b∈bX (g::q),b∉eH (m::n) o)->(bX o).Nodup):=by
    intro g' j d κ al ah ao O T K aj ag;subst O;have J:eH (m::n) (g'::q)=g'.af:=by simp [eH,ah,MV n q ao]
    have aa:bX (g'::q)=g'.af++bX q:=by simp [bX]
    have ac:bX ((⟨Option.none,.leaf⟩:Gh)::q)=bX q:=by simp [bX,Gh.af,FT.af]
    refine ⟨j,d,_,κ,g'::q,ag,by rw [J];exact T,⟨aj,alJ T.vr K n vs xs q ao C.2⟩,K,λb=>?_,λW ae=>?_⟩;simp_all;rw [J,ac] at ae;rw [ac] at W;rw [aa,cF];exact ⟨T.b5,W,λb a1 c D e=>ae c D (e▸a1)⟩
   have z:=C.1;cases m with
   |ro t=>exact dx rfl (by simpa only [cH] using hk) (λκ j d X _=>by rw [av (by simp [PM.js])] at z;exact ⟨X _ _ z.1,z.2⟩)
   |bt t=>exact dx rfl (by simpa only [cH] using hk) (λκ j d X _=>by rw [av (by simp [PM.js])] at z;exact ⟨X _ _ z.1,z.2⟩)
   |bU f c=>exact dx rfl (by simpa only [cH] using hk) (λκ j d X _=>by rw [av (by simp [PM.js])] at z;exact ⟨X _ _ z.1,z.2⟩)
   |ab t=>exact dx rfl (by simpa only [cH] using hk) (λκ j d _ a3=>by
    rw [aE (show (PM.ab t).js=true from rfl)] at z;obtain ⟨u,y,e,rfl,az,a0⟩:=z;simp only [PM.ab.injEq] at e;exact ⟨u,y,e,a3 _ _,az,a0⟩)
   |ptr t=>
    rw [av (by simp [PM.js])] at z;obtain ⟨ad,O⟩:=z;cases v with
    |ref b p=>
     cases p with
     |nil=>
      simp only [cH] at hk;unfold b6 at hk;split at hk;rotate_left;cases hk;rename_i bx U
      try dsimp only at hk
      split at hk;cases hk;rename_i D;simp only [gx,il,py,hv,vc,jM] at D;obtain ⟨⟨am,aq⟩,an⟩:=D;split at hk;rename_i y a5;obtain ⟨g',a7,a8,a9,aA⟩:=ait h U am an a5 ad;exact ak g' G _ _ _ rfl aq O aA (λ_ _=>rfl) ⟨b,bx,y,rfl,rfl,a7,U,am,an,a8,a9⟩ hk;cases hk
     |cons _ _=>simp [cH] at hk
    |_=>simp [cH] at hk
   | «mut» t=>
    rw [av (by simp [PM.js])] at z;obtain ⟨ad,O⟩:=z;cases t with
    |slice t=>
     cases v with
     |nil=>
      simp only [cH] at hk;split at hk;cases hk;rename_i D;have D:n.any PM.fh=false:=by simpa using D
      have a4:[x]=[Value.slice none 0 0]:=ad.b1 (by simp) (by simp) rfl;have a2:k s (.ab (.slice t) ([]:List t.ai)::vs.map id) id=some r:=by rw [nL];exact hk
      refine ak ⟨none,.node none 0 []⟩ G s id _ rfl D O (.none h) (λ_ _=>rfl) ⟨t,_,rfl,rfl,rfl,?_,.inl ⟨rfl,rfl⟩⟩ a2;rw [a4];exact ⟨none,0,[],rfl,rfl,cS _,bG _,rfl,rfl⟩
     |sl b p=>
      simp only [cH] at hk;split at hk;cases hk
      ·rename_i D;simp only [gx,hv,jM] at D;unfold b6 at hk;split at hk;rotate_left;cases hk;rename_i bx U
       try dsimp only at hk
       obtain ⟨c',j,aw,ap,y,J,aa,ac,au,ar⟩:=ais h U D.1 ad (k:=λu y c'=>k (((s.b2 b {bx with dI:=false}).b2 b {bx with dI:=false,c:=c'}).ax b p) (.ab u y::vs.map (TV.ax b p)) (TV.ax b p)) hk;exact ak ⟨none,aw⟩ j _ _ _ rfl D.2 O (by simpa [Gh.af] using ar) (λ_ _=>rfl) ⟨t,y,rfl,rfl,rfl,aa,.inr ⟨b,p,bx,ap,rfl,U,D.1,ac,au⟩⟩ J
     |_=>simp [cH] at hk
    |_=>simp [cH] at hk
end
section
variable {Z:Type} {P:Program} {E:an} {F:Fr} {G:Nat->Gh} {s s2:St} {a:Act} {w w2:World} {Q:Exit->Act->World->Prop}
def N1:∀(t:Ty) (v:TV) (k:t.ai->Option Z) (r:Z),dV s t v k=some r->v.agg=t.agg/\v≠ .un/\∀b,v≠ .tup b:=by
 have ad:∀(t u:Ty) (x:u.ai) (k:t.ai->Option Z) (r:Z),(∃y,cI u t x=some y/\k y=some r)->(TV.ad u x).agg=t.agg/\TV.ad u x≠ .un/\∀b,TV.ad u x≠ .tup b:=by
  intro t u x k r h;obtain ⟨y,e,h⟩:=h;obtain ⟨rfl,_⟩:=eP e;exact ⟨rfl,by simp,by simp⟩
 intro t v k r h;cases t with
 |slice t=>
  simp only [dV] at h;cases v with
  |nil=>exact ⟨rfl,by simp,by simp⟩
  |sl b p=>exact ⟨rfl,by simp,by simp⟩
  |slw b p lo n=>exact ⟨rfl,by simp,by simp⟩
  |ad u x=>
   simp only [hp] at h;split at h;rename_i y e;obtain ⟨rfl,_⟩:=eP e;exact ⟨rfl,by simp,by simp⟩;cases h
  |_=>simp [hp] at h
 |cons t u=>
  cases v with
  |cons a d=>exact ⟨rfl,by simp,by simp⟩
  |ad c x=>exact ad _ c x k r (by simp only [dV] at h;grind)
  |_=>simp [dV] at h
 |unit=>
  cases v with
  |unit=>exact ⟨rfl,by simp,by simp⟩
  |ad c x=>exact ad _ c x k r (by simp only [dV] at h;grind)
  |_=>simp [dV] at h
 |_=>
  cases v with
  |ad c x=>exact ad _ c x k r (by simp only [dV] at h;grind)
  |_=>simp [dV] at h
def agt {A:b0} {R j:Nat->Prop} (I:∀b,R b->j b):∀(t:Ty) (c:TV) (ft:FT) (cs:List Value) (k:t.ai->Option Z) (r:Z),aZ A w R c t ft cs->(∀b∈ft.af,j b)->eQ t c k=some r->
 ∃x,k x=some r/\Rd w j t x cs:=by
 have cast:∀(t u:Ty) (x:u.ai) (k:t.ai->Option Z) (r:Z),(∃y,cI u t x=some y/\k y=some r)->∃e:u=t,k (e▸x)=some r:=by
  intro t u x k r h;obtain ⟨y,O,h⟩:=h;obtain ⟨e,rfl⟩:=eP O;exact ⟨e,h⟩
 have ab:∀(t u:Ty) (x:u.ai) (ft:FT) (cs:List Value) (k:t.ai->Option Z) (r:Z),aZ A w R (.ab u x) t ft cs->(∀b∈ft.af,j b)->(∃y,cI u t x=some y/\k y=some r)->∃x,k x=some r/\Rd w j t x cs:=by
  intro t u x ft cs k r f g h;obtain ⟨e,h⟩:=cast t u x k r h;subst e;exact ⟨x,h,bd.rd _ _ _ _ g f.2⟩
 have ad:∀(t u:Ty) (x:u.ai) (ft:FT) (cs:List Value) (k:t.ai->Option Z) (r:Z),aZ A w R (.ad u x) t ft cs->(∃y,cI u t x=some y/\k y=some r)->∃x,k x=some r/\Rd w j t x cs:=by
  intro t u x ft cs k r f h;obtain ⟨e,h⟩:=cast t u x k r h;subst e;exact ⟨x,h,Rd.bT I (λ_ _=>rfl) _ _ _ f.2.2⟩
 intro t
 induction t with
 |slice t _=>
  intro c ft cs k r f g h;cases c with
  |ab u x=>exact ab _ u x ft cs k r f g (by simp only [eQ] at h;grind)
  |ad u x=>exact ad _ u x ft cs k r f (by simp only [eQ] at h;grind)
  |nil=>
   simp only [eQ] at h;obtain ⟨_,_,_,K⟩:=f;exact ⟨_,h,none,0,K,⟨cS _,bG _⟩,λJ=>absurd rfl J⟩
  |_=>simp [eQ] at h
 |cons t u U W=>
  intro c ft cs k r f g h;cases c with
  |ab u x=>exact ab _ u x ft cs k r f g (by simp only [eQ] at h;grind)
  |ad u x=>exact ad _ u x ft cs k r f (by simp only [eQ] at h;grind)
  |cons c d=>
   simp only [eQ] at h;obtain ⟨q,n,o,rfl,_,C,D⟩:=f;obtain ⟨x,v,X⟩:=U c ft.fst n _ r C (λb l=>g b (by rw [q];simp [l])) h;obtain ⟨y,z,aa⟩:=W d ft.snd o _ r D (λb l=>g b (by rw [q];simp [l])) v;exact ⟨(x,y),z,n,o,rfl,X,aa⟩
  |_=>simp [eQ] at h
 |unit=>
  intro c ft cs k r f g h;cases c with
  |ab u x=>exact ab _ u x ft cs k r f g (by simp only [eQ] at h;grind)
  |ad u x=>exact ad _ u x ft cs k r f (by simp only [eQ] at h;grind)
  |unit=>
   simp only [eQ] at h;exact ⟨_,h,rfl,trivial,f.2.2⟩
  |_=>simp [eQ] at h
 |_=>
  intro c ft cs k r f g h;cases c with
  |ab u x=>exact ab _ u x ft cs k r f g (by simp only [eQ] at h;grind)
  |ad u x=>exact ad _ u x ft cs k r f (by simp only [eQ] at h;grind)
  |_=>simp [eQ] at h
end
section
variable {Z:Type} {P:Program} {E:an} {F:Fr} {G:Nat->Gh} {s s2:St} {a:Act} {w w2:World} {Q:Exit->Act->World->Prop}
def MU (h:aC F G s a w) {m:PM} {v:TV} {x:Value} (K:VR (ay s.box G) w F.R v x) {k:D->Option Z} {r:Z} (hk:gJ s m v k=some r):
 ∃d,k d=some r/\zK w (RR F G s) m d x:=by
 have I:∀b,F.R b->RR F G s b:=λb q=>.inl q
 cases m with
 |ro t=>
  simp only [gJ] at hk;obtain ⟨ai,aj,ak⟩:=N1 t v _ r hk;obtain ⟨cs,ax,X⟩:=K.cells aj ak;obtain ⟨y,e,C⟩:=GL h t v cs _ r ax hk;exact ⟨⟨t,y⟩,e,rfl,dJ (v:=.ad t y) C (by rw [ai] at X;exact X)⟩
 |bt t=>
  cases v with
  |bt u y=>
   simp only [gJ] at hk;split at hk;rename_i z au;obtain ⟨rfl,rfl⟩:=eP au;obtain ⟨f,off,c,O,al,am,ar⟩:=K.b1 (by simp) (by simp) rfl;exact ⟨_,hk,rfl,dJ (v:=.bt u y) (cs:=[x]) ⟨f,off,c,O,I _ al,am,Rd.bT I (λ_ _=>rfl) _ _ _ ar⟩ rfl⟩;cases hk
  |ref b p=>
   simp only [gJ] at hk;unfold b6 at hk;split at hk
   ·rename_i bx g
    try dsimp only at hk
    split at hk;rotate_left;cases hk;rename_i J;have J:cE bx.ty p=some t:=fb J;obtain ⟨a1,ft,f,off,n,O⟩:=K.b1 (by simp) (by simp) rfl;obtain ⟨ab,ap,ao⟩:=(h.box b bx g).ff;obtain ⟨c',u,ah,a',U,ac,l,ae,ag⟩:=aZ.get bx.c bx.ty (G b).ft ab ((G b).bj.map (·,0)) p _ r ap (λj o e=>(ao j o e).1) hk;rw [fv g,l] at n;simp only [bi,bK] at n;obtain ⟨rfl,rfl,rfl⟩:=n;obtain ⟨s1,aw⟩:=fO _ _ _ _ l;have aq:f∈(G b).af:=by
     simp only [Gh.af,bI];rcases aw with ⟨aa,a0,e0,az,_⟩|⟨d,e0,_⟩
     simp_all;cases q:(G b).bj with
     |none=>rw [q] at e0;cases e0
     |some aa=>simp_all
    have W:=Tk _ _ _ _ l;rw [J] at W;obtain rfl:=b3 W;obtain ⟨y,av,C⟩:=agt I t c' ah U _ r ae (λj an=>.inr ⟨b,bx,g,by simp only [Gh.af,bI];exact .inr (s1 j an)⟩) ac;exact ⟨⟨t,y⟩,av,rfl,dJ (v:=.bt t y) (cs:=[x]) ⟨f,off,U,O,.inr ⟨b,bx,g,aq⟩,ag _ _ rfl,C⟩ rfl⟩
   cases hk
  |_=>simp [gJ] at hk
 |_=>simp [gJ] at hk
end
section
variable {Z:Type} {P:Program} {E:an} {F:Fr} {G:Nat->Gh} {s s2:St} {a:Act} {w w2:World} {Q:Exit->Act->World->Prop}
theorem Vk {A:b0} {R:Nat->Prop}:∀(c:TV) (xs:List Value) (l:List TV),bF A w R c xs->c.oO=some l->dq A w R l xs:=by
 intro c
 induction c with
 |unit=>
  intro xs l h b;simp only [TV.oO,bi] at b;subst b;rw [show xs=[] from h];trivial
 |cons a r _ q=>
  intro xs l h b;obtain ⟨f,g,rfl,d,j⟩:=h;simp only [TV.oO] at b;split at b;rename_i e;split at b;rename_i u n;simp only [bi] at b;subst b;have o:∃x,f=[x]:=by
   cases a<;>simp [TV.MI] at e
   obtain ⟨_,_,_,_,_,rfl⟩:=d;exact ⟨_,rfl⟩;obtain ⟨_,_,_,rfl,_⟩:=d;exact ⟨_,rfl⟩
  obtain ⟨x,rfl⟩:=o;refine ⟨dJ d ?_,q g u j n⟩;cases a<;>simp [TV.MI] at e<;>rfl
  cases b;cases b
 |_=>intro xs l h b;simp [TV.oO] at b
theorem aiq (h:aC F G s a w):∀(c:List PM) (vs:List TV) (xs:List Value) (k:List D->Option Z) (r:Z),dq (ay s.box G) w F.R vs xs->uh s c vs k=some r->
 ∃ds,k ds=some r/\vt w (RR F G s) c ds xs:=by
 intro c
 induction c with
 |nil=>
  intro vs xs k r b hk
  match vs,xs,b,hk with
  |[],[],_,hk=>exact ⟨[],hk,trivial⟩
  |_::_,_,_,hk=>simp [uh] at hk
 |cons m c l=>
  intro vs xs k r b hk
  match vs,xs,b,hk with
  |[],_,_,hk=>simp [uh] at hk
  |_::_,[],b,_=>exact b.elim
  |v::vs,x::xs,b,hk=>
   simp only [uh] at hk;obtain ⟨d,g,e⟩:=MU h b.1 hk;obtain ⟨ds,j,f⟩:=l vs xs _ r b.2 g;exact ⟨d::ds,j,e,f⟩
end
section
variable {Z:Type} {P:Program} {E:an} {F:Fr} {G G1:Nat->Gh} {s s1:St} {a:Act} {w w2:World} {Q:Exit->Act->World->Prop}
def aiu (h:aC F G1 s1 a w) {m:PM} {v0 v:TV} {x:Value} {g:Gh} (c:xv (ay s1.box G1) w F.R G s m v0 v x g) {k:List D->Option Z} {r:Z} (hk:jz s1 m v k=some r):
 ∃ds,k ds=some r/\zJ w (RR F G1 s1) m ds x g:=by
 cases m with
 |ptr t=>
  obtain ⟨b,bx,y,rfl,rfl,j,_⟩:=c;simp only [jz,decide_true,cN] at hk;exact ⟨_,hk,rfl,j⟩
 | «mut» t=>
  obtain ⟨u,y,rfl,rfl,o,j,_⟩:=c;simp only [jz,decide_true,cN] at hk;exact ⟨_,hk,rfl,⟨u,rfl⟩,o,j⟩
 |ab t=>
  obtain ⟨u,y,rfl,rfl,o,j⟩:=c;simp only [jz,decide_true,cN] at hk;exact ⟨_,hk,rfl,⟨u,rfl⟩,o,j⟩
 |ro t=>
  obtain ⟨n,rfl⟩:=c;have hk:gJ s1 (.ro t) v (λd=>k [d])=some r:=hk;obtain ⟨d,hk,q⟩:=MU h n hk;exact ⟨_,hk,rfl,q⟩
 |bt t=>
  obtain ⟨n,rfl⟩:=c;have hk:gJ s1 (.bt t) v (λd=>k [d])=some r:=hk;obtain ⟨d,hk,q⟩:=MU h n hk;exact ⟨_,hk,rfl,q⟩
 |bU f O=>
  obtain ⟨n,rfl⟩:=c;cases v with
  |bU U z=>
   simp only [jz] at hk;split at hk;rename_i e;have e:=ga e;subst e;split at hk;rename_i l I;obtain ⟨vs,J,K⟩:=n.b1 (by simp) (by simp) rfl;obtain ⟨ds,hk,C⟩:=aiq h O l vs _ r (Vk z vs l J I) hk;exact ⟨ds,hk,rfl,vs,(hr K).1,C⟩;cases hk;cases hk
  |_=>simp [jz,gJ] at hk
def aip (h:aC F G1 s1 a w):∀(e:List PM) (d vs:List TV) (xs:List Value) (c:List Gh) (k:List D->Option Z) (r:Z),pA (ay s1.box G1) w F.R G s e d vs xs c->iJ s1 e vs k=some r->
 ∃ds,k ds=some r/\lG w (RR F G1 s1) e ds xs c:=by
 intro e
 induction e with
 |nil=>
  intro d vs xs c k r b hk
  match d,vs,xs,c,b,hk with
  |[],[],[],[],_,hk=>exact ⟨[],hk,trivial⟩
 |cons m e u=>
  intro d vs xs c k r b hk
  match d,vs,xs,c,b,hk with
  |v0::d,v::vs,x::xs,g::c,b,hk=>
   simp only [iJ] at hk;obtain ⟨f,o,l⟩:=aiu h b.1 hk;obtain ⟨j,q,n⟩:=u d vs xs c _ r b.2 o;exact ⟨f++j,q,f,j,rfl,l,n⟩
  |[],_,_,_,b,_=>exact b.elim
  |_::_,[],_,_,b,_=>exact b.elim
  |_::_,_::_,[],_,b,_=>exact b.elim
  |_::_,_::_,_::_,[],b,_=>exact b.elim
end
section
variable {Z:Type} {P:Program} {E:an} {F:Fr} {G:Nat->Gh} {s:St} {a:Act} {w w2:World} {Q:Exit->Act->World->Prop}
theorem GV (t:Ty) (ft f:FT):bA t ft [] f=f:=by cases t<;>rfl
def Tt (h:aC F G s a w) {b:Nat} {bx:bm} (g:s.box b=some bx) (l:bx.cm=false) (ag:fJ w w2) (q:∀b,F.R b->w2.heap[b]?=w.heap[b]?)
 (K:∀j y,j≠b->s.box j=some y->∀d∈(G j).af,w2.heap[d]?=w.heap[d]?) (O:∀d,d<F.w0.heap.size->d∉F.M->w2.heap[d]?=w.heap[d]?)
 {g':Gh} {t:Ty} {x:t.ai} {X:Value} (aj:g'.bj=(G b).bj) (ae:s4 w2 t x g' X) (C:bx.ty=t) (z:g'.af.Nodup)
 (aa:∀d∈g'.ft.af,d∈(G b).ft.af\/∀j y,s.box j=some y->d∉(G j).af) (ac:∀d∈g'.ft.af,¬F.R d/\d<w2.heap.size/\(d∈F.M\/F.w0.heap.size<=d)):
 aC F (λj=>if j=b then ⟨(G b).bj,g'.ft⟩ else G j) ((s.b2 b {bx with c:=.ab t x}).ax b []) a w2:=by
 have n:ay s.box G b []=some (bx.ty,(G b).ft,(G b).bj.map (·,0)):=qh g;have o:(λj=>if j=b then (⟨(G b).bj,g'.ft⟩:Gh) else G j)=λj=>if j=b then ⟨(G b).bj,bA bx.ty (G b).ft [] g'.ft⟩ else G j:=by
  funext j;rw [GV]
 have r:=k5 g (.ab t x) [];have u:=tG (f:=g'.ft) (c':=(TV.ab t x).ax b []) (kl:=λv=>v.ax b []) g n o r;have ad:g'.ft.af.Nodup:=by
  simp only [Gh.af,cF] at z;exact z.2.1
 refine h.ym g n (λv=>v.ax b []) o (yy _ b []) (zf _ b []) (zg _ b []) r (λv y l=>VR.ax u q l) (λc t ft cs U W=>aZ.ax u q c t ft cs U W) ?_ ag K O ad aa ac (λak al=>by simp_all);obtain ⟨D,row,e,ah,_,I,J,h4⟩:=ae;unfold dB;rw [av (show ¬(bx.with ((TV.ab t x).ax b [])).cm=true from by simp [bm.with,l])];refine ⟨D,row,e,?_,I,J.trans (dz Ty.size C.symm),?_⟩;simp_all;simp only [cN];exact ⟨C.symm,h4⟩
end
def afA {f:FT} {u:Ty} {x:FT} (H:∀(a:Option (Nat×Nat)) (q:aN) {v:Ty} {g:FT} {h:Option (Nat×Nat)},ak u x a q=some (v,g,h)->∃l,ak u f a q=some (v,l,h)/\fp v l=fp v g):
 ∀(t:Ty) (ft:FT) (a:Option (Nat×Nat)) (p q:aN) {v:Ty} {g:FT} {j h:Option (Nat×Nat)},
 ak t ft a p=some (u,x,j)->ak t ft a q=some (v,g,h)->
 ∃l,ak t (bA t ft p f) a q=some (v,l,h)/\fp v l=fp v g:=by
 intro t;have o:∀(t:Ty) (ft:FT) (a:Option (Nat×Nat)) (q:aN) {v:Ty} {g:FT} {j h:Option (Nat×Nat)},
  ak t ft a []=some (u,x,j)->ak t ft a q=some (v,g,h)->∃l,ak t f a q=some (v,l,h)/\fp v l=fp v g:=by
  intro t ft a q v g j h d c;have e:ak t ft a []=some (t,ft,a):=by cases t<;>rfl
  simp_all
 induction t with
 |cons t r z J=>
  intro ft a p q v g j h d c
  match p,d with
  |[],d=>exact o _ _ _ _ d c
  | .i n::p,d=>simp [ak] at d
  | .f 0::p,d=>
   match q,c with
   |[],c=>simp only [ak,bi,bK] at c;obtain ⟨rfl,rfl,rfl⟩:=c;exact ⟨_,rfl,rfl⟩
   | .i n::q,c=>simp [ak] at c
   | .f 0::q,c=>
    simp only [ak] at d c;simpa [ak,bA,FT.fst] using z _ _ p q d c
   | .f (n+1)::q,c=>simp only [ak] at c;exact ⟨g,by simpa [ak,bA,FT.snd] using c,rfl⟩
  | .f (m+1)::p,d=>
   match q,c with
   |[],c=>simp only [ak,bi,bK] at c;obtain ⟨rfl,rfl,rfl⟩:=c;exact ⟨_,rfl,rfl⟩
   | .i n::q,c=>simp [ak] at c
   | .f 0::q,c=>simp only [ak] at c;exact ⟨g,by simpa [ak,bA,FT.fst] using c,rfl⟩
   | .f (n+1)::q,c=>
    simp only [ak] at d c;have:=J _ _ (.f m::p) (.f n::q) d c;simp only [ak,bA,FT.snd];exact this
 |slice t z=>
  intro ft a p q v g j h d c
  match p,d with
  |[],d=>exact o _ _ _ _ d c
  | .f n::p,d=>simp [ak] at d
  | .i n::p,d=>
   match ft,d,c with
   | .leaf,d,_=>simp [ak] at d
   | .eI _ _,d,_=>simp [ak] at d
   | .node none _ _,d,_=>simp [ak] at d
   | .node (some b) cap D,d,c=>
    simp only [ak] at d;split at d;rename_i kn hk
    match q,c with
    |[],c=>
     simp only [ak,bi,bK] at c;obtain ⟨rfl,rfl,rfl⟩:=c;exact ⟨_,rfl,by simp [fp,FT.dD,bA,hk]⟩
    | .f n::q,c=>simp [ak] at c
    | .i m::q,c=>
     simp only [ak] at c;split at c;rename_i K C;by_cases I:m=n;subst I;rw [hk] at C;obtain rfl:=b3 C;have y:(D.set m (bA t kn p f))[m]?=some (bA t kn p f):=by
      grind
     simpa [ak,bA,hk,y] using z _ _ p q d c;have y:(D.set n (bA t kn p f))[m]?=some K:=by grind
     exact ⟨g,by simp only [bA,hk,ak,y];exact c,rfl⟩;cases c
    cases d
 |arr m t _=>
  intro ft a p q v g j h d c
  match p,d with
  |[],d=>exact o _ _ _ _ d c
  | .f n::p,d=>simp [ak] at d
  | .i n::s::p,d=>simp [ak] at d
  |[.i n],d=>
   have e:bA (.arr m t) ft [.i n] f=ft:=by cases ft<;>rfl
   simp_all
 |_=>
  intro ft a p q v g j h d c;cases p with
  |nil=>exact o _ _ _ _ d c
  |cons s p=>simp [ak] at d
def aiy {u:Ty} (C:u.aY=true) {b:Option Nat} {cap:Nat} {j c:List FT} (y:c.length=j.length) (a:Option (Nat×Nat)) (q:aN) {v:Ty} {e:FT} {d:Option (Nat×Nat)}
 (h:ak (.slice u) (.node b cap j) a q=some (v,e,d)):∃g,ak (.slice u) (.node b cap c) a q=some (v,g,d)/\fp v g=fp v e:=by
 match q,h with
 |[],h=>
  simp only [ak,bi,bK] at h;obtain ⟨rfl,rfl,rfl⟩:=h;exact ⟨_,rfl,by simp [fp,FT.dD,y]⟩
 | .f n::q,h=>simp [ak] at h
 | .i n::q,h=>
  cases b with
  |none=>simp [ak] at h
  |some b=>
   simp only [ak] at h;split at h;rename_i k hk;have z:n<c.length:=by grind
   obtain ⟨o,r⟩:=VL _ _ _ _ C h;obtain ⟨l,x⟩:=r c[n];exact ⟨l,by simp only [ak,a6 z];exact x,V3 o _ _⟩;cases h
section
variable {Z:Type} {P:Program} {E:an} {F:Fr} {G:Nat->Gh} {s:St} {a:Act} {w w2:World} {Q:Exit->Act->World->Prop}
def aik {i:Nat} {x:bm} (C:s.box i=some x) {p:aN} {u:Ty} {b:FT} {g:Option (Nat×Nat)}
 (I:ay s.box G i p=some (u,b,g)) {f:FT} (H:∀(a:Option (Nat×Nat)) (q:aN) {v:Ty} {n:FT} {l:Option (Nat×Nat)},ak u b a q=some (v,n,l)->∃o,ak u f a q=some (v,o,l)/\fp v o=fp v n)
 {s2:St} {d:Nat->Gh} {c':TV} {kl:TV->TV}
 (K:d=λj=>if j=i then ⟨(G i).bj,bA x.ty (G i).ft p f⟩ else G j)
 (r:∀j,s2.box j=if j=i then some (x.with c') else (s.box j).map λy=>y.with (kl y.c)):hV (ay s.box G) (ay s2.box d):=by
 subst K;intro c q t ft aP h;have J:ak x.ty (G i).ft ((G i).bj.map (·,0)) p=some (u,b,g):=by rw [<-fv C];exact I
 by_cases e:i=c;subst e;rw [fv C] at h;have z:ay s2.box (λj=>if j=i then ⟨(G i).bj,bA x.ty (G i).ft p f⟩ else G j) i q=ak x.ty (bA x.ty (G i).ft p f) ((G i).bj.map (·,0)) q:=by
  simp [ay,r,bm.with]
 rw [z];exact afA H x.ty (G i).ft _ p q J h;have z:ay s2.box (λj=>if j=i then ⟨(G i).bj,bA x.ty (G i).ft p f⟩ else G j) c q=ay s.box G c q:=by
  have D:¬c=i:=λh=>e h.symm
  simp only [ay,r,D,dA];cases s.box c<;>rfl
 simp_all
end
section
variable {Z:Type} {P:Program} {E:an} {F:Fr} {G:Nat->Gh} {s:St} {a:Act} {w w2:World} {Q:Exit->Act->World->Prop}
def aC.Ts (h:aC F G s a w) {b:Nat} {p:aN} {x:bm} (u:s.box b=some x) (aM:aN.dM p=false) {t:Ty} {y:(Ty.slice t).ai} {l f:FT} {I:Option (Nat×Nat)} {v:Value}
 (ac:ay s.box G b p=some (.slice t,l,I)) (D:∀d o,I=some (d,o)->At w d o 1 [v]) (am:bd w2 (.slice t) y f [v])
 (aX:fJ w w2) (ag:∀b,F.R b->w2.heap[b]?=w.heap[b]?)
 (a0:∀j z,j≠b->s.box j=some z->∀d∈(G j).af,w2.heap[d]?=w.heap[d]?) (ad:∀d∈(G b).af,d∉l.af->w2.heap[d]?=w.heap[d]?)
 (a1:∀d,d<F.w0.heap.size->d∉F.M->w2.heap[d]?=w.heap[d]?)
 (aO:f.af.Nodup) (aP:∀d∈f.af,d∈l.af\/∀j z,s.box j=some z->d∉(G j).af) (aQ:∀d∈f.af,¬F.R d/\d<w2.heap.size/\(d∈F.M\/F.w0.heap.size<=d))
 (aS:f.dD=l.dD) (kl:TV->TV) (s2:St) (c':TV)
 (aR:∀n,s2.get n=kl (s.get n)) (aW:∀i n,s2.fW i n=kl (s.fW i n)) (aT:s2.sv.length=s.sv.length) (a8:∀j,s2.box j=if j=b then some (x.with (kl c')) else (s.box j).map λy=>y.with (kl y.c))
 (a2:∀v y,VR (ay s.box G) w F.R v y->VR (ay s2.box (λj=>if j=b then ⟨(G b).bj,bA x.ty (G b).ft p f⟩ else G j)) w2 F.R (kl v) y)
 (ae:∀(w':World),(∀b,F.R b->w'.heap[b]?=w.heap[b]?)->∀c t ft cs,(∀b∈ft.af,w'.heap[b]?=w.heap[b]?)->aZ (ay s.box G) w F.R c t ft cs->aZ (ay s2.box (λj=>if j=b then ⟨(G b).bj,bA x.ty (G b).ft p f⟩ else G j)) w' F.R (kl c) t ft cs)
 (ah:∀{Y:Type} (k':TV->Option Y),b7 (kl x.c) p (.ab (.slice t) y) k'=k' (kl c')):
 aC F (λj=>if j=b then ⟨(G b).bj,bA x.ty (G b).ft p f⟩ else G j) s2 a w2:=by
 have J:ak x.ty (G b).ft ((G b).bj.map (·,0)) p=some (.slice t,l,I):=by rw [<-fv u];exact ac
 obtain ⟨s1,bu⟩:=fO _ _ _ _ J;have al:=h.b5 b x u;simp only [Gh.af,cF] at al;obtain ⟨bs,aY,ao⟩:=al;obtain ⟨bh,bq,aG⟩:=(h.box b x u).ff;have aj:∀g,(G b).bj=some g->w2.heap[g]?=w.heap[g]?:=λg e=>ad g (by simp [Gh.af,e]) (λC=>ao g (by simp [e]) g (s1 g C) rfl)
 have an:x.cm=true->(G b).bj=none/\p=[]/\x.ty=.slice t/\l=(G b).ft:=by
  intro D;have:=h.box b x u;unfold dB at this;rw [aE D] at this;obtain ⟨bo,⟨ar,az⟩,_⟩:=this;rw [az] at J|-;cases p with
  |nil=>
   have bi:ak (.slice ar) (G b).ft ((G b).bj.map (·,0)) []=some (.slice ar,(G b).ft,(G b).bj.map (·,0)):=rfl;simp_all
  |cons q p=>cases q<;>simp [ak,aN.dM] at J aM
 refine h.ym u ac kl rfl aR aW aT a8 a2 (λc t ft cs a4 aK=>ae w2 ag c t ft cs a4 aK) ?_ aX a0 a1 aO aP aQ (λ_ D=>by
  obtain ⟨_,rfl,e,aa⟩:=an D;rw [GV,aS,aa])
 unfold dB;by_cases K:x.cm=true;obtain ⟨aI,rfl,X,aa⟩:=an K;rw [aE (show (x.with (kl c')).cm=true from K)];refine ⟨by simpa using aI,⟨t,X⟩,[v],?_⟩;have au:∀{Y:Type} (c v:TV) (k:TV->Option Y),b7 c [] v k=k v:=by intro Y c v k;cases c<;>rfl
 have:=ah some;rw [au] at this;have aJ:kl c'=.ab (.slice t) y:=(b3 this).symm;change aZ _ w2 F.R (kl c') x.ty _ [v];rw [aJ];simp only [cN,GV];exact ⟨X.symm,am⟩;rw [av (show ¬(x.with (kl c')).cm=true from K)];have U:=h.box b x u;unfold dB at U;rw [av K] at U;obtain ⟨g,row,e,r,aA,aD,aF⟩:=U;have a5:∃o,I=some (g,o):=by
  grind
 obtain ⟨o,rfl⟩:=a5;have aH:g∉(G b).ft.af:=λC=>ao g (by simp [r]) g C rfl
 have a6:At w g o 1 [v]:=D g o rfl;have a3:Wr w w2 g o (Ty.slice t).size [v]:=by
  obtain ⟨ap,be,bf,O,fz,aq,ba,bb,bc⟩:=Wr.refl a6;exact ⟨ap,be,bf,O,fz,aq,(aj g r).trans ba,bb,bc⟩
 have bp:At w g 0 x.ty.size row.toList:=(aG g 0 (by rw [r];rfl)).1|>λbr=>by
  simp_all
 have aL:aZ (ay s2.box (λj=>if j=b then ⟨(G b).bj,bA x.ty (G b).ft p f⟩ else G j)) w F.R (kl x.c) x.ty (G b).ft row.toList:=ae w (λ_ _=>rfl) _ _ _ _ (λ_ _=>rfl) aF;obtain ⟨bg,W,aw,bl,bn,ax⟩:=aZ.set (v:=.ab (.slice t) y) (ft2:=f) a3 ⟨rfl,am⟩ (kl x.c) x.ty (G b).ft row.toList ((G b).bj.map (·,0)) p (λc=>some c) (kl c') aL
  (λd bt O=>by
   grind) aY J (ah some) ⟨λd a9 aU _=>ad d (by simp [Gh.af,a9]) aU,λC=>aH (s1 g C),ag⟩
 obtain rfl:=b3 aw;have aB:w2.heap[g]?=some (.cells row e (0,0)):=(aj g r).trans aA;refine ⟨g,row,e,by simp [r],aB,aD,?_⟩;have a7:=ax g 0 (by rw [r];rfl);have aV:W=row.toList:=by
  obtain ⟨nA,O,bk,ap,aq,rfl⟩:=a7
  grind
 rw [<-aV];change aZ _ w2 F.R (kl c') x.ty _ W
 grind
end
section
variable {Z:Type} {P:Program} {E:an} {F:Fr} {G:Nat->Gh} {s:St} {a:Act} {w w2:World} {Q:Exit->Act->World->Prop}
def ajB {w w2:World} {t:Ty} {x y:(Ty.slice t).ai} {f g:FT} {v:Value} (h:bd w (.slice t) x f [v]) (j:bd w2 (.slice t) y g [v]):
 ∃b cap c d,f=.node b cap c/\g=.node b cap d/\d.length=c.length:=by
 obtain ⟨b,cap,c,rfl,e,_,_,q,_⟩:=h;obtain ⟨l,n,d,rfl,o,_,_,r,_⟩:=j
 grind
def KG (G:Nat->Gh) (s:St) (g g':List Nat) (c:Nat->Gh) (d:St):Prop:=
 ∀j y,d.box j=some y->∀b∈(c j).af,b∈g'\/(b∉g/\∃i z,s.box i=some z/\b∈(G i).af)
def afN (h:aC F G s a w) {A:b0} {R:Nat->Prop} {m:PM} {v0 v:TV} {x:Value} {g g':Gh} (I:xv A w R G s m v0 v x g) (bd:m.fh=true)
 {a7 a8:List Gh} {vs:List Value} {aR:List PM} {ds:List D}
 (an:fJ w w2) (ab:∀b,F.R b->w2.heap[b]?=w.heap[b]?)
 (aj:∀j z,s.box j=some z->∀b∈(G j).af,b∉g.af->w2.heap[b]?=w.heap[b]?)
 (al:∀l,l<F.w0.heap.size->l∉F.M->w2.heap[l]?=w.heap[l]?) (aN:g'.af.Nodup)
 (ba:∀b∈g'.af,b∈g.af\/∀j z,s.box j=some z->b∉(G j).af)
 (aH:∀b∈g'.af,¬F.R b/\b<w2.heap.size/\(b∈F.M\/F.w0.heap.size<=b))
 (U:kZ w2 (m::aR) ds (x::vs) (g::a7) (g'::a8)) {k:St->List D->Option Z} {r:Z} (hk:eD s m v0 ds k=some r):
 ∃a2 a1 a3,k a1 a3=some r/\aC F a2 a1 a w2/\kZ w2 aR a3 vs a7 a8/\KG G s g.af g'.af a2 a1:=by
 cases m with
 |ptr t=>
  obtain ⟨b,bx,y,rfl,rfl,aO,C,ai,bi,ac,bb⟩:=I;cases ds with
  |nil=>exact U.elim
  |cons d ds=>
   obtain ⟨⟨ad,am,ah⟩,U⟩:=U;simp only [eD] at hk;rw [aE (by simp [ad])] at hk;unfold b6 at hk;rw [C] at hk;have X:g.af=(G b).af:=by simp [Gh.af,ac,bb]
   have hrel:=Tt (t:=d.t) (x:=d.x) h C ai an ab (λj y O J l o=>aj j y J l o (λI=>h.c7 j b y bx J C O l o (X▸I))) al (am.trans ac) ah (bi.trans ad.symm) aN
    (λl o=>by
     rcases ba l (by simp [Gh.af,o]) with K|K
     left;rw [X] at K;simp only [Gh.af,bI] at K;rcases K with K|K
     exfalso;simp only [Gh.af,cF] at aN
     grind
     exact K;exact .inr K)
    (λl o=>aH l (by simp [Gh.af,o]))
   refine ⟨_,_,ds,hk,hrel,U,λj y J l o=>?_⟩;rw [k5 C] at J;by_cases e:j=b;subst e;left;simp only [cN] at o;have:(⟨(G j).bj,g'.ft⟩:Gh).af=g'.af:=by simp [Gh.af,am,ac]
   simp_all;right;simp only [e,dA] at o J;cases O:s.box j with
   |none=>rw [O] at J;cases J
   |some z=>exact ⟨λI=>h.c7 j b z bx O C e l o (X▸I),j,z,O,o⟩
 | «mut» t=>
  obtain ⟨u,y,rfl,rfl,ac,aO,bg⟩:=I;cases ds with
  |nil=>exact U.elim
  |cons d ds=>
   obtain ⟨⟨ad,am,ah⟩,U⟩:=U;obtain ⟨aV,bn⟩:=d;have ad:aV=.slice u:=ad;subst ad;rcases bg with ⟨rfl,bf⟩|⟨b,p,bx,aT,rfl,C,aG,ae,aD⟩
   simp only [eD] at hk;have aJ:g.af=[]:=by simp [Gh.af,ac,bf]
   refine ⟨G,s,ds,hk,h.shift an ab (λj z aa b ag=>aj j z aa b ag (by simp [aJ])) al,U,λj y J b ag=>.inr ⟨by simp [aJ],j,y,J,ag⟩⟩;simp only [eD,decide_true,cN] at hk;unfold b6 at hk;rw [C] at hk;simp only at hk;have X:g.af=g.ft.af:=by simp [Gh.af,ac]
   have bc:g'.af=g'.ft.af:=by simp [Gh.af,am]
   have a9:ak bx.ty (G b).ft ((G b).bj.map (·,0)) p=some (.slice u,g.ft,aT):=by rw [<-fv C];exact ae
   obtain ⟨bk,_⟩:=fO _ _ _ _ a9;have aL:∀l∈g.af,l∈(G b).af:=λl I=>by rw [X] at I;simp only [Gh.af,bI];exact .inr (bk l I)
   obtain ⟨bm,cap,bq,br,a4,a5,a6⟩:=ajB aO ah;have aB:∀j z,j≠b->s.box j=some z->∀l∈(G j).af,w2.heap[l]?=w.heap[l]?:=λj z O aa l o=>aj j z aa l o (λI=>h.c7 j b z bx aa C O l o (aL l I))
   have aA:∀l∈(G b).af,l∉g.ft.af->w2.heap[l]?=w.heap[l]?:=λl o be=>aj b bx C l o (by rw [X];exact be)
   have av:g'.ft.af.Nodup:=by simp_all
   have au:∀l∈g'.ft.af,l∈g.ft.af\/∀j z,s.box j=some z->l∉(G j).af:=λl I=>by simp_all
   have aI:∀l∈g'.ft.af,¬F.R l/\l<w2.heap.size/\(l∈F.M\/F.w0.heap.size<=l):=λl I=>aH l (by rw [bc];exact I)
   have aK:g'.ft.dD=g.ft.dD:=by rw [a4,a5];simp [FT.dD,a6]
   have aw:=h.b5 b bx C;simp only [Gh.af,cF] at aw;have aQ:∀(s2:St),(∀j y,s2.box j=some y->∃z,s.box j=some z)->KG G s g.af g'.af (λj=>if j=b then ⟨(G b).bj,bA bx.ty (G b).ft p g'.ft⟩ else G j) s2:=by
    intro s2 bh j y J l o;obtain ⟨z,aa⟩:=bh j y J;by_cases e:j=b;subst e;simp only [cN,Gh.af,bI] at o;obtain ⟨_,aU⟩:=GU bx.ty (G j).ft _ p g'.ft a9 aw.2.1 av (λb ag=>(au b ag).imp id λaX aW=>aX j bx C (by simp [Gh.af,aW]));rcases o with I|I
    exact .inr ⟨λbp=>aw.2.2 l I l (by simp_all) rfl,j,bx,C,by simp only [Gh.af,bI];exact .inl I⟩;rcases aU l I with K|K
    simp_all;exact .inr ⟨by rw [X];exact K.2,j,bx,C,by simp only [Gh.af,bI];exact .inr K.1⟩;simp only [e,dA] at o;exact .inr ⟨λI=>h.c7 j b z bx aa C e l o (aL l I),j,z,aa,o⟩
   by_cases az:u.aY=true;obtain ⟨c',ao,a0⟩:=Ob _ _ _ _ _ hk;simp only [az,cN] at ao;have W:∀j,(s.b2 b {bx with c:=c'}).box j=if j=b then some (bx.with c') else (s.box j).map λy=>y.with y.c:=E2 C c'
   have aM:hV (ay s.box G) (ay (s.b2 b {bx with c:=c'}).box (λj=>if j=b then ⟨(G b).bj,bA bx.ty (G b).ft p g'.ft⟩ else G j)):=
    aik C ae (λaS q v bo bl aP=>by rw [a4] at aP;rw [a5];exact aiy az a6 aS q aP) rfl (kl:=id) W
   refine ⟨_,_,ds,ao,h.Ts C aG ae aD ah an ab aB aA al av au aI aK id _ c' (λn=>rfl) (λ_ _=>rfl) rfl W (λv y ai=>VR.mono aM ab ai) (λw' ap c t ft cs aq ar=>aZ.mono aM ap c t ft cs aq ar) a0,U,aQ _ (λj y J=>?_)⟩;rw [W] at J;by_cases e:j=b;simp_all;simp only [e,dA] at J;cases O:s.box j with
   |none=>rw [O] at J;cases J
   |some z=>exact ⟨z,rfl⟩
   simp only [az,kK,dA] at hk;obtain ⟨c',ao,a0⟩:=Oa b p _ _ _ _ _ hk;have W:=k5 C c' p;have aF:=tG (f:=g'.ft) (kl:=λv=>v.ax b p) C ae rfl W;refine ⟨_,_,ds,ao,h.Ts C aG ae aD ah an ab aB aA al av au aI aK (λv=>v.ax b p) _ c' (yy _ b p) (zf _ b p) (zg _ b p) W (λv y ai=>VR.ax aF ab ai) (λw' ap c t ft cs aq ar=>aZ.ax aF ap c t ft cs aq ar) a0,U,aQ _ (λj y J=>?_)⟩;rw [W] at J;by_cases e:j=b;simp_all;simp only [e,dA] at J;cases O:s.box j with
   |none=>rw [O] at J;cases J
   |some z=>exact ⟨z,rfl⟩
 |_=>simp [PM.fh] at bd
end
section
variable {Z:Type} {P:Program} {E:an} {F:Fr} {G:Nat->Gh} {s:St} {a:Act} {w w2:World} {Q:Exit->Act->World->Prop}
def o7:List PM->Bool
 |[]=>true
 |m::b=>if m.fh then !(b.any PM.fh) else o7 b
def ak5:∀(e:List PM) (s:St) (vs:List TV) (k:St->List TV->(TV->TV)->Option Z) (r:Z),cH s e vs k=some r->o7 e=true:=by
 intro e
 induction e with
 |nil=>intros;rfl
 |cons m e g=>
  intro s vs k r hk;cases vs with
  |nil=>simp [cH] at hk
  |cons v vs=>
   cases m with
   |ptr t=>
    cases v with
    |ref b p=>
     cases p with
     |nil=>
      simp only [cH] at hk;unfold b6 at hk;split at hk
      try dsimp only at hk
      split at hk;cases hk;rename_i d;simp only [gx,hv,jM] at d;simp [o7,PM.fh,d.1.2];cases hk
     |cons _ _=>simp [cH] at hk
    |_=>simp [cH] at hk
   | «mut» t=>
    cases t with
    |slice t=>
     cases v with
     |nil=>
      simp only [cH] at hk;split at hk;cases hk;rename_i d;simpa [o7,PM.fh] using d
     |sl b p=>
      simp only [cH] at hk;split at hk;cases hk;rename_i d;simp only [gx,hv,jM] at d;simp [o7,PM.fh,d.2]
     |_=>simp [cH] at hk
    |_=>simp [cH] at hk
   |ro t=>exact g s vs _ r (by simpa only [cH] using hk)
   |bt t=>exact g s vs _ r (by simpa only [cH] using hk)
   |ab t=>exact g s vs _ r (by simpa only [cH] using hk)
   |bU f c=>exact g s vs _ r (by simpa only [cH] using hk)
theorem Lp {m:PM} (b:m.fh=false) (v:TV) (ds:List D) (k:St->List D->Option Z):eD s m v ds k=k s ds:=by
 cases m<;>first|rfl|simp [PM.fh] at b
def afI:∀(b:List PM) (vs:List TV) (ds:List D) (s:St) (k:St->Option Z) (r:Z),b.any PM.fh=false->gU s b vs ds k=some r->k s=some r:=by
 intro b
 induction b with
 |nil=>
  intro vs ds s k r _ hk;cases vs<;>cases ds<;>first|exact hk|simp [gU] at hk
 |cons m b d=>
  intro vs ds s k r c hk;simp only [List.any_cons,Bool.or_eq_false_iff] at c;cases vs with
  |nil=>simp [gU] at hk
  |cons v vs=>
   simp only [gU] at hk;rw [Lp c.1] at hk
   grind
def ai7 {m:PM} (e:m.fh=false) {d:List PM} {ds:List D} {v:Value} {vs:List Value} {g g':Gh} {b c:List Gh} (h:kZ w (m::d) ds (v::vs) (g::b) (g'::c)):g'.af=[]/\kZ w d ds vs b c:=by
 cases m<;>first|exact h|simp [PM.fh] at e
theorem FB (g:Gh) (b:List Gh):bX (g::b)=g.af++bX b:=by simp [bX]
def afL (h:aC F G s a w) {A:b0} {R:Nat->Prop} (ad:fJ w w2) (ac:∀b,F.R b->w2.heap[b]?=w.heap[b]?)
 (ab:∀K,K<F.w0.heap.size->K∉F.M->w2.heap[K]?=w.heap[K]?):
 ∀(d:List PM) (q vs:List TV) (xs:List Value) (c f:List Gh) (ds:List D) (k:St->Option Z) (r:Z),pA A w R G s d q vs xs c->kZ w2 d ds xs c f->o7 d=true->
 (∀j z,s.box j=some z->∀b∈(G j).af,b∉eH d c->w2.heap[b]?=w.heap[b]?)->(bX f).Nodup->
 (∀b∈bX f,b∈eH d c\/∀j z,s.box j=some z->b∉(G j).af)->
 (∀b∈bX f,¬F.R b/\b<w2.heap.size/\(b∈F.M\/F.w0.heap.size<=b))->gU s d q ds k=some r->
 ∃J I,k I=some r/\aC F J I a w2/\KG G s (eH d c) (bX f) J I:=by
 intro d
 induction d with
 |nil=>
  intro q vs xs c f ds k r e l _ u _ _ _ hk
  match q,vs,xs,c,f,ds,e,l,hk with
  |[],[],[],[],[],[],_,_,hk=>
   exact ⟨G,s,hk,h.shift ad ac (λj z al b n=>u j z al b n (by simp [eH])) ab,λj y aa b n=>.inr ⟨by simp [eH],j,y,aa,n⟩⟩
  |[],[],[],[],_::_,[],_,l,_=>exact l.elim
  |[],[],[],[],_,_::_,_,_,hk=>simp [gU] at hk
 |cons m d am=>
  intro q vs xs c f ds k r e l W u U C O hk
  match q,vs,xs,c,f,e,l with
  |v0::q,v::vs,x::xs,g::c,g'::f,e,l=>
   simp only [gU] at hk;by_cases o:m.fh=true;simp only [o7,o,cN,il] at W;have X:eH (m::d) (g::c)=g.af:=by simp [eH,o,MV d c W]
   rw [X] at u C|-;rw [FB] at U C O|-;obtain ⟨J,I,ah,an,ae,ao,ag⟩:=afN h e.1 o ad ac u ab (cF.1 U).1 (λb n=>C b (bI.2 (.inl n))) (λb n=>O b (bI.2 (.inl n))) l hk;exact ⟨J,I,afI d q ah I k r W an,ae,λj y aa b n=>(ag j y aa b n).imp (λh=>bI.2 (.inl h)) id⟩;have o:m.fh=false:=by simpa using o
   rw [Lp o] at hk;obtain ⟨aj,ak⟩:=ai7 o l;have X:eH (m::d) (g::c)=eH d c:=by simp [eH,o]
   have ai:bX (g'::f)=bX f:=by rw [FB,aj];rfl
   rw [X] at u C|-;rw [ai] at U C O|-;exact am q vs xs c f ds k r e.2 ak (by simpa [o7,o] using W) u U C O hk
  |[],_,_,_,_,e,_=>exact e.elim
  |_::_,[],_,_,_,e,_=>exact e.elim
  |_::_,_::_,[],_,_,e,_=>exact e.elim
  |_::_,_::_,_::_,[],_,e,_=>exact e.elim
  |_::_,_::_,_::_,_::_,[],_,l=>exact l.elim
theorem aga (h:aC F G s a w) (ai:fc P E) (a9:E.nt=F.nt) {f:Nat} {vs:List TV} {xs:List Value} (ap:dq (ay s.box G) w F.R vs xs) {dst:Option Nat} {k:St->Option Z} {r:Z}
 (aj:∀d,dst=some d->d<E.nt) (hk:i0 E s f vs dst k=some r):
 tr P f xs.toArray w λe w'=>match e with
  | .returned v=>cf F k r (a.put dst v) w'
  |_=>False:=by
 unfold i0 at hk;split at hk;split at hk;cases hk;rename_i I az;refine (ai.inl f _ I az Z F G s a w vs xs _ r h ap hk).mono λe w' al=>?_
 cases e with
 |returned v=>
  obtain ⟨ad,aK,tv,ag,aL,k'⟩:=al;cases dst with
  |none=>exact ⟨ad,aK,ag,k'⟩
  |some d=>exact ⟨ad,_,ag.put (by simp_all) aL,k'⟩
 |_=>exact al.elim
 rename_i c a3;have aa:=ai.fn f _ c a3;obtain ⟨ae,ar,aM,aP,aw,am,n,A0⟩:=ala _ _ _ _ _ _ _ h ap hk;have aB:=ak5 _ _ _ _ _ am;obtain ⟨G1,s1,aN,aQ,o,a6,u,ac,_,B,N⟩:=ak7 n.rel _ _ _ _ _ _ A0 am;obtain ⟨ds,W,a1⟩:=aip u.rel _ _ _ _ _ _ _ ac a6;rw [aa.MS] at W;split at W;cases W;rename_i aJ aq a5;have bQ:∀b∈bX o,¬F.R b/\b<w.heap.size/\(b∈F.M\/F.w0.heap.size<=b):=λb g=>by
  rcases (B b).1 g with g|g
  exact u.bQ b g;exact n.bQ b g
 have a4:∀b∈bX aw,b∉eH c.params o:=λb g a2=>by
  obtain ⟨i,x,C,l⟩:=u.jt b a2;exact n.out b g i x C l
 have aD:xN w (RR F G1 s1) c ds xs o:=by
  refine ⟨a1,N n.b5 a4,λb g=>⟨?_,(bQ b g).2.1⟩,?_⟩;rintro (J|⟨i,x,C,l⟩);exact (bQ b g).1 J;rcases (B b).1 g with g|g
  exact u.out b g i x C l;obtain ⟨aG,x',aE,ab⟩:=u.eZ.sub i x C b l;exact n.out b g aG x' aE ab;rintro b (J|⟨i,x,C,l⟩);exact h.ph J;exact (u.rel.bQ i x C b l).2.1
 refine (aa.Vj w _ ds xs o aJ aq aD a5).mono λe w' ak=>?_
 cases e with
 |returned v=>
  obtain ⟨ah,X,D⟩:=ak;have a8:∀b,F.R b->b∉bX o:=λb g l=>(bQ b l).1 g
  have J:∀b,F.R b->w'.heap[b]?=w.heap[b]?:=λb g=>D.bT b (h.ph g) (a8 b g)
  have a0:∀U,U<F.w0.heap.size->U∉F.M->w'.heap[U]?=w.heap[U]?:=λb g l=>D.bT b (kO g h.size) (λab=>by
   grind)
  have ax:∀j z,ar.box j=some z->∀b∈(ae j).af,b∉eH c.params o->w'.heap[b]?=w.heap[b]?:=λj z K b g a7=>D.bT b (n.rel.bQ j z K b g).2.1 (λl=>by
   rcases (B b).1 l with q|q
   exact a7 q;exact n.out b q j z K g)
  have an:=cF.1 D.b5;have ao:∀b∈FT.bo ah++bX X,¬F.R b/\b<w'.heap.size/\(b∈F.M\/F.w0.heap.size<=b):=λb g=>by
   obtain ⟨aI,O⟩:=D.bQ b g
   grind
  have aA:∀b∈FT.bo ah++bX X,b∈eH c.params o\/∀j z,ar.box j=some z->b∉(ae j).af:=λb g=>by
   obtain ⟨aI,O⟩:=D.bQ b g;rcases O with O|O
   exact ((B b).1 O).imp id λq j z K=>n.out b q j z K
   grind
  obtain ⟨aO,s2,aH,au,av⟩:=afL n.rel D.fQ J a0 c.params aM aN xs o X aq _ r ac D.ai8 aB ax an.2.1 (λb g=>aA b (bI.2 (.inr g))) (λb g=>ao b (bI.2 (.inr g))) W;refine alE au a9 (λd aj=>aa.cC _ ?_) D.ek an.1 (λb g j y aF l=>?_) (λb g=>ao b (bI.2 (.inl g))) aj aH;have:=D.types
  grind
  rcases av j y aF b l with q|⟨q,i,z,K,ab⟩
  grind
  grind
 |_=>exact ak.elim
end
section
variable {Z:Type} {P:Program} {E:an} {F:Fr} {G:Nat->Gh} {s:St} {a:Act} {w w2:World} {Q:Exit->Act->World->Prop}
theorem dq.tD {A:b0} {R:Nat->Prop}:∀(vs b:List TV) (xs c:List Value),dq A w R vs xs->dq A w R b c->dq A w R (vs++b) (xs++c)
 |[],_,[],_,_,h=>h
 |_::vs,b,_::xs,c,h,d=>⟨h.1,dq.tD vs b xs c h.2 d⟩
 |[],_,_::_,_,h,_=>h.elim
 |_::_,_,[],_,h,_=>h.elim
theorem dq.k8 (h:aC F G s a w):∀(l:List Operand),dq (ay s.box G) w F.R (l.map s.ev) (l.map a.eval)
 |[]=>trivial
 |x::l=>⟨cu h x,dq.k8 h l⟩
def agc (h:aC F G s a w) (x:df P E F) (y:fc P E) {o:Oper} {c:Call} {g:Operand} (n:o.op=.call c) (j:c.callee=.value g) (C:∀d,o.dst=some d->d<E.nt) {k:St->Option Z} {r:Z} (hk:a8 E o s k=some r):
 o.wp P a w (cf F k r) Q:=by
 unfold a8 at hk;rw [n] at hk;simp only [j] at hk;split at hk;rename_i f u D;split at hk;rename_i l I;have q:=cu h g;rw [D] at q;obtain ⟨vs,K,b⟩:=q.b1 (by simp) (by simp) rfl;have b:=(hr b).1;rcases aga h y x.nt (dq.tD _ _ _ _ (dq.k8 h c.args.toList) (Vk u vs l K I)) C hk with ⟨W,z⟩|⟨v,w',X,J⟩
 have e:(execOp a.eval o).run P w=.ok (.enter f (c.args.toList.map a.eval++vs).toArray) w:=by
  unfold execOp;rw [n];simp only [resolve,j,b,Deferred.ofValue,Sem.run_bind,Sem.run_pure,Result.andThen_ok,invoke];simp_all
 unfold Oper.wp;rw [e,Oper.upon_enter];refine z.mono λe w' U=>?_
 grind
 have O:(c.args.map a.eval)++vs.toArray=(c.args.toList.map a.eval++vs).toArray:=by
  simp_all
 refine c1 (v:=v) (w':=w') ?_ J;unfold execOp;rw [n];simp only [resolve,j,b,Deferred.ofValue,Sem.run_bind,Sem.run_pure,Result.andThen_ok,invoke]
 grind
 cases hk;cases hk
end
section
variable {Z:Type} {P:Program} {E:an} {F:Fr} {G:Nat->Gh} {s:St} {a:Act} {w w2:World} {Q:Exit->Act->World->Prop}
def Xd (h:aC F G s a w) (j:df P E F) (z:fc P E) {o:Oper} (l:∀d,o.dst=some d->d<E.nt) (C:∀t x y,o.op=.store t x y->o.dst=none) {k:St->Option Z} {r:Z} (hk:a8 E o s k=some r):
 o.wp P a w (cf F k r) Q:=by
 cases e:o.op with
 |move x=>exact WX h j (.inl e) l hk
 |assign x=>exact WX h j (.inr e) l hk
 |pick c x y=>exact alc h j e l hk
 |alloc t=>exact afC h j e l hk
 |box t x=>exact af2 h j e l hk
 |build t D=>exact af6 h j e l hk
 |buildSlice t n D=>exact af5 h j e l hk
 |load t x=>exact aiE h j e l hk
 |store t x y=>exact apt h j e (C _ _ _ e) hk
 |nilCheck x=>exact ajk h j e l hk
 |binOp op t x y J=>exact af0 h j e l hk
 |unOp op t x=>exact apX h j e l hk
 |convert t u x=>exact agv h j e l hk
 |makeSlice t n c=>exact aiK h j e l hk
 |slice t x lo hi I=>exact aoZ h j e l hk
 |makeMap t n=>exact aiJ h j e l hk
 |lookup t m x ok=>exact aiG h j e l hk
 |mapUpdate t m x v=>exact aiP h j e hk
 |fieldAddr t x n=>exact aha h j e l hk
 |field t x n=>exact ahb h j e l hk
 |indexAddr t x y=>exact ahW h j e l hk
 |index t x y=>exact ahX h j e l hk
 |extract x n=>exact VJ h j e l hk
 |makeFunc f x y=>exact aiI h j e l hk
 |call c=>
  cases q:c.callee with
  |value g=>exact agc h j z e q l hk
  |builtin b=>
   cases b with
   |len=>exact aim h j e q l hk
   |append=>exact afF h j e q l hk
   |min=>exact aiX h j e q l hk
   |max=>exact aiU h j e q l hk
   |_=>unfold a8 at hk;rw [e] at hk;simp [q,builtinK] at hk
  |invoke x n=>unfold a8 at hk;simp_all
 |_=>unfold a8 at hk;simp_all
theorem yT (f:df P E F) (g:fc P E):QQ Z P E F:=by
 intro G s a w Q o k r h hk;unfold dF at hk;split at hk;rename_i d c;split at hk;rename_i n;have q:d<E.nt:=by simp_all
 have j:∀b,o.dst=some b->b<E.nt:=λb e=>by simp_all
 split at hk;cases hk;rename_i l;exact Xd h f g j (λt x y e=>absurd e (l t x y)) hk;cases hk;rename_i c;exact Xd h f g (λb e=>by rw [c] at e;cases e) (λ_ _ _ _=>c) hk
end
section
variable {Z Y:Type} {E:an}
def Ag (s t:St) (v:TV):Prop:=∀b∈v.aK,∀y,t.box b=some y->s.box b=some y
theorem jK {t:St} {b:Nat} {k:bm->Option Z} {r:Z} (h:b6 t b k=some r):∃y,k y=some r/\t.box b=some y/\
 ∀(s:St),(∀y,t.box b=some y->s.box b=some y)->∀{Y:Type} (k':bm->Option Y),b6 s b k'=k' y:=by
 grind [b6]
def arL {a b:Ty} {x:a.ai} {k:b.ai->Option Z} {r:Z} (h:(match cI a b x with
 |some y=>k y
 |none=>none)=some r):∃y,k y=some r/\∀{Y:Type} (k':b.ai->Option Y),(match cI a b x with
 |some y=>k' y
 |none=>none)=k' y:=by
 grind
theorem ahG {c:TV} {n:Nat} {p:aN} {k:TV->Option Z} {r:Z} (h:qx c n p k=some r):∃y,k y=some r/\∀{Y:Type} (k':TV->Option Y),qx c n p k'=k' y:=by
 unfold qx at h;split at h;rotate_left;cases h;rename_i t xs b;split at h;rotate_left;cases h
 grind [tZ,qx]
def oW:∀(c:TV) (p:aN) (k:TV->Option Z) (r:Z),dC c p k=some r->∃y,k y=some r/\∀{Y:Type} (k':TV->Option Y),dC c p k'=k' y:=by
 have b:∀(c:TV) (k:TV->Option Z) (r:Z),dC c [] k=some r->∃y,k y=some r/\∀{Y:Type} (k':TV->Option Y),dC c [] k'=k' y:=by
  grind [dC]
 intro c
 induction c with
 |ab t x=>
  intro p k r h;cases p with
  |nil=>exact b _ _ _ h
  |cons s p=>
   grind [dC,tZ]
 |ad t x=>
  intro p k r h;cases p with
  |nil=>exact b _ _ _ h
  |cons s p=>
   grind [dC,tZ]
 |cons a d e g=>
  intro p k r h
  match p,h with
  |[],h=>exact b _ _ _ h
  | .i n::p,h=>simp [dC] at h
  | .f 0::p,h=>
   grind [dC]
  | .f (n+1)::p,h=>
   grind [dC]
 |tup c _=>
  intro p k r h
  match p,h with
  |[],h=>exact b _ _ _ h
  | .f n::p,h=>cases n<;>simp [dC] at h
  | .i n::p,h=>
   grind [ahG,dC]
 |_=>
  grind [dC]
theorem Ot {t:St} {T:Ty} {v:TV} {k:List T.ai->Option Z} {r:Z} (h:hp t T v k=some r):
 ∃xs,k xs=some r/\∀(s:St),Ag s t v->∀{Y:Type} (k':List T.ai->Option Y),hp s T v k'=k' xs:=by
 cases v with
 |nil=>exact ⟨[],h,λs e Y k'=>rfl⟩
 |ad u x=>
  grind [hp]
 |sl b p=>
  simp only [hp] at h;obtain ⟨x,j,_,g⟩:=jK h;obtain ⟨c,d,h4⟩:=oW _ _ _ _ j;split at d;rename_i u y;split at d;rename_i z f;exact ⟨z,d,λs e Y k'=>by simp only [hp];rw [g s (e _ (by simp [TV.aK])),h4];simp only [f]⟩;cases d;rename_i u y;split at d;rename_i z f;exact ⟨z,d,λs e Y k'=>by simp only [hp];rw [g s (e _ (by simp [TV.aK])),h4];simp only [f]⟩;cases d;cases d
 |slw b p lo n=>
  simp only [hp] at h;obtain ⟨x,j,_,g⟩:=jK h;obtain ⟨c,d,h4⟩:=oW _ _ _ _ j;split at d;rename_i u y;split at d;rename_i z f;exact ⟨_,d,λs e Y k'=>by simp only [hp];rw [g s (e _ (by simp [TV.aK])),h4];simp only [f]⟩;cases d;cases d
 |_=>simp [hp] at h
theorem MT {t:St} {v:TV} {k:Nat->Option Z} {r:Z} (h:jx t v k=some r):
 ∃n,k n=some r/\∀(s:St),Ag s t v->∀{Y:Type} (k':Nat->Option Y),jx s v k'=k' n:=by
 cases v with
 |nil=>exact ⟨0,h,λs e Y k'=>rfl⟩
 |ad u x=>
  cases u with
  |slice u=>exact ⟨_,h,λs e Y k'=>rfl⟩
  |_=>simp [jx] at h
 |sl b p=>
  simp only [jx] at h;obtain ⟨x,g,_,f⟩:=jK h;obtain ⟨c,d,h4⟩:=oW _ _ _ _ g;split at d;exact ⟨_,d,λs e Y k'=>by simp only [jx];rw [f s (e _ (by simp [TV.aK])),h4]⟩;unfold Ws at d;split at d;exact ⟨_,d,λs e Y k'=>by simp only [jx];rw [f s (e _ (by simp [TV.aK])),h4];rfl⟩;cases d;cases d
 |slw b p lo n=>exact ⟨n,h,λs e Y k'=>rfl⟩
 |_=>simp [jx] at h
theorem Ag.fst {s t:St} {a d:TV} (h:Ag s t (.cons a d)):Ag s t a:=λb c=>h b (by simp [TV.aK,c])
theorem Ag.snd {s t:St} {a d:TV} (h:Ag s t (.cons a d)):Ag s t d:=λb c=>h b (by simp [TV.aK,c])
theorem N2 {t:St}:∀(T:Ty) (v:TV) (k:T.ai->Option Z) (r:Z),dV t T v k=some r->∃x,k x=some r/\∀(s:St),Ag s t v->∀{Y:Type} (k':T.ai->Option Y),dV s T v k'=k' x:=by
 have ad:∀(T u:Ty) (x:u.ai) (k:T.ai->Option Z) (r:Z),(∀{Y:Type} (w:St) (k:T.ai->Option Y),dV w T (.ad u x) k=match cI u T x with
  |some y=>k y
  |none=>none)->dV t T (.ad u x) k=some r->∃c,k c=some r/\∀(s:St),Ag s t (.ad u x)->∀{Y:Type} (k':T.ai->Option Y),dV s T (.ad u x) k'=k' c:=by
  grind
 intro T
 induction T with
 |slice T _=>
  grind [dV,Ot]
 |cons T U j l=>
  intro v k r h;cases v with
  |cons a d=>
   simp only [dV] at h;obtain ⟨x,e,f⟩:=j a _ r h;obtain ⟨y,g,h4⟩:=l d _ r e;exact ⟨(x,y),g,λs b Y k'=>by simp only [dV];rw [f s b.fst,h4 s b.snd]⟩
  |ad u x=>exact ad _ u x k r (λw k=>rfl) h
  |_=>simp [dV] at h
 |unit=>
  intro v k r h;cases v with
  |unit=>exact ⟨(),h,λs b Y k'=>rfl⟩
  |ad u x=>exact ad _ u x k r (λw k=>rfl) h
  |_=>simp [dV] at h
 |_=>
  intro v k r h;cases v with
  |ad u x=>exact ad _ u x k r (λw k=>rfl) h
  |_=>simp [dV] at h
def ags:∀(T:Ty) (v:TV) (k:T.ai->Option Z) (r:Z),eQ T v k=some r->∃x,k x=some r/\∀{Y:Type} (k':T.ai->Option Y),eQ T v k'=k' x:=by
 have ad:∀(T u:Ty) (x:u.ai) (c:TV) (k:T.ai->Option Z) (r:Z),(∀{Y:Type} (k:T.ai->Option Y),eQ T c k=match cI u T x with
  |some y=>k y
  |none=>none)->eQ T c k=some r->∃b,k b=some r/\∀{Y:Type} (k':T.ai->Option Y),eQ T c k'=k' b:=by
  grind
 intro T
 induction T with
 |slice T _=>
  intro v k r h;cases v with
  |ab u x=>exact ad _ u x _ k r (λk=>rfl) h
  |ad u x=>exact ad _ u x _ k r (λk=>rfl) h
  |nil=>exact ⟨[],h,λk'=>rfl⟩
  |_=>simp [eQ] at h
 |cons T U e f=>
  intro v k r h;cases v with
  |ab u x=>exact ad _ u x _ k r (λk=>rfl) h
  |ad u x=>exact ad _ u x _ k r (λk=>rfl) h
  |cons a d=>
   grind [eQ]
  |_=>simp [eQ] at h
 |unit=>
  intro v k r h;cases v with
  |ab u x=>exact ad _ u x _ k r (λk=>rfl) h
  |ad u x=>exact ad _ u x _ k r (λk=>rfl) h
  |unit=>exact ⟨(),h,λk'=>rfl⟩
  |_=>simp [eQ] at h
 |_=>
  intro v k r h;cases v with
  |ab u x=>exact ad _ u x _ k r (λk=>rfl) h
  |ad u x=>exact ad _ u x _ k r (λk=>rfl) h
  |_=>simp [eQ] at h
theorem ql {v:TV} {k:IntKind->Int->Option Z} {r:Z} (h:asInt v k=some r):∃b n,v=.ad (.int b) n/\k b n=some r:=by
 unfold asInt at h
 grind
theorem ub {n:Nat} {i:Int} {k:Nat->Option Z} {r:Z} (h:eh n i k=some r):∃m,k m=some r/\∀{Y:Type} (k':Nat->Option Y),eh n i k'=k' m:=by
 unfold eh at h;split at h
 grind [eh]
 cases h
theorem Vs {op:BinOp} {b:IntKind} {x y:Int} {k:TV->Option Z} {r:Z} (h:jW op b x y k=some r):∃v,k v=some r/\∀{Y:Type} (k':TV->Option Y),jW op b x y k'=k' v:=by
 unfold jW at h|-;split at h
 all_goals first
  |exact ⟨_,h,λk'=>rfl⟩
  |(split at h<;>first|grind|cases h|(rename_i c;exact ⟨_,h,λk'=>by simp only [c]⟩))
  |skip
theorem afY {op:BinOp} {T:Option Ty} {a b:TV} {k:TV->Option Z} {r:Z} (h:tE op T a b k=some r):∃v,k v=some r/\∀{Y:Type} (k':TV->Option Y),tE op T a b k'=k' v:=by
 unfold tE at h|-;split at h
 grind [Vs]
 all_goals grind
end
section
variable {Z Y:Type} {E:an}
def St.step (s:St) (dst:Option Nat) (v:TV) (new:List (Nat×bm)):St:=
 match dst with
 |some d=>{s with tmps:=(d,v)::s.tmps,cg:=new++s.cg}
 |none=>{s with cg:=new++s.cg}
theorem Gz (o:Oper) (s:St) (k:St->Option Z) (v:TV):dj o s k v=k (s.step o.dst v []):=by
 unfold dj St.step;cases o.dst<;>rfl
def oq (E:an) (o:Oper) (t:St) (v:TV) (new:List (Nat×bm)):Prop:=
 (∀x∈new,∃d,o.dst=some d/\x.1/32=d/\t.box x.1=none)/\
 ∀(s:St),(∀x∈o.op.operands.toList,s.ev x=t.ev x/\Ag s t (t.ev x))->(∀x∈new,s.box x.1=none)->∀{Y:Type} (k:St->Option Y),a8 E o s k=k (s.step o.dst v new)
theorem jf {t:Nat} {k:Ty->Option Z} {r:Z} (h:dW E t k=some r):∃T,k T=some r/\∀{Y:Type} (k':Ty->Option Y),dW E t k'=k' T:=by
 unfold dW at h;split at h;rename_i T b;exact ⟨T,h,λk'=>by unfold dW;rw [b]⟩;cases h
theorem aiD {t:St} {T:Ty} {a:TV} {k:TV->Option Z} {r:Z} (h:kx t T a k=some r):∃v,k v=some r/\∀(s:St),Ag s t a->∀{Y:Type} (k':TV->Option Y),kx s T a k'=k' v:=by
 cases a with
 |ref b p=>
  simp only [kx] at h;obtain ⟨x,d,_,g⟩:=jK h;split at d;rename_i e;obtain ⟨c,j,h4⟩:=oW _ _ _ _ d;exact ⟨_,j,λs f Y k'=>by simp only [kx];rw [g s (f _ (by simp [TV.aK])),aE e,h4]⟩;cases d
 |bt u x=>
  simp only [kx] at h;split at h;rename_i e;exact ⟨_,h,λs f Y k'=>by simp only [kx];rw [aE e]⟩;cases h
 |_=>simp [kx] at h
theorem ahV {t:St} {T:Ty} {x i:TV} {k:TV->Option Z} {r:Z} (h:nh t T x i k=some r):∃v,k v=some r/\∀(s:St),Ag s t x->∀{Y:Type} (k':TV->Option Y),nh s T x i k'=k' v:=by
 unfold nh at h;obtain ⟨y,n,rfl,d⟩:=ql h;clear h;cases x with
 |ad u xs=>
  cases u with
  |slice u=>
   simp only at d;split at d;rename_i f;split at d;rename_i a q;exact ⟨_,d,λs e Y k'=>by simp only [nh,asInt];simp_all⟩;cases d;cases d
  |_=>simp at d
 |sl b p=>
  simp only at d;obtain ⟨x,c,_,g⟩:=jK d;split at c;rename_i f;obtain ⟨m,l,h4⟩:=MT c;obtain ⟨j,h5,h6⟩:=ub l;exact ⟨_,h5,λs e Y k'=>by simp only [nh,asInt];rw [g s (e _ (by simp [TV.aK])),aE f,h4 s e,h6]⟩;cases c
 |slw b p lo n=>
  simp only at d;obtain ⟨x,c,_,g⟩:=jK d;split at c;rename_i f;obtain ⟨j,h5,h6⟩:=ub c;exact ⟨_,h5,λs e Y k'=>by simp only [nh,asInt];rw [g s (e _ (by simp [TV.aK])),aE f,h6]⟩;cases c
 |ref b p=>
  simp only at d;obtain ⟨x,c,_,g⟩:=jK d;split at c;rename_i f;split at c;split at c;cases c;rename_i o;obtain ⟨j,h5,h6⟩:=ub c;exact ⟨_,h5,λs e Y k'=>by simp only [nh,asInt];rw [g s (e _ (by simp [TV.aK])),aE f,av o,h6]⟩;cases c;cases c
 |_=>simp at d
def Tz {n:Nat} {lo hi:Option TV} {k:Nat->Nat->Option Z} {r:Z} (h:lZ n lo hi k=some r):∃l g,k l g=some r/\∀{Y:Type} (k':Nat->Nat->Option Y),lZ n lo hi k'=k' l g:=by
 unfold lZ at h;split at h;split at h;exact ⟨_,_,h,λk'=>rfl⟩;obtain ⟨d,m,rfl,b⟩:=ql h;obtain ⟨j,h5,h6⟩:=ub b;exact ⟨_,_,h5,λk'=>by simp only [lZ,asInt];rw [h6]⟩;obtain ⟨d,m,rfl,b⟩:=ql h;obtain ⟨j,h5,h6⟩:=ub b;split at h5;exact ⟨_,_,h5,λk'=>by simp only [lZ,asInt];rw [h6]⟩;obtain ⟨f,o,rfl,c⟩:=ql h5;obtain ⟨e,h8,h9⟩:=ub c;exact ⟨_,_,h8,λk'=>by simp only [lZ,asInt];rw [h6,h9]⟩
theorem aoY {t:St} {T:Ty} {x:TV} {lo hi:Option TV} {k:TV->Option Z} {r:Z} (h:j6 t T x lo hi k=some r):∃v,k v=some r/\∀(s:St),Ag s t x->∀{Y:Type} (k':TV->Option Y),j6 s T x lo hi k'=k' v:=by
 cases T with
 |bR=>
  simp only [j6] at h;split at h;obtain ⟨l,g,j,e⟩:=Tz h;exact ⟨_,j,λs c Y k'=>by simp only [j6];rw [e]⟩;cases h
 |slice T=>
  simp only [j6] at h;obtain ⟨n,j,e⟩:=MT h;obtain ⟨l,g,d,h4⟩:=Tz j;cases x with
  |ad u xs=>
   cases u with
   |slice u=>
    simp only at d;split at d;rename_i f;exact ⟨_,d,λs c Y k'=>by simp only [j6];simp_all⟩;cases d
   |_=>simp at d
  |sl b p=>
   simp only at d;obtain ⟨y,h5,_,h6⟩:=jK d;split at h5;rename_i f;split at h5;rename_i o;exact ⟨_,h5,λs c Y k'=>by simp only [j6];rw [e s c,h4,h6 s (c _ (by simp [TV.aK])),aE f,o]⟩;rename_i o;exact ⟨_,h5,λs c Y k'=>by simp only [j6];rw [e s c,h4,h6 s (c _ (by simp [TV.aK])),aE f,o]⟩;cases h5
  |slw b p q z=>
   simp only at d;obtain ⟨y,h5,_,h6⟩:=jK d;split at h5;rename_i f;exact ⟨_,h5,λs c Y k'=>by simp only [j6];rw [e s c,h4,h6 s (c _ (by simp [TV.aK])),aE f]⟩;cases h5
  |nil=>exact ⟨_,d,λs c Y k'=>by simp only [j6];rw [e s c,h4]⟩
  |_=>simp at d
 |_=>simp [j6] at h
theorem af3 {t:St}:∀(T:Ty) (n:Nat) (f:List (Nat×Operand)) (k:TV->Option Z) (r:Z),hb t T n f k=some r->
 ∃v,k v=some r/\(∀b∈v.aK,∃x∈f,b∈(t.ev x.2).aK)/\∀(s:St),(∀x∈f,s.ev x.2=t.ev x.2)->∀{Y:Type} (k':TV->Option Y),hb s T n f k'=k' v:=by
 have u:∀T:Ty,(mD T).aK=[]:=by
  intro T
  induction T with
  |cons a d y z=>simp only [mD,TV.aK,y,z];rfl
  |_=>rfl
 intro T
 induction T with
 |cons T U _ q=>
  intro n f k r h
  match f,h with
  |[],h=>
   simp only [hb] at h;obtain ⟨v,j,l,o⟩:=q _ _ _ r h;refine ⟨_,j,λb c=>?_,λs g Y k'=>by simp only [hb];rw [o s g]⟩;simp only [TV.aK,u,el] at c;exact l b c
  |(i,x)::f,h=>
   simp only [hb] at h;split at h;rename_i hi;split at h;rename_i C;obtain ⟨v,j,l,o⟩:=q _ _ _ r h;refine ⟨_,j,λb c=>?_,λs g Y k'=>by have e:=g (i,x) (by simp);simp only at e;simp only [hb,hi];grind⟩;simp only [TV.aK,bI] at c;rcases c with c|c
   simp_all;simp_all;cases h;rename_i hi;obtain ⟨v,j,l,o⟩:=q _ _ _ r h;refine ⟨_,j,λb c=>?_,λs g Y k'=>by simp only [hb,hi];rw [o s g]⟩;simp only [TV.aK,u,el] at c;exact l b c
 |unit=>
  intro n f k r h
  match f,h with
  |[],h=>exact ⟨_,h,λb c=>by simp [TV.aK] at c,λs g Y k'=>rfl⟩
  |_::_,h=>simp [hb] at h
 |_=>intro n f k r h;simp [hb] at h
theorem FV {α:Type} (l m:List (Nat×α)) (n:Nat):lk (l++m) n=(lk l n).or (lk m n):=by
 induction l with
 |nil=>rfl
 |cons x l b=>
  obtain ⟨k,v⟩:=x;rw [kL,gr,gr,b];split<;>rfl
theorem o5 {α:Type} {l:List (Nat×α)} {n:Nat} (h:∀x∈l,x.1≠n):lk l n=none:=by
 induction l with
 |nil=>rfl
 |cons x l c=>
  obtain ⟨k,v⟩:=x;rw [gr,av (h (k,v) (by simp)),c (λy b=>h y (by simp [b]))]
theorem yQ {t:St} {id:Nat} {x:bm} {k:St->Option Z} {r:Z} (h:j1 t id x k=some r):
 id%32≠0/\t.box id=none/\k {t with cg:=(id,x)::t.cg}=some r/\∀(s:St),s.box id=none->∀{Y:Type} (k':St->Option Y),j1 s id x k'=k' {s with cg:=(id,x)::s.cg}:=by
 unfold j1 at h;split at h;cases h;rename_i b;have c:id%32≠0:=by
  intro e;simp_all
 split at h;cases h;rename_i d;exact ⟨c,d,h,λs f Y k'=>by unfold j1;rw [b];simp only [f]⟩
end
section
variable {Z Y:Type} {E:an}
def Jg (o:Oper) (s t:St):Prop:=∀x∈o.op.operands.toList,s.ev x=t.ev x/\Ag s t (t.ev x)
theorem fi {q:Bool} {o:Oper} {t:St} {k:St->Option Z} {r:Z} {v:TV} (h:dj o t k v=some r)
 (c:∀(s:St),Jg o s t->∀{Y:Type} (k':St->Option Y),a8 E o s k'=dj o s k' v):
 ∃v new,k (t.step o.dst v new)=some r/\oq E o t v new/\(q=false->new=[]):=
 ⟨v,[],by rw [Gz] at h;exact h,⟨λx d=>(by cases d),λs b _ Y k'=>by rw [c s b,Gz]⟩,λ_=>rfl⟩
theorem Gc {d:Nat} {T:Ty} {xs:List T.ai} {t:St} {k:St->Option Z} {r:Z} {o:Nat} (h:lh t o d T xs k=some r):
 ∃v new,k (t.step (some d) v new)=some r/\(∀x∈new,∃b,some d=some b/\x.1/32=b/\t.box x.1=none)/\∀(s:St),(∀x∈new,s.box x.1=none)->∀{Y:Type} (k':St->Option Y),lh s o d T xs k'=k' (s.step (some d) v new):=by
 unfold lh at h;obtain ⟨j,e,f,h4⟩:=yQ h;refine ⟨.sl (er o d) [],[(er o d,⟨.slice T,true,false,.ab (.slice T) xs⟩)],f,λx c=>?_,λs g Y k'=>?_⟩;simp only [gD] at c;subst c;exact ⟨d,rfl,by show (d*32+o%32)/32=d;omega,e⟩;unfold lh;rw [h4 s (g _ (gD.2 rfl))];rfl
theorem W5 {d:Nat} {T:Ty} {c:TV} {t:St} {k:St->Option Z} {r:Z} {o:Nat} (h:newVar t o d T c k=some r):
 ∃v new,k (t.step (some d) v new)=some r/\(∀x∈new,∃b,some d=some b/\x.1/32=b/\t.box x.1=none)/\∀(s:St),(∀x∈new,s.box x.1=none)->∀{Y:Type} (k':St->Option Y),newVar s o d T c k'=k' (s.step (some d) v new):=by
 unfold newVar at h;obtain ⟨l,f,g,h4⟩:=yQ h;refine ⟨.ref (er o d) [],[(er o d,⟨T,false,false,c⟩)],g,λx e=>?_,λs j Y k'=>?_⟩;simp only [gD] at e;subst e;exact ⟨d,rfl,by show (d*32+o%32)/32=d;omega,f⟩;unfold newVar;rw [h4 s (j _ (gD.2 rfl))];rfl
theorem W3 {d:Nat} {T:Ty} {xs:List T.ai} {t:St} {k:St->Option Z} {r:Z} {o:Nat} (h:qM t o d T xs k=some r):
 ∃v new,k (t.step (some d) v new)=some r/\(∀x∈new,∃b,some d=some b/\x.1/32=b/\t.box x.1=none)/\∀(s:St),(∀x∈new,s.box x.1=none)->∀{Y:Type} (k':St->Option Y),qM s o d T xs k'=k' (s.step (some d) v new):=by
 unfold qM at h;obtain ⟨j,e,f,h4⟩:=yQ h;refine ⟨.sl (er o d) [],[(er o d,⟨.slice T,true,false,.tup (.ad (.slice T) xs)⟩)],f,λx c=>?_,λs g Y k'=>?_⟩;simp only [gD] at c;subst c;exact ⟨d,rfl,by show (d*32+o%32)/32=d;omega,e⟩;unfold qM;rw [h4 s (g _ (gD.2 rfl))];rfl
theorem WR {K:Ty} {c:TV} {k:List (K.ai×Int×Unit)->Option Z} {r:Z} (h:ib K c k=some r):∃xs,k xs=some r/\∀{Y:Type} (k':List (K.ai×Int×Unit)->Option Y),ib K c k'=k' xs:=by
 unfold ib at h
 grind [ib]
theorem aia {K:Ty} {v:TV} {k:K.ai->Option Z} {r:Z} (h:jY K v k=some r):∃x,k x=some r/\∀{Y:Type} (k':K.ai->Option Y),jY K v k'=k' x:=by
 unfold jY at h
 grind [jY]
theorem dh {o:Oper} {op:Op} (b:o.op=op) {x:Operand} (c:x∈op.operands.toList):x∈o.op.operands.toList:=by rw [b];exact c
theorem Xc {o:Oper} (ae:qV o.op=true) {t:St} {k:St->Option Z} {r:Z} (h:a8 E o t k=some r):
 ∃v new,k (t.step o.dst v new)=some r/\oq E o t v new/\(Nl o.op=false->new=[]):=by
 generalize am:Nl o.op=q;cases f:o.op with
 |move x=>
  have m:x∈o.op.operands.toList:=dh f (by simp [Op.operands]);have e:∀{Y:Type} (s:St) (k:St->Option Y),a8 E o s k=dj o s k (s.ev x):=by intro Y s k;unfold a8;rw [f]
  rw [e] at h;exact fi h λs g Y k'=>by rw [e,(g x m).1]
 |assign x=>
  have m:x∈o.op.operands.toList:=dh f (by simp [Op.operands]);have e:∀{Y:Type} (s:St) (k:St->Option Y),a8 E o s k=dj o s k (s.ev x):=by intro Y s k;unfold a8;rw [f]
  rw [e] at h;exact fi h λs g Y k'=>by rw [e,(g x m).1]
 |pick c x y=>
  have ap:c∈o.op.operands.toList:=dh f (by simp [Op.operands]);have O:x∈o.op.operands.toList:=dh f (by simp [Op.operands]);have ah:y∈o.op.operands.toList:=dh f (by simp [Op.operands]);unfold a8 at h;rw [f] at h;simp only at h;split at h;rename_i b ad;split at h;exact fi h λs g Y k'=>by unfold a8;rw [f];simp only [(g c ap).1,(g x O).1,ad]
  exact fi h λs g Y k'=>by unfold a8;rw [f];simp only [(g c ap).1,(g y ah).1,ad]
  cases h
 |load T x=>
  have m:x∈o.op.operands.toList:=dh f (by simp [Op.operands]);unfold a8 at h;rw [f] at h;simp only at h;obtain ⟨U,l,C⟩:=jf h;obtain ⟨v,z,h4⟩:=aiD l;exact fi z λs g Y k'=>by unfold a8;rw [f];simp only;rw [C,(g x m).1,h4 s (g x m).2]
 |nilCheck x=>
  have m:x∈o.op.operands.toList:=dh f (by simp [Op.operands]);unfold a8 at h;rw [f] at h;simp only at h;split at h
  all_goals first
   |cases h
   |(rename_i D;exact fi h λs g Y k'=>by unfold a8;rw [f];simp only;rw [(g x m).1,D])
 |binOp op T x y U=>
  have O:x∈o.op.operands.toList:=dh f (by simp [Op.operands]);have ah:y∈o.op.operands.toList:=dh f (by simp [Op.operands]);unfold a8 at h;rw [f] at h;simp only at h;obtain ⟨v,z,h4⟩:=afY h;exact fi z λs g Y k'=>by unfold a8;rw [f];simp only;rw [(g x O).1,(g y ah).1,h4]
 |unOp op T x=>
  have m:x∈o.op.operands.toList:=dh f (by simp [Op.operands]);unfold a8 at h;rw [f] at h;simp only at h;split at h;rename_i D;exact fi h λs g Y k'=>by unfold a8;rw [f];simp only;rw [(g x m).1,D]
  rename_i D;obtain ⟨v,z,h4⟩:=Vs h;exact fi z λs g Y k'=>by unfold a8;rw [f];simp only;rw [(g x m).1,D];simp only;rw [h4]
  cases h
 |convert u T x=>
  have m:x∈o.op.operands.toList:=dh f (by simp [Op.operands]);unfold a8 at h;rw [f] at h;simp only at h;obtain ⟨U,l,C⟩:=jf h;obtain ⟨V,z,h4⟩:=jf l;split at z;rename_i D;exact fi z λs g Y k'=>by unfold a8;rw [f];simp only;rw [C,h4,(g x m).1,D]
  rename_i D;obtain ⟨v,h5,h6⟩:=Ot z;exact fi h5 λs g Y k'=>by
   unfold a8;rw [f];simp only;rw [C,h4,(g x m).1];exact h6 s (g x m).2 _
  cases z
 |slice T x lo hi O=>
  have m:x∈o.op.operands.toList:=dh f (by simp [Op.operands]);have a2:∀y,lo=some y->y∈o.op.operands.toList:=λy e=>dh f (by subst e;simp [Op.operands])
  have a1:∀y,hi=some y->y∈o.op.operands.toList:=λy e=>dh f (by subst e;simp [Op.operands])
  unfold a8 at h;rw [f] at h;simp only at h;split at h;obtain ⟨U,l,C⟩:=jf h;obtain ⟨v,z,h4⟩:=aoY l;exact fi z λs g Y k'=>by
   have aa:lo.map s.ev=lo.map t.ev:=by
    cases lo with
    |none=>rfl
    |some y=>simp only [dy];rw [(g y (a2 y rfl)).1]
   have ac:hi.map s.ev=hi.map t.ev:=by
    cases hi with
    |none=>rfl
    |some y=>simp only [dy];rw [(g y (a1 y rfl)).1]
   unfold a8;rw [f];simp only;rw [C,(g x m).1,aa,ac,h4 s (g x m).2]
  cases h
 |fieldAddr T x n=>
  have m:x∈o.op.operands.toList:=dh f (by simp [Op.operands]);unfold a8 at h;rw [f] at h;simp only at h;obtain ⟨U,l,C⟩:=jf h;split at l;rename_i b p D;obtain ⟨y,z,_,h4⟩:=jK l;split at z;rename_i I;split at z;rename_i ag;exact fi z λs g Y k'=>by
   have:=(g x m).2;rw [D] at this;unfold a8;rw [f];simp only;rw [C,(g x m).1,D];simp only;rw [h4 s (this b (by simp [TV.aK])),aE I,ag]
  cases z;cases z;rename_i D;split at l;rename_i I;obtain ⟨u,y,z,h4⟩:=tZ _ _ _ _ _ l;exact fi z λs g Y k'=>by
   unfold a8;rw [f];simp only;rw [C,(g x m).1,D];simp_all
  cases l;cases l
 |field T x n=>
  have m:x∈o.op.operands.toList:=dh f (by simp [Op.operands]);unfold a8 at h;rw [f] at h;simp only at h;obtain ⟨U,l,C⟩:=jf h;split at l;rename_i D;split at l;rename_i I;obtain ⟨u,y,z,h4⟩:=tZ _ _ _ _ _ l;exact fi z λs g Y k'=>by
   unfold a8;rw [f];simp only;rw [C,(g x m).1,D];simp_all
  cases l;cases l
 |indexAddr T x i=>
  have O:x∈o.op.operands.toList:=dh f (by simp [Op.operands]);have an:i∈o.op.operands.toList:=dh f (by simp [Op.operands]);unfold a8 at h;rw [f] at h;simp only at h;obtain ⟨U,l,C⟩:=jf h;obtain ⟨v,z,h4⟩:=ahV l;exact fi z λs g Y k'=>by unfold a8;rw [f];simp only;rw [C,(g x O).1,(g i an).1,h4 s (g x O).2]
 |index T x i=>
  have O:x∈o.op.operands.toList:=dh f (by simp [Op.operands]);have an:i∈o.op.operands.toList:=dh f (by simp [Op.operands]);unfold a8 at h;rw [f] at h;simp only at h;obtain ⟨U,l,C⟩:=jf h;obtain ⟨a0,n,z,h4⟩:=ql l;split at h4;rename_i D;split at h4;rename_i aq;exact fi h4 λs g Y k'=>by unfold a8;rw [f];simp only;rw [C,(g x O).1,(g i an).1,z];simp only [asInt];rw [D];simp only [aq]
  cases h4;rename_i D;split at h4;rename_i I;split at h4;rename_i aq;exact fi h4 λs g Y k'=>by unfold a8;rw [f];simp only;rw [C,(g x O).1,(g i an).1,z];simp only [asInt];simp_all
  cases h4;cases h4;cases h4
 |extract x n=>
  have m:x∈o.op.operands.toList:=dh f (by simp [Op.operands]);unfold a8 at h;rw [f] at h;simp only at h;split at h;rename_i D;split at h;rename_i J;exact fi h λs g Y k'=>by unfold a8;rw [f];simp only;rw [(g x m).1,D];simp only [J]
  cases h;cases h
 |build T a3=>
  have m:∀x∈a3.toList,x.2∈o.op.operands.toList:=λx X=>dh f (by
   simp only [Op.operands,zz]
   grind)
  unfold a8 at h;rw [f] at h;simp only at h;obtain ⟨U,l,C⟩:=jf h;split at l;split at l;rename_i I;obtain ⟨v,z,az,h4⟩:=af3 _ _ _ _ _ l;split at z;rename_i ag;obtain ⟨x,h5,h6⟩:=N2 _ _ _ _ z;exact fi h5 λs g Y k'=>by
   unfold a8;rw [f];simp only;rw [C];simp only;rw [aE I,h4 s (λx X=>(g x.2 (m x (Ng X))).1),aE ag,h6 s (λb ad=>by
    obtain ⟨x,X,ad⟩:=az b ad;exact (g x.2 (m x (Ng X))).2 b ad)]
  rename_i ag;exact fi z λs g Y k'=>by
   unfold a8;rw [f];simp only;rw [C];simp only;rw [aE I,h4 s (λx X=>(g x.2 (m x (Ng X))).1),av ag]
  cases l;split at l;rename_i al;exact fi l λs g Y k'=>by unfold a8;simp_all
  rename_i x y al;split at l;rename_i I;split at l;rename_i p q aa ac;have O:=m (0,x) (by rw [al];simp);have ah:=m (1,y) (by rw [al];simp);exact fi l λs g Y k'=>by
   unfold a8;rw [f];simp only;rw [C];simp only [al];rw [aE I,(g x O).1,(g y ah).1,aa,ac]
  cases l;cases l;cases l;cases l
 |alloc T=>
  unfold a8 at h;rw [f] at h;simp only at h;split at h;rotate_left;cases h;rename_i d W;obtain ⟨U,l,C⟩:=jf h;split at l;rename_i I;obtain ⟨v,new,aj,ak,au⟩:=W5 l;refine ⟨v,new,by rw [W];exact aj,⟨by rw [W];exact ak,λs g J Y k'=>?_⟩,λJ=>(by rw [<-am,f] at J;cases J)⟩;unfold a8;grind;rename_i I;split at l;obtain ⟨v,new,aj,ak,au⟩:=W5 l;refine ⟨v,new,by rw [W];exact aj,⟨by rw [W];exact ak,λs g J Y k'=>?_⟩,λJ=>(by rw [<-am,f] at J;cases J)⟩;unfold a8;grind;cases l
 |makeSlice T n c=>
  have a5:n∈o.op.operands.toList:=dh f (by simp [Op.operands]);have ap:c∈o.op.operands.toList:=dh f (by simp [Op.operands]);unfold a8 at h;rw [f] at h;simp only at h;split at h;rotate_left;cases h;rename_i d W;obtain ⟨U,l,C⟩:=jf h;split at l;obtain ⟨a0,(i:Int),aa,z⟩:=ql l;obtain ⟨a4,(j:Int),ac,h4⟩:=ql z
  match i,j,aa,ac,h4 with
  | .ofNat i,.ofNat j,aa,ac,h4=>
   simp only at h4;split at h4;rename_i I;obtain ⟨v,new,aj,ak,au⟩:=Gc h4;refine ⟨v,new,by rw [W];exact aj,⟨by rw [W];exact ak,λs g J Y k'=>?_⟩,λJ=>(by rw [<-am,f] at J;cases J)⟩
   grind [a8,asInt]
   cases h4
  | .negSucc _,_,_,_,h4=>cases h4
  | .ofNat _,.negSucc _,_,_,h4=>cases h4
  cases l
 |makeMap T n=>
  unfold a8 at h;rw [f] at h;simp only at h;split at h;rotate_left;cases h;rename_i d W;split at h;rotate_left;cases h;rename_i K af;obtain ⟨l,C,z,h4⟩:=yQ h;refine ⟨.mp (er E.fA d),[(er E.fA d,⟨.slice (eT K),true,false,.tup (.ab (.slice (eT K)) (show List (K.ai×Int×Unit) from []))⟩)],by rw [W];exact z,⟨λx X=>?_,λs g J Y k'=>?_⟩,λJ=>(by rw [<-am,f] at J;cases J)⟩
  grind [er]
  unfold a8;rw [f];simp only [W,af];rw [h4 s (J _ (gD.2 rfl))];rfl
 |lookup T m x ok=>
  have mm:m∈o.op.operands.toList:=dh f (by simp [Op.operands]);have O:x∈o.op.operands.toList:=dh f (by simp [Op.operands]);unfold a8 at h;rw [f] at h;simp only at h;split at h;rotate_left;cases h;rename_i K b af ay;obtain ⟨bx,l,_,C⟩:=jK h;obtain ⟨xs,z,h4⟩:=WR l;obtain ⟨key,h5,h6⟩:=aia z;exact fi h5 λs g Y k'=>by
   have e:=g m mm;rw [ay] at e;unfold a8;rw [f];simp only [af,e.1];rw [C s (e.2 _ (by simp [TV.aK])),h4,(g x O).1,h6]
 |call c=>
  cases I:c.callee with
  |builtin b=>
   cases b with
   |len=>
    unfold a8 at h;rw [f] at h;simp only [I] at h;unfold builtinK at h;split at h;rename_i T ts v _ aw D;obtain ⟨x,ax,ar⟩:∃x,c.args.toList=[x]/\t.ev x=v:=by
     simp_all
    have m:x∈o.op.operands.toList:=dh f (by
     grind [Op.operands,Call.operands])
    split at h;rename_i ao;obtain ⟨n,z,h4⟩:=MT h;exact fi z λs g Y k'=>by
     have e:=g x m;rw [ar] at e;unfold a8;rw [f];simp only [I];unfold builtinK;simp_all
    rename_i ao;split at h;exact fi h λs g Y k'=>by
     have e:=g x m
     grind [a8,builtinK]
    cases h
    ·rename_i ao;split at h;rotate_left;cases h;rename_i K af;split at h;rotate_left;cases h;obtain ⟨bx,l,_,C⟩:=jK h;obtain ⟨xs,z,h4⟩:=WR l;exact fi z λs g Y k'=>by
      have e:=g x m;rw [ar] at e;unfold a8;rw [f];simp only [I];unfold builtinK;rw [aw,ax];simp only [gP,rj,ao,af,e.1];rw [C s (e.2 _ (by simp [TV.aK])),h4]
    cases h
    all_goals grind
   |_=>rw [f] at ae;simp [qV,I] at ae
  |_=>rw [f] at ae;simp [qV,I] at ae
 |_=>rw [f] at ae;simp [qV] at ae
end
section
variable {Z Y:Type} {E:an}
theorem ao3 {m:PM} (h:m.gv=true):m.fh=false/\m.js=false:=by cases m<;>simp [PM.gv] at h<;>exact ⟨rfl,rfl⟩
theorem XV:∀(b:List PM) (vs:List TV) (s:St) (k:St->List TV->(TV->TV)->Option Z),(∀m∈b,m.gv=true)->b.length=vs.length->ej s b vs k=k s vs id:=by
 intro b
 induction b with
 |nil=>
  intro vs s k _ c;cases vs with
  |nil=>rfl
  |cons _ _=>simp at c
 |cons m b f=>
  intro vs s k e c;cases vs with
  |nil=>simp at c
  |cons v vs=>
   have d:=e m (by simp);have:ej s (m::b) (v::vs) k=ej s b vs λs vs κ=>k s (κ v::vs) κ:=by cases m<;>first|rfl|simp [PM.gv] at d
   simp_all
theorem XU:∀(b:List PM) (vs:List TV) (s:St) (k:St->List TV->(TV->TV)->Option Z),(∀m∈b,m.gv=true)->b.length=vs.length->cH s b vs k=k s vs id:=by
 intro b
 induction b with
 |nil=>
  intro vs s k _ c;cases vs with
  |nil=>rfl
  |cons _ _=>simp at c
 |cons m b f=>
  intro vs s k e c;cases vs with
  |nil=>simp at c
  |cons v vs=>
   have d:=e m (by simp);have:cH s (m::b) (v::vs) k=cH s b vs λs vs κ=>k s (κ v::vs) κ:=by
    cases m with
    |ro t=>simp only [cH]
    |bt t=>simp only [cH]
    |_=>simp [PM.gv] at d
   simp_all
theorem ak8:∀(b:List PM) (vs:List TV) (s:St) (k:St->List TV->(TV->TV)->Option Z) (r:Z),(∀m∈b,m.gv=true)->ej s b vs k=some r->b.length=vs.length:=by
 intro b
 induction b with
 |nil=>
  grind [ej]
 |cons m b f=>
  intro vs s k r d h;cases vs with
  |nil=>simp [ej] at h
  |cons v vs=>
   have c:=d m (by simp);have e:ej s (m::b) (v::vs) k=ej s b vs λs vs κ=>k s (κ v::vs) κ:=by cases m<;>first|rfl|simp [PM.gv] at c
   grind
theorem Wt {t:St} {m:PM} {v:TV} {k:D->Option Z} {r:Z} (h:gJ t m v k=some r):∃d,k d=some r/\∀(s:St),Ag s t v->∀{Y:Type} (k':D->Option Y),gJ s m v k'=k' d:=by
 cases m with
 |ro T=>
  grind [gJ,N2]
 |bt T=>
  cases v with
  |bt u x=>
   grind [gJ]
  |ref b p=>
   simp only [gJ] at h;obtain ⟨x,e,_,f⟩:=jK h;split at e;rename_i l;obtain ⟨c,g,h4⟩:=oW _ _ _ _ e;obtain ⟨y,h5,h6⟩:=ags _ _ _ _ g;exact ⟨_,h5,λs j Y k'=>by simp only [gJ];rw [f s (j _ (by simp [TV.aK])),aE l,h4,h6]⟩;cases e
  |_=>simp [gJ] at h
 |_=>simp [gJ] at h
theorem ain {t:St}:∀(b:List PM) (vs:List TV) (k:List D->Option Z) (r:Z),(∀m∈b,m.gv=true)->iJ t b vs k=some r->
 ∃ds,k ds=some r/\∀(s:St),(∀v∈vs,Ag s t v)->∀{Y:Type} (k':List D->Option Y),iJ s b vs k'=k' ds:=by
 intro b
 induction b with
 |nil=>
  grind [iJ]
 |cons m b j=>
  intro vs k r c h;cases vs with
  |nil=>simp [iJ] at h
  |cons v vs=>
   have f:=c m (by simp);have e:∀{Y:Type} (s:St) (k:List D->Option Y),jz s m v k=gJ s m v λd=>k [d]:=by
    intro Y s k;cases m<;>first|rfl|simp [PM.gv] at f
   simp only [iJ] at h;rw [e] at h;obtain ⟨d,g,l⟩:=Wt h;obtain ⟨ds,h4,h5⟩:=j vs _ r (λm h=>c m (by simp [h])) g
   grind [iJ]
theorem afK:∀(b:List PM) (vs:List TV) (ds:List D) (s:St) (k:St->Option Z) (r:Z),(∀m∈b,m.gv=true)->gU s b vs ds k=some r->
 k s=some r/\∀(s:St) {Y:Type} (k':St->Option Y),gU s b vs ds k'=k' s:=by
 intro b
 induction b with
 |nil=>
  grind [gU]
 |cons m b d=>
  intro vs ds s k r c h;cases vs with
  |nil=>simp [gU] at h
  |cons v vs=>
   grind [ao3,gU,Lp]
def Jh (d:Nat) (t:St) (new:List (Nat×bm)):Prop:=∀x∈new,x.1/32=d/\t.box x.1=none
theorem E3 (t:St) (new:List (Nat×bm)) (n:Nat):St.box {t with cg:=new++t.cg} n=(lk new n).or (t.box n):=FV _ _ _
def apD {d:Nat}:∀(T:Ty) (x:T.ai) (t:St) (id:Nat) (k:St->Nat->TV->Option Z) (r:Z),d*32<=id->id<=d*32+32->fX t id T x k=some r->
 ∃new g v,k {t with cg:=new++t.cg} g v=some r/\(id<=g/\g<=d*32+32)/\(∀y∈new,id<=y.1/\y.1<g)/\Jh d t new/\
  ∀(s:St),(∀y∈new,s.box y.1=none)->∀{Y:Type} (k':St->Nat->TV->Option Y),fX s id T x k'=k' {s with cg:=new++s.cg} g v:=by
 have aY:∀(T:Ty) (x:T.ai) (t:St) (id:Nat) (k:St->Nat->TV->Option Z) (r:Z),d*32<=id->id<=d*32+32->(∀{Y:Type} (s:St) (k:St->Nat->TV->Option Y),fX s id T x k=k s id (.ad T x))->fX t id T x k=some r->
  ∃new g v,k {t with cg:=new++t.cg} g v=some r/\(id<=g/\g<=d*32+32)/\(∀y∈new,id<=y.1/\y.1<g)/\Jh d t new/\
   ∀(s:St),(∀y∈new,s.box y.1=none)->∀{Y:Type} (k':St->Nat->TV->Option Y),fX s id T x k'=k' {s with cg:=new++s.cg} g v:=by
  intro T x t id k r f c e h;rw [e] at h;exact ⟨[],id,_,h,⟨cS _,c⟩,λy b=>(by cases b),λy b=>(by cases b),λs _ Y k'=>by rw [e];rfl⟩
 intro T
 induction T with
 |slice T _=>
  intro x t id k r f c h;simp only [fX] at h;obtain ⟨ag,ah,aa,aj⟩:=yQ h;have ae:id<=d*32+31:=by
   omega
  refine ⟨[(id,⟨.slice T,true,false,.ab (.slice T) x⟩)],id+1,_,aa,⟨by omega,by omega⟩,λy b=>?_,λy b=>?_,λs o Y k'=>?_⟩;simp_all
  grind
  simp only [fX];simp_all
 |cons T U K O=>
  intro x t id k r f c h;by_cases l:(Ty.cons T U).aY=true
  grind [fX]
  simp only [fX] at h;rw [av l] at h;obtain ⟨W,I,ak,q,u,a3,a4,a5⟩:=K x.1 t id _ r f c h;obtain ⟨X,J,al,z,C,ac,j,D⟩:=O x.2 _ I _ r (by omega) u.2 q;refine ⟨X++W,J,_,by rw [gz];exact z,⟨by omega,C.2⟩,λy b=>?_,λy b=>?_,λs o Y k'=>?_⟩
  grind
  rcases bI.1 b with b|b
  refine ⟨(j y b).1,?_⟩;have:=(j y b).2
  grind [E3]
  exact a4 y b;simp only [fX];rw [av l,a5 s (λy b=>o y (bI.2 (.inr b))),D _ (λy b=>by
   grind [E3,o5]),gz]
 |unit=>
  intro x t id k r f c h;exact ⟨[],id,_,h,⟨cS _,c⟩,λy b=>(by cases b),λy b=>(by cases b),λs _ Y k'=>rfl⟩
 |int af=>intro x t id k r f c h;exact aY _ x t id k r f c (λs k=>rfl) h
 |bool=>intro x t id k r f c h;exact aY _ x t id k r f c (λs k=>rfl) h
 |bR=>intro x t id k r f c h;exact aY _ x t id k r f c (λs k=>rfl) h
 |bz=>intro x t id k r f c h;simp [fX,Ty.aY] at h
 |arr n T _=>
  grind [fX]
def apC {d:Nat}:∀(c:List D) (t:St) (id:Nat) (k:St->TV->Option Z) (r:Z),d*32<=id->id<=d*32+32->nD t id c k=some r->
 ∃new v,k {t with cg:=new++t.cg} v=some r/\(∀y∈new,id<=y.1)/\Jh d t new/\
  ∀(s:St),(∀y∈new,s.box y.1=none)->∀{Y:Type} (k':St->TV->Option Y),nD s id c k'=k' {s with cg:=new++s.cg} v:=by
 intro c
 induction c with
 |nil=>
  intro t id k r g j h;exact ⟨[],_,h,λy b=>(by cases b),λy b=>(by cases b),λs _ Y k'=>rfl⟩
 |cons e c z=>
  intro t id k r g j h;simp only [nD] at h;obtain ⟨C,u,O,l,n,a3,a4,a5⟩:=apD e.t e.x t id _ r g j h;obtain ⟨I,U,J,K,f,o⟩:=z _ u _ r (by omega) n.2 l;refine ⟨I++C,_,by simp_all<;>omega,λy b=>?_,λy b=>?_,λs q Y k'=>?_⟩
  grind
  rcases bI.1 b with b|b
  refine ⟨(f y b).1,?_⟩;have:=(f y b).2
  grind [E3]
  exact a4 y b;simp only [nD];rw [a5 s (λy b=>q y (bI.2 (.inr b))),o _ (λy b=>by
   grind [E3,o5]),gz]
theorem alI (c:List D) (v:TV):∃u,∀{Y:Type} (d:Nat) (s:St) (k:St->Option Y),(match c,v with
 |[_],.cons a .unit=>k (s.put d a)
 |_,v=>k (s.put d (.tup v)))=k (s.put d u):=by
 match c,v with
 |[e],.cons a .unit=>exact ⟨a,λd s k=>rfl⟩
 |[],v=>exact ⟨.tup v,λd s k=>rfl⟩
 |e::f::c,v=>exact ⟨.tup v,λd s k=>rfl⟩
 |[e],v=>
  cases v with
  |cons a b=>cases b<;>exact ⟨_,λd s k=>rfl⟩
  |_=>exact ⟨.tup _,λd s k=>rfl⟩
theorem Yf {t:St} {dst:Option Nat} {b:List D} {k:St->Option Z} {r:Z} {o:Nat} (h:qY t o dst b k=some r):
 ∃v new,k (t.step dst v new)=some r/\(∀x∈new,∃d,dst=some d/\x.1/32=d/\t.box x.1=none)/\∀(s:St),(∀x∈new,s.box x.1=none)->∀{Y:Type} (k':St->Option Y),qY s o dst b k'=k' (s.step dst v new):=by
 cases dst with
 |none=>exact ⟨.unit,[],h,λx c=>(by cases c),λs _ Y k'=>rfl⟩
 |some d=>
  simp only [qY] at h;obtain ⟨new,v,f,_,g,h4⟩:=apC (d:=d) b t (er o d) _ r (Nat.le_add_right _ _) (by unfold er;omega) h;obtain ⟨u,e⟩:=alI b v;refine ⟨u,new,(e d _ k).symm.trans f,λx c=>⟨d,rfl,g x c⟩,λs j Y k'=>?_⟩;simp only [qY];rw [h4 s j];exact e d _ k'
def af8 {t:St} {f:Nat} {vs:List TV} {dst:Option Nat} {k:St->Option Z} {r:Z} {c:az} (j:E.fn f (vs.map l1)=some c) (l:c.bq) (b:∀m∈c.params,m.gv=true) (h:i0 E t f vs dst k=some r):
 ∃v new,k (t.step dst v new)=some r/\(∀x∈new,∃d,dst=some d/\x.1/32=d/\t.box x.1=none)/\
  ∀(s:St),(∀v∈vs,Ag s t v)->(∀x∈new,s.box x.1=none)->∀{Y:Type} (k':St->Option Y),i0 E s f vs dst k'=k' (s.step dst v new):=by
 unfold i0 at h;rw [j] at h;simp only at h;have g:=ak8 _ _ _ _ _ b h;rw [XV _ _ _ _ b g,XU _ _ _ _ b g] at h;obtain ⟨ds,e,n⟩:=ain _ _ _ _ b h;rw [l] at e;split at e;cases e;rename_i D C y;obtain ⟨o,h4⟩:=afK _ _ _ _ _ _ b e;obtain ⟨v,new,h5,h6,u⟩:=Yf o;refine ⟨v,new,h5,h6,λs q z Y k'=>?_⟩;unfold i0;rw [j];simp only;rw [XV _ _ _ _ b g,XU _ _ _ _ b g,n s q,l]
 grind
def ag0 {o:Oper} {s t:St} (h:Jg o s t) {l:List Operand} (c:∀x∈l,x∈o.op.operands.toList):l.map s.ev=l.map t.ev/\∀v∈l.map t.ev,Ag s t v:=
 ⟨lC λx b=>(h x (c x b)).1,λv d=>by
  obtain ⟨x,b,rfl⟩:=dm.1 d;exact (h x (c x b)).2⟩
def Vi {p:az->Bool} {o:Oper} {s:St} (h:tM E p o s=true):∃c g f c',o.op=.call c/\c.callee=.value g/\s.ev g=.bU f .unit/\E.fn f ((c.args.toList.map s.ev).map l1)=some c'/\p c'=true:=by
 unfold tM at h
 grind
theorem tN {o:Oper} {c:Call} {g:Operand} {f:Nat} {s:St} (d:o.op=.call c) (b:c.callee=.value g) (e:s.ev g=.bU f .unit) (k:St->Option Z):a8 E o s k=i0 E s f (c.args.toList.map s.ev) o.dst k:=by
 grind [a8,TV.oO]
theorem L7 {o:Oper} {c:Call} {g:Operand} (b:o.op=.call c) (d:c.callee=.value g):g∈o.op.operands.toList/\∀x∈c.args.toList,x∈o.op.operands.toList:=
 ⟨dh b (by
  grind [Op.operands,Call.operands]),λx e=>dh b (by
  grind [Op.operands,Call.operands])⟩
end
def Mv.tv:Mv->TV->TV
 | .set _ _,v=>v
 | .ax b p,v=>v.ax b p
 | .drop b,v=>v.drop b
def Mv.bx (n:Nat):Mv->Option bm->Option bm
 | .set b x,y=>if b=n then y.map (λ_=>x) else y
 | .ax b p,y=>y.map (bm.ax b p)
 | .drop b,y=>if b=n then none else y.map (bm.bY λc=> !Nat.beq b c)
def Mv.sv:Mv->List (List (Nat×TV))->List (List (Nat×TV))
 | .set _ _,l=>l
 | .ax b p,l=>l.map λl=>l.map λx=>(x.1,x.2.ax b p)
 | .drop b,l=>l.map λl=>l.map λx=>(x.1,x.2.drop b)
theorem hQ (s:St) (l m:List Mv):bL s (l++m)=bL (bL s l) m:=by simp [bL]
theorem ajb (s:St) (m:Mv) (n:Nat):(m.run s).get n=m.tv (s.get n):=by
 cases m with
 |set b x=>rfl
 |ax b p=>
  simp only [Mv.run,Mv.tv,St.get,St.ax,mb];cases lk s.tmps n<;>rfl
 |drop b=>
  simp only [Mv.run,Mv.tv,St.get,St.drop,mb];cases lk s.tmps n<;>rfl
theorem aja (s:St) (m:Mv) (n:Nat):(m.run s).box n=m.bx n (s.box n):=by
 cases m with
 |set b x=>
  simp only [Mv.run,Mv.bx,St.box,St.b2,Wy]
 |ax b p=>exact TB s b p n
 |drop b=>
  simp only [Mv.run,Mv.bx,St.box,St.drop,mb,FW];split<;>rfl
theorem ajc (s:St) (m:Mv):(m.run s).sv=m.sv s.sv:=by cases m<;>rfl
def i5:List Mv->TV->TV
 |[],v=>v
 |m::l,v=>i5 l (m.tv v)
def oK (n:Nat):List Mv->Option bm->Option bm
 |[],v=>v
 |m::l,v=>oK n l (m.bx n v)
def aa3:List Mv->List (List (Nat×TV))->List (List (Nat×TV))
 |[],v=>v
 |m::l,v=>aa3 l (m.sv v)
theorem y8:∀(l:List Mv) (s:St) (n:Nat),(bL s l).get n=i5 l (s.get n)
 |[],_,_=>rfl
 |m::l,s,n=>by rw [show bL s (m::l)=bL (m.run s) l from rfl,y8 l,ajb];rfl
theorem nB:∀(l:List Mv) (s:St) (n:Nat),(bL s l).box n=oK n l (s.box n)
 |[],_,_=>rfl
 |m::l,s,n=>by rw [show bL s (m::l)=bL (m.run s) l from rfl,nB l,aja];rfl
theorem N7:∀(l:List Mv) (s:St),(bL s l).sv=aa3 l s.sv
 |[],_=>rfl
 |m::l,s=>by rw [show bL s (m::l)=bL (m.run s) l from rfl,N7 l,ajc];rfl
theorem Lw (n:Nat):∀(l:List Mv),oK n l none=none
 |[]=>rfl
 |m::l=>by
  have:m.bx n none=none:=by cases m<;>simp [Mv.bx]
  simp only [oK,this,Lw n l]
theorem Wm (b:Nat) (p:aN):∀(v:TV),b∉v.aK->v.ax b p=v:=by
 intro v
 induction v with
 |ref c q=>grind [TV.aK,TV.ax,ko]
 |sl c q=>grind [TV.aK,TV.ax,ko]
 |slw c q lo n=>grind [TV.aK,TV.ax,ko]
 |mp c=>grind [TV.aK,TV.ax,ko]
 |cons a d g j=>grind [TV.aK,TV.ax]
 |tup a e=>intro h;simp only [TV.aK] at h;simp only [TV.ax,e h]
 |bU f c e=>intro h;simp only [TV.aK] at h;simp only [TV.ax,e h]
 |_=>intro h;rfl
theorem abH (p:Nat->Bool):∀(v:TV),(∀b∈v.aK,p b=true)->v.bY p=v:=by
 intro v
 induction v with
 |ref c q=>grind [TV.bY,TV.aK]
 |sl c q=>grind [TV.bY,TV.aK]
 |slw c q lo n=>grind [TV.bY,TV.aK]
 |mp c=>grind [TV.bY,TV.aK]
 |cons a d g j=>grind [TV.aK,TV.bY]
 |tup a e=>grind [TV.aK,TV.bY]
 |bU f c e=>grind [TV.aK,TV.bY]
 |_=>intro h;rfl
theorem W9 {b:Nat} {v:TV} (h:b∉v.aK):∀c∈v.aK,(!Nat.beq b c)=true:=λc d=>by
 grind [ko]
theorem ajd {m:Mv} {v:TV} (h:m.at∉v.aK):m.tv v=v:=by
 cases m with
 |set b x=>rfl
 |ax b p=>exact Wm b p v h
 |drop b=>exact abH _ v (W9 h)
theorem VT {v:TV}:∀(l:List Mv),(∀m∈l,m.at∉v.aK)->i5 l v=v
 |[],_=>rfl
 |m::l,h=>by
  simp only [i5,ajd (h m (by simp))];exact VT l λm b=>h m (by simp [b])
def TC {n:Nat} {y:bm}:∀(l:List Mv),(∀m∈l,m.at≠n/\m.at∉y.c.aK)->oK n l (some y)=some y
 |[],_=>rfl
 |m::l,h=>by
  have:m.bx n (some y)=some y:=by
   obtain ⟨d,e⟩:=h m (by simp);cases m with
   |set b x=>simp only [Mv.at] at d;simp [Mv.bx,d]
   |ax b p=>simp only [Mv.bx,dy,bm.ax,Wm b p _ e]
   |drop b=>
    simp only [Mv.at] at d e;simp only [Mv.bx,d,dA,dy,bm.bY,abH _ y.c (W9 e)]
  simp only [oK,this];exact TC l λm f=>h m (by simp [f])
def ed (B:Nat->Prop) (s t:St):Prop:=∀b,B b->s.box b=t.box b
theorem ed.bL {B:Nat->Prop} {s t:St} (h:ed B s t) (l:List Mv):ed B (bL s l) (bL t l):=λb c=>by rw [nB,nB,h b c]
theorem ed.ag {B:Nat->Prop} {s t:St} (h:ed B s t) {v:TV} (d:∀b∈v.aK,B b):Ag s t v:=λb c y e=>by rw [h b (d b c),e]
def FP (b:Nat) (p:aN):∀(v:TV) (c:Nat),c∈(v.ax b p).aK->c∈v.aK:=by
 intro v
 induction v with
 |ref d q=>grind [TV.ax,TV.aK]
 |sl d q=>grind [TV.ax,TV.aK]
 |slw d q lo n=>grind [TV.ax,TV.aK]
 |mp d=>grind [TV.ax,TV.aK]
 |cons a d g j=>grind [TV.ax,TV.aK]
 |tup a e=>intro c h;exact e c h
 |bU f d e=>intro c h;exact e c h
 |_=>intro c h;exact h
theorem Po (p:Nat->Bool):∀(v:TV) (c:Nat),c∈(v.bY p).aK->c∈v.aK:=by
 intro v
 induction v with
 |ref d q=>grind [TV.bY,TV.aK]
 |sl d q=>grind [TV.bY,TV.aK]
 |slw d q lo n=>grind [TV.bY,TV.aK]
 |mp d=>grind [TV.bY,TV.aK]
 |cons a d e g=>grind [TV.bY,TV.aK]
 |tup a b=>intro c h;exact b c h
 |bU f d b=>intro c h;exact b c h
 |_=>intro c h;exact h
def k2 (κ:TV->TV):Prop:=∀(v:TV) (b:Nat),b∈(κ v).aK->b∈v.aK
section
variable {Z:Type} {E:an} {B:Nat->Prop}
def ps {t:St} {b:Nat} {k:bm->Option Z} {r:Z} (g:B b) (h:b6 t b k=some r):∃y,t.box b=some y/\k y=some r/\
 ∀(s:St),ed B s t->∀{Y:Type} (k':bm->Option Y),b6 s b k'=k' y:=by
 obtain ⟨y,c,d,e⟩:=jK h;exact ⟨y,d,c,λs f Y k'=>e s (λz j=>by rw [f b g,j]) k'⟩
def uR:∀(c:TV) (p:aN) (v:TV) (k:TV->Option Z) (r:Z),b7 c p v k=some r->∃y,k y=some r/\∀{Y:Type} (k':TV->Option Y),b7 c p v k'=k' y:=Ob
theorem ed.gp {B:Nat->Prop} {s t:St} (h:ed B s t) {b:Nat} (c:B b):s.gp b=t.gp b:=by
 unfold St.gp;rw [h b c]
theorem x1:∀(T:Ty) (v:TV) (t:St) (k:St->TV->(TV->TV)->Option Z) (r:Z),(∀b∈v.aK,B b)->cj t T v k=some r->
 ∃l c κ,k (bL t l) c κ=some r/\(∀m∈l,B m.at)/\k2 κ/\∀(s:St),ed B s t->∀{Y:Type} (k':St->TV->(TV->TV)->Option Y),cj s T v k'=k' (bL s l) c κ:=by
 have C:k2 id:=λv b h=>h
 have ad:∀(T u:Ty) (x:u.ai) (t:St) (k:St->TV->(TV->TV)->Option Z) (r:Z),(∀{Y:Type} (s:St) (k:St->TV->(TV->TV)->Option Y),cj s T (.ad u x) k=if decide (u=T) then k s (.ad u x) id else none)->cj t T (.ad u x) k=some r->
  ∃l c κ,k (bL t l) c κ=some r/\(∀m∈l,B m.at)/\k2 κ/\∀(s:St),ed B s t->∀{Y:Type} (k':St->TV->(TV->TV)->Option Y),cj s T (.ad u x) k'=k' (bL s l) c κ:=by
  intro T u x t k r e h;rw [e] at h;split at h;rename_i K;exact ⟨[],_,id,h,λm g=>(by cases g),C,λs _ Y k'=>by rw [e,aE K];rfl⟩;cases h
 intro T
 induction T with
 |slice T _=>
  intro v t k r q h;cases v with
  |nil=>exact ⟨[],_,id,h,λm g=>(by cases g),C,λs _ Y k'=>rfl⟩
  |sl b p=>
   have D:B b:=q b (by simp [TV.aK]);simp only [cj] at h;split at h;rename_i O;exact ⟨[],_,id,h,λm g=>(by cases g),C,λs o Y k'=>by simp only [cj];rw [o.gp D,aE O];rfl⟩;rename_i O;obtain ⟨x,_,I,W⟩:=ps D h;obtain ⟨c,j,h4⟩:=oW _ _ _ _ I;split at j;rename_i u y;split at j;cases j;rename_i X;obtain ⟨c',h5,h6⟩:=uR _ _ _ _ _ j;refine ⟨[.set b {x with c:=c'},.ax b p],_,_,h5,λm g=>?_,λv c K=>FP b p v c K,λs o Y k'=>?_⟩;simp only [eN,zE,or_false] at g;rcases g with rfl|rfl<;>exact D
   simp only [cj];rw [o.gp D,av O,W s o,h4];simp only;rw [av X,h6];rfl;cases j
  |slw b p lo n=>
   have D:B b:=q b (by simp [TV.aK]);simp only [cj] at h;split at h;cases h;rename_i O;obtain ⟨x,_,I,W⟩:=ps D h;obtain ⟨c,j,h4⟩:=oW _ _ _ _ I;split at j;rename_i u y;split at j;cases j;rename_i X;split at j;rename_i z ac;obtain ⟨c',h5,h6⟩:=uR _ _ _ _ _ j;refine ⟨[.set b {x with c:=c'},.ax b p],_,_,h5,λm g=>?_,λv c K=>FP b p v c K,λs o Y k'=>?_⟩;simp only [eN,zE,or_false] at g;rcases g with rfl|rfl<;>exact D
   simp only [cj];rw [av O,W s o,h4];simp only;rw [av X];simp only [ac];rw [h6];rfl;cases j;cases j
  |ad u x=>exact ad _ u x t k r (λs k=>rfl) h
  |_=>simp [cj] at h
 |cons T U ae af=>
  intro v t k r q h;cases v with
  |cons a d=>
   simp only [cj] at h;obtain ⟨aa,aj,ah,I,W,j,h4⟩:=ae a t _ r (λb J=>q b (by simp [TV.aK,J])) h;obtain ⟨ag,ak,al,h5,h6,ab,h8⟩:=af (ah d) (bL t aa) _ r (λb J=>q b (by simp [TV.aK,j _ _ J])) I;refine ⟨aa++ag,_,_,by rw [hQ];exact h5,λm g=>?_,λv b J=>j _ _ (ab _ _ J),λs o Y k'=>?_⟩
   grind
   simp only [cj];rw [h4 s o,h8 _ (o.bL aa),hQ]
  |ad u x=>exact ad _ u x t k r (λs k=>rfl) h
  |_=>simp [cj] at h
 |unit=>
  intro v t k r q h;cases v with
  |unit=>exact ⟨[],_,id,h,λm g=>(by cases g),C,λs _ Y k'=>rfl⟩
  |ad u x=>exact ad _ u x t k r (λs k=>rfl) h
  |_=>simp [cj] at h
 |bz=>
  intro v t k r q h;cases v with
  |ad u x=>exact ad _ u x t k r (λs k=>rfl) h
  |ref b p=>exact ⟨[],_,id,h,λm g=>(by cases g),C,λs _ Y k'=>rfl⟩
  |bt u x=>exact ⟨[],_,id,h,λm g=>(by cases g),C,λs _ Y k'=>rfl⟩
  |bU f c=>exact ⟨[],_,id,h,λm g=>(by cases g),C,λs _ Y k'=>rfl⟩
  |mp b=>exact ⟨[],_,id,h,λm g=>(by cases g),C,λs _ Y k'=>rfl⟩
  |_=>simp [cj] at h
 |_=>
  intro v t k r q h;cases v with
  |ad u x=>exact ad _ u x t k r (λs k=>rfl) h
  |_=>simp [cj] at h
end
section
variable {Z:Type} {E:an} {A B:Nat->Prop}
theorem qO {l m:List Mv} (b:∀x∈l,B x.at) (c:∀x∈m,B x.at):∀x∈l++m,B x.at:=λx d=>by
 grind
theorem Ge {m:Mv} (h:B m.at):∀x∈[m],B x.at:=λx b=>by simp_all
theorem Gf {m b:Mv} (h:B m.at) (c:B b.at):∀x∈[m,b],B x.at:=λx d=>by
 grind
def aps {T:Ty} {a v:TV} {t:St} {k:St->Option Z} {r:Z} (I:∀b∈a.aK,B b) (K:∀b∈v.aK,B b) (h:lv t T a v k=some r):
 ∃l,k (bL t l)=some r/\(∀m∈l,B m.at)/\∀(s:St),ed B s t->∀{Y:Type} (k':St->Option Y),lv s T a v k'=k' (bL s l):=by
 cases a with
 |ref f j=>
  simp only [lv] at h;obtain ⟨l,c,κ,n,q,D,h4⟩:=x1 (B:=B) T v t _ r K h;split at n;rotate_left;cases n;rename_i b p C;have g:B b:=by
   have:=D (.ref f j) b (by rw [C];simp [TV.aK]);exact I b this
  obtain ⟨x,_,h5,h6⟩:=ps g n;split at h5;cases h5;rename_i J;obtain ⟨c',o,h8⟩:=uR _ _ _ _ _ h5;have e:∀(s:St),ed B s t->∀{Y:Type} (k':St->Option Y),lv s T (.ref f j) v k'=match c with
   | .ad u _=>if u.aY then k' ((bL s l).b2 b {x with c:=c'}) else k' (((bL s l).b2 b {x with c:=c'}).ax b p)
   |_=>k' (((bL s l).b2 b {x with c:=c'}).ax b p):=by
   intro s d Y k';simp only [lv];rw [h4 s d];simp only [C];rw [h6 _ (d.bL l),av J,h8];cases c<;>rfl
  have ik:(k (((bL t l).b2 b {x with c:=c'}).ax b p)=some r)->(∀(s:St),ed B s t->∀{Y:Type} (k':St->Option Y),lv s T (.ref f j) v k'=k' (((bL s l).b2 b {x with c:=c'}).ax b p))->
   ∃l,k (bL t l)=some r/\(∀m∈l,B m.at)/\∀(s:St),ed B s t->∀{Y:Type} (k':St->Option Y),lv s T (.ref f j) v k'=k' (bL s l):=by
   intro O U;refine ⟨l++[.set b {x with c:=c'},.ax b p],by rw [hQ];exact O,qO q (by exact Gf g g),λs d Y k'=>?_⟩;rw [U s d,hQ];rfl
  cases c with
  |ad u y=>
   simp only at o;by_cases z:u.aY=true;rw [aE z] at o;refine ⟨l++[.set b {x with c:=c'}],by rw [hQ];exact o,qO q (by exact Ge g),λs d Y k'=>?_⟩;rw [e s d,hQ];simp only [aE z];rfl
   grind
  |_=>simp_all
 |_=>simp [lv] at h
theorem apq {T:Ty} {a v:TV} {t:St} {k:St->Option Z} {r:Z} (n:∀b∈a.aK,B b) (h:lu t T a v k=some r):
 ∃l,k (bL t l)=some r/\(∀m∈l,B m.at)/\∀(s:St),ed B s t->∀{Y:Type} (k':St->Option Y),lu s T a v k'=k' (bL s l):=by
 cases a with
 |ref b p=>
  have f:B b:=n b (by simp [TV.aK]);simp only [lu] at h;split at h;rotate_left;cases h;rename_i c q;obtain ⟨x,_,h5,h6⟩:=ps f h;split at h5;cases h5;rename_i o;obtain ⟨c',g,h8⟩:=uR _ _ _ _ _ h5;have e:∀(s:St),ed B s t->∀{Y:Type} (k':St->Option Y),lu s T (.ref b p) v k'=match c with
   | .ad u _=>if u.aY then k' (s.b2 b {x with c:=c'}) else k' ((s.b2 b {x with c:=c'}).ax b p)
   |_=>k' ((s.b2 b {x with c:=c'}).ax b p):=by
   intro s d Y k';simp only [lu,q];rw [h6 _ d,av o,h8];cases c<;>rfl
  have ik:(k ((t.b2 b {x with c:=c'}).ax b p)=some r)->(∀(s:St),ed B s t->∀{Y:Type} (k':St->Option Y),lu s T (.ref b p) v k'=k' ((s.b2 b {x with c:=c'}).ax b p))->
   ∃l,k (bL t l)=some r/\(∀m∈l,B m.at)/\∀(s:St),ed B s t->∀{Y:Type} (k':St->Option Y),lu s T (.ref b p) v k'=k' (bL s l):=by
   intro z C;exact ⟨[.set b {x with c:=c'},.ax b p],z,(by exact Gf f f),λs d Y k'=>C s d k'⟩
  cases c with
  |ad u y=>
   simp only at g;by_cases j:u.aY=true;rw [aE j] at g;refine ⟨[.set b {x with c:=c'}],g,(by exact Ge f),λs d Y k'=>?_⟩;rw [e s d];simp only [aE j];rfl
   grind
  |_=>simp_all
 |_=>simp [lu] at h
theorem VB {T:Ty}:∀(vs:List TV) (kl:TV->TV) (t:St) (k:St->List T.ai->Option Z) (r:Z),(∀v∈vs,∀b∈v.aK,B b)->k2 kl->m9 t T kl vs k=some r->
 ∃l xs,k (bL t l) xs=some r/\(∀m∈l,B m.at)/\∀(s:St),ed B s t->∀{Y:Type} (k':St->List T.ai->Option Y),m9 s T kl vs k'=k' (bL s l) xs:=by
 intro vs
 induction vs with
 |nil=>intro kl t k r _ _ h;exact ⟨[],[],h,λm u=>(by cases u),λs _ Y k'=>rfl⟩
 |cons v vs C=>
  intro kl t k r j f h;simp only [m9] at h;obtain ⟨l,c,κ,d,n,o,h4⟩:=x1 (B:=B) T (kl v) t _ r (λb e=>j v (by simp) b (f _ _ e)) h;split at d;rotate_left;cases d;rename_i x z;obtain ⟨D,xs,h5,h6,q⟩:=C _ _ _ _ (λw y=>j w (by simp [y])) (λv b e=>f _ _ (o _ _ e)) d;refine ⟨l++D,_,by rw [hQ];exact h5,qO n h6,λs g Y k'=>?_⟩;simp only [m9];rw [h4 s g];simp only [z];rw [q _ (g.bL l),hQ]
def Rb (A B:Nat->Prop) (dst:Option Nat) (t:St) (k:St->Option Z) (r:Z) (f:(s:St)->∀{Y:Type},(St->Option Y)->Option Y):Prop:=
 ∃l v new,k ((bL t l).step dst v new)=some r/\(∀m∈l,B m.at)/\(∀x∈new,∃d,dst=some d/\x.1/32=d/\(bL t l).box x.1=none)/\
  ∀(s:St),ed A s t->(∀x∈new,(bL s l).box x.1=none)->∀{Y:Type} (k':St->Option Y),f s k'=k' ((bL s l).step dst v new)
theorem ed.mono {s t:St} (c:∀b,B b->A b) (h:ed A s t):ed B s t:=λb d=>h b (c b d)
theorem ai1 {T f:Ty} {v:TV} {t:St} {k:St->List T.ai->(TV->TV)->Option Z} {r:Z} (x:∀b,B b->A b) (u:∀b∈v.aK,A b) (y:T.aY=false->f≠ .bR->∀b∈v.aK,B b) (h:nr t T f v k=some r):
 ∃l xs κ,k (bL t l) xs κ=some r/\(∀m∈l,B m.at)/\k2 κ/\∀(s:St),ed A s t->∀{Y:Type} (k':St->List T.ai->(TV->TV)->Option Y),nr s T f v k'=k' (bL s l) xs κ:=by
 unfold nr at h;split at h;split at h;split at h;rename_i xs o;exact ⟨[],_,id,h,λm j=>(by cases j),λv b h=>h,λs _ Y k'=>by simp only [nr,o];rfl⟩;cases h;cases h;split at h;rename_i e;obtain ⟨xs,d,g⟩:=Ot h;exact ⟨[],xs,id,d,λm j=>(by cases j),λv b h=>h,λs n Y k'=>by simp only [nr,e,cN];rw [g s (n.ag u)];rfl⟩;rename_i e;obtain ⟨l,c,κ,d,g,q,h4⟩:=x1 (B:=B) _ v t _ r (y (by simpa using e) (by simp)) h;split at d;rename_i xs o;refine ⟨l,xs,κ,d,g,q,λs n Y k'=>?_⟩;simp only [nr,e];rw [av (by simp),h4 s (n.mono x)];simp only [o];cases d;cases h
def afE {o d:Nat} {T f:Ty} {x y:TV} {t:St} {k:St->Option Z} {r:Z} (g:∀b,B b->A b) (I:∀b∈x.aK,B b) (K:∀b∈y.aK,A b) (O:T.aY=false->∀b∈y.aK,B b) (h:qk t o d T f x y k=some r):
 Rb A B (some d) t k r λs _ k'=>qk s o d T f x y k':=by
 unfold qk at h;split at h;cases h;rename_i D;obtain ⟨l,ac,κ,n,q,u,h4⟩:=ai1 g K (λe _=>O e) h;obtain ⟨U,c,ad,h5,h6,ab,h8⟩:=x1 (B:=B) _ (κ x) _ _ r (λb z=>I b (u _ _ z)) n;split at h5;rotate_left;cases h5;rename_i xs J;split at h5;rotate_left;cases h5;rename_i C;obtain ⟨v,new,W,X,aa⟩:=Gc h5;refine ⟨l++U,v,new,by rw [hQ];exact W,qO q h6,by rw [hQ];exact X,λs j e Y k'=>?_⟩;show qk s o d T f x y k'=_;unfold qk;rw [av D,h4 s j,h8 _ ((j.mono g).bL l)];simp only [J,C];rw [hQ] at e|-;rw [aa _ e]
def fN (B:Nat->Prop):List PM->List TV->Prop
 |m::c,v::vs=>(m.gv=true\/∀b∈v.aK,B b)/\fN B c vs
 |_,_=>True
theorem fN.map {g:TV->TV} (c:k2 g):∀{d:List PM} {vs:List TV},fN B d vs->fN B d (vs.map g)
 |[],_,_=>by unfold fN;trivial
 |_::_,[],_=>by simp_all
 |_::_,_::_,h=>⟨h.1.imp id λh b e=>h b (c _ _ e),fN.map c h.2⟩
theorem ak9:∀(g:List PM) (vs:List TV) (t:St) (k:St->List TV->(TV->TV)->Option Z) (r:Z),fN B g vs->ej t g vs k=some r->
 ∃l f κ,k (bL t l) f κ=some r/\(∀m∈l,B m.at)/\(∀A:Nat->Prop,(∀v∈vs,∀b∈v.aK,A b)->∀v∈f,∀b∈v.aK,A b)/\fN B g f/\k2 κ/\∀(s:St),ed B s t->∀{Y:Type} (k':St->List TV->(TV->TV)->Option Y),ej s g vs k'=k' (bL s l) f κ:=by
 intro g
 induction g with
 |nil=>
  intro vs t k r n h;cases vs with
  |nil=>exact ⟨[],[],id,h,λm I=>(by cases I),λ_ _ v n=>(by cases n),trivial,λv b h=>h,λs _ Y k'=>rfl⟩
  |cons v vs=>simp [ej] at h
 |cons m g C=>
  intro vs t k r n h;cases vs with
  |nil=>simp [ej] at h
  |cons v vs=>
   have U:(∀{Y:Type} (s:St) (k:St->List TV->(TV->TV)->Option Y),ej s (m::g) (v::vs) k=ej s g vs λs vs κ=>k s (κ v::vs) κ)->
    ∃l f κ,k (bL t l) f κ=some r/\(∀m∈l,B m.at)/\(∀A:Nat->Prop,(∀w∈v::vs,∀b∈w.aK,A b)->∀v∈f,∀b∈v.aK,A b)/\fN B (m::g) f/\k2 κ/\∀(s:St),ed B s t->∀{Y:Type} (k':St->List TV->(TV->TV)->Option Y),ej s (m::g) (v::vs) k'=k' (bL s l) f κ:=by
    intro e;rw [e] at h;obtain ⟨l,f,κ,o,z,q,D,h4,h5⟩:=C vs t _ r n.2 h;refine ⟨l,κ v::f,κ,o,z,λA u w j b d=>?_,⟨n.1.imp id λh b d=>h b (h4 _ _ d),D⟩,h4,λs y Y k'=>by rw [e,h5 s y]⟩;rcases eN.1 j with rfl|j
    exact u v (by simp) b (h4 _ _ d);exact q A (λw j=>u w (by simp [j])) w j b d
   cases m with
   |ab T=>
    cases T with
    |slice T=>
     simp only [ej] at h;obtain ⟨l,c,κ,o,z,q,h4⟩:=x1 (B:=B) _ v t _ r (n.1.resolve_left (by simp [PM.gv])) h;split at o;rotate_left;cases o;rename_i x K;obtain ⟨O,f,af,W,X,aa,ac,ad,ae⟩:=C (vs.map κ) _ _ r (n.2.map q) o;refine ⟨l++O,_,_,by rw [hQ];exact W,qO z X,λA u w j b d=>?_,show fN B (_::g) (_::f) from ⟨.inr λb d=>(by cases d),ac⟩,λv b d=>q _ _ (ad _ _ d),λs y Y k'=>?_⟩;rcases eN.1 j with rfl|j
     cases d;refine aa A (λw j b d=>?_) w j b d;obtain ⟨w',J,rfl⟩:=dm.1 j;exact u w' (by simp [J]) b (q _ _ d);simp only [ej];rw [h4 s y];simp only [K];rw [ae _ (y.bL l),hQ]
    |_=>simp [ej] at h
   |_=>exact U λs k=>by simp only [ej]
theorem ak6:∀(n:List PM) (vs:List TV) (t:St) (k:St->List TV->(TV->TV)->Option Z) (r:Z),fN B n vs->cH t n vs k=some r->
 ∃l o κ,k (bL t l) o κ=some r/\(∀m∈l,B m.at)/\(∀A:Nat->Prop,(∀v∈vs,∀b∈v.aK,A b)->∀v∈o,∀b∈v.aK,A b)/\k2 κ/\∀(s:St),ed B s t->∀{Y:Type} (k':St->List TV->(TV->TV)->Option Y),cH s n vs k'=k' (bL s l) o κ:=by
 intro n
 induction n with
 |nil=>
  intro vs t k r K h;cases vs with
  |nil=>exact ⟨[],[],id,h,λm q=>(by cases q),λ_ _ v K=>(by cases K),λv b h=>h,λs _ Y k'=>rfl⟩
  |cons v vs=>simp [cH] at h
 |cons m n ac=>
  intro vs t k r K h;cases vs with
  |nil=>simp [cH] at h
  |cons v vs=>
   have ad:(∀{Y:Type} (s:St) (k:St->List TV->(TV->TV)->Option Y),cH s (m::n) (v::vs) k=cH s n vs λs vs κ=>k s (κ v::vs) κ)->
    ∃l o κ,k (bL t l) o κ=some r/\(∀m∈l,B m.at)/\(∀A:Nat->Prop,(∀w∈v::vs,∀b∈w.aK,A b)->∀v∈o,∀b∈v.aK,A b)/\k2 κ/\∀(s:St),ed B s t->∀{Y:Type} (k':St->List TV->(TV->TV)->Option Y),cH s (m::n) (v::vs) k'=k' (bL s l) o κ:=by
    intro e;rw [e] at h;obtain ⟨l,o,κ,f,C,z,h4,h5⟩:=ac vs t _ r K.2 h;refine ⟨l,κ v::o,κ,f,C,λA D w d b j=>?_,h4,λs J Y k'=>by rw [e,h5 s J]⟩;rcases eN.1 d with rfl|d
    exact D v (by simp) b (h4 _ _ j);exact z A (λw d=>D w (by simp [d])) w d b j
   have U:∀(g:TV->TV) (x:TV),k2 g->x.aK=[]->∀A:Nat->Prop,(∀w∈v::vs,∀b∈w.aK,A b)->∀w∈x::vs.map g,∀b∈w.aK,A b:=by
    intro g x W af A D w d b j;rcases eN.1 d with rfl|d
    simp_all;obtain ⟨w',aa,rfl⟩:=dm.1 d;exact D w' (by simp [aa]) b (W _ _ j)
   have O:∀b p,m.gv=false->v=.ref b p\/v=.sl b p->B b:=by
    intro b p q ae;have:=K.1.resolve_left (by simp [q])
    grind [TV.aK]
   cases m with
   |ptr T=>
    cases v with
    |ref b p=>
     cases p with
     |nil=>
      simp only [cH] at h;obtain ⟨x,_,f,C⟩:=ps (O b [] rfl (.inl rfl)) h;split at f;cases f;rename_i I;split at f;rotate_left;cases f;rename_i y ab;refine ⟨[.drop b],_,_,f,(by exact Ge (O b [] rfl (.inl rfl))),U _ _ (λv c=>Po _ v c) rfl,λv c=>Po _ v c,λs J Y k'=>?_⟩;simp only [cH];rw [C s J,av I];simp only [ab];rfl
     |cons _ _=>simp [cH] at h
    |_=>simp [cH] at h
   | «mut» T=>
    cases T with
    |slice T=>
     cases v with
     |nil=>
      simp only [cH] at h;split at h;cases h;rename_i I;exact ⟨[],_,id,h,λm q=>(by cases q),λA D w d b j=>(by
       rcases eN.1 d with rfl|d
       cases j
       grind),λv b h=>h,λs _ Y k'=>by simp only [cH];rw [av I];rfl⟩
     |sl b p=>
      have j:=O b p rfl (.inr rfl);simp only [cH] at h;split at h;cases h;rename_i I;obtain ⟨x,_,f,C⟩:=ps j h;obtain ⟨c,z,h4⟩:=oW _ _ _ _ f;split at z;rotate_left;cases z;rename_i u y;split at z;rotate_left;cases z;rename_i X;obtain ⟨c',h5,h6⟩:=uR _ _ _ _ _ z;refine ⟨[.set b {x with dI:=false},.set b {x with dI:=false,c:=c'},.ax b p],_,_,h5,λm q=>?_,U _ _ (λv c=>FP _ _ v c) rfl,λv c=>FP _ _ v c,λs J Y k'=>?_⟩;simp only [eN,zE,or_false] at q;rcases q with rfl|rfl|rfl<;>exact j
      simp only [cH];rw [av I,C s J,h4];simp only;rw [aE X,h6];rfl
     |_=>simp [cH] at h
    |_=>simp [cH] at h
   |_=>exact ad λs k=>by simp only [cH]
def air {t:St} {m:PM} {v:TV} {k:List D->Option Z} {r:Z} (e:∀f c,m≠ .bU f c) (h:jz t m v k=some r):∃ds,k ds=some r/\∀(s:St),Ag s t v->∀{Y:Type} (k':List D->Option Y),jz s m v k'=k' ds:=by
 have b:(∀{Y:Type} (s:St) (k:List D->Option Y),jz s m v k=gJ s m v λd=>k [d])->∃ds,k ds=some r/\∀(s:St),Ag s t v->∀{Y:Type} (k':List D->Option Y),jz s m v k'=k' ds:=by
  grind [Wt]
 have ab:∀(T u:Ty) (x:u.ai),(∀{Y:Type} (s:St) (k:List D->Option Y),jz s m v k=if decide (u=T) then k [⟨u,x⟩] else none)->∃ds,k ds=some r/\∀(s:St),Ag s t v->∀{Y:Type} (k':List D->Option Y),jz s m v k'=k' ds:=by
  grind
 cases m with
 |ptr T=>cases v<;>first|exact ab T _ _ λs k=>rfl|exact b λs k=>rfl
 | «mut» T=>cases v<;>first|exact ab T _ _ λs k=>rfl|exact b λs k=>rfl
 |ab T=>cases v<;>first|exact ab T _ _ λs k=>rfl|exact b λs k=>rfl
 |bU f c=>simp_all
 |ro T=>exact b λs k=>by cases v<;>rfl
 |bt T=>exact b λs k=>by cases v<;>rfl
theorem aio {t:St}:∀(b:List PM) (vs:List TV) (k:List D->Option Z) (r:Z),(∀m∈b,∀f c,m≠ .bU f c)->iJ t b vs k=some r->
 ∃ds,k ds=some r/\∀(s:St),(∀v∈vs,Ag s t v)->∀{Y:Type} (k':List D->Option Y),iJ s b vs k'=k' ds:=by
 intro b
 induction b with
 |nil=>
  grind [iJ]
 |cons m b l=>
  intro vs k r e h;cases vs with
  |nil=>simp [iJ] at h
  |cons v vs=>
   simp only [iJ] at h;obtain ⟨d,g,j⟩:=air (e m (by simp)) h
   grind [iJ]
def afO {m:PM} {v:TV} {ds:List D} {t:St} {k:St->List D->Option Z} {r:Z} (I:m.gv=true\/∀b∈v.aK,B b) (h:eD t m v ds k=some r):
 ∃l g,k (bL t l) g=some r/\(∀m∈l,B m.at)/\∀(s:St),ed B s t->∀{Y:Type} (k':St->List D->Option Y),eD s m v ds k'=k' (bL s l) g:=by
 have no:(∀{Y:Type} (s:St) (k:St->List D->Option Y),eD s m v ds k=k s ds)->∃l g,k (bL t l) g=some r/\(∀m∈l,B m.at)/\∀(s:St),ed B s t->∀{Y:Type} (k':St->List D->Option Y),eD s m v ds k'=k' (bL s l) g:=by
  intro e;rw [e] at h;exact ⟨[],ds,h,λm C=>(by cases C),λs _ Y k'=>by rw [e];rfl⟩
 cases m with
 |ptr T=>
  cases v with
  |ref b p=>
   cases p with
   |nil=>
    cases ds with
    |nil=>simp [eD] at h
    |cons d ds=>
     have f:B b:=I.resolve_left (by simp [PM.gv]) b (by simp [TV.aK]);simp only [eD] at h;split at h;rotate_left;cases h;rename_i q;obtain ⟨x,_,y,o⟩:=ps f h;refine ⟨[.set b {x with c:=.ab d.t d.x},.ax b []],_,y,(by exact Gf f f),λs n Y k'=>?_⟩;simp only [eD];rw [aE q,o s n];rfl
   |cons _ _=>simp [eD] at h
  |_=>simp [eD] at h
 | «mut» T=>
  cases v with
  |nil=>
   cases ds with
   |nil=>simp [eD] at h
   |cons d ds=>exact ⟨[],ds,h,λm C=>(by cases C),λs _ Y k'=>rfl⟩
  |sl b p=>
   cases ds with
   |nil=>simp [eD] at h
   |cons d ds=>
    have f:B b:=I.resolve_left (by simp [PM.gv]) b (by simp [TV.aK]);simp only [eD] at h;split at h;rotate_left;cases h;rename_i q;obtain ⟨x,_,y,o⟩:=ps f h;obtain ⟨c,j,h4⟩:=uR _ _ _ _ _ y;cases T with
    |slice u=>
     simp only at j;split at j;rename_i z;refine ⟨[.set b {x with c:=c}],_,j,(by exact Ge f),λs n Y k'=>?_⟩;simp only [eD];rw [aE q,o s n,h4,aE z];rfl;rename_i z;refine ⟨[.set b {x with c:=c},.ax b p],_,j,(by exact Gf f f),λs n Y k'=>?_⟩;simp only [eD];rw [aE q,o s n,h4,av z];rfl
    |_=>cases j
  |_=>simp [eD] at h
 |_=>exact no λs k=>by simp only [eD]
theorem afJ:∀(b:List PM) (vs:List TV) (ds:List D) (t:St) (k:St->Option Z) (r:Z),fN B b vs->gU t b vs ds k=some r->
 ∃l,k (bL t l)=some r/\(∀m∈l,B m.at)/\∀(s:St),ed B s t->∀{Y:Type} (k':St->Option Y),gU s b vs ds k'=k' (bL s l):=by
 intro b
 induction b with
 |nil=>
  intro vs ds t k r c h;cases vs<;>cases ds<;>first|exact ⟨[],h,λm n=>(by cases n),λs _ Y k'=>rfl⟩|simp [gU] at h
 |cons m b o=>
  intro vs ds t k r c h;cases vs with
  |nil=>simp [gU] at h
  |cons v vs=>
   simp only [gU] at h;obtain ⟨l,e,f,g,j⟩:=afO c.1 h;obtain ⟨q,h4,h5,h6⟩:=o vs e _ k r c.2 f;refine ⟨l++q,by rw [hQ];exact h4,qO g h5,λs d Y k'=>?_⟩;simp only [gU];rw [j s d,h6 _ (d.bL l),hQ]
def af9 {t:St} {f:Nat} {vs:List TV} {dst:Option Nat} {k:St->Option Z} {r:Z} {c:az} (o:E.fn f (vs.map l1)=some c) (q:c.bq) (ac:c.plain=true) (j:∀b,B b->A b) (aa:∀v∈vs,∀b∈v.aK,A b) (n:fN B c.params vs) (h:i0 E t f vs dst k=some r):
 Rb A B dst t k r λs _ k'=>i0 E s f vs dst k':=by
 have l:∀m∈c.params,∀f x,m≠ .bU f x:=λm l f x e=>by
  have:=fa.1 ac m l;simp_all
 unfold i0 at h;rw [o] at h;simp only at h;obtain ⟨z,an,ap,U,af,ai,C,_,I⟩:=ak9 (B:=B) _ _ _ _ _ n h;obtain ⟨ad,ao,aq,W,al,aj,_,J⟩:=ak6 (B:=B) _ _ _ _ _ C U;obtain ⟨ds,d,K⟩:=aio _ _ _ _ l W;rw [q] at d;split at d;cases d;rename_i am ak ab;obtain ⟨ae,h4,ah,O⟩:=afJ (B:=B) _ _ _ _ _ _ C d;obtain ⟨v,new,h5,h6,X⟩:=Yf h4;refine ⟨z++ae,v,new,by rw [hQ];exact h5,qO af ah,by rw [hQ];exact h6,λs y u Y k'=>?_⟩;rw [hQ] at u|-;show i0 E s f vs dst k'=_;unfold i0;rw [o];simp only;have g:=y.bL z;have D:=g.bL ad;rw [I s (y.mono j),J _ (g.mono j),K _ (λv n=>D.ag (aj A (ai A aa) v n)),q];simp only [ab];rw [O _ (g.mono j),X _ u]
theorem abd:∀{d:List PM} {vs:List TV},(∀v∈vs,∀b∈v.aK,A b)->∀b,b∈lx d vs->A b
 |[],_,_,b,c=>by simp [lx] at c
 |_::_,[],_,b,c=>by simp [lx] at c
 |m::d,v::vs,h,b,c=>by
  simp only [lx,bI] at c;rcases c with c|c
  simp_all;exact abd (λw e=>h w (by simp [e])) b c
theorem fN.imp {c:Nat->Prop} (h:∀b,B b->c b):∀{d:List PM} {vs:List TV},fN B d vs->fN c d vs
 |[],_,_=>by unfold fN;trivial
 |_::_,[],_=>by unfold fN;trivial
 |_::_,_::_,q=>⟨q.1.imp id λq b e=>h b (q b e),fN.imp h q.2⟩
def abc:∀(c:List PM) (vs:List TV),fN (· ∈lx c vs) c vs
 |[],_=>by unfold fN;trivial
 |_::_,[]=>by unfold fN;trivial
 |m::c,v::vs=>by
  refine ⟨?_,fN.imp (λb d=>?_) (abc c vs)⟩;cases e:m.gv with
  |true=>exact .inl rfl
  |false=>exact .inr λb d=>by simp [lx,e,d]
  simp only [lx,bI];exact .inr d
theorem WV {o:Oper} {s:St} {x:Operand} (d:x∈o.op.operands.toList):∀b∈(s.ev x).aK,b∈hn o s:=λb c=>
 List.mem_flatten.2 ⟨_,dm.2 ⟨x,d,rfl⟩,c⟩
def xw (E:an) (al:Bool) (o:Oper) (t:St) (k:St->Option Z) (r:Z):Prop:=
 ∃l v new,k ((bL t l).step o.dst v new)=some r/\(∀m∈l,m.at∈je E al o t)/\(∀x∈new,∃d,o.dst=some d/\x.1/32=d/\(bL t l).box x.1=none)/\
  ∀(s:St),ed (· ∈hn o t) s t->(∀x∈o.op.operands.toList,s.ev x=t.ev x)->(∀x∈new,(bL s l).box x.1=none)->∀{Y:Type} (k':St->Option Y),nw E al o s k'=k' ((bL s l).step o.dst v new)
def ajx (av:E.xt) {o:Oper} {t:St} {k:St->Option Z} {r:Z} (al:q9 E o t=true) (h:dF E o t k=some r):xw E false o t k r:=by
 have aj:∀x∈o.op.operands.toList,∀b∈(t.ev x).aK,b∈hn o t:=λx j=>WV j
 cases n:o.op with
 |store T a x=>
  have ai:a∈o.op.operands.toList:=dh n (by simp [Op.operands]);have a2:x∈o.op.operands.toList:=dh n (by simp [Op.operands]);have z:o.dst=none:=by
   grind [dF]
  have e:∀{Y:Type} (s:St) (k:St->Option Y),dF E o s k=dW E T λT=>lv s T (s.ev a) (s.ev x) k:=by
   intro Y s k;unfold dF a8;rw [z,n]
  rw [e] at h;obtain ⟨U,q,ao⟩:=jf h;obtain ⟨l,ap,h4,h5⟩:=aps (B:=(· ∈hn o t)) (aj a ai) (aj x a2) q;refine ⟨l,.unit,[],by rw [z];exact ap,(by unfold je;rw [n];exact h4),λx j=>(by cases j),λs J j _ Y k'=>?_⟩;show dF E o s k'=_;rw [e,ao,j a ai,j x a2,h5 s J,z];rfl
 |buildSlice T len D=>
  have m:∀x∈D.toList,x.2∈o.op.operands.toList:=λx j=>dh n (by
   grind [Op.operands])
  unfold dF at h;split at h;rotate_left;rename_i z;unfold a8 at h;simp_all;rename_i d z;split at h;rotate_left;cases h;rename_i K;split at h;cases h;have e:∀{Y:Type} (s:St) (k:St->Option Y),dF E o s k=dW E T λT=>match T with
   | .slice u=>if Nat.beq D.toList.length len&&uQ 0 D.toList&&u.fE&&Nat.ble (len*u.size) 16777216&&(Nat.blt 0 u.size) then (match MX u (D.toList.map λx=>s.ev x.2) with
    |some xs=>qM s E.fA d u xs k
    |none=>m9 s u id (D.toList.map λx=>s.ev x.2) λs xs=>lh s E.fA d u xs k) else none
   |_=>none:=by
   intro Y s k;unfold dF a8;rw [z];simp only [K,n];rfl
  unfold a8 at h;rw [n] at h;simp only [z] at h;obtain ⟨U,q,ao⟩:=jf h;split at q;rotate_left;cases q;rename_i u;split at q;rotate_left;cases q;rename_i ak;split at q;rename_i xs a1;obtain ⟨v,new,X,aa,ah⟩:=W3 (t:=t) q;refine ⟨[],v,new,by rw [z];exact X,λm a0=>(by cases a0),by rw [z];exact aa,λs J j af Y k'=>?_⟩;have ad:(D.toList.map λx=>s.ev x.2)=D.toList.map λx=>t.ev x.2:=lC λx W=>j _ (m x W)
  show dF E o s k'=_;rw [e,ao];simp only;rw [aE ak,ad,a1,z];exact ah s af k';rename_i a1;obtain ⟨l,xs,ap,h4,h5⟩:=VB (B:=(· ∈hn o t)) _ id _ _ _ (λv C=>by
   grind) (λv b h=>h) q
  obtain ⟨v,new,X,aa,ah⟩:=Gc ap;refine ⟨l,v,new,by rw [z];exact X,(by unfold je;rw [n];exact h4),by rw [z];exact aa,λs J j af Y k'=>?_⟩;have ad:(D.toList.map λx=>s.ev x.2)=D.toList.map λx=>t.ev x.2:=lC λx W=>j _ (m x W)
  show dF E o s k'=_
  grind
 |call c=>
  have a4:a8 E o t k=some r/\∀{Y:Type} (s:St) (k:St->Option Y),dF E o s k=a8 E o s k:=by
   grind [dF]
  obtain ⟨q,aq⟩:=a4;have call:tM E az.plain o t=true->xw E false o t k r:=by
   intro a5;obtain ⟨c,g,f,c',n,O,ae,ax,a9⟩:=Vi a5;obtain ⟨am,ag⟩:=L7 n O;rw [tN n O ae] at q;have au:∀v∈c.args.toList.map t.ev,∀b∈v.aK,b∈hn o t:=λv C=>by
    grind
   have an:je E false o t=lx c'.params (c.args.toList.map t.ev):=by
    unfold je;simp_all
   obtain ⟨l,v,new,X,aa,ah,a3⟩:=af9 (A:=(· ∈hn o t)) (B:=(· ∈lx c'.params (c.args.toList.map t.ev))) ax (av.fn _ _ _ ax) a9 (abd au) au (abc _ _) q;refine ⟨l,v,new,X,by rw [an];exact aa,ah,λs J j af Y k'=>?_⟩;have ad:c.args.toList.map s.ev=c.args.toList.map t.ev:=lC λx W=>j _ (ag x W)
   show dF E o s k'=_;rw [aq,tN n O ((j g am).trans ae),ad];exact a3 s J af k'
  have aB:FG E o t=true->xw E false o t k r:=by
   intro hi;unfold FG at hi;rw [n] at hi;simp only at hi;split at hi;rotate_left;cases hi;rename_i g O;split at hi;rotate_left;cases hi;rename_i f ae;split at hi;rotate_left;cases hi;rename_i I ay ar;obtain ⟨am,ag⟩:=L7 n O;rw [tN n O ae] at q;unfold i0 at q;rw [ay,ar] at q;simp only at q;obtain ⟨l,v,hk,a6,a7⟩:=av.inl _ _ _ ar hi _ _ _ _ _ q;have an:je E false o t=((c.args.toList.map t.ev).headD .un).aK:=by
    unfold je;simp_all
   refine ⟨l,v,[],?_,λm a0=>by simp_all,λx j=>(by cases j),λs J j af Y k'=>?_⟩;rw [<-hk];unfold St.step;cases o.dst<;>rfl
   have ad:c.args.toList.map s.ev=c.args.toList.map t.ev:=lC λx W=>j _ (ag x W)
   show dF E o s k'=_;rw [aq,tN n O ((j g am).trans ae),ad];unfold i0;rw [ay,ar];simp only;rw [a7 s (λv C b K=>by
    obtain ⟨x,j,rfl⟩:=dm.1 C;exact J b (aj _ (ag x j) b K))]
   unfold St.step;cases o.dst<;>rfl
  have both:(tM E az.plain o t||FG E o t)=true->xw E false o t k r:=λK=>by
   grind
  cases ak:c.callee with
  |builtin b=>
   cases b with
   |append=>
    have ai:∀x∈c.args.toList,x∈o.op.operands.toList:=λx j=>dh n (by
     grind [Op.operands,Call.operands])
    have e:∀{Y:Type} (s:St) (k:St->Option Y),dF E o s k=builtinK E o s .append c.argTypes.toList (c.args.toList.map s.ev) k:=by
     intro Y s k;rw [aq];unfold a8;simp_all
    rw [e] at h;unfold builtinK at h;split at h;contradiction;rename_i T tx x y _ aC C;split at h;rename_i U aA d aF aD z;obtain ⟨ab,ac,aw,rfl,rfl⟩:∃ab ac,c.args.toList=[ab,ac]/\t.ev ab=x/\t.ev ac=y:=by
     match a6:c.args.toList,C with
     |[ab,ac],C=>
      grind
     |[],C=>simp at C
     |[_],C=>simp at C
     |_::_::_::_,C=>simp at C
    have am:=ai ab (by rw [aw];simp);have ag:=ai ac (by rw [aw];simp);have an:je E false o t=if U.aY then (t.ev ab).aK else hn o t:=by
     unfold je;simp_all
    obtain ⟨l,v,new,X,aa,ah,a3⟩:=afE (A:=(· ∈hn o t)) (B:=(· ∈je E false o t)) (λb K=>by
     grind) (λb K=>by
     grind) (aj ac ag) (λae b K=>by
     grind) h
    refine ⟨l,v,new,by rw [z];exact X,aa,by rw [z];exact ah,λs J j af Y k'=>?_⟩;show dF E o s k'=_
    grind [builtinK]
    cases h
    all_goals grind
   |_=>exact both (by simpa [q9,n,ak] using al)
  |_=>exact both (by simpa [q9,n,ak] using al)
 |_=>rw [q9,n] at al;cases al
def ajw (q:E.xt) {al:Bool} {o:Oper} {t:St} {k:St->Option Z} {r:Z} (y:q9 E o t=true) (h:nw E al o t k=some r):xw E al o t k r:=by
 cases al with
 |false=>exact ajx q y h
 |true=>
  unfold nw at h;simp only at h;split at h;rotate_left;cases h;rename_i T a x e c;have f:a∈o.op.operands.toList:=dh c (by simp [Op.operands]);have z:x∈o.op.operands.toList:=dh c (by simp [Op.operands]);obtain ⟨U,g,j⟩:=jf h;obtain ⟨l,n,h4,h5⟩:=apq (B:=(· ∈(t.ev a).aK)) (λb u=>u) g;refine ⟨l,.unit,[],by rw [e];exact n,(by unfold je;rw [c];exact h4),λx d=>(by cases d),λs v d _ Y k'=>?_⟩;unfold nw;simp only [e,c];rw [j,d a f,d x z,h5 s (v.mono (WV f))];rfl
theorem aiA {o:Oper} {t:St} {k:St->Option Z} {r:Z} (j:MY o t=true) (h:a8 E o t k=some r):∃v new,k (t.step o.dst v new)=some r/\oq E o t v new:=by
 unfold MY at j;split at j;rotate_left;cases j;rename_i T len n g;have j:∀x∈n.toList,(t.ev x.2).aK=[]:=λx e=>by grind
 have m:∀x∈n.toList,x.2∈o.op.operands.toList:=λx e=>dh g (by
  grind [Op.operands])
 unfold a8 at h;rw [g] at h;simp only at h;split at h;rotate_left;cases h;rename_i d f;obtain ⟨U,c,J⟩:=jf h;split at c;rotate_left;cases c;rename_i u;split at c;rotate_left;cases c;rename_i K;have I:∀s:St,(∀x∈o.op.operands.toList,s.ev x=t.ev x/\Ag s t (t.ev x))->(n.toList.map λx=>s.ev x.2)=n.toList.map λx=>t.ev x.2:=λs e=>lC λx X=>(e _ (m x X)).1
 split at c;rename_i xs y;obtain ⟨v,new,z,C,D⟩:=W3 (t:=t) c;refine ⟨v,new,by rw [f];exact z,by rw [f];exact C,λs e q Y k'=>?_⟩;unfold a8;rw [g];simp only [f];rw [J];simp only;rw [aE K,I s e,y];exact D s q k';rename_i y;obtain ⟨l,xs,O,h4,h5⟩:=VB (B:=λ_=>False) _ id _ _ _ (λv ab b aa=>by
  grind) (λv b h=>h) c
 have W:l=[]:=by
  cases l with
  |nil=>rfl
  |cons m l=>exact (h4 m (by simp)).elim
 subst W;obtain ⟨v,new,z,C,D⟩:=Gc (t:=t) O;refine ⟨v,new,by rw [f];exact z,by rw [f];exact C,λs e q Y k'=>?_⟩;unfold a8;rw [g];simp only [f];rw [J];simp only;rw [aE K,I s e,y];simp only;rw [h5 s (λ_ h=>h.elim)];exact D s q k'
theorem ao2 (I:E.xt) {o:Oper} {t:St} {k:St->Option Z} {r:Z} (b:MJ E o t=true) (h:dF E o t k=some r):∃v new,k (t.step o.dst v new)=some r/\oq E o t v new/\(∀{Y:Type} (s:St) (k:St->Option Y),dF E o s k=a8 E o s k):=by
 have D:∀(k:St->Option Z) (r:Z),dF E o t k=some r->a8 E o t k=some r/\∀{Y:Type} (s:St) (k:St->Option Y),dF E o s k=a8 E o s k:=by
  grind [dF]
 obtain ⟨l,z⟩:=D _ _ h;simp only [MJ,gx] at b;rcases b with b|b
 grind [Xc,aiA]
 obtain ⟨c,g,f,c',e,d,u,q,j⟩:=Vi b;have j:∀m∈c'.params,m.gv=true:=fa.1 j
 rw [tN e d u] at l;obtain ⟨v,new,C,h4,h5⟩:=af8 q (I.fn _ _ _ q) j l;obtain ⟨K,O⟩:=L7 e d;refine ⟨v,new,C,⟨h4,λs n J Y k'=>?_⟩,z⟩;obtain ⟨x,y⟩:=ag0 n O;rw [tN e d ((n g K).1.trans u),x,h5 s y J]
end
section
variable {E:an}
def jl (ops:List Oper) (o:Oper) (t:St) (b:Bool):Prop:=
 match o.guard with
 |none=>b=true
 |some (j,want)=>∃(d:Nat) (x:Bool),(ops[j]?).bind (·.dst)=some d/\((t.get d=.ad .bool x/\decide (x=want)=b)\/(t.get d=.tup .unit/\b=false))
structure fM (s t:St):Prop where
 get:∀n,s.get n=t.get n
 box:∀b,s.box b=t.box b
 sv:s.sv=t.sv
theorem fM.rfl (s:St):fM s s:=⟨λ_=>Eq.refl _,λ_=>Eq.refl _,Eq.refl _⟩
def jU (E:an) (ops:List Oper) (o:Oper) (t b:St):Prop:=
 (jl ops o t true/\∃v new,fM b (t.step o.dst v new)/\oq E o t v new/\∀{Y:Type} (s:St) (k:St->Option Y),dF E o s k=a8 E o s k)\/
 (jl ops o t false/\fM b (t.step o.dst (.tup .unit) []))
def agH {Z:Type} {ops:List Oper} {k:St->Option Z} {o:Oper} {bar:Option (List Nat)} {bn:List (Oper×Option (List Nat))} {t:St} {r:Z} (h:iE E ops k ((o,bar)::bn) t=some r):
 (jl ops o t true/\pj E ops bar o t (iE E ops k bn)=some r)\/(jl ops o t false/\iE E ops k bn (t.step o.dst (.tup .unit) [])=some r):=by
 unfold iE at h;cases f:o.guard with
 |none=>rw [f] at h;exact .inl ⟨by simp [jl,f],h⟩
 |some n=>
  obtain ⟨j,want⟩:=n;rw [f] at h;simp only at h;cases l:(ops[j]?).bind (·.dst) with
  |none=>rw [l] at h;cases h
  |some d=>
   rw [l] at h;simp only at h;have w:∀(x:Bool) b,t.get d=.ad .bool x->decide (x=want)=b->jl ops o t b:=λx b q u=>by
    unfold jl;grind
   split at h;rename_i x c;have c:t.get d=.ad .bool (show Bool from x):=c;revert h c;generalize (show Bool from x)=y;intro h c;cases y with
   |true=>
    simp only at h;split at h;simp_all;rename_i g;exact .inr ⟨w true _ c (by simp [g]),by cases e:o.dst<;>rw [e] at h<;>exact h⟩
   |false=>
    simp only at h;split at h;rename_i g;exact .inr ⟨w false _ c (by simp [g]),by cases e:o.dst<;>rw [e] at h<;>exact h⟩;simp_all
   rename_i c;refine .inr ⟨?_,by cases e:o.dst<;>rw [e] at h<;>exact h⟩;unfold jl;simp_all;cases h
def KF (E:an) (ops:List Oper) (zs:List (Oper×Option (List Nat))) {Z:Type} (kn:St->Option Z) (rn:Z) (hi:Nat) (t:St):Prop:=
 (hi=ops.length/\kn t=some rn)\/∃o U al,zs[hi]?=some (o,some U)/\jl ops o t true/\zw E al ops U o t=true/\nw E al o t (iE E ops kn (zs.drop (hi+1)))=some rn
structure gl (E:an) (ops:List Oper) (zs:List (Oper×Option (List Nat))) {Z:Type} (kn:St->Option Z) (rn:Z) (L0:Nat->Prop) (hi:Nat) (T:Nat->St):Prop where
 len:hi<=ops.length
 step:∀i o,i<hi->ops[i]?=some o->¬L0 i->jU E ops o (T i) (T (i+1))
 bn:∀i,i<hi->L0 i->fM (T (i+1)) (T i)
 stop:KF E ops zs kn rn hi (T hi)
def Ys (u:E.xt) (ops:List Oper) (zs:List (Oper×Option (List Nat))) (W:zs.map Prod.fst=ops) {Z:Type} (kn:St->Option Z) (rn:Z):∀(n lo:Nat) (t:St),lo+n=ops.length->iE E ops kn (zs.drop lo) t=some rn->
 ∃(hi:Nat) (T:Nat->St),T lo=t/\lo<=hi/\hi<=ops.length/\(∀i o,lo<=i->i<hi->ops[i]?=some o->jU E ops o (T i) (T (i+1)))/\KF E ops zs kn rn hi (T hi):=by
 have J:zs.length=ops.length:=by grind
 intro n
 induction n with
 |zero=>
  intro lo t x h;rw [List.drop_of_length_le (by omega)] at h;exact ⟨lo,λ_=>t,rfl,cS _,by omega,λi o c b=>by omega,.inl ⟨by omega,h⟩⟩
 |succ n y=>
  intro lo t x h;have g:lo<zs.length:=by omega
  have l:zs[lo]?=some zs[lo]:=a6 g;have O:ops[lo]?=some zs[lo].1:=by grind
  rw [jO g] at h;have fin:∀d,jU E ops zs[lo].1 t d->iE E ops kn (zs.drop (lo+1)) d=some rn->∃(hi:Nat) (T:Nat->St),T lo=t/\lo<=hi/\hi<=ops.length/\(∀i o,lo<=i->i<hi->ops[i]?=some o->jU E ops o (T i) (T (i+1)))/\KF E ops zs kn rn hi (T hi):=by
   intro d j c;obtain ⟨hi,T,I,z,q,C,D⟩:=y (lo+1) d (by omega) c;refine ⟨hi,λm=>if m=lo then t else T m,by simp,by omega,q,λi o c b K=>?_,?_⟩
   grind
   grind
  rcases agH (o:=zs[lo].1) (bar:=zs[lo].2) h with ⟨c,b⟩|⟨c,b⟩
  unfold pj at b;split at b;rename_i j;obtain ⟨v,new,r,h4,h5⟩:=ao2 u j b;exact fin _ (.inl ⟨c,v,new,fM.rfl _,h4,h5⟩) r;split at b;rename_i U f;split at b;rename_i e;exact ⟨lo,λ_=>t,rfl,cS _,by omega,λi o c b=>by omega,.inr ⟨zs[lo].1,U,false,by rw [l,<-f],c,e,b⟩⟩;split at b;rename_i e;exact ⟨lo,λ_=>t,rfl,cS _,by omega,λi o c b=>by omega,.inr ⟨zs[lo].1,U,true,by rw [l,<-f],c,e,b⟩⟩;cases b;cases b;exact fin _ (.inr ⟨c,fM.rfl _⟩) b
theorem kG (s:St) (dst:Option Nat) (v:TV) (new:List (Nat×bm)) (n:Nat):(s.step dst v new).get n=if dst=some n then v else s.get n:=by
 unfold St.step St.get
 grind [gr]
theorem jH (s:St) (dst:Option Nat) (v:TV) (new:List (Nat×bm)) (b:Nat):(s.step dst v new).box b=(lk new b).or (s.box b):=by
 unfold St.step St.box;cases dst<;>exact FV _ _ _
section
variable {Z:Type} {kn:St->Option Z} {rn:Z} {ops:List Oper} {zs:List (Oper×Option (List Nat))} {L0:Nat->Prop} {hi:Nat} {T:Nat->St}
theorem ze (s:St) (dst:Option Nat) (v:TV) (new:List (Nat×bm)):(s.step dst v new).sv=s.sv:=by cases dst<;>rfl
def app {o:Oper} {t b:St} (h:jU E ops o t b):b.sv=t.sv:=by
 rcases h with ⟨_,v,new,e,_⟩|⟨_,e⟩<;>rw [e.sv,ze]
def apn {o:Oper} {t b:St} (h:jU E ops o t b) {n:Nat} (c:o.dst≠some n):b.get n=t.get n:=by
 rcases h with ⟨_,v,new,e,_⟩|⟨_,e⟩<;>rw [e.get,kG,av c]
def apm {o:Oper} {t c:St} (h:jU E ops o t c) {b:Nat} (n:o.dst≠some (b/32)):c.box b=t.box b:=by
 rcases h with ⟨_,v,new,e,f,_⟩|⟨_,e⟩
 rw [e.box,jH,o5 (λx g e=>?_)];rfl;obtain ⟨d,j,l,_⟩:=f.1 x g;simp_all;rw [e.box,jH];rfl
def apo {o:Oper} {t f:St} (h:jU E ops o t f) {b:Nat} {y:bm} (c:t.box b=some y):f.box b=some y:=by
 rcases h with ⟨_,v,new,e,g,_⟩|⟨_,e⟩
 rw [e.box,jH,o5 (λx j e=>?_),c];rfl;obtain ⟨d,l,n,q⟩:=g.1 x j;simp_all;rw [e.box,jH,c];rfl
theorem gl.b1 (S:gl E ops zs kn rn L0 hi T) {i:Nat} (b:i<hi):fM (T (i+1)) (T i)\/∃o,ops[i]?=some o/\¬L0 i/\jU E ops o (T i) (T (i+1)):=by
 by_cases h:L0 i;exact .inl (S.bn i b h);have c:ops[i]?=some _:=a6 (kO b S.len);exact .inr ⟨_,c,h,S.step i _ b c h⟩
theorem gl.mono (S:gl E ops zs kn rn L0 hi T) {b:Nat} {y:bm} {m:Nat}:∀(n:Nat),m+n<=hi->(T m).box b=some y->(T (m+n)).box b=some y:=by
 intro n
 induction n with
 |zero=>intro _ h;exact h
 |succ n c=>
  intro f h;rcases S.b1 (i:=m+n) (by omega) with e|⟨o,g,_,d⟩
  exact (e.box b).trans (c (by omega) h);exact apo d (c (by omega) h)
theorem gl.qD (S:gl E ops zs kn rn L0 hi T) {x:Nat} {m:Nat}:∀(n:Nat),m+n<=hi->(∀i o,m<=i->i<m+n->¬L0 i->ops[i]?=some o->o.dst≠some x)->(T (m+n)).get x=(T m).get x:=by
 intro n
 induction n with
 |zero=>intro _ _;rfl
 |succ n g=>
  intro l h;rw [<-g (by omega) (λi o b j=>h i o b (by omega))];rcases S.b1 (i:=m+n) (by omega) with e|⟨o,d,c,f⟩
  exact e.get x;exact apn f (h _ _ (by omega) (by omega) c d)
theorem gl.Wi (S:gl E ops zs kn rn L0 hi T):∀(n:Nat),n<=hi->(T n).sv=(T 0).sv:=by
 intro n
 induction n with
 |zero=>intro _;rfl
 |succ n c=>
  intro f;rw [<-c (by omega)];rcases S.b1 (i:=n) (by omega) with e|⟨o,g,d,b⟩
  exact e.sv;exact app b
theorem gl.uf (S:gl E ops zs kn rn L0 hi T) {b:Nat} {m:Nat}:∀(n:Nat),m+n<=hi->(∀i o,m<=i->i<m+n->¬L0 i->ops[i]?=some o->o.dst≠some (b/32))->(T (m+n)).box b=(T m).box b:=by
 intro n
 induction n with
 |zero=>intro _ _;rfl
 |succ n j=>
  intro q h;rw [<-j (by omega) (λi o c l=>h i o c (by omega))];rcases S.b1 (i:=m+n) (by omega) with e|⟨o,f,d,g⟩
  exact e.box b;exact apm g (h _ _ (by omega) (by omega) d f)
end
structure kf (ops:List Oper):Prop where
 eD:∀(i:Nat) (o:Oper),ops[i]?=some o->∀j∈dQ o,j<i
 guard:∀(i:Nat) (o:Oper),ops[i]?=some o->∀j w,o.guard=some (j,w)->j∈dQ o
 uj:∀(i:Nat) (o:Oper),ops[i]?=some o->∀x∈e1 ops o,∀(j:Nat) (b:Oper),ops[j]?=some b->b.dst=some x->j∈dQ o\/(i<j/\((ha ops []).getD j 0).testBit i=true)
 b1:∀(i:Nat) (o:Oper),ops[i]?=some o->∀d,o.dst=some d->∀(j:Nat) (b:Oper),ops[j]?=some b->b.dst=some d->j=i
theorem mem_iff (l:List Nat) (n:Nat):mem l n=true↔n∈l:=by
 induction l with
 |nil=>simp [mem]
 |cons k l b=>
  simp only [mem];by_cases e:k=n;subst e;simp;simp_all<;>omega
theorem MH (t:Nat) (o:Oper):nj t o=true↔o.dst=some t:=by
 unfold nj;cases o.dst with
 |none=>simp
 |some d=>
  simp_all
theorem VA {ops:List Oper} (h:Mh ops=true):kf ops:=by
 have key:∀(i:Nat) (o:Oper),ops[i]?=some o->Mi (ha ops []) ops i o=true:=by
  intro i o c;have:=fa.1 h (o,i) (by
   rw [nN];exact ⟨i,by simp [c]⟩)
  exact this
 have all:∀{p:Oper×Nat->Bool},ops.zipIdx.all p=true->∀(j:Nat) (b:Oper),ops[j]?=some b->p (b,j)=true:=by
  intro p u j b c;exact fa.1 u (b,j) (by
   rw [nN];exact ⟨j,by simp [c]⟩)
 refine ⟨λi o c j r=>?_,λi o c j w q=>?_,λi o c x v j b f e=>?_,λi o c d e j b f n=>?_⟩
 all_goals
  have hk:=key i o c;simp only [Mi,bE] at hk;obtain ⟨⟨⟨y,g⟩,z⟩,l⟩:=hk
 have:=fa.1 y j r;simpa [Nat.blt_eq] using this;rw [q] at g;exact (mem_iff _ _).1 g;have:=all (fa.1 z x v) j b f;simp only [(MH x b).2 e,Bool.not_true,lA,gx,bE] at this;exact this.imp (mem_iff _ _).1 λh=>⟨by simpa [Nat.blt_eq] using h.1,h.2⟩
 rw [e] at l;have:=all l j b f;simp only [(MH d b).2 n,Bool.not_true,lA] at this;exact ga this
end
def aiS (acc:List Nat) (k:Nat):∀(l:List Nat),(l.foldr (λj m=>(2^j|||acc.getD j 0)|||m) 0).testBit k=true->∃j∈l,j=k\/(acc.getD j 0).testBit k=true:=by
 intro l
 induction l with
 |nil=>intro h;simp at h
 |cons j l b=>
  grind
def Tv:∀(ops:List Oper) (acc:List Nat),∃l,ha ops acc=acc++l/\l.length=ops.length/\
 ∀(i:Nat) (o:Oper),ops[i]?=some o->∀k,(l.getD i 0).testBit k=true->∃j∈dQ o,j=k\/((ha ops acc).getD j 0).testBit k=true:=by
 intro ops
 induction ops with
 |nil=>intro acc;exact ⟨[],by simp [ha],rfl,λi o h=>by simp at h⟩
 |cons o ops n=>
  intro acc;obtain ⟨l,c,d,f⟩:=n (acc++[(dQ o).foldr (λj m=>(2^j|||acc.getD j 0)|||m) 0]);refine ⟨(dQ o).foldr (λj m=>(2^j|||acc.getD j 0)|||m) 0::l,?_,by simp [d],λi q b k hk=>?_⟩;simp only [ha];rw [c];simp;cases i with
  |zero=>
   simp only [List.getElem?_cons_zero,bi] at b;subst b;simp only [List.getD_cons_zero] at hk;obtain ⟨j,g,e⟩:=aiS _ _ _ hk;refine ⟨j,g,e.imp id λe=>?_⟩;have r:j<acc.length:=by
    grind
   simp only [ha]
   grind
  |succ i=>
   simp only [List.getElem?_cons_succ] at b;simp only [List.getD_cons_succ] at hk;simpa only [ha] using f i q b k hk
def nU (ops:List Oper) (L:Nat->Prop):Prop:=∀(i:Nat) (o:Oper),ops[i]?=some o->L i->∀j∈dQ o,L j
def tF {ops:List Oper} (hk:kf ops) {L:Nat->Prop} (u:nU ops L):∀(n i:Nat) (o:Oper),i<n->ops[i]?=some o->(∀j∈dQ o,L j)->∀k,((ha ops []).getD i 0).testBit k=true->L k:=by
 obtain ⟨l,d,_,q⟩:=Tv ops [];rw [el] at d;intro n
 induction n with
 |zero=>intro i o h;omega
 |succ n y=>
  intro i o hi c f k r;obtain ⟨j,b,e⟩:=q i o c k (by rw [<-d];exact r);rcases e with rfl|e
  exact f j b;have x:=hk.eD i o c j b;have v:j<ops.length:=Nat.lt_trans x (b4.1 c).1;have g:ops[j]?=some ops[j]:=a6 v;exact y j _ (by omega) g (u j _ g (f j b)) k e
def afP {ops:List Oper} {hi:Nat} {o:Oper} {U:List Nat} (h:(ops.zip (jm ops))[hi]?=some (o,some U)):
 ops[hi]?=some o/\∀j,j<ops.length->(j<hi->((ha ops []).getD hi 0).testBit j=true\/j∈U)/\(hi<j->((ha ops []).getD j 0).testBit hi=true):=by
 obtain ⟨l,c,f,_⟩:=Tv ops [];rw [el] at c;obtain ⟨d,g⟩:ops[hi]?=some o/\(jm ops)[hi]?=some (some U):=by
  grind
 refine ⟨d,λj n=>?_⟩;have v:hi<ops.length:=(b4.1 d).1;have b:Lq (ha ops []) hi=some U:=by
  unfold jm at g;simp_all
 unfold Lq at b;simp only at b;split at b;rotate_left;cases b;rename_i u;obtain rfl:=b3 b;have x:j∈List.range (ha ops []).length:=g6.2 (by rw [c,f];exact n);constructor;intro q;have e:Nat.beq j hi=false:=ko (by omega);simp_all;intro q;have e:Nat.beq j hi=false:=ko (by omega);have r:Nat.blt j hi=false:=by
  cases h:Nat.blt j hi with
  |false=>rfl
  |true=>simp [Nat.blt_eq] at h;omega
 grind
section
variable {P:Program} {E:an} {F:Fr} {Q:Exit->Act->World->Prop}
theorem aC.congr {G:Nat->Gh} {s d:St} {a:Act} {w:World} (h:aC F G s a w) (o:∀n,d.get n=s.get n) (l:∀b,d.box b=s.box b) (f:d.sv=s.sv):aC F G d a w:=by
 have e:d.box=s.box:=funext l;refine ⟨λi x c=>?_,λi x c=>?_,λi j x y c g=>?_,λi x c=>?_,λi x c=>?_,h.R,λn=>?_,h.bT,h.fQ,h.defers,h.nt,λi x c=>?_,λi n=>(by unfold St.fW;rw [e,f];exact h.sv i n),by rw [f];exact h.jI⟩;rw [e] at c|-;exact h.box i x c;rw [e] at c;exact h.cC i x c;rw [e] at c g;exact h.c7 i j x y c g;rw [e] at c;exact h.b5 i x c;rw [e] at c;exact h.bQ i x c;rw [e,o];exact h.tmps n;rw [e] at c;exact h.cW i x c
theorem bF.aK {B:Nat->Option bm} {G:Nat->Gh} {w:World} {R:Nat->Prop}:∀(v:TV) (cs:List Value),bF (ay B G) w R v cs->∀b∈v.aK,∃z,B b=some z:=by
 have j:∀b p u,ay B G b p=some u->∃z,B b=some z:=by
  intro b p u h;unfold ay at h
  grind
 intro v
 induction v with
 |ref b p=>intro cs h g e;simp only [TV.aK,gD] at e;subst e;obtain ⟨_,_,_,_,h,_⟩:=h;exact j _ _ _ h
 |sl b p=>intro cs h g e;simp only [TV.aK,gD] at e;subst e;obtain ⟨_,_,_,_,_,h,_⟩:=h;exact j _ _ _ h
 |slw b p lo n=>intro cs h g e;simp only [TV.aK,gD] at e;subst e;obtain ⟨_,_,_,_,_,h,_⟩:=h;exact j _ _ _ h
 |mp b=>intro cs h g e;simp only [TV.aK,gD] at e;subst e;obtain ⟨_,_,_,_,_,h,_⟩:=h;exact j _ _ _ h
 |cons a d y C=>
  intro cs h g e;obtain ⟨q,r,_,l,x⟩:=h;simp only [TV.aK,bI] at e
  grind
 |bU f c o=>
  intro cs h g e;obtain ⟨vs,l,_⟩:=h;exact o vs l g e
 |tup a _=>intro cs h;exact h.elim
 |_=>intro cs h g e;simp [TV.aK] at e
theorem eJ.aK {B:Nat->Option bm} {G:Nat->Gh} {w:World} {R:Nat->Prop} {v:TV} {x:Value} (h:eJ (ay B G) w R v x):∀b∈v.aK,∃z,B b=some z:=by
 rcases h with rfl|⟨cs,h,_⟩
 intro b c;simp [TV.aK] at c;exact bF.aK v cs h
theorem fl.aK {B:Nat->Option bm} {G:Nat->Gh} {w:World} {R:Nat->Prop}:∀(v:TV) (xs:List Value),fl (ay B G) w R v xs->∀b∈v.aK,∃z,B b=some z:=by
 intro v
 induction v with
 |cons a r _ d=>
  intro xs h b c;cases xs with
  |nil=>exact h.elim
  |cons x xs=>
   simp only [TV.aK,bI] at c;rcases c with c|c
   exact eJ.aK h.1 b c;exact d xs h.2 b c
 |unit=>intro xs h b c;simp [TV.aK] at c
 |_=>intro xs h;exact h.elim
theorem VR.aK {B:Nat->Option bm} {G:Nat->Gh} {w:World} {R:Nat->Prop} {v:TV} {x:Value} (h:VR (ay B G) w R v x):∀b∈v.aK,∃z,B b=some z:=by
 by_cases c:∃a,v=.tup a
 obtain ⟨a,rfl⟩:=c;obtain ⟨xs,h,_⟩:=h;exact fl.aK a xs h;rw [oG (λa e=>c ⟨a,e⟩)] at h;exact eJ.aK h
end
section
variable {P:Program} {E:an} {F:Fr} {Q:Exit->Act->World->Prop}
def cn (b:Array Bool) (i:Nat):Prop:=b.getD i false=true
theorem lp {ops:Array Oper} {b:Array Bool} (n:b.size=ops.size) (i:Nat):
 i∈Region.ready .any ops b↔∃o,ops.toList[i]?=some o/\¬cn b i/\∀j∈dQ o,cn b j:=by
 have e:∀o:Oper,(o.after.all λe=> !Region.binds .any e||b.getD e.on false)=true↔∀j∈dQ o,cn b j:=by
  intro o;rw [<-Array.all_toList,fa];constructor;intro h j f;simp only [dQ,dm,gC] at f;obtain ⟨e,⟨d,c⟩,rfl⟩:=f;have:=h e d;rw [c,Bool.not_true,lA] at this;exact this;intro h e d;by_cases c:Region.binds .any e=true;have:=h e.on (by simp only [dQ,dm,gC];grind);unfold cn at this;rw [this];simp;simp [c]
 unfold Region.ready;rw [gC];simp only [g6,bE,il];have g:∀i,i<ops.size->(b.getD i true=false↔¬cn b i):=by
  intro i hi;have l:i<b.size:=by omega
  unfold cn;simp_all
 grind
theorem jA {b:Array Bool} {i:Nat} (hi:i<b.size) (j:Nat):cn (b.setIfInBounds i true) j↔j=i\/cn b j:=by
 unfold cn;rw [jL,jL,Array.getElem?_setIfInBounds]
 grind
def iX (ops:List Oper) (L L0:Nat->Prop) (hi:Nat) (x:Nat):Prop:=∃(i:Nat) (o:Oper),i<hi/\¬L0 i/\L i/\ops[i]?=some o/\o.dst=some x
structure Jn (ops:List Oper) (L L0:Nat->Prop) (hi:Nat) (T:Nat->St) (s:St):Prop where
 Mx:∀x,iX ops L L0 hi x->s.get x=(T hi).get x
 Mw:∀x,¬iX ops L L0 hi x->s.get x=(T 0).get x
 Lv:∀b,iX ops L L0 hi (b/32)->s.box b=(T hi).box b
 oJ:∀b,¬iX ops L L0 hi (b/32)->s.box b=(T 0).box b
 sv:s.sv=(T 0).sv
section
variable {Z:Type} {kn:St->Option Z} {rn:Z} {ops:List Oper} {zs:List (Oper×Option (List Nat))} {L0:Nat->Prop} {hi:Nat} {T:Nat->St} {L:Nat->Prop} {s:St}
def g8 (ops:List Oper) (L:Nat->Prop) (hi:Nat) (x:Nat):Prop:=∃(i:Nat) (o:Oper),i<hi/\¬L i/\ops[i]?=some o/\o.dst=some x
theorem Jn.GX (S:gl E ops zs kn rn L0 hi T) (J:Jn ops L L0 hi T s) {x:Nat} (g:¬g8 ops L hi x):s.get x=(T hi).get x:=by
 by_cases b:iX ops L L0 hi x;exact J.Mx x b;rw [J.Mw x b];have:=S.qD (x:=x) (m:=0) hi (by omega) λi o _ h f e d=>by
  by_cases c:L i;exact b ⟨i,o,by omega,f,c,e,d⟩;exact g ⟨i,o,by omega,c,e,d⟩
 simp_all
theorem Jn.za (S:gl E ops zs kn rn L0 hi T) (J:Jn ops L L0 hi T s) {b:Nat} (h:¬g8 ops L hi (b/32)):s.box b=(T hi).box b:=by
 by_cases c:iX ops L L0 hi (b/32);exact J.Lv b c;rw [J.oJ b c];have:=S.uf (b:=b) (m:=0) hi (by omega) λi o _ j g f e=>by
  by_cases d:L i;exact c ⟨i,o,by omega,g,d,f,e⟩;exact h ⟨i,o,by omega,d,f,e⟩
 simp_all
def Jn.tX (S:gl E ops zs kn rn L0 hi T) (J:Jn ops L L0 hi T s) (h:∀i,i<hi->L i):fM (T hi) s:=
 ⟨λ_=>(J.GX S λ⟨i,_,b,c,_⟩=>c (h i b)).symm,λ_=>(J.za S λ⟨i,_,b,c,_⟩=>c (h i b)).symm,by rw [J.sv];exact S.Wi hi (cS _)⟩
def Jn.yF (hk:kf ops) (S:gl E ops zs kn rn L0 hi T) (J:Jn ops L L0 hi T s) (u:nU ops L) {i:Nat} {o:Oper} (X:i<hi) (r:ops[i]?=some o) (q:¬L i) (I:∀j∈dQ o,L j) {x:Nat} (v:x∈e1 ops o):
 s.get x=(T i).get x:=by
 have C:∀(j:Nat) (b:Oper),L j->ops[j]?=some b->b.dst=some x->j∈dQ o:=λj b n d c=>
  (hk.uj i o r x v j b d c).resolve_right λh=>q (tF hk u (j+1) j b (nQ j) d (u j b d n) i h.2)
 have D:∀(j:Nat) (b:Oper),j<i->ops[j]?=some b->b.dst=some x->j∈dQ o:=λj b n d c=>
  (hk.uj i o r x v j b d c).resolve_right λh=>by omega
 by_cases g:iX ops L L0 hi x;rw [J.Mx x g];obtain ⟨j,b,ab,aa,O,y,z⟩:=g;have n:=hk.eD i o r j (C j b O y z);obtain ⟨m,K⟩:∃m,hi=i+m:=⟨hi-i,by omega⟩
 rw [K];refine S.qD m (by omega) λe l U W _ f c=>?_
 have:=hk.b1 j b y x z e l f c;omega;rw [J.Mw x g];have:=S.qD (x:=x) (m:=0) i (by omega) λe l U W q f c=>g ⟨e,l,by omega,q,I e (D e l (by omega) f c),f,c⟩
 simp_all
theorem Jn.e4 (S:gl E ops zs kn rn L0 hi T) (J:Jn ops L L0 hi T s) {i:Nat} (f:i<=hi) {b:Nat} {y z:bm} (e:(T i).box b=some y) (c:s.box b=some z):y=z:=by
 by_cases d:iX ops L L0 hi (b/32);rw [J.Lv b d] at c;obtain ⟨m,g⟩:∃m,hi=i+m:=⟨hi-i,by omega⟩
 have:=S.mono m (by omega) e;simp_all;rw [J.oJ b d] at c;have:=S.mono (m:=0) i (by omega) c;simp_all
theorem Jn.cM {G:Nat->Gh} {a:Act} {w:World} (h:aC F G s a w) (hk:kf ops) (S:gl E ops zs kn rn L0 hi T) (J:Jn ops L L0 hi T s) (l:nU ops L) {i:Nat} {o:Oper} (d:i<hi) (q:ops[i]?=some o) (n:¬L i) (f:∀j∈dQ o,L j):
 Jg o s (T i):=by
 intro x r;have e:s.ev x=(T i).ev x:=by
  cases x with
  |tmp t=>
   refine J.yF hk S l d q n f ?_;unfold e1;refine bI.2 (.inl (vi.2 ⟨_,r,rfl⟩))
  |_=>rfl
 refine ⟨e,λb g y u=>?_⟩;obtain ⟨z,c⟩:=VR.aK (cu h x) b (by rw [e];exact g);rw [J.e4 S (by omega) u c,c]
theorem Pm {ops:Array Oper} {G:Nat->Gh} {a:Act} {w:World} {t:St} (h:aC F G s a w) {o:Oper} (C:∀x∈e1 ops.toList o,s.get x=t.get x) {b:Bool} (f:jl ops.toList o t b):Region.wanted o (yielded ops a.tmps)=b:=by
 unfold jl at f;cases g:o.guard with
 |none=>rw [g] at f;simp only at f;simp [Region.wanted,g,f]
 |some J=>
  obtain ⟨j,want⟩:=J;rw [g] at f;simp only at f;obtain ⟨d,x,c,y⟩:=f;have z:d∈e1 ops.toList o:=by
   unfold e1;simp_all
  have e:=C d z;rcases y with ⟨l,u⟩|⟨l,u⟩
  rotate_left;rw [l] at e;rw [rc] at c;have r:=VZ h c e;simp only [Region.wanted,g,r];simp_all;rw [l] at e;have q:=VY h e;have r:yielded ops a.tmps j=some x:=by
   have I:a.tmps[d]?=some (.bool x):=by
    rw [jL] at q;cases D:a.tmps[d]? with
    |none=>rw [D] at q;cases q
    |some v=>simp_all
   rw [rc] at c;cases n:ops[j]? with
   |none=>rw [n] at c;cases c
   |some K=>
    rw [n] at c;have c:K.dst=some d:=c;simp only [yielded,n,c,I,Option.bind_some]
  simp only [Region.wanted,g,r];rw [<-u]
  grind
theorem Jn.next (hk:kf ops) (S:gl E ops zs kn rn L0 hi T) (J:Jn ops L L0 hi T s) {i:Nat} {o:Oper} (ae:i<hi) (g:ops[i]?=some o) (ag:¬L i) (ad:¬L0 i) {v:TV} {new:List (Nat×bm)}
 (K:fM (T (i+1)) ((T i).step o.dst v new)) (ah:∀x∈new,∃d,o.dst=some d/\x.1/32=d) {L':Nat->Prop} (C:∀j,L' j↔j=i\/L j):Jn ops L' L0 hi T (s.step o.dst v new):=by
 obtain ⟨m,O⟩:∃m,hi=(i+1)+m:=⟨hi-(i+1),by omega⟩
 have ab:∀x,o.dst=some x->¬iX ops L L0 hi x:=λx l ⟨j,c,_,_,y,n,q⟩=>by
  have:=hk.b1 i o g x l j c n q;simp_all
 have z:∀x,o.dst≠some x->(iX ops L' L0 hi x↔iX ops L L0 hi x):=λx l=>by
  constructor;rintro ⟨j,c,D,I,y,n,q⟩;rcases (C j).1 y with rfl|h
  simp_all;exact ⟨j,c,D,I,h,n,q⟩;rintro ⟨j,c,D,I,y,n,q⟩;exact ⟨j,c,D,I,(C j).2 (.inr y),n,q⟩
 have U:∀b,o.dst≠some (b/32)->lk new b=none:=λb af=>o5 λx l e=>by
  grind
 have wr:∀x,o.dst=some x->iX ops L' L0 hi x:=λx l=>⟨i,o,ae,ad,(C i).2 (.inl rfl),g,l⟩
 refine ⟨λx f=>?_,λx f=>?_,λb f=>?_,λb f=>?_,by rw [ze];exact J.sv⟩;rw [kG];by_cases e:o.dst=some x;rw [aE e,O];rw [S.qD (m:=i+1) m (by omega) (λj c W X _ r u=>by have:=hk.b1 i o g x e j c r u;omega),K.get,kG,aE e];rw [av e];exact J.Mx x ((z x e).1 f);rw [kG];have e:o.dst≠some x:=λe=>f (wr x e)
 rw [av e];exact J.Mw x (λh=>f ((z x e).2 h));rw [jH];by_cases e:o.dst=some (b/32);rw [J.oJ b (ab _ e)];have aa:(T hi).box b=(T (i+1)).box b:=by
  rw [O];exact S.uf (m:=i+1) m (by omega) (λj c W X _ r u=>by have:=hk.b1 i o g _ e j c r u;omega)
 have ac:(T i).box b=(T 0).box b:=by
  have:=S.uf (b:=b) (m:=0) i (by omega) (λj c W X _ r u=>by have:=hk.b1 i o g _ e j c r u;omega);simp_all
 rw [aa,K.box,jH,ac];rw [U b e];exact J.Lv b ((z _ e).1 f);rw [jH];have e:o.dst≠some (b/32):=λe=>f (wr _ e)
 rw [U b e];exact J.oJ b (λh=>f ((z _ e).2 h))
end
end
section
variable {E:an}
theorem Wx {α:Type}:∀{l:List (Nat×α)} {n:Nat} {v:α},lk l n=some v->(n,v)∈l
 |[],_,_,h=>by cases h
 |(k,x)::l,n,v,h=>by
  rw [gr] at h;split at h;simp_all;exact List.mem_cons_of_mem _ (Wx h)
def nV (t:St) (B:List Nat) (b:Nat):Prop:=b∉B/\∀y,t.box b=some y->∀c∈y.c.aK,c∉B
theorem Vq {t:St} {B:List Nat} {b:Nat} (h:Fo t B b=true):nV t B b:=by
 have e:∀c,(!mem B c)=true->c∉B:=λc d f=>by
  rw [(mem_iff B c).2 f] at d;cases d
 simp only [Fo,bE] at h;refine ⟨e b h.1,λy g c d=>e c ?_⟩;simp_all
def arz {al:Bool} {ops:List Oper} {U:List Nat} {o:Oper} {t:St} (h:zw E al ops U o t=true) {j:Nat} (l:j∈U):q9 E o t=true/\∀(j:Nat) (p:Oper),j∈U->ops[j]?=some p->
 (∀x∈e1 ops p,∀(i:Nat) (c:Oper),ops[i]?=some c->c.dst=some x->i∈dQ p\/i∉U)/\(∀n∈l2 ops p++p.dst.toList,∀b∈(t.get n).aK,nV t (je E al o t) b)/\(∀d,p.dst=some d->∀b y,t.box b=some y->b/32=d->nV t (je E al o t) b):=by
 simp only [zw,gx,bE] at h;rcases h with h|⟨q,r⟩
 simp_all;refine ⟨q,λj p l v=>?_⟩;have:=fa.1 r j l;rw [v] at this;simp only [bE] at this;refine ⟨λx z i c D g=>?_,λn u b e=>Vq (fa.1 (fa.1 this.1.2 n u) b e),λd g b y C e=>?_⟩;have h5:=fa.1 (fa.1 this.1.1 x z) (c,i) (by
  grind)
 grind [MH,mem_iff]
 have f:=this.2;rw [g] at f;have h4:=fa.1 f (b,y) (Wx C);simp only [e,nP,Bool.not_true,lA] at h4;exact Vq h4
def Pn {ops:List Oper} {o:Oper} {s t:St} (c:∀x∈l2 ops o,s.get x=t.get x) {b:Bool} (h:jl ops o t b):jl ops o s b:=by
 grind [jl,l2,e1]
theorem Vr {ops:List Oper} {o:Oper}:∀x∈l2 ops o,x∈e1 ops o:=by
 grind [l2,e1]
theorem Fp {ops:List Oper} {o:Oper} (h:∀x i,o.op≠ .extract x i):l2 ops o=e1 ops o:=by
 unfold l2;simp_all
theorem apW (m:Mv) (v:TV):m.tv (.tup v)=.tup (m.tv v):=by cases m<;>rfl
theorem VV:∀(l:List Mv) (v:TV),i5 l (.tup v)=.tup (i5 l v)
 |[],_=>rfl
 |m::l,v=>by simp only [i5,apW,VV l]
def apV (m:Mv):∀(v:TV) (i:Nat) (u:TV),fR v i=some u->fR (m.tv v) i=some (m.tv u):=by
 cases m with
 |set b x=>intro v i u h;exact h
 |ax b p=>
  intro v
  induction v with
  |cons a r f e=>
   intro i u h;cases i with
   |zero=>simp only [fR,bi] at h;subst h;rfl
   |succ i=>exact e i u h
  |ad t x=>
   intro i u h;have:∀(i:Nat) (t:Ty) (x:t.ai) (u:TV),fR (.ad t x) i=some u->∃c x',u=.ad c x':=by
    intro i
    induction i with
    |zero=>intro t x u h;cases t<;>simp [fR] at h;grind
    |succ i d=>intro t x u h;cases t<;>simp [fR] at h;exact d _ _ _ h
   obtain ⟨c,x',rfl⟩:=this i t x u h;exact h
  |_=>intro i u h;cases i<;>simp [fR] at h
 |drop b=>
  intro v
  induction v with
  |cons a r f e=>
   intro i u h;cases i with
   |zero=>simp only [fR,bi] at h;subst h;rfl
   |succ i=>exact e i u h
  |ad t x=>
   intro i u h;have:∀(i:Nat) (t:Ty) (x:t.ai) (u:TV),fR (.ad t x) i=some u->∃c x',u=.ad c x':=by
    intro i
    induction i with
    |zero=>intro t x u h;cases t<;>simp [fR] at h;grind
    |succ i d=>intro t x u h;cases t<;>simp [fR] at h;exact d _ _ _ h
   obtain ⟨c,x',rfl⟩:=this i t x u h;exact h
  |_=>intro i u h;cases i<;>simp [fR] at h
def VU:∀(l:List Mv) (v:TV) (i:Nat) (u:TV),fR v i=some u->fR (i5 l v) i=some (i5 l u)
 |[],_,_,_,h=>h
 |m::l,v,i,u,h=>VU l _ i _ (apV m v i u h)
def ag5 {o:Oper} {x:Operand} {i:Nat} (c:o.op=.extract x i) {t:St} {v u:TV} (f:t.ev x=.tup v) (e:fR v i=some u):oq E o t u []:=
 ⟨λy b=>(by cases b),λs d _ Y k=>by
  grind [Op.operands,a8,Gz]⟩
section
variable {Z:Type} {kn:St->Option Z} {rn:Z} {ops:List Oper} {zs:List (Oper×Option (List Nat))} {L0:Nat->Prop} {hi:Nat} {T:Nat->St} {L:Nat->Prop} {s:St}
def Jn.afR (hk:kf ops) (S:gl E ops zs kn rn L0 hi T) (J:Jn ops L L0 hi T s) (aT:∀i,L0 i->L i) {e:Oper} (aD:ops[hi]?=some e) {B:List Nat}
 (au:∀n o,n<hi->¬L n->ops[n]?=some o->∀x∈e1 ops o,∀(j:Nat) (aJ:Oper),j<=hi->ops[j]?=some aJ->aJ.dst=some x->j∈dQ o)
 (aC:∀j p,j<hi->¬L j->ops[j]?=some p->∀n∈l2 ops p++p.dst.toList,∀b∈((T hi).get n).aK,nV (T hi) B b)
 (bq:∀j p,j<hi->¬L j->ops[j]?=some p->∀d,p.dst=some d->∀b y,(T hi).box b=some y->b/32=d->nV (T hi) B b)
 {l:List Mv} {v:TV} {new:List (Nat×bm)} (ag:∀m∈l,m.at∈B) (aZ:∀x∈new,∃d,e.dst=some d/\x.1/32=d/\(bL (T hi) l).box x.1=none):
 ∃r:Nat->St,r 0=(bL s l).step e.dst v new/\(∀i o,i<hi->ops[i]?=some o->¬L i->jU E ops o (r i) (r (i+1)))/\(∀i,i<hi->L i->fM (r (i+1)) (r i))/\
  fM ((bL (T hi) l).step e.dst v new) (r hi):=by
 have az:∀{t:TV},(∀b∈t.aK,nV (T hi) B b)->i5 l t=t:=λ{t} h=>VT l λm ae K=>(h _ K).1 (ag m ae)
 have bo:∀{b:Nat} {y:bm},(T hi).box b=some y->nV (T hi) B b->oK b l (some y)=some y:=λ{b y} aa h=>TC l λm ae=>⟨λe=>h.1 (e▸ag m ae),λaU=>h.2 y aa _ aU (ag m ae)⟩
 have aH:∀b,e.dst≠some (b/32)->lk new b=none:=λb K=>o5 λx q e=>by
  grind
 have bl:∀x,e.dst≠some x->((bL s l).step e.dst v new).get x=i5 l (s.get x):=λx q=>by rw [kG,av q,y8]
 have bk:∀b,((bL s l).step e.dst v new).box b=(lk new b).or (oK b l (s.box b)):=λb=>by rw [jH,nB]
 have ay:∀(j:Nat) (o:Oper) (x:Nat),j<hi->ops[j]?=some o->o.dst=some x->e.dst≠some x:=λj o x bu X q al=>by
  have:=hk.b1 j o X x q hi e aD al;omega
 have key:∀n,n<=hi->∃r:Nat->St,r 0=(bL s l).step e.dst v new/\(∀i o,i<n->ops[i]?=some o->¬L i->jU E ops o (r i) (r (i+1)))/\(∀i,i<n->L i->fM (r (i+1)) (r i))/\
  (∀x,g8 ops L n x->(r n).get x=(T hi).get x)/\(∀x,¬g8 ops L n x->(r n).get x=((bL s l).step e.dst v new).get x)/\
  (∀b,g8 ops L n (b/32)->(r n).box b=(T hi).box b)/\(∀b,¬g8 ops L n (b/32)->(r n).box b=((bL s l).step e.dst v new).box b)/\(r n).sv=((bL s l).step e.dst v new).sv:=by
  intro n
  induction n with
  |zero=>
   intro _;have no:∀x,¬g8 ops L 0 x:=λx ⟨i,_,h,_⟩=>Nat.not_lt_zero i h
   exact ⟨λ_=>_,rfl,λi o h=>absurd h (Nat.not_lt_zero i),λi h=>absurd h (Nat.not_lt_zero i),λx h=>absurd h (no x),λx _=>rfl,λb h=>absurd h (no _),λb _=>rfl,rfl⟩
  |succ n bg=>
   intro ah;obtain ⟨r,t0,aL,aM,t3,t4,t5,a7,a9⟩:=bg (by omega);obtain ⟨o,X⟩:∃o,ops[n]?=some o:=⟨_,a6 (kO ah S.len)⟩
   have ext:∀(u:St) (i:Nat),i<=n->(if i<=n then r i else u)=r i:=λu i hi=>aE hi
   have aS:∀(u:St),(if n+1<=n then r (n+1) else u)=u:=λu=>av (by omega)
   by_cases ak:L n
   ·
    have be:∀x,g8 ops L (n+1) x↔g8 ops L n x:=λx=>by
     constructor;rintro ⟨i,p,C,D,I⟩;by_cases aQ:i=n;simp_all;exact ⟨i,p,by omega,D,I⟩;rintro ⟨i,p,C,D,I⟩;exact ⟨i,p,by omega,D,I⟩
    refine ⟨λi=>if i<=n then r i else r n,by simp [t0],λi p hi ab ag=>?_,λi hi ag=>?_,?_⟩
    grind
    grind [fM.rfl]
    grind
   have aX:¬L0 n:=λh=>ak (aT n h)
   have b0:∀(x:Nat),o.dst=some x->∀(j:Nat) (p:Oper),ops[j]?=some p->p.dst=some x->j=n:=λx q j p ab ba=>hk.b1 n o X x q j p ab ba
   have bi:∀x,o.dst=some x->¬g8 ops L n x:=λx q ⟨j,p,C,_,I,O⟩=>by grind
   have bU:=aC n o ah ak X;obtain ⟨m,ae⟩:∃m,hi=n+m:=⟨hi-n,by omega⟩
   obtain ⟨a4,a0⟩:∃m,hi=(n+1)+m:=⟨hi-(n+1),by omega⟩
   have a3:∀x∈e1 ops o,(T hi).get x=(T n).get x:=λx q=>by
    rw [ae];refine S.qD m (by omega) λi p C D _ ab U=>?_
    have:=hk.eD n o X i (au n o ah ak X x q i p (by omega) ab U);omega
   have aI:∀x∈e1 ops o,(r n).get x=(T n).get x\/(r n).get x=i5 l ((T n).get x):=λx q=>by
    rw [<-a3 x q];by_cases W:g8 ops L n x;exact .inl (t3 x W);right;have aV:e.dst≠some x:=λal=>by
     have:=hk.eD n o X hi (au n o ah ak X x q hi e (cS _) aD al);omega
    rw [t4 x W,bl x aV,J.GX S λ⟨j,p,C,D,I,O⟩=>W ⟨j,p,hk.eD n o X j (au n o ah ak X x q j p (by omega) I O),D,I,O⟩]
   have aw:∀x∈l2 ops o,(r n).get x=(T n).get x:=λx q=>by
    rcases aI x (Vr x q) with h|h
    exact h;rw [h,<-a3 x (Vr x q)];exact az λb K=>bU x (bI.2 (.inl q)) b K
   have bt:∀b,o.dst=some (b/32)->(r n).box b=(T n).box b:=λb K=>by
    rw [a7 b (bi _ K),bk,aH b (ay n o _ ah X K)];have aO:(T n).box b=(T 0).box b:=by
     have:=S.uf (b:=b) (m:=0) n (by omega) λi p C D _ ab U=>by grind
     grind
    have aP:s.box b=(T 0).box b:=J.oJ b λ⟨i,p,_,_,I,O,bz⟩=>by
     grind
    rw [aP,<-aO];cases aa:(T n).box b with
    |none=>rw [Lw];rfl
    |some y=>
     have a2:(T hi).box b=some y:=by rw [ae];exact S.mono m (by omega) aa
     grind
   have aR:(∀x i,o.op≠ .extract x i)->∀x∈o.op.operands.toList,(r n).ev x=(T n).ev x:=λam x q=>by
    cases x with
    |tmp t=>exact aw t (by
     rw [Fp am];unfold e1;exact bI.2 (.inl (vi.2 ⟨_,q,rfl⟩)))
    |_=>rfl
   have aN:(∀x i,o.op≠ .extract x i)->∀x∈o.op.operands.toList,∀b∈((T n).ev x).aK,∀y,(T n).box b=some y->(r n).box b=some y:=by
    intro am x q b K y aa;have a2:(T hi).box b=some y:=by rw [ae];exact S.mono m (by omega) aa
    by_cases W:g8 ops L n (b/32);rw [t5 b W,a2];have br:nV (T hi) B b:=by
     cases x with
     |tmp t=>
      have aG:t∈e1 ops o:=by
       unfold e1;exact bI.2 (.inl (vi.2 ⟨_,q,rfl⟩))
      exact bU t (bI.2 (.inl (by rw [Fp am];exact aG))) b (by rw [a3 t aG];exact K)
     |const c=>exact absurd K (by
      simp only [St.ev,Mf];split<;>(try split)<;>simp [TV.aK])
     |func f=>exact absurd K (by simp [St.ev,TV.aK])
     |global g=>exact absurd K (by simp [St.ev,TV.aK])
    have bw:s.box b=some y:=by
     by_cases aB:g8 ops L hi (b/32);obtain ⟨j,p,C,D,I,O⟩:=aB;have bv:n<=j:=Nat.le_of_not_lt λh=>W ⟨j,p,h,D,I,O⟩
     rw [J.oJ b λ⟨i,a5,_,_,ap,bj,r5⟩=>by
      have:=hk.b1 j p I _ O i a5 bj r5
      grind]
     have:=S.uf (b:=b) (m:=0) n (by omega) λi a5 an ao _ ab U=>by have:=hk.b1 j p I _ O i a5 ab U;omega
     grind
     rw [J.za S aB,a2]
    have au:lk new b=none:=o5 λx q ex=>by
     obtain ⟨d,_,_,ap⟩:=aZ x q
     grind [nB]
    grind
   obtain ⟨af,ac,ar,aY,aF⟩:∃af ac,fM (T (n+1)) ((T n).step o.dst af ac)/\(∀x∈ac,∃d,o.dst=some d/\x.1/32=d)/\jU E ops o (r n) ((r n).step o.dst af ac):=by
    rcases S.step n o ah X aX with ⟨ax,af,ac,C,D,I⟩|⟨ax,C⟩
    by_cases al:∃x i,o.op=.extract x i
    ·obtain ⟨x,i,a1⟩:=al;have bh:x∈o.op.operands.toList:=dh a1 (by simp [Op.operands]);have ad:=D.2 (T n) (λx _=>⟨rfl,λb _ y aa=>aa⟩) (λy aa=>by
      obtain ⟨d,_,_,ap⟩:=D.1 y aa;exact ap) some
     unfold a8 at ad;rw [a1] at ad;simp only at ad;split at ad;rotate_left;cases ad;rename_i v ai;split at ad;rotate_left;cases ad;rename_i u aq;rw [Gz] at ad;have bc:=b3 ad;rw [<-bc] at C;have bd:∃aA aj,(r n).ev x=.tup aA/\fR aA i=some aj/\(aj=u\/aj=i5 l u):=by
      cases x with
      |tmp z=>
       have bf:z∈e1 ops o:=by
        unfold e1;exact bI.2 (.inl (vi.2 ⟨_,bh,rfl⟩))
       have ai:(T n).get z=.tup v:=ai;rcases aI z bf with h|h
       exact ⟨v,u,h.trans ai,aq,.inl rfl⟩;exact ⟨i5 l v,i5 l u,by rw [<-VV,<-ai];exact h,VU l v i u aq,.inr rfl⟩
      |const c=>exact ⟨v,u,ai,aq,.inl rfl⟩
      |func f=>exact ⟨v,u,ai,aq,.inl rfl⟩
      |global g=>exact ⟨v,u,ai,aq,.inl rfl⟩
     obtain ⟨aA,aj,an,ao,ap⟩:=bd;have aF:fM (T (n+1)) ((T n).step o.dst aj []):=by
      rcases ap with rfl|rfl
      exact C;cases U:o.dst with
      |none=>rw [U] at C;exact C
      |some d=>
       have ar:(T hi).get d=u:=by
        rw [a0,S.qD a4 (by omega) (λi p C D _ ab bs=>by grind),C.get,kG,aE U]
       rw [az λb K=>bU d (bI.2 (.inr (by rw [U];simp))) b (by rw [ar];exact K),<-U];exact C
     exact ⟨aj,[],aF,λx q=>(by cases q),.inl ⟨Pn aw ax,aj,[],fM.rfl _,ag5 a1 an ao,I⟩⟩
    have am:∀x i,o.op≠ .extract x i:=λx i h=>al ⟨x,i,h⟩
    refine ⟨af,ac,C,λx q=>(D.1 x q).imp λd U=>⟨U.1,U.2.1⟩,.inl ⟨Pn aw ax,af,ac,fM.rfl _,⟨λx q=>?_,λs2 bb aW Y k=>?_⟩,I⟩⟩;obtain ⟨d,an,ao,ap⟩:=D.1 x q
    grind
    refine D.2 s2 (λx q=>?_) aW k;obtain ⟨an,ao⟩:=bb x q;rw [aR am x q] at an ao;exact ⟨an,λb K y aa=>ao b K y (aN am x q b K y aa)⟩;exact ⟨_,[],C,λx q=>(by cases q),.inr ⟨Pn aw ax,fM.rfl _⟩⟩
   have bx:∀b,o.dst≠some (b/32)->lk ac b=none:=λb K=>o5 λx q e=>by
    obtain ⟨d,C,D⟩:=aY x q
    grind
   have be:∀x,g8 ops L (n+1) x↔(g8 ops L n x\/o.dst=some x):=λx=>by
    constructor;rintro ⟨i,p,C,D,I,O⟩;by_cases aQ:i=n
    grind
    exact .inl ⟨i,p,by omega,D,I,O⟩;rintro (⟨i,p,C,D,I⟩|h);exact ⟨i,p,by omega,D,I⟩;exact ⟨n,o,by omega,ak,X,h⟩
   have bp:∀x,o.dst=some x->(T hi).get x=af:=λx q=>by
    rw [a0,S.qD a4 (by omega) (λi p C D _ ab U=>by grind),ar.get,kG,aE q]
   have bn:∀b,o.dst=some (b/32)->(T hi).box b=(lk ac b).or ((T n).box b):=λb K=>by
    rw [a0,S.uf a4 (by omega) (λi p C D _ ab U=>by grind),ar.box,jH]
   refine ⟨λi=>if i<=n then r i else (r n).step o.dst af ac,by simp [t0],λi p hi ab ag=>?_,λi hi ag=>?_,?_⟩
   grind
   grind
   simp only [aS];refine ⟨λx q=>?_,λx q=>?_,λb K=>?_,λb K=>?_,by rw [ze];exact a9⟩;rw [kG];by_cases ex:o.dst=some x
   grind
   grind
   grind [kG]
   rw [jH];by_cases ex:o.dst=some (b/32)
   grind
   grind
   grind [jH]
 obtain ⟨r,t0,aL,aM,t3,t4,t5,a7,a9⟩:=key hi (cS _);refine ⟨r,t0,aL,aM,⟨λx=>?_,λb=>?_,?_⟩⟩;by_cases W:g8 ops L hi x;rw [t3 x W];obtain ⟨j,p,C,D,I,O⟩:=W;rw [kG,av (ay j p x C I O),y8];exact az λb K=>aC j p C D I x (bI.2 (.inr (by rw [O];simp))) b K
 rw [t4 x W,kG,kG];split;rfl;rw [y8,y8,J.GX S W];by_cases W:g8 ops L hi (b/32);rw [t5 b W];obtain ⟨j,p,C,D,I,O⟩:=W;rw [jH,aH b (ay j p _ C I O),nB];cases aa:(T hi).box b with
 |none=>rw [Lw];rfl
 |some y=>grind
 rw [a7 b W,jH,jH,nB,nB,J.za S W];rw [a9,ze,ze,N7,N7,J.sv,S.Wi hi (cS _)]
end
end
section
variable {P:Program} {Q:Exit->Act->World->Prop}
theorem Gy:∀(p:List Nat) (n:Nat),n∈p->fF p n<p.length/\p[fF p n]?=some n
 |[],_,h=>by cases h
 |k::r,n,h=>by
  by_cases e:k=n;subst e;simp [fF];have b:n∈r:=by grind
  obtain ⟨c,d⟩:=Gy r n b;simp only [fF,ko e,kK,dA,jh,List.getElem?_cons_succ];simp_all
theorem NK:∀(p:List Nat) (n:Nat),n∉p->fF p n=p.length
 |[],_,_=>rfl
 |k::r,n,h=>by
  simp only [eN,hv] at h;simp only [fF,ko (Ne.symm h.1),kK,dA,jh,NK r n h.2]
structure Perm (p:List Nat) (n:Nat):Prop where
 len:p.length=n
 mem:∀i,i<n->i∈p
 ck:∀i j,p[i]?=some j->fF p j=i
 lt:∀j,j∈p->j<n
theorem alb {p:List Nat} {n:Nat} (h:NH p n=true):Perm p n:=by
 simp only [NH,bE] at h;obtain ⟨⟨b,e⟩,c⟩:=h;have b:p.length=n:=ga b;have c:∀i,i<n->i∈p/\fF p (p.getD i 0)=i:=λi hi=>by
  have:=fa.1 c i (g6.2 hi);simp only [bE] at this;exact ⟨(mem_iff p i).1 this.1,ga this.2⟩
 have d:∀i j,p[i]?=some j->fF p j=i:=λi j f=>by
  grind
 exact ⟨b,λi hi=>(c i hi).1,d,λj g=>by simp_all⟩
section
variable {p:List Nat} {ops:Array Oper}
def jb (p:List Nat) (ops:Array Oper):Array Oper:=(p.filterMap λi=>(ops.toList[i]?).map (lq p)).toArray
theorem VK {α β:Type} {f:α->Option β}:∀(l:List α),(∀x∈l,∃y,f x=some y)->(l.filterMap f).length=l.length/\∀(i:Nat),(l.filterMap f)[i]?=(l[i]?).bind f
 |[],_=>⟨rfl,λi=>by simp⟩
 |x::l,h=>by
  obtain ⟨y,e⟩:=h x (by simp);obtain ⟨c,d⟩:=VK l λx b=>h x (by simp [b])
  grind
theorem NG (c:Perm p ops.size):(jb p ops).size=ops.size/\(∀(i:Nat),(jb p ops)[i]?=(p[i]?).bind λj=>(ops[j]?).map (lq p))/\∀(j:Nat),j<ops.size->(jb p ops)[fF p j]?=(ops[j]?).map (lq p):=by
 obtain ⟨e,g⟩:=VK (f:=λi=>(ops.toList[i]?).map (lq p)) p λj b=>by
  have:=c.lt j b;simp_all
 have d:∀(i:Nat),(jb p ops)[i]?=(p[i]?).bind λj=>(ops[j]?).map (lq p):=λi=>by
  unfold jb;simp_all
 refine ⟨by unfold jb;rw [zF,e,c.len],d,λj b=>?_⟩;rw [d,(Gy p j (c.mem j b)).2];rfl
theorem Yd (o:Oper):dQ (lq p o)=(dQ o).map (fF p):=by
 unfold dQ lq;simp only [zz,List.map_map,List.filter_map];congr 1
theorem arG (c:Perm p ops.size) (ts:Array Value) (j:Nat):yielded (jb p ops) ts (fF p j)=yielded ops ts j:=by
 unfold yielded;obtain ⟨g,l,d⟩:=NG c;by_cases b:j<ops.size;rw [d j b];cases ops[j]?<;>rfl
 have e:ops[j]?=none:=Array.getElem?_eq_none (by omega);have f:fF p j=p.length:=NK p j λh=>b (c.lt j h)
 simp_all
theorem arv (c:Perm p ops.size) (o:Oper) (ts:Array Value):Region.wanted (lq p o) (yielded (jb p ops) ts)=Region.wanted o (yielded ops ts):=by
 unfold Region.wanted lq;cases o.guard with
 |none=>rfl
 |some g=>
  obtain ⟨j,b⟩:=g;simp only [dy];rw [arG c]
def arC (v:Perm p ops.size):∀(r:Nat) (l b:Array Bool) (a:Act) (w:World),l.size=ops.size->b.size=ops.size->(∀j,j<ops.size->(cn b (fF p j)↔cn l j))->
 wpAny P .any (jb p ops) Q r b a w->wpAny P .any ops Q r l a w:=by
 obtain ⟨s1,s2,aa⟩:=NG v;have X:∀(l:Array Bool) j,cn l j->j<l.size:=λl j h=>by
  apply im;intro u;unfold cn at h;simp_all
 have D:∀(l b:Array Bool),l.size=ops.size->b.size=ops.size->(∀j,j<ops.size->(cn b (fF p j)↔cn l j))->∀j,j∈Region.ready .any ops l->fF p j∈Region.ready .any (jb p ops) b:=by
  intro l b c q f j d;obtain ⟨o,g,u,z⟩:=(lp c j).1 d;have x:j<ops.size:=(b4.1 g).1;refine (lp (by rw [s1,q]) _).2 ⟨lq p o,?_,λh=>u ((f j x).1 h),λk hk=>?_⟩;simp_all;rw [Yd] at hk
  grind
 have K:∀(l b:Array Bool),l.size=ops.size->b.size=ops.size->(∀j,j<ops.size->(cn b (fF p j)↔cn l j))->Region.ready .any ops l=[]->Region.ready .any (jb p ops) b=[]:=by
  intro l b c q f I;apply zB.2;intro i hi;obtain ⟨ad,y,u,z⟩:=(lp (by rw [s1,q]) i).1 hi;rw [rc,s2] at y;cases d:p[i]? with
  |none=>simp_all
  |some j=>
   rw [d] at y;simp only [Option.bind_some] at y;cases g:ops[j]? with
   |none=>simp_all
   |some o=>
    rw [g] at y;obtain rfl:=b3 y;have x:j<ops.size:=(zy.1 g).1;have ab:=v.ck i j d;have:j∈Region.ready .any ops l:=(lp c j).2 ⟨o,by simp_all,λh=>u (by grind),λk hk=>by
     have:=z (fF p k) (by rw [Yd];grind);have U:k<ops.size:=by
      apply im;intro u;rw [NK p k λh=>u (v.lt k h)] at this;have:=X _ _ this;have:=v.len;omega
     exact (f k U).1 this⟩
    simp_all
 intro r
 induction r with
 |zero=>
  intro l b a w c q f h;refine ⟨?_,h.2⟩;apply zB.2;intro j d;have:=D l b c q f j d;rw [h.1] at this;cases this
 |succ r W=>
  intro l b a w c q f h;refine ⟨λI=>h.1 (K l b c q f I),λj d=>?_⟩;obtain ⟨o,g,u,z⟩:=(lp c j).1 d;have x:j<ops.size:=(b4.1 g).1;have ac:fF p j<ops.size:=by grind
  have n:=h.2 _ (D l b c q f j d);have J:∀a w,wpAny P .any (jb p ops) Q r (b.setIfInBounds (fF p j) true) a w->wpAny P .any ops Q r (l.setIfInBounds j true) a w:=λa w=>by
   refine W _ _ a w (by simp_all) (by simp_all) λk hk=>?_
   rw [jA (by omega),jA (by omega),f k hk];refine ⟨λh=>h.imp (λe=>?_) id,λh=>h.imp (λe=>by rw [e]) id⟩;have O:=(Gy p j (v.mem j x)).2;rw [<-e,(Gy p k (v.mem k hk)).2] at O;simp_all
  rw [rc] at g;unfold wpOp at n|-;rw [aa j x,g] at n;rw [g];simp only [dy] at n|-;rw [arv v] at n;split;rename_i C;rw [aE C] at n;exact n.imp (λh=>Oper.wp_mono J h) id;rename_i C;rw [av C] at n;exact J _ _ n
end
theorem arB {ops:Array Oper} {a:Act} {w:World} (h:wpAny P .any (kt ops.toList).toArray Q (kt ops.toList).toArray.size (Array.replicate (kt ops.toList).toArray.size false) a w):wpAny P .any ops Q ops.size (Array.replicate ops.size false) a w:=by
 unfold kt at h;simp only at h;split at h;rename_i b;have b:Perm (yU ops.toList.length 0 (mq 0 ops.toList (ha ops.toList []))) ops.size:=alb b;generalize yU ops.toList.length 0 (mq 0 ops.toList (ha ops.toList []))=p at h b;have d:=(NG b).1;change wpAny P .any (jb p ops) Q (jb p ops).size (Array.replicate (jb p ops).size false) a w at h;rw [d] at h;have no:∀i,¬cn (Array.replicate ops.size false) i:=by
  intro i c;unfold cn at c;rw [jL,HB] at c
  grind
 exact arC b _ _ _ a w (by simp) (by simp) (λj _=>⟨λh=>absurd h (no _),λh=>absurd h (no _)⟩) h;simpa using h
end
end Go.TM
