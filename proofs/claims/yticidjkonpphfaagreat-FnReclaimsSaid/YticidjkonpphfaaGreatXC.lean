/- Part 3 of 8. -/
import Derived.Carry
import Derived.ChangeShapes
import Derived.KernelRfl
import Derived.Lib.Bytealg
import Derived.OpenShut
import Derived.OwnWalkIn
import Derived.RangeFuncBox
import Derived.RangeFuncLeaves
import Derived.RowKit
import Derived.Shelf.SlIterI.Sorted
import Derived.Shelf.SortM.Plain
import Derived.Shelf.SortM.SortNone
import Derived.Shelf.Spec.SlicesGrow
import Derived.SizedLaws
import Derived.Test.YticidjkonpphfaaGreatProg
import Derived.Test.YticidjkonpphfaaGreatXB
set_option autoImplicit false
set_option linter.unusedVariables false
set_option linter.unusedSimpArgs false
set_option linter.defProp false
set_option linter.constructorNameAsVariable false
namespace Go.TM
section
variable {Z:Type} {P:Program} {E:an} {F:Fr} {G:Nat->Gh} {s:St} {a:Act} {w w2:World} {Q:Exit->Act->World->Prop}
def jB (K:Ty) (key:K.ai) (xs:List (K.ai×Int×Unit)):Nat:=match hI K key 0 xs with
 |some x=>x.1
 |none=>xs.length
def ai6 {K:Ty} (d:iI K) (key:K.ai) (xs:List (K.ai×Int×Unit)) (u:Int):jB K key xs<(dE K key u xs).length/\((dE K key u xs)[jB K key xs]?).map Prod.fst=some key/\
 ∀v,(dE K key u xs).set (jB K key xs) (key,v,())=dE K key v xs:=by
 unfold jB;rcases uw d key u xs 0 with ⟨b,c⟩|⟨i,z,b,c,e,h4⟩
 grind [uw]
 rw [c,e];simp only [kR];refine ⟨by simpa using b,by simp [b],λv=>?_⟩;rcases uw d key v xs 0 with ⟨f,_⟩|⟨j,y,_,g,h,_⟩
 simp_all;simp_all
theorem Wk {K:Ty} (b:iI K) (x:K.ai):la K x x=true:=by
 rcases b with rfl|rfl
 exact rq (α:=Int) x;exact rq (α:=List Int) x
theorem Ni {K:Ty} (b:iI K) (key:K.ai) (v:Int):∀(xs:List (K.ai×Int×Unit)),cZ K key (dE K key v xs)=v
 |[]=>by simp [dE,cZ,Wk b]
 |e::r=>by
  rw [dE];split;simp [cZ,Wk b];rename_i h;rw [cZ,av h];exact Ni b key v r
def ahi {K:Ty} {xs:List (K.ai×Int×Unit)} {b:Array MapEntry} (h:s3 K xs b) {i:Nat} (hi:i<xs.length):b.findIdx? (λe=>(e.born:Int)==(i:Int))=some i:=by
 obtain ⟨f,c⟩:=h;have g:∀j (d:j<b.size),b[j].born=j:=λj d=>by
  obtain ⟨_,e,l,_,_,n⟩:=c j xs[j] (a6 (by omega))
  grind
 rw [Array.findIdx?_eq_some_iff_getElem]
 grind
def aiN (h:aC F G s a w) {t:TypeId} {K:Ty} (an:o6 P K t=true) {b:Nat} {mv ak:Value} (av:VR (ay s.box G) w F.R (.mp b) mv) {bx:bm} (ad:s.box b=some bx) (a0:bx.cm=true) {xs:List (K.ai×Int×Unit)}
 (a7:bx.c=.tup (.ab (.slice (eT K)) xs)) {key:K.ai} (af:ak=fg K key) (D:dg K key):
 ∃w',(Instr.mapEntry t mv ak).run P w=.ok (.tuple #[.int .i64 (cZ K key xs),.int .i64 (jB K key xs)]) w'/\aC F G (s.b2 b {bx with c:=.tup (.ab (.slice (eT K)) (show List (K.ai×Int×Unit) from dE K key (cZ K key xs) xs))}) a w':=by
 obtain ⟨aD,al,ag,W,ax,u⟩:=qJ an;obtain ⟨d,ac,J,ar,a8,az,f,ae,U,_,ao⟩:=yP (K:=K) (k:=some) (r:=xs) h av ad (by grind [ib,m1]);obtain rfl:=b3 ar;have aw:=Yr u key D;obtain ⟨C,X⟩:=ao;have aj:∀g (v:Int),s3 K (dE K key v d) g->aC F G (s.b2 b {bx with c:=.tup (.ab (.slice (eT K)) (show List (K.ai×Int×Unit) from dE K key v d))}) a {w with heap:=w.heap.setIfInBounds ac (.map g g.size)}:=λg v ap=>
  h.Nb ad a0 ae (.map g g.size) λA=>by
   rw [az,ae];refine ⟨rfl,u,ac,g,rfl,rfl,?_,ap⟩
   grind
 have aa:(zeroValue al).run P w=.ok (.int .i64 0) w:=by
  obtain ⟨i,hi,_,_,aa⟩:=ax.gX;obtain ⟨z,a5,aG,z3⟩:=aa rfl;have a1:z=.int .i64 0:=by cases z<;>simp_all [Value.cells,eV,FH,Ty.agg]
  simp [zeroValue,typeInfo,hi,a5,a1]
 rcases uw u key (cZ K key d) d 0 with ⟨I,o⟩|⟨i,z,I,o,am,h4⟩
 have O:cZ K key d=0:=by rw [<-F7 key d 0,I];rfl
 refine ⟨_,?_,aj (J.push {key:=fg K key,val:=.int .i64 0,born:=J.size}) _ ⟨by rw [o];simp [C],λi x f=>?_⟩⟩;unfold Instr.mapEntry;rw [f,af];simp only [Sem.run_bind,run_underlying ag,Result.andThen_ok,Go.MapKept.run_getObj_map U,y6 u W key D,yr u W key D w ⟨C,X⟩,I,vn,aa];rw [Go.MapKept.run_setObj_map _ U];simp [O,jB,I,goInt,C];rw [o,O] at f;by_cases hi:i<d.length
 grind
 rw [List.getElem?_append_right (by omega)] at f;have aq:i=d.length:=by
  grind
 subst aq;simp at f;subst f;exact ⟨D,{key:=fg K key,val:=.int .i64 0,born:=J.size},by rw [<-C];simp,rfl,rfl,C⟩;rw [kR] at o;obtain ⟨aE,e,a2,aF,a3,a4⟩:=X i _ (a6 I);have au:e.key=fg K key:=by simp_all
 have O:cZ K key d=z:=by rw [<-F7 key d 0,o];rfl
 have aB:e.val=.int .i64 z:=by
  rw [a3];have q:(hI K key 0 d)=some (i,d[i].2.1):=by
   have:∀(l:List (K.ai×Int×Unit)) (n j:Nat) (y:Int),hI K key n l=some (n+j,y)->∃x,l[j]?=some x/\x.2.1=y:=by
    intro l
    induction l with
    |nil=>intro n j y q;cases q
    |cons e l ah=>
     intro n j y q;rw [hI] at q;split at q;simp_all;cases j with
     |zero=>
      exfalso;have:∀(l:List (K.ai×Int×Unit)) (n m:Nat) (y:Int),hI K key n l=some (m,y)->n<=m:=by
       intro l
       induction l with
       |nil=>intro n m y q;cases q
       |cons e l ah=>
        grind [hI]
      grind
     |succ j=>exact ah (n+1) j y (by grind)
   obtain ⟨x,a9,aA⟩:=this d 0 i z (by simp_all);simp_all
  simp_all
 refine ⟨_,?_,aj (J.modify i λe=>{e with key:=fg K key}) _ ⟨by rw [am];simp [C],λj x f=>?_⟩⟩;unfold Instr.mapEntry;rw [f,af];simp only [Sem.run_bind,run_underlying ag,Result.andThen_ok,Go.MapKept.run_getObj_map U,y6 u W key D,yr u W key D w ⟨C,X⟩,o,dy,a2,vm,au,Instr.keyThatStays,aw,cN,Sem.run_pure];rw [Go.MapKept.run_setObj_map _ U];simp [O,jB,o,goInt,a4]
 grind
def agR (h:aC F G s a w) {t:TypeId} {K:Ty} (y:o6 P K t=true) {b:Nat} {mv:Value} (J:VR (ay s.box G) w F.R (.mp b) mv) {bx:bm} (n:s.box b=some bx) (X:bx.cm=true) {xs:List (K.ai×Int×Unit)}
 (ad:bx.c=.tup (.ab (.slice (eT K)) xs)) {i:Nat} {key:K.ai} (hi:(xs[i]?).map Prod.fst=some key) (v:Int):
 ∃w',(Instr.entryStore t mv (.int .i64 i) (.int .i64 v)).run P w=.ok () w'/\aC F G (s.b2 b {bx with c:=.tup (.ab (.slice (eT K)) (show List (K.ai×Int×Unit) from xs.set i (key,v,())))}) a w':=by
 obtain ⟨al,ac,ak,ah,aj,D⟩:=qJ y;obtain ⟨u,g,f,C,ae,W,d,o,z,_,l⟩:=yP (K:=K) (k:=some) (r:=xs) h J n (by grind [ib,m1]);obtain rfl:=b3 C;obtain ⟨aa,q,ag⟩:=Option.map_eq_some_iff.1 hi;have I:=(b4.1 q).1;have af:=ahi l I;obtain ⟨U,O⟩:=l;obtain ⟨am,e,an,ao,ap,aq⟩:=O i aa q;refine ⟨{w with heap:=w.heap.setIfInBounds g (.map (f.modify i λe=>{e with val:=.int .i64 v}) (f.modify i λe=>{e with val:=.int .i64 v}).size)},?_,h.Nb n X o _ λA=>?_⟩;unfold Instr.entryStore;rw [d];simp only [Sem.run_bind,Result.andThen_ok,Go.MapKept.run_getObj_map z];rw [show (Go.asInt (.int .i64 (i:Int))).run P w=.ok (i:Int) w from rfl]
 grind [Result.andThen_ok,Go.MapKept.run_setObj_map]
 rw [W,o];refine ⟨rfl,D,g,f.modify i λe=>{e with val:=.int .i64 v},rfl,rfl,?_,(by show _=(u.set i (key,v,())).length;simp [U]),λj x d=>?_⟩
 grind
 replace d:(u.set i (key,v,()))[j]?=some x:=d
 grind
def agK {ops:Array Oper} (W:∀(i:Nat) (o:Oper),ops.toList[i]?=some o->o.guard=none) (hk:kf ops.toList) (I:(Nat->Prop)->Act->World->Prop)
 (ag:∀(L:Nat->Prop) (i:Nat) (o:Oper) (a:Act) (w:World),ops.toList[i]?=some o->¬L i->(∀j∈dQ o,L j)->nU ops.toList L->I L a w->o.wp P a w (I λj=>j=i\/L j) Q)
 (O:∀(L L':Nat->Prop) (a:Act) (w:World),(∀j,L j↔L' j)->I L a w->I L' a w)
 (y:∀(L:Nat->Prop) (a:Act) (w:World),(∀i,i<ops.size->L i)->I L a w->Q .normal a w):
 ∀(d:Nat) (b:Array Bool) (a:Act) (w:World),b.size=ops.size->nU ops.toList (cn b)->I (cn b) a w->
  (∃U:List Nat,U.length<=d/\∀i,i<ops.size->¬cn b i->i∈U)->wpAny P .any ops Q d b a w:=by
 have z:∀i,i<ops.size->ops.toList[i]?=some ops[i]!:=by
  simp_all
 have ad:∀(b:Array Bool),b.size=ops.size->Region.ready .any ops b=[]->∀n i,i<n->i<ops.size->cn b i:=by
  intro b f C n
  induction n with
  |zero=>intro i h;omega
  |succ n D=>
   intro i hi g;apply im;intro e;have:i∈Region.ready .any ops b:=(lp f i).2 ⟨_,z i g,e,λj c=>by
    have:=hk.eD i _ (z i g) j c
    grind⟩
   simp_all
 intro d
 induction d with
 |zero=>
  intro b a w f _ hi l;obtain ⟨U,u,v⟩:=l;have ai:U=[]:=hT.1 (Nat.le_zero.1 u);have K:∀i,i<ops.size->cn b i:=λi hi=>im λe=>by simp_all
  refine ⟨?_,y _ a w K hi⟩;apply zB.2
  grind [lp]
 |succ d D=>
  intro b a w f x hi l;refine ⟨λC=>y _ a w (λi hi=>ad b f C (i+1) i (nQ i) hi) hi,λi aa=>?_⟩;obtain ⟨o,r,e,J⟩:=(lp f i).1 aa;have g:i<ops.size:=(b4.1 r).1;have q:i<b.size:=by omega
  obtain ⟨U,u,v⟩:=l;have af:ops[i]?=some o:=by simp_all
  unfold wpOp;rw [af];simp only;rw [show Region.wanted o (yielded ops a.tmps)=true from by unfold Region.wanted;rw [W i o r],aE rfl];left;refine Oper.wp_mono (λa' w' X=>?_) (ag _ i o a w r e J x hi);refine D _ a' w' (by simp_all) ?_ (O _ _ _ _ (λj=>(jA q j).symm) X) ?_;intro j ah ae c k ac;rw [jA q] at c|-;rcases c with rfl|c
  simp_all;exact .inr (x j ah ae c k ac);have aj:=v i g e;refine ⟨U.erase i,by simp_all,λj c ab=>?_⟩;rw [jA q] at ab;simp_all
theorem aC.arx {G:Nat->Gh} {s d:St} {a:Act} {w:World} (h:aC F G s a w) (g:∀n,d.get n=s.get n\/d.get n=.un) (f:∀b,d.box b=s.box b) (j:d.sv=s.sv):aC F G d a w:=by
 have c:aC F G {d with tmps:=s.tmps} a w:=h.congr (λ_=>rfl) f j;exact ⟨c.box,c.cC,c.c7,c.b5,c.bQ,c.R,λn=>(g n).elim (λe=>by rw [e];exact c.tmps n) (λe=>by rw [e];exact .inl rfl),c.bT,c.fQ,c.defers,c.nt,c.cW,c.sv,c.jI⟩
def alp {f:Nat->Bool} {k:St->Option Z} {r:Z}:∀(l:List Oper) (i:Nat) (s:St),y1 E f k i l s=some r->
 ∃(V:Nat->TV) (T:Nat->St),T i=s/\k (T (i+l.length))=some r/\∀(j:Nat) (o:Oper),l[j]?=some o->∃d,o.dst=some d/\T (i+j+1)=(T (i+j)).put d (V (i+j))/\oq E o (T (i+j)) (V (i+j)) []/\
  (∀{Y:Type} (s:St) (k:St->Option Y),dF E o s k=a8 E o s k)/\(f (i+j)=false->∀x∈o.op.operands.toList,∀c∈((T (i+j)).ev x).aK,∃y,(T (i+j)).box c=some y/\y.cm=false):=by
 intro l
 induction l with
 |nil=>intro i s h;exact ⟨λ_=>.un,λ_=>s,rfl,h,λj o b=>by cases b⟩
 |cons o l I=>
  intro i s h;unfold y1 at h;split at h;rotate_left;cases h;rename_i e;simp only [bE,gx,il] at e;obtain ⟨⟨⟨U,C⟩,D⟩,h4⟩:=e;obtain ⟨d,q⟩:=zG.1 h4;have n:a8 E o s (y1 E f k (i+1) l)=some r/\∀{Y:Type} (s:St) (k:St->Option Y),dF E o s k=a8 E o s k:=by
   grind [dF]
  obtain ⟨v,new,g,O,z⟩:=Xc C n.1;obtain rfl:=z D;have u:s.step o.dst v []=s.put d v:=by rw [q];rfl
  rw [u] at g;obtain ⟨V,T,aa,ab,K⟩:=I (i+1) _ g;refine ⟨λj=>if j=i then v else V j,λj=>if j=i then s else T j,by simp,?_,λj J b=>?_⟩
  grind
  ·cases j with
   |zero=>
    obtain rfl:=b3 b;refine ⟨d,q,?_,?_,n.2,λW x X c e=>?_⟩
    all_goals grind
   |succ j=>
    have:=K j J (by simpa using b)
    grind
open Classical in
noncomputable def gL (ops:List Oper) (V:Nat->TV) (s:St) (L:Nat->Prop) (n:Nat):TV:=
 if h:∃j,j<10/\L j/\∃o,ops[j]?=some o/\o.dst=some n then V h.choose else s.get n
section
variable {ops:List Oper} {V:Nat->TV} {L L':Nat->Prop}
theorem qu (hk:kf ops) {j:Nat} (g:j<10) (e:L j) {o:Oper} (d:ops[j]?=some o) {n:Nat} (b:o.dst=some n):gL ops V s L n=V j:=by
 unfold gL;have c:∃j,j<10/\L j/\∃o,ops[j]?=some o/\o.dst=some n:=⟨j,g,e,o,d,b⟩
 rw [dif_pos c];obtain ⟨_,_,l,h,f⟩:=c.choose_spec;rw [hk.b1 j o d n b _ l h f]
theorem qv {b:Nat} (h:∀(j:Nat) (o:Oper),j<10->L j->ops[j]?=some o->o.dst≠some b):gL ops V s L b=s.get b:=by
 unfold gL
 grind
def ahE (hk:kf ops) (n:nU ops L) {i:Nat} {o:Oper} (q:ops[i]?=some o) (hi:¬L i) (D:∀j∈dQ o,L j) (I:i<=10) {x:Nat} (z:x∈e1 ops o):gL ops V s L x=gL ops V s (· <i) x:=by
 by_cases y:∃j b,j<10/\ops[j]?=some b/\b.dst=some x
 obtain ⟨j,b,J,c,d⟩:=y;rcases hk.uj i o q x z j b c d with h|⟨C,r⟩
 have K:=hk.eD i o q j h
 grind [qu]
 have O:¬L j:=λu=>hi (tF hk n (j+1) j b (nQ j) c (n j b c u) i r)
 rw [qv λg l _ v f e=>by have:=hk.b1 j b c x d g l f e;simp_all,
  qv (L:=(· <i)) λg l _ v f e=>by have:=hk.b1 j b c x d g l f e;omega]
 grind [qv]
theorem tY (hk:kf ops) {i:Nat} {o:Oper} (e:ops[i]?=some o) (c:i<10) {d:Nat} (b:o.dst=some d) (n:Nat):gL ops V s (λj=>j=i\/L j) n=if d=n then V i else gL ops V s L n:=by
 grind [qu,qv]
end
def aiM {K:Ty} {c:TV} {k:List (K.ai×Int×Unit)->Option Z} {r:Z} (h:ib K c k=some r):∃xs:List (K.ai×Int×Unit),c=.tup (.ab (.slice (eT K)) xs)/\k xs=some r:=by
 unfold ib at h;split at h;rotate_left;cases h;rename_i u xs;split at h;rotate_left;cases h;rename_i y b;unfold cI at b;split at b
 all_goals grind
def aib {K:Ty} {v:TV} {k:K.ai->Option Z} {r:Z} (h:jY K v k=some r):∃key,v=.ad K key/\k key=some r:=by
 unfold jY at h;split at h;rotate_left;cases h;rename_i u x;split at h;rotate_left;cases h;rename_i y b;unfold cI at b;split at b
 all_goals grind
theorem aiL {K:Ty} (xs:List (K.ai×Int×Unit)) (k:List (K.ai×Int×Unit)->Option Z):ib K (.tup (.ab (.slice (eT K)) xs)) k=k xs:=by
 grind [ib,m1]
theorem Wj {K:Ty} (key:K.ai) (k:K.ai->Option Z):jY K (.ad K key) k=k key:=by
 unfold jY;simp only;rw [m1 (a:=K) key]
theorem Fz {ops:List Oper} {V:Nat->TV} {L L':Nat->Prop} (hk:kf ops) (h:∀j,j<10->(L j↔L' j)) (n:Nat):gL ops V s L n=gL ops V s L' n:=by
 grind [qu,qv]
theorem ahU (a7:df P E F) (bv:fc P E) {ops:Array Oper} {k:St->Option Z} {r:Z} (h:aC F G s a w) (hk:MG E ops.toList k s=some r) (cc:∀G s a w,aC F G s a w->k s=some r->Q .normal a w):
 wpAny P .any ops Q ops.size (Array.replicate ops.size false) a w:=by
 generalize gp:ops.toList=q at hk;have cJ:ops.size=q.length:=by rw [<-gp];rfl
 unfold MG at hk;split at hk;rotate_left;cases hk;rename_i bG bH bJ bK bL bM aa aD a4 ap a3;split at hk;rotate_left;cases hk;rename_i t m X bU cY m8 cU c9 ag cA cX D U aS p6 bl bh aG bi aT cz c2;split at hk;rotate_left;cases hk;rename_i aA;simp only [bE] at aA;obtain ⟨⟨⟨⟨⟨⟨⟨⟨⟨⟨⟨⟨⟨⟨bO,bP⟩,bQ⟩,bR⟩,c5⟩,c6⟩,bS⟩,bT⟩,c7⟩,c4⟩,bp⟩,⟨bq,ba⟩⟩,aH⟩,cf⟩,ch⟩:=aA;obtain rfl:=ga bO;obtain rfl:=ga bP;obtain rfl:=ga bQ;obtain rfl:=ga bR;obtain rfl:=ga c5;obtain rfl:=ga c6;obtain rfl:=ga bS;obtain rfl:=ga bT;have u:=VA cf;rw [mem_iff] at bq ba aH;have ce:ag<E.nt:=by simp_all
 have cG:U<E.nt:=by simp_all
 simp only [il,Bool.or_eq_false_iff] at bp;obtain ⟨⟨⟨cv,cx⟩,cy⟩,n4⟩:=bp;have bF:∀{l:List Nat} {n:Nat},mem l n=false->n∉l:=λJ C=>by rw [(mem_iff _ _).2 C] at J;cases J
 have aO:=bF cv;have b8:=bF cx;simp only [eN,zE,or_false,hv] at aO b8;have bA:aa.dst≠some D/\aa.dst≠some X:=⟨λe=>by simp [nj,e] at cy,λe=>by simp [nj,e] at n4⟩;obtain ⟨bN,T,cd,I,bC⟩:=alp _ _ _ hk;simp only [jh,List.length_nil,kR] at I bC;split at I;rotate_left;cases I;rename_i K b v bt bc co;unfold b6 at I;split at I;rotate_left;cases I;rename_i bx cF
 try dsimp only at I
 split at I;rotate_left;cases I;rename_i bD;have bd:=a7.maps _ K bt;obtain ⟨cV,cB,cP,cM,cO,bb⟩:=qJ bd;obtain ⟨xs,aA,I⟩:=aiM I;obtain ⟨key,b9,I⟩:=aib I;generalize ak:[bG,bH,bJ,bK,bL,bM,aa,aD,a4,ap,a3]=q at*;have br:q[6]?=some aa:=by rw [<-ak];rfl
 have aL:q[7]?=some aD:=by rw [<-ak];rfl
 have ar:q[8]?=some a4:=by rw [<-ak];rfl
 have am:q[9]?=some ap:=by rw [<-ak];rfl
 have aJ:q[10]?=some a3:=by rw [<-ak];rfl
 have cI:q.length=11:=by rw [<-ak];rfl
 have cL:∀j,j<8->[bG,bH,bJ,bK,bL,bM,aa,aD][j]?=q[j]?:=by
  intro j ax;rw [<-ak]
  match j,ax with
  |0,_|1,_|2,_|3,_|4,_|5,_|6,_|7,_=>rfl
 have cH:∀(i:Nat) (o:Oper),q[i]?=some o->o.guard=none:=λi o z=>by
  have:=fa.1 ch o (cw z);simpa using this
 clear hk ak;obtain ⟨V,b0⟩:∃V:Nat->TV,V=λj=>if j<8 then bN j else if j=8 then .tup (.cons (.ad (.int .i64) (cZ K key xs)) (.cons (.ad (.int .i64) ((jB K key xs:Nat):Int)) .unit)) else .ad (.int .i64) ((jB K key xs:Nat):Int):=⟨_,rfl⟩
 have bw:V 8=.tup (.cons (.ad (.int .i64) (cZ K key xs)) (.cons (.ad (.int .i64) ((jB K key xs:Nat):Int)) .unit)):=by rw [b0];rfl
 have bz:V 9=.ad (.int .i64) ((jB K key xs:Nat):Int):=by rw [b0];rfl
 have aQ:∀(j:Nat) (o:Oper),j<8->q[j]?=some o->∃d,o.dst=some d/\T (j+1)=(T j).put d (V j)/\oq E o (T j) (V j) []/\(∀{Y:Type} (s:St) (k:St->Option Y),dF E o s k=a8 E o s k)/\
  ((mem (dQ a4) j||Nat.beq j 6)=false->∀x∈o.op.operands.toList,∀c∈((T j).ev x).aK,∃y,(T j).box c=some y/\y.cm=false):=λj o ax z=>by
  simp_all
 clear bC;have a9:∀j,j<=8->(∀c,(T j).box c=s.box c)/\(T j).sv=s.sv/\∀n,(T j).get n=gL q V s (· <j) n:=by
  intro j
  induction j with
  |zero=>intro _;rw [cd];exact ⟨λ_=>rfl,rfl,λn=>(qv λj o _ C _ _=>by omega).symm⟩
  |succ j ct=>
   intro ax;obtain ⟨cq,cr,cs⟩:=ct (by omega);have z:q[j]?=some q[j]:=a6 (by omega);obtain ⟨d,ac,aR,_⟩:=aQ j _ (by omega) z;rw [aR];refine ⟨λc=>cq c,cr,λn=>?_⟩;rw [i4,cs,<-tY u z (by omega) ac];exact Fz u (λi _=>by omega) n
 obtain ⟨bo,c0,aM⟩:=a9 8 (cS _);have bB:s.box b=some bx:=by simp_all
 have bs:∀n,gL q V s (· <10) n=if U=n then V 9 else if ag=n then V 8 else (T 8).get n:=λn=>by
  rw [aM,<-tY u ar (by omega) aG,<-tY u am (by omega) aT];exact Fz u (λi _=>by omega) n
 have yF:∀{o:Oper} {n:Nat},.tmp n∈o.op.operands.toList->n∈e1 q o:=λaf=>by
  unfold e1;exact bI.2 (.inl (vi.2 ⟨_,af,rfl⟩))
 have m6:(T 6).get D=.mp b/\(T 6).get X=.ad K key:=by
  obtain ⟨c8,ac,aR,_⟩:=aQ 6 aa (by omega) br;obtain ⟨bU,aF,bj,_⟩:=aQ 7 aD (by omega) aL;rw [bl] at aF;obtain rfl:=b3 aF;rw [<-bc,<-b9,bj,i4,av (λe=>aO.1 e.symm),aR,i4,av (λe=>bA.1 (by rw [ac,e])),i4,av (λe=>b8.1 e.symm),i4,av (λe=>bA.2 (by rw [ac,e]))];simp_all
 have aY:8∈dQ ap:=(u.uj 9 ap am ag (yF (dh bi (by simp [Op.operands]))) 8 a4 ar aG).resolve_right λh=>by omega
 have cE:({bx with c:=.tup (.ab (.slice (eT K)) xs)}:bm)=bx:=by rw [<-aA]
 refine agK (ops:=ops) (by grind) (by rw [gp];exact u) (λL a w=>∃G f,aC F G f a w/\(∀n,f.get n=gL q V s L n)/\f.sv=s.sv/\(∀c,c≠b->f.box c=s.box c)/\
  ∃g:List (K.ai×Int×Unit),f.box b=some {bx with c:=.tup (.ab (.slice (eT K)) g)}/\(L 10->g=dE K key v xs)/\(¬L 10->L 8->g=dE K key (cZ K key xs) xs)/\(¬L 10->¬L 8->g=xs)) ?_ ?_ ?_ _ _ a w (by simp) ?_ ?_ ?_
 rw [gp];rintro L i o a w z an aN aj ⟨G,f,O,W,a0,au,g,ae,aU,aV,bn⟩;have bZ:L 10->L 8:=λh=>aj 9 ap am (aj 10 a3 aJ h 9 aH) 8 aY
 have hi:i<11:=by grind
 have a2:∀n,.tmp n∈o.op.operands.toList->f.get n=gL q V s (· <i) n:=λn af=>by
  rw [W];exact ahE u aj z an aN (by omega) (yF af)
 have dx:∀{s1:St} {G1:Nat->Gh} {aX:Act} {bk:World} {d:Nat},i<8->o.dst=some d->s1=f.put d (V i)->aC F G1 s1 aX bk->∃G f,aC F G f aX bk/\(∀n,f.get n=gL q V s (λj=>j=i\/L j) n)/\f.sv=s.sv/\(∀c,c≠b->f.box c=s.box c)/\
  ∃g:List (K.ai×Int×Unit),f.box b=some {bx with c:=.tup (.ab (.slice (eT K)) g)}/\((10=i\/L 10)->g=dE K key v xs)/\(¬(10=i\/L 10)->(8=i\/L 8)->g=dE K key (cZ K key xs) xs)/\(¬(10=i\/L 10)->¬(8=i\/L 8)->g=xs):=by
  intro s1 G1 aX bk d h8 b4 e ao;subst e;refine ⟨G1,_,ao,λn=>by rw [i4,tY u z (by omega) b4,W],a0,au,g,ae,λh=>aU (h.resolve_left (by omega)),λJ C=>aV (λh=>J (.inr h)) (C.resolve_left (by omega)),λJ C=>bn (λh=>J (.inr h)) λh=>C (.inr h)⟩
 by_cases h8:i<8;obtain ⟨d,ac,aR,aF,bj,cW⟩:=aQ i o h8 z;by_cases h6:i=6;subst h6;rw [br] at z;obtain rfl:=b3 z;have aq:f.get D=.mp b:=by rw [a2 D (dh p6 (by simp [Op.operands])),<-(a9 6 (by omega)).2.2];exact m6.1
 have aI:f.get X=.ad K key:=by rw [a2 X (dh p6 (by simp [Op.operands])),<-(a9 6 (by omega)).2.2];exact m6.2
 have cT:cZ K key g=cZ K key xs:=by
  have az:¬L 10:=λh=>an (aj 7 aD aL (aj 10 a3 aJ h 7 ba) 6 bq)
  by_cases ah:L 8;rw [aV az ah,Ni bb];rw [bn az ah]
 have bY:∀{Y:Type} (a5:St) (zs:List (K.ai×Int×Unit)) (aZ:bm) (k:St->Option Y),a5.get D=.mp b->a5.get X=.ad K key->a5.box b=some aZ->aZ.c=.tup (.ab (.slice (eT K)) zs)->a8 E aa a5 k=k (a5.put d (.ad (.int .i64) (cZ K key zs))):=by
  intro Y a5 zs aZ k J C ca h4;unfold a8;rw [p6];simp only [bt,St.ev,J,C];unfold b6;rw [ca];simp only;rw [h4,aiL,Wj];unfold dj;rw [ac]
 have cD:V 6=.ad (.int .i64) (cZ K key xs):=by
  have:=aF.2 (T 6) (λx _=>⟨rfl,λ_ _ _ h=>h⟩) (λx af=>by cases af) some;rw [bY (T 6) xs bx some m6.1 m6.2 (by simp_all) aA] at this;have:=dz (λt=>St.get t d) (b3 this);simp only [i4,cN] at this;rw [this];have e:((T 6).step aa.dst (V 6) []).get d=((T 6).put d (V 6)).get d:=by rw [ac];rfl
  rw [e,i4,aE rfl]
 have al:dF E aa f some=some (f.put d (V 6)):=by grind
 refine Oper.wp_mono (λa' w' aB=>?_) (yT a7 bv G f a w Q aa some _ O al);obtain ⟨aW,s1,ao,e⟩:=aB;exact dx h8 ac (b3 e) ao;have ck:∀x∈o.op.operands.toList,f.ev x=(T i).ev x/\Ag f (T i) ((T i).ev x):=λx af=>by
  refine ⟨?_,λc aw y bg=>?_⟩;cases x with
  |tmp n=>exact (a2 n af).trans ((a9 i (by omega)).2.2 n).symm
  |_=>rfl
  rw [(a9 i (by omega)).1] at bg;by_cases e:c=b;subst e;rw [bB] at bg;obtain rfl:=b3 bg;cases b5:(mem (dQ a4) i||Nat.beq i 6) with
  |false=>
   grind
  |true=>
   rw [gx] at b5;have cl:=(mem_iff _ _).1 (b5.resolve_right λh=>h6 (ga h));have cK:¬L 8:=λh=>an (aj 8 a4 ar h i cl)
   simp_all
  simp_all
 have al:dF E o f some=some (f.put d (V i)):=by rw [bj,aF.2 f ck (λx af=>by cases af),ac];rfl
 refine Oper.wp_mono (λa' w' aB=>?_) (yT a7 bv G f a w Q o some _ O al);obtain ⟨aW,s1,ao,e⟩:=aB;exact dx h8 ac (b3 e) ao;by_cases bW:i=8;subst bW;rw [ar] at z;obtain rfl:=b3 z;have aq:f.get D=.mp b:=by rw [a2 D (dh bh (by simp [Op.operands])),<-aM];exact bc
 have aI:f.get X=.ad K key:=by rw [a2 X (dh bh (by simp [Op.operands])),<-aM];exact b9
 have az:¬L 10:=λh=>an (bZ h)
 obtain rfl:=bn az an;have bf:VR (ay f.box G) w F.R (.mp b) (a.eval (.tmp D)):=by
  have:=cu O (.tmp D);rw [show f.ev (.tmp D)=.mp b from aq] at this;exact this
 have cp:VR (ay f.box G) w F.R (.ad K key) (a.eval (.tmp X)):=by
  have:=cu O (.tmp X);rw [show f.ev (.tmp X)=.ad K key from aI] at this;exact this
 obtain ⟨a1,ci,cj,cg⟩:=ML (k:=some) (r:=key) bb cp (Wj key some);obtain rfl:=b3 ci;obtain ⟨w',al,hrel⟩:=aiN O bd bf ae bD rfl cj cg;have aP:=hrel.put (d:=ag) (v:=V 8) (x:=.tuple #[.int .i64 (cZ K a1 g),.int .i64 (jB K a1 g)]) (by rw [<-a7.nt];exact ce) (by rw [bw];exact ⟨[.int .i64 _,.int .i64 _],⟨.inr ⟨_,⟨rfl,trivial,rfl⟩,rfl⟩,.inr ⟨_,⟨rfl,trivial,rfl⟩,rfl⟩,trivial⟩,rfl⟩);rw [<-aG] at aP;refine c1 (v:=.tuple #[.int .i64 (cZ K a1 g),.int .i64 (jB K a1 g)]) (w':=w') ?_ ⟨G,_,aP,λn=>?_,a0,λc aw=>?_,dE K a1 (cZ K a1 g) g,?_,λh=>absurd (h.resolve_left (by omega)) az,λ_ _=>rfl,λ_ h=>absurd (.inl rfl) h⟩;unfold execOp;rw [bh];simp only [Sem.run_bind,al];rfl;rw [i4,tY u ar (by omega) aG,<-W];rfl;rw [x2,kq _ _ _ _ ae,av (Ne.symm aw)];exact au c aw;rw [x2,kq _ _ _ _ ae,aE rfl];by_cases bX:i=9;subst bX;rw [am] at z;obtain rfl:=b3 z;have ah:L 8:=aN 8 aY;have aq:f.get ag=V 8:=by rw [W];exact qu u (by omega) ah ar aG
 have az:¬L 10:=λh=>an (aj 10 a3 aJ h 9 aH)
 have al:a8 E ap f some=some (f.put U (V 9)):=by
  unfold a8;rw [bi];simp only [St.ev,aq,bw];unfold dj;rw [aT,bz];rfl
 refine Oper.wp_mono (λa' w' aB=>?_) (VJ O a7 bi (λd b4=>by simp_all) al);obtain ⟨aW,s1,ao,e⟩:=aB;obtain rfl:=b3 e;exact ⟨aW,_,ao,λn=>by rw [i4,tY u am (by omega) aT,W],a0,au,g,ae,λh=>aU (h.resolve_left (by omega)),λJ _=>aV (λh=>J (.inr h)) ah,λ_ C=>absurd (.inr ah) C⟩;obtain rfl:i=10:=by omega
 rw [aJ] at z;obtain rfl:=b3 z;have bu:L 9:=aN 9 aH;have ah:L 8:=aj 9 ap am bu 8 aY;obtain rfl:=aV an ah;have aq:f.get D=.mp b:=by
  rw [a2 D (dh cz (by simp [Op.operands])),bs,av (λe=>aO.2.2 e.symm),av (λe=>aO.2.1 e.symm)];exact bc
 have aI:f.get U=V 9:=by rw [W];exact qu u (by omega) bu am aT
 have bV:f.get aS=.ad (.int .i64) v:=by
  rw [W,<-co,aM,qu u (by omega) (aN 7 ba) aL bl,qu (L:=(· <8)) u (by omega) (by omega) aL bl]
 have bf:VR (ay f.box G) w F.R (.mp b) (a.eval (.tmp D)):=by
  have:=cu O (.tmp D);rw [show f.ev (.tmp D)=.mp b from aq] at this;exact this
 have cQ:a.eval (.tmp U)=.int .i64 (jB K key xs:Nat):=by
  have:=cu O (.tmp U);rw [show f.ev (.tmp U)=V 9 from aI,bz] at this;exact this.int
 have cR:a.eval (.tmp aS)=.int .i64 v:=by
  have:=cu O (.tmp aS);rw [show f.ev (.tmp aS)=_ from bV] at this;exact this.int
 obtain ⟨da,c3,z3⟩:=ai6 bb key xs (cZ K key xs);obtain ⟨w',al,hrel⟩:=agR O bd bf ae bD rfl c3 v;replace hrel:=(dz (λzs:List (K.ai×Int×Unit)=>aC F G (f.b2 b {bx with c:=.tup (.ab (.slice (eT K)) zs)}) a w') (z3 v)).mp hrel;have aP:aC F G (f.b2 b {bx with c:=.tup (.ab (.slice (eT K)) (show List (K.ai×Int×Unit) from dE K key v xs))}) (a.put a3.dst undef) w':=by rw [c2];exact hrel
 refine Pp (w':=w') ?_ ⟨G,_,aP,λn=>?_,a0,λc aw=>?_,dE K key v xs,?_,λ_=>rfl,λh=>absurd (.inl rfl) h,λh=>absurd (.inl rfl) h⟩;unfold execOp;simp_all;show f.get n=_;rw [W];exact Fz u (λj ax=>⟨.inr,λh=>h.resolve_left (by omega)⟩) n;rw [kq _ _ _ _ ae,av (Ne.symm aw)];exact au c aw;rw [kq _ _ _ _ ae,aE rfl];intro L L' a w cb cC;have:L=L':=funext λj=>propext (cb j)
 simp_all;rintro L a w b1 ⟨G,f,O,W,a0,au,g,ae,aU,_,_⟩;obtain rfl:=aU (b1 10 (by omega));refine cc G _ a w (O.arx (λn=>?_) (λc=>?_) ?_) I;have e:((((T 8).put ag .un).put U .un).b2 b {bx with c:=.tup (.ab (.slice (eT K)) (show List (K.ai×Int×Unit) from dE K key v xs))}).get n=if U=n then .un else if ag=n then .un else (T 8).get n:=by
  rw [<-i4,<-i4];rfl
 by_cases J:U=n;simp_all;by_cases C:ag=n;simp_all;refine .inl (e.trans ?_);rw [av J,av C];rw [W,Fz u (L':=(· <10)) (λj ax=>⟨λ_=>ax,λ_=>b1 j (by omega)⟩),bs,av J,av C];rw [kq _ _ _ bx (by show (T 8).box b=_;rw [bo];exact bB)];split;simp_all;rename_i e;rw [au c (Ne.symm e)];exact bo c;show (T 8).sv=_;rw [c0,a0];rw [gp];intro i o _ hi;exact absurd hi (by
  unfold cn;rw [jL,HB];split<;>simp)
 have be:∀i,¬cn (Array.replicate ops.size false) i:=by
  intro i b7;unfold cn at b7;rw [jL,HB] at b7
  grind
 exact ⟨G,s,h,λn=>(qv λj o _ C _ _=>be j C).symm,rfl,λ_ _=>rfl,xs,by simp_all,λh=>absurd h (be 10),λ_ h=>absurd h (be 8),λ_ _=>rfl⟩;exact ⟨List.range ops.size,by simp,λi hi _=>g6.2 hi⟩
end
section
variable {P:Program} {E:an} {F:Fr} {Q:Exit->Act->World->Prop}
def Xe {Z:Type} (b:df P E F) (c:fc P E) {al:Bool} (G:Nat->Gh) (s:St) (a:Act) (w:World) (Q:Exit->Act->World->Prop) (o:Oper) (k:St->Option Z) (r:Z) (h:aC F G s a w) (hk:nw E al o s k=some r):o.wp P a w (cf F k r) Q:=by
 cases al with
 |false=>exact yT b c G s a w Q o k r h hk
 |true=>
  grind [nw,dW,apr]
def agJ (a5:df P E F) (an:fc P E) {ops:Array Oper} {Z:Type} {kn:St->Option Z} {rn:Z} (hk:kf ops.toList) (bk:∀G s a w,aC F G s a w->kn s=some rn->Q .normal a w):
 ∀(ag:Nat) (q:Array Bool) (a:Act) (w:World) (L0:Nat->Prop) (hi:Nat) (T:Nat->St) (G:Nat->Gh) (s:St),q.size=ops.size->gl E ops.toList (ops.toList.zip (jm ops.toList)) kn rn L0 hi T->aC F G s a w->
  nU ops.toList (cn q)->(∀i,L0 i->cn q i)->(∀i,hi<=i->i<ops.size->¬cn q i)->Jn ops.toList (cn q) L0 hi T s->
  (∃U:List Nat,U.length<=ag/\∀i,i<ops.size->¬cn q i->i∈U)->wpAny P .any ops Q ag q a w:=by
 have bw:ops.toList.length=ops.size:=rfl;have aS:E.xt:=⟨λf ids c h=>(an.fn f ids c h).MS,an.h3⟩;have aZ:∀i,i<ops.size->ops.toList[i]?=some ops[i]!:=by
  simp_all
 have b0:∀(q:Array Bool),q.size=ops.size->Region.ready .any ops q=[]->∀n i,i<n->i<ops.size->cn q i:=by
  intro q aq K n
  induction n with
  |zero=>intro i h;omega
  |succ n a1=>
   intro i hi ao;apply im;intro X;have:i∈Region.ready .any ops q:=(lp aq i).2 ⟨_,aZ i ao,X,λj r=>by
    have:=hk.eD i _ (aZ i ao) j r
    grind⟩
   simp_all
 have aW:∀(q:Array Bool) (a:Act) (w:World) (L0:Nat->Prop) (hi:Nat) (T:Nat->St) (G:Nat->Gh) (s:St),gl E ops.toList (ops.toList.zip (jm ops.toList)) kn rn L0 hi T->aC F G s a w->
  (∀i,hi<=i->i<ops.size->¬cn q i)->Jn ops.toList (cn q) L0 hi T s->(∀i,i<ops.size->cn q i)->Q .normal a w:=by
  intro q a w L0 hi T G s S h ax J a9;have bU:=S.len;have g:=J.tX S (λi bT=>a9 i (by omega));rcases S.stop with ⟨_,e⟩|⟨o,U,al,I,_⟩
  exact bk G (T hi) a w (h.congr g.get g.box g.sv) e
  grind
 have bn:(ops.toList.zip (jm ops.toList)).map Prod.fst=ops.toList:=by
  rw [List.map_fst_zip];simp [jm]
 intro ag
 induction ag with
 |zero=>
  intro q a w L0 hi T G s aq S h ad ay ax J a7;obtain ⟨U,aT,aU⟩:=a7;have bP:U=[]:=hT.1 (Nat.le_zero.1 aT);have a9:∀i,i<ops.size->cn q i:=λi hi=>im λX=>by simp_all
  refine ⟨?_,aW q a w L0 hi T G s S h ax J a9⟩;apply zB.2
  grind [lp]
 |succ ag a1=>
  intro q a w L0 hi T G s aq S h ad ay ax J a7;refine ⟨λK=>aW q a w L0 hi T G s S h ax J (λi hi=>b0 q aq K (i+1) i (nQ i) hi),λi bo=>?_⟩;obtain ⟨o,I,X,am⟩:=(lp aq i).1 bo;have ao:i<ops.size:=(b4.1 I).1;have af:i<q.size:=by omega
  obtain ⟨U,aT,aU⟩:=a7;have a8:∃U:List Nat,U.length<=ag/\∀j,j<ops.size->¬cn (q.setIfInBounds i true) j->j∈U:=by
   have bV:=aU i ao X;refine ⟨U.erase i,by simp_all,λj r bs=>?_⟩;rw [jA af] at bs;simp_all
  have aL:(q.setIfInBounds i true).size=ops.size:=by simp_all
  have aA:nU ops.toList (cn (q.setIfInBounds i true)):=by
   intro j C aa r k bt;rw [jA af] at r|-;rcases r with rfl|r
   simp_all;exact .inr (ad j C aa r k bt)
  have ba:ops[i]?=some o:=by simp_all
  have aF:¬L0 i:=λh=>X (ay i h)
  by_cases ah:i<hi
  ·
   have bx:=J.cM h hk S ad ah I X am;have ap:∀x∈e1 ops.toList o,s.get x=(T i).get x:=λx u=>J.yF hk S ad ah I X am u
   have aX:∀j,hi<=j->j<ops.size->¬cn (q.setIfInBounds i true) j:=by
    intro j r aH;rw [jA af]
    grind
   have aY:∀j,L0 j->cn (q.setIfInBounds i true) j:=λj r=>(jA af j).2 (.inr (ay j r))
   unfold wpOp;rw [ba];simp only;rcases S.step i o ah I aF with ⟨ak,v,new,a6,aI,bi⟩|⟨ak,a6⟩
   ·rw [Pm h ap ak,aE rfl];left;have bz:∀x∈new,s.box x.1=none:=by
     intro x u;obtain ⟨d,a3,ar,au⟩:=aI.1 x u;have a0:¬iX ops.toList (cn q) L0 hi (x.1/32):=by
      rintro ⟨j,C,_,_,a2,aN,bB⟩;have:=hk.b1 i o I (x.1/32) (by rw [a3,ar]) j C aN bB;simp_all
     rw [J.oJ _ a0];cases ac:(T 0).box x.1 with
     |none=>rfl
     |some y=>
      have:=S.mono (m:=0) i (by omega) ac;simp_all
    have aJ:dF E o s some=some (s.step o.dst v new):=by rw [bi,aI.2 s bx bz]
    refine Oper.wp_mono (λa' w' aj=>?_) (yT a5 an G s a w Q o some _ h aJ);obtain ⟨ab,aw,K,e⟩:=aj;obtain rfl:=b3 e;exact a1 _ a' w' L0 hi T ab _ aL S K aA aY aX (J.next hk S ah I X aF a6 (λx u=>(aI.1 x u).imp λd ae=>⟨ae.1,ae.2.1⟩) (λj=>jA af j)) a8
   ·rw [Pm h ap ak,av (by simp)];have K:aC F G (s.step o.dst (.tup .unit) []) (a.put o.dst undef) w:=by
     cases bR:o.dst with
     |none=>exact h
     |some e=>exact h.NL e
    exact a1 _ _ w L0 hi T G _ aL S K aA aY aX (J.next hk S ah I X aF a6 (λx u=>by cases u) (λj=>jA af j)) a8
  ·
   rcases S.stop with ⟨e,_⟩|⟨ob,bd,al,b5,b7,b6,dD⟩
   omega
   ·obtain ⟨ai,aV⟩:=afP b5;have ah:i=hi:=by
     apply im;intro bW;have ac:=(aV i ao).2 (by omega);have:=tF hk ad (i+1) i o (nQ i) I am hi ac
     grind
    subst ah;rw [ai] at I;obtain rfl:=b3 I;have b2:∀j,i+1<=j->j<ops.size->¬cn (q.setIfInBounds i true) j:=by
     intro j r aH;rw [jA af]
     grind
    have next:∀(a':Act) (w':World) (ab:Nat->Gh) (s1 t:St) (O:Nat->St),aC F ab s1 a' w'->O 0=s1->(∀j C,j<i->ops.toList[j]?=some C->¬cn q j->jU E ops.toList C (O j) (O (j+1)))->(∀j,j<i->cn q j->fM (O (j+1)) (O j))->fM t (O i)->
     iE E ops.toList kn ((ops.toList.zip (jm ops.toList)).drop (i+1)) t=some rn->wpAny P .any ops Q ag (q.setIfInBounds i true) a' w':=by
     intro a' w' ab s1 t O K bh bY bX bS ae;obtain ⟨aG,aP,bO,a3,ar,au,a4⟩:=Ys aS ops.toList _ bn kn rn (ops.size-(i+1)) (i+1) t (by rw [bw];omega) ae;have cb:∀j,j<i->(cn (q.setIfInBounds i true) j↔cn q j):=λj r=>by
      rw [jA af];exact ⟨λh=>h.resolve_left (by omega),.inr⟩
     have bc:gl E ops.toList (ops.toList.zip (jm ops.toList)) kn rn (cn (q.setIfInBounds i true)) aG (λj=>if j<=i then O j else aP j):=by
      refine ⟨ar,λj C r aa D=>?_,λj r D=>?_,?_⟩;by_cases bf:j<i
      grind
      have bN:j≠i:=λe=>D ((jA af j).2 (.inl e))
      simp only [av (show ¬j<=i by omega),av (show ¬j+1<=i by omega)]
      grind
      by_cases bf:j<i
      grind
      grind
      grind
     have a0:∀x,¬iX ops.toList (cn (q.setIfInBounds i true)) (cn (q.setIfInBounds i true)) aG x:=by
      rintro x ⟨j,C,_,aM,a2,_⟩;exact aM a2
     have e0:(λj=>if j<=i then O j else aP j) 0=s1:=by simp [bh]
     refine a1 _ a' w' _ aG _ ab s1 aL bc K aA (λj r=>r) (λj r aH=>b2 j (by omega) aH) ⟨λx u=>absurd u (a0 x),λx _=>(dz (λt=>St.get t x) e0).symm,λb u=>absurd u (a0 _),λb _=>(dz (λt=>St.box t b) e0).symm,(dz St.sv e0).symm⟩ a8
    unfold wpOp;rw [ba];simp only;have ap:∀x∈e1 ops.toList ob,s.get x=(T i).get x:=λx u=>by
     refine J.GX S λ⟨j,C,bZ,aM,a2,aN⟩=>aM ?_
     exact am j ((hk.uj i ob ai x u j C a2 aN).resolve_right λh=>by omega)
    rw [Pm h ap b7,aE rfl];left;by_cases aD:∀j,j<i->cn q j
    ·
     have g:=J.tX S aD;have hrel:=h.congr g.get g.box g.sv;exact Oper.wp_mono (λa' w' ⟨ab,aw,K,ae⟩=>next a' w' ab aw aw (λ_=>aw) K rfl (λj C r _ D=>absurd (aD j r) D) (λj _ _=>fM.rfl _) (fM.rfl _) ae) (Xe a5 an G (T i) a w Q ob _ rn hrel dD)
    ·
     have az:∀j,j<i->¬cn q j->j∈bd:=λj r D=>by
      rcases (aV j (by omega)).1 r with ac|ac
      exact absurd (tF hk ad (i+1) i ob (nQ i) ai am j ac) D;exact ac
     obtain ⟨bA,bp⟩:=Classical.not_forall.1 aD;obtain ⟨bq,br⟩:=Classical.not_imp.1 bp;obtain ⟨bu,aB⟩:=arz b6 (az bA bq br);obtain ⟨l,v,new,bD,bE,bb,bF⟩:=ajw aS bu dD;obtain ⟨O,t0,bK,bM,t3⟩:=J.afR hk S ay ai (λn o X D I x u j C r aa ae=>by
      rcases hk.uj n o I x u j C aa ae with ak|⟨ak,aQ⟩
      exact ak;rcases (aB n o (az n X D) I).1 x u j C aa ae with aR|aR
      exact aR;by_cases e:j=i;subst e;rw [ai] at aa;obtain rfl:=b3 aa;exact absurd (tF hk ad (j+1) j ob (nQ j) ai am n aQ) D;by_cases bj:cn q j;exact absurd (tF hk ad (j+1) j C (nQ j) aa (ad j C aa bj) n aQ) D
      grind) (λj p r D aj=>(aB j p (az j r D) aj).2.1) (λj p r D aj=>(aB j p (az j r D) aj).2.2) bE bb
     have bg:∀x∈ob.op.operands.toList,s.ev x=(T i).ev x:=λx u=>by
      cases x with
      |tmp t=>exact ap t (by
       unfold e1;exact bI.2 (.inl (vi.2 ⟨_,u,rfl⟩)))
      |_=>rfl
     have be:ed (· ∈hn ob (T i)) s (T i):=λb ac=>by
      obtain ⟨ca,bv,bQ⟩:=List.mem_flatten.1 ac;obtain ⟨x,u,rfl⟩:=dm.1 bv;obtain ⟨z,b8⟩:=VR.aK (cu h x) b (by grind);by_cases W:g8 ops.toList (cn q) i (b/32);obtain ⟨j,p,a3,ar,au,a4⟩:=W;have e0:s.box b=(T 0).box b:=J.oJ b λ⟨b9,bC,_,_,aO,bJ,r5⟩=>by
       have:=hk.b1 j p au _ a4 b9 bC bJ r5
       grind
      have:=S.mono (m:=0) i (by omega) (e0▸b8)
      grind
      exact J.za S W
     have bm:∀x∈new,(bL s l).box x.1=none:=λx u=>by
      obtain ⟨d,bG,bH,aO⟩:=bb x u;rw [nB] at aO|-;have bl:¬g8 ops.toList (cn q) i (x.1/32):=λ⟨j,p,a3,ar,au,a4⟩=>by
       have:=hk.b1 i ob ai d bG j p au (by rw [a4,bH]);omega
      rw [J.za S bl];exact aO
     have aJ:nw E al ob s some=some ((bL s l).step ob.dst v new):=bF s be bg bm some;refine Oper.wp_mono (λa' w' aj=>?_) (Xe a5 an G s a w Q ob some _ h aJ);obtain ⟨ab,aw,K,e⟩:=aj;obtain rfl:=b3 e;exact next a' w' ab _ _ O K t0 (λj C r aa D=>bK j C r aa D) bM t3 bD
def Yb {Z:Type} (g:df P E F) (e:fc P E) (y:P.follows .mixedOrders=true):Q9 Z P E F:=by
 intro G s a w id ops C k r h hk;simp only [hd] at hk;unfold Yc at hk;cases C with
 |false=>
  simp only at hk;refine wp_region_list ?_;exact (ajy (yT g e) ops (k .normal) r _ (λa w O=>O) ops.toList G s a w h hk)
 |true=>
  simp only at hk;split at hk;exact wp_region_any y (ahU g e (h.shift ⟨cS _,rfl,rfl⟩ (λ_ _=>rfl) (λ_ _ _ _ _=>rfl) (λ_ _ _=>rfl)) hk λG s a w n q=>⟨G,s,n,q⟩);split at hk;cases hk;rename_i K;rw [agI] at hk;have v:=VA K;refine wp_region_any y (arB ?_);generalize kt ops.toList=cs at hk v;have I:(cs.zip (jm cs)).map Prod.fst=cs:=by
   rw [List.map_fst_zip];simp [jm]
  obtain ⟨hi,T,j,_,U,W,X⟩:=Ys ⟨λf ids c h=>(e.fn f ids c h).MS,e.h3⟩ cs _ I (k .normal) r cs.length 0 s (by simp) (by simpa using hk);have S:gl E cs (cs.zip (jm cs)) (k .normal) r (λ_=>False) hi T:=⟨U,λi o hi J _=>W i o (bG _) hi J,λi _ h=>h.elim,X⟩;have hrel:aC F G s a {w with drawn:=w.drawn+1}:=h.shift ⟨cS _,rfl,rfl⟩ (λ_ _=>rfl) (λ_ _ _ _ _=>rfl) (λ_ _ _=>rfl);have l:∀i,¬cn (Array.replicate cs.toArray.size false) i:=by
   intro i d;unfold cn at d;rw [jL,HB] at d
   grind
  have z:∀x,¬iX cs (cn (Array.replicate cs.toArray.size false)) (λ_=>False) hi x:=λx ⟨i,o,_,_,D,_⟩=>l i D
  exact agJ (ops:=cs.toArray) g e v (λG s a w n q=>⟨G,s,n,q⟩) cs.toArray.size _ a _ _ hi T G s (by simp) S hrel (λi o _ d=>absurd d (l i)) (λi d=>d.elim) (λi _ _=>l i)
   ⟨λx u=>absurd u (z x),λx _=>by rw [j],λb u=>absurd u (z _),λb _=>by rw [j],by rw [j]⟩ ⟨List.range cs.toArray.size,by simp,λi d _=>g6.2 d⟩
end
section
variable {Z:Type} {P:Program} {E:an} {F:Fr} {G:Nat->Gh} {s:St} {a:Act} {w:World}
theorem alD {o:Nat}:∀(l:List (Nat×Ty)) (G:Nat->Gh) (s:St) (k:St->Option Z) (r:Z),aC F G s a w->GN s o l k=some r->cf F k r a w:=by
 intro l
 induction l with
 |nil=>intro G s k r h hk;exact ⟨G,s,h,hk⟩
 |cons x l ae=>
  intro G s k r h hk;obtain ⟨t,T⟩:=x;simp only [GN] at hk;split at hk;rotate_left;cases hk;rename_i W;have ak:=(h.tmps t).GY (EW hk);obtain ⟨G1,s1,c,f,κ,u,d⟩:=oH (.slice T) _ G s _ _ r h ak hk;split at u;rotate_left;cases u;rename_i y ad;obtain ⟨C,q,D⟩:=lY (.slice T) c f _ y d.ff ad;obtain ⟨ah,ai,aj⟩:=qL u;have U:=d.rel.drop (er o t);obtain ⟨_,O⟩:=Mj d.rel (er o t);have aa:hW F G1 (s1.drop (er o t)) w ⟨none,C⟩:=by
   refine ⟨by simpa [Gh.af,q] using d.et.b5,λb e j z n=>?_,λb e=>?_⟩;have e:b∈f.af:=by simpa [Gh.af,q] using e
   rw [O] at n;split at n;cases n;cases I:s1.box j with
   |none=>rw [I] at n;cases n
   |some al=>exact d.et.out b e j al I
   exact d.et.bQ b (by simpa [Gh.af,q] using e)
  have ac:=U.qg (x:=⟨.slice T,true,false,.ab (.slice T) y⟩) (g:=⟨none,C⟩) ah ai rfl (Ty.oU (t:=.slice T) W) ⟨rfl,⟨T,rfl⟩,_,⟨rfl,D⟩⟩ aa;refine ae _ _ k r (ac.GO ?_) aj;obtain ⟨b,cap,ag,J,K,_,_,X,_⟩:=D;refine dJ (v:=.sl (er o t) []) (cs:=[_]) ⟨T,b,cap,ag,none,?_,by rw [K,X]⟩ rfl;rw [fv (l0 _ _ _ _|>.trans (aE rfl))];simp only [fo,cN];rw [J];rfl
def ahR {A:b0} {R:Nat->Prop} {c c':TV} (d:ME c=some c') {t:Ty} {ft:FT} {cs:List Value} (h:aZ A w R c t ft cs):aZ A w R c' t ft cs:=by
 unfold ME at d;split at d;rename_i t0 xs;cases d;obtain ⟨rfl,b,cap,o,rfl,rfl,f,j,l,h4⟩:=h;refine ⟨rfl,b,cap,o,rfl,rfl,f,j,l,List.length_replicate,?_⟩;cases b with
 |none=>exact h4
 |some b=>
  refine ⟨h4.1,λi x k g n hk e=>?_⟩;obtain ⟨q,u,r⟩:=h4.2 i x k n hk;have e:g=false:=ri (cw e);simp_all
 cases d;exact h;cases d
def aC.alv (h:aC F G s a w) {b:Nat} {x:bm} (u:s.box b=some x) {c:TV} (I:∀(A:b0) (R:Nat->Prop) (t:Ty) (ft:FT) (cs:List Value),aZ A w R x.c t ft cs->aZ A w R c t ft cs) (J:x.cm=true):
 aC F G (s.b2 b {x with c:=c}) a w:=by
 have D:∀j,(s.b2 b {x with c:=c}).box j=if b=j then some {x with c:=c} else s.box j:=λj=>kq s b _ x u j
 have o:ay (s.b2 b {x with c:=c}).box G=ay s.box G:=by
  funext i q;unfold ay
  grind
 have ck:∀{j y},(s.b2 b {x with c:=c}).box j=some y->∃z,s.box j=some z/\y.ty=z.ty/\y.cm=z.cm/\y.dI=z.dI/\(y=z\/z=x/\y={x with c:=c}):=by
  grind
 refine ⟨λi y d=>?_,λi y d=>?_,λi j y z d f=>?_,λi y d=>?_,λi y d=>?_,h.R,λn=>?_,h.bT,h.fQ,h.defers,h.nt,λi y d=>?_,λi n=>(by rw [o];exact h.sv i n),h.jI⟩;obtain ⟨z,f,g,r,_,l⟩:=ck d;have:=h.box i z f;rw [o];rcases l with rfl|⟨rfl,rfl⟩
 exact this;unfold dB at this|-
 grind
 obtain ⟨z,f,g,_⟩:=ck d;rw [g];exact h.cC i z f;obtain ⟨x',e,_⟩:=ck d;obtain ⟨C,v,_⟩:=ck f;exact h.c7 i j x' C e v;obtain ⟨x',e,_⟩:=ck d;exact h.b5 i x' e;obtain ⟨x',e,_⟩:=ck d;exact h.bQ i x' e;rw [o];exact h.tmps n;obtain ⟨x',e,g,r,l,_⟩:=ck d;rw [r,l];exact h.cW i x' e
theorem ajo:∀(l:List Nat) (G:Nat->Gh) (s:St) (k:St->Option Z) (r:Z),aC F G s a w->yS s l k=some r->cf F k r a w:=by
 intro l
 induction l with
 |nil=>intro G s k r h hk;exact ⟨G,s,h,hk⟩
 |cons b l U=>
  intro G s k r h hk;simp only [yS] at hk;unfold b6 at hk;split at hk;rotate_left;cases hk;rename_i x f
  try dsimp only at hk
  split at hk;rename_i d;split at hk;rename_i c J;exact U _ _ k r (h.alv f (λA R t ft cs g=>ahR J g) d) hk;cases hk;rename_i d;have d:x.cm=false:=by simpa using d
  split at hk;rename_i y O;have n:=h.box b x f;unfold dB at n;rw [av (by simp [d])] at n;obtain ⟨j,row,e,v,D,I,h4⟩:=n;obtain ⟨q,u,C⟩:=lY _ _ _ _ _ h4 O;have K:(Gh.mk (some j) q).af=(G b).af:=by simp [Gh.af,v,u]
  have hrel:=Tt (w2:=w) (g':=⟨some j,q⟩) (X:=.pointer (some ⟨j,0,none⟩)) h f d (fJ.refl _) (λ_ _=>rfl) (λ_ _ _ _ _ _=>rfl) (λ_ _ _=>rfl) v.symm ⟨j,row,e,rfl,rfl,D,I,C⟩ rfl (by rw [K];exact h.b5 b x f)
   (λo z=>.inl (by rw [<-u];exact z)) (λo z=>h.bQ b x f o (by simp only [Gh.af,bI];simp_all))
  grind
  cases hk
def FO (h:aC F G s a w) {id:Nat} {k:St->Option Z} {r:Z} (hk:jw E id s k=some r):cf F k r a w:=by
 unfold jw at hk;split at hk;exact ⟨G,s,h,hk⟩;obtain ⟨G1,s1,c,e⟩:=alD _ G s _ r h hk;obtain ⟨b,s2,d,f⟩:=ajo _ G1 s1 _ r c e;exact ⟨b,_,d.ug _ _,f⟩
def VI (O:Q9 Z P E F) (n:Nat):∀(c:Code) (k:Ex->St->Option Z) (r:Z) (G:Nat->Gh) (s:St) (a:Act) (w:World),aC F G s a w->hd E n c k s=some r->c.wp P (xM F k r) a w:=by
 intro c
 induction c with
 |skip=>intro k r G s a w h hk;exact wp_skip ⟨G,s,h,hk⟩
 |ret=>intro k r G s a w h hk;exact wp_ret ⟨G,s,h,hk⟩
 |exit id=>intro k r G s a w h hk;exact wp_exit ⟨G,s,h,hk⟩
 |region id ops K=>
  intro k r G s a w h hk;exact O G s a w id ops K k r h hk
 |seq x y u v=>
  intro k r G s a w h hk;refine wp_seq (wp_mono (u _ r G s a w h hk) λe a w q=>?_);cases e with
  |normal=>
   obtain ⟨g,z,f,b⟩:=q;obtain ⟨C,s2,D,I⟩:=FO f b;exact v _ _ C s2 _ _ D I
  |exit id=>exact q
  |ret=>exact q
  |_=>exact q.elim
 |cond c x y u v=>
  intro k r G s a w h hk;simp only [hd] at hk;have l:=cu h c;split at hk;rename_i t e;rw [e] at l;have o:=l.bool;split at hk;cases c with
  |tmp d=>exact wp_cond_true o (u _ _ G _ _ _ (h.GO l) hk)
  |_=>exact wp_cond_true o (u _ _ G _ _ _ h hk)
  cases c with
  |tmp d=>exact wp_cond_false o (v _ _ G _ _ _ (h.GO l) hk)
  |_=>exact wp_cond_false o (v _ _ G _ _ _ h hk)
  cases hk
 |block id c J=>
  intro k r G s a w h hk;refine wp_block (wp_mono (J _ r G s a w h hk) λe a w q=>?_);cases e with
  |normal=>exact q
  |exit j=>
   obtain ⟨g,z,f,b⟩:=q;simp only [Exit.inBlock];by_cases e:j=id;subst e;rw [aE rfl];simp only [nP,cN] at b;exact ⟨g,z,f,b⟩;rw [av e];simp only [ko e,kK,dA] at b;exact ⟨g,z,f,b⟩
  |ret=>exact q
  |_=>exact q.elim
 |loop c J=>
  intro k r G s a w h hk;have out:∀(e:Exit) (a:Act) (w:World),xM F (nf E (fP c) k) r e a w->xM F k r e a w:=by
   intro e a w q;have b1:∀e,cf F (nf E (fP c) k e) r a w->cf F (k e) r a w:=λe ⟨G,s,h,hk⟩=>FO h hk
   cases e with
   |normal=>exact b1 _ q
   |exit id=>exact b1 _ q
   |ret=>exact b1 _ q
   |_=>exact q.elim
  obtain ⟨W,ab,X,aa⟩:=FO h hk;refine wp_loop_rounds n ?_;have key:∀(m:Nat) (G:Nat->Gh) (s:St) (a:Act) (w:World),aC F G s a w->uk (hd E n c) (jw E (fP c)) (nf E (fP c) k) m s=some r->Code.rounds P c (xM F k r) m a w:=by
   intro m
   induction m with
   |zero=>intro G s a w _ hk;cases hk
   |succ m U=>
    intro G s a w h hk;refine wp_mono (J _ r G s a w h hk) λe a w q=>?_
    cases e with
    |normal=>
     obtain ⟨g,z,f,b⟩:=q;obtain ⟨C,s2,D,I⟩:=FO f b;exact U C _ a w D I
    |exit id=>exact out (.exit id) a w q
    |ret=>exact out .ret a w q
    |_=>exact q.elim
  grind
 |_=>intro k r G s a w h hk;simp [hd] at hk
end
section
variable {Z:Type} {P:Program} {E:an} {F:Fr} {G:Nat->Gh} {s:St} {a:Act} {w:World}
def GP (E:an) (s:St) (t:Ty):ResultVar->Option TV
 | .tmp t=>some (s.get t)
 | .cell a u=>if decide (E.iO u=some t) then kx s t (s.get a) some else none
def pe (E:an) (s:St):List ResultVar->List Ty->Option (List (Ty×TV))
 |[],[]=>some []
 |r::b,t::ts=>match GP E s t r with
  |some v=>match pe E s b ts with
   |some l=>some ((t,v)::l)
   |none=>none
  |none=>none
 |_,_=>none
def Mo (E:an) (d:List PM) (rt:List Ty) (f:List ResultVar) (s:St) (b:List D->List D->Option Z):Option Z:=
 match pe E s f rt with
 |some l=>yq s id l λs e=>ku s 0 d λc=>b e c
 |none=>none
def oS (E:an) (c:List PM) (rt:List Ty) (fn:Func) (b:List D->List D->Option Z):Ex->St->Option Z:=λe s=>match e with
 | .exit _=>none
 |_=>Mo E c rt fn.results.toList s b
def k7 (fn:Func):Code:=match fn.body with
 |some c=>c
 |none=>.skip
def N6 (E:an) (n:Nat) (b:List PM) (rt:List Ty) (fn:Func) (ds:List D) (c:List D->List D->Option Z):Option Z:=
 yA 0 b ds λts bs=>hd {E with nt:=fn.ntmps} n (k7 fn) (oS {E with nt:=fn.ntmps} b rt fn c) {tmps:=ts,cg:=bs}
def aiF (h:aC F G s a w) {T:Ty} {v:TV} {t:Nat} {k:TV->Option Z} {r:Z} (O:bC P T t) {x:Value} (f:VR (ay s.box G) w F.R v x) (hk:kx s T v k=some r):
 ∃u y,k u=some r/\(do loadVar t (<-asAddr x):Sem Value).run P w=.ok y w/\VR (ay s.box G) w F.R u y:=by
 have e:∀b,(Instr.loadAt t (.pointer (some b))).run P w=(do loadVar t (<-asAddr (.pointer (some b))):Sem Value).run P w:=by
  intro b;simp [Instr.loadAt,Instr.sureAddr,asAddr]
 unfold kx at hk;split at hk;rename_i b p;have f:=f.b1 (by simp) (by simp) rfl;obtain ⟨u,ft,z,off,l,j⟩:=f;simp only [gB,gb] at j;unfold b6 at hk;split at hk;rename_i bx g;dsimp only at hk;split at hk;rename_i n;have n:cE bx.ty p=some T:=fb n;have d:=m0 g l;rw [n] at d;obtain rfl:=b3 d;obtain ⟨X,af,ae⟩:=(h.box b bx g).ff;obtain ⟨c',u,K,a',W,aa,J,ab,ac⟩:=aZ.get bx.c bx.ty (G b).ft X ((G b).bj.map (·,0)) p _ r af (λU o e=>(ae U o e).1) hk;rw [fv g,J] at l;simp only [bi,bK] at l;obtain ⟨rfl,rfl,rfl⟩:=l;have C:=ac z off rfl;have ag:=abf _ _ _ (h.cC b bx g) n;obtain ⟨v,D,I⟩:=GR O C (mu u);have ah:iw (ay s.box G) b u K (some (z,off)) p 0:=iw.V4 (λq=>tB (by rw [fv g];exact J));obtain ⟨aj,ak⟩:=abC c' u K W b _ p 0 ag ab ah (λ_=>rfl);refine ⟨_,v,aa,by rw [j,<-e,D],dJ aj (by rw [ak];exact I)⟩;cases hk;cases hk;rename_i u y;have f:=f.b1 (by simp) (by simp) rfl;obtain ⟨z,off,c,j,al,C,ai⟩:=f;simp only [gB,gb] at j;split at hk;rename_i d;have d:u=T:=fb d;subst d;obtain ⟨v,D,I⟩:=GR O C (mu u);exact ⟨_,v,hk,by rw [j,<-e,D],dJ (v:=.ad u y) ai I⟩;cases hk;cases hk
def Ft (tmps:Array Value):ResultVar->Sem Value
 | .tmp t=>pure (tmps.getD t undef)
 | .cell a t=>do loadVar t (<-asAddr (tmps.getD a undef))
def alH (h:aC F G s a w) (j:∀t T,E.iO t=some T->bC P T t) {t:Ty} {d:ResultVar} {v:TV} (b:GP E s t d=some v):∃x,(Ft a.tmps d).run P w=.ok x w/\VR (ay s.box G) w F.R v x:=by
 cases d with
 |tmp n=>
  simp only [GP,bi] at b;subst b;exact ⟨_,rfl,h.tmps n⟩
 |cell n u=>
  simp only [GP] at b;split at b;rename_i c;have c:E.iO u=some t:=fb c;obtain ⟨l,y,e,f,g⟩:=aiF h (j u t c) (h.tmps n) b;obtain rfl:=b3 e;exact ⟨y,f,g⟩;cases b
theorem Ye (h:aC F G s a w) (j:∀t T,E.iO t=some T->bC P T t):∀(c:List ResultVar) (ts:List Ty) (l:List (Ty×TV)),pe E s c ts=some l->
 l.map Prod.fst=ts/\∃xs,(c.mapM (Ft a.tmps)).run P w=.ok xs w/\dq (ay s.box G) w F.R (l.map Prod.snd) xs:=by
 intro c
 induction c with
 |nil=>
  intro ts l b;cases ts with
  |nil=>
   simp only [pe,bi] at b;subst b;exact ⟨rfl,[],rfl,trivial⟩
  |cons _ _=>simp [pe] at b
 |cons y c o=>
  intro ts l b;cases ts with
  |nil=>simp [pe] at b
  |cons t ts=>
   simp only [pe] at b;split at b;rename_i v n;split at b;rename_i q g;simp only [bi] at b;subst b;obtain ⟨d,xs,r,e⟩:=o ts q g;obtain ⟨x,u,f⟩:=alH h j n;refine ⟨by simp [d],x::xs,?_,f,e⟩;simp_all;cases b;cases b
theorem Yh {fn:Func} {xs:List Value} (h:(fn.results.toList.mapM (Ft a.tmps)).run P w=.ok xs w):
 (results fn a.tmps).run P w=.ok (if h:xs.length=1 then xs[0] else .tuple xs.toArray) w:=by
 have e:results fn a.tmps=(do
  let vs <-List.toArray<$>fn.results.toList.mapM (Ft a.tmps)
  pure (if h:vs.size=1 then vs[0] else .tuple vs)):=by
  unfold results;rw [<-Array.mapM_eq_mapM_toList];rfl
 simp_all
end
section
variable {Z:Type} {P:Program} {E:an} {F:Fr} {G:Nat->Gh} {s:St} {a:Act} {w:World}
def afp {s:St}:∀(t:Ty) (v:TV) (k:St->TV->(TV->TV)->Option Z) (r:Z),cj s t v k=some r->v.agg=t.agg/\v≠ .un/\∀b,v≠ .tup b:=by
 intro t v k r h;cases t<;>cases v<;>first
  |(simp [cj] at h;done)
  |exact ⟨rfl,by simp,by simp⟩
  |(simp only [cj] at h
    split at h;rename_i e;have e:=fb e;subst e;exact ⟨rfl,by simp,by simp⟩;cases h)
structure DJ (F:Fr) (G:Nat->Gh) (s:St) (a:Act) (w:World) (c:List Nat) (d:Nat->Gh) (e:St):Prop where
 rel:aC F d e a w
 b5:c.Nodup
 out:∀b∈c,∀j y,e.box j=some y->b∉(d j).af
 bQ:∀b∈c,¬F.R b/\b<w.heap.size/\(b∈F.M\/F.w0.heap.size<=b)
 jt:∀b∈c,∃i x,s.box i=some x/\b∈(G i).af
 eZ:iv G s d e
theorem agQ {A:b0} {R:Nat->Prop}:∀(l:List (Ty×TV)) (xs:List Value) (G:Nat->Gh) (s:St) (kl:TV->TV) (k:St->List D->Option Z) (r:Z),aC F G s a w->
 dq A w R (l.map Prod.snd) xs->(∀v y,VR A w R v y->VR (ay s.box G) w F.R (kl v) y)->yq s kl l k=some r->
 ∃u q ds o,k q ds=some r/\ds.map D.t=l.map Prod.fst/\tq w ds xs o/\DJ F G s a w (FT.bo o) u q:=by
 intro l
 induction l with
 |nil=>
  intro xs G s kl k r h j I hk
  match xs,j with
  |[],_=>exact ⟨G,s,[],[],hk,rfl,trivial,h,lD,λb d=>(by cases d),λb d=>(by cases d),λb d=>(by cases d),iv.refl⟩
 |cons e l ai=>
  intro xs G s kl k r h j I hk;obtain ⟨t,v⟩:=e
  match xs,j with
  |x::xs,j=>
   simp only [yq] at hk;have ah:=I _ _ j.1;split at hk;rename_i ag;obtain ⟨J,K,O⟩:=N1 t _ _ r hk;obtain ⟨cs,ac,ad⟩:=ah.cells K O;obtain ⟨y,C,ap⟩:=GL h t _ cs _ r ac hk;obtain ⟨al,am⟩:=Rd.aY ag ap;obtain ⟨u,q,ds,o,X,aa,ab,g⟩:=ai xs G s kl _ r h j.2 I C;refine ⟨u,q,⟨t,y⟩::ds,.leaf::o,X,by simp [aa],⟨⟨cs,?_,by rw [<-J];exact ad⟩,ab⟩,?_⟩;rw [am];exact bd.fS ag al rfl;have aj:FT.bo (.leaf::o)=FT.bo o:=by simp [FT.bo,FT.af]
   rw [aj];exact g;obtain ⟨J,K,O⟩:=afp t _ _ r hk;obtain ⟨cs,ac,ad⟩:=ah.cells K O;obtain ⟨G1,s1,c,f,κ,C,n⟩:=oH t _ G s cs _ r h ac hk;split at C
   ·rename_i y ar;obtain ⟨ak,ae,an⟩:=lY t c f cs y n.ff ar;obtain ⟨u,q,ds,o,X,aa,ab,g⟩:=ai xs G1 s1 _ _ r n.rel j.2 (λv y aq=>n.vr _ _ (I v y aq)) C;have fr:=n.et.eZ g.eZ;refine ⟨u,q,⟨t,y⟩::ds,ak::o,X,by simp [aa],⟨⟨cs,an,by rw [<-J];exact ad⟩,ab⟩,⟨g.rel,?_,?_,?_,?_,n.eZ.trans g.eZ⟩⟩;simp only [FT.bo,cF,ae];refine ⟨fr.b5,g.b5,λb d c ao e=>?_⟩;subst e;obtain ⟨i,z,W,U⟩:=g.jt b ao;exact n.et.out b d i z W U
    all_goals
     intro b d;simp only [FT.bo,bI,ae] at d
    rcases d with d|d
    exact fr.out b d;exact g.out b d;rcases d with d|d
    exact fr.bQ b d;exact g.bQ b d;rcases d with d|d
    exact n.jt b d;obtain ⟨i,z,W,U⟩:=g.jt b d;exact n.eZ.sub i z W b U
   cases C
  |[],j=>exact j.elim
def aeE (F:Fr) (m:PM) (v:Value) (g:Gh) (id:Nat):Prop:=
 match m with
 | .ptr _=>F.bj id=g.bj/\∃c,g.bj=some c/\v=.pointer (some ⟨c,0,none⟩)
 | .mut t=>(∃u,t=.slice u)/\F.dD id=g.ft.dD/\∃b cap d,g.ft=.node b cap d/\v=.slice (b.map (⟨·,0,none⟩)) d.length cap
 |_=>True
def Kw (F:Fr):Nat->List PM->List Value->List Gh->Prop
 |_,[],[],[]=>True
 |i,m::c,v::vs,g::b=>aeE F m v g (i*32)/\Kw F (i+1) c vs b
 |_,_,_,_=>False
theorem agP (h:aC F G s a w):∀(C:List PM) (i:Nat) (vs:List Value) (n:List Gh) (k:List D->Option Z) (r:Z),Kw F i C vs n->ku s i C k=some r->
 ∃ds d,k ds=some r/\kZ w C ds vs n d/\(bX d).Nodup/\∀b∈bX d,∃j x,i<=j/\s.box (j*32)=some x/\b∈(G (j*32)).af:=by
 intro C
 induction C with
 |nil=>
  intro i vs n k r l hk
  match vs,n,l with
  |[],[],_=>exact ⟨[],[],hk,trivial,lD,λb o=>(by cases o)⟩
 |cons m C am=>
  intro i vs n k r l hk
  match vs,n,l with
  |v::vs,g::n,l=>
   have F8:∀(g':Gh) (aw:List D) (K:List Gh) (x:bm),s.box (i*32)=some x->(∀b∈g'.af,b∈(G (i*32)).af)->g'.af.Nodup->(bX K).Nodup->
    (∀b∈bX K,∃j x,i+1<=j/\s.box (j*32)=some x/\b∈(G (j*32)).af)->
    (bX (g'::K)).Nodup/\∀b∈bX (g'::K),∃j x,i<=j/\s.box (j*32)=some x/\b∈(G (j*32)).af:=by
    intro g' aw K x a9 O ae q h4;rw [FB];refine ⟨cF.2 ⟨ae,q,λb o c I e=>?_⟩,λb o=>?_⟩;subst e;obtain ⟨j,y,aG,W,ak⟩:=h4 b I;exact h.c7 (i*32) (j*32) x y a9 W (by omega) b (O b o) ak
    grind
   have skip:m.fh=false->ku s (i+1) C k=some r->∃ds d,k ds=some r/\kZ w (m::C) ds (v::vs) (g::n) d/\(bX d).Nodup/\∀b∈bX d,∃j x,i<=j/\s.box (j*32)=some x/\b∈(G (j*32)).af:=by
    intro ak hk;obtain ⟨ds,d,X,aa,ac,ag⟩:=am (i+1) vs n k r l.2 hk;have e:bX ((⟨none,.leaf⟩:Gh)::d)=bX d:=by simp [bX,Gh.af,FT.af]
    refine ⟨ds,⟨none,.leaf⟩::d,X,?_,by rw [e];exact ac,λb o=>?_⟩;cases m<;>first|exact ⟨rfl,aa⟩|simp [PM.fh] at ak
    grind
   cases m with
   |ptr t=>
    simp only [ku] at hk;unfold b6 at hk;split at hk;rotate_left;cases hk;rename_i bx z
    try dsimp only at hk
    split at hk;cases hk;rename_i I;simp only [gx,il,py,hv,vc,jM] at I;obtain ⟨ah,ai⟩:=I;split at hk;rename_i y W;obtain ⟨ds,d,X,aa,ac,ag⟩:=am (i+1) vs n _ r l.2 hk;have J:=h.box _ bx z;unfold dB at J;rw [av (by simp [ah])] at J;obtain ⟨ad,row,e,O,ae,q,h4⟩:=J;subst ai;obtain ⟨aj,a0,a1⟩:=lY _ _ _ _ _ h4 W;obtain ⟨a2,aD,ap,al⟩:=l.1;have hpar:=(h.cW _ bx z).1 (by omega);rw [O,a2,ap] at hpar;obtain rfl:=b3 hpar;have U:(Gh.mk (some ad) aj).af=(G (i*32)).af:=by simp [Gh.af,O,a0]
    obtain ⟨an,ao⟩:=F8 ⟨some ad,aj⟩ ds d bx z (λb o=>by rw [<-U];exact o) (by rw [U];exact h.b5 _ bx z) ac ag;exact ⟨⟨_,y⟩::ds,⟨some ad,aj⟩::d,X,⟨⟨rfl,ap.symm,ad,row,e,rfl,al,ae,q,a1⟩,aa⟩,an,ao⟩;cases hk
   | «mut» t=>
    simp only [ku] at hk;unfold b6 at hk;split at hk;rotate_left;cases hk;rename_i bx z
    try dsimp only at hk
    split at hk;cases hk;rename_i I;simp only [gx,il,py,hv,vc,Bool.not_eq_false] at I;obtain ⟨⟨ah,ai⟩,au⟩:=I;split at hk;rename_i u y W;obtain ⟨ds,d,X,aa,ac,ag⟩:=am (i+1) vs n _ r l.2 hk;have J:=h.box _ bx z;unfold dB at J;rw [aE ah] at J;obtain ⟨O,⟨aJ,ae⟩,cs,q⟩:=J;rw [W] at q;obtain ⟨ax,q⟩:=q;have a8:u=t:=ax.trans au;subst a8;obtain ⟨⟨aK,a7⟩,a5,aB,aF,aI,a4,al⟩:=l.1;subst a7;have hpar:=((h.cW _ bx z).2 ai).2;rw [a5,a4] at hpar;have ar:=q;obtain ⟨b,cap,aH,ay,az,_,_,a6,_⟩:=q;rw [ay] at hpar;simp only [FT.dD,bi,bK] at hpar;obtain ⟨rfl,rfl,aA⟩:=hpar;have a3:cs=[v]:=by rw [az,al,<-a6,aA]
    rw [a3] at ar;have U:(Gh.mk none (G (i*32)).ft).af=(G (i*32)).ft.af:=by simp [Gh.af]
    have aq:=h.b5 _ bx z;simp only [Gh.af,cF] at aq;obtain ⟨an,ao⟩:=F8 ⟨none,(G (i*32)).ft⟩ ds d bx z (λb o=>by rw [U] at o;simp only [Gh.af,bI];exact .inr o) (by rw [U];exact aq.2.1) ac ag;exact ⟨⟨_,y⟩::ds,⟨none,(G (i*32)).ft⟩::d,X,⟨⟨rfl,rfl,ar⟩,aa⟩,an,ao⟩;cases hk
   |ro t=>exact skip rfl (by simpa only [ku] using hk)
   |bt t=>exact skip rfl (by simpa only [ku] using hk)
   |ab t=>exact skip rfl (by simpa only [ku] using hk)
   |bU f c=>exact skip rfl (by simpa only [ku] using hk)
  |[],_,l=>exact l.elim
  |_::_,[],l=>exact l.elim
end
section
variable {Z:Type} {P:Program} {E:an} {w:World} {R:Nat->Prop}
def PM.iF:PM->Bool
 | .ptr t| .mut t| .ab t=>t.iF
 | .bU _ b=>b.all λm=>match m with
  | .bt _=>true
  |_=>false
 |_=>true
def IB (w:World) (g:Gh) (x:Value) (b:bm):Prop:=
 (∃(t:Ty) (y:t.ai),b=⟨t,false,false,.ab t y⟩/\s4 w t y g x/\t.cC)\/
 ∃(u:Ty) (y:(Ty.slice u).ai) (dI:Bool),b=⟨.slice u,true,dI,.ab (.slice u) y⟩/\g.bj=none/\bd w (.slice u) y g.ft [x]/\(Ty.slice u).cC
def IV (w:World) (R:Nat->Prop) (id:Nat) (g:Gh) (x:Value) (v:TV) (b:Option bm):Prop:=
 VR A0 w R v x\/∃y,b=some y/\IB w g x y/\(y.cm=false->v=.ref id [])/\(y.cm=true->v=.sl id [])
def ah0:∀(c:List PM) (ds bn:List D) (vs:List Value) (k:List TV->List D->Option Z) (r:Z),vt w R c ds vs->(c.all λm=>match m with
 | .bt _=>true
 |_=>false)=true->yB c (ds++bn) k=some r->∃h,k h bn=some r/\bF A0 w R (h.foldr TV.cons .unit) vs:=by
 intro c
 induction c with
 |nil=>
  intro ds bn vs k r b _ hk
  match ds,vs,b with
  |[],[],_=>exact ⟨[],hk,rfl⟩
 |cons m c u=>
  intro ds bn vs k r b g hk
  match ds,vs,b with
  |d::ds,v::vs,b=>
   simp only [List.all_cons,bE] at g;obtain ⟨l,n⟩:=b;cases m with
   |bt t=>
    obtain ⟨e,o⟩:=l;simp only [kL,yB] at hk;split at hk;rename_i x q;obtain ⟨f,rfl⟩:=eP q;obtain ⟨h,y,z⟩:=u ds bn vs _ r n g.2 hk;obtain ⟨j,C⟩:=d;have f:j=t:=f;subst f;exact ⟨_,y,[v],vs,rfl,o.b1 (by simp) (by simp) rfl,z⟩;cases hk
   |_=>simp at g
  |[],_::_,b=>exact b.elim
  |[],[],b=>exact b.elim
  |_::_,[],b=>exact b.elim
def ahZ {m:PM} {l ds:List D} {x:Value} {g:Gh} {id:Nat} (o:m.iF=true) (c:zJ w R m l x g) {k:TV->List (Nat×bm)->List D->Option Z} {r:Z} (hk:ni id m (l++ds) k=some r):
 ∃v bx,k v bx ds=some r/\((bx=[]/\VR A0 w R v x)\/∃b,bx=[(id,b)]/\IB w g x b/\(b.cm=false->v=.ref id [])/\(b.cm=true->v=.sl id [])):=by
 cases m with
 |ro t=>
  match l,c with
  |[d],c=>
   obtain ⟨_,e,j⟩:=c
   grind [ni,m1]
 |bt t=>
  match l,c with
  |[d],c=>
   obtain ⟨_,e,j⟩:=c
   grind [ni,m1]
 |ptr t=>
  match l,c with
  |[d],c=>
   obtain ⟨e,j⟩:=c;obtain ⟨n,y⟩:=d;have e:n=t:=e;subst e;simp only [kL,el,ni,m1] at hk;exact ⟨_,_,hk,.inr ⟨_,rfl,.inl ⟨_,_,rfl,j,Ty.oU o⟩,λ_=>rfl,λh=>(by cases h)⟩⟩
 | «mut» t=>
  match l,c with
  |[d],c=>
   obtain ⟨e,⟨u,rfl⟩,q,j⟩:=c;obtain ⟨n,y⟩:=d;have e:n=.slice u:=e;subst e;simp only [kL,el,ni,m1] at hk;exact ⟨_,_,hk,.inr ⟨_,rfl,.inr ⟨_,_,_,rfl,q,j,Ty.oU o⟩,λh=>(by cases h),λ_=>rfl⟩⟩
 |ab t=>
  match l,c with
  |[d],c=>
   obtain ⟨e,⟨u,rfl⟩,q,j⟩:=c;obtain ⟨n,y⟩:=d;have e:n=.slice u:=e;subst e;simp only [kL,el,ni,m1] at hk;exact ⟨_,_,hk,.inr ⟨_,rfl,.inr ⟨_,_,_,rfl,q,j,Ty.oU o⟩,λh=>(by cases h),λ_=>rfl⟩⟩
 |bU f I=>
  obtain ⟨_,vs,rfl,j⟩:=c;simp only [ni] at hk;obtain ⟨J,z,C⟩:=ah0 I l ds vs _ r j o hk;exact ⟨_,_,z,.inl ⟨rfl,dJ (cs:=[_]) ⟨vs,C,rfl⟩ rfl⟩⟩
def ahY:∀(l:List PM) (i:Nat) (ds:List D) (vs:List Value) (c:List Gh) (k:List (Nat×TV)->List (Nat×bm)->Option Z) (r:Z),(∀m∈l,m.iF=true)->lG w R l ds vs c->yA i l ds k=some r->
 ∃ts bs,k ts bs=some r/\
  (∀n v,lk ts n=some v->∃j x g,n=i+j/\vs[j]?=some x/\c[j]?=some g/\IV w R (n*32) g x v (lk bs (n*32)))/\
  (∀id b,lk bs id=some b->∃j x g,id=(i+j)*32/\vs[j]?=some x/\c[j]?=some g/\IB w g x b):=by
 intro l
 induction l with
 |nil=>
  intro i ds vs c k r _ d hk
  match ds,vs,c,d with
  |[],[],[],_=>exact ⟨[],[],hk,λn v h=>(by cases h),λn v h=>(by cases h)⟩
 |cons m l ac=>
  intro i ds vs c k r U d hk
  match vs,c,d with
  |x::vs,g::c,d=>
   obtain ⟨K,J,rfl,W,X⟩:=d;have hk:ni (i*32) m (K++J) (λv b ds=>yA (i+1) l ds λts bs=>k ((i,v)::ts) (b++bs))=some r:=by
    cases h:K++J with
    |nil=>rw [h] at hk;exact hk
    |cons _ _=>rw [h] at hk;exact hk
   obtain ⟨v,bx,ad,o⟩:=ahZ (U m (by simp)) W hk;obtain ⟨ts,bs,ae,aa,O⟩:=ac (i+1) J vs c _ r (λm h=>U m (by simp [h])) X ad;have ag:∀b,lk bs (i*32)≠some b:=by
    grind
   refine ⟨_,_,ae,λn u C=>?_,λid b f=>?_⟩;rw [gr] at C;split at C;rename_i e;subst e;obtain rfl:=b3 C;refine ⟨0,x,g,rfl,rfl,rfl,?_⟩;rcases o with ⟨rfl,o⟩|⟨b,rfl,f,o⟩
   exact .inl o;refine .inr ⟨b,?_,f,o⟩;rw [FV,gr,aE rfl];rfl;obtain ⟨j,y,g',e,q,z,I⟩:=aa n u C;refine ⟨j+1,y,g',by omega,by simpa using q,by simpa using z,?_⟩
   grind [gr]
   rw [FV] at f;rcases o with ⟨rfl,_⟩|⟨af,rfl,ab,_⟩
   obtain ⟨j,y,g',e,q,z,I⟩:=O id b f;exact ⟨j+1,y,g',by omega,by simpa using q,by simpa using z,I⟩;rw [gr] at f;split at f;rename_i e;obtain rfl:=b3 f;exact ⟨0,x,g,e.symm,rfl,rfl,ab⟩;obtain ⟨j,y,g',e,q,z,I⟩:=O id b f;exact ⟨j+1,y,g',by omega,by simpa using q,by simpa using z,I⟩
  |[],_,d=>exact d.elim
  |_::_,[],d=>exact d.elim
def l7 (b:List Gh) (id:Nat):Gh:=if id%32=0 then (b[id/32]?).getD ⟨none,.leaf⟩ else ⟨none,.leaf⟩
theorem FA {b:List Gh} {j:Nat} {g:Gh} (h:b[j]?=some g):l7 b (j*32)=g:=by
 unfold l7;simp_all
theorem VW {c:List Gh} {j:Nat} {g:Gh} (h:c[j]?=some g) {b:Nat} (d:b∈g.af):b∈bX c:=by
 unfold bX
 grind
def ahH:∀{c:List Gh},(bX c).Nodup->(∀(j:Nat) (g:Gh),c[j]?=some g->g.af.Nodup)/\∀(i j:Nat) (g g':Gh),c[i]?=some g->c[j]?=some g'->i≠j->∀b∈g.af,b∉g'.af:=by
 intro c
 induction c with
 |nil=>simp_all
 |cons d c e=>
  grind [FB,VW]
theorem ak1 {F:Fr}:∀(l:List PM) (i:Nat) (ds:List D) (vs:List Value) (c:List Gh),lG w R l ds vs c->(∀j g,c[j]?=some g->F.bj ((i+j)*32)=g.bj/\F.dD ((i+j)*32)=g.ft.dD)->Kw F i l vs c:=by
 intro l
 induction l with
 |nil=>
  intro i ds vs c f _
  match ds,vs,c,f with
  |[],[],[],_=>trivial
 |cons m l K=>
  intro i ds vs c f o
  match vs,c,f with
  |x::vs,g::c,f=>
   obtain ⟨n,v,rfl,h,C⟩:=f;refine ⟨?_,K (i+1) v vs c C (λj g I=>by have:=o (j+1) g (by simpa using I);grind)⟩;have q:=o 0 g rfl;cases m with
   |ptr t=>
    match n,h with
    |[d],h=>
     obtain ⟨_,r,row,e,U,W,_⟩:=h;exact ⟨q.1,r,U,W⟩
   | «mut» t=>
    match n,h with
    |[d],h=>
     obtain ⟨e,⟨u,rfl⟩,_,J⟩:=h;obtain ⟨y,X⟩:=d;have e:y=.slice u:=e;subst e;obtain ⟨b,cap,O,z,aa,_,_,ab,_⟩:=J;refine ⟨⟨u,rfl⟩,q.2,b,cap,O,z,?_⟩;simp_all
   |_=>trivial
  |[],_,f=>exact f.elim
  |_::_,[],f=>exact f.elim
theorem To:∀(d:List PM) (ds:List D) (vs:List Value) (c:List Gh),lG w R d ds vs c->vs.length=d.length:=by
 intro d
 induction d with
 |nil=>
  intro ds vs c b
  match ds,vs,c,b with
  |[],[],[],_=>rfl
 |cons m d l=>
  intro ds vs c b
  match vs,c,b with
  |x::vs,g::c,b=>
   obtain ⟨e,f,rfl,h,j⟩:=b
   grind
  |[],_,b=>exact b.elim
  |_::_,[],b=>exact b.elim
theorem alC {c:az} {ds:List D} {vs:List Value} {q:List Gh} (C:xN w R c ds vs q) (ag:∀m∈c.params,m.iF=true) {nt:Nat} (ax:c.params.length<=nt)
 {k:List (Nat×TV)->List (Nat×bm)->Option Z} {r:Z} (hk:yA 0 c.params ds k=some r):
 ∃ts bs,k ts bs=some r/\aC ⟨R,bX q,w,nt,λid=>(l7 q id).bj,λid=>(l7 q id).ft.dD,[]⟩ (l7 q) {tmps:=ts,cg:=bs} {tmps:=vs.toArray++Array.replicate (nt-vs.length) undef,defers:=[]} w:=by
 obtain ⟨ts,bs,am,af,ae⟩:=ahY c.params 0 ds vs q k r ag C.args hk;obtain ⟨a0,a1⟩:=ahH C.b5;have au:=To _ _ _ _ C.args;have K:∀id b,St.box {tmps:=ts,cg:=bs} id=some b->∃j x g,id=j*32/\q[j]?=some g/\l7 q id=g/\IB w g x b:=by
  intro id b d;obtain ⟨j,x,g,e,_,o,f⟩:=ae id b d
  grind [FA]
 refine ⟨ts,bs,am,⟨λi x l=>?_,λi x l=>?_,λi j x y l ay aw b d=>?_,λi x l=>?_,λi x l b d=>?_,λb d=>⟨C.R b d,λJ=>(C.bQ b J).1 d⟩,λn=>?_,λ_ _ _=>rfl,fJ.refl _,rfl,?_,λi x l=>?_,λi n=>.inl (by simp [St.fW,lk]),rfl⟩⟩;obtain ⟨j,v,g,rfl,I,o,f⟩:=K i x l;rw [o];unfold dB;rcases f with ⟨t,y,rfl,z,_⟩|⟨u,y,dI,rfl,d,z,_⟩
 rw [av (by simp)];obtain ⟨O,row,e,U,_,W,ad,h4⟩:=z;exact ⟨O,row,e,U,W,ad,rfl,h4⟩;rw [aE rfl];exact ⟨d,⟨u,rfl⟩,[v],rfl,z⟩;obtain ⟨j,v,g,rfl,I,o,f⟩:=K i x l;rcases f with ⟨t,y,rfl,_,aa⟩|⟨u,y,dI,rfl,_,_,aa⟩<;>exact aa
 grind
 grind
 obtain ⟨al,_,g,rfl,I,o,_⟩:=K i x l;rw [o] at d;have J:=VW I d;exact ⟨(C.bQ b J).1,(C.bQ b J).2,.inl J⟩;show VR _ w R ((lk ts n).getD .un) _;cases ak:lk ts n with
 |none=>exact .inl rfl
 |some v=>
  obtain ⟨j,x,g,e,I,o,f⟩:=af n v ak;rw [kR] at e;subst e;have l:(vs.toArray++Array.replicate (nt-vs.length) undef).getD n undef=x:=by
   have aj:=(b4.1 I).1;rw [jL,Array.getElem?_append_left (by simpa using aj)];simp [I]
  rw [l];simp only [vm];rcases f with f|⟨y,f,ao,ap,aq⟩
  exact VR.mono (λ_ _ _ _ _ h=>by cases h) (λ_ _=>rfl) f;have X:St.box {tmps:=ts,cg:=bs} (n*32)=some y:=f;rcases ao with ⟨t,ar,rfl,z,_⟩|⟨u,ar,dI,rfl,d,z,_⟩
  rw [ap rfl];obtain ⟨O,row,e,U,W,_⟩:=z;refine dJ (cs:=[x]) ⟨t,g.ft,O,0,?_,by rw [W]⟩ rfl;rw [fv X,FA o,U];cases t<;>rfl
  rw [aq rfl];obtain ⟨b,cap,an,ab,ac,_,_,ai,_⟩:=z;refine dJ (cs:=[x]) ⟨u,b,cap,an,none,?_,by rw [ac,ai]⟩ rfl;rw [fv X,FA o,d,ab];rfl
 simp_all;obtain ⟨al,_,g,rfl,I,o,f⟩:=K i x l;refine ⟨λ_=>rfl,λah=>?_⟩;rcases f with ⟨t,y,rfl,_⟩|⟨u,y,dI,rfl,_⟩
 cases ah;simp_all
def alF {c:List D} {xs:List Value} {b:List FT} (h:tq w c xs b):KC w c (if h:xs.length=1 then xs[0] else .tuple xs.toArray) b:=by
 match c,xs,b,h with
 |[],[],[],_=>exact ⟨rfl,rfl⟩
 |[d],[x],[f],h=>exact ⟨f,rfl,h.1⟩
 |d::e::c,x::x'::xs,f::g::b,h=>exact ⟨x::x'::xs,by simp,h⟩
 |[],_::_,_,h=>exact h.elim
 |[],[],_::_,h=>exact h.elim
 |_::_,[],_,h=>exact h.elim
 |_::_,_::_,[],h=>exact h.elim
 |[_],_::_::_,_::_,h=>exact h.2.elim
 |[_],[_],_::_::_,h=>exact h.2.elim
 |_::_::_,[_],_::_,h=>exact h.2.elim
 |_::_::_,_::_::_,[_],h=>exact h.2.elim
theorem agb {f:Nat} {fn:Func} {c:az} (am:P.funcs[f]?=some fn) (o:fn.body.isSome=true) (I:P.follows .mixedOrders=true)
 (ab:lW P E) (W:fc P E) (aq:c.params.all PM.iF=true) (ap:c.params.length<=fn.ntmps)
 {n:Nat} {ds:List D} {O:List D->List D->Option Z} {r:Z} (ad:N6 E n c.params c.results fn ds O=some r) {vs:List Value} {d:List Gh} (X:xN w R c ds vs d):
 Calls P f vs.toArray w λe w'=>match e with
  | .returned v=>∃K J z C,O K J=some r/\vu w c vs d K J v w' z C
  |_=>False:=by
 have ai:fc P {E with nt:=fn.ntmps}:=⟨W.fn,W.inl,W.h3⟩;have ak:fn.body=some (k7 fn):=by
  unfold k7
  grind
 unfold N6 at ad;have a4:=To _ _ _ _ X.args;obtain ⟨ts,bs,au,hrel⟩:=alC X (λm h=>fa.1 aq m h) (nt:=fn.ntmps) ap ad;have aj:df P {E with nt:=fn.ntmps} ⟨R,bX d,w,fn.ntmps,λid=>(l7 d id).bj,λid=>(l7 d id).ft.dD,[]⟩:=⟨⟨ab.ty,ab.maps⟩,rfl⟩;refine calls_of_wp am ak ?_;have ar:vs.toArray.size=vs.length:=by simp
 rw [ar];refine wp_mono (VI (Yb aj ai I) n (k7 fn) _ _ _ _ _ _ hrel au) λe a w' q=>?_
 have done:cf ⟨R,bX d,w,fn.ntmps,λid=>(l7 d id).bj,λid=>(l7 d id).ft.dD,[]⟩ (λs=>Mo {E with nt:=fn.ntmps} c.params c.results fn.results.toList s O) r a w'->
  a.defers=[]/\∃v,(results fn a.tmps).run P w'=.ok v w'/\∃K J z C,O K J=some r/\vu w c vs d K J v w' z C:=by
  rintro ⟨G,s,aa,hk⟩;unfold Mo at hk;dsimp only at hk;split at hk;rotate_left;cases hk;rename_i l ao;obtain ⟨ag,xs,U,ah⟩:=Ye (E:={E with nt:=fn.ntmps}) aa ab.ty _ _ l ao;have U:=Yh U;obtain ⟨a3,a5,af,z,av,aw,ax,u⟩:=agQ l xs G s id _ _ aa ah (λv y h=>h) hk;obtain ⟨a2,C,ay,a0,a1,ae⟩:=agP u.rel c.params 0 vs d _ _ (ak1 c.params 0 ds vs d X.args (λj g an=>by
   rw [kR];simp only [FA an];simp_all)) av
  refine ⟨aa.defers,_,U,af,a2,z,C,ay,alF ax,aw.trans ag,a0,?_,λb o=>?_,u.rel.fQ,u.rel.bT⟩;refine cF.2 ⟨u.b5,a1,λb o c al e=>?_⟩;subst e;obtain ⟨j,x,_,ac,I⟩:=ae b al;exact u.out b o _ x ac I;rcases bI.1 o with o|o
  exact (u.bQ b o).2;obtain ⟨j,x,_,ac,I⟩:=ae b o;exact (u.rel.bQ _ x ac b I).2
 cases e with
 |normal=>exact done q
 |ret=>exact done q
 |exit id=>obtain ⟨G,s,_,hk⟩:=q;cases hk
 |_=>exact q.elim
def kk:List Ty->Type
 |[]=>Unit
 |T::b=>T.ai×kk b
def qt:(b:List Ty)->List D->Option (kk b)
 |[],ds=>match ds with
  |[]=>some ()
  |_::_=>none
 |T::b,ds=>match ds with
  |[]=>none
  |d::ds=>match cI d.t T d.x with
   |none=>none
   |some x=>match qt b ds with
    |none=>none
    |some r=>some (x,r)
def tR:(b:List Ty)->kk b->List D
 |[],_=>[]
 |T::b,x=>⟨T,x.1⟩::tR b x.2
theorem agE:∀{b:List Ty} {ds:List D} {v:kk b},qt b ds=some v->ds=tR b v:=by
 intro b
 induction b with
 |nil=>
  intro ds v h;cases ds with
  |nil=>rfl
  |cons _ _=>simp [qt] at h
 |cons T b g=>
  intro ds v h;cases ds with
  |nil=>simp [qt] at h
  |cons d ds=>
   simp only [qt] at h;split at h;cases h;rename_i x f;obtain ⟨e,rfl⟩:=eP f;split at h;cases h;rename_i r c;have:=g c;subst this;obtain rfl:=b3 h;obtain ⟨t,x⟩:=d;have e:t=T:=e;subst e;rfl
def mi:List PM->List Ty
 |[]=>[]
 | .ptr t::b=>t::mi b
 | .mut t::b=>t::mi b
 |_::b=>mi b
def m7 (c:List PM) (rt:List Ty) (e d:List D):Option (kk rt×kk (mi c)):=
 match qt rt e with
 |none=>none
 |some a=>match qt (mi c) d with
  |none=>none
  |some b=>some (a,b)
noncomputable def aQ (E:an) (n:Nat) (b:List PM) (rt:List Ty) (fn:Func) (ds:List D):Option (kk rt×kk (mi b)):=
 N6 E n b rt fn ds (m7 b rt)
noncomputable def aO (E:an) (n:Nat) (b:List PM) (rt:List Ty) (fn:Func):az:=
 {params:=b,results:=rt,h:=λds k=>match aQ E n b rt fn ds with
  |none=>none
  |some v=>k (tR rt v.1) (tR (mi b) v.2)}
theorem aR {f:Nat} {fn:Func} {d:List PM} {rt:List Ty} (n:Nat) (u:P.funcs[f]?=some fn) (r:∀args w,(callFunc f args).run P w=.ok (.enter f args) w) (o:fn.body.isSome=true) (x:P.follows .mixedOrders=true)
 (I:lW P E) (l:fc P E) (j:(d.all PM.iF&&rt.all Ty.iF&&Nat.ble d.length fn.ntmps)=true):aM P f (aO E n d rt fn):=by
 simp only [bE] at j;obtain ⟨⟨z,C⟩,h⟩:=j;have h:d.length<=fn.ntmps:=by simp_all
 refine ⟨λZ ds k=>?_,λt D=>Ty.oU (fa.1 C t D),λw R ds vs K U O y b=>.inl ⟨r,?_⟩⟩
 grind [az.g,aO]
 unfold az.g aO at b;simp only at b;split at b;cases b;rename_i v J;simp only [bi,bK] at b;obtain ⟨rfl,rfl⟩:=b;refine (agb (c:=aO E n d rt fn) u o x I l z h J y).mono λe w' q=>?_
 grind [m7,agE]
def rb:Nat->List TV->List (Nat×TV)
 |_,[]=>[]
 |i,v::vs=>(i,v)::rb (i+1) vs
theorem arK:∀(vs:List TV) (i n:Nat),lk (rb i vs) n=if i<=n then vs[n-i]? else none:=by
 intro vs
 induction vs with
 |nil=>intro i n;simp [rb,lk]
 |cons v vs b=>
  intro i n;simp only [rb,gr,b]
  grind
def TV.Np:TV->Bool
 | .tup _=>false
 |_=>true
def Yg:List TV->TV
 |[v]=>v
 |vs=>.tup (vs.foldr .cons .unit)
def uV (E:an) (l:List TV) (s:St):St:=
 if l.all λv=>v.aK.isEmpty then s.ug [] (s.cg.filterMap λx=>if Nat.beq (x.1%32) (E.fA%32) then none else some x.1) else s
def Lo {Z:Type} (E:an) (rt:List Ty) (fn:Func) (k:St->TV->Option Z) (s:St):Option Z:=
 match pe E s fn.results.toList rt with
 |some l=>match (l.map Prod.snd).all TV.Np with
  |true=>match (uV E (l.map Prod.snd) s).sv with
   |t::sv=>k {tmps:=t,cg:=(uV E (l.map Prod.snd) s).cg,sv:=sv} (Yg (l.map Prod.snd))
   |[]=>none
  |false=>none
 |none=>none
def na {Z:Type} (E:an) (rt:List Ty) (fn:Func) (k:St->TV->Option Z):Ex->St->Option Z:=λe s=>match e with
 | .exit _=>none
 |_=>Lo E rt fn k s
def dl (E:an) (n:Nat) (rt:List Ty) (fn:Func) (ts:List Nat):du:=
 {run:=λs vs k=>match Nat.ble vs.length fn.ntmps with
  |true=>hd {E with nt:=fn.ntmps} n (k7 fn) (na {E with nt:=fn.ntmps} rt fn k) {tmps:=rb 0 vs,cg:=s.cg,sv:=(ts.map λn=>(n,s.get n))::s.sv}
  |false=>none}
def aro {A:b0} {R:Nat->Prop}:∀(vs:List TV) (xs:List Value),dq A w R vs xs->vs.length=xs.length/\∀(n:Nat) (v:TV),vs[n]?=some v->∃x,xs[n]?=some x/\VR A w R v x:=by
 intro vs
 induction vs with
 |nil=>
  intro xs h;cases xs with
  |nil=>simp_all
  |cons _ _=>exact h.elim
 |cons v vs d=>
  intro xs h;cases xs with
  |nil=>exact h.elim
  |cons x xs=>
   obtain ⟨c,e⟩:=d xs h.2;refine ⟨by simp [c],λn u b=>?_⟩;cases n with
   |zero=>simp at b;subst b;exact ⟨x,rfl,h.1⟩
   |succ n=>simp_all
def arp {A:b0} {R:Nat->Prop}:∀(vs:List TV) (xs:List Value),dq A w R vs xs->vs.all TV.Np=true->fl A w R (vs.foldr .cons .unit) xs:=by
 intro vs
 induction vs with
 |nil=>
  intro xs h _;cases xs with
  |nil=>trivial
  |cons _ _=>exact h.elim
 |cons v vs c=>
  intro xs h b;cases xs with
  |nil=>exact h.elim
  |cons x xs=>
   simp only [List.all_cons,bE] at b;refine ⟨?_,c xs h.2 b.2⟩;have:=h.1;rwa [oG (λa e=>by rw [e] at b;cases b.1)] at this
theorem alG {A:b0} {R:Nat->Prop} {vs:List TV} {xs:List Value} (h:dq A w R vs xs) (b:vs.all TV.Np=true):VR A w R (Yg vs) (if h:xs.length=1 then xs[0] else .tuple xs.toArray):=by
 match vs,xs,h with
 |[],[],_=>exact ⟨[],trivial,rfl⟩
 |[v],[x],h=>exact h.1
 |v::c::vs,x::x'::xs,h=>
  have:=arp (v::c::vs) (x::x'::xs) h b;exact ⟨_,this,by simp⟩
 |[],_::_,h=>exact h.elim
 |_::_,[],h=>exact h.elim
 |[_],_::_::_,h=>exact h.2.elim
 |_::_::_,[_],h=>exact h.2.elim
theorem bF.lj {A A':b0} {R:Nat->Prop}:∀(v:TV) (cs:List Value),v.aK=[]->bF A w R v cs->bF A' w R v cs:=by
 intro v
 induction v with
 |cons a d u x=>
  intro cs h g;simp only [TV.aK,zA] at h;obtain ⟨o,q,e,j,l⟩:=g;exact ⟨o,q,e,u o h.1 j,x q h.2 l⟩
 |bU f c r=>
  intro cs h g;obtain ⟨vs,j,l⟩:=g;exact ⟨vs,r vs h j,l⟩
 |ref b p=>intro cs h;simp [TV.aK] at h
 |sl b p=>intro cs h;simp [TV.aK] at h
 |slw b p lo n=>intro cs h;simp [TV.aK] at h
 |mp b=>intro cs h;simp [TV.aK] at h
 |tup a _=>intro cs _ g;exact g.elim
 |_=>intro cs _ g;exact g
theorem eJ.lj {A A':b0} {R:Nat->Prop} {v:TV} {x:Value} (h:v.aK=[]) (d:eJ A w R v x):eJ A' w R v x:=by
 rcases d with e|⟨cs,b,c⟩
 exact .inl e;exact .inr ⟨cs,bF.lj v cs h b,c⟩
theorem fl.lj {A A':b0} {R:Nat->Prop}:∀(v:TV) (xs:List Value),v.aK=[]->fl A w R v xs->fl A' w R v xs:=by
 intro v
 induction v with
 |cons a d _ c=>
  intro xs h b;simp only [TV.aK,zA] at h;cases xs with
  |nil=>exact b.elim
  |cons x xs=>exact ⟨eJ.lj h.1 b.1,c xs h.2 b.2⟩
 |unit=>intro xs _ b;cases xs with
  |nil=>exact b
  |cons _ _=>exact b.elim
 |_=>intro xs _ b;exact b.elim
theorem VR.lj {A A':b0} {R:Nat->Prop} {v:TV} {x:Value} (h:v.aK=[]) (e:VR A w R v x):VR A' w R v x:=by
 by_cases d:∃a,v=.tup a
 obtain ⟨a,rfl⟩:=d;obtain ⟨xs,b,c⟩:=e;exact ⟨xs,fl.lj a xs h b,c⟩
 grind [oG,eJ.lj]
theorem dq.lj {A A':b0} {R:Nat->Prop}:∀(vs:List TV) (xs:List Value),(∀v∈vs,v.aK=[])->dq A w R vs xs->dq A' w R vs xs
 |[],[],_,h=>h
 |[],_::_,_,h=>h.elim
 |_::_,[],_,h=>h.elim
 |_::vs,_::xs,b,h=>⟨VR.lj (b _ (by simp)) h.1,dq.lj vs xs (λv c=>b v (by simp [c])) h.2⟩
theorem apv {F:Fr} {G:Nat->Gh} {s:St} {a:Act} (h:aC F G s a w) {l:List TV} {xs:List Value} (b:dq (ay s.box G) w F.R l xs):aC F G (uV E l s) a w/\dq (ay (uV E l s).box G) w F.R l xs:=by
 unfold uV;split;rename_i c;exact ⟨h.ug _ _,dq.lj l xs (λv d=>by simp_all) b⟩;simp_all
def e9 {f:Nat} {fn:Func} {rt:List Ty} {ts:List Nat} (n:Nat) (U:P.funcs[f]?=some fn) (O:∀args w,(callFunc f args).run P w=.ok (.enter f args) w) (ai:fn.body.isSome=true) (ab:P.follows .mixedOrders=true)
 (u:lW P E) (j:fc P E):dH P f (dl E n rt fn ts):=by
 intro Z F G s a w vs xs k r h ah c;unfold dl at c;simp only at c;split at c;rotate_left;cases c;rename_i ad;have ad:vs.length<=fn.ntmps:=by simp_all
 obtain ⟨aj,W⟩:=aro vs xs ah;have I:fc P {E with nt:=fn.ntmps}:=⟨j.fn,j.inl,j.h3⟩;have K:fn.body=some (k7 fn):=by
  unfold k7
  grind
 refine .inl ⟨O,?_⟩;have J:df P {E with nt:=fn.ntmps} {F with nt:=fn.ntmps,sv:=a.tmps::F.sv}:=⟨⟨u.ty,u.maps⟩,rfl⟩;have hrel:aC {F with nt:=fn.ntmps,sv:=a.tmps::F.sv} G {tmps:=rb 0 vs,cg:=s.cg,sv:=(ts.map λn=>(n,s.get n))::s.sv} {tmps:=xs.toArray++Array.replicate (fn.ntmps-xs.length) undef,defers:=[]} w:=by
  refine ⟨h.box,h.cC,h.c7,h.b5,h.bQ,h.R,λn=>?_,h.bT,h.fQ,rfl,?_,h.cW,λi n=>?_,?_⟩;show VR (ay s.box G) w F.R ((lk (rb 0 vs) n).getD .un) _;rw [arK,aE (bG n),Nat.sub_zero];cases ac:vs[n]? with
  |none=>exact .inl rfl
  |some v=>
   obtain ⟨x,C,ak⟩:=W n v ac;have aa:=(b4.1 C).1;have:(xs.toArray++Array.replicate (fn.ntmps-xs.length) undef).getD n undef=x:=by
    rw [jL,Array.getElem?_append_left (by simpa using aa)];simp [C]
   simp_all
  simp_all;cases i with
  |zero=>
   show VR (ay s.box G) w F.R ((lk (ts.map λn=>(n,s.get n)) n).getD .un) (a.tmps.getD n undef);rcases Ww (λn=>s.get n) ts n with e|e
   rw [e];exact h.tmps n;rw [e];exact .inl rfl
  |succ i=>exact h.sv i n
  simp [h.jI]
 refine calls_of_wp U K ?_;have ag:xs.toArray.size=xs.length:=by simp
 rw [ag];refine wp_mono (VI (Yb J I ab) n (k7 fn) _ _ _ _ _ _ hrel c) λe a' w' q=>?_
 have done:cf {F with nt:=fn.ntmps,sv:=a.tmps::F.sv} (λs=>Lo {E with nt:=fn.ntmps} rt fn k s) r a' w'->
  a'.defers=[]/\∃v,(results fn a'.tmps).run P w'=.ok v w'/\∃z y tv,aC F z y a w'/\VR (ay y.box z) w' F.R tv v/\k y tv=some r:=by
  rintro ⟨D,s2,b,hk⟩;unfold Lo at hk;dsimp only at hk;split at hk;rotate_left;cases hk;rename_i l X;split at hk;rotate_left;cases hk;rename_i ae;obtain ⟨_,al,g,d⟩:=Ye (E:={E with nt:=fn.ntmps}) b u.ty _ _ l X;have g:=Yh g;obtain ⟨b,d⟩:=apv (E:={E with nt:=fn.ntmps}) b d;generalize uV {E with nt:=fn.ntmps} (l.map Prod.snd) s2=s2 at hk b d;split at hk;rotate_left;cases hk;rename_i t sv o;have af:(t::sv).length=(a.tmps::F.sv).length:=by rw [<-o];exact b.jI
  refine ⟨b.defers,_,g,D,{tmps:=t,cg:=s2.cg,sv:=sv},_,⟨b.box,b.cC,b.c7,b.b5,b.bQ,b.R,λn=>?_,b.bT,b.fQ,h.defers,h.nt,b.cW,λi n=>?_,by simpa using af⟩,alG d ae,hk⟩;have:=b.sv 0 n;unfold St.fW Fr.fW at this;rw [o] at this;exact this;have:=b.sv (i+1) n;unfold St.fW Fr.fW at this;rw [o] at this;exact this
 cases e with
 |normal=>exact done q
 |ret=>exact done q
 |exit id=>obtain ⟨G,s,_,hk⟩:=q;cases hk
 |_=>exact q.elim
end
def Ty.jG:Ty->Bool
 | .bz=>false
 | .slice t=>t.jG&& !(t.size==0)
 | .cons t r=>t.jG&&r.jG
 | .arr _ t=>t.jG
 |_=>true
def mz:(t:Ty)->t.ai->Prop
 | .int k,x=>(Lit.int k x).wf=true
 | .bR,x=>List.length (α:=UInt8) x<=reachBytes
 | .slice t,xs=>List.length (α:=t.ai) xs<=reachBytes/\∀x∈(show List t.ai from xs),mz t x
 | .cons t r,x=>mz t x.1/\mz r x.2
 | .arr _ t,xs=>∀x∈(show List t.ai from xs),mz t x
 |_,_=>True
theorem Na {α β:Type} {f:α->Option β}:∀{l:List α} {r:List β},l.mapM f=some r->r.length=l.length/\∀(i:Nat) (x:α),l[i]?=some x->∃y,r[i]?=some y/\f x=some y:=by
 intro l
 induction l with
 |nil=>simp_all
 |cons a l e=>
  intro r h;rw [List.mapM_cons] at h;cases c:f a with
  |none=>rw [c] at h;cases h
  |some b=>
   rw [c] at h;cases d:l.mapM f with
   |none=>rw [d] at h;cases h
   |some g=>
    grind
def Vo {α:Type} {Q:Nat->α->Prop}:∀(n:Nat),(∀i,i<n->∃x,Q i x)->∃xs:List α,xs.length=n/\∀(i:Nat) (x:α),xs[i]?=some x->Q i x:=by
 intro n
 induction n with
 |zero=>simp_all
 |succ n c=>
  intro h;obtain ⟨xs,b,d⟩:=c (λi hi=>h i (by omega));obtain ⟨y,f⟩:=h n (by omega);refine ⟨xs++[y],by simp [b],λi x e=>?_⟩
  grind
theorem Tj (a:Addr) (n:Nat):(a.add n).block=a.block:=by unfold Addr.add;split<;>rfl
theorem aft (a:Addr) (n:Nat):(a.add n).off=a.off+n:=by
 unfold Addr.add
 grind
theorem age {w:World} {a:Addr} {n:Nat} {cs:List Value} (h:w.cells? 0 a n=some cs) (o:n≠0):a.spot=none/\a.block<w.heap.size/\At w a.block a.off n cs:=by
 unfold World.cells? at h;rw [aE (bG _)] at h;obtain ⟨f,g⟩:=Na h;rw [zD] at f;have hi:∀i,i<n->∃y,cs[i]?=some y/\w.cell? (a.add i)=some y:=λi hi=>g i i (by simp_all)
 obtain ⟨r,_,c⟩:=hi 0 (by omega);unfold World.cell? at c;split at c;rename_i row e fz b;split at c;cases c;rename_i d;have d:a.spot=none:=by
  have:(a.add 0).spot=a.spot:=rfl;simp_all
 have b:w.heap[a.block]?=some (.cells row e fz):=by rw [Tj] at b;exact b
 have j:∀i,i<n->∃y,cs[i]?=some y/\row[a.off+i]?=some y:=by
  grind [World.cell?,Tj,aft]
 have l:a.off+n<=row.size:=by
  obtain ⟨y,_,q⟩:=j (n-1) (by omega)
  grind
 refine ⟨d,(zy.1 b).1,row,e,fz,b,l,?_⟩;apply lB
 grind
 cases c
section
variable {H:Type} {enc:TypeId×Value->H} {P:Program} {w:World}
abbrev below (w:World):Nat->Prop:=λb=>b<w.heap.size
theorem abG {e:TypeId}:∀(l:List (DataW H)) (d:DataW H),d∈l->∀n∈d.weights P e,n∈DataW.weightsAll P e l:=by
 intro l
 induction l with
 |nil=>intro d h;cases h
 |cons a l b=>
  grind [DataW.weightsAll]
def agh {cs:List Value} {m:Nat}:∀(l:List (List Value)),cs.length=l.length*m->(∀(i:Nat) (c:List Value),l[i]?=some c->c=(cs.drop (i*m)).take m)->l.flatten=cs:=by
 intro l
 induction l generalizing cs with
 |nil=>simp_all
 |cons c l g=>
  intro h d;have b:=d 0 c rfl;simp at b;rw [mE];have f:(cs.drop m).length=l.length*m:=by
   rw [List.length_drop,h,jh,nR];omega
  rw [g (cs:=cs.drop m) f (λi c' e=>by
   have:=d (i+1) c' (by simpa using e);rw [this,jN,nR,Nat.add_comm]),b,iS]
def apR {k:IntKind} {t:TypeId} (c:P.underlying t=some (.int k)) {b:Nat} {cs:List Value} {d:DataW H} {e:List MemPlace} (h:DataW.trod enc P w 0 (λ_=>true) true b t cs=some (d,e)):
 ∃n,cs=[.int k n]/\(Lit.int k n).wf=true:=by
 cases b with
 |zero=>cases h
 |succ b=>
  rcases cs with _|⟨v,_|⟨f,r⟩⟩
  simp [DataW.trod,c] at h;cases v<;>simp [DataW.trod,c] at h
  simp_all;simp [DataW.trod,c] at h
def apQ {t:TypeId} (e:P.underlying t=some .bool) {c:Nat} {cs:List Value} {d:DataW H} {f:List MemPlace} (h:DataW.trod enc P w 0 (λ_=>true) true c t cs=some (d,f)):
 ∃b,cs=[.bool b]:=by
 cases c with
 |zero=>cases h
 |succ c=>
  rcases cs with _|⟨v,_|⟨g,r⟩⟩
  simp [DataW.trod,e] at h;cases v<;>simp [DataW.trod,e] at h
  exact ⟨_,rfl⟩;simp [DataW.trod,e] at h
def apU {t:TypeId} (c:P.underlying t=some .string) {b:Nat} {cs:List Value} {d:DataW H} {e:List MemPlace} (h:DataW.trod enc P w 0 (λ_=>true) true b t cs=some (d,e)):
 ∃s,cs=[.string s]/\d=.lit (.string s.data.toList):=by
 cases b with
 |zero=>cases h
 |succ b=>
  rcases cs with _|⟨v,_|⟨f,r⟩⟩
  simp [DataW.trod,c] at h;cases v<;>simp [DataW.trod,c] at h
  simp_all;simp [DataW.trod,c] at h
def apT {t e:TypeId} (b:P.underlying t=some (.slice e)) {f:Nat} {cs:List Value} {d:DataW H} {q:List MemPlace} (h:DataW.trod enc P w 0 (λ_=>true) true f t cs=some (d,q)):
 cs=[.slice none 0 0]\/∃l a len cap c bn,cs=[.slice (some a) len cap]/\len<=cap/\
  ((List.range len).mapM λi=>(w.cells? 0 (a.add (i*P.cellsOf e)) (P.cellsOf e)).bind (DataW.trod enc P w 0 (λ_=>true) true l e))=some c/\d=.slice (c.map (·.1)) bn:=by
 cases f with
 |zero=>cases h
 |succ f=>
  rcases cs with _|⟨v,_|⟨u,r⟩⟩
  simp [DataW.trod,b] at h;cases v with
  |slice a len cap=>
   cases a with
   |none=>
    left;cases len<;>cases cap<;>first|rfl|simp [DataW.trod,b] at h
   |some a=>
    right;unfold DataW.trod at h;rw [b] at h;simp only at h;split at h;rename_i o;rw [Option.bind_eq_some_iff] at h;obtain ⟨c,n,g⟩:=h;rw [Option.map_eq_some_iff] at g;obtain ⟨bn,_,j⟩:=g;simp only [bK] at j;exact ⟨f,a,len,cap,c,_,rfl,o.2.1,n,j.1.symm⟩;cases h
  |_=>simp [DataW.trod,b] at h
  simp [DataW.trod,b] at h
def abe {t:TypeId} {c:Array Field} (n:P.underlying t=some (.struct c)) {b:Nat} {cs:List Value} {d:DataW H} {o:List MemPlace} (h:DataW.trod enc P w 0 (λ_=>true) true b t cs=some (d,o)):
 ∃g xs,cs.length=P.cellsOf t/\(c.toList.mapM λf=>DataW.trod enc P w 0 (λ_=>true) true g f.type ((cs.drop f.offset).take (P.cellsOf f.type)))=some xs/\d=.agg (xs.map (·.1)):=by
 cases b with
 |zero=>cases h
 |succ b=>
  unfold DataW.trod at h;rw [n] at h;simp only at h;split at h;rename_i l;rw [Option.map_eq_some_iff] at h;obtain ⟨xs,j,e⟩:=h;simp only [bK] at e;exact ⟨b,xs,l,j,e.1.symm⟩;cases h
def apP {t e:TypeId} {n:Nat} (l:P.underlying t=some (.array n e)) {b:Nat} {cs:List Value} {d:DataW H} {o:List MemPlace} (h:DataW.trod enc P w 0 (λ_=>true) true b t cs=some (d,o)):
 ∃f xs,cs.length=P.cellsOf t/\((List.range n).mapM λi=>DataW.trod enc P w 0 (λ_=>true) true f e ((cs.drop (i*P.cellsOf e)).take (P.cellsOf e)))=some xs/\d=.agg (xs.map (·.1)):=by
 cases b with
 |zero=>cases h
 |succ b=>
  unfold DataW.trod at h;rw [l] at h;simp only at h;split at h;rename_i j;rw [Option.map_eq_some_iff] at h;obtain ⟨xs,g,c⟩:=h;simp only [bK] at c;exact ⟨b,xs,j,g,c.1.symm⟩;cases h
def apS (T:Ty):(∀(t:TypeId),bC P T t->T.jG=true->∀(g:Nat) (cs:List Value) (d:DataW H) (U:List MemPlace),DataW.trod enc P w 0 (λ_=>true) true g t cs=some (d,U)->
 (∀n∈d.weights P t,n<=reachBytes)->∃x:T.ai,Rd w (below w) T x cs/\mz T x)/\
 (∀(l:List Field) (o:Nat),cQ P T l o=true->T.jG=true->∀(g:Nat) (cs:List Value) (xs:List (DataW H×List MemPlace)),
  (l.mapM λf=>DataW.trod enc P w 0 (λ_=>true) true g f.type ((cs.drop f.offset).take (P.cellsOf f.type)))=some xs->(∀n∈DataW.weightsEach P (l.map (·.type)) (xs.map (·.1)),n<=reachBytes)->
  o+T.size<=cs.length->∃x:T.ai,Rd w (below w) T x ((cs.drop o).take T.size)/\mz T x):=by
 have af:∀(T:Ty) (t:TypeId),bC P T t->P.cellsOf t=T.size:=by
  intro T t h;obtain ⟨i,hi,v,_⟩:=h.gX;unfold Program.cellsOf;rw [hi];exact v
 have ar:reachBytes<=eK:=by decide
 induction T with
 |int k=>
  refine ⟨λt D _ g cs d U h _=>?_,λl o h=>by cases l<;>simp [cQ] at h⟩;have j:P.underlying t=some (.int k):=by
   have I:=D;simp only [bC,dL,bE] at I
   grind
  obtain ⟨n,rfl,q⟩:=apR j h;exact ⟨(n:Int),⟨rfl,trivial,rfl⟩,q⟩
 |bool=>
  refine ⟨λt D _ g cs d U h _=>?_,λl o h=>by cases l<;>simp [cQ] at h⟩;have j:P.underlying t=some .bool:=by
   have I:=D;simp only [bC,dL,bE] at I
   grind
  obtain ⟨b,rfl⟩:=apQ j h;exact ⟨(b:Bool),⟨rfl,trivial,rfl⟩,trivial⟩
 |bR=>
  refine ⟨λt D _ g cs d U h q=>?_,λl o h=>by cases l<;>simp [cQ] at h⟩;obtain ⟨s,rfl,rfl⟩:=apU D.bR h;have W:s.data.toList.length<=reachBytes:=q _ (by simp [DataW.weights]);refine ⟨s.data.toList,⟨rfl,Nat.le_trans W ar,?_⟩,W⟩;simp only [bH]
 |bz=>grind [Ty.jG]
 |slice T ak=>
  refine ⟨λt D v g cs d U h q=>?_,λl o h=>by cases l<;>simp [cQ] at h⟩;simp only [Ty.jG,bE,il,nS] at v;obtain ⟨e,j,ac⟩:=D.slice;rcases apT j h with rfl|⟨aa,J,len,cap,ao,bn,rfl,aJ,u,rfl⟩
  exact ⟨([]:List T.ai),⟨none,0,rfl,⟨cS _,bG _⟩,λau=>absurd rfl au⟩,bG _,λx O=>by cases O⟩;obtain ⟨C,K⟩:=Na u;rw [zD] at C;obtain ⟨aL,a5,aK,a2⟩:=ac.bytes v.2;have a4:1<=P.bytesOf e:=by unfold Program.bytesOf;rw [a5];exact a2
  have ad:len<=reachBytes:=by
   have:=q ((ao.map (·.1)).length+bn.length|>(· *P.bytesOf e)) (by simp [DataW.weights,j]);simp only [eb,C] at this;have ab:(len+bn.length)*1<=(len+bn.length)*P.bytesOf e:=Nat.mul_le_mul_left _ a4;omega
  have a7:∀n∈DataW.weightsAll P e (ao.map (·.1)),n<=reachBytes:=λn ae=>q n (by simp only [DataW.weights,j];simp_all)
  rw [af T e ac] at K;have key:∀i,i<len->∃x:T.ai,(∃c,(i=0->J.spot=none)/\J.block<w.heap.size/\At w J.block (J.off+i*T.size) T.size c/\Rd w (below w) T x c)/\mz T x:=by
   intro i hi;obtain ⟨y,ag,X⟩:=K i i (by simp_all);rw [Option.bind_eq_some_iff] at X;obtain ⟨c,aA,aB⟩:=X;obtain ⟨ay,am,a3⟩:=age aA v.2;obtain ⟨x,an,az⟩:=ak.1 e ac v.1 aa c y.1 y.2 aB (λn ae=>a7 n (abG _ y.1 (dm.2 ⟨y,cw ag,rfl⟩) n ae))
   grind [Addr.add]
  obtain ⟨xs,al,aE⟩:=Vo len key;refine ⟨xs,⟨some J,cap,by rw [<-al],⟨by omega,Nat.le_trans (Nat.le_of_eq al) (Nat.le_trans ad ar)⟩,λau=>?_⟩,Nat.le_trans (Nat.le_of_eq al) ad,λx O=>?_⟩;have a1:0<len:=by
   grind
  obtain ⟨_,⟨_,ay,am,_⟩,_⟩:=key 0 a1;refine ⟨J.block,J.off,?_,am,λi x O=>?_⟩;obtain ⟨b,o,sp⟩:=J;simp_all;simp_all;obtain ⟨i,hi⟩:=nN.1 O;exact (aE i x hi).2
 |unit=>
  refine ⟨λt D _ g cs d U h _=>?_,λl o h _ g cs xs u _ _=>⟨(),⟨rfl,trivial,by simp [Ty.size,bH]⟩,trivial⟩⟩;have I:=D;simp only [bC,dL,bE] at I;obtain ⟨_,j⟩:=I;split at j;rename_i a0 ah;obtain ⟨aa,xs,C,_⟩:=abe ah h;rw [af _ _ D] at C;have:cs=[]:=hT.1 C;subst this;exact ⟨(),⟨rfl,trivial,rfl⟩,trivial⟩;cases j
 |cons a r a8 a9=>
  have fields:∀(f:Field) (l:List Field) (o:Nat),f.offset=o->bC P a f.type->cQ P r l (o+a.size)=true->a.jG=true->r.jG=true->∀(g:Nat) (cs:List Value) (xs:List (DataW H×List MemPlace)),
   ((f::l).mapM λf=>DataW.trod enc P w 0 (λ_=>true) true g f.type ((cs.drop f.offset).take (P.cellsOf f.type)))=some xs->(∀n∈DataW.weightsEach P ((f::l).map (·.type)) (xs.map (·.1)),n<=reachBytes)->
   o+(Ty.cons a r).size<=cs.length->∃x:(Ty.cons a r).ai,Rd w (below w) (Ty.cons a r) x ((cs.drop o).take (Ty.cons a r).size)/\mz (Ty.cons a r) x:=by
   intro f l o a6 ap W aD sr g cs xs u q ad;rw [List.mapM_cons] at u;cases C:DataW.trod enc P w 0 (λ_=>true) true g f.type ((cs.drop f.offset).take (P.cellsOf f.type)) with
   |none=>rw [C] at u;cases u
   |some y=>
    rw [C] at u;cases K:(l.mapM λf=>DataW.trod enc P w 0 (λ_=>true) true g f.type ((cs.drop f.offset).take (P.cellsOf f.type))) with
    |none=>rw [K] at u;cases u
    |some aj=>
     rw [K] at u;have u:some (y::aj)=some xs:=u;obtain rfl:=b3 u;simp only [gP,DataW.weightsEach,bI] at q;rw [af _ _ ap,a6] at C;obtain ⟨x,av,aw⟩:=a8.1 _ ap aD g _ y.1 y.2 C (λn ae=>q n (.inl ae));simp only [Ty.size] at ad;obtain ⟨z,aC,w2⟩:=a9.2 l (o+a.size) W sr g cs aj K (λn ae=>q n (.inr ae)) (by omega);refine ⟨(x,z),⟨_,_,?_,av,aC⟩,aw,w2⟩;simp only [Ty.size];rw [<-jN,List.take_add]
  refine ⟨λt D v g cs d U h q=>?_,λl o h v g cs xs u q ad=>?_⟩;simp only [Ty.jG,bE] at v;have I:=D;simp only [bC,dL,bE] at I;obtain ⟨_,j⟩:=I;split at j;rename_i a0 ah;split at j;rename_i f l W;simp only [bE,jR] at j;obtain ⟨⟨⟨⟨C,_⟩,_⟩,ab⟩,h4⟩:=j;obtain ⟨aa,xs,ag,X,rfl⟩:=abe ah h;rw [W] at X;rw [af _ _ D] at ag;simp only [DataW.weights,ah,W] at q;obtain ⟨x,av,aw⟩:=fields f l 0 C ab (by simp_all) v.1 v.2 aa cs xs X q (by omega)
  grind
  cases j;cases j;simp only [Ty.jG,bE] at v;cases l with
  |nil=>simp [cQ] at h
  |cons f l=>
   simp only [cQ,bE,jR] at h;obtain ⟨⟨⟨⟨C,_⟩,_⟩,ab⟩,h4⟩:=h;exact fields f l o C ab h4 v.1 v.2 g cs xs u q ad
 |arr n T ak=>
  refine ⟨λt D v g cs d U h q=>?_,λl o h=>by cases l<;>simp [cQ] at h⟩;simp only [Ty.jG] at v;obtain ⟨e,j,ac,aq⟩:=D.arr;obtain ⟨aa,xs,C,K,rfl⟩:=apP j h;rw [af _ _ D] at C;obtain ⟨ab,h4⟩:=Na K;rw [zD] at ab;simp only [DataW.weights,j] at q;rw [af T e ac] at h4;have key:∀i,i<n->∃x:T.ai,dg T x/\bH T x=(cs.drop (i*T.size)).take T.size/\mz T x:=by
   intro i hi;obtain ⟨y,ag,X⟩:=h4 i i (by simp_all);obtain ⟨x,an,az⟩:=ak.1 e ac v aa _ y.1 y.2 X (λm u=>q m (abG _ y.1 (dm.2 ⟨y,cw ag,rfl⟩) m u));obtain ⟨aG,aH⟩:=Rd.aY aq an
   grind
  obtain ⟨aj,aF,ax⟩:=Vo n key;refine ⟨aj,⟨aq,⟨aF,λx O=>?_⟩,?_⟩,λx O=>?_⟩;obtain ⟨i,hi⟩:=nN.1 O;exact (ax i x hi).1;rw [ag9];refine (agh (m:=T.size) _ ?_ (λi c aI=>?_)).symm
  grind [Ty.size]
  grind
  obtain ⟨i,hi⟩:=nN.1 O;exact (ax i x hi).2.2
end
end Go.TM
namespace Go.TM
open Go.ChangeShapes Go.WideShapes Go.RowKit Go.ChangeMaps
section
variable {H:Type} {enc:TypeId×Value->H} {P:Program} {w:World}
def En:List Ty->List D->Prop
 |[],[]=>True
 |T::b,d::ds=>(∃x:T.ai,d=⟨T,x⟩/\mz T x)/\En b ds
 |_,_=>False
def ND (P:Program) (T:Ty) (t:TypeId):Bool:=dL P T t&&T.jG&&P.readableRec t&&decide (t<P.types.size)
def ml (P:Program):List Ty->List TypeId->Bool
 |[],[]=>true
 |T::b,t::ts=>ND P T t&&ml P b ts
 |_,_=>false
theorem arn {T:Ty} {t:TypeId} (g:bC P T t) {r:Reach} {b:Nat} {v:Value} (f:Value.okWide P w r b t v) {x:T.ai} (z:Rd w (below w) T x v.cells.toList):VR A0 w (below w) (.ad T x) v:=by
 refine dJ (cs:=v.cells.toList) z ?_;have I:=g.row;obtain ⟨d,C,y⟩:=I;show if T.agg then v=.agg v.cells.toList.toArray else v.cells.toList=[v]
 cases u:T.agg with
 |true=>
  rw [aE rfl];rw [u] at y;unfold Value.okWide at f;rw [C] at f;cases d<;>simp [TypeDesc.isRow] at y
  all_goals
   obtain ⟨cs,rfl,_⟩:=f;simp [Value.cells]
 |false=>
  rw [av (by simp)];have fin:(∀cs,v≠ .agg cs)->v.cells.toList=[v]:=by
   intro h;cases v<;>first|rfl|exact absurd rfl (h _)
  apply fin;rintro cs rfl;cases T with
  |int k=>
   have j:=g;simp only [bC,dL,bE] at j;obtain ⟨_,o⟩:=j;split at o;rename_i k' q;obtain ⟨n,e⟩:=okWide_int q f;cases e;cases o
  |bool=>
   have j:=g;simp only [bC,dL,bE] at j;obtain ⟨_,o⟩:=j;split at o;rename_i q;obtain ⟨n,e⟩:=okWide_bool q f;cases e;cases o
  |bR=>obtain ⟨n,e⟩:=okWide_string g.bR f;cases e
  |slice T=>obtain ⟨e,D,_⟩:=g.slice;obtain ⟨a,l,c,e⟩:=okWide_slice D f;cases e
  |bz=>exact z.elim
  |_=>simp [Ty.agg] at u
def afG:∀(c:List Ty) (ts:List TypeId) (vs:List Value) (ds:List (DataW H)) (z:List MemPlace),ml P c ts=true->DataW.TrodAll enc P w 0 (λ_=>true) true ts vs ds z->
 (∀n∈DataW.weightsEach P ts ds,n<=reachBytes)->(∀(j:Nat) t v,ts[j]?=some t->vs[j]?=some v->∃r b,Value.okWide P w r b t v)->
 ∃e g,En c e/\lG w (below w) (c.map .ro) e vs g/\bX g=[]/\ds.length=c.length:=by
 intro c
 induction c with
 |nil=>
  intro ts vs ds z f h _ _;cases ts with
  |nil=>
   obtain ⟨rfl,rfl,rfl⟩:=trodAll_nil h;exact ⟨[],[],trivial,trivial,rfl,rfl⟩
  |cons _ _=>simp [ml] at f
 |cons T c X=>
  intro ts vs ds z f h y C;cases ts with
  |nil=>simp [ml] at f
  |cons t ts=>
   simp only [ml,ND,bE,nT] at f;obtain ⟨⟨⟨⟨D,aa⟩,ae⟩,ag⟩,p5⟩:=f;obtain ⟨v,vs,d,ds,p,q,rfl,rfl,rfl,l,o⟩:=trodAll_cons h;simp only [DataW.weightsEach,bI] at y;obtain ⟨K,O⟩:=l;obtain ⟨x,W,ad⟩:=(apS T).1 t D aa K _ d p O (λn u=>y n (.inl u));obtain ⟨r,b,U⟩:=C 0 t v rfl rfl;obtain ⟨e,g,I,J,a3,a4⟩:=X ts vs ds q p5 o (λn u=>y n (.inr u)) (λj ab ac l o=>C (j+1) ab ac (by simpa using l) (by simpa using o));refine ⟨⟨T,x⟩::e,⟨none,.leaf⟩::g,⟨⟨x,rfl,ad⟩,I⟩,⟨[⟨T,x⟩],e,rfl,⟨rfl,rfl,arn D U W⟩,J⟩,by simp [bX,Gh.af,FT.af] at a3|-;exact a3,by simp [a4]⟩
def apl {j:World} (y:laidOutB P=true) (r:∀b,b<w.heap.size->j.heap[b]?=w.heap[b]?):∀(e:List Ty) (ts:List TypeId) (vs:List Value) (ds:List (DataW H)) (g:List MemPlace),ml P e ts=true->DataW.TrodAll enc P w 0 (λ_=>true) true ts vs ds g->
 DataW.TrodAll enc P j 0 (λb=>decide (b<w.heap.size)) true ts vs ds g:=by
 intro e
 induction e with
 |nil=>
  intro ts vs ds g c h;cases ts with
  |nil=>obtain ⟨rfl,rfl,rfl⟩:=trodAll_nil h;exact trodAll_mk0
  |cons _ _=>simp [ml] at c
 |cons T e C=>
  intro ts vs ds g c h;cases ts with
  |nil=>simp [ml] at c
  |cons t ts=>
   simp only [ml,ND,bE,nT] at c;obtain ⟨⟨⟨⟨J,K⟩,D⟩,I⟩,p5⟩:=c;obtain ⟨v,vs,d,ds,p,q,rfl,rfl,rfl,n,u⟩:=trodAll_cons h;have l:∀x∈p,x.block<w.heap.size:=by obtain ⟨m,z⟩:=n;exact DataW.trod_lt m _ _ _ z
   refine trodAll_cons_mk (WideElems.Trod_stays y D I n (λx f=>?_) (λx f=>by simpa using l x f)) (C ts vs ds q p5 u);cases x with
   |cell b o=>
    have:=r b (l _ f);show j.cell? ⟨b,o,none⟩=w.cell? ⟨b,o,none⟩;unfold World.cell?;rw [this]
   |map b=>exact r b (l _ f)
def agu {f:FuncId} {fn:Func} {s:ChangeSpec} {c:List Ty} {h:{Z:Type}->List D->(List D->List D->Option Z)->Option Z} (aj:aM P f ⟨c.map .ro,[.bool],h⟩) (av:∀args w,(callFunc f args).run P w=.ok (.enter f args) w) (ac:∀ds,En c ds->az.g ⟨c.map .ro,[.bool],h⟩ ds=some ([⟨.bool,true⟩],[]))
 (O:s.vars=[]) (al:s.plain.varTypes P=[]) (r:∀ds:List (DataW H),ds.length=c.length->s.fn H ds={results:=[.lit (.bool true)],args:=ds})
 (K:ml P c fn.params.toList=true) {tb:TypeId} (ag:fn.resultTypes= #[tb]) (ai:P.underlying tb=some .bool) (ad:laidOutB P=true) {c7 et handsOn:Bool}
 (W:World) (bj:Nat) (args:Array Value) (ds u:List (DataW H)) (before:List MemPlace)
 (ak:∀(j:Nat) t v,fn.params[j]?=some t->args[j]?=some v->Value.okWide P W .any bj t v)
 (C:DataW.Whole enc P fn.params.toList s.vars c7 W args.toList ds u before)
 (ah:(DataW.weightsEach P (fn.params.toList++s.plain.varTypes P) (ds++u)).all (· <=reachBytes)=true):
 Calls P f args W λe o=>∃v,e=.returned v/\s.post enc P fn c7 et handsOn false W args v o:=by
 have aa:=C;obtain ⟨p,q,y,z,rfl,aw,ay⟩:=C;rw [O] at z;obtain ⟨rfl,rfl⟩:=trodVars_none z;rw [al,gA,gA] at ah;have an:∀n∈DataW.weightsEach P fn.params.toList ds,n<=reachBytes:=λn ax=>by simp_all
 obtain ⟨l,x,U,X,a3,a4⟩:=afG c fn.params.toList args.toList ds p K y an (λj t v ar au=>⟨.any,bj,ak j t v (by simp_all) (by simp_all)⟩);have af:xN W (below W) ⟨c.map .ro,[.bool],h⟩ l args.toList x:=⟨X,by simp_all,λb d=>(by rw [a3] at d;cases d),λb d=>d⟩;rcases aj.Vj W (below W) l args.toList x _ _ af (ac l U) with ⟨_,I⟩|⟨v,w',a0,_⟩
 rotate_left;simp_all;rw [Array.toArray_toList] at I;refine I.mono λe o J=>?_
 cases e with
 |returned v=>
  obtain ⟨ap,aq,D⟩:=J;have ab:∀b,b<W.heap.size->o.heap[b]?=W.heap[b]?:=λb d=>D.bT b d (by simp_all)
  have am:v=.bool true:=by
   obtain ⟨f,_,cs,ae,ao⟩:=D.ek;obtain ⟨_,_,_,rfl⟩:=ae;simpa [Ty.agg,bH] using ao.symm
  subst am;refine ⟨_,rfl,ds,[],p++[],[],p,[],aa,?_,?_,?_,⟨D.fQ.os,D.fQ.output,λi hi=>?_⟩,λh=>by cases h⟩;rw [gA,r ds a4,ag];exact trodAll_mk1 (shut_bool ai _);rw [gA,r ds a4];exact apl ad ab c _ _ ds p K y;rw [gA,r ds a4,O];exact rfl
  grind
 |_=>exact J.elim
end
end Go.TM
namespace Go.TM
def nb:List Nat->List Nat->Bool
 |[],[]=>true
 |a::l,b::m=>match Nat.beq a b with
  |true=>nb l m
  |false=>false
 |_,_=>false
def FR:List (Nat×List Nat×az)->Nat->List Nat->Option az
 |[],_,_=>none
 |(k,b,c)::r,n,ids=>match Nat.beq k n with
  |true=>match nb b ids with
   |true=>some c
   |false=>FR r n ids
  |false=>FR r n ids
def aB (ty:List (Nat×Ty)) (cs:List (Nat×List Nat×az)) (dX:List (Nat×mQ)):an:=
 {nt:=0,ty:=ty,fn:=λf ids=>FR cs f ids,dX:=dX}
def agT (P:Program) (ty:List (Nat×Ty)) (dX:List (Nat×mQ)):fc P (aB ty [] dX):=⟨λf ids c h=>(by cases h),λf ids I h=>(by cases h),λf ids I h=>(by cases h)⟩
def agS {P:Program} {ty:List (Nat×Ty)} {dX:List (Nat×mQ)} {f:Nat} {l:List Nat} {c:az} {cs:List (Nat×List Nat×az)} (h:aM P f c) (j:fc P (aB ty cs dX)):fc P (aB ty ((f,l,c)::cs) dX):=by
 refine ⟨?_,λf ids I h=>(by cases h),λf ids I h=>(by cases h)⟩;intro g ids d b;simp only [aB,FR] at b;split at b;rename_i e;split at b;simp_all;exact j.fn g ids d b;exact j.fn g ids d b
def FU:List (Nat×List Nat×du)->Nat->List Nat->Option du
 |[],_,_=>none
 |(k,b,c)::r,n,ids=>match Nat.beq k n with
  |true=>match nb b ids with
   |true=>some c
   |false=>FU r n ids
  |false=>FU r n ids
def dt (E:an) (fA:Nat) (l:List (Nat×List Nat×du)):an:={E with fA:=fA,inl:=λf ids=>FU l f ids}
def dN {P:Program} {E:an} {o:Nat} (h:fc P E):fc P (dt E o []):=⟨h.fn,λf ids I h=>(by cases h),λf ids I h=>(by cases h)⟩
def ct {P:Program} {E:an} {o:Nat} {f:Nat} {l:List Nat} {c:du} {cs:List (Nat×List Nat×du)} (h:dH P f c) (j:fc P (dt E o cs)) (hi:c.h3=true->c.rN:=by intro h;cases h):fc P (dt E o ((f,l,c)::cs)):=by
 have key:∀g ids d,(dt E o ((f,l,c)::cs)).inl g ids=some d->dH P g d/\(d.h3=true->d.rN):=by
  intro g ids d b;simp only [dt,FU] at b;split at b;rename_i e;split at b;simp_all;exact ⟨j.inl g ids d b,j.h3 g ids d b⟩;exact ⟨j.inl g ids d b,j.h3 g ids d b⟩
 exact ⟨j.fn,λg ids d b=>(key g ids d b).1,λg ids d b=>(key g ids d b).2⟩
def zv (E:an) (l:List (Nat×Ty)):an:={E with maps:=l}
def pt (E:an) (l:List Nat):an:={E with Oo:=l}
def Ml {P:Program} {E:an} {l:List (Nat×Ty)} (h:fc P E):fc P (zv E l):=⟨h.fn,h.inl,h.h3⟩
def tS {P:Program} {E:an} {l:List Nat} (h:fc P E):fc P (pt E l):=⟨h.fn,h.inl,h.h3⟩
def uY {P:Program} {E:an} {l:List Nat} (h:lW P E):lW P (pt E l):=⟨h.ty,h.maps⟩
def OR {P:Program} {E:an} {l:List (Nat×Ty)} (h:lW P E) (c:l.all (λx=>o6 P x.2 x.1)=true):lW P (zv E l):=by
 refine ⟨h.ty,λt K b=>?_⟩;replace b:lk l t=some K:=b
 induction l with
 |nil=>cases b
 |cons x l d=>
  obtain ⟨k,v⟩:=x;simp only [List.all_cons,bE] at c;rw [gr] at b
  grind
def abi {P:Program} {b:List (Nat×Ty)} (h:b.all (λx=>dL P x.2 x.1)=true) {cs:List (Nat×List Nat×az)} {dX:List (Nat×mQ)}:∀t T,(aB b cs dX).iO t=some T->bC P T t:=by
 intro t T c;have:∀l:List (Nat×Ty),l.all (λx=>dL P x.2 x.1)=true->lk l t=some T->dL P T t=true:=by
  intro l
  induction l with
  |nil=>intro _ h;cases h
  |cons x l f=>
   intro d e;obtain ⟨k,v⟩:=x;simp only [List.all_cons,bE] at d;rw [gr] at e
   grind
 exact this b h c
def ld:Code->List Code
 | .seq a b=>ld a++ld b
 | .cond _ a b=>ld a++ld b
 | .block _ c=>ld c
 | .loop c=>c::ld c
 |_=>[]
def oY (d:Nat):Code->Bool
 | .region id _ _=>Nat.beq id d
 | .seq a b=>oY d a||oY d b
 | .cond _ a b=>oY d a||oY d b
 | .block _ c=>oY d c
 | .loop c=>oY d c
 |_=>false
def yG (fn:Func) (n:Nat):Code:=
 match fn.body with
 |some c=>(ld c).getD n .skip
 |none=>.skip
section
variable {Z:Type}
def m5 (E:an) (n:Nat):Code->Nat->List Nat->(Ex->St->Option Z)->(Ex->St->Option Z)
 | .seq a b,i,d,k=>if Nat.blt i (ld a).length then m5 E n a i d (λe f=>match e with
  | .normal=>jw E (fP b+2000000) f (hd E n b k)
  |e=>k e f) else m5 E n b (i-(ld a).length) d k
 | .cond _ a b,i,d,k=>if Nat.blt i (ld a).length then m5 E n a i d k else m5 E n b (i-(ld a).length) d k
 | .block id c,i,d,k=>m5 E n c i d (λe f=>match e with
  | .exit j=>if Nat.beq j id then k .normal f else k (.exit j) f
  |e=>k e f)
 | .loop c,0,_,k=>k
 | .loop c,i+1,d,k=>m5 E n c i d.tail (λe f=>match e with
  | .normal=>jw E (fP c) f (uk (hd E n c) (jw E (fP c)) (nf E (fP c) k) (d.headD 0))
  |e=>nf E (fP c) k e f)
 |_,_,_,k=>k
def oQ (E:an) (n:Nat):Code->Nat->Nat->List Nat->(Ex->St->Option Z)->St->Option Z
 | .region _ ops h,_,j,_,k,s=>match h with
  |false=>kC E ops (k .normal) (ops.toList.drop j) s
  |true=>l4 E (kt ops.toList) (k .normal) (((kt ops.toList).zip (jm (kt ops.toList))).drop j) s
 | .seq a b,d,j,f,k,s=>match oY d a with
  |true=>oQ E n a d j f (λe g=>match e with
   | .normal=>jw E (fP b+2000000) g (hd E n b k)
   |e=>k e g) s
  |false=>oQ E n b d j f k s
 | .cond _ a b,d,j,f,k,s=>match oY d a with
  |true=>oQ E n a d j f k s
  |false=>oQ E n b d j f k s
 | .block id c,d,j,f,k,s=>oQ E n c d j f (λe g=>match e with
  | .exit i=>if Nat.beq i id then k .normal g else k (.exit i) g
  |e=>k e g) s
 | .loop c,d,j,f,k,s=>oQ E n c d j f.tail (λe g=>match e with
  | .normal=>jw E (fP c) g (uk (hd E n c) (jw E (fP c)) (nf E (fP c) k) (f.headD 0))
  |e=>nf E (fP c) k e g) s
 |_,_,_,_,_,_=>none
def nE (E:an) (fn:Func):an:={E with nt:=fn.ntmps}
noncomputable def jV (E:an) (n:Nat) (fn:Func) (b j:Nat) (dst:Option Nat) (k:Ex->St->Option Z):St->TV->Option Z:=λs v=>
 oQ (nE E fn) n (k7 fn) b (j+1) [] k (match dst with
  |some d=>s.put d v
  |none=>s)
def qi (E:an) (n:Nat) (fn:Func) (i m b j:Nat) (dst:Option Nat) (k:Ex->St->Option Z):St->TV->Option Z:=λs v=>
 oQ (nE E fn) n (.loop (yG fn i)) b (j+1) [m] k (match dst with
  |some d=>s.put d v
  |none=>s)
noncomputable def jq (E:an) (n:Nat) (rt:List Ty) (fn:Func) (i:Nat) (k:St->TV->Option Z):Ex->St->Option Z:=m5 (nE E fn) n (k7 fn) i [] (na (nE E fn) rt fn k)
noncomputable def aV (Z:Type) (E:an) (fn:Func) (n:Nat) (i:Nat) (m:Nat) (k:Ex->St->Option Z) (s:St):Option Z:=
 uk (hd {E with nt:=fn.ntmps} n (yG fn i)) (jw {E with nt:=fn.ntmps} (fP (yG fn i))) (nf {E with nt:=fn.ntmps} (fP (yG fn i)) k) m s
noncomputable def bk (E:an) (n:Nat) (b:List PM) (rt:List Ty) (fn:Func) (i:Nat):Ex->St->Option (kk rt×kk (mi b)):=
 m5 {E with nt:=fn.ntmps} n (k7 fn) i [] (oS {E with nt:=fn.ntmps} b rt fn (m7 b rt))
noncomputable def eF {Z:Type} (E:an) (n:Nat) (fn:Func) (j i:Nat) (m:Nat) (k:Ex->St->Option Z):Ex->St->Option Z:=
 m5 {E with nt:=fn.ntmps} n (.loop (yG fn j)) (i-j) [m] k
end
theorem oZ {Z:Type} {n m:Nat} (h:m<n) (k:Nat->Option Z):eh n (m:Int) k=k m:=by
 show (match Nat.blt m n with|true=>k m|false=>none)=_;have:Nat.blt m n=true:=by simp_all
 rw [this]
section
variable {α Z:Type}
def wi (x:Int):Int:=IntKind.i64.wrap x
def ln (l:List α):Int:=(l.length:Int)
noncomputable def gn (l:List α) (j:Nat) (k:α->Option Z):Option Z:=match iH l j with
 |some x=>k x
 |none=>none
noncomputable def gi (l:List α) (i:Int) (k:α->Option Z):Option Z:=match oX l i with
 |some x=>k x
 |none=>none
noncomputable def ix (l:List α) (i:Int) (k:Nat->Option Z):Option Z:=eh l.length i k
noncomputable def cl (x:Option α) (k:α->Option Z):Option Z:=match x with
 |none=>none
 |some v=>k v
noncomputable def gd (c:Bool) (k:Option Z):Option Z:=match c with
 |true=>k
 |false=>none
def mh (e f:Int) (k:Nat->Option Z):Option Z:=match e,f with
 | .ofNat p,.ofNat q=>if Nat.beq p q&&Nat.ble p bg&&true then k p else none
 |_,_=>none
end
instance arM (k:IntKind) (n:Nat):OfNat (Ty.ai (.int k)) n:=inferInstanceAs (OfNat Int n)
instance arN (k:IntKind):Neg (Ty.ai (.int k)):=inferInstanceAs (Neg Int)
noncomputable def di (x:Int):TV:=.ad (.int .i64) x
noncomputable def db (x:Bool):TV:=.ad .bool x
noncomputable def bs (t:Ty) (x:List t.ai):bm:=⟨.slice t,true,false,.ab (.slice t) x⟩
noncomputable def bv (t:Ty) (c:TV):bm:=⟨t,false,false,c⟩
abbrev KT (Z:Type):=Ex->St->Option Z
abbrev LI:=List Int
abbrev a2:=List (List Int)
abbrev LO:=List Bool
section
variable {F:Fr} {G:Nat->Gh} {s:St} {a:Act} {w w2:World}
theorem bF.bD {A A':b0} {w:World} {R:Nat->Prop}:∀(v:TV) (cs:List Value),v.aK=[]->bF A w R v cs->bF A' w R v cs
 | .ad t x,cs,_,h=>h
 | .nil,_,_,h=>h
 | .unit,_,_,h=>h
 | .un,_,_,h=>h
 | .tup _,_,_,h=>h
 | .ab _ _,_,_,h=>h
 | .cons a r,cs,c,h=>by
  simp only [TV.aK,zA] at c;obtain ⟨e,g,rfl,d,l⟩:=h;exact ⟨e,g,rfl,bF.bD a e c.1 d,bF.bD r g c.2 l⟩
 | .ref b p,cs,c,_=>by simp [TV.aK] at c
 | .sl b p,cs,c,_=>by simp [TV.aK] at c
 | .slw b p lo n,cs,c,_=>by simp [TV.aK] at c
 | .bt t x,cs,_,h=>h
 | .mp b,cs,c,_=>by simp [TV.aK] at c
 | .bU f j,cs,c,h=>by
  obtain ⟨vs,d,rfl⟩:=h;exact ⟨vs,bF.bD j vs (by simpa [TV.aK] using c) d,rfl⟩
theorem aZ.bD {A A':b0} {w:World} {R:Nat->Prop}:∀(c:TV) (t:Ty) (ft:FT) (cs:List Value),c.aK=[]->aZ A w R c t ft cs->aZ A' w R c t ft cs:=by
 intro c
 induction c with
 |ab u x=>intro t ft cs _ h;exact h
 |ad u x=>intro t ft cs _ h;exact h
 |cons a d v y=>
  intro t ft cs e h;cases t<;>try exact h.elim
  simp only [TV.aK,zA] at e;obtain ⟨o,j,l,rfl,r,g,q⟩:=h;exact ⟨o,j,l,rfl,r,v _ _ _ e.1 g,y _ _ _ e.2 q⟩
 |unit=>intro t ft cs _ h;exact h
 |un=>intro t ft cs _ h;exact h
 |tup c _=>
  intro t ft cs _ h;cases t<;>try exact h.elim
  rcases fK.out h with ⟨xs,z,rfl,g⟩|⟨xs,rfl,g⟩|⟨xs,rfl,g⟩<;>exact ⟨rfl,g⟩
 |nil=>intro t ft cs _ h;exact h
 |ref b p=>intro t ft cs e _;simp [TV.aK] at e
 |sl b p=>intro t ft cs e _;simp [TV.aK] at e
 |slw b p lo n=>intro t ft cs e _;simp [TV.aK] at e
 |bt u x=>intro t ft cs _ h;exact h
 |mp b=>intro t ft cs e _;simp [TV.aK] at e
 |bU f c _=>intro t ft cs e h;exact ⟨h.1,h.2.1,h.2.2.1,bF.bD _ _ e h.2.2.2⟩
theorem aie {b:Nat} {p:aN}:∀(c:TV),c.aK=[]->c.ax b p=c:=by
 intro c
 induction c with
 |cons a d g j=>
  intro h;simp only [TV.aK,zA] at h;simp only [TV.ax];rw [g h.1,j h.2]
 |tup c e=>intro h;simp only [TV.ax];rw [e h]
 |bU f c e=>intro h;simp only [TV.ax];rw [e h]
 |ref b p=>intro h;simp [TV.aK] at h
 |sl b p=>intro h;simp [TV.aK] at h
 |slw b p lo n=>intro h;simp [TV.aK] at h
 |mp b=>intro h;simp [TV.aK] at h
 |_=>intro _;rfl
def afM (h:aC F G s a w) {b:Nat} {bx:bm} (g:s.box b=some bx) (n:bx.cm=false) (ab:fJ w w2) (r:∀b,F.R b->w2.heap[b]?=w.heap[b]?)
 (C:∀j y,j≠b->s.box j=some y->∀d∈(G j).af,w2.heap[d]?=w.heap[d]?) (D:∀d,d<F.w0.heap.size->d∉F.M->w2.heap[d]?=w.heap[d]?)
 {f:FT} {l:Nat} {row:Array Value} {e:TypeId} {c:TV} {A:b0} (ac:(G b).bj=some l) (X:w2.heap[l]?=some (.cells row e (0,0))) (aa:row.size=bx.ty.size) (J:aZ A w2 F.R c bx.ty f row.toList) (z:c.aK=[])
 (W:f.af.Nodup) (O:∀d∈f.af,d∈(G b).ft.af\/∀j y,s.box j=some y->d∉(G j).af) (U:∀d∈f.af,¬F.R d/\d<w2.heap.size/\(d∈F.M\/F.w0.heap.size<=d)):
 aC F (λj=>if j=b then ⟨(G b).bj,f⟩ else G j) ((s.b2 b {bx with c:=c}).ax b []) a w2:=by
 have o:ay s.box G b []=some (bx.ty,(G b).ft,(G b).bj.map (·,0)):=qh g;have q:(λj=>if j=b then (⟨(G b).bj,f⟩:Gh) else G j)=λj=>if j=b then ⟨(G b).bj,bA bx.ty (G b).ft [] f⟩ else G j:=by
  funext j;rw [GV]
 have u:=k5 g c [];have x:=tG (f:=f) (c':=c.ax b []) (kl:=λv=>v.ax b []) g o q u;refine h.ym g o (λv=>v.ax b []) q (yy _ b []) (zf _ b []) (zg _ b []) u (λv y n=>VR.ax x r n) (λc t ft cs I K=>aZ.ax x r c t ft cs I K) ?_ ab C D W O U (λad ae=>by simp_all);unfold dB;rw [av (show ¬(bx.with (c.ax b [])).cm=true from by simp [bm.with,n])];refine ⟨l,row,e,?_,X,aa,?_⟩;simp_all;simp only [cN];show aZ _ w2 F.R (c.ax b []) bx.ty f row.toList;rw [aie c z];exact aZ.bD c _ _ _ z J
end
def gT:(t:Ty)->TV->Option t.ai
 |t,.ad u x=>cI u t x
 |t,.ab u x=>if u.aY then cI u t x else none
 | .slice t,.nil=>some ([]:List t.ai)
 | .unit,.unit=>some ()
 | .cons t r,.cons a d=>match gT t a with
  |some x=>match gT r d with
   |some y=>some (x,y)
   |none=>none
  |none=>none
 |_,_=>none
theorem Ll {A:b0} {w:World} {R:Nat->Prop}:∀(t:Ty) (c:TV) (x:t.ai) (ft:FT) (cs:List Value),gT t c=some x->aZ A w R c t ft cs->ft.af=[]/\Rd w R t x cs:=by
 have ad:∀(t u:Ty) (y:u.ai) (x:t.ai) (ft:FT) (cs:List Value),cI u t y=some x->aZ A w R (.ad u y) t ft cs->ft.af=[]/\Rd w R t x cs:=by
  intro t u y x ft cs h b;obtain ⟨rfl,rfl⟩:=eP h;exact ⟨b.2.1,b.2.2⟩
 have ab:∀(t u:Ty) (y:u.ai) (x:t.ai) (ft:FT) (cs:List Value),(if u.aY then cI u t y else none)=some x->aZ A w R (.ab u y) t ft cs->ft.af=[]/\Rd w R t x cs:=by
  intro t u y x ft cs h b;split at h;rename_i j;obtain ⟨rfl,rfl⟩:=eP h;obtain ⟨O,U,W⟩:=bd.l5 j b.2;exact ⟨W,by rw [U];exact Rd.fS j O⟩;cases h
 intro t
 induction t with
 |cons t r K J=>
  intro c x ft cs h b;cases c with
  |ad u y=>exact ad _ u y x ft cs (by simpa only [gT] using h) b
  |ab u y=>exact ab _ u y x ft cs (by simpa only [gT] using h) b
  |cons a d=>
   simp only [gT] at h;obtain ⟨o,f,g,rfl,ac,q,e⟩:=b;split at h;rename_i y D;split at h;rename_i z I;cases h;obtain ⟨l,X⟩:=K a y _ f D q;obtain ⟨n,aa⟩:=J d z _ g I e;exact ⟨by rw [o,l,n];rfl,f,g,rfl,X,aa⟩;cases h;cases h
  |_=>simp [gT] at h
 |slice t _=>
  intro c x ft cs h b;cases c with
  |ad u y=>exact ad _ u y x ft cs (by simpa only [gT] using h) b
  |ab u y=>exact ab _ u y x ft cs (by simpa only [gT] using h) b
  |nil=>
   simp only [gT] at h;cases h;obtain ⟨_,_,v,h4⟩:=b;have h4:cs=[.slice none 0 0]:=h4;exact ⟨v,none,0,h4,⟨cS _,by simp [eK]⟩,λC=>absurd rfl C⟩
  |_=>simp [gT] at h
 |unit=>
  intro c x ft cs h b;cases c with
  |ad u y=>exact ad _ u y x ft cs (by simpa only [gT] using h) b
  |ab u y=>exact ab _ u y x ft cs (by simpa only [gT] using h) b
  |unit=>obtain ⟨_,e,rfl⟩:=b;exact ⟨e,rfl,trivial,rfl⟩
  |_=>simp [gT] at h
 |_=>
  intro c x ft cs h b;cases c with
  |ad u y=>exact ad _ u y x ft cs (by simpa only [gT] using h) b
  |ab u y=>exact ab _ u y x ft cs (by simpa only [gT] using h) b
  |_=>simp [gT] at h
def qB (I:du) (t u:Ty) (x:t.ai) (bn:List TV):Option (t.ai×u.ai):=
 I.run ⟨[],[(0,⟨t,false,false,.ad t x⟩)],[]⟩ (.ref 0 []::bn) λb v=>match v with
  | .ad d y=>match cI d u y with
   |some y=>b6 b 0 λx'=>if decide (x'.ty=t) then (match gT t x'.c with
    |some z=>some (z,y)
    |none=>none) else none
   |none=>none
  |_=>none
def c9 (I:du) (t u:Ty):du:={h3:=true,run:=λs vs k=>match vs with
 | .ref b []::bn=>if ys bn&&u.aY then b6 s b λx=>if x.cm||x.dI|| !decide (x.ty=t) then none else match gT t x.c with
  |some y=>match qB I t u y bn with
   |some z=>k ((s.b2 b {x with c:=.ad t z.1}).ax b []) (.ad u z.2)
   |none=>none
  |none=>none
  else none
 |_=>none}
theorem VR.aY {A A':b0} {w:World} {R:Nat->Prop} {u:Ty} {y:u.ai} {x:Value} (h:VR A w R (.ad u y) x):VR A' w R (.ad u y) x:=by
 rcases h with h|⟨cs,b,c⟩
 cases h;exact .inr ⟨cs,b,c⟩
theorem dq.aY {A A':b0} {w:World} {R:Nat->Prop}:∀(vs:List TV) (xs:List Value),ys vs=true->dq A w R vs xs->dq A' w R vs xs:=by
 intro vs
 induction vs with
 |nil=>intro xs _ h;cases xs with
  |nil=>trivial
  |cons x xs=>exact h.elim
 |cons v vs c=>
  intro xs b h;cases xs with
  |nil=>exact h.elim
  |cons x xs=>
   cases v<;>simp [ys] at b
   exact ⟨VR.aY h.1,c xs b.2 h.2⟩
def ue {P:Program} {f:Nat} {I:du} (h:dH P f I) (t u:Ty):dH P f (c9 I t u):=by
 intro Z F G s a w vs xs k r hrel a0 hk;simp only [c9] at hk;split at hk;rotate_left;cases hk;rename_i b bn;split at hk;rotate_left;cases hk;rename_i W;rw [bE] at W;obtain ⟨W,aW⟩:=W;unfold b6 at hk;split at hk;rotate_left;cases hk;rename_i x C;dsimp only at hk;split at hk;cases hk;rename_i aw;simp only [gx,hv,jM,Bool.not_eq_false',nT] at aw;obtain ⟨⟨az,aU⟩,J⟩:=aw;have J:x.ty=t:=by simpa using J
 split at hk;rotate_left;cases hk;rename_i aa aM;split at hk;rotate_left;cases hk;rename_i z a2;cases xs with
 |nil=>exact a0.elim
 |cons aR xs=>
 obtain ⟨aj,aK⟩:=a0;have ah:=hrel.box b x C;unfold dB at ah;rw [av (by simp [az])] at ah;obtain ⟨ak,row,e,ag,a8,aq,ar⟩:=ah;rw [J] at aq ar;obtain ⟨aA,aG⟩:=Ll t x.c aa _ _ aM ar
 let ab:Fr:={R:=F.R,M:=(G b).af,w0:=w,nt:=0,bj:=λ_=>(G b).bj,dD:=λ_=>none,sv:=[]}
 let D:St:=⟨[],[(0,⟨t,false,false,.ad t aa⟩)],[]⟩
 let O:Nat->Gh:=λ_=>G b
 have au:∀i y,D.box i=some y->i=0/\y=⟨t,false,false,.ad t aa⟩:=by
  intro i y o;simp only [D,St.box,lk] at o;simp_all
 have ap:∀d,F.R d->d<w.heap.size:=λd g=>kO (hrel.R d g).1 hrel.size
 have aH:aC ab O D {a with tmps:= #[]} w:=by
  refine ⟨λi y o=>?_,λi y o=>?_,λi j y z o a2 aV=>?_,λi y o=>hrel.b5 b x C,λi y o=>?_,λd g=>⟨ap d g,λK=>(hrel.bQ b x C d K).1 g⟩,λn=>.inl rfl,λ_ _ _=>rfl,fJ.refl _,hrel.defers,rfl,λi y o=>?_,λi n=>.inl ?_,rfl⟩;obtain ⟨rfl,rfl⟩:=au i y o;exact ⟨ak,row,e,ag,a8,aq,rfl,aA,aG⟩;obtain ⟨rfl,rfl⟩:=au i y o;have:=hrel.cC b x C;simp_all
  grind
  exact λd g=>⟨(hrel.bQ b x C d g).1,(hrel.bQ b x C d g).2.1,.inl g⟩
  grind
  simp [St.fW,D,lk]
 have aL:dq (ay D.box O) w ab.R (.ref 0 []::bn) (aR::xs):=by
  refine ⟨?_,dq.aY _ _ W aK⟩;rcases aj with aj|⟨cs,⟨aQ,ft,a4,off,U,rfl⟩,ao⟩
  cases aj;refine .inr ⟨_,⟨aQ,ft,a4,off,?_,rfl⟩,ao⟩;rw [qh C,J] at U;rw [<-U];exact qh (s:=D) (G:=O) (show D.box 0=some ⟨t,false,false,.ad t aa⟩ from rfl)
 refine (h _ ab O D {a with tmps:= #[]} w _ _ _ z aH aL a2).mono λen w' ax=>?_
 cases en with
 |returned v=>
  obtain ⟨ac,aP,tv,X,aJ,l⟩:=ax;split at l;rotate_left;cases l;rename_i aZ y;split at l;rotate_left;cases l;rename_i ba aN;obtain ⟨rfl,rfl⟩:=eP aN;unfold b6 at l;split at l;rotate_left;cases l;rename_i x' a1;dsimp only at l;split at l;rotate_left;cases l;rename_i aB;have aI:x'.ty=t:=fb aB;split at l;rotate_left;cases l;rename_i a3 aO;obtain rfl:=b3 l;have a9:(ac 0).bj=some ak:=((X.cW 0 x' a1).1 rfl).trans ag;have ai:=X.box 0 x' a1;unfold dB at ai;have aF:x'.cm=false:=by
   simp_all
  rw [av (by simp [aF])] at ai;obtain ⟨aS,aX,aT,al,a5,am,an⟩:=ai;rw [a9] at al;obtain rfl:=b3 al;rw [aI] at am an;obtain ⟨a6,a7⟩:=Ll t x'.c a3 _ _ aO an;have ae:∀d,d<w.heap.size->d∉(G b).af->w'.heap[d]?=w.heap[d]?:=X.bT
  have aD:=afM (A:=ay aP.box ac) (f:=(ac 0).ft) (c:=.ad t a3) hrel C az X.fQ (λd g=>ae d (ap d g) λK=>(hrel.bQ b x C d K).1 g)
   (λj y aE o d g=>ae d (hrel.bQ j y o d g).2.1 (hrel.c7 j b y x o C aE d g))
   (λd U ao=>ae d (kO U hrel.size) λK=>by
    rcases (hrel.bQ b x C d K).2.2 with q|q
    all_goals grind)
   ag a5 (by rw [J];exact am) (by rw [J];exact ⟨rfl,a6,a7⟩) rfl (by simp_all)
   (λd g=>by simp_all) (λd g=>by simp_all)
  exact ⟨_,_,_,aD,VR.aY aJ,hk⟩
 |_=>exact ax
def ah8 {I:du} {t u:Ty} {Z:Type} {s:St} {vs:List TV} {k:St->TV->Option Z} {r:Z} (h:(c9 I t u).run s vs k=some r):
 ∃b bx y bn,vs=.ref b []::bn/\ys bn=true/\u.aY=true/\bx.c.aK=[]/\k ((s.b2 b bx).ax b []) (.ad u y)=some r/\
  ∀(d:St),d.box b=s.box b->∀{Y:Type} (k':St->TV->Option Y),(c9 I t u).run d vs k'=k' ((d.b2 b bx).ax b []) (.ad u y):=by
 simp only [c9] at h;split at h;rotate_left;cases h;rename_i b bn;split at h;rotate_left;cases h;rename_i f;have e:=f;rw [bE] at e;unfold b6 at h;split at h;rotate_left;cases h;rename_i x l;dsimp only at h;split at h;cases h;rename_i g;split at h;rotate_left;cases h;rename_i y n;split at h;rotate_left;cases h;rename_i z o;refine ⟨b,{x with c:=.ad t z.1},z.2,bn,rfl,e.1,e.2,rfl,h,λd j Y k'=>?_⟩
 grind [c9,b6]
def eG (I:du) (t u:Ty):(c9 I t u).rN:=λZ s vs k r h=>by
 obtain ⟨b,bx,y,bn,rfl,e,f,h4,h5,h6⟩:=ah8 h;exact ⟨[.set b bx,.ax b []],.ad u y,h5,λm g=>by
  grind [Mv.at,TV.aK],λd c {Y} k'=>h6 d (c _ (nM ..) b (by simp [TV.aK])) k'⟩
def pd {Z:Type} (s:St):List Ty->List TV->(List TV->Option Z)->Option Z
 |[],[],k=>k []
 |t::ts,v::vs,k=>dV s t v λx=>pd s ts vs λb=>k (.ad t x::b)
 |_,_,_=>none
def uK (u:Ty):St->TV->Option u.ai:=λ_ v=>match v with
 | .ad b y=>cI b u y
 |_=>none
def Wh (I:du) (t u:Ty) (x:t.ai) (bn:List TV):Option u.ai:=
 I.run ⟨[],[(0,⟨t,false,false,.ad t x⟩)],[]⟩ (.ref 0 []::bn) (uK u)
def qA (I:du) (t u:Ty) (ts:List Ty):du:={h3:=true,run:=λs vs k=>match vs with
 | .ref b []::bn=>if u.aY then b6 s b λx=>if x.cm||x.dI|| !decide (x.ty=t) then none else match gT t x.c with
  |some y=>pd (s.drop b) ts (bn.map (TV.drop b)) λd=>match Wh I t u y d with
   |some z=>k (s.drop b) (.ad u z)
   |none=>none
  |none=>none
  else none
 |_=>none}
def alu {Z:Type} {F:Fr} {G:Nat->Gh} {s:St} {a:Act} {w:World} (h:aC F G s a w):∀(ts:List Ty) (vs:List TV) (xs:List Value) (k:List TV->Option Z) (r:Z),dq (ay s.box G) w F.R vs xs->pd s ts vs k=some r->
 ∃c,k c=some r/\∀A:b0,dq A w (RR F G s) c xs:=by
 intro ts
 induction ts with
 |nil=>
  intro vs xs k r b hk
  match vs,xs,b,hk with
  |[],[],_,hk=>exact ⟨[],hk,λ_=>trivial⟩
 |cons t ts n=>
  intro vs xs k r b hk
  match vs,xs,b,hk with
  |v::vs,x::xs,b,hk=>
   simp only [pd] at hk;obtain ⟨f,g,j⟩:=N1 t v _ r hk;obtain ⟨cs,u,d⟩:=b.1.cells g j;obtain ⟨y,e,l⟩:=GL h t v cs _ r u hk;obtain ⟨c,o,q⟩:=n vs xs _ r b.2 e;exact ⟨_,o,λA=>⟨dJ (v:=.ad t y) l (by rw [f] at d;exact d),q A⟩⟩
  |[],[],_,hk=>cases hk
  |_::_,[],b,_=>exact b.elim
  |[],_::_,b,_=>exact b.elim
def ah7 {P:Program} {f:Nat} {I:du} (h:dH P f I) (t u:Ty) (ts:List Ty):dH P f (qA I t u ts):=by
 intro Z F G s a w vs xs k r hrel au hk;simp only [qA] at hk;split at hk;rotate_left;cases hk;rename_i b bn;split at hk;rotate_left;cases hk;rename_i ar;unfold b6 at hk;split at hk;rotate_left;cases hk;rename_i x o;dsimp only at hk;split at hk;cases hk;rename_i an;simp only [gx,hv,jM,Bool.not_eq_false',nT] at an;obtain ⟨⟨aF,_⟩,aa⟩:=an;have aa:x.ty=t:=by simpa using aa
 split at hk;rotate_left;cases hk;rename_i ab aI;cases xs with
 |nil=>exact au.elim
 |cons aN xs=>
 obtain ⟨aj,X⟩:=au;have dD:=hrel.drop b;obtain ⟨a8,aP⟩:=Mj hrel b;have aG:dq (ay (s.drop b).box G) w F.R (bn.map (TV.drop b)) xs:=by
  clear hk
  induction bn generalizing xs with
  |nil=>
   cases xs with
   |nil=>trivial
   |cons y xs=>exact X.elim
  |cons v bn aJ=>
   cases xs with
   |nil=>exact X.elim
   |cons y xs=>exact ⟨a8 _ _ X.1,aJ xs X.2⟩
 obtain ⟨aM,ag,aD⟩:=alu dD ts _ xs _ r aG hk;split at ag;rotate_left;cases ag;rename_i z ax;have ai:=hrel.box b x o;unfold dB at ai;rw [av (by simp [aF])] at ai;obtain ⟨az,row,e,a5,a6,ak,al⟩:=ai;rw [aa] at ak al;obtain ⟨a7,aA⟩:=Ll t x.c ab _ _ aI al;have aK:∀i y,(s.drop b).box i=some y->i≠b/\∃ac,s.box i=some ac:=by
  simp_all<;>omega
 let K:Fr:={R:=RR F G (s.drop b),M:=(G b).af,w0:=w,nt:=0,bj:=λ_=>(G b).bj,dD:=λ_=>none,sv:=[]}
 let C:St:=⟨[],[(0,⟨t,false,false,.ad t ab⟩)],[]⟩
 let O:Nat->Gh:=λ_=>G b
 have am:∀i y,C.box i=some y->i=0/\y=⟨t,false,false,.ad t ab⟩:=by
  intro i y l;simp only [C,St.box,lk] at l;simp_all
 have J:∀d,K.R d->d<w.heap.size/\d∉(G b).af:=by
  rintro d (g|⟨i,y,hi,g⟩);exact ⟨kO (hrel.R d g).1 hrel.size,λah=>(hrel.bQ b x o d ah).1 g⟩;obtain ⟨ao,ac,aw⟩:=aK i y hi;exact ⟨(hrel.bQ i ac aw d g).2.1,hrel.c7 i b ac x aw o ao d g⟩
 have aB:aC K O C {a with tmps:= #[]} w:=by
  refine ⟨λi y l=>?_,λi y l=>?_,λi j y z l ax ao=>?_,λi y l=>hrel.b5 b x o,λi y l=>?_,J,λn=>.inl rfl,λ_ _ _=>rfl,fJ.refl _,hrel.defers,rfl,λi y l=>?_,λi n=>.inl ?_,rfl⟩;obtain ⟨rfl,rfl⟩:=am i y l;exact ⟨az,row,e,a5,a6,ak,rfl,a7,Rd.bT (λ_ h=>.inl h) (λ_ _=>rfl) _ _ _ aA⟩;obtain ⟨rfl,rfl⟩:=am i y l;have:=hrel.cC b x o;simp_all
  grind
  exact λd g=>⟨λa4=>(J d a4).2 g,(hrel.bQ b x o d g).2.1,.inl g⟩
  grind
  simp [St.fW,C,lk]
 have aH:dq (ay C.box O) w K.R (.ref 0 []::aM) (aN::xs):=by
  refine ⟨?_,aD _⟩;rcases aj with aj|⟨cs,⟨aL,ft,a0,off,D,rfl⟩,U⟩
  cases aj;refine .inr ⟨_,⟨aL,ft,a0,off,?_,rfl⟩,U⟩;rw [qh o,aa] at D;rw [<-D];exact qh (s:=C) (G:=O) (show C.box 0=some ⟨t,false,false,.ad t ab⟩ from rfl)
 refine (h _ K O C {a with tmps:= #[]} w _ _ _ z aB aH ax).mono λen w' ap=>?_
 cases en with
 |returned v=>
  obtain ⟨aO,aQ,tv,aq,aE,W⟩:=ap;unfold uK at W;split at W;rotate_left;cases W;rename_i aR y;obtain ⟨rfl,rfl⟩:=eP W;have ae:∀d,d<w.heap.size->d∉(G b).af->w'.heap[d]?=w.heap[d]?:=aq.bT
  have a9:aC F G (s.drop b) a w':=dD.shift aq.fQ (λd g=>ae d (J d (.inl g)).1 (J d (.inl g)).2) (λi y hi d g=>ae d (J d (.inr ⟨i,y,hi,g⟩)).1 (J d (.inr ⟨i,y,hi,g⟩)).2)
   (λd D U=>ae d (kO D hrel.size) λah=>by
    rcases (hrel.bQ b x o d ah).2.2 with q|q
    all_goals grind)
  refine ⟨_,_,_,a9,?_,ag⟩;rcases aE with a3|⟨cs,D,U⟩
  cases a3;obtain ⟨a1,a2⟩:=Rd.aY ar D;exact .inr ⟨cs,by rw [a2];exact Rd.fS ar a1,U⟩
 |_=>exact ap
theorem alt {Z:Type} {t:St}:∀(ts:List Ty) (vs:List TV) (k:List TV->Option Z) (r:Z),pd t ts vs k=some r->∃b,k b=some r/\∀(s:St),(∀v∈vs,Ag s t v)->∀{Y:Type} (k':List TV->Option Y),pd s ts vs k'=k' b:=by
 intro ts
 induction ts with
 |nil=>
  intro vs k r h;cases vs with
  |nil=>exact ⟨[],h,λs _ Y k'=>rfl⟩
  |cons v vs=>cases h
 |cons T ts c=>
  intro vs k r h;cases vs with
  |nil=>cases h
  |cons v vs=>
   simp only [pd] at h
   grind [N2,pd]
def ah6 (I:du) (t u:Ty) (ts:List Ty):(qA I t u ts).rN:=λZ s vs k r h=>by
 simp only [qA] at h;split at h;rotate_left;cases h;rename_i b bn;split at h;rotate_left;cases h;rename_i D;unfold b6 at h;split at h;rotate_left;cases h;rename_i x K;dsimp only at h;split at h;cases h;rename_i o;split at h;rotate_left;cases h;rename_i y f;obtain ⟨ab,d,l⟩:=alt _ _ _ _ h;split at d;rotate_left;cases d;rename_i z O;refine ⟨[.drop b],.ad u z,d,λm X=>?_,λg C Y k'=>?_⟩
 grind [Mv.at,TV.aK]
 simp only [qA];rw [aE D];unfold b6;have n:g.box b=s.box b:=C _ (nM ..) b (by simp [TV.aK]);rw [n,K];simp only;rw [av o];simp only [f];rw [l (g.drop b) λv J=>?_];simp only [O];rfl;obtain ⟨j,aa,rfl⟩:=dm.1 J;intro c q y f;have W:c∈j.aK:=Po _ j c q;have U:∀e:St,(e.drop b).box c=if b=c then none else (e.box c).map (bm.bY λc=> !Nat.beq b c):=by
  intro e;unfold St.drop St.box;simp only [mb,FW]
  grind
 grind
end Go.TM
namespace Go.TM
open Go.Proofs Go.Shelf
def W6 (b:List PM) (c:List Ty):az:={params:=b,results:=c,h:=λ_ _=>none}
def ajl {P:Program} {f:Nat} {e:List PM} {b:List Ty} (h:b.all Ty.iF=true):aM P f (W6 e b):=
 ⟨λ_ _ _=>rfl,λt d=>Ty.oU (fa.1 h t d),λ_ _ _ _ _ _ _ _ c=>by cases c⟩
def FC {Z:Type} (n:Int) (k:Unit->Option Z):Option Z:=match decide (0<=n)&&decide (n<=4294967296) with
 |true=>k ()
 |false=>none
def FD (o:Nat):du:=
 {run:=λs vs k=>match vs with
  |[.nil,.ad (.int .i64) n]=>FC n λ_=>j1 s o ⟨.slice (.int .i64),true,false,.ab (.slice (.int .i64)) ([]:List Int)⟩ λs=>k s (.sl o [])
  |_=>none}
def ahN {P:Program} {Z:Ren} (L:Lays8.n4 P Z) {j:TypeInfo} {z:Value} (aa:P.info? (Z.t 25)=some j) (ag:j.zero=some z) (ah:z.cells.size=1) (ao:j.size=1) (d:j.bytes<=4096) (o:Nat):dH P (Z.f 4) (FD o):=by
 intro Y F G s a w vs xs k r hrel q hk;simp only [FD] at hk;split at hk;rotate_left;cases hk;rename_i n;unfold FC at hk;split at hk;rotate_left;cases hk;rename_i D;simp only [bE,nT] at D;obtain ⟨m,rfl⟩:=g5 D.1;have an:m<=4294967296:=by omega
 obtain ⟨O,U,hk⟩:=qL hk
 match xs,q with
 |[al,am],q=>
  obtain ⟨v0,aj,_⟩:=q;have J:am=.int .i64 (m:Int):=aj.int;have e0:al=.slice none 0 0:=by
   rcases v0 with v0|⟨cs,rfl,h⟩
   cases v0;simpa [TV.agg] using h.symm
  subst J e0;have fin:∀(w':World) (f:FT) (v:Value),aC F G s a w'->bd w' (.slice (.int .i64)) ([]:List Int) f [v]->hW F G s w' ⟨none,f⟩->∃y u tv,aC F y u a w'/\VR (ay u.box y) w' F.R tv v/\k u tv=some r:=by
   intro w' f v l I W;have l:=l.qg (x:=⟨.slice (.int .i64),true,false,.ab (.slice (.int .i64)) ([]:List Int)⟩) (g:=⟨none,f⟩) O U rfl (Ty.oU (by decide)) ⟨rfl,⟨_,rfl⟩,[v],⟨rfl,I⟩⟩ W;refine ⟨_,_,_,l,?_,hk⟩;refine dJ (v:=.sl o []) (cs:=[v]) ?_ rfl;obtain ⟨b,cap,ai,rfl,ad,_,_,ac,_⟩:=I;refine ⟨.int .i64,b,cap,ai,none,?_,by rw [ad,ac]⟩;simp [ay,l0,fo,ak]
  refine .inl ⟨L.f4.enters rfl,?_⟩;by_cases K:m=0;subst K;refine (Any8.slices_Grow_room L none 0 0 0 w (by omega) (by omega) (by omega) (by omega)).mono ?_;rintro e w' ⟨rfl,rfl⟩;exact fin w' (.node none 0 []) _ hrel ⟨none,0,[],rfl,rfl,cS _,bG _,rfl,rfl⟩ ⟨by simp [Gh.af,FT.af,FT.bo],λb d=>by simp [Gh.af,FT.af,FT.bo] at d,λb d=>by simp [Gh.af,FT.af,FT.bo] at d⟩;refine (Any8.slices_Grow_grow L j z aa ag (by omega) none 0 0 m [] w (by omega) (by omega) ?_ (by omega) (by simp) (λ_=>rfl) (λa h=>by cases h)).mono ?_;have:(0+m)*j.bytes<=4294967296*4096:=Nat.mul_le_mul (by omega) d;omega;rintro e w' ⟨rfl,rfl⟩;have X:=grownCap_ge w (0+m) 0 (Z.t 25);generalize grownCap w (0+m) 0 (Z.t 25)=c at X;have C:aC F G s a w.drew:=hrel.shift ⟨cS _,rfl,rfl⟩ (λ_ _=>rfl) (λ_ _ _ _ _=>rfl) (λ_ _ _=>rfl);refine fin _ (.node (some w.heap.size) c []) _ (C.alloc _) ⟨some w.heap.size,c,[],rfl,rfl,bG _,bG _,rfl,⟨_,_,lX w.drew _,?_⟩,λi x k ae=>by cases ae⟩ (hW.row c C lD (λb d=>by cases d) (λb d=>by cases d));simp only [Array.size_append,abI,ah];show c*1=_;simp;omega
end Go.TM
namespace Go.TM
open Go Go.Proofs Go.Shelf Go.RowKit Go.Sort
variable {P:Program} {Z:Ren}
def Rf (w:World) (tb b:TypeId) (pre:List Int) (W:World):Prop:=
 (∃v,W.heap[w.heap.size]?=some (.cells #[v] tb (0,0))/\W.ownsRow (w.heap.size+1) b 1 v pre.length (pre.map encZ))/\Below w.heap.size w W
theorem apO (w:World) (tb l:TypeId):OwnFrom (w.heap.size+1) (Rf w tb l):=by
 rintro s W n row ⟨⟨v,f,d⟩,c⟩ b j;refine ⟨⟨v,?_,d.kept b ?_⟩,c.grown b c.size λk e=>by grind⟩;refine (b.block _ (zy.1 f).1 λe=>?_).trans f
 grind
 cases row with
 |none=>grind
 |some r=>
  obtain ⟨_,o,h,g⟩:=j r rfl;exact ownsRow_ne_a d h λq e=>by subst e;cases g
set_option maxRecDepth 100000 in
set_option maxHeartbeats 2000000 in
def afD (L:SlLaysZI.n11 P Z) (n:Nat) (a2:3<=n) (g:Nat) (lb:Array Value) (ad:∀args w,(callFunc g args).run P w=.ok (.enter g args) w) (zs:List Int) (ax:zs.length<=4294967296) (w:World)
 (al:SeqStopsK Fence.wide (n-1) P g lb (λx:Int=> #[Value.int .i64 x]) (Below w.heap.size) (λaa=>aa=zs) (λ_=>True) zs.length w):
 CallsIn Fence.wide n P (Z.f 11) #[.slice none 0 0,.func (.func g) #[] lb] w λe w'=>∃v,e=.returned v/\w'.ownsRow w.heap.size (Z.t 26) 1 v zs.length (zs.map encZ)/\Below w.heap.size w w':=by
 have ae:1<=n:=by omega
 have mixed:=L.mixed;have t0:=L.t0;have a0:=L.a0;have z0:=L.z0;have v0:=L.v0;have t24:=L.t24;have a24:=L.a24;have z24:=L.z24;have v24:=L.v24;have t26:=L.t26;have a26:=L.a26;have z26:=L.z26;have v26:=L.v26;have t28:=L.t28;have a28:=L.a28;have z28:=L.z28;have v28:=L.v28;have a4:=run_underlying L.t0;have a5:=run_underlying L.t24;have a6:=run_underlying L.t26;have a7:=run_underlying L.t28;have aj:Z.t 24≠Z.t 26:=λe=>by simp_all
 obtain ⟨aq,hi,an,ao,ap⟩:=info_parts L.i26;obtain ⟨_,_,ab⟩:=L.f11;refine callsIn_of_wp_marks ab rfl trivial ?_ rfl;simp only [SlBodyZ.n11_ntmps Z,zF,jh,List.length_nil,Nat.reduceAdd,Nat.reduceSub,Array.replicate_succ,Array.replicate_zero,List.push_toArray,List.append_toArray,el,kL]
 gi_wp2
 refine wpIn_rangeFunc_ownG (n:=n) rfl ae (gf:=g) (lb:=lb) rfl trivial ad al belowK_t (belowK_b (by simp)) ((Below.refl _ w).alloc (cS _) _) (λ_=>rfl)
  (Rf w (Z.t 24) (Z.t 26)) (λ_ _ _=>False) (by simpa using apO w (Z.t 24) (Z.t 26)) (λ_ _ _ _ _ ak _ _=>ak)
  ⟨⟨_,World.alloc_heap_new w _,rfl,.inl ⟨rfl,rfl⟩⟩,(Below.refl _ w).alloc (cS _) _⟩
  (λx=>{tmps:= #[.slice none 0 0,.func (.func g) #[] lb,.pointer (some ⟨w.heap.size,0,none⟩),undef,.slice none 0 0,.int .i64 x,.func (.func g) #[] lb,.int .i64 x,undef,undef,undef,undef,undef],defers:=[]}) ?assign ?body ?done ?stop
 case assign=>
  intro l x W K q
  gi_wp2_with gi_round_op_a
  exact q
 case body=>
  rintro l pre x W ⟨⟨v,c,b⟩,h⟩ a1;obtain ⟨ag,ah⟩:=cell_of_box_a c;have U:w.heap.size<W.heap.size:=(zy.1 c).1;have am:some w.heap.size≠v.ownBlock:=λe=>by
   grind [ownsRow_ne_a]
  gi_wp2_with (first
   |(gi_at_builtin;refine wpListIn_append_own _ rfl _ _ (Z.t 24) rfl (w.heap.size+1) (Z.t 26) aq (.int .i64 0) 1 8 L.t24 hi an ao ap rfl (by decide) _ _ _ rfl (b.alloc _) ⟨W.heap.size,0,none⟩ 1 1 [encZ x] rfl rfl (cell_one_new _ _ _) (by simp [Value.oneCell',encZ]) (by unfold maxLen;omega) (by omega) (by simp;omega) ?_;intro ar z u r a3
     have y:z.heap[w.heap.size]?=some (.cells #[v] (Z.t 24) (0,0)):=(r.block _ (by simp;omega) am).trans ((Below.heap_alloc _ _ _ U).trans c);obtain ⟨ay,az⟩:=cell_of_box_a y;obtain ⟨c',d,rfl⟩:∃c' d,ar=.slice (some ⟨c',0,none⟩) (pre.length+1) d:=by
      rcases u.2 with ⟨_,av⟩|⟨c',d,_,au,_⟩
      omega;simp_all
     go_frame)
   |gi_round_op_a)
  have J:=grownBy_setCell0_a z w.heap.size (.slice (some ⟨c',0,none⟩) (pre.length+1) d);have hk:=u.kept J (ownsRow_ne_a u y λac e=>aj (Obj.cells.inj e).2.1);have C:Below w.heap.size W z:=((Below.refl _ W).alloc (by omega) _).grown r (by simp;omega) λk e=>by
   have:=(b.lt k e).1;omega
  have I:=C.grown J (Nat.le_trans (Nat.le_of_lt U) C.size) λk e=>by simp_all
  refine ⟨(((KeepsOthers.alloc W _).trans (KeepsOthers.of_grownBy r λj o O X=>?_)).trans (KeepsOthers.setCell _ _ _)).from _,I,⟨⟨_,heap_setCell_box_a _ y,by simpa using hk⟩,h.trans I⟩⟩;rcases (b.alloc (.cells #[encZ x] (Z.t 26))).2 with ⟨rfl,_⟩|⟨g',_,_,rfl,_,ai,_⟩
  cases O;obtain rfl:g'=j:=b3 O;rw [ai] at X;obtain rfl:=b3 X;rfl
 case done=>
  rintro D aa W af rfl ⟨⟨v,c,b⟩,h⟩ q;obtain ⟨ag,ah⟩:=cell_of_box_a c
  gi_wp2
  refine ⟨by simp,.inl ⟨_,_,rfl,run_takeDeferred q,?_⟩⟩;have aw:w.heap.size+1<=D:=by simpa using af
  exact ⟨_,results_tmp rfl _ _ _,v,rfl,ownsRow_base_a (b.kept (grownBy_putObj' _ _ _) (ownsRow_ne_a b q λac e=>by cases e)) (by omega),h.grown (grownBy_putObj' _ _ _) h.size λk e=>by cases e;omega⟩
 simp_all
set_option maxHeartbeats 1000000 in
def agp (L:SlLaysZI.n8 P Z) (n:Nat) (r:4<=n) (g:Nat) (lb:Array Value) (c:∀args w,(callFunc g args).run P w=.ok (.enter g args) w) (zs:List Int) (d:zs.length<=4294967296) (w:World)
 (h:SeqStopsK Fence.wide (n-1-1) P g lb (λx:Int=> #[Value.int .i64 x]) (Below w.heap.size) (λj=>j=zs) (λ_=>True) zs.length w):
 CallsIn Fence.wide n P (Z.f 8) #[.func (.func g) #[] lb] w λe w'=>∃v,e=.returned v/\w'.ownsRow w.heap.size (Z.t 26) 1 v zs.length (zs.map encZ)/\Below w.heap.size w w':=by
 have o:1<=n:=by omega
 have yz:Fence.wide.fn (Z.f 11):=trivial;have l:∀args w,(callFunc (Z.f 11) args).run P w=.ok (.enter (Z.f 11) args) w:=L.f11.enters rfl
 have mixed:=L.mixed;have t0:=L.t0;have a0:=L.a0;have z0:=L.z0;have v0:=L.v0;have t24:=L.t24;have a24:=L.a24;have z24:=L.z24;have v24:=L.v24;have t26:=L.t26;have a26:=L.a26;have z26:=L.z26;have v26:=L.v26;have t28:=L.t28;have a28:=L.a28;have z28:=L.z28;have v28:=L.v28;have y:=run_underlying L.t0;have z:=run_underlying L.t24;have C:=run_underlying L.t26;have D:=run_underlying L.t28;obtain ⟨_,_,b⟩:=L.f8;refine callsIn_of_wp b rfl trivial ?_ rfl;simp only [SlBodyZ.n8_ntmps Z,zF,jh,List.length_nil,Nat.reduceAdd,Nat.reduceSub,Array.replicate_succ,Array.replicate_zero,List.push_toArray,List.append_toArray,el,kL]
 gi_wp2_with (gi_at_fn (Z.f 11);refine (afD {L with} (n-1) (by omega) g lb c zs d _ h).mono ?_;rintro e w' ⟨v,rfl,u,q⟩)
 go_ret
 simp_all
def yl (xs:List Int):Option ((List Int×Unit)×Unit):=match Nat.ble xs.length bg with
 |true=>some ((xs,()),())
 |false=>none
def Fs (f:Nat):az:=
 {params:=[.bU f [.bt (.slice (.int .i64))]],results:=[.slice (.int .i64)],h:=λds k=>match ds with
  |[⟨.slice (.int .i64),xs⟩]=>match yl xs with
   |none=>none
   |some v=>k [⟨.slice (.int .i64),v.1.1⟩] []
  |_=>none}
theorem Xg {w:World} {b cap:Nat} {c:Array Value} {d:TypeId} {zs:List Int} (f:w.heap[b]?=some (.cells c d (0,0))) (j:zs.length<=cap) (q:zs.length<=eK) (l:c.size=cap*1) (h4:c.toList.take zs.length=zs.map encZ):
 ∃h,FT.bo h=[]/\bd w (.slice (.int .i64)) zs (.node (some b) cap h) [.slice (some ⟨b,0,none⟩) zs.length cap]:=by
 have r:∀n,FT.bo (List.replicate n FT.leaf)=[]:=λn=>by
  induction n with
  |zero=>rfl
  |succ n u=>rw [List.replicate_succ,FT.bo,u];rfl
 refine ⟨List.replicate zs.length .leaf,r _,some b,cap,_,rfl,rfl,j,q,List.length_replicate ..,⟨c,d,f,by simpa [Ty.size] using l.symm⟩,λi x k g hk=>?_⟩;have o:i<zs.length:=(b4.1 g).1;obtain rfl:k=.leaf:=(ri (cw hk));refine ⟨[.int .i64 x],⟨c,d,(0,0),f,by simp [Ty.size];omega,?_⟩,bd.fS (t:=.int .i64) rfl trivial rfl⟩;simp only [Ty.size,Nat.mul_one];have e:(c.toList.take zs.length)[i]?=some (.int .i64 x):=by rw [h4,vg,show zs[i]?=some x from g];rfl
 rw [List.getElem?_take_of_lt o] at e;obtain ⟨v,y⟩:=b4.1 e;rw [jO v,y];rfl
def ajC {w:World} {bj:Nat} {e:TypeId} {v:Value} {zs:List Int} (h:w.ownsRow bj e 1 v zs.length (zs.map encZ)) (q:zs.length<=eK):
 ∃f,bd w (.slice (.int .i64)) zs f [v]/\f.af.Nodup/\∀b∈f.af,bj<=b/\b<w.heap.size:=by
 rcases h.2 with ⟨rfl,d⟩|⟨b,cap,g,rfl,c,o,j,l,n,h4⟩
 obtain rfl:=hT.1 d;exact ⟨.node none 0 [],⟨none,0,[],rfl,rfl,cS _,bG _,rfl,rfl⟩,by simp [FT.af,FT.bo],λb c=>by simp [FT.af,FT.bo] at c⟩
 grind [Xg,FT.af]
def Tn {w:World} {R:Nat->Prop} {m:PM} {ds:List D} {vs:List Value} {b:List Gh} (h:lG w R [m] ds vs b):∃v g,vs=[v]/\b=[g]/\zJ w R m ds v g:=by
 cases vs with
 |nil=>cases b<;>exact h.elim
 |cons v vs=>cases b with
  |nil=>exact h.elim
  |cons g b=>
   obtain ⟨f,c,rfl,e,d⟩:=h;cases vs with
   |cons _ _=>cases b<;>cases c<;>exact d.elim
   |nil=>cases b with
    |cons _ _=>cases c<;>exact d.elim
    |nil=>cases c with
     |cons _ _=>exact d.elim
     |nil=>simp_all
def alL {w:World} {R:Nat->Prop} {m:PM} {ds:List D} {vs:List Value} (h:vt w R [m] ds vs):∃d v,ds=[d]/\vs=[v]/\zK w R m d v:=by
 cases ds with
 |nil=>cases vs<;>exact h.elim
 |cons d ds=>cases vs with
  |nil=>exact h.elim
  |cons v vs=>
   obtain ⟨c,b⟩:=h;cases ds<;>cases vs<;>first|exact b.elim|simp_all
def agq (L:SlLaysZI.n8 P Z) {g:Nat} (O:∀args w,(callFunc g args).run P w=.ok (.enter g args) w)
 (an:∀(n:Nat) (w:World) (d off:Nat) (a:Option Addr) (cap:Nat) (zs:List Int),1<=n->zs.length<=4294967296->w.cell? ⟨d,off,none⟩=some (.slice a zs.length cap)->
  (zs≠[]->∃b o,a=some ⟨b,o,none⟩/\∀j,j<zs.length->w.cell? ⟨b,o+j,none⟩=some (.int .i64 (zs[j]?.getD 0)))->
  SeqStopsK Fence.wide n P g #[.pointer (some ⟨d,off,none⟩)] (λx:Int=> #[Value.int .i64 x]) (Below w.heap.size) (λav=>av=zs) (λ_=>True) zs.length w):aM P (Z.f 8) (Fs g):=by
 refine ⟨λY ds k=>?_,λt y=>?_,λw R ds vs W ar ap ak ae=>?_⟩;unfold az.g Fs
 grind
 obtain rfl:t=.slice (.int .i64):=by simpa [Fs] using y
 exact Ty.oU (by decide)
 ·have aa:lG w R [.bU g [.bt (.slice (.int .i64))]] ds vs W:=ak.args;obtain ⟨ay,U,rfl,rfl,J,vs,rfl,ab⟩:=Tn aa;obtain ⟨⟨t,xs⟩,v,rfl,rfl,y,z⟩:=alL ab;dsimp only at y z;subst y;have h:(match yl xs with
   |none=>none
   |some v=>some ([(⟨.slice (.int .i64),v.1.1⟩:D)],[]))=some (ar,ap):=ae
  unfold yl at h;split at h;cases h;rename_i u C;split at C;rotate_left;cases C;rename_i q;obtain rfl:=b3 C;simp only [bi,bK] at h;obtain ⟨rfl,rfl⟩:=h;have q:List.length (α:=Int) xs<=4294967296:=rm q;rcases z with z|⟨cs,⟨d,off,c,rfl,aw,ac,a,cap,rfl,_,ad⟩,X⟩
  cases z;obtain rfl:Value.pointer (some ⟨d,off,none⟩)=v:=by simpa [TV.agg] using X
  have cell:∀{b o:Nat} {u:Value},At w b o 1 [u]->w.cell? ⟨b,o,none⟩=some u:=by
   rintro b o u ⟨row,e,fz,K,I,aq⟩;have:row.toList[o]?=some u:=by
    have:=dz (λl=>l[0]?) aq
    grind
   simpa [World.cell?,K] using this
  have am:=an 2 w d off a cap xs (by omega) q (cell ac) λai=>by
   obtain ⟨b,o,rfl,_,ao⟩:=ad ai;refine ⟨b,o,rfl,λj af=>?_⟩;obtain ⟨c,K,I⟩:=ao j _ (a6 af);have I:_/\_/\c=[Value.int .i64 _]:=I
   grind [Ty.size]
  refine .inl ⟨L.f8.enters rfl,(callsIn_wide (n:=4)).1 ((agp L 4 (by omega) g _ O xs q w am).mono ?_)⟩;rintro e w' ⟨au,rfl,al,r⟩;obtain ⟨f,aj,ah,ax⟩:=ajC al (E1 (show _<=bg from q));refine ⟨[f],[U],⟨f,rfl,[au],aj,rfl⟩,rfl,⟨J,trivial⟩,?_,?_,⟨r.size,r.os,r.output⟩,λb ag _=>r.block b ag⟩;simp [FT.bo,bX,J];exact ah
  grind [FT.bo,bX]
theorem Tx:∀b:List FT,(∀k∈b,k.af=[])->FT.bo b=[]
 |[],_=>rfl
 |k::b,h=>by rw [FT.bo,h k (by simp),Tx b λk hk=>h k (by simp [hk])];rfl
def uU (xs:List Int):Option (Unit×List Int×Unit):=match Nat.ble xs.length bg with
 |true=>some ((),xs.mergeSort (λx y=>decide (x<=y)),())
 |false=>none
def Ov:az:=
 {params:=[.mut (.slice (.int .i64))],results:=[],h:=λds k=>match ds with
  |[⟨.slice (.int .i64),xs⟩]=>match uU xs with
   |none=>none
   |some v=>k [] [⟨.slice (.int .i64),v.2.1⟩]
  |_=>none}
def ao8 (L:SlLaysM.n5 P Z):aM P (Z.f 5) Ov:=by
 refine ⟨λY ds k=>?_,λt K=>(by cases K),λw R ds vs ao a7 a4 I ar=>?_⟩;unfold az.g Ov
 grind
 ·have ap:lG w R [.mut (.slice (.int .i64))] ds vs ao:=I.args;obtain ⟨v,g,rfl,rfl,X⟩:=Tn ap;cases ds with
  |nil=>exact X.elim
  |cons d ds=>
  cases ds with
  |cons _ _=>exact X.elim
  |nil=>
  obtain ⟨t,xs⟩:=d;obtain ⟨K,_,ad,aj⟩:=X;dsimp only at K aj;subst K;have r:(match uU xs with
   |none=>none
   |some v=>some ([],[(⟨.slice (.int .i64),v.2.1⟩:D)]))=some (a7,a4):=ar
  unfold uU at r;split at r;cases r;rename_i u ab;split at ab;rotate_left;cases ab;rename_i ah;obtain rfl:=b3 ab;simp only [bi,bK] at r;obtain ⟨rfl,rfl⟩:=r;have ah:List.length (α:=Int) xs<=4294967296:=rm ah;change List Int at xs;obtain ⟨b,cap,h,ag,aq,C,U,W,h4⟩:=aj;have a1:v=.slice (b.map (⟨·,0,none⟩)) xs.length cap:=List.head_eq_of_cons_eq aq;subst a1;have au:bX [g]=b.toList++FT.bo h:=by simp [bX,Gh.af,ad,ag,FT.af]
  refine .inl ⟨L.f5.enters rfl,?_⟩;have C:xs.length<=cap:=C;have U:xs.length<=eK:=U;have W:h.length=xs.length:=W;obtain ⟨j,ac⟩:∃j,j=xs.mergeSort λx y=>decide (x<=y):=⟨_,rfl⟩
  have am:j.length=xs.length:=by rw [ac];simp
  rw [<-ac];cases b with
  |none=>
   dsimp only at h4;subst h4;have a2:xs=[]:=hT.1 (Nat.le_zero.1 C);subst a2;obtain rfl:j=[]:=hT.1 am;refine (AnyM.slices_Sort_int_none L none 0 w).mono ?_;rintro e w' ⟨rfl,rfl⟩;refine ⟨[],[g],⟨rfl,rfl⟩,rfl,⟨⟨rfl,ad,none,0,h,ag,rfl,C,U,W,rfl⟩,trivial⟩,by simpa [FT.bo] using I.b5,λb o=>?_,fJ.refl _,λ_ _ _=>rfl⟩;have o:b∈bX [g]:=by grind
   exact ⟨(I.bQ b o).2,.inl o⟩
  |some O=>
   obtain ⟨⟨row,aC,J,ax⟩,ae⟩:=h4;have aw:∀k∈h,k.af=[]:=λk hk=>by
    obtain ⟨i,hi⟩:=nN.1 hk;have aa:i<xs.length:=by grind
    obtain ⟨c,_,q⟩:=ae i _ k (a6 aa) hi;have q:_/\_/\k.af=[]/\_:=q;exact q.2.2.1
   have a9:FT.bo h=[]:=Tx h aw;have a0:row.toList.take xs.length=xs.map encZ:=by
    apply lB;intro i;by_cases hi:i<xs.length;have av:i<h.length:=by omega
    obtain ⟨c,⟨nA,a8,fz,an,aB,a5⟩,q⟩:=ae i _ _ (a6 hi) (a6 av);have q:_/\_/\_/\c=[Value.int .i64 _]:=q;rw [J] at an;obtain ⟨rfl,_⟩:=Obj.cells.inj (b3 an);rw [List.getElem?_take_of_lt hi,vg,a6 hi];have:=dz (λl=>l[0]?) a5
    grind
    grind
   have ay:row.size=cap*1:=by simpa [Ty.size] using ax.symm
   refine (AnyM.slices_Sort_int L O 0 cap xs w (holds_of_block_i J a0) (zy.1 J).1 (by omega)).mono ?_;rintro e w' ⟨rfl,n,os,rfl⟩;rw [<-ac];have z:=grownBy_sorted_i (w:=w) (g:=O) (n:=n) (os:=os) j.toArray;obtain ⟨a3,al,ak⟩:=Xg (cap:=cap) (zs:=j) (heap_sorted_i (n:=n) (os:=os) j.toArray J) (by omega) (by omega) (by rw [<-ay];simp [Go.Sort.putCells]) (take_putCells_i row _ (by omega));rw [am] at ak;refine ⟨[],[⟨none,.node (some O) cap a3⟩],⟨rfl,rfl⟩,rfl,⟨⟨rfl,rfl,ak⟩,trivial⟩,by simp [FT.bo,bX,Gh.af,FT.af,al],λb o=>?_,⟨z.size,z.os,z.output⟩,λb aa aA=>z.block b aa λe=>?_⟩;simp [FT.bo,bX,Gh.af,FT.af,al] at o;subst o;have ai:b∈bX [g]:=by rw [au];simp
   exact ⟨kO (I.bQ b ai).2 z.size,.inl ai⟩;simp_all
end Go.TM
namespace Go.bq
open Go.TM
abbrev c4:=Int×Int×Unit
def dr (fr:Nat->Bool) (a k:Nat):Bool:=a%2^k==0&&(List.range (2^k)).all λi=>fr (a+i)
def i9 (fr:Nat->Bool) (a:Nat):Option Nat:=
 if dr fr a 3 then some 3 else if dr fr a 2 then some 2 else if dr fr a 1 then some 1 else if dr fr a 0 then some 0 else none
def gu (fr:Nat->Bool) (n:Nat):Nat->Nat->List c4
 |0,_=>[]
 |f+1,a=>if a<n then match i9 fr a with
  |none=>gu fr n f (a+1)
  |some k=>((a:Int),(k:Int),())::gu fr n f (a+2^k) else []
def ho (fr:Nat->Bool) (n:Nat):List c4:=gu fr n (n+1) 0
def cK (r:c4):List Int:=(List.range (2^r.2.1.toNat)).map λi:Nat=>r.1+(i:Int)
theorem oP {fr:Nat->Bool} {a k:Nat}:dr fr a k=true↔a%2^k=0/\∀i,i<2^k->fr (a+i)=true:=by
 simp [dr]
def uA {fr:Nat->Bool} {a k:Nat} (h:i9 fr a=some k):k<=3/\dr fr a k=true/\∀j,k<j->j<=3->dr fr a j=false:=by
 unfold i9 at h
 grind
theorem ajz {fr:Nat->Bool} {a:Nat} (h:i9 fr a=none):fr a=false:=by
 unfold i9 at h;split at h;cases h;split at h;cases h;split at h;cases h;split at h;cases h;rename_i b;simpa [dr,Nat.mod_one] using b
def tV {n a k:Nat} (c:n%8=0) (hk:k<=3) (b:a%2^k=0) (h:a<n):a+2^k<=n:=by
 rcases (by omega:k=0\/k=1\/k=2\/k=3) with rfl|rfl|rfl|rfl<;>simp at* <;>omega
def Mz (r q:c4):Prop:=r.1+2^r.2.1.toNat<=q.1/\¬(r.2.1=q.2.1/\r.2.1<3/\r.1%(2*2^r.2.1.toNat)=0/\q.1=r.1+2^r.2.1.toNat)
def chain:List c4->Prop
 |r::q::l=>Mz r q/\chain (q::l)
 |_=>True
def ajv (fr:Nat->Bool) (n:Nat) (r:c4):Prop:=∃a k:Nat,r=((a:Int),(k:Int),())/\k<=3/\a%2^k=0/\a+2^k<=n/\∀i,i<2^k->fr (a+i)=true
def Yp {fr:Nat->Bool} {n:Nat} (j:n%8=0):∀(f a:Nat),∀r∈gu fr n f a,ajv fr n r/\(a:Int)<=r.1:=by
 intro f
 induction f with
 |zero=>intro a r b;cases b
 |succ f l=>
  intro a r b;unfold gu at b;split at b;rename_i h;split at b
  grind
  rename_i k hk;obtain ⟨c,e,_⟩:=uA hk;obtain ⟨d,g⟩:=oP.1 e;rcases eN.1 b with rfl|b
  exact ⟨⟨a,k,rfl,c,d,tV j c d h,g⟩,by simp⟩
  grind
  cases b
def al1 {fr:Nat->Bool} {n:Nat}:∀(f a:Nat) (q:c4) (l:List c4),gu fr n f a=q::l->(a:Int)<=q.1/\(q.1=(a:Int)->∃k:Nat,q.2.1=(k:Int)/\i9 fr a=some k):=by
 intro f
 induction f with
 |zero=>intro a q l h;cases h
 |succ f b=>
  intro a q l h;unfold gu at h
  grind
def agk {fr:Nat->Bool} {a k:Nat} (b:dr fr a k=true) (c:dr fr (a+2^k) k=true) (d:a%(2*2^k)=0):dr fr a (k+1)=true:=by
 rw [oP] at*;refine ⟨by grind,λi hi=>?_⟩;rw [Nat.pow_succ] at hi;by_cases h:i<2^k;exact b.2 i h;have:=c.2 (i-2^k) (by omega)
 grind
theorem alZ {fr:Nat->Bool} {n:Nat}:∀(f a:Nat),chain (gu fr n f a):=by
 intro f
 induction f with
 |zero=>intro a;trivial
 |succ f d=>
  intro a;unfold gu;split;split;exact d _;rename_i k hk;have b:=d (a+2^k);cases c:gu fr n f (a+2^k) with
  |nil=>trivial
  |cons q l=>
   rw [c] at b;refine ⟨?_,b⟩;obtain ⟨x,r⟩:=al1 f _ q l c;obtain ⟨y,h4,h5⟩:=uA hk;have u:((2:Int)^k)=((2^k:Nat):Int):=by simp
   refine ⟨by grind,?_⟩;rintro ⟨e,g,h,j⟩;simp only [fk,u] at e g h j;obtain ⟨k',z,v⟩:=r (by omega);obtain rfl:k=k':=by omega
   have o:a%(2*2^k)=0:=by
    grind
   have:=agk h4 (uA v).2.1 o
   grind
  trivial
theorem al2 {fr:Nat->Bool} {n:Nat}:∀(f a:Nat),(gu fr n f a).length<=n-a:=by
 intro f
 induction f with
 |zero=>intro a;simp [gu]
 |succ f b=>
  intro a;unfold gu
  grind
theorem ahh {fr:Nat->Bool} {a:Nat}:∀s,(∀i,i<s->fr (a+i)=true)->(List.range' a s).filter fr=List.range' a s:=by
 intro s h;rw [List.filter_eq_self];intro x b;rw [List.mem_range'_1] at b;have:=h (x-a) (by omega);simp_all
theorem Mu (a k:Nat):cK ((a:Int),(k:Int),())=(List.range' a (2^k)).map λi:Nat=>(i:Int):=by
 unfold cK;rw [List.range'_eq_map_range,List.map_map];simp
theorem al0 {fr:Nat->Bool} {n:Nat} (l:n%8=0):∀(f a:Nat),n-a<f->(gu fr n f a).flatMap cK=((List.range' a (n-a)).filter fr).map λi:Nat=>(i:Int):=by
 intro f
 induction f with
 |zero=>intro a h;omega
 |succ f b=>
  intro a h;unfold gu;split;rename_i g;split;rename_i hk;rw [b (a+1) (by omega)];have:n-a=(n-(a+1))+1:=by omega
  rw [this,List.range'_succ,List.filter_cons,av (by simp [ajz hk])];rename_i k hk;obtain ⟨c,d,_⟩:=uA hk;obtain ⟨j,e⟩:=oP.1 d;have o:=tV l c j g;have q:=kQ k;rw [List.flatMap_cons,b (a+2^k) (by omega),Mu];have:n-a=2^k+(n-(a+2^k)):=by omega
  rw [this,<-List.range'_append_1,iR,fH,ahh _ e];simp_all
theorem y7 {fr b:Nat->Bool} {n:Nat} (e:n%8=0) (h:∀i,i<n->fr i=b i):∀(f a:Nat),gu fr n f a=gu b n f a:=by
 intro f
 induction f with
 |zero=>intro a;rfl
 |succ f o=>
  intro a;unfold gu;split;rename_i d;have j:∀k,k<=3->dr fr a k=dr b a k:=by
   intro k hk;rw [pu,oP,oP];constructor;rintro ⟨c,g⟩;have:=tV e hk c d
   grind
   rintro ⟨c,g⟩;have:=tV e hk c d
   grind
  have l:i9 fr a=i9 b a:=by
   unfold i9;simp_all
  simp_all;rfl
abbrev ch:=Int×Int×List Bool×Unit
abbrev bW:=Int×Int×Int×Int×Int×Unit
abbrev cx:=Int×Int×Bool×Unit
abbrev dp:=Bool×Int×List cx×Unit
abbrev cT:=Int×List Int×Unit
abbrev abM:=Int×Int×Bool×Bool×Unit
abbrev MD:=List (List Int)×List Int×List c4×List ch×List bW×Int×List dp×List cT×List Int×List Int×Unit
structure M where
 mem:List (List Int)
 st:List Int
 bD:List c4
 aI:List ch
 aq:List bW
 next:Int
 ah:List dp
 aw:List cT
 aF:List Int
 ba:List Int
@[reducible] def M.d (m:M):MD:=(m.mem,m.st,m.bD,m.aI,m.aq,m.next,m.ah,m.aw,m.aF,m.ba,())
inductive E where
 |no
 |pg (f:Nat) (w r:Bool)
 |sl (i:Nat)
 deriving DecidableEq
def E.w:E->Int
 | .no=>0
 | .pg f w r=>1+8*(f:Int)+(if w then 2 else 0)+(if r then 4 else 0)
 | .sl i=>2+4*(i:Int)
def E.t:E->abM
 | .no=>(-1,-1,false,false,())
 | .pg f w r=>(f,-1,w,r,())
 | .sl i=>(-1,i,false,false,())
def E.ok:E->Prop
 | .no=>True
 | .pg f _ _=>f<32
 | .sl i=>i<16
structure G where
 tb:Nat->Option Nat
 en:Nat->E
def row (mem:List (List Int)) (f:Nat):List Int:=mem.getD f []
def bV (mem:List (List Int)) (f k:Nat):Int:=(row mem f).getD k 0
def ar (st:List Int) (f:Nat):Int:=st.getD f 9
def tI:Option Nat->Int
 |none=> -1
 |some f=>f
def tW:Option Nat->Int
 |none=>0
 |some f=>f+1
def aA (sp:List dp) (s:Nat):dp:=sp.getD s (false,-1,[],())
def cz (mem:List (List Int)) (f k:Nat) (v:Int):List (List Int):=mem.set f ((row mem f).set k v)
def bw (rg:List cx) (p:Nat):Int:=rg.foldl (λa r=>if r.1<=(p:Int)/\(p:Int)<r.2.1 then (if r.2.2.1 then 2 else 1) else a) 0
def bc (sp:List dp) (s:Nat):List cx:=(aA sp s).2.2.1
def GM (r q:cx):Prop:=r.2.1<=q.1/\(r.2.1=q.1->r.2.2.1≠q.2.2.1)
def ny:List cx->Prop
 |r::q::l=>GM r q/\ny (q::l)
 |_=>True
def hD (rg:List cx):Prop:=rg.length<=12/\(∀r∈rg,0<=r.1/\r.1<r.2.1/\r.2.1<=64)/\ny rg
structure eO (mem:List (List Int)):Prop where
 lo:8<=mem.length
 hi:mem.length<=32
 m8:mem.length%8=0
 mq:∀r∈mem,r.length=4/\∀x∈r,0<=x/\x<=100000
structure eW (n:Nat) (st:List Int):Prop where
 len:st.length=n
 val:∀f,f<n->0<=ar st f/\ar st f<=5/\(ar st f=1↔f<2)
structure fu (mem:List (List Int)) (sp:List dp) (g:G):Prop where
 fs:∀s,s<4->(aA sp s).2.1=tI (g.tb s)
 c8:∀x,x<20->∀k,k<4->∀f,g.tb x=some f->bV mem f k=tW (g.tb (4*x+4+k))
 leaf:∀q,q<64->∀k,k<4->∀f,g.tb (20+q)=some f->bV mem f k=(g.en (4*q+k)).w
 cW:∀x,x<20->g.tb x=none->∀k,k<4->g.tb (4*x+4+k)=none
 hG:∀q,q<64->g.tb (20+q)=none->∀k,k<4->g.en (4*q+k)=.no
structure kj (tb:Nat->Option Nat) (st:List Int):Prop where
 inj:∀x y f,x<84->y<84->tb x=some f->tb y=some f->x=y
 fZ:∀f,ar st f=4↔∃x,x<84/\tb x=some f
def NZ (tb:Nat->Option Nat) (en:Nat->E) (z:Nat):Prop:=∀x,x<84->x≠z->tb x≠none->(x<20->∃k,k<4/\tb (4*x+4+k)≠none)/\(20<=x->∃k,k<4/\en (4*(x-20)+k)≠ .no)
structure KE (sp:List dp):Prop where
 len:sp.length=4
 g1:∀s,s<4->hD (bc sp s)
 gW:∀s,s<4->(aA sp s).1=false->(aA sp s).2.1= -1/\bc sp s=[]
structure A8 (en:Nat->E) (st:List Int) (sp:List dp) (n:Nat):Prop where
 pg:∀y,y<256->∀f w r,en y=.pg f w r->ar st f=5/\0<bw (bc sp (y/64)) (y%64)/\(w=true->bw (bc sp (y/64)) (y%64)=2)
 sl:∀y,y<256->∀i,en y=.sl i->i<n/\0<bw (bc sp (y/64)) (y%64)
def cJ (en:Nat->E) (i:Nat):Nat:=((List.range 256).filter λy=>en y=.sl i).length
structure jk (sl:List cT) (en:Nat->E):Prop where
 len:sl.length<=16
 cJ:∀i x,sl[i]?=some x->x.1=(cJ en i:Int)
 zero:∀x∈sl,x.1=0->x.2.1=[]
 held:∀x∈sl,x.1≠0->x.2.1.length=4/\∀v∈x.2.1,0<=v/\v<=100000
structure jT (en:Nat->E):Prop where
 pg:∀y z f w r w' b,y<256->z<256->en y=.pg f w r->en z=.pg f w' b->y%64=z%64/\(y≠z->w=false)
 sl:∀y z i,y<256->z<256->en y=.sl i->en z=.sl i->y%64=z%64
structure abU (a i:List Int) (st:List Int):Prop where
 b5:(a++i).Nodup
 mem:∀x,x∈a++i↔∃f:Nat,x=f/\ar st f=5
def abV (en:Nat->E) (st:List Int):Prop:=∀f,ar st f=5->∃y w r,y<256/\en y=.pg f w r
def fT (w:Int):Int:=if w<=4 then 0 else if w<=8 then 1 else if w<=16 then 2 else 3
def cr (w:Int):Int:=if w=1 then 1 else if w=2 then 2 else 4
def cA (aq:List bW):List Int:=aq.flatMap λx=>if x.2.2.1= -1 then cK (x.2.1,x.2.2.2.1,()) else []
structure k3 (s:ch):Prop where
 lo:0<=s.1
 hi:s.1<=31
 size:s.2.1=1/\s.2.2.1.length=4\/s.2.1=2/\s.2.2.1.length=2\/s.2.1=4/\s.2.2.1.length=1
 abk:true∈s.2.2.1
def NE (aI:List ch) (x:bW):Prop:=∃s∈aI,s.1=x.2.1/\x.2.2.2.1=0/\0<=x.2.2.1/\s.2.2.1[x.2.2.1.toNat]?=some true/\1<=x.2.2.2.2.1/\x.2.2.2.2.1<=4/\cr x.2.2.2.2.1=s.2.1
structure fe (n:Nat) (st:List Int) (aI:List ch) (aq:List bW) (next:Int):Prop where
 kF:aI.length<=32
 eM:∀s∈aI,k3 s
 iM:aI.Pairwise λs t=>s.1<t.1
 hR:∀f,ar st f=2↔∃s∈aI,s.1=f
 ns:1<=next
 ux:next<=100000
 kB:aq.length<=40
 nu:aq.Pairwise λx y=>x.1<y.1
 ll:∀x∈aq,1<=x.1/\x.1<next
 ie:∀x∈aq,x.2.2.1= -1->5<=x.2.2.2.2.1/\x.2.2.2.2.1<=32/\x.2.2.2.1=fT x.2.2.2.2.1/\0<=x.2.1/\x.2.1%2^x.2.2.2.1.toNat=0/\x.2.1+2^x.2.2.2.1.toNat<=n
 hN:∀x∈aq,x.2.2.1≠ -1->NE aI x
 nv:aq.Pairwise λx y=>x.2.2.1≠ -1->¬(x.2.1=y.2.1/\x.2.2.1=y.2.2.1)
 bg:(cA aq).Nodup
 iY:∀f:Nat,(f:Int)∈cA aq↔ar st f=3
 sum:(aI.map λs=>s.2.2.1.count true).sum=aq.countP λx=>x.2.2.1 != -1
def dO (st:List Int):List c4:=ho (λf=>ar st f==0) st.length
structure ao (m:M) (g:G) (z:Nat):Prop where
 mm:eO m.mem
 sn:eW m.mem.length m.st
 fr:m.bD=dO m.st
 kr:fe m.mem.length m.st m.aI m.aq m.next
 sp:KE m.ah
 rp:fu m.mem m.ah g
 tx:kj g.tb m.st
 nz:NZ g.tb g.en z
 eo:A8 g.en m.st m.ah m.aw.length
 sl:jk m.aw g.en
 pg:jT g.en
 ls:abU m.aF m.ba m.st
 mp:abV g.en m.st
def bB {α:Type} (f:Nat->α) (y:Nat) (v:α):Nat->α:=λx=>if x=y then v else f x
@[simp] theorem e7 {α:Type} (f:Nat->α) (y:Nat) (v:α):bB f y v y=v:=by simp [bB]
theorem bh {α:Type} {f:Nat->α} {x y:Nat} {v:α} (h:x≠y):bB f y v x=f x:=by simp [bB,h]
theorem qw {α:Type} {l:List α} {f g:Nat} {v d:α} (b:f<l.length):(l.set f v).getD g d=if g=f then v else l.getD g d:=by
 grind
theorem lr {mem:List (List Int)} {f g:Nat} {r:List Int} (b:f<mem.length):row (mem.set f r) g=if g=f then r else row mem g:=qw b
theorem fV {st:List Int} {f g:Nat} {v:Int} (b:f<st.length):ar (st.set f v) g=if g=f then v else ar st g:=qw b
theorem j7 {sp:List dp} {f g:Nat} {v:dp} (b:f<sp.length):aA (sp.set f v) g=if g=f then v else aA sp g:=qw b
theorem Hz {mem:List (List Int)} {f k g j:Nat} {v:Int} (b:f<mem.length) (hk:k<(row mem f).length):bV (cz mem f k v) g j=if g=f/\j=k then v else bV mem g j:=by
 unfold bV cz;rw [lr b]
 grind
theorem zx {mem:List (List Int)} {f g j:Nat} {r:List Int} (h:g≠f):bV (mem.set f r) g j=bV mem g j:=by
 unfold bV row
 grind
theorem jy {mem:List (List Int)} {f k:Nat} {v:Int}:(cz mem f k v).length=mem.length:=by simp [cz]
theorem e3 {mem:List (List Int)} {f:Nat} (b:f<mem.length):mem[f]?=some (row mem f)/\row mem f∈mem:=by
 unfold row;simp_all
theorem eO.row {mem:List (List Int)} (h:eO mem) {f:Nat} (b:f<mem.length):(row mem f).length=4/\∀x∈Go.bq.row mem f,0<=x/\x<=100000:=h.mq _ (e3 b).2
theorem eO.bV {mem:List (List Int)} (h:eO mem) {f k:Nat} (b:f<mem.length) (hk:k<4):(Go.bq.row mem f)[k]?=some (bV mem f k)/\0<=bV mem f k/\bV mem f k<=100000:=by
 obtain ⟨c,d⟩:=h.row b;unfold bq.bV;simp_all
theorem eO.set {mem:List (List Int)} (h:eO mem) {f:Nat} {r:List Int} (c:r.length=4/\∀x∈r,0<=x/\x<=100000):eO (mem.set f r):=by
 refine ⟨by simpa using h.lo,by simpa using h.hi,by simpa using h.m8,λq b=>?_⟩;rcases nO b with b|rfl
 exact h.mq _ b;exact c
theorem eO.cz {mem:List (List Int)} (h:eO mem) {f k:Nat} {v:Int} (c:f<mem.length) (d:0<=v/\v<=100000):eO (cz mem f k v):=by
 refine h.set ⟨by simpa using (h.row c).1,λx b=>?_⟩;rcases nO b with b|rfl
 exact (h.row c).2 x b;exact d
theorem eW.lt {n:Nat} {st:List Int} (h:eW n st) {f:Nat} (b:ar st f≠9):f<n:=by
 rw [<-h.len];apply im;intro c;apply b;simp [ar,kM (by omega:st.length<=f)]
theorem kj.lt {n:Nat} {tb:Nat->Option Nat} {st:List Int} (h:kj tb st) (c:eW n st) {x f:Nat} (d:x<84) (b:tb x=some f):f<n:=
 c.lt (by rw [(h.fZ f).2 ⟨x,d,b⟩];decide)
theorem fu.off {mem mem':List (List Int)} {sp:List dp} {g:G} (h:fu mem sp g) (c:∀x f,x<84->g.tb x=some f->∀k,k<4->bV mem' f k=bV mem f k):fu mem' sp g:=by
 refine ⟨h.fs,λx e k hk f b=>?_,λq d k hk f b=>?_,h.cW,h.hG⟩;rw [c x f (by omega) b k hk];exact h.c8 x e k hk f b;rw [c _ f (by omega) b k hk];exact h.leaf q d k hk f b
theorem fu.set {mem:List (List Int)} {sp:List dp} {tb:Nat->Option Nat} {en:Nat->E} (h:fu mem sp ⟨tb,en⟩) (hi:∀x y f,x<84->y<84->tb x=some f->tb y=some f->x=y)
 {y f:Nat} {e:E} (u:y<256) (l:tb (20+y/4)=some f) (j:f<mem.length) (r:(row mem f).length=4):fu (cz mem f (y%4) e.w) sp ⟨tb,bB en y e⟩:=by
 have hk:y%4<(row mem f).length:=by omega
 refine ⟨h.fs,λx o k c g b=>?_,λq d k c g b=>?_,h.cW,λq d n k c=>?_⟩;rw [Hz j hk,av];exact h.c8 x o k c g b
 grind
 simp only at b|-;rw [Hz j hk];by_cases e:4*q+k=y;have:q=y/4:=by omega
 subst this;rw [l] at b;obtain rfl:=b3 b;rw [aE ⟨rfl,by omega⟩];simp [e];rw [av];simp only [bh e];exact h.leaf q d k c g b
 grind
 have:4*q+k≠y:=by
  grind
 simp only [bh this];exact h.hG q d n k c
theorem NZ.set {tb:Nat->Option Nat} {en:Nat->E} {z y:Nat} {e:E} (h:NZ tb en z) (o:z=84\/z=20+y/4) (j:e≠ .no):NZ tb (bB en y e) 84:=by
 intro x n _ l;by_cases c:x=20+y/4;refine ⟨λh=>by omega,λ_=>⟨y%4,by omega,?_⟩⟩;rw [show 4*(x-20)+y%4=y by omega,e7];exact j;obtain ⟨b,d⟩:=h x n (by omega) l;refine ⟨b,λf=>?_⟩;obtain ⟨k,hk,g⟩:=d f;exact ⟨k,hk,by rw [bh (by omega)];exact g⟩
def NZ.N9 {tb:Nat->Option Nat} {en:Nat->E} {z y:Nat} {e:E} (h:NZ tb en z) (n:z=84\/z=20+y/4):NZ tb (bB en y e) (20+y/4):=by
 intro x j l g;obtain ⟨b,c⟩:=h x j (by omega) g;refine ⟨b,λd=>?_⟩;obtain ⟨k,hk,f⟩:=c d;exact ⟨k,hk,by rw [bh (by omega)];exact f⟩
theorem NZ.dX {tb:Nat->Option Nat} {en en':Nat->E} {z:Nat} (h:NZ tb en z) (g:∀y,y<256->en y≠ .no->en' y≠ .no):NZ tb en' z:=by
 intro x c d b;obtain ⟨e,f⟩:=h x c d b
 grind
def NZ.yC {tb:Nat->Option Nat} {en:Nat->E} {z x k f:Nat} (h:NZ tb en z) (u:z=84\/z=x) (r:x<20) (hk:k<4):NZ (bB tb (4*x+4+k) (some f)) en (4*x+4+k):=by
 intro a n o e;rw [bh o] at e;by_cases c:a=x;subst c;exact ⟨λ_=>⟨k,hk,by simp_all⟩,λh=>by omega⟩;obtain ⟨b,d⟩:=h a n (by omega) e;refine ⟨λg=>?_,d⟩;obtain ⟨j,q,l⟩:=b g;clear b d;exact ⟨j,q,by rw [bh (by omega)];exact l⟩
theorem NZ.yD {tb:Nat->Option Nat} {en:Nat->E} {s f:Nat} (h:NZ tb en 84) (q:s<4):NZ (bB tb s (some f)) en s:=by
 intro a l n d;rw [bh n] at d;obtain ⟨b,c⟩:=h a l (by omega) d;refine ⟨λe=>?_,c⟩;obtain ⟨j,o,g⟩:=b e;clear b c;exact ⟨j,o,by rw [bh (by omega)];exact g⟩
theorem NZ.cut {tb:Nat->Option Nat} {en:Nat->E} {x k:Nat} (h:NZ tb en (4*x+4+k)) (q:x<20) (hk:k<4):NZ (bB tb (4*x+4+k) none) en x:=by
 intro a l o e;by_cases c:a=4*x+4+k;simp_all;rw [bh c] at e;obtain ⟨b,d⟩:=h a l c e;refine ⟨λf=>?_,d⟩;obtain ⟨j,n,g⟩:=b f;clear b d;exact ⟨j,n,by rw [bh (by omega)];exact g⟩
def NZ.Mg {tb:Nat->Option Nat} {en:Nat->E} {s:Nat} (h:NZ tb en s) (q:s<4):NZ (bB tb s none) en 84:=by
 intro a l o e;by_cases c:a=s;simp_all;rw [bh c] at e;obtain ⟨b,d⟩:=h a l c e;refine ⟨λf=>?_,d⟩;obtain ⟨j,n,g⟩:=b f;clear b d;exact ⟨j,n,by rw [bh (by omega)];exact g⟩
def NZ.tX {tb:Nat->Option Nat} {en:Nat->E} {z:Nat} (h:NZ tb en z) (e:(z<20->∃k,k<4/\tb (4*z+4+k)≠none)/\(20<=z->∃k,k<4/\en (4*(z-20)+k)≠ .no)):NZ tb en 84:=by
 intro x d _ b;by_cases c:x=z;subst c;exact e;exact h x d c b
def fu.yC {mem:List (List Int)} {sp:List dp} {tb:Nat->Option Nat} {en:Nat->E} (h:fu mem sp ⟨tb,en⟩) (hi:∀x y f,x<84->y<84->tb x=some f->tb y=some f->x=y)
 {x k p f:Nat} (O:x<20) (hk:k<4) (D:tb x=some p) (v:tb (4*x+4+k)=none) (J:∀y,y<84->tb y≠some f) (z:∀k,k<4->bV mem f k=0) (C:p<mem.length) (K:(row mem p).length=4):
 fu (cz mem p k ((f:Int)+1)) sp ⟨bB tb (4*x+4+k) (some f),en⟩:=by
 have r:f≠p:=by grind
 have u:∀g j,bV (cz mem p k ((f:Int)+1)) g j=if g=p/\j=k then (f:Int)+1 else bV mem g j:=λg j=>Hz C (by omega)
 refine ⟨λs I=>?_,λx' o k' d g b=>?_,λq n k' d g b=>?_,λx' o l k' d=>?_,λq n l k' d=>?_⟩;simp only [bh (show s≠4*x+4+k by omega)];exact h.fs s I;simp only at b|-;rw [u];by_cases e:x'=4*x+4+k;rw [e,e7] at b;obtain rfl:=b3 b;rw [av (λc=>r c.1),z k' d,bh (by omega)];have:=h.cW x' o (by rw [e];exact v) k' d;simp only at this;rw [this];rfl;rw [bh e] at b;by_cases c:g=p/\k'=k;obtain ⟨rfl,rfl⟩:=c;obtain rfl:=hi _ _ _ (by omega) (by omega) b D;rw [aE ⟨rfl,rfl⟩,e7];rfl;rw [av c,bh];exact h.c8 x' o k' d g b
 grind
 simp only at b|-;rw [u];by_cases e:20+q=4*x+4+k;rw [e,e7] at b;obtain rfl:=b3 b;rw [av (λc=>r c.1),z k' d];have:=h.hG q n (by rw [e];exact v) k' d;simp only at this;rw [this];rfl;rw [bh e] at b;rw [av];exact h.leaf q n k' d g b
 grind
 simp only at l|-;by_cases e:x'=4*x+4+k;simp_all;rw [bh e] at l;rw [bh];exact h.cW x' o l k' d
 grind
 simp only at l|-;by_cases e:20+q=4*x+4+k;simp_all;rw [bh e] at l;exact h.hG q n l k' d
theorem fu.yD {mem:List (List Int)} {sp sp':List dp} {tb:Nat->Option Nat} {en:Nat->E} (h:fu mem sp ⟨tb,en⟩)
 {s f:Nat} (v:s<4) (r:tb s=none) (u:∀k,k<4->bV mem f k=0)
 (o:∀t,t<4->(aA sp' t).2.1=if t=s then (f:Int) else (aA sp t).2.1):fu mem sp' ⟨bB tb s (some f),en⟩:=by
 refine ⟨λt n=>?_,λx' j k' c g b=>?_,λq l k' c g b=>?_,λx' j d k' c=>?_,λq l d k' c=>?_⟩;rw [o t n];by_cases e:t=s;subst e;simp [tI];simp only [av e,bh e];exact h.fs t n;simp only at b|-;rw [bh (by omega)];by_cases e:x'=s;subst e;rw [e7] at b;obtain rfl:=b3 b;have:=h.cW x' j r k' c;simp only at this;rw [u k' c,this];rfl;rw [bh e] at b;exact h.c8 x' j k' c g b;simp only at b|-;rw [bh (by omega)] at b;exact h.leaf q l k' c g b;simp only at d|-;rw [bh (by omega)];by_cases e:x'=s;simp_all;rw [bh e] at d;exact h.cW x' j d k' c;simp only at d|-;rw [bh (by omega)] at d;exact h.hG q l d k' c
def fu.Tu {mem:List (List Int)} {sp:List dp} {g:G} (h:fu mem sp g) {y f:Nat} (j:g.tb y=some f) (l:∀k,k<4->bV mem f k=0):
 (y<20->∀k,k<4->g.tb (4*y+4+k)=none)/\(∀q,y=20+q->q<64->∀k,k<4->g.en (4*q+k)=.no):=by
 refine ⟨λo k hk=>?_,λq e n k hk=>?_⟩;have:=h.c8 y o k hk f j;rw [l k hk] at this;cases d:g.tb (4*y+4+k) with
 |none=>rfl
 |some v=>rw [d] at this;simp [tW] at this;omega
 subst e;have:=h.leaf q n k hk f j;rw [l k hk] at this;cases d:g.en (4*q+k) with
 |no=>rfl
 |pg a b c=>rw [d] at this;simp only [E.w] at this;omega
 |sl a=>rw [d] at this;simp only [E.w] at this;omega
theorem fu.cut {mem:List (List Int)} {sp:List dp} {tb:Nat->Option Nat} {en:Nat->E} (h:fu mem sp ⟨tb,en⟩) (hi:∀x y f,x<84->y<84->tb x=some f->tb y=some f->x=y)
 {x k p f:Nat} (U:x<20) (hk:k<4) (z:tb x=some p) (D:tb (4*x+4+k)=some f) (I:∀k,k<4->bV mem f k=0) (v:p<mem.length) (O:(row mem p).length=4):
 fu (cz mem p k 0) sp ⟨bB tb (4*x+4+k) none,en⟩:=by
 have u:∀g j,bV (cz mem p k 0) g j=if g=p/\j=k then 0 else bV mem g j:=λg j=>Hz v (by omega)
 obtain ⟨J,K⟩:=h.Tu D I;refine ⟨λs C=>?_,λx' o k' d g b=>?_,λq n k' d g b=>?_,λx' o l k' d=>?_,λq n l k' d=>?_⟩;simp only [bh (show s≠4*x+4+k by omega)];exact h.fs s C;simp only at b|-;rw [u];by_cases e:x'=4*x+4+k;simp_all;rw [bh e] at b;by_cases c:g=p/\k'=k;obtain ⟨rfl,rfl⟩:=c;obtain rfl:=hi _ _ _ (by omega) (by omega) b z;rw [aE ⟨rfl,rfl⟩,e7];rfl;rw [av c,bh];exact h.c8 x' o k' d g b
 grind
 simp only at b|-;rw [u];by_cases e:20+q=4*x+4+k;simp_all;rw [bh e] at b;rw [av];exact h.leaf q n k' d g b
 grind
 simp only at l|-;by_cases r:4*x'+4+k'=4*x+4+k;rw [r,e7];rw [bh r];by_cases e:x'=4*x+4+k
 grind
 rw [bh e] at l;exact h.cW x' o l k' d;simp only at l|-;by_cases e:20+q=4*x+4+k;simp_all;rw [bh e] at l;exact h.hG q n l k' d
def fu.Mg {mem:List (List Int)} {sp sp':List dp} {tb:Nat->Option Nat} {en:Nat->E} (h:fu mem sp ⟨tb,en⟩)
 {s f:Nat} (y:s<4) (r:tb s=some f) (u:∀k,k<4->bV mem f k=0)
 (o:∀t,t<4->(aA sp' t).2.1=if t=s then -1 else (aA sp t).2.1):fu mem sp' ⟨bB tb s none,en⟩:=by
 obtain ⟨v,x⟩:=h.Tu r u;refine ⟨λt n=>?_,λx' l k' c g b=>?_,λq j k' c g b=>?_,λx' l d k' c=>?_,λq j d k' c=>?_⟩;rw [o t n];by_cases e:t=s;subst e;simp [tI];simp only [av e,bh e];exact h.fs t n;simp only at b|-;rw [bh (by omega)];by_cases e:x'=s;simp_all;rw [bh e] at b;exact h.c8 x' l k' c g b;simp only at b|-;rw [bh (by omega)] at b;exact h.leaf q j k' c g b;simp only at d|-;rw [bh (by omega)];by_cases e:x'=s;simp_all;rw [bh e] at d;exact h.cW x' l d k' c;simp only at d|-;rw [bh (by omega)] at d;exact h.hG q j d k' c
theorem kj.add {tb:Nat->Option Nat} {st:List Int} (h:kj tb st) {y f:Nat} (z:y<84) (D:tb y=none) (u:ar st f≠4) (v:f<st.length):kj (bB tb y (some f)) (st.set f 4):=by
 have C:∀x,x<84->tb x≠some f:=λx d e=>u ((h.fZ f).2 ⟨x,d,e⟩)
 refine ⟨λa b g q r n o=>?_,λg=>?_⟩;by_cases j:a=y<;>by_cases l:b=y
 rw [j,l];rw [j,e7] at n;rw [bh l] at o;simp_all;rw [l,e7] at o;rw [bh j] at n;simp_all;rw [bh j] at n;rw [bh l] at o;exact h.inj a b g q r n o;rw [fV v];by_cases e:g=f;subst e;rw [aE rfl];exact ⟨λ_=>⟨y,z,e7 ..⟩,λ_=>rfl⟩;rw [av e,h.fZ];constructor;rintro ⟨x,d,ex⟩;refine ⟨x,d,?_⟩;rw [bh];exact ex
 grind
 rintro ⟨x,d,ex⟩;by_cases c:x=y;simp_all;rw [bh c] at ex;exact ⟨x,d,ex⟩
theorem kj.oR {tb:Nat->Option Nat} {st:List Int} (h:kj tb st) {y f:Nat} (z:y<84) (u:tb y=some f) (v:f<st.length):kj (bB tb y none) (st.set f 0):=by
 refine ⟨λa b g q r j l=>?_,λg=>?_⟩;by_cases n:a=y;simp_all;by_cases o:b=y;simp_all;rw [bh n] at j;rw [bh o] at l;exact h.inj a b g q r j l;rw [fV v];by_cases e:g=f;subst e;rw [aE rfl];refine ⟨(λc=>by cases c),?_⟩;rintro ⟨x,d,ex⟩;by_cases c:x=y;simp_all;rw [bh c] at ex;exact absurd (h.inj _ _ _ d z ex u) c;rw [av e,h.fZ];constructor;rintro ⟨x,d,ex⟩;refine ⟨x,d,?_⟩;rw [bh];exact ex
 grind
 rintro ⟨x,d,ex⟩;by_cases c:x=y;simp_all;rw [bh c] at ex;exact ⟨x,d,ex⟩
def kj.dx {tb:Nat->Option Nat} {st st':List Int} (h:kj tb st) (b:∀f,ar st' f=4↔ar st f=4):kj tb st':=⟨h.inj,λf=>(b f).trans (h.fZ f)⟩
section
variable {α Z:Type}
theorem a1 {x:Int} (b: -9223372036854775808<=x) (c:x<9223372036854775808):wi x=x:=by
 simp [wi,IntKind.wrap,IntKind.signed,IntKind.bits];split<;>omega
@[simp] theorem aa (v:α) (k:α->Option Z):cl (some v) k=k v:=rfl
theorem bO {a:Nat} {k:Option Z} (h:a<=4294967296):gd (Nat.ble a bg) k=k:=by
 rw [show Nat.ble a bg=true from vk h];rfl
theorem be (l:List α) (j:Nat) (k:α->Option Z):gn l j k=cl l[j]? k:=by
 unfold gn cl iH;cases l[j]?<;>rfl
theorem aT (l:List α) (j:Nat) (k:α->Option Z):gi l (j:Int) k=cl l[j]? k:=by
 unfold gi cl oX
 grind
theorem ua {l:List α} {i:Int} (h:0<=i) (k:α->Option Z):gi l i k=cl l[i.toNat]? k:=by
 obtain ⟨n,rfl⟩:=g5 h;simpa using aT l n k
theorem bb {l:List α} {j:Nat} (h:j<l.length) (k:Nat->Option Z):ix l (j:Int) k=k j:=by
 unfold ix;show (match Nat.blt j l.length with|true=>k j|false=>none)=k j;rw [show Nat.blt j l.length=true from by simp_all]
theorem oZ {n j:Nat} (h:j<n) (k:Nat->Option Z):eh n (j:Int) k=k j:=by
 show (match Nat.blt j n with|true=>k j|false=>none)=k j;rw [show Nat.blt j n=true from by simp_all]
theorem ap (l:List α):ln l=(l.length:Int):=rfl
theorem bP {n:Nat} {Q:Nat->Nat->Prop} (b:∀m,Q (m+1) n) (e:∀m i,i<n->Q m (i+1)->Q (m+1) i):∀i m,i<=n->n-i<m->Q m i:=by
 intro i
 induction h:n-i generalizing i with
 |zero=>
  intro m hi c;obtain rfl:i=n:=by omega
  obtain ⟨m,rfl⟩:∃k,m=k+1:=⟨m-1,by omega⟩
  exact b m
 |succ d f=>
  intro m hi c;obtain ⟨m,rfl⟩:∃k,m=k+1:=⟨m-1,by omega⟩
  grind
theorem aJ {i:Nat} (h:i<4294967296):wi ((i:Int)+1)=((i+1:Nat):Int):=by
 rw [a1 (by omega) (by omega)];simp
theorem lz {i:Nat} (h:i<4294967296):wi ((i:Int)-1)=(i:Int)-1:=a1 (by omega) (by omega)
theorem lg {β:Type} (L:Nat->List β->Int->Option Z) (X:List β->Option Z) (a:List α) (f:α->β)
 (c:∀m acc (i:Nat) x,a[i]?=some x->acc.length=i->L (m+1) acc i=L m (acc++[f x]) ((i+1:Nat):Int)) (e:∀m acc,L (m+1) acc a.length=X acc)
 {N:Nat} (g:a.length<N):L N [] 0=X (a.map f):=by
 have key:=bP (n:=a.length) (Q:=λm i=>∀acc,acc=(a.take i).map f->L m acc i=X (a.map f)) (λm acc b=>by
  simp_all) (λm i hi d acc b=>by
  rw [c m acc i a[i] (a6 hi) (by rw [b];simp;omega)];refine d _ ?_;rw [b,ir,a6 hi]
  grind)
 exact key 0 N (bG _) (by omega) [] (by simp)
theorem Fv {β:Type} (L:Nat->List β->Int->Option Z) (X:List β->Option Z) (n:Nat) (p:Nat->Bool) (f:Nat->β)
 (d:∀m acc (i:Nat),i<n->acc.length<=i->L (m+1) acc i=L m (if p i then acc++[f i] else acc) ((i+1:Nat):Int)) (c:∀m acc,L (m+1) acc n=X acc)
 {N:Nat} (g:n<N):L N [] 0=X (((List.range n).filter p).map f):=by
 have key:=bP (n:=n) (Q:=λm i=>∀acc,acc=((List.range i).filter p).map f->L m acc i=X (((List.range n).filter p).map f)) (λm acc b=>by
  rw [c,b]) (λm i hi e acc b=>by
  rw [d m acc i hi (by grind)];refine e _ ?_;rw [b,gQ,iR,fH]
  grind)
 grind
theorem km (L:Nat->Int->Option Z) (b c:Option Z) (n:Nat) (p:Nat->Bool) (e:∀m (i:Nat),i<n->L (m+1) i=if p i then L m ((i+1:Nat):Int) else b) (d:∀m,L (m+1) n=c)
 {N:Nat} (f:n<N):L N 0=if (List.range n).all p then c else b:=by
 have key:=bP (n:=n) (Q:=λm i=>L m i=if (List.range' i (n-i)).all p then c else b) (λm=>by simp [d]) (λm i hi g=>by
  grind)
 have:=key 0 N (bG _) (by omega);simp_all
theorem EZ (L:Nat->Int->Option Z) (c d:Option Z) (b n:Nat) (p:Nat->Bool) (f:∀m (i:Nat),b<=i->i<n->L (m+1) i=if p i then L m ((i+1:Nat):Int) else c) (e:∀m,L (m+1) n=d)
 {N:Nat} (hi:b<=n) (g:n<N):L N b=if (List.range' b (n-b)).all p then d else c:=by
 have key:=bP (n:=n) (Q:=λm i=>b<=i->L m i=if (List.range' i (n-i)).all p then d else c) (λm _=>by simp [e]) (λm i hi j h=>by
  grind)
 grind
theorem Fy {Y:Type} (L:Nat->Y->Int->Option Z) (X:Y->Option Z) (a:List α) (f:Y->α->Y) (I:Nat->Y->Prop)
 (e:∀m s (i:Nat) x,a[i]?=some x->I i s->L (m+1) s i=L m (f s x) ((i+1:Nat):Int)/\I (i+1) (f s x)) (h:∀m s,I a.length s->L (m+1) s a.length=X s)
 {N:Nat} {s:Y} (b:I 0 s) (j:a.length<N):L N s 0=X (a.foldl f s)/\I a.length (a.foldl f s):=by
 have key:=bP (n:=a.length) (Q:=λm i=>∀s,I i s->L m s i=X ((a.drop i).foldl f s)/\I a.length ((a.drop i).foldl f s)) (λm s b=>by
  simp_all) (λm i hi g s b=>by
  obtain ⟨c,d⟩:=e m s i a[i] (a6 hi) b;rw [c,jO hi];exact g _ d)
 exact key 0 N (bG _) (by omega) s b
end
theorem aD {p:Prop} [Decidable p] {α:Type} {a b:α} (h:¬p):cond (decide p) a b=b:=by rw [bM h];rfl
theorem aH {p:Prop} [Decidable p] {α:Type} {a b:α} (h:p):cond (decide p) a b=a:=by rw [bl h];rfl
structure eX (m:M) (g:G):Prop where
 mm:eO m.mem
 len:m.ah.length=4
 rp:fu m.mem m.ah g
 lt:∀x f,x<84->g.tb x=some f->f<m.mem.length
 inj:∀x y f,x<84->y<84->g.tb x=some f->g.tb y=some f->x=y
theorem eX.of {m:M} {g:G} {z:Nat} (h:ao m g z):eX m g:=⟨h.mm,h.sp.len,h.rp,λx f c b=>h.tx.lt h.sn c b,h.tx.inj⟩
structure cc (m:M) (g:G):Prop extends eX m g where
 ok:∀y,y<256->(g.en y).ok
theorem ao.oT {m:M} {g:G} {z:Nat} (h:ao m g z) {y:Nat} (c:y<256):(g.en y).ok:=by
 cases b:g.en y with
 |no=>trivial
 |pg f w r=>
  have:=h.sn.lt (f:=f) (by rw [(h.eo.pg y c f w r b).1];decide);have:=h.mm.hi;show f<32;omega
 |sl i=>
  have:=(h.eo.sl y c i b).1;have:=h.sl.len;show i<16;omega
theorem cc.of {m:M} {g:G} {z:Nat} (h:ao m g z):cc m g:=⟨eX.of h,λy b=>h.oT b⟩
def bN (e:E) (f:Nat):Bool:=match e with
 | .pg g _ _=>g==f
 |_=>false
theorem eS {e:E} {f:Nat}:bN e f=true↔∃w r,e=.pg f w r:=by
 cases e with
 |no=>simp [bN]
 |pg g w r=>simp only [bN,jR,E.pg.injEq];simp_all
 |sl i=>simp [bN]
def maps (en:Nat->E) (f:Nat):List Nat:=(List.range 256).filter λy=>bN (en y) f
def yI (y:Nat):List Int:=[((y/64:Nat):Int),((y%64:Nat):Int)]
theorem eX.gW {m:M} {g:G} (h:eX m g) {s p:Nat} (j:s<4) (n:p<64) (e:(aA m.ah s).2.1= -1):g.en (64*s+p)=.no:=by
 have b:g.tb s=none:=by
  have:=h.rp.fs s j;rw [e] at this;cases d:g.tb s with
  |none=>rfl
  |some f=>rw [d] at this;simp only [tI] at this;omega
 have c:=h.rp.cW s (by omega) b (p/16) (by omega);have l:=h.rp.cW _ (by omega) c (p/4%4) (by omega);have:=h.rp.hG ((64*s+p)/4) (by omega) (by grind) (p%4) (by omega)
 grind
def ra (l:List Int):Prop:=l.length=4/\∀v∈l,0<=v/\v<=100000
structure qe (x:cT):Prop where
 lo:0<=x.1
 hi:x.1<=64
 zero:x.1=0->x.2.1=[]
 held:x.1≠0->ra x.2.1
def lV (l:List cT):Prop:=l.length<=16/\∀x∈l,qe x
theorem qe.len {x:cT} (h:qe x):x.2.1.length<=4:=by
 by_cases c:x.1=0;rw [h.zero c];simp;rw [(h.held c).1];omega
theorem lV.set {l:List cT} (h:lV l) {i:Nat} {x:cT} (c:qe x):lV (l.set i x):=by
 refine ⟨by simpa using h.1,λy b=>?_⟩;rcases nO b with b|rfl
 exact h.2 y b;exact c
def aht (c:Nat):((List.range 256).filter λy=>y%64==c).length<=4:=by
 by_cases h:c<64;revert h;revert c;decide+kernel;rw [List.filter_eq_nil_iff.2];simp
 grind
theorem VO {p:Nat->Bool} (h:∀y z,y<256->z<256->p y=true->p z=true->y%64=z%64):((List.range 256).filter p).length<=4:=by
 cases b:(List.range 256).filter p with
 |nil=>simp
 |cons y l=>
  have c:y∈(List.range 256).filter p:=by simp_all
  simp only [gC,g6] at c;rw [<-b];have:(List.range 256).filter p=((List.range 256).filter λz=>z%64==y%64).filter p:=by
   rw [List.filter_filter];apply vf;intro z d;rw [g6] at d;cases e:p z;simp
   grind
  rw [this];exact Nat.le_trans (kb _ _) (aht _)
theorem Me {en:Nat->E} (h:jT en) (i:Nat):cJ en i<=4:=by
 unfold cJ;exact VO (λy z d e b c=>h.sl y z i d e (by simpa using b) (by simpa using c))
theorem WT {en:Nat->E} (h:jT en) (f:Nat):(maps en f).length<=4:=by
 unfold maps;refine VO (λy z d e b c=>?_);obtain ⟨w,r,b⟩:=eS.1 b;obtain ⟨w',g,c⟩:=eS.1 c;exact (h.pg y z f w r w' g d e b c).1
theorem q0 {l:List cT} {en:Nat->E} (h:jk l en) (c:jT en):lV l:=by
 refine ⟨h.len,λx b=>?_⟩;obtain ⟨i,hi⟩:=nN.1 b;have:=h.cJ i x hi;have:=Me c i;exact ⟨by omega,by omega,h.zero x b,h.held x b⟩
structure Re (m:M) (g:G) (mem':List (List Int)) (en':Nat->E):Prop where
 bp:cc {m with mem:=mem'} ⟨g.tb,en'⟩
 len:mem'.length=m.mem.length
 off:∀f,(∀x,x<84->g.tb x≠some f)->row mem' f=row m.mem f
theorem Re.refl {m:M} {g:G} (h:cc m g):Re m g m.mem g.en:=⟨h,rfl,λ_ _=>rfl⟩
def E.arq {e:E} (h:e.ok):e.w<=100000:=by
 cases e with
 |no=>decide
 |pg f w r=>have h:f<32:=h;simp only [E.w];omega
 |sl i=>have h:i<16:=h;simp only [E.w];omega
def E.ars {e:E}:0<=e.w:=by
 cases e with
 |no=>decide
 |pg f w r=>simp only [E.w];omega
 |sl i=>simp only [E.w];omega
theorem Re.set {m:M} {g:G} {mem':List (List Int)} {en':Nat->E} (h:Re m g mem' en') {y q:Nat} {e:E} (r:y<256) (l:g.tb (20+y/4)=some q) (j:e.ok):
 Re m g (cz mem' q (y%4) e.w) (bB en' y e):=by
 have b:q<mem'.length:=h.bp.lt _ q (by omega) l;have n:=h.bp.mm.row b;refine ⟨⟨⟨h.bp.mm.cz b ⟨E.ars,E.arq j⟩,h.bp.len,h.bp.rp.set h.bp.inj r l b n.1,λx f o d=>?_,h.bp.inj⟩,λz u=>?_⟩,by rw [jy];exact h.len,λf d=>?_⟩;rw [jy];exact h.bp.lt x f o d;by_cases c:z=y;subst c;simpa using j;simp only [bh c];exact h.bp.ok z u;have:f≠q:=by grind
 rw [<-h.off f d];unfold cz;rw [lr b,av this]
theorem Re.congr {m:M} {g:G} {mem':List (List Int)} {d b:Nat->E} (h:Re m g mem' d) (j:∀y,y<256->d y=b y):Re m g mem' b:=by
 refine ⟨⟨⟨h.bp.mm,h.bp.len,⟨h.bp.rp.fs,h.bp.rp.c8,λq c k hk f l=>?_,h.bp.rp.cW,λq c n k hk=>?_⟩,h.bp.lt,h.bp.inj⟩,λy e=>?_⟩,h.len,h.off⟩;have:=h.bp.rp.leaf q c k hk f l
 grind
 have:=h.bp.rp.hG q c n k hk
 grind
 show (b y).ok;rw [<-j y e];exact h.bp.ok y e
def E.dr:E->E
 | .pg f w _=>.pg f w false
 |e=>e
def E.ref:E->Bool
 | .pg _ _ r=>r
 |_=>false
def cq (en:Nat->E) (f:Nat):Nat->E:=λy=>if bN (en y) f then (en y).dr else en y
def fw (en:Nat->E) (f:Nat):Bool:=(maps en f).any λy=>(en y).ref
def cM (e b:E):Prop:=match e with
 | .no=>b=.no
 | .sl i=>b=.sl i
 | .pg f w _=>∃w' c,b=.pg f w' c/\(w'=true->w=true)
theorem o4 (e:E):cM e e:=by
 cases e with
 |no=>rfl
 |sl i=>rfl
 |pg f w r=>exact ⟨w,r,rfl,id⟩
def FQ {e:E} {f:Nat} {w r:Bool} (h:cM e (.pg f w r)):∃w' c,e=.pg f w' c/\(w=true->w'=true):=by
 cases e with
 |no=>cases h
 |sl i=>cases h
 |pg g a b=>
  obtain ⟨w',c,d,j⟩:=h;simp_all
def aix {e:E} {i:Nat}:cM e (.sl i)->e=.sl i:=by
 intro h;cases e with
 |no=>cases h
 |sl j=>cases h;rfl
 |pg g a b=>obtain ⟨w',f,c,d⟩:=h;cases c
def Wv {e c:E} (h:cM e c) (d:e≠ .no):c≠ .no:=by
 cases e with
 |no=>exact absurd rfl d
 |sl j=>cases h;omega
 |pg g a b=>obtain ⟨w',n,f,l⟩:=h;simp_all
theorem aiv (e:E):cM e e.dr:=by
 cases e with
 |no=>rfl
 |sl i=>rfl
 |pg f w r=>exact ⟨w,false,rfl,id⟩
theorem qE (en:Nat->E) (f y:Nat):cM (en y) (cq en f y):=by
 unfold cq;split;exact aiv _;exact o4 _
theorem Md {en en':Nat->E} {i j:Nat} (h:∀y,y<256->(en y=.sl i↔en' y=.sl j)):cJ en i=cJ en' j:=by
 unfold cJ;congr 1;apply vf;simp_all
theorem yj {en:Nat->E} {i:Nat} (h:cJ en i=0) {y:Nat} (b:y<256):en y≠ .sl i:=by
 intro e;have:y∈(List.range 256).filter λy=>en y=.sl i:=by simp [b,e]
 have:=zC this;unfold cJ at h;omega
def fe.dx {n b:Nat} {st st':List Int} {d:List ch} {ob:List bW} {c:Int} (h:fe n st d ob c) (j:b=n) (e:∀f,ar st' f=2↔ar st f=2) (g:∀f,ar st' f=3↔ar st f=3):fe b st' d ob c:=by
 subst j;exact {h with hR:=λf=>(e f).trans (h.hR f),iY:=λf=>(h.iY f).trans (g f).symm}
theorem ao.re {m:M} {g:G} {z:Nat} (h:ao m g z) {mem':List (List Int)} {en':Nat->E} (u:Re m g mem' en') (q:∀y,y<256->cM (g.en y) (en' y)):ao {m with mem:=mem'} ⟨g.tb,en'⟩ z:=by
 have pg:∀y,y<256->∀f w r,en' y=.pg f w r->∃w' l,g.en y=.pg f w' l/\(w=true->w'=true):=λy d f w r e=>FQ (by rw [<-e];exact q y d)
 have sl:∀y,y<256->∀i,g.en y=.sl i↔en' y=.sl i:=λy d i=>⟨λe=>by have:=q y d;rw [e] at this;exact this,λe=>aix (by grind)⟩
 refine ⟨u.bp.mm,?_,h.fr,?_,h.sp,u.bp.rp,h.tx,h.nz.dX λy d I=>Wv (q y d) I,⟨λy d f w r e=>?_,λy d i e=>?_⟩,⟨h.sl.len,λi x J=>?_,h.sl.zero,h.sl.held⟩,⟨λy z f w r w' l d n j o=>?_,λy z i d n j o=>?_⟩,h.ls,λf D=>?_⟩;show eW mem'.length m.st;rw [u.len];exact h.sn;exact h.kr.dx u.len (λ_=>gy) (λ_=>gy);obtain ⟨w',l,j,o⟩:=pg y d f w r e;obtain ⟨a,b,c⟩:=h.eo.pg y d f w' l j;simp_all;exact h.eo.sl y d i ((sl y d i).2 e);show x.1=(cJ en' i:Int);rw [h.sl.cJ i x J,Md (sl · · i)];obtain ⟨a,b,C,h4⟩:=pg y d f w r j;obtain ⟨a',v,h5,h6⟩:=pg z n f w' l o;obtain ⟨K,h8⟩:=h.pg.pg y z f a b a' v d n C h5
 grind
 exact h.pg.sl y z i d n ((sl y d i).2 j) ((sl z n i).2 o);obtain ⟨y,w,r,d,e⟩:=h.mp f D;have:=q y d;rw [e] at this;obtain ⟨w',l,j,_⟩:=this
 grind
theorem eW.set {n:Nat} {st:List Int} (h:eW n st) {f:Nat} {v:Int} (j:2<=f) (d:f<n) (l:0<=v) (h5:v<=5) (e:v≠1):eW n (st.set f v):=by
 refine ⟨by simpa using h.len,λg b=>?_⟩;rw [fV (by rw [h.len];exact d)];by_cases c:g=f;omega;rw [av c];exact h.val g b
theorem eW.ik {n:Nat} {st:List Int} (h:eW n st) {f:Nat} (h9:ar st f≠9) (b:ar st f≠1):2<=f:=by
 have:=(h.val f (h.lt h9)).2.2;omega
def ao.ag3 {m:M} {g:G} {z f aP:Nat} {x:cT} {mem':List (List Int)} {en':Nat->E} {a i:List Int} (h:ao m g z) (ah:ar m.st f=5) (af:m.aw[aP]?=some x) (am:x.1=0)
 (X:Re m g mem' en') (K:∀y,y<256->en' y=if bN (g.en y) f then .sl aP else g.en y) (ak:(a++i).Nodup) (aj:∀v,v∈a++i↔v∈m.aF++m.ba/\v≠(f:Int)):
 ao {m with mem:=mem',st:=m.st.set f 0,bD:=dO (m.st.set f 0),aw:=m.aw.set aP (((maps g.en f).length:Int),row m.mem f,()),aF:=a,ba:=i} ⟨g.tb,en'⟩ z:=by
 have U:=h.sn.lt (f:=f) (by omega);have ai:=h.sn.ik (f:=f) (by omega) (by omega);have ac:f<m.st.length:=by rw [h.sn.len];exact U
 have ab:=(b4.1 af).1;have ag:cJ g.en aP=0:=by have:=h.sl.cJ aP x af;omega
 have pg:∀y,y<256->∀k w r,en' y=.pg k w r->g.en y=.pg k w r/\k≠f:=by
  intro y d k w r l;rw [K y d] at l;split at l;cases l;rename_i ae;refine ⟨l,?_⟩;rintro rfl;exact ae (eS.2 ⟨w,r,l⟩)
 have sl:∀y,y<256->∀j,en' y=.sl j->j=aP/\bN (g.en y) f=true\/j≠aP/\g.en y=.sl j:=by
  intro y d j l;rw [K y d] at l;split at l;simp_all;refine .inr ⟨?_,l⟩;rintro rfl;exact yj ag d l
 have al:∀k,k≠f->ar (m.st.set f 0) k=ar m.st k:=λk hk=>by rw [fV ac,av hk]
 have an:ar (m.st.set f 0) f=0:=by rw [fV ac,aE rfl]
 have aa:∀k v,v≠0->v≠5->(ar (m.st.set f 0) k=v↔ar m.st k=v):=by
  grind
 have ad:mem'.length=m.mem.length:=X.len;refine ⟨X.bp.mm,?_,rfl,h.kr.dx ad (λk=>aa k 2 (by omega) (by omega)) (λk=>aa k 3 (by omega) (by omega)),h.sp,X.bp.rp,h.tx.dx λk=>aa k 4 (by omega) (by omega),h.nz.dX λy d ae=>?_,⟨λy d k w r l=>?_,λy d j l=>?_⟩,⟨?_,λj v o=>?_,λv u n=>?_,λv u n=>?_⟩,⟨λy z k w r w' J d C n D=>?_,λy z j d C n D=>?_⟩,⟨ak,λv=>?_⟩,λk hk=>?_⟩;show eW mem'.length _;rw [ad];exact h.sn.set ai U (by omega) (by omega) (by omega)
 grind
 obtain ⟨n,D⟩:=pg y d k w r l;obtain ⟨a,b,c⟩:=h.eo.pg y d k w r n
 grind
 show j<(m.aw.set aP _).length/\_;rw [hs];rcases sl y d j l with ⟨rfl,q⟩|⟨_,n⟩
 obtain ⟨w,r,q⟩:=eS.1 q;exact ⟨ab,(h.eo.pg y d f w r q).2.1⟩;exact h.eo.sl y d j n;show (m.aw.set aP _).length<=16;rw [hs];exact h.sl.len;show v.1=(cJ en' j:Int);have o:(m.aw.set aP (((maps g.en f).length:Int),row m.mem f,()))[j]?=some v:=o;rw [pv] at o;by_cases c:aP=j;subst c;rw [aE rfl,aE ab] at o;cases o;show ((maps g.en f).length:Int)=_;congr 1;unfold maps cJ;congr 1;apply vf
 grind
 rw [av c] at o;rw [h.sl.cJ j v o,Md λy d=>?_];rw [K y d];constructor;intro e;rw [e];rfl
 grind
 rcases nO u with u|rfl
 exact h.sl.zero v u n;obtain ⟨y,w,r,d,l⟩:=h.mp f ah;have:y∈maps g.en f:=by unfold maps;grind
 grind
 rcases nO u with u|rfl
 exact h.sl.held v u n;exact h.mm.row U;obtain ⟨O,_⟩:=pg y d k w r n;obtain ⟨h4,_⟩:=pg z C k w' J D;exact h.pg.pg y z k w r w' J d C O h4;rcases sl y d j n with ⟨rfl,q⟩|⟨I,O⟩
 rcases sl z C j D with ⟨_,W⟩|⟨I,_⟩
 obtain ⟨w,r,q⟩:=eS.1 q;obtain ⟨w',J,W⟩:=eS.1 W;exact (h.pg.pg y z f w r w' J d C q W).1;exact absurd rfl I;rcases sl z C j D with ⟨rfl,_⟩|⟨_,h4⟩
 exact absurd rfl I;exact h.pg.sl y z j d C O h4;show v∈a++i↔_;rw [aj v,h.ls.mem v]
 grind
 have hk:ar (m.st.set f 0) k=5:=hk;have I:k≠f:=by grind
 rw [al k I] at hk;obtain ⟨y,w,r,d,l⟩:=h.mp k hk;refine ⟨y,w,r,d,?_⟩;show en' y=_;rw [K y d,av,l];intro c;obtain ⟨w',J,c⟩:=eS.1 c
 grind
def cd (m:M) (f:Nat) (v:Int):M:={m with mem:=m.mem.set f [0,0,0,0],st:=m.st.set f v,bD:=dO (m.st.set f v)}
theorem aa7 {m:M} {f:Nat} {v:Int} (b:f<m.mem.length) (k:Nat):bV (cd m f v).mem f k=0:=by
 unfold cd bV;simp only;rw [lr b,aE rfl]
 grind
theorem apF {m:M} {f k:Nat} {v:Int} {j:Nat} (h:k≠f):bV (cd m f v).mem k j=bV m.mem k j:=zx h
theorem G3 {m:M} {g:G} (h:cc m g) {f:Nat} {v:Int} (c:∀x,x<84->g.tb x≠some f):cc (cd m f v) g:=by
 refine ⟨⟨h.mm.set ⟨rfl,by simp⟩,h.len,h.rp.off λx k b hk j d=>apF (by grind),λx k b hk=>?_,h.inj⟩,h.ok⟩;show k<(m.mem.set f _).length;rw [hs];exact h.lt x k b hk
theorem e6 {st:List Int} {f:Nat} {u v:Int} (b:f<st.length) (e:ar st f=u) {k:Nat} {w:Int} (c:w≠u) (d:w≠v):ar (st.set f v) k=w↔ar st k=w:=by
 rw [fV b]
 grind
def ao.aa4 {m:M} {g:G} {z f:Nat} (h:ao m g z) (l:ar m.st f=0) {y:Nat} (n:y<84) (I:g.tb y=none) {mem':List (List Int)} {sp':List dp} {x:Nat}
 (D:eO mem') (u:mem'.length=m.mem.length) (U:KE sp') (K:∀s,bc sp' s=bc m.ah s) (O:fu mem' sp' ⟨bB g.tb y (some f),g.en⟩) (J:NZ (bB g.tb y (some f)) g.en x):
 ao {cd m f 4 with mem:=mem',ah:=sp'} ⟨bB g.tb y (some f),g.en⟩ x:=by
 have q:=h.sn.lt (f:=f) (by omega);have C:=h.sn.ik (f:=f) (by omega) (by omega);have d:f<m.st.length:=by rw [h.sn.len];exact q
 refine ⟨D,?_,rfl,h.kr.dx u (λk=>e6 d l (by omega) (by omega)) (λk=>e6 d l (by omega) (by omega)),U,O,h.tx.add n I (by omega) d,J,⟨λy n k w r o=>?_,λy n j o=>?_⟩,h.sl,h.pg,⟨h.ls.b5,λv=>?_⟩,λk hk=>?_⟩;show eW mem'.length _;rw [u];exact h.sn.set C q (by omega) (by omega) (by omega);obtain ⟨a,b,c⟩:=h.eo.pg y n k w r o;refine ⟨(e6 d l (by omega) (by omega)).2 a,?_⟩;simp_all;show _/\0<bw (bc sp' _) _;rw [K];exact h.eo.sl y n j o;show v∈m.aF++m.ba↔_;rw [h.ls.mem v];constructor;rintro ⟨k,e,hk⟩;exact ⟨k,e,(e6 d l (by omega) (by omega)).2 hk⟩;rintro ⟨k,e,hk⟩;exact ⟨k,e,(e6 d l (by omega) (by omega)).1 hk⟩;exact h.mp k ((e6 d l (by omega) (by omega)).1 hk)
theorem ao.i2 {m:M} {g:G} {z f:Nat} (h:ao m g z) (b:ar m.st f≠4):∀x,x<84->g.tb x≠some f:=λx c e=>b ((h.tx.fZ f).2 ⟨x,c,e⟩)
def ao.yC {m:M} {g:G} {z f x k p:Nat} (h:ao m g z) (o:ar m.st f=0) (n:x<20) (hk:k<4) (l:g.tb x=some p) (d:g.tb (4*x+4+k)=none) (r:z=84\/z=x):
 ao {cd m f 4 with mem:=cz (cd m f 4).mem p k ((f:Int)+1)} ⟨bB g.tb (4*x+4+k) (some f),g.en⟩ (4*x+4+k):=by
 have q:=h.sn.lt (f:=f) (by omega);have e:=h.i2 (f:=f) (by omega);have b:=G3 (v:=4) (cc.of h) e;have c:p<(cd m f 4).mem.length:=b.lt x p (by omega) l;have u:=h.mm.hi;refine h.aa4 (sp':=m.ah) o (by omega) d (b.mm.cz c ⟨by omega,by omega⟩) ?_ h.sp (λ_=>rfl) ?_ (h.nz.yC r n hk);rw [jy];simp [cd];exact b.rp.yC b.inj n hk l d e (λj _=>aa7 q j) c (b.mm.row c).1
theorem ao.yD {m:M} {g:G} {f s:Nat} (h:ao m g 84) (r:ar m.st f=0) (e:s<4) (o:g.tb s=none) (z:(aA m.ah s).1=true):
 ao {cd m f 4 with ah:=m.ah.set s ((aA m.ah s).1,(f:Int),(aA m.ah s).2.2)} ⟨bB g.tb s (some f),g.en⟩ s:=by
 have u:=h.sn.lt (f:=f) (by omega);have x:=h.i2 (f:=f) (by omega);have n:=G3 (v:=4) (cc.of h) x;have y:s<m.ah.length:=by rw [h.sp.len];exact e
 have q:∀t,aA (m.ah.set s ((aA m.ah s).1,(f:Int),(aA m.ah s).2.2)) t=if t=s then ((aA m.ah s).1,(f:Int),(aA m.ah s).2.2) else aA m.ah t:=λt=>j7 y
 have d:∀t,bc (m.ah.set s ((aA m.ah s).1,(f:Int),(aA m.ah s).2.2)) t=bc m.ah t:=by
  intro t;unfold bc
  grind
 refine h.aa4 r (by omega) o n.mm (by simp [cd]) ⟨by rw [hs];exact h.sp.len,λt l=>by rw [d];exact h.sp.g1 t l,λt l b=>?_⟩ d ?_ (h.nz.yD e);rw [q] at b|-;rw [d];split at b;simp_all;rename_i c;rw [av c];exact h.sp.gW t l b;refine n.rp.yD e o (λj _=>aa7 u j) (λt _=>?_);rw [q];split<;>rfl
theorem o0 (en:Nat->E) (f y k:Nat):bN (cq en f y) k=bN (en y) k:=by
 unfold cq;split;cases en y<;>rfl
 rfl
theorem Nf (en:Nat->E) (f k:Nat):maps (cq en f) k=maps en k:=by
 unfold maps;apply vf;intro y _;exact o0 en f y k
theorem X9 {en:Nat->E} {f y:Nat} (h:(cq en f y).ref=true):(en y).ref=true/\bN (en y) f=false:=by
 unfold cq at h;split at h;cases b:en y<;>rw [b] at h<;>cases h
 simp_all
def N3 {en:Nat->E} {f:Nat}:fw en f=true↔∃y,y<256/\bN (en y) f=true/\(en y).ref=true:=by
 unfold fw maps;simp_all
def aly (en:Nat->E) (f:Nat):fw (cq en f) f=false:=by
 rw [rf];intro h;obtain ⟨y,_,b,c⟩:=N3.1 h;rw [o0,(X9 c).2] at b;cases b
def alx {en:Nat->E} {f:Nat} (g:Nat) (h:fw en f=false):fw (cq en g) f=false:=by
 rw [rf] at*;intro c;obtain ⟨y,e,b,d⟩:=N3.1 c;rw [o0] at b;exact h (N3.2 ⟨y,e,b,(X9 d).1⟩)
def hc (en:Nat->E) (a:List Int):Nat->E:=a.foldl (λen f=>cq en f.toNat) en
def agi:∀(a:List Int) (en:Nat->E) (f:Nat),fw en f=false->fw (hc en a) f=false:=by
 intro a
 induction a with
 |nil=>intro en f h;exact h
 |cons x a b=>intro en f h;exact b _ f (alx _ h)
theorem agj:∀(a:List Int) (en:Nat->E) (x:Int),x∈a->fw (hc en a) x.toNat=false:=by
 intro a
 induction a with
 |nil=>intro en f h;cases h
 |cons y a b=>
  intro en x h;rcases eN.1 h with rfl|h
  exact agi a _ _ (aly _ _);exact b _ x h
def ui {a b c:E} (d:cM a b) (e:cM b c):cM a c:=by
 cases a with
 |no=>cases d;exact e
 |sl i=>cases d;exact e
 |pg f w r=>
  obtain ⟨w',l,rfl,g⟩:=d;obtain ⟨w2,j,rfl,h4⟩:=e;exact ⟨w2,j,rfl,λh=>g (h4 h)⟩
def Wu:∀(a:List Int) (en:Nat->E) (y:Nat),cM (en y) (hc en a y):=by
 intro a
 induction a with
 |nil=>intro en y;exact o4 _
 |cons x a b=>intro en y;exact ui (qE en x.toNat y) (b _ y)
def i1:Nat->(Nat->E)->List Int->List Int->Option (Nat×(Nat->E)×List Int×List Int)
 |0,_,_,_=>none
 |n+1,en,a,[]=>match a with
  |[]=>none
  |f::r=>if fw (hc en a) f.toNat then i1 n (cq (hc en a) f.toNat) [f] r else some (f.toNat,cq (hc en a) f.toNat,[],r)
 |n+1,en,a,f::r=>if fw en f.toNat then i1 n (cq en f.toNat) (a++[f]) r else some (f.toNat,cq en f.toNat,a,r)
def agY:∀(n:Nat) (en:Nat->E) (a i:List Int),i.length+1<n->a++i≠[]->∃r,i1 n en a i=some r:=by
 intro n
 induction n with
 |zero=>intro en a i h;omega
 |succ n c=>
  intro en a i h b;cases i with
  |nil=>
   unfold i1;cases a with
   |nil=>exact absurd rfl b
   |cons f r=>
    simp only;rw [agj (f::r) en f (nM ..)];exact ⟨_,rfl⟩
  |cons f r=>
   unfold i1;split;simp_all;exact ⟨_,rfl⟩
def yo {m:M} {g:G} {z:Nat} (h:ao m g z):∀s,s<4->(aA m.ah s).1=false->(aA m.ah s).2.1= -1:=λs c b=>(h.sp.gW s c b).1
theorem ao.fC {m:M} {g:G} {z:Nat} (h:ao m g z):m.st.length<=32/\m.mem.length<=32:=⟨by rw [h.sn.len];exact h.mm.hi,h.mm.hi⟩
def uy:∀(l:List Int) (n:Nat),l.Nodup->(∀x∈l,0<=x/\x<n)->l.length<=n:=by
 intro l n
 induction n generalizing l with
 |zero=>
  intro _ h;cases l with
  |nil=>simp
  |cons a l=>have:=h a (nM ..);omega
 |succ n d=>
  intro b h;have e:=d (l.filter λx=>x !=(n:Int)) (nK _ b) (λx j=>by
   grind)
  have f:l.length<=(l.filter λx=>x !=(n:Int)).length+1:=by
   clear d h e
   induction l with
   |nil=>simp
   |cons a l o=>
    obtain ⟨g,h4⟩:=jP.1 b;by_cases c:a=(n:Int);have:(l.filter λx=>x !=(n:Int))=l:=by
     rw [List.filter_eq_self]
     grind
    grind
    simp_all
  omega
theorem kw {m:M} {g:G} {z:Nat} (h:ao m g z):(m.aF++m.ba).length<=32:=by
 refine Nat.le_trans (uy _ m.mem.length h.ls.b5 λx b=>?_) h.mm.hi;obtain ⟨f,rfl,c⟩:=(h.ls.mem x).1 b;have:=h.sn.lt (f:=f) (by omega);omega
theorem cc.lc {m:M} {g:G} (h:cc m g) (a i:List Int):cc {m with aF:=a,ba:=i} g:=⟨⟨h.mm,h.len,h.rp,h.lt,h.inj⟩,h.ok⟩
theorem ao.lc {m:M} {g:G} {z:Nat} (h:ao m g z) {a i:List Int} (b:(a++i).Nodup) (c:∀v,v∈a++i↔v∈m.aF++m.ba):ao {m with aF:=a,ba:=i} g z:=
 ⟨h.mm,h.sn,h.fr,h.kr,h.sp,h.rp,h.tx,h.nz,h.eo,h.sl,h.pg,⟨b,λv=>(c v).trans (h.ls.mem v)⟩,h.mp⟩
theorem Re.trans {m:M} {g:G} {j l:List (List Int)} {c d:Nat->E} (e:Re m g j c) (b:Re {m with mem:=j} ⟨g.tb,c⟩ l d):Re m g l d:=
 ⟨⟨⟨b.bp.mm,b.bp.len,b.bp.rp,b.bp.lt,b.bp.inj⟩,b.bp.ok⟩,b.len.trans e.len,λf h=>(b.off f h).trans (e.off f h)⟩
theorem Re.lc {m:M} {g:G} {c:List (List Int)} {b:Nat->E} {a i:List Int} (h:Re {m with aF:=a,ba:=i} g c b):Re m g c b:=
 ⟨⟨⟨h.bp.mm,h.bp.len,h.bp.rp,h.bp.lt,h.bp.inj⟩,h.bp.ok⟩,h.len,h.off⟩
def Vp {a:List Int} {i:Nat} (hi:i<a.length) (en:Nat->E):cq (hc en (a.take i)) a[i].toNat=hc en (a.take (i+1)):=by
 rw [ir,a6 hi];unfold hc
 grind
structure oE (n:Nat) (l:List c4):Prop where
 nn:8<=n/\n<=32/\n%8=0
 len:l.length<=n
 b1:∀r∈l,∃a k:Nat,r=((a:Int),(k:Int),())/\k<=3/\a%2^k=0/\a+2^k<=n
 chain:chain l
def dR (m:M) (f:Nat):M:={m with st:=m.st.set f 0,bD:=dO (m.st.set f 0)}
def cD (st:List Int) (v:Int):List Int:=((List.range st.length).filter λf=>ar st f==v).map λf:Nat=>(f:Int)
theorem fD {st:List Int} {v:Int} (h9:v≠9) (f:Nat):(f:Int)∈cD st v↔ar st f=v:=by
 unfold cD;simp only [dm,gC,g6,jR];constructor
 grind
 intro h;refine ⟨f,⟨?_,h⟩,rfl⟩;apply im;intro c;apply h9;rw [<-h];simp [ar,kM (by omega:st.length<=f)]
theorem qz (st:List Int) (v:Int):(cD st v).length<=st.length:=by
 unfold cD
 grind
def ahx {st:List Int} {n:Nat} (b:8<=n/\n<=32/\n%8=0) (c:st.length=n):oE n (dO st):=by
 unfold dO ho;rw [c];exact ⟨b,Nat.le_trans (al2 _ _) (by omega),λr d=>by
  obtain ⟨a,k,e,f,g,h4,_⟩:=(Yp b.2.2 _ _ r d).1
  grind,alZ _ _⟩
def ahw {st:List Int} (b:st.length%8=0):(dO st).flatMap cK=cD st 0:=by
 unfold dO ho cD;rw [al0 b _ _ (by omega),Nat.sub_zero,<-List.range_eq_range']
theorem ao.bL {m:M} {g:G} {z:Nat} (h:ao m g z):oE m.mem.length m.bD:=by
 rw [h.fr];exact ahx ⟨h.mm.lo,h.mm.hi,h.mm.m8⟩ h.sn.len
theorem ao.aY {m:M} {g:G} {z:Nat} (h:ao m g z):m.bD.flatMap cK=cD m.st 0:=by
 rw [h.fr];exact ahw (by rw [h.sn.len];exact h.mm.m8)
theorem ao.yt {m:M} {g:G} {z:Nat} (h:ao m g z):(m.bD.flatMap cK).length<=1000:=by
 rw [h.aY];have:=qz m.st 0;have:=h.fC.1;omega
theorem ao.run {m:M} {g:G} {z:Nat} (h:ao m g z) {r:c4} (b:r∈m.bD):∃a k:Nat,r=((a:Int),(k:Int),())/\k<=3/\a%2^k=0/\a+2^k<=m.mem.length/\∀i,i<2^k->ar m.st (a+i)=0:=by
 rw [h.fr] at b;obtain ⟨a,k,c,d,e,h4,h5⟩:=(Yp (by rw [h.sn.len];exact h.mm.m8) _ _ r b).1;exact ⟨a,k,c,d,e,by rw [<-h.sn.len];exact h4,λi hi=>by simpa using h5 i hi⟩
def ao.ahA {m:M} {g:G} {z f:Nat} (h:ao m g z) (b:ar m.st f=0):m.bD≠[]:=by
 intro e;have:=h.aY;rw [e] at this;have c:=(fD (st:=m.st) (v:=0) (by decide) f).2 b;simp_all
def cU (m:M) (e:E):List Int:=match e with
 | .no=>[0,0,0,0]
 | .pg f _ _=>row m.mem f
 | .sl i=>(m.aw.getD i (0,[],())).2.1
structure gg (m:M) (g:G) (b:M) (g':G):Prop where
 tb:g'.tb=g.tb
 ah:b.ah=m.ah
 aI:b.aI=m.aI
 aq:b.aq=m.aq
 next:b.next=m.next
 len:b.mem.length=m.mem.length
 jF:b.aw.length=m.aw.length
 st:∀k,ar b.st k=ar m.st k\/ar m.st k=5/\ar b.st k=0
 en:∀y,y<256->cM (g.en y) (g'.en y)\/∃f w r j,g.en y=.pg f w r/\g'.en y=.sl j/\ar b.st f=0
 off:∀k,(∀x,x<84->g.tb x≠some k)->row b.mem k=row m.mem k
 cU:∀y,y<256->cU b (g'.en y)=cU m (g.en y)
theorem gg.refl (m:M) (g:G):gg m g m g:=⟨rfl,rfl,rfl,rfl,rfl,rfl,rfl,λ_=>.inl rfl,λy _=>.inl (o4 _),λ_ _=>rfl,λ_ _=>rfl⟩
theorem gg.trans {m q u:M} {g v x:G} (h:gg m g q v) (d:gg q v u x):gg m g u x:=by
 have D:∀f,ar q.st f=0->ar u.st f=0:=λf z=>by
  rcases d.st f with e|⟨e,_⟩
  rw [e,z];omega
 refine ⟨d.tb.trans h.tb,d.ah.trans h.ah,d.aI.trans h.aI,d.aq.trans h.aq,d.next.trans h.next,d.len.trans h.len,d.jF.trans h.jF,λk=>?_,λy l=>?_,λk hk=>?_,λy l=>(d.cU y l).trans (h.cU y l)⟩;rcases h.st k with e|⟨J,K⟩
 rw [<-e];exact d.st k;simp_all;rcases h.en y l with o|⟨f,w,r,j,a,b,c⟩
 rcases d.en y l with n|⟨f,w,r,j,a,b,c⟩
 exact .inl (ui o n);rw [a] at o;obtain ⟨w',C,e,_⟩:=FQ o;simp_all;rcases d.en y l with n|⟨O,w',C,U,a',I,c'⟩
 rw [b] at n;exact .inr ⟨f,w,r,j,a,n,D f c⟩;simp_all;rw [d.off k (by rw [h.tb];exact hk),h.off k hk]
theorem VG {m:M} {tb:Nat->Option Nat} {en en':Nat->E} {z f aP:Nat} {x:cT} {mem':List (List Int)} {a' D:List Int} (h:ao m ⟨tb,en⟩ z) (O:ar m.st f=5) (n:m.aw[aP]?=some x) (I:x.1=0)
 {g:M} (b:g={m with mem:=mem',st:=m.st.set f 0,bD:=dO (m.st.set f 0),aw:=m.aw.set aP (((maps en f).length:Int),row m.mem f,()),aF:=a',ba:=D})
 (hi:ao g ⟨tb,λy=>if bN (en y) f then .sl aP else en' y⟩ z) (C:∀k,(∀x,x<84->tb x≠some k)->row mem' k=row m.mem k) (j:∀y,cM (en y) (en' y)):
 gg m ⟨tb,en⟩ g ⟨tb,λy=>if bN (en y) f then .sl aP else en' y⟩:=by
 have u:f<m.st.length:=by rw [h.sn.len];exact h.sn.lt (f:=f) (by omega)
 have o:=(b4.1 n).1;have q:cJ en aP=0:=by have:x.1=(cJ en aP:Int):=h.sl.cJ aP x n;omega
 have v:g.mem.length=m.mem.length:=by
  have J:=hi.sn.len;have K:=h.sn.len;simp_all
 have U:∀k,ar g.st k=if k=f then 0 else ar m.st k:=λk=>by rw [b];exact fV u
 refine ⟨rfl,by rw [b],by rw [b],by rw [b],by rw [b],v,by rw [b];simp,λk=>?_,λy l=>?_,λk hk=>by simp_all,λy l=>?_⟩
 grind
 by_cases c:bN (en y) f=true;obtain ⟨w,r,e⟩:=eS.1 c;simp_all;simp_all;by_cases c:bN (en y) f=true;obtain ⟨w,r,e⟩:=eS.1 c;simp only [aE c];simp only [cU,e,b];simp_all;simp only [av c];cases d:en y with
 |no=>
  have:=j y;rw [d] at this;have this:en' y=.no:=this;rw [this];rfl
 |sl i=>
  have:=j y;rw [d] at this;have this:en' y=.sl i:=this;rw [this];simp only [cU,b];rw [qw o,av];rintro rfl;exact yj q l d
 |pg k w r=>
  have:=j y;rw [d] at this;obtain ⟨w',W,e,_⟩:=this;rw [e];simp only [cU,b];apply C;have h5:=(h.eo.pg y l k w r d).1;exact h.i2 (by omega)
structure Sm (m:M) (g:G) (b:M) (g':G):Prop where
 bc:∀s,bc b.ah s=bc m.ah s
 g9:∀s,(aA b.ah s).1=(aA m.ah s).1
 aI:b.aI=m.aI
 aq:b.aq=m.aq
 next:b.next=m.next
 len:b.mem.length=m.mem.length
 jF:b.aw.length=m.aw.length
 OK:∀k,ar b.st k=5->ar m.st k=5
 dX:∀k v,1<=v->v<=4->ar m.st k=v->ar b.st k=v
 new:∀k v,1<=v->v<=3->ar b.st k=v->ar m.st k=v
 en:∀y,y<256->cM (g.en y) (g'.en y)\/∃f w r j,g.en y=.pg f w r/\g'.en y=.sl j/\ar b.st f≠5
 off:∀k,ar m.st k=2\/ar m.st k=3->row b.mem k=row m.mem k
 cU:∀y,y<256->cU b (g'.en y)=cU m (g.en y)
 q1:∀x,x<84->g.tb x≠none->g'.tb x=g.tb x
theorem Sm.refl (m:M) (g:G):Sm m g m g:=⟨λ_=>rfl,λ_=>rfl,rfl,rfl,rfl,rfl,rfl,λ_ h=>h,λ_ _ _ _ h=>h,λ_ _ _ _ h=>h,λy _=>.inl (o4 _),λ_ _=>rfl,λ_ _=>rfl,λ_ _ _=>rfl⟩
theorem Sm.trans {m q J:M} {g D I:G} (d:Sm m g q D) (l:Sm q D J I):Sm m g J I:=by
 refine ⟨λs=>(l.bc s).trans (d.bc s),λs=>(l.g9 s).trans (d.g9 s),l.aI.trans d.aI,l.aq.trans d.aq,l.next.trans d.next,l.len.trans d.len,l.jF.trans d.jF,λk h=>d.OK k (l.OK k h),λk v a b h=>l.dX k v a b (d.dX k v a b h),λk v a b h=>d.new k v a b (l.new k v a b h),λy n=>?_,λk hk=>?_,λy n=>(l.cU y n).trans (d.cU y n),λx z u=>?_⟩;rcases d.en y n with C|⟨f,w,r,j,a,b,c⟩
 rcases l.en y n with o|⟨f,w,r,j,a,b,c⟩
 exact .inl (ui C o);rw [a] at C;obtain ⟨w',K,e,_⟩:=FQ C;simp_all;rcases l.en y n with o|⟨U,w',K,W,a',O,c'⟩
 rw [b] at o;exact .inr ⟨f,w,r,j,a,o,λe=>c (l.OK f e)⟩;simp_all;have:ar q.st k=2\/ar q.st k=3:=hk.elim (λe=>.inl (d.dX k 2 (by omega) (by omega) e)) (λe=>.inr (d.dX k 3 (by omega) (by omega) e));rw [l.off k this,d.off k hk];rw [l.q1 x z (by rw [d.q1 x z u];exact u),d.q1 x z u]
theorem gg.sm {m n:M} {g g':G} {z:Nat} (h:gg m g n g') (hi:ao m g z):Sm m g n g':=by
 refine ⟨λs=>by rw [h.ah],λs=>by rw [h.ah],h.aI,h.aq,h.next,h.len,h.jF,λk hk=>?_,λk v a b hk=>?_,λk v a b hk=>?_,λy o=>?_,λk hk=>?_,h.cU,λx _ _=>by rw [h.tb]⟩;rcases h.st k with e|⟨e,d⟩<;>omega
 rcases h.st k with e|⟨e,d⟩<;>omega
 rcases h.st k with e|⟨e,d⟩<;>omega
 rcases h.en y o with l|⟨f,w,r,j,a,b,c⟩
 exact .inl l;simp_all;exact h.off k (hi.i2 (by omega))
def aa5 {m:M} {g:G} {z f y:Nat} (h:ao m g z) (C:ar m.st f=0) (n:g.tb y=none) {mem':List (List Int)} {sp':List dp} (l:mem'.length=m.mem.length)
 (o:∀s,bc sp' s=bc m.ah s) (d:∀s,(aA sp' s).1=(aA m.ah s).1) (c:∀k,k≠f->ar m.st k≠4->row mem' k=row m.mem k):
 Sm m g {cd m f 4 with mem:=mem',ah:=sp'} ⟨bB g.tb y (some f),g.en⟩:=by
 have j:f<m.st.length:=by rw [h.sn.len];exact h.sn.lt (f:=f) (by omega)
 have D:∀k,ar (m.st.set f 4) k=if k=f then 4 else ar m.st k:=λk=>fV j
 refine ⟨o,d,rfl,rfl,rfl,l,rfl,λk hk=>?_,λk v a b hk=>?_,λk v a b hk=>?_,λy _=>.inl (o4 _),λk hk=>c k (by rintro rfl;omega) (by omega),λy u=>?_,λx _ q=>bh (by rintro rfl;exact q n)⟩;have hk:ar (m.st.set f 4) k=5:=hk
 grind
 show ar (m.st.set f 4) k=v
 grind
 have hk:ar (m.st.set f 4) k=v:=hk
 grind
 show cU {cd m f 4 with mem:=mem',ah:=sp'} (g.en y)=_;cases e:g.en y with
 |no=>rfl
 |sl i=>rfl
 |pg k w r=>
  have h5:=(h.eo.pg y u k w r e).1;exact c k (by rintro rfl;omega) (by omega)
structure Sr (m:M) (g:G) (b:M) (g':G):Prop where
 bc:∀s,bc b.ah s=bc m.ah s
 g9:∀s,(aA b.ah s).1=(aA m.ah s).1
 aI:b.aI=m.aI
 aq:b.aq=m.aq
 next:b.next=m.next
 len:b.mem.length=m.mem.length
 jF:b.aw.length=m.aw.length
 ma:∀k v,v=2\/v=3->(ar b.st k=v↔ar m.st k=v)
 off:∀k,ar m.st k=2\/ar m.st k=3->row b.mem k=row m.mem k
 cU:∀y,y<256->cU b (g'.en y)=cU m (g.en y)
theorem Sm.sr {m b:M} {g g':G} (h:Sm m g b g'):Sr m g b g':=
 ⟨h.bc,h.g9,h.aI,h.aq,h.next,h.len,h.jF,λk v c=>⟨λe=>h.new k v (by omega) (by omega) e,λe=>h.dX k v (by omega) (by omega) e⟩,h.off,h.cU⟩
theorem Sr.refl (m:M) (g:G):Sr m g m g:=(Sm.refl m g).sr
theorem Sr.trans {m j l:M} {g d e:G} (b:Sr m g j d) (c:Sr j d l e):Sr m g l e:=
 ⟨λs=>(c.bc s).trans (b.bc s),λs=>(c.g9 s).trans (b.g9 s),c.aI.trans b.aI,c.aq.trans b.aq,c.next.trans b.next,c.len.trans b.len,c.jF.trans b.jF,λk v f=>(c.ma k v f).trans (b.ma k v f),
  λk hk=>by rw [c.off k (hk.imp (b.ma k 2 (.inl rfl)).2 (b.ma k 3 (.inr rfl)).2),b.off k hk],λy h=>(c.cU y h).trans (b.cU y h)⟩
theorem agz {p q:Nat->Bool} {y:Nat}:∀n,y<n->(∀z,z≠y->p z=q z)->((List.range n).filter p).length+(if q y then 1 else 0)=((List.range n).filter q).length+(if p y then 1 else 0):=by
 intro n
 induction n with
 |zero=>intro h;omega
 |succ n e=>
  intro d b;rw [gQ,iR,iR,ea,ea];by_cases c:y=n;subst c;have:(List.range y).filter p=(List.range y).filter q:=by
   apply vf
   grind
  grind
  grind
def yi {en:Nat->E} {y:Nat} (b:y<256) (e:E) (i:Nat):cJ (bB en y e) i+(if en y=.sl i then 1 else 0)=cJ en i+(if e=.sl i then 1 else 0):=by
 unfold cJ;have:=agz (p:=λz=>decide (bB en y e z=.sl i)) (q:=λz=>decide (en z=.sl i)) 256 b (λz c=>by simp only [bh c]);simpa using this
theorem jk.e4 {l:List cT} {en:Nat->E} (h:jk l en) {y:Nat} (f:y<256) {e:E} (b:∀i,en y≠ .sl i) (c:∀i,e≠ .sl i):jk l (bB en y e):=by
 refine ⟨h.len,λi x d=>?_,h.zero,h.held⟩;have:=yi (en:=en) f e i;rw [av (b i),av (c i)] at this;rw [h.cJ i x d];omega
theorem jk.eZ {l:List cT} {en:Nat->E} (h:jk l en) {y i:Nat} {x:cT} (z:y<256) (r:en y=.sl i) (g:l[i]?=some x) {e:E} (n:∀i,e≠ .sl i):
 x.1≠0/\jk (l.set i (x.1+ -1,(if x.1+ -1=0 then [] else x.2.1),())) (bB en y e):=by
 have D:=(b4.1 g).1;have C:=h.cJ i x g;have q:=yi (en:=en) z e;have hi:=q i;rw [aE r,av (n i)] at hi;have o:x.1≠0:=by omega
 refine ⟨o,by rw [hs];exact h.len,λj v f=>?_,λv b d=>?_,λv b d=>?_⟩;rw [pv] at f;by_cases c:i=j
 grind
 rw [av c] at f;have u:=q j;rw [av (by simp_all),av (n j)] at u;rw [h.cJ j v f];omega;rcases nO b with b|rfl
 exact h.zero v b d;simp_all;rcases nO b with b|rfl
 exact h.held v b d;have d:x.1+ -1≠0:=d;show (if x.1+ -1=0 then [] else x.2.1).length=4/\_;simp only [av d];exact h.held x (cw g) o
def jk.F8 {l:List cT} {en:Nat->E} (h:jk l en) {y i:Nat} {x:cT} (u:y<256) (q:∀j,en y≠ .sl j) (g:l[i]?=some x) (o:x.1≠0):
 jk (l.set i (x.1+1,x.2.1,())) (bB en y (.sl i)):=by
 have C:=(b4.1 g).1;have z:=h.cJ i x g;have r:=yi (en:=en) u (.sl i);refine ⟨by rw [hs];exact h.len,λj v f=>?_,λv b d=>?_,λv b d=>?_⟩;rw [pv] at f;have n:=r j;rw [av (q j)] at n;by_cases c:i=j
 grind
 rw [av c] at f;rw [av (λe=>c (E.sl.inj e))] at n;rw [h.cJ j v f];omega;rcases nO b with b|rfl
 exact h.zero v b d;omega;rcases nO b with b|rfl
 exact h.held v b d;exact h.held x (cw g) o
theorem Gv {e:E} {f:Nat} (h:bN e f=false) {w r:Bool}:e≠ .pg f w r:=by
 rintro rfl;simp [bN] at h
theorem jT.only {en:Nat->E} (h:jT en) {y f:Nat} {w r:Bool} (n:∀z,z<256->z≠y->bN (en z) f=false):jT (bB en y (.pg f w r)):=by
 refine ⟨λa b k u o w2 q j l c d=>?_,λa b i j l c d=>?_⟩;by_cases e:a=y<;>by_cases g:b=y
 omega;rw [e,e7] at c;rw [bh g] at d;cases c;exact absurd d (Gv (n b l g));rw [g,e7] at d;rw [bh e] at c;cases d;exact absurd c (Gv (n a j e));rw [bh e] at c;rw [bh g] at d;exact h.pg a b k u o w2 q j l c d;have e:a≠y:=by rintro rfl;simp_all
 have g:b≠y:=by rintro rfl;simp_all
 rw [bh e] at c;rw [bh g] at d;exact h.sl a b i j l c d
theorem jT.hg {en:Nat->E} (h:jT en) (y:Nat):jT (bB en y .no):=by
 refine ⟨λa b k o l w2 n g j c d=>?_,λa b i g j c d=>?_⟩;have e:a≠y:=by rintro rfl;simp_all
 have f:b≠y:=by rintro rfl;simp_all
 rw [bh e] at c;rw [bh f] at d;exact h.pg a b k o l w2 n g j c d;have e:a≠y:=by rintro rfl;simp_all
 have f:b≠y:=by rintro rfl;simp_all
 rw [bh e] at c;rw [bh f] at d;exact h.sl a b i g j c d
def ao.ahC {m:M} {g:G} {z y:Nat} (h:ao m g z) (d:y<256) (b:z=84\/z=20+y/4) (c:g.en y≠ .no):ao m g 84:=by
 rcases b with rfl|rfl
 exact h;exact ⟨h.mm,h.sn,h.fr,h.kr,h.sp,h.rp,h.tx,h.nz.tX ⟨λh=>by omega,λ_=>⟨y%4,by omega,by grind⟩⟩,h.eo,h.sl,h.pg,h.ls,h.mp⟩
theorem ao.ab {m:M} {g:G} {z y f q:Nat} {w r:Bool} (h:ao m g z) (u:y<256) (o:g.en y=.pg f w r) (x:∀z,z<256->z≠y->bN (g.en z) f=false) (J:bw (bc m.ah (y/64)) (y%64)=2)
 {mem':List (List Int)} (j:Re m g mem' (bB g.en y (.pg f true true))):ao {m with mem:=mem'} ⟨g.tb,bB g.en y (.pg f true true)⟩ z:=by
 refine ⟨j.bp.mm,?_,h.fr,h.kr.dx j.len (λ_=>gy) (λ_=>gy),h.sp,j.bp.rp,h.tx,h.nz.dX λa d v=>?_,⟨λa d k n l b=>?_,λa d i b=>?_⟩,h.sl.e4 u (λi=>by simp_all) (λi e=>by cases e),h.pg.only x,h.ls,λk hk=>?_⟩;show eW mem'.length m.st;rw [j.len];exact h.sn;by_cases c:a=y;simp_all;simp only [bh c];exact v;by_cases c:a=y;subst c;simp only [e7] at b;cases b;obtain ⟨C,D,I⟩:=h.eo.pg a u f w r o;simp_all;simp only [bh c] at b;exact h.eo.pg a d k n l b;by_cases c:a=y;simp_all;simp only [bh c] at b;exact h.eo.sl a d i b;obtain ⟨a,n,l,d,b⟩:=h.mp k hk;by_cases c:a=y;subst c;rw [o] at b;cases b;exact ⟨a,true,true,d,by simp⟩;exact ⟨a,n,l,d,by simp only [bh c];exact b⟩
def ao.ak0 {m:M} {g:G} {z y f:Nat} {w:Bool} (h:ao m g z) (u:ar m.st f=0) (af:y<256) (ag:z=84\/z=20+y/4)
 (aj:0<bw (bc m.ah (y/64)) (y%64)) (al:w=true->bw (bc m.ah (y/64)) (y%64)=2)
 (ad:∀k w r,g.en y=.pg k w r->∃a,a<256/\a≠y/\bN (g.en a) k=true)
 {mem':List (List Int)} {sl':List cT} (X:eO mem') (D:mem'.length=m.mem.length) (ac:fu mem' m.ah ⟨g.tb,bB g.en y (.pg f w true)⟩)
 (ae:jk sl' (bB g.en y (.pg f w true))) (ak:sl'.length=m.aw.length):
 ao {m with mem:=mem',st:=m.st.set f 5,bD:=dO (m.st.set f 5),aw:=sl',aF:=m.aF++[(f:Int)]} ⟨g.tb,bB g.en y (.pg f w true)⟩ 84:=by
 have C:=h.sn.lt (f:=f) (by omega);have U:=h.sn.ik (f:=f) (by omega) (by omega);have q:f<m.st.length:=by rw [h.sn.len];exact C
 have ab:∀a,a<256->bN (g.en a) f=false:=by
  intro a d;rw [rf];intro c;obtain ⟨o,n,e⟩:=eS.1 c;have:=(h.eo.pg a d f o n e).1;omega
 have I:∀k,ar (m.st.set f 5) k=if k=f then 5 else ar m.st k:=λk=>fV q
 have W:(f:Int)∉m.aF++m.ba:=by
  intro c;obtain ⟨k,e,hk⟩:=(h.ls.mem _).1 c
  grind
 refine ⟨X,?_,rfl,h.kr.dx D (λk=>e6 q u (by omega) (by omega)) (λk=>e6 q u (by omega) (by omega)),h.sp,ac,h.tx.dx λk=>e6 q u (by omega) (by omega),h.nz.set ag (λe=>by cases e),⟨λa d k o n j=>?_,λa d i j=>?_⟩,ae,h.pg.only λa d _=>ab a d,⟨?_,λv=>?_⟩,λk hk=>?_⟩;show eW mem'.length _;rw [D];exact h.sn.set U C (by omega) (by omega) (by omega);by_cases c:a=y;simp_all;simp only [bh c] at j;obtain ⟨J,K⟩:=h.eo.pg a d k o n j;simp_all;by_cases c:a=y;simp_all;simp only [bh c] at j;obtain ⟨J,K⟩:=h.eo.sl a d i j;simp_all;show (m.aF++[(f:Int)]++m.ba).Nodup;have l:(m.aF++[(f:Int)]++m.ba).Perm ((f:Int)::(m.aF++m.ba)):=by
  simp_all
 rw [l.nodup_iff,jP];exact ⟨W,h.ls.b5⟩;show v∈m.aF++[(f:Int)]++m.ba↔_;have l:(m.aF++[(f:Int)]++m.ba).Perm ((f:Int)::(m.aF++m.ba)):=by
  simp_all
 rw [l.mem_iff,eN,h.ls.mem v];constructor;rintro (rfl|⟨k,e,hk⟩)
 grind
 exact ⟨k,e,by simp_all⟩;rintro ⟨k,e,hk⟩;have hk:ar (m.st.set f 5) k=5:=hk;rw [I] at hk
 grind
 have hk:ar (m.st.set f 5) k=5:=hk;rw [I] at hk;by_cases c:k=f;subst c;exact ⟨y,w,true,af,by simp⟩;rw [av c] at hk;obtain ⟨a,o,n,d,j⟩:=h.mp k hk;by_cases x:a=y;subst x;obtain ⟨b,O,aa,l⟩:=ad k o n j;obtain ⟨w2,ai,l⟩:=eS.1 l;exact ⟨b,w2,ai,O,by simp only [bh aa];exact l⟩;exact ⟨a,o,n,d,by simp only [bh x];exact j⟩
structure s0 (sp sp':List dp):Prop where
 len:sp'.length=4
 fs:∀s,s<4->(aA sp' s).2.1=(aA sp s).2.1
 g9:∀s,s<4->(aA sp' s).1=(aA sp s).1
theorem s0.refl {sp:List dp} (h:sp.length=4):s0 sp sp:=⟨h,λ_ _=>rfl,λ_ _=>rfl⟩
theorem cc.cM {m:M} {g:G} {sp0:List dp} (h:cc {m with ah:=sp0} g) (b:s0 sp0 m.ah):cc m g:=
 ⟨⟨h.mm,b.len,⟨λs c=>(b.fs s c).trans (h.rp.fs s c),h.rp.c8,h.rp.leaf,h.rp.cW,h.rp.hG⟩,h.lt,h.inj⟩,h.ok⟩
def apk {st:List Int} {f k:Nat} {v:Int} (b:f<st.length) (c:v≠0):ar (st.set f 0) k=v↔k≠f/\ar st k=v:=by
 rw [fV b];omega
def ao.abj {m:M} {g:G} {z f y:Nat} (h:ao m g z) (n:y<84) (q:g.tb y=some f) {mem':List (List Int)} {sp':List dp} {C:Nat}
 (I:eO mem') (x:mem'.length=m.mem.length) (U:KE sp') (K:∀s,bc sp' s=bc m.ah s) (O:fu mem' sp' ⟨bB g.tb y none,g.en⟩) (J:NZ (bB g.tb y none) g.en C):
 ao {dR m f with mem:=mem',ah:=sp'} ⟨bB g.tb y none,g.en⟩ C:=by
 have l:ar m.st f=4:=(h.tx.fZ f).2 ⟨y,n,q⟩;have u:=h.sn.lt (f:=f) (by omega);have D:=h.sn.ik (f:=f) (by omega) (by omega);have d:f<m.st.length:=by rw [h.sn.len];exact u
 refine ⟨I,?_,rfl,h.kr.dx x (λk=>e6 d l (by omega) (by omega)) (λk=>e6 d l (by omega) (by omega)),U,O,h.tx.oR n q d,J,⟨λy n k w r o=>?_,λy n j o=>?_⟩,h.sl,h.pg,⟨h.ls.b5,λv=>?_⟩,λk hk=>?_⟩;show eW mem'.length _;rw [x];exact h.sn.set D u (by omega) (by omega) (by omega);obtain ⟨a,b,c⟩:=h.eo.pg y n k w r o;refine ⟨(e6 d l (by omega) (by omega)).2 a,?_⟩;simp_all;show _/\0<bw (bc sp' _) _;rw [K];exact h.eo.sl y n j o;show v∈m.aF++m.ba↔_;rw [h.ls.mem v];constructor;rintro ⟨k,e,hk⟩;exact ⟨k,e,(e6 d l (by omega) (by omega)).2 hk⟩;rintro ⟨k,e,hk⟩;exact ⟨k,e,(e6 d l (by omega) (by omega)).1 hk⟩;exact h.mp k ((e6 d l (by omega) (by omega)).1 hk)
theorem ao.Vy {m:M} {g:G} {x k p f:Nat} (h:ao m g (4*x+4+k)) (l:x<20) (hk:k<4) (e:g.tb x=some p) (d:g.tb (4*x+4+k)=some f) (n:∀j,j<4->bV m.mem f j=0):
 ao {dR m f with mem:=cz m.mem p k 0} ⟨bB g.tb (4*x+4+k) none,g.en⟩ x:=by
 have c:=cc.of h;have b:=c.lt x p (by omega) e;exact h.abj (sp':=m.ah) (by omega) d (h.mm.cz b ⟨by omega,by omega⟩) jy h.sp (λ_=>rfl) (h.rp.cut c.inj l hk e d n b (h.mm.row b).1) (h.nz.cut l hk)
theorem ao.agC {m:M} {g:G} {s f:Nat} (h:ao m g s) (l:s<4) (n:g.tb s=some f) (r:∀j,j<4->bV m.mem f j=0):
 ao {dR m f with ah:=m.ah.set s ((aA m.ah s).1,-1,(aA m.ah s).2.2)} ⟨bB g.tb s none,g.en⟩ 84:=by
 have q:s<m.ah.length:=by rw [h.sp.len];exact l
 have o:∀t,aA (m.ah.set s ((aA m.ah s).1,-1,(aA m.ah s).2.2)) t=if t=s then ((aA m.ah s).1,-1,(aA m.ah s).2.2) else aA m.ah t:=λt=>j7 q
 have e:∀t,bc (m.ah.set s ((aA m.ah s).1,-1,(aA m.ah s).2.2)) t=bc m.ah t:=by
  intro t;unfold bc
  grind
 refine h.abj (by omega) n h.mm rfl ⟨by rw [hs];exact h.sp.len,λt d=>by rw [e];exact h.sp.g1 t d,λt d b=>?_⟩ e ?_ (h.nz.Mg l);rw [o] at b|-;rw [e];split at b;rename_i c;subst c;rw [aE rfl];exact ⟨rfl,(h.sp.gW t d b).2⟩;rename_i c;rw [av c];exact h.sp.gW t d b;refine h.rp.Mg l n r (λt _=>?_)
 grind
theorem A8.hg {en:Nat->E} {st:List Int} {sp:List dp} {n:Nat} (h:A8 en st sp n) (y:Nat) {st':List Int} {e:Nat} (g:∀a,a<256->a≠y->∀k w r,en a=.pg k w r->ar st' k=5) (f:e=n):A8 (bB en y .no) st' sp e:=by
 subst f;refine ⟨λa d k w r b=>?_,λa d i b=>?_⟩;have c:a≠y:=by rintro rfl;simp_all
 rw [bh c] at b;exact ⟨g a d c k w r b,(h.pg a d k w r b).2⟩;have c:a≠y:=by rintro rfl;simp_all
 rw [bh c] at b;exact h.sl a d i b
def ao.agN {m:M} {g:G} {y i:Nat} {x:cT} (h:ao m g 84) (n:y<256) (d:g.en y=.sl i) (l:m.aw[i]?=some x) {mem':List (List Int)} (b:Re m g mem' (bB g.en y .no)):
 x.1≠0/\ao {m with mem:=mem',aw:=m.aw.set i (x.1+ -1,(if x.1+ -1=0 then [] else x.2.1),())} ⟨g.tb,bB g.en y .no⟩ (20+y/4):=by
 obtain ⟨f,j⟩:=h.sl.eZ (e:=.no) n d l (λi e=>by cases e);refine ⟨f,b.bp.mm,?_,h.fr,h.kr.dx b.len (λ_=>gy) (λ_=>gy),h.sp,b.bp.rp,h.tx,h.nz.N9 (.inl rfl),h.eo.hg y (λa c _ k w r e=>(h.eo.pg a c k w r e).1) (by simp),j,h.pg.hg y,h.ls,λk hk=>?_⟩;show eW mem'.length m.st;rw [b.len];exact h.sn;obtain ⟨a,w,r,c,e⟩:=h.mp k hk;have:a≠y:=by grind
 exact ⟨a,w,r,c,by simp only [bh this];exact e⟩
def ao.agM {m:M} {g:G} {y f a:Nat} {w r:Bool} (h:ao m g 84) (u:y<256) (q:g.en y=.pg f w r) (j:a<256) (n:a≠y) (l:bN (g.en a) f=true) {mem':List (List Int)} (d:Re m g mem' (bB g.en y .no)):
 ao {m with mem:=mem'} ⟨g.tb,bB g.en y .no⟩ (20+y/4):=by
 refine ⟨d.bp.mm,?_,h.fr,h.kr.dx d.len (λ_=>gy) (λ_=>gy),h.sp,d.bp.rp,h.tx,h.nz.N9 (.inl rfl),h.eo.hg y (λa j _ k w r e=>(h.eo.pg a j k w r e).1) rfl,h.sl.e4 u (λi=>by simp_all) (λi e=>by cases e),h.pg.hg y,h.ls,λk hk=>?_⟩;show eW mem'.length m.st;rw [d.len];exact h.sn;obtain ⟨b,w',v,o,e⟩:=h.mp k hk;by_cases c:b=y;subst c;rw [q] at e;cases e;obtain ⟨w2,x,l⟩:=eS.1 l;exact ⟨a,w2,x,j,by simp only [bh n];exact l⟩;exact ⟨b,w',v,o,by simp only [bh c];exact e⟩
def ao.agL {m:M} {g:G} {y f:Nat} {w r:Bool} (h:ao m g 84) (z:y<256) (J:g.en y=.pg f w r) (O:∀a,a<256->a≠y->bN (g.en a) f=false) {mem':List (List Int)} (j:Re m g mem' (bB g.en y .no)):
 ao {m with mem:=mem',st:=m.st.set f 0,bD:=dO (m.st.set f 0),aF:=m.aF.filter (λx=>x !=(f:Int)),ba:=m.ba.filter (λx=>x !=(f:Int))} ⟨g.tb,bB g.en y .no⟩ (20+y/4):=by
 have l:=(h.eo.pg y z f w r J).1;have q:=h.sn.lt (f:=f) (by omega);have K:=h.sn.ik (f:=f) (by omega) (by omega);have d:f<m.st.length:=by rw [h.sn.len];exact q
 have u:∀k,ar (m.st.set f 0) k=5↔k≠f/\ar m.st k=5:=λk=>apk d (by omega)
 refine ⟨j.bp.mm,?_,rfl,h.kr.dx j.len (λk=>e6 d l (by omega) (by omega)) (λk=>e6 d l (by omega) (by omega)),h.sp,j.bp.rp,h.tx.dx λk=>e6 d l (by omega) (by omega),h.nz.N9 (.inl rfl),h.eo.hg y (λa o D k w' n e=>(u k).2 ⟨?_,(h.eo.pg a o k w' n e).1⟩) rfl,h.sl.e4 z (λi=>by simp_all) (λi e=>by cases e),h.pg.hg y,⟨?_,λv=>?_⟩,λk hk=>?_⟩;show eW mem'.length _;rw [j.len];exact h.sn.set K q (by omega) (by omega) (by omega);rintro rfl;exact Gv (O a o D) e;show (m.aF.filter _++m.ba.filter _).Nodup;rw [<-iR];exact nK _ h.ls.b5;show v∈m.aF.filter _++m.ba.filter _↔_;rw [<-iR,gC,h.ls.mem v]
 grind
 obtain ⟨U,C⟩:=(u k).1 hk;obtain ⟨b,w',n,I,e⟩:=h.mp k C;have c:b≠y:=by
  grind
 exact ⟨b,w',n,I,by simp only [bh c];exact e⟩
def ao.y4 {m:M} {g:G} {z s:Nat} {rg:List cx} (h:ao m g z) (v:s<4) (u:hD rg) (C:(aA m.ah s).1=true)
 (D:∀p,p<64->∀f w r,g.en (64*s+p)=.pg f w r->0<bw rg p/\(w=true->bw rg p=2)) (x:∀p,p<64->∀i,g.en (64*s+p)=.sl i->0<bw rg p):
 ao {m with ah:=m.ah.set s ((aA m.ah s).1,(aA m.ah s).2.1,rg,())} g z:=by
 have q:s<m.ah.length:=by rw [h.sp.len];exact v
 have o:∀t,aA (m.ah.set s ((aA m.ah s).1,(aA m.ah s).2.1,rg,())) t=if t=s then ((aA m.ah s).1,(aA m.ah s).2.1,rg,()) else aA m.ah t:=λt=>j7 q
 have l:∀t,bc (m.ah.set s ((aA m.ah s).1,(aA m.ah s).2.1,rg,())) t=if t=s then rg else bc m.ah t:=λt=>by
  unfold bc;grind
 refine ⟨h.mm,h.sn,h.fr,h.kr,⟨by rw [hs];exact h.sp.len,λt d=>?_,λt d e=>?_⟩,⟨λt d=>?_,h.rp.c8,h.rp.leaf,h.rp.cW,h.rp.hG⟩,h.tx,h.nz,⟨λy n f w r j=>?_,λy n i j=>?_⟩,h.sl,h.pg,h.ls,h.mp⟩;rw [l];split;exact u;exact h.sp.g1 t d;rw [o] at e|-;rw [l];by_cases c:t=s;simp_all;rw [av c] at e|-;rw [av c];exact h.sp.gW t d e;show (aA (m.ah.set s _) t).2.1=_;rw [o];split;rename_i c;subst c;exact h.rp.fs t d;exact h.rp.fs t d;obtain ⟨a,b⟩:=h.eo.pg y n f w r j
 grind
 obtain ⟨a,b⟩:=h.eo.sl y n i j;refine ⟨a,?_⟩;show 0<bw (bc (m.ah.set s _) _) _;rw [l];by_cases c:y/64=s;rw [aE c];exact x (y%64) (by omega) i (by grind);simp_all
def cV (mk:Nat->Int):Nat->List cx×Option cx
 |0=>([],none)
 |p+1=>if mk p=0 then ((cV mk p).1++(cV mk p).2.toList,none) else match (cV mk p).2 with
  |some r=>if mk (p-1)=mk p then ((cV mk p).1,some (r.1,((p+1:Nat):Int),r.2.2)) else ((cV mk p).1++[r],some ((p:Int),((p+1:Nat):Int),(mk p==2),()))
  |none=>((cV mk p).1,some ((p:Int),((p+1:Nat):Int),(mk p==2),()))
def fm (mk:Nat->Int) (p:Nat):List cx:=(cV mk p).1++(cV mk p).2.toList
theorem Yi (l:List cx) (r:cx) (p:Nat):bw (l++[r]) p=if r.1<=(p:Int)/\(p:Int)<r.2.1 then (if r.2.2.1 then 2 else 1) else bw l p:=by
 unfold bw;simp_all
theorem N5:∀(l:List cx) (r:cx),ny l->(∀q,l.getLast?=some q->GM q r)->ny (l++[r])
 |[],r,_,_=>trivial
 |[a],r,_,h=>⟨h a rfl,trivial⟩
 |a::b::l,r,h,c=>⟨h.1,N5 (b::l) r h.2 (λq d=>c q (by simp_all))⟩
def Ya:∀(l:List cx) (r:cx),ny (l++[r])->ny l/\∀q,l.getLast?=some q->GM q r
 |[],r,_=>⟨trivial,(λq c=>by cases c)⟩
 |[a],r,h=>⟨trivial,λq c=>by cases c;exact h.1⟩
 |a::b::l,r,h=>by
  obtain ⟨d,e⟩:=Ya (b::l) r h.2;exact ⟨⟨h.1,d⟩,λq c=>e q (by simp_all)⟩
theorem Ms {mk:Nat->Int} (aa:∀p,mk p=0\/mk p=1\/mk p=2):∀p,(∀r∈fm mk p,0<=r.1/\r.1<r.2.1/\r.2.1<=p)/\ny (fm mk p)/\
 (∀r,(cV mk p).2=some r->r.2.1=p/\0<p/\mk (p-1)≠0/\r.2.2.1=(mk (p-1)==2))/\((cV mk p).2=none->∀r∈fm mk p,r.2.1<p)/\(∀q,bw (fm mk p) q=if q<p then mk q else 0)/\(0<p->mk (p-1)≠0->(cV mk p).2≠none)/\(fm mk p).length<=p:=by
 intro p
 induction p with
 |zero=>exact ⟨(λr d=>by cases d),trivial,(λr d=>by cases d),(λ_ r d=>by cases d),λq=>rfl,(λh=>by omega),by simp [fm,cV]⟩
 |succ p I=>
  obtain ⟨u,n,C,ab,o,ac,D⟩:=I;by_cases c:mk p=0;have e:cV mk (p+1)=(fm mk p,none):=by unfold cV;rw [aE c];rfl
  have f:fm mk (p+1)=fm mk p:=by unfold fm at e|-;rw [e];simp
  rw [f,e]
  grind
  have v:∀(l:List cx),l=fm mk p->(∀q,l.getLast?=some q->q.2.1=(p:Int)->q.2.2.1≠(mk p==2))->cV mk (p+1)=(l,some ((p:Int),((p+1:Nat):Int),(mk p==2),()))->
   (∀r∈fm mk (p+1),0<=r.1/\r.1<r.2.1/\r.2.1<=((p+1:Nat):Int))/\ny (fm mk (p+1))/\
   (∀r,(cV mk (p+1)).2=some r->r.2.1=((p+1:Nat):Int)/\0<p+1/\mk (p+1-1)≠0/\r.2.2.1=(mk (p+1-1)==2))/\((cV mk (p+1)).2=none->∀r∈fm mk (p+1),r.2.1<((p+1:Nat):Int))/\(∀q,bw (fm mk (p+1)) q=if q<p+1 then mk q else 0)/\(0<p+1->mk (p+1-1)≠0->(cV mk (p+1)).2≠none)/\(fm mk (p+1)).length<=p+1:=by
   intro l x y e;have f:fm mk (p+1)=l++[((p:Int),((p+1:Nat):Int),(mk p==2),())]:=by unfold fm;rw [e];rfl
   rw [f,e];subst x;refine ⟨λr d=>?_,N5 _ _ n λq b=>⟨?_,y q b⟩,λr d=>?_,(λh=>by cases h),λq=>?_,(λ_ _ h=>by cases h),by grind⟩
   grind
   grind
   grind
   rw [Yi,o]
   grind
  cases j:(cV mk p).2 with
  |none=>
   have g:fm mk p=(cV mk p).1:=by unfold fm;rw [j];simp
   refine v (cV mk p).1 g.symm (λq b z=>?_) ?_
   grind
   ·conv=>lhs;unfold cV
    rw [av c,j]
  |some r=>
   obtain ⟨O,U,a3,a4⟩:=C r j;have g:fm mk p=(cV mk p).1++[r]:=by unfold fm;rw [j];rfl
   by_cases W:mk (p-1)=mk p
   ·have e:cV mk (p+1)=((cV mk p).1,some (r.1,((p+1:Nat):Int),r.2.2)):=by
     conv=>lhs;unfold cV
     grind
    have f:fm mk (p+1)=(cV mk p).1++[(r.1,((p+1:Nat):Int),r.2.2)]:=by unfold fm;rw [e];rfl
    rw [g] at u n o D;obtain ⟨J,K⟩:=Ya _ _ n;have X:=u r (by simp);rw [f,e];refine ⟨λq b=>?_,N5 _ _ J λq b=>K q b,λq b=>?_,(λh=>by cases h),λq=>?_,(λ_ _ h=>by cases h),by grind⟩
    grind
    grind
    have:=o q;rw [Yi] at this|-
    grind
   refine v ((cV mk p).1++[r]) g.symm (λq b z=>?_) ?_
   grind
   ·conv=>lhs;unfold cV
    grind
theorem ao.spawn {m:M} {g:G} {z s:Nat} (h:ao m g z) (l:s<4) (x:(aA m.ah s).1=false):ao {m with ah:=m.ah.set s (true,-1,[],())} g z:=by
 have C:s<m.ah.length:=by rw [h.sp.len];exact l
 obtain ⟨u,v⟩:=h.sp.gW s l x;have n:∀t,aA (m.ah.set s (true,-1,[],())) t=if t=s then (true,-1,[],()) else aA m.ah t:=λt=>j7 C
 have q:∀t,bc (m.ah.set s (true,-1,[],())) t=bc m.ah t:=λt=>by
  unfold bc;rw [n];split;rename_i c;rw [c];exact v.symm;rfl
 refine ⟨h.mm,h.sn,h.fr,h.kr,⟨by rw [hs];exact h.sp.len,λt d=>by rw [q];exact h.sp.g1 t d,λt d e=>?_⟩,⟨λt d=>?_,h.rp.c8,h.rp.leaf,h.rp.cW,h.rp.hG⟩,h.tx,h.nz,⟨λy o f w r j=>?_,λy o i j=>?_⟩,h.sl,h.pg,h.ls,h.mp⟩;rw [n] at e|-;rw [q];by_cases c:t=s;simp_all;rw [av c] at e|-;exact h.sp.gW t d e;show (aA (m.ah.set s _) t).2.1=_;rw [n];split;rename_i c;rw [c,<-h.rp.fs s l,u];exact h.rp.fs t d;obtain ⟨a,b⟩:=h.eo.pg y o f w r j;simp_all;obtain ⟨a,b⟩:=h.eo.sl y o i j;simp_all
def ao.ajp {m:M} {g:G} {s:Nat} (h:ao m g 84) (n:s<4) (f:∀p,p<64->g.en (64*s+p)=.no):g.tb s=none:=by
 apply im;intro c;obtain ⟨b,_⟩:=h.nz s (by omega) (by omega) c;obtain ⟨k,hk,d⟩:=b (by omega);obtain ⟨e,_⟩:=h.nz (4*s+4+k) (by omega) (by omega) d;obtain ⟨j,l,h4⟩:=e (by omega);obtain ⟨_,h5⟩:=h.nz (4*(4*s+4+k)+4+j) (by omega) (by omega) h4;obtain ⟨i,hi,h6⟩:=h5 (by omega);apply h6;have:=f (16*k+4*j+i) (by omega)
 grind
theorem ao.ax {m:M} {g:G} {s:Nat} (h:ao m g 84) (q:s<4) (n:∀p,p<64->g.en (64*s+p)=.no):ao {m with ah:=m.ah.set s (false,-1,[],())} g 84:=by
 have v:s<m.ah.length:=by rw [h.sp.len];exact q
 have z:=h.ajp q n;have u:∀t,aA (m.ah.set s (false,-1,[],())) t=if t=s then (false,-1,[],()) else aA m.ah t:=λt=>j7 v
 have o:∀t,bc (m.ah.set s (false,-1,[],())) t=if t=s then [] else bc m.ah t:=λt=>by
  unfold bc;grind
 have C:∀y,y<256->g.en y≠ .no->y/64≠s:=λy e x c=>x (by
  have:=n (y%64) (by omega)
  grind)
 refine ⟨h.mm,h.sn,h.fr,h.kr,⟨by rw [hs];exact h.sp.len,λt d=>?_,λt d j=>?_⟩,⟨λt d=>?_,h.rp.c8,h.rp.leaf,h.rp.cW,h.rp.hG⟩,h.tx,h.nz,⟨λy e f w r l=>?_,λy e i l=>?_⟩,h.sl,h.pg,h.ls,h.mp⟩;rw [o];split;exact ⟨by simp,by simp,trivial⟩;exact h.sp.g1 t d;rw [u] at j|-;rw [o];by_cases c:t=s;simp_all;rw [av c] at j|-;rw [av c];exact h.sp.gW t d j;show (aA (m.ah.set s _) t).2.1=_;rw [u];split;rename_i c;rw [c,z];rfl;exact h.rp.fs t d;obtain ⟨a,b⟩:=h.eo.pg y e f w r l;simp_all;obtain ⟨a,b⟩:=h.eo.sl y e i l;simp_all
def ao.ahr {m:M} {g:G} {z a b i:Nat} {x:cT} (h:ao m g z) (K:a<256) (O:b<256) (U:g.en a=.sl i) (al:g.en b=.no) (ai:a%64=b%64) (ae:z=84\/z=20+b/4) (q:m.aw[i]?=some x)
 (ak:0<bw (bc m.ah (b/64)) (b%64)) {mem':List (List Int)} (n:Re m g mem' (bB g.en b (.sl i))):
 x.1≠0/\ao {m with mem:=mem',aw:=m.aw.set i (x.1+1,x.2.1,())} ⟨g.tb,bB g.en b (.sl i)⟩ 84:=by
 have I:x.1≠0:=by
  have d:=h.sl.cJ i x q;intro ag;exact yj (en:=g.en) (i:=i) (by omega) K U
 have aj:=(b4.1 q).1;refine ⟨I,n.bp.mm,?_,h.fr,h.kr.dx n.len (λ_=>gy) (λ_=>gy),h.sp,n.bp.rp,h.tx,h.nz.set ae (λe=>by cases e),⟨λy f k w r d=>?_,λy f j d=>?_⟩,h.sl.F8 O (λj=>by simp_all) q I,⟨λy o k w r w2 af f C d l=>?_,λy o j f C d l=>?_⟩,h.ls,λk hk=>?_⟩;show eW mem'.length m.st;rw [n.len];exact h.sn;have c:y≠b:=by rintro rfl;simp_all
 simp only [bh c] at d;exact h.eo.pg y f k w r d;show j<(m.aw.set i _).length/\_;rw [hs];by_cases c:y=b;simp_all;simp only [bh c] at d;exact h.eo.sl y f j d;have c:y≠b:=by rintro rfl;simp_all
 have J:o≠b:=by rintro rfl;simp_all
 simp only [bh c] at d;simp only [bh J] at l;exact h.pg.pg y o k w r w2 af f C d l;have key:∀y,y<256->∀j,bB g.en b (.sl i) y=.sl j->∃D,D<256/\D%64=y%64/\g.en D=.sl j:=λy f j d=>by
  by_cases c:y=b;subst c;rw [e7] at d;grind;rw [bh c] at d;grind
 obtain ⟨u,W,aa,X⟩:=key y f j d;obtain ⟨v,ab,ad,ac⟩:=key o C j l;rw [<-aa,<-ad];exact h.pg.sl u v j W ab X ac;obtain ⟨y,w,r,f,e⟩:=h.mp k hk;have c:y≠b:=by grind
 exact ⟨y,w,r,f,by simp only [bh c];exact e⟩
def ao.ahq {m:M} {g:G} {z a b f:Nat} {w r:Bool} (h:ao m g z) (W:a<256) (ag:b<256) (O:g.en a=.pg f w r) (aj:g.en b=.no) (a0:a%64=b%64) (ax:z=84\/z=20+b/4)
 (a2:0<bw (bc m.ah (b/64)) (b%64)) {mem':List (List Int)} (J:Re m g mem' (bB (bB g.en a (.pg f false r)) b (.pg f false false))):
 ao {m with mem:=mem'} ⟨g.tb,bB (bB g.en a (.pg f false r)) b (.pg f false false)⟩ 84:=by
 have al:a≠b:=by grind
 have key:∀y,y<256->∀k w' q,bB (bB g.en a (.pg f false r)) b (.pg f false false) y=.pg k w' q->∃I w2 D,I<256/\I%64=y%64/\g.en I=.pg k w2 D/\(w'=true->I=y/\w2=true)/\(k=f->w'=false):=λy n k w' q l=>by
  by_cases c:y=b;subst c;rw [e7] at l;grind;rw [bh c] at l;by_cases o:y=a;subst o;rw [e7] at l;grind;rw [bh o] at l;refine ⟨y,w',q,n,rfl,l,λe=>⟨rfl,e⟩,λe=>?_⟩;subst e;exact (h.pg.pg y a k w' q w r n W l O).2 o
 have U:∀y,∀j,bB (bB g.en a (.pg f false r)) b (.pg f false false) y=.sl j->g.en y=.sl j:=λy j l=>by
  have c:y≠b:=by rintro rfl;simp_all
  rw [bh c] at l;have o:y≠a:=by rintro rfl;simp_all
  rwa [bh o] at l
 refine ⟨J.bp.mm,?_,h.fr,h.kr.dx J.len (λ_=>gy) (λ_=>gy),h.sp,J.bp.rp,h.tx,(h.nz.dX (en':=bB g.en a (.pg f false r)) λy n ak=>?_).set ax (λe=>by cases e),⟨λy n k w' q l=>?_,λy n j l=>h.eo.sl y n j (U y j l)⟩,(h.sl.e4 W (λi=>by simp_all) (λi e=>by cases e)).e4 ag (λi=>by rw [bh al.symm,aj];simp_all) (λi e=>by cases e),⟨λy x k w' q w2 D n K l C=>?_,λy x j n K l C=>h.pg.sl y x j n K (U y j l) (U x j C)⟩,h.ls,λk hk=>?_⟩;show eW mem'.length m.st;rw [J.len];exact h.sn;by_cases c:y=a;simp_all;rw [bh c];exact ak;have az:=l;obtain ⟨I,w2,D,aw,a7,e,a6,_⟩:=key y n k w' q l;have h5:=(h.eo.pg I aw k w2 D e).1;refine ⟨h5,?_⟩;by_cases c:y=b;simp_all;simp only [bh c] at l;by_cases o:y=a;subst o;simp only [e7] at l;cases l;exact ⟨(h.eo.pg y n f w r O).2.1,λe=>by cases e⟩;simp only [bh o] at l;exact (h.eo.pg y n k w' q l).2;obtain ⟨u,X,ab,an,a3,ap,av,ai⟩:=key y n k w' q l;obtain ⟨v,aa,ac,aq,a5,ar,_,a1⟩:=key x K k w2 D C;obtain ⟨a8,a9⟩:=h.pg.pg u v k X ab aa ac an aq ap ar;refine ⟨by omega,λam=>?_⟩;by_cases ad:k=f;exact ai ad;cases au:w';rfl;obtain ⟨af,ay⟩:=av au;by_cases a4:u=v
 ·
  exfalso;subst af;by_cases c:x=b;simp_all;simp only [bh c] at C;by_cases o:x=a;simp_all;simp only [bh o] at C;by_cases d:u=b;simp_all;simp only [bh d] at l;by_cases ae:u=a;simp_all;simp only [bh ae] at l;have:=(h.pg.pg u x k w' q w2 D n K l C).2 am;simp_all
 simp_all;obtain ⟨y,w',q,n,e⟩:=h.mp k hk;have c:y≠b:=by grind
 by_cases o:y=a;subst o;rw [O] at e;cases e;exact ⟨y,false,r,n,by simp only [bh c,e7]⟩;exact ⟨y,w',q,n,by simp only [bh c,bh o];exact e⟩
def E.mv (t:Nat):E->E
 | .pg _ w r=>.pg t w r
 |e=>e
def hK (en:Nat->E) (f t:Nat):Nat->E:=λy=>if bN (en y) f then (en y).mv t else en y
def eU (f t:Nat) (x:Int):Int:=if x=(f:Int) then (t:Int) else x
def yO (m:M) (mem':List (List Int)) (f t:Nat):M:=
 {m with mem:=mem'.set t (row m.mem f),st:=(m.st.set t 5).set f 0,bD:=dO ((m.st.set t 5).set f 0),aF:=m.aF.map (eU f t),ba:=m.ba.map (eU f t)}
def Nj {en:Nat->E} {f t y k:Nat} {w r:Bool} (h:hK en f t y=.pg k w r):(k=t/\en y=.pg f w r)\/(k≠f/\en y=.pg k w r):=by
 unfold hK at h;by_cases c:bN (en y) f=true;rw [aE c] at h;obtain ⟨w',b,e⟩:=eS.1 c;rw [e] at h|-;cases h;simp_all;rw [av c] at h;refine .inr ⟨?_,h⟩;rintro rfl;exact c (eS.2 ⟨w,r,h⟩)
def F9 {en:Nat->E} {f t y i:Nat}:hK en f t y=.sl i↔en y=.sl i:=by
 unfold hK;by_cases c:bN (en y) f=true;rw [aE c];obtain ⟨w',b,e⟩:=eS.1 c;rw [e];constructor<;>intro h<;>cases h
 rw [av c]
def ai9 {en:Nat->E} {f t y:Nat}:hK en f t y=.no↔en y=.no:=by
 unfold hK;by_cases c:bN (en y) f=true;rw [aE c];obtain ⟨w',b,e⟩:=eS.1 c;rw [e];constructor<;>intro h<;>cases h
 rw [av c]
theorem W1 {en:Nat->E} {f t y k:Nat} {w r:Bool} (h:en y=.pg k w r):hK en f t y=.pg (if k=f then t else k) w r:=by
 unfold hK;rw [h];by_cases c:k=f;subst c;rw [aE (eS.2 ⟨w,r,rfl⟩),aE rfl];rfl;rw [av c,av];intro e;obtain ⟨_,_,e⟩:=eS.1 e;cases e;exact c rfl
def alM {f t:Nat} {a b:Int} (c:a≠(t:Int)) (d:b≠(t:Int)) (h:eU f t a=eU f t b):a=b:=by
 unfold eU at h;omega
def ao.move {m:M} {g:G} {z f t:Nat} {mem':List (List Int)} (h:ao m g z) (U:ar m.st f=5) (aw:ar m.st t=0) (K:Re m g mem' (hK g.en f t)):
 ao (yO m mem' f t) ⟨g.tb,hK g.en f t⟩ z:=by
 have an:f≠t:=by rintro rfl;omega
 have J:=h.sn.lt (f:=f) (by omega);have aa:=h.sn.lt (f:=t) (by omega);have ae:=h.sn.ik (f:=f) (by omega) (by omega);have ah:=h.sn.ik (f:=t) (by omega) (by omega);have am:f<m.st.length:=by rw [h.sn.len];exact J
 have ai:t<m.st.length:=by rw [h.sn.len];exact aa
 have au:∀k,ar ((m.st.set t 5).set f 0) k=if k=f then 0 else if k=t then 5 else ar m.st k:=λk=>by
  rw [fV (by simp_all),fV ai]
 have O:∀k v,v≠0->v≠5->(ar ((m.st.set t 5).set f 0) k=v↔ar m.st k=v):=by
  grind
 have h5:∀k,ar ((m.st.set t 5).set f 0) k=5↔k=t\/k≠f/\ar m.st k=5:=by
  grind
 have X:mem'.length=m.mem.length:=K.len;have ap:=h.i2 (f:=t) (by omega);have aq:∀y,y<256->∀w r,g.en y≠ .pg t w r:=λy d w r e=>by have:=(h.eo.pg y d t w r e).1;omega
 refine ⟨K.bp.mm.set (h.mm.row J),?_,rfl,h.kr.dx (by simp [yO,X]) (λk=>O k 2 (by omega) (by omega)) (λk=>O k 3 (by omega) (by omega)),h.sp,K.bp.rp.off λx k ax hk j _=>zx ?_,h.tx.dx λk=>O k 4 (by omega) (by omega),h.nz.dX λy d ag e=>ag (ai9.1 e),⟨λy d k w r n=>?_,λy d j n=>h.eo.sl y d j (F9.1 n)⟩,⟨h.sl.len,λj v af=>?_,h.sl.zero,h.sl.held⟩,⟨λy z k w r w' ab d q l I=>?_,λy z j d q l I=>h.pg.sl y z j d q (F9.1 l) (F9.1 I)⟩,⟨?_,λv=>?_⟩,λk hk=>?_⟩;show eW (mem'.set t _).length _;rw [hs,X];exact (h.sn.set ah aa (by omega) (by omega) (by omega)).set ae J (by omega) (by omega) (by omega)
 grind
 rcases Nj n with ⟨rfl,e⟩|⟨hk,e⟩
 obtain ⟨_,b,c⟩:=h.eo.pg y d f w r e;exact ⟨(h5 k).2 (.inl rfl),b,c⟩;obtain ⟨a,b,c⟩:=h.eo.pg y d k w r e;exact ⟨(h5 k).2 (.inr ⟨hk,a⟩),b,c⟩;show v.1=(cJ (hK g.en f t) j:Int);rw [h.sl.cJ j v af,Md λy d=>?_];exact F9.symm;rcases Nj l with ⟨rfl,C⟩|⟨ay,C⟩<;>rcases Nj I with ⟨al,D⟩|⟨al,D⟩
 exact h.pg.pg y z f w r w' ab d q C D
 grind
 grind
 exact h.pg.pg y z k w r w' ab d q C D;show (m.aF.map _++m.ba.map _).Nodup;rw [<-fH];unfold List.Nodup;rw [lF];refine List.Pairwise.imp_of_mem (λ{a b} ac ad o e=>o ?_) h.ls.b5;have W:∀v,v∈m.aF++m.ba->v≠(t:Int):=λv ak=>by
  obtain ⟨k,rfl,hk⟩:=(h.ls.mem v).1 ak
  grind
 exact alM (W a ac) (W b ad) e;show v∈m.aF.map _++m.ba.map _↔_;rw [<-fH,dm];constructor;rintro ⟨u,aj,rfl⟩;obtain ⟨k,rfl,hk⟩:=(h.ls.mem u).1 aj;unfold eU;by_cases c:k=f;subst c;rw [aE rfl];exact ⟨t,rfl,(h5 t).2 (.inl rfl)⟩;rw [av (by omega)];exact ⟨k,rfl,(h5 k).2 (.inr ⟨c,hk⟩)⟩;rintro ⟨k,rfl,hk⟩;rcases (h5 k).1 hk with rfl|⟨o,l⟩
 exact ⟨f,(h.ls.mem f).2 ⟨f,rfl,U⟩,by unfold eU;rw [aE rfl]⟩;exact ⟨k,(h.ls.mem k).2 ⟨k,rfl,l⟩,by unfold eU;rw [av (by omega)]⟩;rcases (h5 k).1 hk with rfl|⟨o,l⟩
 obtain ⟨y,w,r,d,n⟩:=h.mp f U;exact ⟨y,w,r,d,by show hK g.en f k y=_;rw [W1 n,aE rfl]⟩;obtain ⟨y,w,r,d,n⟩:=h.mp k l;exact ⟨y,w,r,d,by show hK g.en f t y=_;rw [W1 n,av o]⟩
def c0 {α:Type} (l:List α) (a:Nat):Nat->α->List α
 |0,_=>l
 |n+1,v=>(c0 l a n v).set (a+n) v
theorem ms {α:Type} (l:List α) (a:Nat) (v:α):∀n,(c0 l a n v).length=l.length
 |0=>rfl
 |n+1=>by rw [c0,hs,ms l a v n]
theorem uS {α:Type} {l:List α} {a:Nat} {v d:α} (i:Nat):∀n,a+n<=l.length->(c0 l a n v).getD i d=if a<=i/\i<a+n then v else l.getD i d
 |0,_=>by rw [c0,av (by omega)]
 |n+1,h=>by
  rw [c0,qw (by rw [ms];omega)];by_cases c:i=a+n;simp_all;rw [av c,uS i n (by omega)]
  grind
theorem eO.c0 {mem:List (List Int)} (h:eO mem) (a:Nat):∀n,eO (c0 mem a n [0,0,0,0])
 |0=>h
 |n+1=>(h.c0 a n).set ⟨rfl,by simp⟩
def arA {mem mem':List (List Int)} {f k:Nat} (h:row mem' f=row mem f):bV mem' f k=bV mem f k:=by unfold bV;rw [h]
theorem Nr {w:Int} {k:Nat} (h:(k:Int)=fT w):k<=3:=by
 unfold fT at h;omega
def qm (m:M) (a k:Nat):M:={m with mem:=c0 m.mem a (2^k) [0,0,0,0],st:=c0 m.st a (2^k) 3,bD:=dO (c0 m.st a (2^k) 3)}
theorem kp (l:List bW) (x:bW):cA (l++[x])=cA l++if x.2.2.1= -1 then cK (x.2.1,x.2.2.2.1,()) else []:=by
 unfold cA;simp_all
theorem uu {a k:Nat} {v:Int}:v∈cK ((a:Int),(k:Int),())↔∃i:Nat,v=i/\a<=i/\i<a+2^k:=by
 rw [Mu,dm]
 grind
theorem ahB (a k:Nat):(cK ((a:Int),(k:Int),())).Nodup:=by
 rw [Mu];unfold List.Nodup;rw [lF];exact List.Pairwise.imp (λ{x y} h e=>h (by omega)) List.nodup_range'
theorem ao.Ls {m:M} {g:G} {z a k:Nat} {w:Int} (h:ao m g z) (hk:(k:Int)=fT w) (ad:5<=w/\w<=32) (X:a%2^k=0) (K:a+2^k<=m.mem.length) (d:∀i,i<2^k->ar m.st (a+i)=0)
 (ab:m.aq.length<40) (b:m.next<100000):ao {qm m a k with aq:=m.aq++[(m.next,(a:Int),-1,(k:Int),w,())],next:=m.next+1} g z:=by
 have U:=h.sn.len;have ac:=kQ k;have W:∀i,a<=i->i<a+2^k->ar m.st i=0:=λi D I=>by
  have:=d (i-a) (by omega);simp_all
 have o:∀i,ar (c0 m.st a (2^k) 3) i=if a<=i/\i<a+2^k then 3 else ar m.st i:=λi=>uS i _ (by omega)
 have j:∀i v,v≠0->v≠3->(ar (c0 m.st a (2^k) 3) i=v↔ar m.st i=v):=by
  grind
 have O:∀i,ar m.st i≠0->row (c0 m.mem a (2^k) [0,0,0,0]) i=row m.mem i:=by
  intro i hi;unfold row;rw [uS i _ K,av]
  grind
 refine ⟨h.mm.c0 a _,?_,rfl,?_,h.sp,h.rp.off λx f b d k _=>?_,h.tx.dx λf=>j f 4 (by omega) (by omega),h.nz,⟨λy l f w r J=>?_,h.eo.sl⟩,h.sl,h.pg,⟨h.ls.b5,λv=>?_⟩,λf d=>?_⟩;show eW (c0 m.mem a _ _).length (c0 m.st a _ _);rw [ms];refine ⟨by rw [ms];exact U,λf d=>?_⟩;rw [o];by_cases c:a<=f/\f<a+2^k;rw [aE c];have:=(h.sn.val f d).2.2;simp_all;rw [av c];exact h.sn.val f d
 ·show fe (c0 m.mem a _ _).length (c0 m.st a _ _) m.aI (m.aq++_) (m.next+1);rw [ms];have aa:1<=m.next:=h.kr.ns;refine ⟨h.kr.kF,h.kr.eM,h.kr.iM,λf=>(j f 2 (by omega) (by omega)).trans (h.kr.hR f),by omega,by omega,by simp;omega,?_,?_,?_,?_,?_,?_,?_,?_⟩;rw [lE];refine ⟨h.kr.nu,rk _ _,λx b y l=>?_⟩;rw [gD.1 l];exact (h.kr.ll x b).2;intro x b;rcases bI.1 b with b|b
  have:=h.kr.ll x b;omega
  grind
  intro x b n;rcases bI.1 b with b|b
  exact h.kr.ie x b n
  grind
  intro x b n;rcases bI.1 b with b|b
  exact h.kr.hN x b n;simp_all;rw [lE];refine ⟨h.kr.nv,rk _ _,λx b y l n e=>?_⟩;simp_all;rw [kp,aE rfl,cF];refine ⟨h.kr.bg,ahB a k,λx b y l e=>?_⟩;subst e;obtain ⟨i,rfl,D,I⟩:=uu.1 l;have:=(h.kr.iY i).1 b;simp_all;intro f;rw [kp,aE rfl,bI,h.kr.iY,o];show _\/(f:Int)∈cK ((a:Int),(k:Int),())↔_;rw [uu]
  grind
  rw [h.kr.sum,vd];simp
 refine arA ?_;exact O f (by rw [(h.tx.fZ f).2 ⟨x,b,d⟩];decide);obtain ⟨q,u,C⟩:=h.eo.pg y l f w r J;exact ⟨(j f 5 (by omega) (by omega)).2 q,u,C⟩;show v∈m.aF++m.ba↔_;rw [h.ls.mem v];constructor;rintro ⟨f,e,d⟩;exact ⟨f,e,(j f 5 (by omega) (by omega)).2 d⟩;rintro ⟨f,e,d⟩;exact ⟨f,e,(j f 5 (by omega) (by omega)).1 d⟩;exact h.mp f ((j f 5 (by omega) (by omega)).1 d)
theorem Ln {l:List ch} (h:l.Pairwise λs t=>s.1<t.1) {s t:ch} (b:s∈l) (c:t∈l) (e:s.1=t.1):s=t:=by
 induction l with
 |nil=>cases b
 |cons a l d=>
  rw [pw] at h
  grind
theorem Tr {l b:List ch} (e:b.map (·.1)=l.map (·.1)) (h:l.Pairwise λs t=>s.1<t.1):b.Pairwise λs t=>s.1<t.1:=by
 have c:=lF.2 h
 grind
theorem VH {l b:List ch} (e:b.map (·.1)=l.map (·.1)) (f:Int):(∃s∈b,s.1=f)↔∃s∈l,s.1=f:=by
 have:∀l:List ch,(∃s∈l,s.1=f)↔f∈l.map (·.1):=λl=>by rw [dm]
 rw [this,this,e]
def dZ (s:ch) (j:Nat) (b:Bool):ch:=(s.1,s.2.1,s.2.2.1.set j b,())
theorem GW (A B:List ch) (s:ch) (j:Nat) (b:Bool):(A++dZ s j b::B).map (·.1)=(A++s::B).map (·.1):=by simp [dZ]
def Yx {s:ch} (h:k3 s) (j:Nat) (b:Bool) (c:true∈s.2.2.1.set j b):k3 (dZ s j b):=
 ⟨h.lo,h.hi,by simpa [dZ] using h.size,c⟩
theorem agy {l:List Bool} {j:Nat} (h:l[j]?=some false):(l.set j true).count true=l.count true+1:=by
 grind
theorem Vx {l:List Bool} {j:Nat} (h:l[j]?=some true):(l.set j false).count true+1=l.count true:=by
 grind
theorem oI (C D:List bW) (x:bW):cA (C++x::D)=cA C++((if x.2.2.1= -1 then cK (x.2.1,x.2.2.2.1,()) else [])++cA D):=by
 unfold cA;simp_all
theorem qn (C D:List bW):cA (C++D)=cA C++cA D:=by
 unfold cA;simp_all
theorem fe.part {n:Nat} {st:List Int} {A B:List ch} {s:ch} {aq:List bW} {next w:Int} {j:Nat} (h:fe n st (A++s::B) aq next) (z:s.2.2.1[j]?=some false)
 (J:1<=w/\w<=4) (U:cr w=s.2.1) (X:aq.length<40) (b:next<100000):
 fe n st (A++dZ s j true::B) (aq++[(next,s.1,(j:Int),0,w,())]) (next+1):=by
 have D:s∈A++s::B:=by simp
 have W:=h.ns;have O:=(b4.1 z).1;have I:(s.2.2.1.set j true)[j]?=some true:=vh O;have C:dZ s j true∈A++dZ s j true::B:=by simp
 refine ⟨by have:=h.kF;simp at this|-;omega,λt d=>?_,Tr (GW A B s j true) h.iM,λf=>(h.hR f).trans (VH (GW A B s j true) f).symm,by omega,by omega,by simp;omega,?_,?_,?_,?_,?_,?_,?_,?_⟩;simp only [bI,eN] at d;rcases d with d|rfl|d
 exact h.eM t (by simp [d]);exact Yx (h.eM s D) j true (cw I);exact h.eM t (by simp [d]);rw [lE];refine ⟨h.nu,rk _ _,λx b y o=>?_⟩;rw [gD.1 o];exact (h.ll x b).2;intro x b;rcases bI.1 b with b|b
 have:=h.ll x b;omega
 grind
 intro x b g;rcases bI.1 b with b|b
 exact h.ie x b g;simp_all;intro x b g;rcases bI.1 b with b|b
 obtain ⟨t,d,l,q,r,u,v⟩:=h.hN x b g;by_cases c:t=s;subst c;refine ⟨dZ t j true,C,l,q,r,?_,v⟩;show (t.2.2.1.set j true)[x.2.2.1.toNat]?=some true
 grind
 refine ⟨t,?_,l,q,r,u,v⟩
 grind
 rw [gD.1 b];exact ⟨dZ s j true,C,rfl,rfl,by simp,by simpa [dZ] using I,J.1,J.2,U⟩;rw [lE];refine ⟨h.nv,rk _ _,λx b y o g e=>?_⟩;rw [gD.1 o] at e;simp only at e;obtain ⟨t,d,l,_,_,u,_⟩:=h.hN x b g;obtain rfl:=Ln h.iM d D (by omega);simp_all;rw [kp,av (by simp only;omega),gA];exact h.bg;rw [kp,av (by simp only;omega),gA];exact h.iY;have K:=h.sum;rw [vd];simp only [fH,gP,List.sum_append,List.sum_cons] at K|-;rw [show (dZ s j true).2.2.1.count true=s.2.2.1.count true+1 from agy z]
 grind
theorem fe.NF {n:Nat} {st:List Int} {A B:List ch} {aq:List bW} {next w z:Int} {f:Nat} {u:List Bool} (h:fe n st (A++B) aq next) (X:∀a∈A,a.1<(f:Int)) (aa:∀b∈B,(f:Int)<b.1)
 (I:ar st f=0) (r:f<st.length) (ac:f<32) (J:k3 ((f:Int),z,u,())) (K:u[0]?=some true) (ab:u.count true=1) (C:1<=w/\w<=4) (O:cr w=z) (af:aq.length<40) (d:next<100000):
 fe n (st.set f 2) (A++((f:Int),z,u,())::B) (aq++[(next,(f:Int),0,0,w,())]) (next+1):=by
 have ad:=h.ns;have ae:∀t∈A++B,t.1≠(f:Int):=λt g e=>by
  grind
 have D:(A++((f:Int),z,u,())::B).Pairwise λs t=>s.1<t.1:=by
  have l:=lE.1 h.iM;rw [lE,pw]
  grind
 have o:∀t,t∈A++((f:Int),z,u,())::B↔t=((f:Int),z,u,())\/t∈A++B:=λt=>by
  grind
 have v:∀t∈A++((f:Int),z,u,())::B,k3 t:=λt g=>by
  rcases (o t).1 g with rfl|g
  exact J;exact h.eM t g
 refine ⟨?_,v,D,λk=>?_,by omega,by omega,by simp;omega,?_,?_,?_,?_,?_,?_,?_,?_⟩;have l:((A++((f:Int),z,u,())::B).map (·.1)).Nodup:=by
  grind
 have:=uy _ 32 l (λx d=>by
  obtain ⟨t,g,rfl⟩:=dm.1 d;have:=v t g;have l:=this.lo;have W:=this.hi;omega)
 simpa using this;rw [fV r];by_cases c:k=f
 grind
 rw [av c,h.hR]
 grind
 rw [lE];refine ⟨h.nu,rk _ _,λx d y q=>?_⟩;rw [gD.1 q];exact (h.ll x d).2;intro x d;rcases bI.1 d with d|d
 have:=h.ll x d;omega
 grind
 intro x d j;rcases bI.1 d with d|d
 exact h.ie x d j;simp_all;intro x d j;rcases bI.1 d with d|d
 obtain ⟨t,g,e⟩:=h.hN x d j;exact ⟨t,(o t).2 (.inr g),e⟩;rw [gD.1 d];exact ⟨_,(o _).2 (.inl rfl),rfl,rfl,by simp,by simpa using K,C.1,C.2,O⟩;rw [lE];refine ⟨h.nv,rk _ _,λx d y q j e=>?_⟩;rw [gD.1 q] at e;simp only at e;obtain ⟨t,g,U,_⟩:=h.hN x d j
 grind
 rw [kp,av (by simp only;omega),gA];exact h.bg;intro k;rw [kp,av (by simp only;omega),gA,h.iY];exact (e6 r I (by omega) (by omega)).symm;have l:=h.sum
 grind
theorem mf {α:Type} {C D:List α} {x y:α} (h:y∈C++D):y∈C++x::D:=by
 grind
theorem qW {α:Type} {R:α->α->Prop} {C D:List α} {x:α} (h:(C++x::D).Pairwise R):(C++D).Pairwise R:=
 h.sublist (List.Sublist.append_left (List.sublist_cons_self _ _) _)
theorem fe.Xf {n:Nat} {st:List Int} {aI:List ch} {C D:List bW} {x y:bW} {next:Int} (h:fe n st aI (C++x::D) next) (f:x.2.2.1≠ -1) (b:y∈C++D) (g:y.2.2.1≠ -1) (e:y.2.1=x.2.1):y.2.2.1≠x.2.2.1:=by
 intro c;have d:=lE.1 h.nv;rcases bI.1 b with b|b
 grind
 exact (pw.1 d.2.1).1 y b f ⟨e.symm,c.symm⟩
theorem fe.ahI {n:Nat} {st:List Int} {A B:List ch} {s:ch} {C D:List bW} {x:bW} {next:Int} (h:fe n st (A++s::B) (C++x::D) next) (e:x.2.2.1≠ -1) (aa:s.1=x.2.1)
 (J:true∈s.2.2.1.set x.2.2.1.toNat false):fe n st (A++dZ s x.2.2.1.toNat false::B) (C++D) next:=by
 have I:s∈A++s::B:=by simp
 have K:x∈C++x::D:=by simp
 obtain ⟨t,u,O,_,U,v,_⟩:=h.hN x K e;obtain rfl:=Ln h.iM u I (by omega);have z:dZ t x.2.2.1.toNat false∈A++dZ t x.2.2.1.toNat false::B:=by simp
 refine ⟨by have:=h.kF;simp at this|-;omega,λr b=>?_,Tr (GW A B t _ false) h.iM,λf=>(h.hR f).trans (VH (GW A B t _ false) f).symm,h.ns,h.ux,by have:=h.kB;simp at this|-;omega,qW h.nu,λy d=>h.ll y (mf d),λy d=>h.ie y (mf d),λy d q=>?_,qW h.nv,?_,λf=>?_,?_⟩;simp only [bI,eN] at b;rcases b with b|rfl|b
 exact h.eM r (by simp [b]);exact Yx (h.eM t u) _ false J;exact h.eM r (by simp [b]);obtain ⟨r,b,g,j,l,f4,f5⟩:=h.hN y (mf d) q;by_cases c:r=t;subst c;have X:=h.Xf e d q (by omega);refine ⟨dZ r x.2.2.1.toNat false,z,g,j,l,?_,f5⟩;show (r.2.2.1.set x.2.2.1.toNat false)[y.2.2.1.toNat]?=some true
 grind
 refine ⟨r,?_,g,j,l,f4,f5⟩
 grind
 have:=h.bg;rw [oI,av e,el] at this;rw [qn];exact this;have:=h.iY f;rw [oI,av e,el] at this;rw [qn];exact this;have o:=h.sum;have W:=Vx v;simp only [fH,gP,List.sum_append,List.sum_cons,vd] at o|-;rw [List.countP_cons_of_pos (by simpa using e)] at o;rw [show (dZ t x.2.2.1.toNat false).2.2.1=t.2.2.1.set x.2.2.1.toNat false from rfl];omega
theorem fe.hg {n:Nat} {st:List Int} {A B:List ch} {s:ch} {C D:List bW} {x:bW} {next:Int} {f:Nat} (h:fe n st (A++s::B) (C++x::D) next) (g:x.2.2.1≠ -1) (ae:s.1=x.2.1) (ab:x.2.1=(f:Int)) (l:f<st.length)
 (O:true∉s.2.2.1.set x.2.2.1.toNat false):fe n (st.set f 0) (A++B) (C++D) next:=by
 have K:s∈A++s::B:=by simp
 have U:x∈C++x::D:=by simp
 obtain ⟨t,q,W,_,X,u,_⟩:=h.hN x U g;obtain rfl:=Ln h.iM q K (by omega);have J:ar st f=2:=(h.hR f).2 ⟨t,q,by omega⟩;have ac:∀r∈A++B,r.1≠t.1:=by
  intro r b e;have j:=lE.1 h.iM;rcases bI.1 b with b|b
  grind
  have:=(pw.1 j.2.1).1 r b;omega
 refine ⟨by have:=h.kF;simp at this|-;omega,λr b=>h.eM r (mf b),qW h.iM,λk=>?_,h.ns,h.ux,by have:=h.kB;simp at this|-;omega,qW h.nu,λy d=>h.ll y (mf d),λy d=>h.ie y (mf d),λy d o=>?_,qW h.nv,?_,λk=>?_,?_⟩;rw [fV l];by_cases c:k=f
 grind
 rw [av c,h.hR];constructor;rintro ⟨r,b,e⟩
 grind
 rintro ⟨r,b,e⟩;grind;obtain ⟨r,b,v,z,I,f4,f5⟩:=h.hN y (mf d) o;by_cases c:r=t;subst c;have ad:=h.Xf g d o (by omega);refine absurd (cw (i:=y.2.2.1.toNat) ?_) O
 grind
 refine ⟨r,?_,v,z,I,f4,f5⟩;simp_all;have:=h.bg;rw [oI,av g,el] at this;rw [qn];exact this;have:=h.iY k;rw [oI,av g,el] at this;rw [qn,this];exact (e6 l J (by omega) (by omega)).symm;have j:=h.sum;have aa:=Vx u
 grind
def fe.OS {n:Nat} {st:List Int} {aI:List ch} {C D:List bW} {x:bW} {next:Int} {a k:Nat} (h:fe n st aI (C++x::D) next) (e:x.2.2.1= -1) (d:x.2.1=(a:Int)) (hk:x.2.2.2.1=(k:Int)) (q:a+2^k<=st.length):
 fe n (c0 st a (2^k) 0) aI (C++D) next:=by
 have l:∀i,ar (c0 st a (2^k) 0) i=if a<=i/\i<a+2^k then 0 else ar st i:=λi=>uS i _ q
 have j:=h.bg;rw [oI,aE e,d,hk,cF,cF] at j;obtain ⟨u,⟨v,z,I⟩,J⟩:=j;have K:∀i,a<=i->i<a+2^k->ar st i=3:=λi g o=>by
  rw [<-h.iY,oI,aE e,d,hk];simp only [bI];exact .inr (.inl (uu.2 ⟨i,rfl,g,o⟩))
 refine ⟨h.kF,h.eM,h.iM,λf=>?_,h.ns,h.ux,by have:=h.kB;simp at this|-;omega,qW h.nu,λy b=>h.ll y (mf b),λy b=>h.ie y (mf b),λy b r=>h.hN y (mf b) r,qW h.nv,?_,λf=>?_,?_⟩;rw [<-h.hR,l]
 grind
 rw [qn,cF];simp_all;have h4:=h.iY f;rw [oI,aE e,d,hk,bI,bI,uu] at h4;rw [qn,bI,l];by_cases c:a<=f/\f<a+2^k;rw [aE c];have O:(f:Int)∈cK ((a:Int),(k:Int),()):=uu.2 ⟨f,rfl,c⟩
 grind
 grind
 have g:=h.sum;simp_all
def ao.MR {m:M} {g:G} {z:Nat} (h:ao m g z) {st':List Int} {sl':List ch} {d:List bW} {nx':Int} (h4:∀f,ar st' f=4↔ar m.st f=4) (h5:∀f,ar st' f=5↔ar m.st f=5) (l:eW m.mem.length st')
 (hk:fe m.mem.length st' sl' d nx'):ao {m with st:=st',bD:=dO st',aI:=sl',aq:=d,next:=nx'} g z:=by
 refine ⟨h.mm,l,rfl,hk,h.sp,h.rp,h.tx.dx h4,h.nz,⟨λy n f w r e=>?_,h.eo.sl⟩,h.sl,h.pg,⟨h.ls.b5,λv=>?_⟩,λf j=>h.mp f ((h5 f).1 j)⟩;obtain ⟨a,b,c⟩:=h.eo.pg y n f w r e;simp_all;show v∈m.aF++m.ba↔_;rw [h.ls.mem v];simp_all
theorem ao.nA {m:M} {g:G} {z f:Nat} {r:List Int} (h:ao m g z) (l:f<m.mem.length) (h4:ar m.st f≠4) (c:r.length=4/\∀x∈r,0<=x/\x<=100000):ao {m with mem:=m.mem.set f r} g z:=by
 have d:∀x q,x<84->g.tb x=some q->∀j,j<4->bV (m.mem.set f r) q j=bV m.mem q j:=λx q e b j n=>by
  have:q≠f:=by rintro rfl;exact h4 ((h.tx.fZ q).2 ⟨x,e,b⟩)
  exact zx this
 refine ⟨h.mm.set c,?_,h.fr,h.kr.dx (by simp) (λ_=>gy) (λ_=>gy),h.sp,h.rp.off d,h.tx,h.nz,h.eo,h.sl,h.pg,h.ls,h.mp⟩;show eW (m.mem.set f r).length m.st;rw [hs];exact h.sn
theorem ao.NF {m:M} {g:G} {z f:Nat} {A B:List ch} {w y:Int} {u:List Bool} (h:ao m g z) (d:ar m.st f=0) (C:m.aI=A++B) (l:∀a∈A,a.1<(f:Int)) (n:∀b∈B,(f:Int)<b.1)
 (x:k3 ((f:Int),y,u,())) (D:u[0]?=some true) (o:u.count true=1) (I:1<=w/\w<=4) (K:cr w=y) (v:m.aq.length<40) (J:m.next<100000):
 ao {cd m f 2 with aI:=A++((f:Int),y,u,())::B,aq:=m.aq++[(m.next,(f:Int),0,0,w,())],next:=m.next+1} g z:=by
 have e:=h.sn.lt (f:=f) (by omega);have q:=h.sn.ik (f:=f) (by omega) (by omega);have c:f<m.st.length:=by rw [h.sn.len];exact e
 have O:=h.mm.hi;have hk:=h.kr;rw [C] at hk;have j:=h.MR (st':=m.st.set f 2) (λk=>e6 c d (by omega) (by omega)) (λk=>e6 c d (by omega) (by omega)) (h.sn.set q e (by omega) (by omega) (by omega))
  (hk.NF l n d c (by omega) x D o I K v J)
 exact j.nA (f:=f) (r:=[0,0,0,0]) e (by show ar (m.st.set f 2) f≠4;rw [fV c,aE rfl];decide) ⟨rfl,by simp⟩
theorem ao.hg {m:M} {g:G} {z f:Nat} {A B:List ch} {s:ch} {C D:List bW} {x:bW} (h:ao m g z) (q:m.aI=A++s::B) (l:m.aq=C++x::D) (n:x.2.2.1≠ -1) (o:s.1=x.2.1) (e:x.2.1=(f:Int))
 (r:true∉s.2.2.1.set x.2.2.1.toNat false):ao {m with st:=m.st.set f 0,bD:=dO (m.st.set f 0),aI:=A++B,aq:=C++D} g z:=by
 have hk:=h.kr;rw [q,l] at hk;have d:ar m.st f=2:=(hk.hR f).2 ⟨s,by simp,by omega⟩;have c:=h.sn.lt (f:=f) (by omega);have j:=h.sn.ik (f:=f) (by omega) (by omega);have b:f<m.st.length:=by rw [h.sn.len];exact c
 exact h.MR (nx':=m.next) (λk=>e6 b d (by omega) (by omega)) (λk=>e6 b d (by omega) (by omega)) (h.sn.set j c (by omega) (by omega) (by omega)) (hk.hg n o e b r)
def ao.OS {m:M} {g:G} {z a k:Nat} {C D:List bW} {x:bW} (h:ao m g z) (q:m.aq=C++x::D) (j:x.2.2.1= -1) (d:x.2.1=(a:Int)) (hk:x.2.2.2.1=(k:Int)) (I:a+2^k<=m.mem.length):
 ao {m with st:=c0 m.st a (2^k) 0,bD:=dO (c0 m.st a (2^k) 0),aq:=C++D} g z:=by
 have b:=h.kr;rw [q] at b;have u:=h.sn.len;have r:∀i,ar (c0 m.st a (2^k) 0) i=if a<=i/\i<a+2^k then 0 else ar m.st i:=λi=>uS i _ (by omega)
 have y:∀i,a<=i->i<a+2^k->ar m.st i=3:=λi n o=>by
  rw [<-b.iY,oI,aE j,d,hk];simp only [bI];exact .inr (.inl (uu.2 ⟨i,rfl,n,o⟩))
 have l:∀i v,v≠0->v≠3->(ar (c0 m.st a (2^k) 0) i=v↔ar m.st i=v):=by
  grind
 refine h.MR (nx':=m.next) (λi=>l i 4 (by omega) (by omega)) (λi=>l i 5 (by omega) (by omega)) ⟨by rw [ms];exact u,λf e=>?_⟩ (b.OS j d hk (by omega));rw [r];by_cases c:a<=f/\f<a+2^k;rw [aE c];have:=(h.sn.val f e).2.2;simp_all;rw [av c];exact h.sn.val f e
def li (n:Nat):List Int:=((List.replicate n (0:Int)).set 0 1).set 1 1
def jC (n s:Nat):M:=⟨List.replicate n [0,0,0,0],li n,dO (li n),[],[],1,List.replicate 4 (false,-1,[],()),List.replicate s (0,[],()),[],[]⟩
def Ga:G:=⟨λ_=>none,λ_=>.no⟩
theorem W4 {n:Nat} (b:8<=n) (f:Nat):ar (li n) f=if f<2 then 1 else if f<n then 0 else 9:=by
 unfold li ar
 grind
theorem ao.new {n s:Nat} (C:8<=n/\n<=32/\n%8=0) (u:s<=16):ao (jC n s) Ga 84:=by
 have O:=W4 C.1;have J:(li n).length=n:=by simp [li]
 have l:(jC n s).mem.length=n:=by simp [jC]
 have g:∀f v,v≠0->v≠1->v≠9->ar (jC n s).st f≠v:=λf v I W h9=>by
  show ar (li n) f≠v
  grind
 have D:∀t,t<4->aA (jC n s).ah t=(false,-1,[],()):=λt j=>by
  show (List.replicate 4 (false,-1,[],())).getD t _=_
  grind
 refine ⟨⟨by omega,by omega,by rw [l];exact C.2.2,λr o=>?_⟩,⟨by rw [l];exact J,λf c=>?_⟩,rfl,?_,⟨by simp [jC],λt j=>?_,λt j _=>?_⟩,⟨λt j=>?_,λx b k hk f c=>(by cases c),λq X k hk f c=>(by cases c),λx _ _ k _=>rfl,λq _ _ k _=>rfl⟩,⟨λx y f _ _ c=>(by cases c),λf=>?_⟩,λx b _ K=>absurd rfl K,⟨λy U f w r d=>(by cases d),λy U i d=>(by cases d)⟩,⟨by simp [jC];exact u,λi x b=>?_,λx b _=>?_,λx b I=>?_⟩,⟨λy z f w r w' aa _ _ d=>(by cases d),λy z i _ _ d=>(by cases d)⟩,⟨lD,λx=>?_⟩,λf c=>absurd c (g f 5 (by omega) (by omega) (by omega))⟩;have:r=[0,0,0,0]:=ri o;simp_all;rw [l] at c;show 0<=ar (li n) f/\_;rw [show ar (jC n s).st f=ar (li n) f from rfl,O];omega;refine ⟨by simp [jC],λs u=>(by cases u),List.Pairwise.nil,λf=>⟨λe=>absurd e (g f 2 (by omega) (by omega) (by omega)),λ⟨_,h,_⟩=>(by cases h)⟩,by simp [jC],by simp [jC],by simp [jC],List.Pairwise.nil,λx b=>(by cases b),λx b=>(by cases b),λx b=>(by cases b),List.Pairwise.nil,lD,λf=>⟨λh=>(by cases h),λe=>absurd e (g f 3 (by omega) (by omega) (by omega))⟩,rfl⟩;unfold bc;rw [D t j];exact ⟨by simp,λr o=>(by cases o),trivial⟩;unfold bc;simp_all;rw [D t j];rfl;exact ⟨λe=>absurd e (g f 4 (by omega) (by omega) (by omega)),λ⟨_,_,e⟩=>(by cases e)⟩;have:x=(0,[],()):=ri (cw b);subst this;have:cJ Ga.en i=0:=by
  unfold cJ;rw [hT,List.filter_eq_nil_iff];intro y _;simp [Ga]
 rw [this];rfl;have:x=(0,[],()):=ri b;rw [this];have:x=(0,[],()):=ri b;simp_all;exact ⟨λh=>(by cases h),λ⟨f,_,c⟩=>absurd c (g f 5 (by omega) (by omega) (by omega))⟩
end Go.bq
namespace Go.Proofs.YticidjkonpphfaaGreat
set_option maxRecDepth 100000
open Go.TM
abbrev b9:Ty:=(.cons (.int .i64) (.cons (.int .i64) .unit))
abbrev aU:Type:=Int×Int×Unit
abbrev eC:Ty:=(.cons (.int .i64) (.cons (.slice (.int .i64)) .unit))
abbrev a7:Type:=Int×LI×Unit
abbrev eg:Ty:=(.cons (.int .i64) (.cons (.int .i64) (.cons .bool .unit)))
abbrev bu:Type:=Int×Int×Bool×Unit
abbrev cP:Ty:=(.cons (.int .i64) (.cons (.int .i64) (.cons (.slice .bool) .unit)))
abbrev aX:Type:=Int×Int×LO×Unit
abbrev bZ:Ty:=(.cons (.slice (.int .u8)) b9)
abbrev b8:Type:=(List Int)×aU
abbrev KH:Ty:=(.cons (.int .i64) eC)
abbrev ep:Type:=Int×a7
abbrev h0:Ty:=(.cons (.int .i64) (.cons (.int .i64) (.cons .bool (.cons .bool .unit))))
abbrev hy:Type:=Int×Int×Bool×Bool×Unit
abbrev bf:Ty:=(.cons (.int .i64) (.cons (.int .i64) (.cons (.int .i64) b9)))
abbrev aL:Type:=Int×Int×Int×aU
abbrev tt:Ty:=(.cons .bool (.cons (.int .i64) (.cons (.slice eg) .unit)))
abbrev bJ:Type:=Bool×Int×(List bu)×Unit
abbrev hE:Ty:=(.cons (.int .i64) (.cons (.int .i64) (.cons (.int .i64) bf)))
abbrev nW:Type:=Int×Int×Int×aL
abbrev bS:Ty:=(.cons (.slice .bool) (.cons (.slice (.slice eg)) (.cons (.slice KH) (.cons (.slice eC) (.cons (.int .i64) .unit)))))
abbrev fI:Type:=LO×(List (List bu))×(List ep)×(List a7)×Int×Unit
abbrev ae:Ty:=(.cons (.slice (.slice (.int .i64))) (.cons (.slice (.int .i64)) (.cons (.slice b9) (.cons (.slice cP) (.cons (.slice bf) (.cons (.int .i64) (.cons (.slice tt) (.cons (.slice eC) (.cons (.slice (.int .i64)) (.cons (.slice (.int .i64)) .unit))))))))))
abbrev aj:Type:=a2×LI×(List aU)×(List aX)×(List aL)×Int×(List bJ)×(List a7)×LI×LI×Unit
def aG:List (Nat×Ty):=[(3,(.int .i64)),(4,.bool),(5,(.int .u8)),(22,(.slice (.int .u8))),(24,(.slice (.slice (.int .i64)))),(25,(.slice (.int .i64))),(26,(.slice b9)),(27,(.slice cP)),(28,(.slice bf)),(29,(.slice tt)),(30,(.slice eC)),(32,ae),(34,bf),(38,bf),(55,hE),(62,(.slice eg)),(64,tt),(70,(.slice .bool)),(71,(.slice (.slice eg))),(72,(.slice KH)),(73,(.slice eC)),(75,bS),(79,b9),(90,h0),(93,KH),(94,.bz),(99,.bz),(116,eC),(124,b9),(130,.bz),(143,eC),(152,eg),(165,bZ),(166,(.slice bf)),(179,cP),(206,.bz),(207,(.arr 2 (.int .i64))),(210,.bz),(226,(.arr 64 (.int .i64))),(253,.bz),(283,(.slice (.slice b9)))]
def abh:aG.all (λx=>dL Tryz.prog x.2 x.1)=true:=by kernel_rfl
theorem aW {cs:List (Nat×List Nat×az)} {dX:List (Nat×mQ)}:lW Tryz.prog (aB aG cs dX):=⟨abi abh,λ_ _ h=>by cases h⟩
def dP {cs:List (Nat×List Nat×az)} {dX:List (Nat×mQ)} {o:Nat} {l:List (Nat×List Nat×du)}:lW Tryz.prog (dt (aB aG cs dX) o l):=⟨λt T h=>abi (cs:=cs) (dX:=dX) abh t T h,λ_ _ h=>by cases h⟩
def F3:List (Nat×Ty):=[(206,(.arr 2 (.int .i64))),(210,(.int .i64))]
def Nc:F3.all (λx=>o6 Tryz.prog x.2 x.1)=true:=by kernel_rfl
theorem en {dX:List (Nat×mQ)}:fc Tryz.prog (aB aG [] dX):=agT _ _ _
def ec {dX:List (Nat×mQ)} {f:Nat} {d:List Nat} {c:az} {cs:List (Nat×List Nat×az)} (h:aM Tryz.prog f c) (b:fc Tryz.prog (aB aG cs dX)):fc Tryz.prog (aB aG ((f,d,c)::cs) dX):=agS h b
def mixed:Tryz.prog.follows .mixedOrders=true:=by kernel_rfl
end Go.Proofs.YticidjkonpphfaaGreat
