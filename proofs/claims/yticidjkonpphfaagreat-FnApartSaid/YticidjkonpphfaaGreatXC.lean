/- Part 3 of 8. -/
import Derived.Carry
import Derived.ChangeShapes
import Derived.KernelRfl
import Derived.Lib.Bytealg
import Derived.OpenShut
import Derived.OwnWalkIn
import Derived.RangeFuncBox
import Derived.RangeFuncLeaves
import Derived.RowKit
import Derived.Shelf.SlIterI.Sorted
import Derived.Shelf.SortM.Plain
import Derived.Shelf.SortM.SortNone
import Derived.Shelf.Spec.SlicesGrow
import Derived.SizedLaws
import Derived.Test.YticidjkonpphfaaGreatProg
import Derived.Test.YticidjkonpphfaaGreatXB
set_option autoImplicit false
set_option linter.unusedVariables false
set_option linter.unusedSimpArgs false
set_option linter.defProp false
set_option linter.constructorNameAsVariable false
namespace Go.TM
section
variable {Z:Type} {P:Program} {E:an} {F:Fr} {G:Nat->Gh} {s:St} {a:Act} {w w2:World} {Q:Exit->Act->World->Prop}
def jz (K:Ty) (key:K.ai) (xs:List (K.ai×Int×Unit)):Nat:=match hC K key 0 xs with
 |some x=>x.1
 |none=>xs.length
def ahR {K:Ty} (d:iH K) (key:K.ai) (xs:List (K.ai×Int×Unit)) (u:Int):jz K key xs<(dz K key u xs).length/\((dz K key u xs)[jz K key xs]?).map Prod.fst=some key/\
 ∀v,(dz K key u xs).set (jz K key xs) (key,v,())=dz K key v xs:=by
 unfold jz;rcases tY d key u xs 0 with ⟨b,c⟩|⟨i,z,b,c,e,h4⟩
 grind [tY]
 rw [c,e];simp only [ka];refine ⟨by simpa using b,by simp [b],λv=>?_⟩;rcases tY d key v xs 0 with ⟨f,_⟩|⟨j,y,_,g,h,_⟩
 simp_all;simp_all
theorem Vp {K:Ty} (b:iH K) (x:K.ai):k7 K x x=true:=by
 rcases b with rfl|rfl
 exact q4 (α:=Int) x;exact q4 (α:=List Int) x
theorem Mr {K:Ty} (b:iH K) (key:K.ai) (v:Int):∀(xs:List (K.ai×Int×Unit)),cX K key (dz K key v xs)=v
 |[]=>by simp [dz,cX,Vp b]
 |e::r=>by
  rw [dz];split;simp [cX,Vp b];rename_i h;rw [cX,au h];exact Mr b key v r
def af2 {K:Ty} {xs:List (K.ai×Int×Unit)} {b:Array MapEntry} (h:sF K xs b) {i:Nat} (hi:i<xs.length):b.findIdx? (λe=>(e.born:Int)==(i:Int))=some i:=by
 obtain ⟨f,c⟩:=h;have g:∀j (d:j<b.size),b[j].born=j:=λj d=>by
  obtain ⟨_,e,l,_,_,n⟩:=c j xs[j] (ba (by omega))
  grind
 rw [Array.findIdx?_eq_some_iff_getElem]
 grind
def ahy (h:aC F G s a w) {t:TypeId} {K:Ty} (an:oW P K t=true) {b:Nat} {mv ak:Value} (av:VR (ax s.box G) w F.R (.mp b) mv) {bx:bl} (ad:s.box b=some bx) (a0:bx.cn=true) {xs:List (K.ai×Int×Unit)}
 (a6:bx.c=.tup (.ab (.slice (eu K)) xs)) {key:K.ai} (af:ak=fb K key) (D:dl K key):
 ∃w',(Instr.mapEntry t mv ak).run P w=.ok (.tuple #[.int .i64 (cX K key xs),.int .i64 (jz K key xs)]) w'/\aC F G (s.b4 b {bx with c:=.tup (.ab (.slice (eu K)) (show List (K.ai×Int×Unit) from dz K key (cX K key xs) xs))}) a w':=by
 obtain ⟨aB,al,ag,W,ay,u⟩:=qx an;obtain ⟨d,ac,J,ar,a7,az,f,ae,U,_,ao⟩:=yj (K:=K) (k:=some) (r:=xs) h av ad (by grind [h0,mY]);obtain rfl:=b2 ar;have aw:=Xu u key D;obtain ⟨C,X⟩:=ao;have aj:∀g (v:Int),sF K (dz K key v d) g->aC F G (s.b4 b {bx with c:=.tup (.ab (.slice (eu K)) (show List (K.ai×Int×Unit) from dz K key v d))}) a {w with heap:=w.heap.setIfInBounds ac (.map g g.size)}:=λg v ap=>
  h.Ml ad a0 ae (.map g g.size) λA=>by
   rw [az,ae];refine ⟨rfl,u,ac,g,rfl,rfl,?_,ap⟩
   grind
 have aa:(zeroValue al).run P w=.ok (.int .i64 0) w:=by
  obtain ⟨i,hi,_,_,aa⟩:=ay.gT;obtain ⟨z,a5,aF,z3⟩:=aa rfl;have a1:z=.int .i64 0:=by cases z<;>simp_all [Value.cells,eS,aqF,Ty.agg]
  simp [zeroValue,typeInfo,hi,a5,a1]
 rcases tY u key (cX K key d) d 0 with ⟨I,o⟩|⟨i,z,I,o,am,h4⟩
 have O:cX K key d=0:=by rw [<-Ft key d 0,I];rfl
 refine ⟨_,?_,aj (J.push {key:=fb K key,val:=.int .i64 0,born:=J.size}) _ ⟨by rw [o];simp [C],λi x f=>?_⟩⟩;unfold Instr.mapEntry;rw [f,af];simp only [Sem.run_bind,run_underlying ag,Result.andThen_ok,Go.MapKept.run_getObj_map U,yy u W key D,xV u W key D w ⟨C,X⟩,I,uW,aa];rw [Go.MapKept.run_setObj_map _ U];simp [O,jz,I,goInt,C];rw [o,O] at f;by_cases hi:i<d.length
 grind
 rw [List.getElem?_append_right (by omega)] at f;have aq:i=d.length:=by
  grind
 subst aq;simp at f;subst f;exact ⟨D,{key:=fb K key,val:=.int .i64 0,born:=J.size},by rw [<-C];simp,rfl,rfl,C⟩;rw [ka] at o;obtain ⟨aD,e,a2,aE,a3,a4⟩:=X i _ (ba I);have au:e.key=fb K key:=by simp_all
 have O:cX K key d=z:=by rw [<-Ft key d 0,o];rfl
 have aA:e.val=.int .i64 z:=by
  rw [a3];have q:(hC K key 0 d)=some (i,d[i].2.1):=by
   have:∀(l:List (K.ai×Int×Unit)) (n j:Nat) (y:Int),hC K key n l=some (n+j,y)->∃x,l[j]?=some x/\x.2.1=y:=by
    intro l
    induction l with
    |nil=>intro n j y q;cases q
    |cons e l ah=>
     intro n j y q;rw [hC] at q;split at q;simp_all;cases j with
     |zero=>
      exfalso;have:∀(l:List (K.ai×Int×Unit)) (n m:Nat) (y:Int),hC K key n l=some (m,y)->n<=m:=by
       intro l
       induction l with
       |nil=>intro n m y q;cases q
       |cons e l ah=>
        grind [hC]
      grind
     |succ j=>exact ah (n+1) j y (by grind)
   obtain ⟨x,a8,a9⟩:=this d 0 i z (by simp_all);simp_all
  simp_all
 refine ⟨_,?_,aj (J.modify i λe=>{e with key:=fb K key}) _ ⟨by rw [am];simp [C],λj x f=>?_⟩⟩;unfold Instr.mapEntry;rw [f,af];simp only [Sem.run_bind,run_underlying ag,Result.andThen_ok,Go.MapKept.run_getObj_map U,yy u W key D,xV u W key D w ⟨C,X⟩,o,dn,a2,uV,au,Instr.keyThatStays,aw,cu,Sem.run_pure];rw [Go.MapKept.run_setObj_map _ U];simp [O,jz,o,goInt,a4]
 grind
def afC (h:aC F G s a w) {t:TypeId} {K:Ty} (y:oW P K t=true) {b:Nat} {mv:Value} (J:VR (ax s.box G) w F.R (.mp b) mv) {bx:bl} (n:s.box b=some bx) (X:bx.cn=true) {xs:List (K.ai×Int×Unit)}
 (ad:bx.c=.tup (.ab (.slice (eu K)) xs)) {i:Nat} {key:K.ai} (hi:(xs[i]?).map Prod.fst=some key) (v:Int):
 ∃w',(Instr.entryStore t mv (.int .i64 i) (.int .i64 v)).run P w=.ok () w'/\aC F G (s.b4 b {bx with c:=.tup (.ab (.slice (eu K)) (show List (K.ai×Int×Unit) from xs.set i (key,v,())))}) a w':=by
 obtain ⟨al,ac,ak,ah,aj,D⟩:=qx y;obtain ⟨u,g,f,C,ae,W,d,o,z,_,l⟩:=yj (K:=K) (k:=some) (r:=xs) h J n (by grind [h0,mY]);obtain rfl:=b2 C;obtain ⟨aa,q,ag⟩:=Option.map_eq_some_iff.1 hi;have I:=(b6.1 q).1;have af:=af2 l I;obtain ⟨U,O⟩:=l;obtain ⟨am,e,an,ao,ap,aq⟩:=O i aa q;refine ⟨{w with heap:=w.heap.setIfInBounds g (.map (f.modify i λe=>{e with val:=.int .i64 v}) (f.modify i λe=>{e with val:=.int .i64 v}).size)},?_,h.Ml n X o _ λA=>?_⟩;unfold Instr.entryStore;rw [d];simp only [Sem.run_bind,Result.andThen_ok,Go.MapKept.run_getObj_map z];rw [show (Go.asInt (.int .i64 (i:Int))).run P w=.ok (i:Int) w from rfl]
 grind [Result.andThen_ok,Go.MapKept.run_setObj_map]
 rw [W,o];refine ⟨rfl,D,g,f.modify i λe=>{e with val:=.int .i64 v},rfl,rfl,?_,(by show _=(u.set i (key,v,())).length;simp [U]),λj x d=>?_⟩
 grind
 replace d:(u.set i (key,v,()))[j]?=some x:=d
 grind
def afv {ops:Array Oper} (W:∀(i:Nat) (o:Oper),ops.toList[i]?=some o->o.guard=none) (hk:kc ops.toList) (I:(Nat->Prop)->Act->World->Prop)
 (ag:∀(L:Nat->Prop) (i:Nat) (o:Oper) (a:Act) (w:World),ops.toList[i]?=some o->¬L i->(∀j∈dP o,L j)->nP ops.toList L->I L a w->o.wp P a w (I λj=>j=i\/L j) Q)
 (O:∀(L L':Nat->Prop) (a:Act) (w:World),(∀j,L j↔L' j)->I L a w->I L' a w)
 (y:∀(L:Nat->Prop) (a:Act) (w:World),(∀i,i<ops.size->L i)->I L a w->Q .normal a w):
 ∀(d:Nat) (b:Array Bool) (a:Act) (w:World),b.size=ops.size->nP ops.toList (cp b)->I (cp b) a w->
  (∃U:List Nat,U.length<=d/\∀i,i<ops.size->¬cp b i->i∈U)->wpAny P .any ops Q d b a w:=by
 have z:∀i,i<ops.size->ops.toList[i]?=some ops[i]!:=by
  simp_all
 have ad:∀(b:Array Bool),b.size=ops.size->Region.ready .any ops b=[]->∀n i,i<n->i<ops.size->cp b i:=by
  intro b f C n
  induction n with
  |zero=>intro i h;omega
  |succ n D=>
   intro i hi g;apply hN;intro e;have:i∈Region.ready .any ops b:=(ll f i).2 ⟨_,z i g,e,λj c=>by
    have:=hk.eA i _ (z i g) j c
    grind⟩
   simp_all
 intro d
 induction d with
 |zero=>
  intro b a w f _ hi l;obtain ⟨U,u,v⟩:=l;have ai:U=[]:=hO.1 (Nat.le_zero.1 u);have K:∀i,i<ops.size->cp b i:=λi hi=>hN λe=>by simp_all
  refine ⟨?_,y _ a w K hi⟩;apply y8.2
  grind [ll]
 |succ d D=>
  intro b a w f x hi l;refine ⟨λC=>y _ a w (λi hi=>ad b f C (i+1) i (nL i) hi) hi,λi aa=>?_⟩;obtain ⟨o,r,e,J⟩:=(ll f i).1 aa;have g:i<ops.size:=(b6.1 r).1;have q:i<b.size:=by omega
  obtain ⟨U,u,v⟩:=l;have af:ops[i]?=some o:=by simp_all
  unfold wpOp;rw [af];simp only;rw [show Region.wanted o (yielded ops a.tmps)=true from by unfold Region.wanted;rw [W i o r],ay rfl];left;refine Oper.wp_mono (λa' w' X=>?_) (ag _ i o a w r e J x hi);refine D _ a' w' (by simp_all) ?_ (O _ _ _ _ (λj=>(jy q j).symm) X) ?_;intro j ah ae c k ac;rw [jy q] at c|-;rcases c with rfl|c
  simp_all;exact .inr (x j ah ae c k ac);have aj:=v i g e;refine ⟨U.erase i,by simp_all,λj c ab=>?_⟩;rw [jy q] at ab;simp_all
theorem aC.ap5 {G:Nat->Gh} {s d:St} {a:Act} {w:World} (h:aC F G s a w) (g:∀n,d.get n=s.get n\/d.get n=.un) (f:∀b,d.box b=s.box b) (j:d.sv=s.sv):aC F G d a w:=by
 have c:aC F G {d with tmps:=s.tmps} a w:=h.congr (λ_=>rfl) f j;exact ⟨c.box,c.cC,c.c6,c.b7,c.bQ,c.R,λn=>(g n).elim (λe=>by rw [e];exact c.tmps n) (λe=>by rw [e];exact .inl rfl),c.bT,c.fT,c.defers,c.nt,c.cU,c.sv,c.jF⟩
def aj6 {f:Nat->Bool} {k:St->Option Z} {r:Z}:∀(l:List Oper) (i:Nat) (s:St),yt E f k i l s=some r->
 ∃(V:Nat->TV) (T:Nat->St),T i=s/\k (T (i+l.length))=some r/\∀(j:Nat) (o:Oper),l[j]?=some o->∃d,o.dst=some d/\T (i+j+1)=(T (i+j)).put d (V (i+j))/\oh E o (T (i+j)) (V (i+j)) []/\
  (∀{Y:Type} (s:St) (k:St->Option Y),c9 E o s k=a8 E o s k)/\(f (i+j)=false->∀x∈o.op.operands.toList,∀c∈((T (i+j)).ev x).aI,∃y,(T (i+j)).box c=some y/\y.cn=false):=by
 intro l
 induction l with
 |nil=>intro i s h;exact ⟨λ_=>.un,λ_=>s,rfl,h,λj o b=>by cases b⟩
 |cons o l I=>
  intro i s h;unfold yt at h;split at h;rotate_left;cases h;rename_i e;simp only [bt,fC,hp] at e;obtain ⟨⟨⟨U,C⟩,D⟩,h4⟩:=e;obtain ⟨d,q⟩:=zc.1 h4;have n:a8 E o s (yt E f k (i+1) l)=some r/\∀{Y:Type} (s:St) (k:St->Option Y),c9 E o s k=a8 E o s k:=by
   grind [c9]
  obtain ⟨v,new,g,O,z⟩:=Wf C n.1;obtain rfl:=z D;have u:s.step o.dst v []=s.put d v:=by rw [q];rfl
  rw [u] at g;obtain ⟨V,T,aa,ab,K⟩:=I (i+1) _ g;refine ⟨λj=>if j=i then v else V j,λj=>if j=i then s else T j,by simp,?_,λj J b=>?_⟩
  grind
  ·cases j with
   |zero=>
    obtain rfl:=b2 b;refine ⟨d,q,?_,?_,n.2,λW x X c e=>?_⟩
    all_goals grind
   |succ j=>
    have:=K j J (by simpa using b)
    grind
open Classical in
noncomputable def gL (ops:List Oper) (V:Nat->TV) (s:St) (L:Nat->Prop) (n:Nat):TV:=
 if h:∃j,j<10/\L j/\∃o,ops[j]?=some o/\o.dst=some n then V h.choose else s.get n
section
variable {ops:List Oper} {V:Nat->TV} {L L':Nat->Prop}
theorem k5 (hk:kc ops) {j:Nat} (g:j<10) (e:L j) {o:Oper} (d:ops[j]?=some o) {n:Nat} (b:o.dst=some n):gL ops V s L n=V j:=by
 unfold gL;have c:∃j,j<10/\L j/\∃o,ops[j]?=some o/\o.dst=some n:=⟨j,g,e,o,d,b⟩
 rw [dif_pos c];obtain ⟨_,_,l,h,f⟩:=c.choose_spec;rw [hk.b3 j o d n b _ l h f]
theorem l2 {b:Nat} (h:∀(j:Nat) (o:Oper),j<10->L j->ops[j]?=some o->o.dst≠some b):gL ops V s L b=s.get b:=by
 unfold gL
 grind
def agq (hk:kc ops) (n:nP ops L) {i:Nat} {o:Oper} (q:ops[i]?=some o) (hi:¬L i) (D:∀j∈dP o,L j) (I:i<=10) {x:Nat} (z:x∈eZ ops o):gL ops V s L x=gL ops V s (· <i) x:=by
 by_cases y:∃j b,j<10/\ops[j]?=some b/\b.dst=some x
 obtain ⟨j,b,J,c,d⟩:=y;rcases hk.tM i o q x z j b c d with h|⟨C,r⟩
 have K:=hk.eA i o q j h
 grind [k5]
 have O:¬L j:=λu=>hi (te hk n (j+1) j b (nL j) c (n j b c u) i r)
 rw [l2 λg l _ v f e=>by have:=hk.b3 j b c x d g l f e;simp_all,
  l2 (L:=(· <i)) λg l _ v f e=>by have:=hk.b3 j b c x d g l f e;omega]
 grind [l2]
theorem tA (hk:kc ops) {i:Nat} {o:Oper} (e:ops[i]?=some o) (c:i<10) {d:Nat} (b:o.dst=some d) (n:Nat):gL ops V s (λj=>j=i\/L j) n=if d=n then V i else gL ops V s L n:=by
 grind [k5,l2]
end
def ahx {K:Ty} {c:TV} {k:List (K.ai×Int×Unit)->Option Z} {r:Z} (h:h0 K c k=some r):∃xs:List (K.ai×Int×Unit),c=.tup (.ab (.slice (eu K)) xs)/\k xs=some r:=by
 unfold h0 at h;split at h;rotate_left;cases h;rename_i u xs;split at h;rotate_left;cases h;rename_i y b;unfold cG at b;split at b
 all_goals grind
def agX {K:Ty} {v:TV} {k:K.ai->Option Z} {r:Z} (h:jV K v k=some r):∃key,v=.ad K key/\k key=some r:=by
 unfold jV at h;split at h;rotate_left;cases h;rename_i u x;split at h;rotate_left;cases h;rename_i y b;unfold cG at b;split at b
 all_goals grind
theorem ahw {K:Ty} (xs:List (K.ai×Int×Unit)) (k:List (K.ai×Int×Unit)->Option Z):h0 K (.tup (.ab (.slice (eu K)) xs)) k=k xs:=by
 grind [h0,mY]
theorem Vo {K:Ty} (key:K.ai) (k:K.ai->Option Z):jV K (.ad K key) k=k key:=by
 unfold jV;simp only;rw [mY (a:=K) key]
theorem EV {ops:List Oper} {V:Nat->TV} {L L':Nat->Prop} (hk:kc ops) (h:∀j,j<10->(L j↔L' j)) (n:Nat):gL ops V s L n=gL ops V s L' n:=by
 grind [k5,l2]
theorem agG (a7:dk P E F) (b1:e8 P E) {ops:Array Oper} {k:St->Option Z} {r:Z} (h:aC F G s a w) (hk:LM E ops.toList k s=some r) (cf:∀G s a w,aC F G s a w->k s=some r->Q .normal a w):
 wpAny P .any ops Q ops.size (Array.replicate ops.size false) a w:=by
 generalize gq:ops.toList=q at hk;have cN:ops.size=q.length:=by rw [<-gq];rfl
 unfold LM at hk;split at hk;rotate_left;cases hk;rename_i bJ bK bL bM bN bO aa aD a5 ap a4;split at hk;rotate_left;cases hk;rename_i t m X bX dd m8 cY cD ag cE dc D U aS bi bo bj aF bk aT c5 c7;split at hk;rotate_left;cases hk;rename_i aA;simp only [bt] at aA;obtain ⟨⟨⟨⟨⟨⟨⟨⟨⟨⟨⟨⟨⟨⟨bQ,bR⟩,c3⟩,bS⟩,bT⟩,bU⟩,bV⟩,bW⟩,cB⟩,cA⟩,bs⟩,⟨bu,bb⟩⟩,aG⟩,ci⟩,ck⟩:=aA;obtain rfl:=gj bQ;obtain rfl:=gj bR;obtain rfl:=gj c3;obtain rfl:=gj bS;obtain rfl:=gj bT;obtain rfl:=gj bU;obtain rfl:=gj bV;obtain rfl:=gj bW;have u:=UI ci;rw [mem_iff] at bu bb aG;have ch:ag<E.nt:=by simp_all
 have cK:U<E.nt:=by simp_all
 simp only [hp,Bool.or_eq_false_iff] at bs;obtain ⟨⟨⟨c0,c2⟩,c4⟩,n4⟩:=bs;have bI:∀{l:List Nat} {n:Nat},mem l n=false->n∉l:=λJ C=>by rw [(mem_iff _ _).2 C] at J;cases J
 have aN:=bI c0;have bC:=bI c2;simp only [el,q1,or_false,gN] at aN bC;have bE:aa.dst≠some D/\aa.dst≠some X:=⟨λe=>by simp [nc,e] at c4,λe=>by simp [nc,e] at n4⟩;obtain ⟨bP,T,cg,I,bG⟩:=aj6 _ _ _ hk;simp only [jg,List.length_nil,ka] at I bG;split at I;rotate_left;cases I;rename_i K b v bz bd cr;unfold b5 at I;split at I;rotate_left;cases I;rename_i bx cJ
 try dsimp only at I
 split at I;rotate_left;cases I;rename_i bH;have be:=a7.maps _ K bz;obtain ⟨cZ,cF,cS,cQ,cR,bc⟩:=qx be;obtain ⟨xs,aA,I⟩:=ahx I;obtain ⟨key,bD,I⟩:=agX I;generalize ak:[bJ,bK,bL,bM,bN,bO,aa,aD,a5,ap,a4]=q at*;have bv:q[6]?=some aa:=by rw [<-ak];rfl
 have aK:q[7]?=some aD:=by rw [<-ak];rfl
 have ar:q[8]?=some a5:=by rw [<-ak];rfl
 have am:q[9]?=some ap:=by rw [<-ak];rfl
 have aJ:q[10]?=some a4:=by rw [<-ak];rfl
 have cM:q.length=11:=by rw [<-ak];rfl
 have cP:∀j,j<8->[bJ,bK,bL,bM,bN,bO,aa,aD][j]?=q[j]?:=by
  intro j az;rw [<-ak]
  match j,az with
  |0,_|1,_|2,_|3,_|4,_|5,_|6,_|7,_=>rfl
 have cL:∀(i:Nat) (o:Oper),q[i]?=some o->o.guard=none:=λi o z=>by
  have:=eT.1 ck o (cz z);simpa using this
 clear hk ak;obtain ⟨V,b7⟩:∃V:Nat->TV,V=λj=>if j<8 then bP j else if j=8 then .tup (.cons (.ad (.int .i64) (cX K key xs)) (.cons (.ad (.int .i64) ((jz K key xs:Nat):Int)) .unit)) else .ad (.int .i64) ((jz K key xs:Nat):Int):=⟨_,rfl⟩
 have b3:V 8=.tup (.cons (.ad (.int .i64) (cX K key xs)) (.cons (.ad (.int .i64) ((jz K key xs:Nat):Int)) .unit)):=by rw [b7];rfl
 have b6:V 9=.ad (.int .i64) ((jz K key xs:Nat):Int):=by rw [b7];rfl
 have aP:∀(j:Nat) (o:Oper),j<8->q[j]?=some o->∃d,o.dst=some d/\T (j+1)=(T j).put d (V j)/\oh E o (T j) (V j) []/\(∀{Y:Type} (s:St) (k:St->Option Y),c9 E o s k=a8 E o s k)/\
  ((mem (dP a5) j||Nat.beq j 6)=false->∀x∈o.op.operands.toList,∀c∈((T j).ev x).aI,∃y,(T j).box c=some y/\y.cn=false):=λj o az z=>by
  simp_all
 clear bG;have a9:∀j,j<=8->(∀c,(T j).box c=s.box c)/\(T j).sv=s.sv/\∀n,(T j).get n=gL q V s (· <j) n:=by
  intro j
  induction j with
  |zero=>intro _;rw [cg];exact ⟨λ_=>rfl,rfl,λn=>(l2 λj o _ C _ _=>by omega).symm⟩
  |succ j cy=>
   intro az;obtain ⟨ct,cv,cx⟩:=cy (by omega);have z:q[j]?=some q[j]:=ba (by omega);obtain ⟨d,ac,aR,_⟩:=aP j _ (by omega) z;rw [aR];refine ⟨λc=>ct c,cv,λn=>?_⟩;rw [i3,cx,<-tA u z (by omega) ac];exact EV u (λi _=>by omega) n
 obtain ⟨br,c6,aL⟩:=a9 8 (cV _);have bF:s.box b=some bx:=by simp_all
 have bw:∀n,gL q V s (· <10) n=if U=n then V 9 else if ag=n then V 8 else (T 8).get n:=λn=>by
  rw [aL,<-tA u ar (by omega) aF,<-tA u am (by omega) aT];exact EV u (λi _=>by omega) n
 have ya:∀{o:Oper} {n:Nat},.tmp n∈o.op.operands.toList->n∈eZ q o:=λaf=>by
  unfold eZ;exact bp.2 (.inl (uS.2 ⟨_,af,rfl⟩))
 have aQ:(T 6).get D=.mp b/\(T 6).get X=.ad K key:=by
  obtain ⟨cC,ac,aR,_⟩:=aP 6 aa (by omega) bv;obtain ⟨bX,aE,bm,_⟩:=aP 7 aD (by omega) aK;rw [bo] at aE;obtain rfl:=b2 aE;rw [<-bd,<-bD,bm,i3,au (λe=>aN.1 e.symm),aR,i3,au (λe=>bE.1 (by rw [ac,e])),i3,au (λe=>bC.1 e.symm),i3,au (λe=>bE.2 (by rw [ac,e]))];simp_all
 have aY:8∈dP ap:=(u.tM 9 ap am ag (ya (da bk (by simp [Op.operands]))) 8 a5 ar aF).resolve_right λh=>by omega
 have cI:({bx with c:=.tup (.ab (.slice (eu K)) xs)}:bl)=bx:=by rw [<-aA]
 refine afv (ops:=ops) (by grind) (by rw [gq];exact u) (λL a w=>∃G f,aC F G f a w/\(∀n,f.get n=gL q V s L n)/\f.sv=s.sv/\(∀c,c≠b->f.box c=s.box c)/\
  ∃g:List (K.ai×Int×Unit),f.box b=some {bx with c:=.tup (.ab (.slice (eu K)) g)}/\(L 10->g=dz K key v xs)/\(¬L 10->L 8->g=dz K key (cX K key xs) xs)/\(¬L 10->¬L 8->g=xs)) ?_ ?_ ?_ _ _ a w (by simp) ?_ ?_ ?_
 rw [gq];rintro L i o a w z an aM aj ⟨G,f,O,W,a1,av,g,ae,aU,aV,bq⟩;have cc:L 10->L 8:=λh=>aj 9 ap am (aj 10 a4 aJ h 9 aG) 8 aY
 have hi:i<11:=by grind
 have a3:∀n,.tmp n∈o.op.operands.toList->f.get n=gL q V s (· <i) n:=λn af=>by
  rw [W];exact agq u aj z an aM (by omega) (ya af)
 have dv:∀{s1:St} {G1:Nat->Gh} {aX:Act} {bn:World} {d:Nat},i<8->o.dst=some d->s1=f.put d (V i)->aC F G1 s1 aX bn->∃G f,aC F G f aX bn/\(∀n,f.get n=gL q V s (λj=>j=i\/L j) n)/\f.sv=s.sv/\(∀c,c≠b->f.box c=s.box c)/\
  ∃g:List (K.ai×Int×Unit),f.box b=some {bx with c:=.tup (.ab (.slice (eu K)) g)}/\((10=i\/L 10)->g=dz K key v xs)/\(¬(10=i\/L 10)->(8=i\/L 8)->g=dz K key (cX K key xs) xs)/\(¬(10=i\/L 10)->¬(8=i\/L 8)->g=xs):=by
  intro s1 G1 aX bn d h8 b9 e ao;subst e;refine ⟨G1,_,ao,λn=>by rw [i3,tA u z (by omega) b9,W],a1,av,g,ae,λh=>aU (h.resolve_left (by omega)),λJ C=>aV (λh=>J (.inr h)) (C.resolve_left (by omega)),λJ C=>bq (λh=>J (.inr h)) λh=>C (.inr h)⟩
 by_cases h8:i<8;obtain ⟨d,ac,aR,aE,bm,db⟩:=aP i o h8 z;by_cases h6:i=6;subst h6;rw [bv] at z;obtain rfl:=b2 z;have aq:f.get D=.mp b:=by rw [a3 D (da bi (by simp [Op.operands])),<-(a9 6 (by omega)).2.2];exact aQ.1
 have aH:f.get X=.ad K key:=by rw [a3 X (da bi (by simp [Op.operands])),<-(a9 6 (by omega)).2.2];exact aQ.2
 have cW:cX K key g=cX K key xs:=by
  have a0:¬L 10:=λh=>an (aj 7 aD aK (aj 10 a4 aJ h 7 bb) 6 bu)
  by_cases ah:L 8;rw [aV a0 ah,Mr bc];rw [bq a0 ah]
 have cb:∀{Y:Type} (a6:St) (zs:List (K.ai×Int×Unit)) (aZ:bl) (k:St->Option Y),a6.get D=.mp b->a6.get X=.ad K key->a6.box b=some aZ->aZ.c=.tup (.ab (.slice (eu K)) zs)->a8 E aa a6 k=k (a6.put d (.ad (.int .i64) (cX K key zs))):=by
  intro Y a6 zs aZ k J C cd h4;unfold a8;rw [bi];simp only [bz,St.ev,J,C];unfold b5;rw [cd];simp only;rw [h4,ahw,Vo];unfold dm;rw [ac]
 have cH:V 6=.ad (.int .i64) (cX K key xs):=by
  have:=aE.2 (T 6) (λx _=>⟨rfl,λ_ _ _ h=>h⟩) (λx af=>by cases af) some;rw [cb (T 6) xs bx some aQ.1 aQ.2 (by simp_all) aA] at this;have:=dB (λt=>St.get t d) (b2 this);simp only [i3,cu] at this;rw [this];have e:((T 6).step aa.dst (V 6) []).get d=((T 6).put d (V 6)).get d:=by rw [ac];rfl
  rw [e,i3,ay rfl]
 have al:c9 E aa f some=some (f.put d (V 6)):=by grind
 refine Oper.wp_mono (λa' w' aB=>?_) (yn a7 b1 G f a w Q aa some _ O al);obtain ⟨aW,s1,ao,e⟩:=aB;exact dv h8 ac (b2 e) ao;have co:∀x∈o.op.operands.toList,f.ev x=(T i).ev x/\Ag f (T i) ((T i).ev x):=λx af=>by
  refine ⟨?_,λc aw y bh=>?_⟩;cases x with
  |tmp n=>exact (a3 n af).trans ((a9 i (by omega)).2.2 n).symm
  |_=>rfl
  rw [(a9 i (by omega)).1] at bh;by_cases e:c=b;subst e;rw [bF] at bh;obtain rfl:=b2 bh;cases bA:(mem (dP a5) i||Nat.beq i 6) with
  |false=>
   grind
  |true=>
   rw [fC] at bA;have cq:=(mem_iff _ _).1 (bA.resolve_right λh=>h6 (gj h));have cO:¬L 8:=λh=>an (aj 8 a5 ar h i cq)
   simp_all
  simp_all
 have al:c9 E o f some=some (f.put d (V i)):=by rw [bm,aE.2 f co (λx af=>by cases af),ac];rfl
 refine Oper.wp_mono (λa' w' aB=>?_) (yn a7 b1 G f a w Q o some _ O al);obtain ⟨aW,s1,ao,e⟩:=aB;exact dv h8 ac (b2 e) ao;by_cases bZ:i=8;subst bZ;rw [ar] at z;obtain rfl:=b2 z;have aq:f.get D=.mp b:=by rw [a3 D (da bj (by simp [Op.operands])),<-aL];exact bd
 have aH:f.get X=.ad K key:=by rw [a3 X (da bj (by simp [Op.operands])),<-aL];exact bD
 have a0:¬L 10:=λh=>an (cc h)
 obtain rfl:=bq a0 an;have bg:VR (ax f.box G) w F.R (.mp b) (a.eval (.tmp D)):=by
  have:=cw O (.tmp D);rw [show f.ev (.tmp D)=.mp b from aq] at this;exact this
 have cs:VR (ax f.box G) w F.R (.ad K key) (a.eval (.tmp X)):=by
  have:=cw O (.tmp X);rw [show f.ev (.tmp X)=.ad K key from aH] at this;exact this
 obtain ⟨a2,cl,cm,cj⟩:=LU (k:=some) (r:=key) bc cs (Vo key some);obtain rfl:=b2 cl;obtain ⟨w',al,hrel⟩:=ahy O be bg ae bH rfl cm cj;have aO:=hrel.put (d:=ag) (v:=V 8) (x:=.tuple #[.int .i64 (cX K a2 g),.int .i64 (jz K a2 g)]) (by rw [<-a7.nt];exact ch) (by rw [b3];exact ⟨[.int .i64 _,.int .i64 _],⟨.inr ⟨_,⟨rfl,trivial,rfl⟩,rfl⟩,.inr ⟨_,⟨rfl,trivial,rfl⟩,rfl⟩,trivial⟩,rfl⟩);rw [<-aF] at aO;refine c1 (v:=.tuple #[.int .i64 (cX K a2 g),.int .i64 (jz K a2 g)]) (w':=w') ?_ ⟨G,_,aO,λn=>?_,a1,λc aw=>?_,dz K a2 (cX K a2 g) g,?_,λh=>absurd (h.resolve_left (by omega)) a0,λ_ _=>rfl,λ_ h=>absurd (.inl rfl) h⟩;unfold execOp;rw [bj];simp only [Sem.run_bind,al];rfl;rw [i3,tA u ar (by omega) aF,<-W];rfl;rw [xy,kk _ _ _ _ ae,au (kM aw)];exact av c aw;rw [xy,kk _ _ _ _ ae,ay rfl];by_cases ca:i=9;subst ca;rw [am] at z;obtain rfl:=b2 z;have ah:L 8:=aM 8 aY;have aq:f.get ag=V 8:=by rw [W];exact k5 u (by omega) ah ar aF
 have a0:¬L 10:=λh=>an (aj 10 a4 aJ h 9 aG)
 have al:a8 E ap f some=some (f.put U (V 9)):=by
  unfold a8;rw [bk];simp only [St.ev,aq,b3];unfold dm;rw [aT,b6];rfl
 refine Oper.wp_mono (λa' w' aB=>?_) (UR O a7 bk (λd b9=>by simp_all) al);obtain ⟨aW,s1,ao,e⟩:=aB;obtain rfl:=b2 e;exact ⟨aW,_,ao,λn=>by rw [i3,tA u am (by omega) aT,W],a1,av,g,ae,λh=>aU (h.resolve_left (by omega)),λJ _=>aV (λh=>J (.inr h)) ah,λ_ C=>absurd (.inr ah) C⟩;obtain rfl:i=10:=by omega
 rw [aJ] at z;obtain rfl:=b2 z;have b0:L 9:=aM 9 aG;have ah:L 8:=aj 9 ap am b0 8 aY;obtain rfl:=aV an ah;have aq:f.get D=.mp b:=by
  rw [a3 D (da c5 (by simp [Op.operands])),bw,au (λe=>aN.2.2 e.symm),au (λe=>aN.2.1 e.symm)];exact bd
 have aH:f.get U=V 9:=by rw [W];exact k5 u (by omega) b0 am aT
 have bY:f.get aS=.ad (.int .i64) v:=by
  rw [W,<-cr,aL,k5 u (by omega) (aM 7 bb) aK bo,k5 (L:=(· <8)) u (by omega) (by omega) aK bo]
 have bg:VR (ax f.box G) w F.R (.mp b) (a.eval (.tmp D)):=by
  have:=cw O (.tmp D);rw [show f.ev (.tmp D)=.mp b from aq] at this;exact this
 have cT:a.eval (.tmp U)=.int .i64 (jz K key xs:Nat):=by
  have:=cw O (.tmp U);rw [show f.ev (.tmp U)=V 9 from aH,b6] at this;exact this.int
 have cU:a.eval (.tmp aS)=.int .i64 v:=by
  have:=cw O (.tmp aS);rw [show f.ev (.tmp aS)=_ from bY] at this;exact this.int
 obtain ⟨de,c8,z3⟩:=ahR bc key xs (cX K key xs);obtain ⟨w',al,hrel⟩:=afC O be bg ae bH rfl c8 v;replace hrel:=(dB (λzs:List (K.ai×Int×Unit)=>aC F G (f.b4 b {bx with c:=.tup (.ab (.slice (eu K)) zs)}) a w') (z3 v)).mp hrel;have aO:aC F G (f.b4 b {bx with c:=.tup (.ab (.slice (eu K)) (show List (K.ai×Int×Unit) from dz K key v xs))}) (a.put a4.dst undef) w':=by rw [c7];exact hrel
 refine OC (w':=w') ?_ ⟨G,_,aO,λn=>?_,a1,λc aw=>?_,dz K key v xs,?_,λ_=>rfl,λh=>absurd (.inl rfl) h,λh=>absurd (.inl rfl) h⟩;unfold execOp;simp_all;show f.get n=_;rw [W];exact EV u (λj az=>⟨.inr,λh=>h.resolve_left (by omega)⟩) n;rw [kk _ _ _ _ ae,au (kM aw)];exact av c aw;rw [kk _ _ _ _ ae,ay rfl];intro L L' a w ce cG;have:L=L':=funext λj=>propext (ce j)
 simp_all;rintro L a w b8 ⟨G,f,O,W,a1,av,g,ae,aU,_,_⟩;obtain rfl:=aU (b8 10 (by omega));refine cf G _ a w (O.ap5 (λn=>?_) (λc=>?_) ?_) I;have e:((((T 8).put ag .un).put U .un).b4 b {bx with c:=.tup (.ab (.slice (eu K)) (show List (K.ai×Int×Unit) from dz K key v xs))}).get n=if U=n then .un else if ag=n then .un else (T 8).get n:=by
  rw [<-i3,<-i3];rfl
 by_cases J:U=n;simp_all;by_cases C:ag=n;simp_all;refine .inl (e.trans ?_);rw [au J,au C];rw [W,EV u (L':=(· <10)) (λj az=>⟨λ_=>az,λ_=>b8 j (by omega)⟩),bw,au J,au C];rw [kk _ _ _ bx (by show (T 8).box b=_;rw [br];exact bF)];split;simp_all;rename_i e;rw [av c (kM e)];exact br c;show (T 8).sv=_;rw [c6,a1];rw [gq];intro i o _ hi;exact absurd hi (by
  unfold cp;rw [jI,GW];split<;>simp)
 have bf:∀i,¬cp (Array.replicate ops.size false) i:=by
  intro i bB;unfold cp at bB;rw [jI,GW] at bB
  grind
 exact ⟨G,s,h,λn=>(l2 λj o _ C _ _=>bf j C).symm,rfl,λ_ _=>rfl,xs,by simp_all,λh=>absurd h (bf 10),λ_ h=>absurd h (bf 8),λ_ _=>rfl⟩;exact ⟨List.range ops.size,by simp,λi hi _=>g2.2 hi⟩
end
section
variable {P:Program} {E:an} {F:Fr} {Q:Exit->Act->World->Prop}
def Wh {Z:Type} (c:dk P E F) (d:e8 P E) {b:Bool} (G:Nat->Gh) (s:St) (a:Act) (w:World) (Q:Exit->Act->World->Prop) (o:Oper) (k:St->Option Z) (r:Z) (h:aC F G s a w) (hk:nq E b o s k=some r):o.wp P a w (cf F k r) Q:=by
 cases b with
 |false=>exact yn c d G s a w Q o k r h hk
 |true=>
  grind [nq,dT,an3]
def afu (a6:dk P E F) (an:e8 P E) {ops:Array Oper} {Z:Type} {kn:St->Option Z} {rn:Z} (hk:kc ops.toList) (bj:∀G s a w,aC F G s a w->kn s=some rn->Q .normal a w):
 ∀(ah:Nat) (q:Array Bool) (a:Act) (w:World) (L0:Nat->Prop) (hi:Nat) (T:Nat->St) (G:Nat->Gh) (s:St),q.size=ops.size->gm E ops.toList (ops.toList.zip (jl ops.toList)) kn rn L0 hi T->aC F G s a w->
  nP ops.toList (cp q)->(∀i,L0 i->cp q i)->(∀i,hi<=i->i<ops.size->¬cp q i)->Jn ops.toList (cp q) L0 hi T s->
  (∃U:List Nat,U.length<=ah/\∀i,i<ops.size->¬cp q i->i∈U)->wpAny P .any ops Q ah q a w:=by
 have bw:ops.toList.length=ops.size:=rfl;have aS:E.wV:=⟨λf ids c h=>(an.fn f ids c h).L2,an.hW⟩;have aZ:∀i,i<ops.size->ops.toList[i]?=some ops[i]!:=by
  simp_all
 have b0:∀(q:Array Bool),q.size=ops.size->Region.ready .any ops q=[]->∀n i,i<n->i<ops.size->cp q i:=by
  intro q aq K n
  induction n with
  |zero=>intro i h;omega
  |succ n a2=>
   intro i hi ao;apply hN;intro X;have:i∈Region.ready .any ops q:=(ll aq i).2 ⟨_,aZ i ao,X,λj r=>by
    have:=hk.eA i _ (aZ i ao) j r
    grind⟩
   simp_all
 have aW:∀(q:Array Bool) (a:Act) (w:World) (L0:Nat->Prop) (hi:Nat) (T:Nat->St) (G:Nat->Gh) (s:St),gm E ops.toList (ops.toList.zip (jl ops.toList)) kn rn L0 hi T->aC F G s a w->
  (∀i,hi<=i->i<ops.size->¬cp q i)->Jn ops.toList (cp q) L0 hi T s->(∀i,i<ops.size->cp q i)->Q .normal a w:=by
  intro q a w L0 hi T G s S h ax J aA;have bU:=S.len;have g:=J.tz S (λi bT=>aA i (by omega));rcases S.stop with ⟨_,e⟩|⟨o,U,aP,I,_⟩
  exact bj G (T hi) a w (h.congr g.get g.box g.sv) e
  grind
 have bm:(ops.toList.zip (jl ops.toList)).map Prod.fst=ops.toList:=by
  rw [List.map_fst_zip];simp [jl]
 intro ah
 induction ah with
 |zero=>
  intro q a w L0 hi T G s aq S h ae az ax J a8;obtain ⟨U,aT,aU⟩:=a8;have bP:U=[]:=hO.1 (Nat.le_zero.1 aT);have aA:∀i,i<ops.size->cp q i:=λi hi=>hN λX=>by simp_all
  refine ⟨?_,aW q a w L0 hi T G s S h ax J aA⟩;apply y8.2
  grind [ll]
 |succ ah a2=>
  intro q a w L0 hi T G s aq S h ae az ax J a8;refine ⟨λK=>aW q a w L0 hi T G s S h ax J (λi hi=>b0 q aq K (i+1) i (nL i) hi),λi bn=>?_⟩;obtain ⟨o,I,X,am⟩:=(ll aq i).1 bn;have ao:i<ops.size:=(b6.1 I).1;have ag:i<q.size:=by omega
  obtain ⟨U,aT,aU⟩:=a8;have a9:∃U:List Nat,U.length<=ah/\∀j,j<ops.size->¬cp (q.setIfInBounds i true) j->j∈U:=by
   have bV:=aU i ao X;refine ⟨U.erase i,by simp_all,λj r bs=>?_⟩;rw [jy ag] at bs;simp_all
  have aL:(q.setIfInBounds i true).size=ops.size:=by simp_all
  have aB:nP ops.toList (cp (q.setIfInBounds i true)):=by
   intro j C aa r k bt;rw [jy ag] at r|-;rcases r with rfl|r
   simp_all;exact .inr (ae j C aa r k bt)
  have ba:ops[i]?=some o:=by simp_all
  have aF:¬L0 i:=λh=>X (az i h)
  by_cases ai:i<hi
  ·
   have bx:=J.cL h hk S ae ai I X am;have ap:∀x∈eZ ops.toList o,s.get x=(T i).get x:=λx u=>J.ya hk S ae ai I X am u
   have aX:∀j,hi<=j->j<ops.size->¬cp (q.setIfInBounds i true) j:=by
    intro j r aH;rw [jy ag]
    grind
   have aY:∀j,L0 j->cp (q.setIfInBounds i true) j:=λj r=>(jy ag j).2 (.inr (az j r))
   unfold wpOp;rw [ba];simp only;rcases S.step i o ai I aF with ⟨al,v,new,a7,aJ,bh⟩|⟨al,a7⟩
   ·rw [Oz h ap al,ay rfl];left;have bz:∀x∈new,s.box x.1=none:=by
     intro x u;obtain ⟨d,a4,ar,av⟩:=aJ.1 x u;have a1:¬iX ops.toList (cp q) L0 hi (x.1/32):=by
      rintro ⟨j,C,_,_,a3,aN,bB⟩;have:=hk.b3 i o I (x.1/32) (by rw [a4,ar]) j C aN bB;simp_all
     rw [J.oA _ a1];cases ad:(T 0).box x.1 with
     |none=>rfl
     |some y=>
      have:=S.mono (m:=0) i (by omega) ad;simp_all
    have aK:c9 E o s some=some (s.step o.dst v new):=by rw [bh,aJ.2 s bx bz]
    refine Oper.wp_mono (λa' w' ak=>?_) (yn a6 an G s a w Q o some _ h aK);obtain ⟨ac,aw,K,e⟩:=ak;obtain rfl:=b2 e;exact a2 _ a' w' L0 hi T ac _ aL S K aB aY aX (J.next hk S ai I X aF a7 (λx u=>(aJ.1 x u).imp λd af=>⟨af.1,af.2.1⟩) (λj=>jy ag j)) a9
   ·rw [Oz h ap al,au (by simp)];have K:aC F G (s.step o.dst (.tup .unit) []) (a.put o.dst undef) w:=by
     cases bR:o.dst with
     |none=>exact h
     |some e=>exact h.MY e
    exact a2 _ _ w L0 hi T G _ aL S K aB aY aX (J.next hk S ai I X aF a7 (λx u=>by cases u) (λj=>jy ag j)) a9
  ·
   rcases S.stop with ⟨e,_⟩|⟨ab,bc,aP,b4,b7,b5,dy⟩
   omega
   ·obtain ⟨aj,aV⟩:=aeC b4;have ai:i=hi:=by
     apply hN;intro bW;have ad:=(aV i ao).2 (by omega);have:=te hk ae (i+1) i o (nL i) I am hi ad
     grind
    subst ai;rw [aj] at I;obtain rfl:=b2 I;have b1:∀j,i+1<=j->j<ops.size->¬cp (q.setIfInBounds i true) j:=by
     intro j r aH;rw [jy ag]
     grind
    have next:∀(a':Act) (w':World) (ac:Nat->Gh) (s1 t:St) (O:Nat->St),aC F ac s1 a' w'->O 0=s1->(∀j C,j<i->ops.toList[j]?=some C->¬cp q j->jQ E ops.toList C (O j) (O (j+1)))->(∀j,j<i->cp q j->fP (O (j+1)) (O j))->fP t (O i)->
     iC E ops.toList kn ((ops.toList.zip (jl ops.toList)).drop (i+1)) t=some rn->wpAny P .any ops Q ah (q.setIfInBounds i true) a' w':=by
     intro a' w' ac s1 t O K bg bY bX bS af;obtain ⟨aG,aO,bO,a4,ar,av,a5⟩:=Xv aS ops.toList _ bm kn rn (ops.size-(i+1)) (i+1) t (by rw [bw];omega) af;have cb:∀j,j<i->(cp (q.setIfInBounds i true) j↔cp q j):=λj r=>by
      rw [jy ag];exact ⟨λh=>h.resolve_left (by omega),.inr⟩
     have bb:gm E ops.toList (ops.toList.zip (jl ops.toList)) kn rn (cp (q.setIfInBounds i true)) aG (λj=>if j<=i then O j else aO j):=by
      refine ⟨ar,λj C r aa D=>?_,λj r D=>?_,?_⟩;by_cases be:j<i
      grind
      have bN:j≠i:=λe=>D ((jy ag j).2 (.inl e))
      simp only [au (show ¬j<=i by omega),au (show ¬j+1<=i by omega)]
      grind
      by_cases be:j<i
      grind
      grind
      grind
     have a1:∀x,¬iX ops.toList (cp (q.setIfInBounds i true)) (cp (q.setIfInBounds i true)) aG x:=by
      rintro x ⟨j,C,_,aM,a3,_⟩;exact aM a3
     have e0:(λj=>if j<=i then O j else aO j) 0=s1:=by simp [bg]
     refine a2 _ a' w' _ aG _ ac s1 aL bb K aB (λj r=>r) (λj r aH=>b1 j (by omega) aH) ⟨λx u=>absurd u (a1 x),λx _=>(dB (λt=>St.get t x) e0).symm,λb u=>absurd u (a1 _),λb _=>(dB (λt=>St.box t b) e0).symm,(dB St.sv e0).symm⟩ a9
    unfold wpOp;rw [ba];simp only;have ap:∀x∈eZ ops.toList ab,s.get x=(T i).get x:=λx u=>by
     refine J.Gi S λ⟨j,C,bZ,aM,a3,aN⟩=>aM ?_
     exact am j ((hk.tM i ab aj x u j C a3 aN).resolve_right λh=>by omega)
    rw [Oz h ap b7,ay rfl];left;by_cases aE:∀j,j<i->cp q j
    ·
     have g:=J.tz S aE;have hrel:=h.congr g.get g.box g.sv;exact Oper.wp_mono (λa' w' ⟨ac,aw,K,af⟩=>next a' w' ac aw aw (λ_=>aw) K rfl (λj C r _ D=>absurd (aE j r) D) (λj _ _=>fP.rfl _) (fP.rfl _) af) (Wh a6 an G (T i) a w Q ab _ rn hrel dy)
    ·
     have a0:∀j,j<i->¬cp q j->j∈bc:=λj r D=>by
      rcases (aV j (by omega)).1 r with ad|ad
      exact absurd (te hk ae (i+1) i ab (nL i) aj am j ad) D;exact ad
     obtain ⟨bA,bo⟩:=Classical.not_forall.1 aE;obtain ⟨bq,br⟩:=Classical.not_imp.1 bo;obtain ⟨bu,aD⟩:=ap7 b5 (a0 bA bq br);obtain ⟨l,v,new,bD,bE,p3,bF⟩:=aii aS bu dy;obtain ⟨O,t0,bL,bM,t3⟩:=J.aeE hk S az aj (λn o X D I x u j C r aa af=>by
      rcases hk.tM n o I x u j C aa af with al|⟨al,aQ⟩
      exact al;rcases (aD n o (a0 n X D) I).1 x u j C aa af with aR|aR
      exact aR;by_cases e:j=i;subst e;rw [aj] at aa;obtain rfl:=b2 aa;exact absurd (te hk ae (j+1) j ab (nL j) aj am n aQ) D;by_cases bi:cp q j;exact absurd (te hk ae (j+1) j C (nL j) aa (ae j C aa bi) n aQ) D
      grind) (λj p r D ak=>(aD j p (a0 j r D) ak).2.1) (λj p r D ak=>(aD j p (a0 j r D) ak).2.2) bE p3
     have bf:∀x∈ab.op.operands.toList,s.ev x=(T i).ev x:=λx u=>by
      cases x with
      |tmp t=>exact ap t (by
       unfold eZ;exact bp.2 (.inl (uS.2 ⟨_,u,rfl⟩)))
      |_=>rfl
     have bd:eb (· ∈hh ab (T i)) s (T i):=λb ad=>by
      obtain ⟨ca,bv,bQ⟩:=List.mem_flatten.1 ad;obtain ⟨x,u,rfl⟩:=cQ.1 bv;obtain ⟨z,b8⟩:=VR.aI (cw h x) b (by grind);by_cases W:g5 ops.toList (cp q) i (b/32);obtain ⟨j,p,a4,ar,av,a5⟩:=W;have e0:s.box b=(T 0).box b:=J.oA b λ⟨b9,bC,_,_,r3,bI,bJ⟩=>by
       have:=hk.b3 j p av _ a5 b9 bC bI bJ
       grind
      have:=S.mono (m:=0) i (by omega) (e0▸b8)
      grind
      exact J.yE S W
     have bl:∀x∈new,(bK s l).box x.1=none:=λx u=>by
      obtain ⟨d,bG,bH,r3⟩:=p3 x u;rw [nv] at r3|-;have bk:¬g5 ops.toList (cp q) i (x.1/32):=λ⟨j,p,a4,ar,av,a5⟩=>by
       have:=hk.b3 i ab aj d bG j p av (by rw [a5,bH]);omega
      rw [J.yE S bk];exact r3
     have aK:nq E aP ab s some=some ((bK s l).step ab.dst v new):=bF s bd bf bl some;refine Oper.wp_mono (λa' w' ak=>?_) (Wh a6 an G s a w Q ab some _ h aK);obtain ⟨ac,aw,K,e⟩:=ak;obtain rfl:=b2 e;exact next a' w' ac _ _ O K t0 (λj C r aa D=>bL j C r aa D) bM t3 bD
def Xe {Z:Type} (g:dk P E F) (e:e8 P E) (y:P.follows .mixedOrders=true):Ql Z P E F:=by
 intro G s a w id ops C k r h hk;simp only [ha] at hk;unfold Xf at hk;cases C with
 |false=>
  simp only at hk;refine wp_region_list ?_;exact (aik (yn g e) ops (k .normal) r _ (λa w O=>O) ops.toList G s a w h hk)
 |true=>
  simp only at hk;split at hk;exact wp_region_any y (agG g e (h.shift ⟨cV _,rfl,rfl⟩ (λ_ _=>rfl) (λ_ _ _ _ _=>rfl) (λ_ _ _=>rfl)) hk λG s a w n q=>⟨G,s,n,q⟩);split at hk;cases hk;rename_i K;rw [aft] at hk;have v:=UI K;refine wp_region_any y (ap9 ?_);generalize ko ops.toList=cs at hk v;have I:(cs.zip (jl cs)).map Prod.fst=cs:=by
   rw [List.map_fst_zip];simp [jl]
  obtain ⟨hi,T,j,_,U,W,X⟩:=Xv ⟨λf ids c h=>(e.fn f ids c h).L2,e.hW⟩ cs _ I (k .normal) r cs.length 0 s (by simp) (by simpa using hk);have S:gm E cs (cs.zip (jl cs)) (k .normal) r (λ_=>False) hi T:=⟨U,λi o hi J _=>W i o (bL _) hi J,λi _ h=>h.elim,X⟩;have hrel:aC F G s a {w with drawn:=w.drawn+1}:=h.shift ⟨cV _,rfl,rfl⟩ (λ_ _=>rfl) (λ_ _ _ _ _=>rfl) (λ_ _ _=>rfl);have l:∀i,¬cp (Array.replicate cs.toArray.size false) i:=by
   intro i d;unfold cp at d;rw [jI,GW] at d
   grind
  have z:∀x,¬iX cs (cp (Array.replicate cs.toArray.size false)) (λ_=>False) hi x:=λx ⟨i,o,_,_,D,_⟩=>l i D
  exact afu (ops:=cs.toArray) g e v (λG s a w n q=>⟨G,s,n,q⟩) cs.toArray.size _ a _ _ hi T G s (by simp) S hrel (λi o _ d=>absurd d (l i)) (λi d=>d.elim) (λi _ _=>l i)
   ⟨λx u=>absurd u (z x),λx _=>by rw [j],λb u=>absurd u (z _),λb _=>by rw [j],by rw [j]⟩ ⟨List.range cs.toArray.size,by simp,λi d _=>g2.2 d⟩
end
section
variable {Z:Type} {P:Program} {E:an} {F:Fr} {G:Nat->Gh} {s:St} {a:Act} {w:World}
theorem akj {o:Nat}:∀(l:List (Nat×Ty)) (G:Nat->Gh) (s:St) (k:St->Option Z) (r:Z),aC F G s a w->F8 s o l k=some r->cf F k r a w:=by
 intro l
 induction l with
 |nil=>intro G s k r h hk;exact ⟨G,s,h,hk⟩
 |cons x l af=>
  intro G s k r h hk;obtain ⟨t,T⟩:=x;simp only [F8] at hk;split at hk;rotate_left;cases hk;rename_i W;have ak:=(h.tmps t).Gj (Eg hk);obtain ⟨G1,s1,c,f,κ,u,d⟩:=ow (.slice T) _ G s _ _ r h ak hk;split at u;rotate_left;cases u;rename_i y ad;obtain ⟨C,q,D⟩:=lU (.slice T) c f _ y d.fa ad;obtain ⟨ah,ai,aj⟩:=qz u;have U:=d.rel.drop (eg o t);obtain ⟨_,O⟩:=Lo d.rel (eg o t);have aa:hQ F G1 (s1.drop (eg o t)) w ⟨none,C⟩:=by
   refine ⟨by simpa [Gh.ae,q] using d.er.b7,λb e j z n=>?_,λb e=>?_⟩;have e:b∈f.ae:=by simpa [Gh.ae,q] using e
   rw [O] at n;split at n;cases n;cases I:s1.box j with
   |none=>rw [I] at n;cases n
   |some al=>exact d.er.out b e j al I
   exact d.er.bQ b (by simpa [Gh.ae,q] using e)
  have ac:=U.PB (x:=⟨.slice T,true,false,.ab (.slice T) y⟩) (g:=⟨none,C⟩) ah ai rfl (Ty.oJ (t:=.slice T) W) ⟨rfl,⟨T,rfl⟩,_,⟨rfl,D⟩⟩ aa;refine af _ _ k r (ac.F9 ?_) aj;obtain ⟨b,cap,ag,J,K,_,_,X,_⟩:=D;refine dF (v:=.sl (eg o t) []) (cs:=[_]) ⟨T,b,cap,ag,none,?_,by rw [K,X]⟩ rfl;rw [fu (lW _ _ _ _|>.trans (ay rfl))];simp only [fi,cu];rw [J];rfl
def agD {A:b0} {R:Nat->Prop} {c c':TV} (d:LK c=some c') {t:Ty} {ft:FT} {cs:List Value} (h:a1 A w R c t ft cs):a1 A w R c' t ft cs:=by
 unfold LK at d;split at d;rename_i t0 xs;cases d;obtain ⟨rfl,b,cap,o,rfl,rfl,f,j,l,h4⟩:=h;refine ⟨rfl,b,cap,o,rfl,rfl,f,j,l,List.length_replicate,?_⟩;cases b with
 |none=>exact h4
 |some b=>
  refine ⟨h4.1,λi x k g n hk e=>?_⟩;obtain ⟨q,u,r⟩:=h4.2 i x k n hk;have e:g=false:=qZ (cz e);simp_all
 cases d;exact h;cases d
def aC.akc (h:aC F G s a w) {b:Nat} {x:bl} (u:s.box b=some x) {c:TV} (I:∀(A:b0) (R:Nat->Prop) (t:Ty) (ft:FT) (cs:List Value),a1 A w R x.c t ft cs->a1 A w R c t ft cs) (J:x.cn=true):
 aC F G (s.b4 b {x with c:=c}) a w:=by
 have D:∀j,(s.b4 b {x with c:=c}).box j=if b=j then some {x with c:=c} else s.box j:=λj=>kk s b _ x u j
 have o:ax (s.b4 b {x with c:=c}).box G=ax s.box G:=by
  funext i q;unfold ax
  grind
 have cm:∀{j y},(s.b4 b {x with c:=c}).box j=some y->∃z,s.box j=some z/\y.ty=z.ty/\y.cn=z.cn/\y.dD=z.dD/\(y=z\/z=x/\y={x with c:=c}):=by
  grind
 refine ⟨λi y d=>?_,λi y d=>?_,λi j y z d f=>?_,λi y d=>?_,λi y d=>?_,h.R,λn=>?_,h.bT,h.fT,h.defers,h.nt,λi y d=>?_,λi n=>(by rw [o];exact h.sv i n),h.jF⟩;obtain ⟨z,f,g,r,_,l⟩:=cm d;have:=h.box i z f;rw [o];rcases l with rfl|⟨rfl,rfl⟩
 exact this;unfold dw at this|-
 grind
 obtain ⟨z,f,g,_⟩:=cm d;rw [g];exact h.cC i z f;obtain ⟨x',e,_⟩:=cm d;obtain ⟨C,v,_⟩:=cm f;exact h.c6 i j x' C e v;obtain ⟨x',e,_⟩:=cm d;exact h.b7 i x' e;obtain ⟨x',e,_⟩:=cm d;exact h.bQ i x' e;rw [o];exact h.tmps n;obtain ⟨x',e,g,r,l,_⟩:=cm d;rw [r,l];exact h.cU i x' e
theorem ah9:∀(l:List Nat) (G:Nat->Gh) (s:St) (k:St->Option Z) (r:Z),aC F G s a w->ym s l k=some r->cf F k r a w:=by
 intro l
 induction l with
 |nil=>intro G s k r h hk;exact ⟨G,s,h,hk⟩
 |cons b l U=>
  intro G s k r h hk;simp only [ym] at hk;unfold b5 at hk;split at hk;rotate_left;cases hk;rename_i x f
  try dsimp only at hk
  split at hk;rename_i d;split at hk;rename_i c J;exact U _ _ k r (h.akc f (λA R t ft cs g=>agD J g) d) hk;cases hk;rename_i d;have d:x.cn=false:=by simpa using d
  split at hk;rename_i y O;have n:=h.box b x f;unfold dw at n;rw [au (by simp [d])] at n;obtain ⟨j,row,e,v,D,I,h4⟩:=n;obtain ⟨q,u,C⟩:=lU _ _ _ _ _ h4 O;have K:(Gh.mk (some j) q).ae=(G b).ae:=by simp [Gh.ae,v,u]
  have hrel:=Sz (w2:=w) (g':=⟨some j,q⟩) (X:=.pointer (some ⟨j,0,none⟩)) h f d (fM.refl _) (λ_ _=>rfl) (λ_ _ _ _ _ _=>rfl) (λ_ _ _=>rfl) v.symm ⟨j,row,e,rfl,rfl,D,I,C⟩ rfl (by rw [K];exact h.b7 b x f)
   (λo z=>.inl (by rw [<-u];exact z)) (λo z=>h.bQ b x f o (by simp only [Gh.ae,bp];simp_all))
  grind
  cases hk
def Fa (h:aC F G s a w) {id:Nat} {k:St->Option Z} {r:Z} (hk:ju E id s k=some r):cf F k r a w:=by
 unfold ju at hk;split at hk;exact ⟨G,s,h,hk⟩;obtain ⟨G1,s1,c,e⟩:=akj _ G s _ r h hk;obtain ⟨b,s2,d,f⟩:=ah9 _ G1 s1 _ r c e;exact ⟨b,_,d.tJ _ _,f⟩
def UQ (O:Ql Z P E F) (n:Nat):∀(c:Code) (k:Ex->St->Option Z) (r:Z) (G:Nat->Gh) (s:St) (a:Act) (w:World),aC F G s a w->ha E n c k s=some r->c.wp P (xg F k r) a w:=by
 intro c
 induction c with
 |skip=>intro k r G s a w h hk;exact wp_skip ⟨G,s,h,hk⟩
 |ret=>intro k r G s a w h hk;exact wp_ret ⟨G,s,h,hk⟩
 |exit id=>intro k r G s a w h hk;exact wp_exit ⟨G,s,h,hk⟩
 |region id ops K=>
  intro k r G s a w h hk;exact O G s a w id ops K k r h hk
 |seq x y u v=>
  intro k r G s a w h hk;refine wp_seq (wp_mono (u _ r G s a w h hk) λe a w q=>?_);cases e with
  |normal=>
   obtain ⟨g,z,f,b⟩:=q;obtain ⟨C,s2,D,I⟩:=Fa f b;exact v _ _ C s2 _ _ D I
  |exit id=>exact q
  |ret=>exact q
  |_=>exact q.elim
 |cond c x y u v=>
  intro k r G s a w h hk;simp only [ha] at hk;have l:=cw h c;split at hk;rename_i t e;rw [e] at l;have o:=l.bool;split at hk;cases c with
  |tmp d=>exact wp_cond_true o (u _ _ G _ _ _ (h.F9 l) hk)
  |_=>exact wp_cond_true o (u _ _ G _ _ _ h hk)
  cases c with
  |tmp d=>exact wp_cond_false o (v _ _ G _ _ _ (h.F9 l) hk)
  |_=>exact wp_cond_false o (v _ _ G _ _ _ h hk)
  cases hk
 |block id c J=>
  intro k r G s a w h hk;refine wp_block (wp_mono (J _ r G s a w h hk) λe a w q=>?_);cases e with
  |normal=>exact q
  |exit j=>
   obtain ⟨g,z,f,b⟩:=q;simp only [Exit.inBlock];by_cases e:j=id;subst e;rw [ay rfl];simp only [nK,cu] at b;exact ⟨g,z,f,b⟩;rw [au e];simp only [jR e,ie,c2] at b;exact ⟨g,z,f,b⟩
  |ret=>exact q
  |_=>exact q.elim
 |loop c J=>
  intro k r G s a w h hk;have out:∀(e:Exit) (a:Act) (w:World),xg F (m6 E (fS c) k) r e a w->xg F k r e a w:=by
   intro e a w q;have b3:∀e,cf F (m6 E (fS c) k e) r a w->cf F (k e) r a w:=λe ⟨G,s,h,hk⟩=>Fa h hk
   cases e with
   |normal=>exact b3 _ q
   |exit id=>exact b3 _ q
   |ret=>exact b3 _ q
   |_=>exact q.elim
  obtain ⟨W,ab,X,aa⟩:=Fa h hk;refine wp_loop_rounds n ?_;have key:∀(m:Nat) (G:Nat->Gh) (s:St) (a:Act) (w:World),aC F G s a w->tN (ha E n c) (ju E (fS c)) (m6 E (fS c) k) m s=some r->Code.rounds P c (xg F k r) m a w:=by
   intro m
   induction m with
   |zero=>intro G s a w _ hk;cases hk
   |succ m U=>
    intro G s a w h hk;refine wp_mono (J _ r G s a w h hk) λe a w q=>?_
    cases e with
    |normal=>
     obtain ⟨g,z,f,b⟩:=q;obtain ⟨C,s2,D,I⟩:=Fa f b;exact U C _ a w D I
    |exit id=>exact out (.exit id) a w q
    |ret=>exact out .ret a w q
    |_=>exact q.elim
  grind
 |_=>intro k r G s a w h hk;simp [ha] at hk
end
section
variable {Z:Type} {P:Program} {E:an} {F:Fr} {G:Nat->Gh} {s:St} {a:Act} {w:World}
def Ga (E:an) (s:St) (t:Ty):ResultVar->Option TV
 | .tmp t=>some (s.get t)
 | .cell a u=>if decide (E.iN u=some t) then ku s t (s.get a) some else none
def o4 (E:an) (s:St):List ResultVar->List Ty->Option (List (Ty×TV))
 |[],[]=>some []
 |r::b,t::ts=>match Ga E s t r with
  |some v=>match o4 E s b ts with
   |some l=>some ((t,v)::l)
   |none=>none
  |none=>none
 |_,_=>none
def Lt (E:an) (d:List PM) (rt:List Ty) (f:List ResultVar) (s:St) (b:List D->List D->Option Z):Option Z:=
 match o4 E s f rt with
 |some l=>xU s id l λs e=>kq s 0 d λc=>b e c
 |none=>none
def tq (E:an) (c:List PM) (rt:List Ty) (fn:Func) (b:List D->List D->Option Z):Ex->St->Option Z:=λe s=>match e with
 | .exit _=>none
 |_=>Lt E c rt fn.results.toList s b
def k3 (fn:Func):Code:=match fn.body with
 |some c=>c
 |none=>.skip
def Ni (E:an) (n:Nat) (b:List PM) (rt:List Ty) (fn:Func) (ds:List D) (c:List D->List D->Option Z):Option Z:=
 x4 0 b ds λts bs=>ha {E with nt:=fn.ntmps} n (k3 fn) (tq {E with nt:=fn.ntmps} b rt fn c) {tmps:=ts,cg:=bs}
def ahq (h:aC F G s a w) {T:Ty} {v:TV} {t:Nat} {k:TV->Option Z} {r:Z} (O:bE P T t) {x:Value} (f:VR (ax s.box G) w F.R v x) (hk:ku s T v k=some r):
 ∃u y,k u=some r/\(do loadVar t (<-asAddr x):Sem Value).run P w=.ok y w/\VR (ax s.box G) w F.R u y:=by
 have e:∀b,(Instr.loadAt t (.pointer (some b))).run P w=(do loadVar t (<-asAddr (.pointer (some b))):Sem Value).run P w:=by
  intro b;simp [Instr.loadAt,Instr.sureAddr,asAddr]
 unfold ku at hk;split at hk;rename_i b p;have f:=f.b3 (by simp) (by simp) rfl;obtain ⟨u,ft,z,off,l,j⟩:=f;simp only [gh,fK] at j;unfold b5 at hk;split at hk;rename_i bx g;dsimp only at hk;split at hk;rename_i n;have n:cD bx.ty p=some T:=e7 n;have d:=mX g l;rw [n] at d;obtain rfl:=b2 d;obtain ⟨X,af,ae⟩:=(h.box b bx g).fa;obtain ⟨c',u,K,a',W,aa,J,ab,ac⟩:=a1.get bx.c bx.ty (G b).ft X ((G b).bj.map (·,0)) p _ r af (λU o e=>(ae U o e).1) hk;rw [fu g,J] at l;simp only [aX,bk] at l;obtain ⟨rfl,rfl,rfl⟩:=l;have C:=ac z off rfl;have ag:=Z6 _ _ _ (h.cC b bx g) n;obtain ⟨v,D,I⟩:=Gc O C (ml u);have ah:im (ax s.box G) b u K (some (z,off)) p 0:=im.Vb (λq=>s9 (by rw [fu g];exact J));obtain ⟨aj,ak⟩:=aas c' u K W b _ p 0 ag ab ah (λ_=>rfl);refine ⟨_,v,aa,by rw [j,<-e,D],dF aj (by rw [ak];exact I)⟩;cases hk;cases hk;rename_i u y;have f:=f.b3 (by simp) (by simp) rfl;obtain ⟨z,off,c,j,al,C,ai⟩:=f;simp only [gh,fK] at j;split at hk;rename_i d;have d:u=T:=e7 d;subst d;obtain ⟨v,D,I⟩:=Gc O C (ml u);exact ⟨_,v,hk,by rw [j,<-e,D],dF (v:=.ad u y) ai I⟩;cases hk;cases hk
def EP (tmps:Array Value):ResultVar->Sem Value
 | .tmp t=>pure (tmps.getD t undef)
 | .cell a t=>do loadVar t (<-asAddr (tmps.getD a undef))
def akn (h:aC F G s a w) (j:∀t T,E.iN t=some T->bE P T t) {t:Ty} {d:ResultVar} {v:TV} (b:Ga E s t d=some v):∃x,(EP a.tmps d).run P w=.ok x w/\VR (ax s.box G) w F.R v x:=by
 cases d with
 |tmp n=>
  simp only [Ga,aX] at b;subst b;exact ⟨_,rfl,h.tmps n⟩
 |cell n u=>
  simp only [Ga] at b;split at b;rename_i c;have c:E.iN u=some t:=e7 c;obtain ⟨l,y,e,f,g⟩:=ahq h (j u t c) (h.tmps n) b;obtain rfl:=b2 e;exact ⟨y,f,g⟩;cases b
theorem Xh (h:aC F G s a w) (j:∀t T,E.iN t=some T->bE P T t):∀(c:List ResultVar) (ts:List Ty) (l:List (Ty×TV)),o4 E s c ts=some l->
 l.map Prod.fst=ts/\∃xs,(c.mapM (EP a.tmps)).run P w=.ok xs w/\dq (ax s.box G) w F.R (l.map Prod.snd) xs:=by
 intro c
 induction c with
 |nil=>
  intro ts l b;cases ts with
  |nil=>
   simp only [o4,aX] at b;subst b;exact ⟨rfl,[],rfl,trivial⟩
  |cons _ _=>simp [o4] at b
 |cons y c o=>
  intro ts l b;cases ts with
  |nil=>simp [o4] at b
  |cons t ts=>
   simp only [o4] at b;split at b;rename_i v n;split at b;rename_i q g;simp only [aX] at b;subst b;obtain ⟨d,xs,r,e⟩:=o ts q g;obtain ⟨x,u,f⟩:=akn h j n;refine ⟨by simp [d],x::xs,?_,f,e⟩;simp_all;cases b;cases b
theorem Xk {fn:Func} {xs:List Value} (h:(fn.results.toList.mapM (EP a.tmps)).run P w=.ok xs w):
 (results fn a.tmps).run P w=.ok (if h:xs.length=1 then xs[0] else .tuple xs.toArray) w:=by
 have e:results fn a.tmps=(do
  let vs <-List.toArray<$>fn.results.toList.mapM (EP a.tmps)
  pure (if h:vs.size=1 then vs[0] else .tuple vs)):=by
  unfold results;rw [<-Array.mapM_eq_mapM_toList];rfl
 simp_all
end
section
variable {Z:Type} {P:Program} {E:an} {F:Fr} {G:Nat->Gh} {s:St} {a:Act} {w:World}
def aec {s:St}:∀(t:Ty) (v:TV) (k:St->TV->(TV->TV)->Option Z) (r:Z),ck s t v k=some r->v.agg=t.agg/\v≠ .un/\∀b,v≠ .tup b:=by
 intro t v k r h;cases t<;>cases v<;>first
  |(simp [ck] at h;done)
  |exact ⟨rfl,by simp,by simp⟩
  |(simp only [ck] at h
    split at h;rename_i e;have e:=e7 e;subst e;exact ⟨rfl,by simp,by simp⟩;cases h)
structure C3 (F:Fr) (G:Nat->Gh) (s:St) (a:Act) (w:World) (c:List Nat) (d:Nat->Gh) (e:St):Prop where
 rel:aC F d e a w
 b7:c.Nodup
 out:∀b∈c,∀j y,e.box j=some y->b∉(d j).ae
 bQ:∀b∈c,¬F.R b/\b<w.heap.size/\(b∈F.M\/F.w0.heap.size<=b)
 js:∀b∈c,∃i x,s.box i=some x/\b∈(G i).ae
 eY:ik G s d e
theorem afB {A:b0} {R:Nat->Prop}:∀(l:List (Ty×TV)) (xs:List Value) (G:Nat->Gh) (s:St) (kl:TV->TV) (k:St->List D->Option Z) (r:Z),aC F G s a w->
 dq A w R (l.map Prod.snd) xs->(∀v y,VR A w R v y->VR (ax s.box G) w F.R (kl v) y)->xU s kl l k=some r->
 ∃u q ds o,k q ds=some r/\ds.map D.t=l.map Prod.fst/\s0 w ds xs o/\C3 F G s a w (FT.bq o) u q:=by
 intro l
 induction l with
 |nil=>
  intro xs G s kl k r h j I hk
  match xs,j with
  |[],_=>exact ⟨G,s,[],[],hk,rfl,trivial,h,lB,λb d=>(by cases d),λb d=>(by cases d),λb d=>(by cases d),ik.refl⟩
 |cons e l ai=>
  intro xs G s kl k r h j I hk;obtain ⟨t,v⟩:=e
  match xs,j with
  |x::xs,j=>
   simp only [xU] at hk;have ah:=I _ _ j.1;split at hk;rename_i ag;obtain ⟨J,K,O⟩:=Nc t _ _ r hk;obtain ⟨cs,ac,ad⟩:=ah.cells K O;obtain ⟨y,C,ap⟩:=F6 h t _ cs _ r ac hk;obtain ⟨al,am⟩:=Rd.aW ag ap;obtain ⟨u,q,ds,o,X,aa,ab,g⟩:=ai xs G s kl _ r h j.2 I C;refine ⟨u,q,⟨t,y⟩::ds,.leaf::o,X,by simp [aa],⟨⟨cs,?_,by rw [<-J];exact ad⟩,ab⟩,?_⟩;rw [am];exact bd.fW ag al rfl;have aj:FT.bq (.leaf::o)=FT.bq o:=by simp [FT.bq,FT.ae]
   rw [aj];exact g;obtain ⟨J,K,O⟩:=aec t _ _ r hk;obtain ⟨cs,ac,ad⟩:=ah.cells K O;obtain ⟨G1,s1,c,f,κ,C,n⟩:=ow t _ G s cs _ r h ac hk;split at C
   ·rename_i y ar;obtain ⟨ak,af,an⟩:=lU t c f cs y n.fa ar;obtain ⟨u,q,ds,o,X,aa,ab,g⟩:=ai xs G1 s1 _ _ r n.rel j.2 (λv y aq=>n.vr _ _ (I v y aq)) C;have fr:=n.er.eY g.eY;refine ⟨u,q,⟨t,y⟩::ds,ak::o,X,by simp [aa],⟨⟨cs,an,by rw [<-J];exact ad⟩,ab⟩,⟨g.rel,?_,?_,?_,?_,n.eY.trans g.eY⟩⟩;simp only [FT.bq,cv,af];refine ⟨fr.b7,g.b7,λb d c ao e=>?_⟩;subst e;obtain ⟨i,z,W,U⟩:=g.js b ao;exact n.er.out b d i z W U
    all_goals
     intro b d;simp only [FT.bq,bp,af] at d
    rcases d with d|d
    exact fr.out b d;exact g.out b d;rcases d with d|d
    exact fr.bQ b d;exact g.bQ b d;rcases d with d|d
    exact n.js b d;obtain ⟨i,z,W,U⟩:=g.js b d;exact n.eY.sub i z W b U
   cases C
  |[],j=>exact j.elim
def ads (F:Fr) (m:PM) (v:Value) (g:Gh) (id:Nat):Prop:=
 match m with
 | .ptr _=>F.bj id=g.bj/\∃c,g.bj=some c/\v=.pointer (some ⟨c,0,none⟩)
 | .mut t=>(∃u,t=.slice u)/\F.dy id=g.ft.dy/\∃b cap d,g.ft=.node b cap d/\v=.slice (b.map (⟨·,0,none⟩)) d.length cap
 |_=>True
def JN (F:Fr):Nat->List PM->List Value->List Gh->Prop
 |_,[],[],[]=>True
 |i,m::c,v::vs,g::b=>ads F m v g (i*32)/\JN F (i+1) c vs b
 |_,_,_,_=>False
theorem afA (h:aC F G s a w):∀(C:List PM) (i:Nat) (vs:List Value) (n:List Gh) (k:List D->Option Z) (r:Z),JN F i C vs n->kq s i C k=some r->
 ∃ds d,k ds=some r/\kU w C ds vs n d/\(bW d).Nodup/\∀b∈bW d,∃j x,i<=j/\s.box (j*32)=some x/\b∈(G (j*32)).ae:=by
 intro C
 induction C with
 |nil=>
  intro i vs n k r l hk
  match vs,n,l with
  |[],[],_=>exact ⟨[],[],hk,trivial,lB,λb o=>(by cases o)⟩
 |cons m C am=>
  intro i vs n k r l hk
  match vs,n,l with
  |v::vs,g::n,l=>
   have Fu:∀(g':Gh) (av:List D) (K:List Gh) (x:bl),s.box (i*32)=some x->(∀b∈g'.ae,b∈(G (i*32)).ae)->g'.ae.Nodup->(bW K).Nodup->
    (∀b∈bW K,∃j x,i+1<=j/\s.box (j*32)=some x/\b∈(G (j*32)).ae)->
    (bW (g'::K)).Nodup/\∀b∈bW (g'::K),∃j x,i<=j/\s.box (j*32)=some x/\b∈(G (j*32)).ae:=by
    intro g' av K x a9 O af q h4;rw [EX];refine ⟨cv.2 ⟨af,q,λb o c I e=>?_⟩,λb o=>?_⟩;subst e;obtain ⟨j,y,aF,W,ak⟩:=h4 b I;exact h.c6 (i*32) (j*32) x y a9 W (by omega) b (O b o) ak
    grind
   have skip:m.fc=false->kq s (i+1) C k=some r->∃ds d,k ds=some r/\kU w (m::C) ds (v::vs) (g::n) d/\(bW d).Nodup/\∀b∈bW d,∃j x,i<=j/\s.box (j*32)=some x/\b∈(G (j*32)).ae:=by
    intro ak hk;obtain ⟨ds,d,X,aa,ac,ag⟩:=am (i+1) vs n k r l.2 hk;have e:bW ((⟨none,.leaf⟩:Gh)::d)=bW d:=by simp [bW,Gh.ae,FT.ae]
    refine ⟨ds,⟨none,.leaf⟩::d,X,?_,by rw [e];exact ac,λb o=>?_⟩;cases m<;>first|exact ⟨rfl,aa⟩|simp [PM.fc] at ak
    grind
   cases m with
   |ptr t=>
    simp only [kq] at hk;unfold b5 at hk;split at hk;rotate_left;cases hk;rename_i bx z
    try dsimp only at hk
    split at hk;cases hk;rename_i I;simp only [fC,hp,pq,gN,uO,jf] at I;obtain ⟨ah,ai⟩:=I;split at hk;rename_i y W;obtain ⟨ds,d,X,aa,ac,ag⟩:=am (i+1) vs n _ r l.2 hk;have J:=h.box _ bx z;unfold dw at J;rw [au (by simp [ah])] at J;obtain ⟨ad,row,e,O,af,q,h4⟩:=J;subst ai;obtain ⟨aj,a0,a1⟩:=lU _ _ _ _ _ h4 W;obtain ⟨a2,aD,ap,al⟩:=l.1;have hpar:=(h.cU _ bx z).1 (by omega);rw [O,a2,ap] at hpar;obtain rfl:=b2 hpar;have U:(Gh.mk (some ad) aj).ae=(G (i*32)).ae:=by simp [Gh.ae,O,a0]
    obtain ⟨an,ao⟩:=Fu ⟨some ad,aj⟩ ds d bx z (λb o=>by rw [<-U];exact o) (by rw [U];exact h.b7 _ bx z) ac ag;exact ⟨⟨_,y⟩::ds,⟨some ad,aj⟩::d,X,⟨⟨rfl,ap.symm,ad,row,e,rfl,al,af,q,a1⟩,aa⟩,an,ao⟩;cases hk
   | «mut» t=>
    simp only [kq] at hk;unfold b5 at hk;split at hk;rotate_left;cases hk;rename_i bx z
    try dsimp only at hk
    split at hk;cases hk;rename_i I;simp only [fC,hp,pq,gN,uO,Bool.not_eq_false] at I;obtain ⟨⟨ah,ai⟩,c3⟩:=I;split at hk;rename_i u y W;obtain ⟨ds,d,X,aa,ac,ag⟩:=am (i+1) vs n _ r l.2 hk;have J:=h.box _ bx z;unfold dw at J;rw [ay ah] at J;obtain ⟨O,⟨aI,af⟩,cs,q⟩:=J;rw [W] at q;obtain ⟨aw,q⟩:=q;have a8:u=t:=aw.trans c3;subst a8;obtain ⟨⟨aJ,a7⟩,a5,aB,aE,aH,a4,al⟩:=l.1;subst a7;have hpar:=((h.cU _ bx z).2 ai).2;rw [a5,a4] at hpar;have ar:=q;obtain ⟨b,cap,aG,ax,az,_,_,a6,_⟩:=q;rw [ax] at hpar;simp only [FT.dy,aX,bk] at hpar;obtain ⟨rfl,rfl,aA⟩:=hpar;have a3:cs=[v]:=by rw [az,al,<-a6,aA]
    rw [a3] at ar;have U:(Gh.mk none (G (i*32)).ft).ae=(G (i*32)).ft.ae:=by simp [Gh.ae]
    have aq:=h.b7 _ bx z;simp only [Gh.ae,cv] at aq;obtain ⟨an,ao⟩:=Fu ⟨none,(G (i*32)).ft⟩ ds d bx z (λb o=>by rw [U] at o;simp only [Gh.ae,bp];exact .inr o) (by rw [U];exact aq.2.1) ac ag;exact ⟨⟨_,y⟩::ds,⟨none,(G (i*32)).ft⟩::d,X,⟨⟨rfl,rfl,ar⟩,aa⟩,an,ao⟩;cases hk
   |ro t=>exact skip rfl (by simpa only [kq] using hk)
   |bw t=>exact skip rfl (by simpa only [kq] using hk)
   |ab t=>exact skip rfl (by simpa only [kq] using hk)
   |bY f c=>exact skip rfl (by simpa only [kq] using hk)
  |[],_,l=>exact l.elim
  |_::_,[],l=>exact l.elim
end
section
variable {Z:Type} {P:Program} {E:an} {w:World} {R:Nat->Prop}
def PM.iE:PM->Bool
 | .ptr t| .mut t| .ab t=>t.iE
 | .bY _ b=>b.all λm=>match m with
  | .bw _=>true
  |_=>false
 |_=>true
def IB (w:World) (g:Gh) (x:Value) (b:bl):Prop:=
 (∃(t:Ty) (y:t.ai),b=⟨t,false,false,.ab t y⟩/\sG w t y g x/\t.cC)\/
 ∃(u:Ty) (y:(Ty.slice u).ai) (dD:Bool),b=⟨.slice u,true,dD,.ab (.slice u) y⟩/\g.bj=none/\bd w (.slice u) y g.ft [x]/\(Ty.slice u).cC
def IV (w:World) (R:Nat->Prop) (id:Nat) (g:Gh) (x:Value) (v:TV) (b:Option bl):Prop:=
 VR A0 w R v x\/∃y,b=some y/\IB w g x y/\(y.cn=false->v=.ref id [])/\(y.cn=true->v=.sl id [])
def agM:∀(c:List PM) (ds bo:List D) (vs:List Value) (k:List TV->List D->Option Z) (r:Z),u0 w R c ds vs->(c.all λm=>match m with
 | .bw _=>true
 |_=>false)=true->x5 c (ds++bo) k=some r->∃h,k h bo=some r/\bH A0 w R (h.foldr TV.cons .unit) vs:=by
 intro c
 induction c with
 |nil=>
  intro ds bo vs k r b _ hk
  match ds,vs,b with
  |[],[],_=>exact ⟨[],hk,rfl⟩
 |cons m c u=>
  intro ds bo vs k r b g hk
  match ds,vs,b with
  |d::ds,v::vs,b=>
   simp only [List.all_cons,bt] at g;obtain ⟨l,n⟩:=b;cases m with
   |bw t=>
    obtain ⟨e,o⟩:=l;simp only [jJ,x5] at hk;split at hk;rename_i x q;obtain ⟨f,rfl⟩:=eO q;obtain ⟨h,y,z⟩:=u ds bo vs _ r n g.2 hk;obtain ⟨j,C⟩:=d;have f:j=t:=f;subst f;exact ⟨_,y,[v],vs,rfl,o.b3 (by simp) (by simp) rfl,z⟩;cases hk
   |_=>simp at g
  |[],_::_,b=>exact b.elim
  |[],[],b=>exact b.elim
  |_::_,[],b=>exact b.elim
def agL {m:PM} {l ds:List D} {x:Value} {g:Gh} {id:Nat} (o:m.iE=true) (c:zf w R m l x g) {k:TV->List (Nat×bl)->List D->Option Z} {r:Z} (hk:na id m (l++ds) k=some r):
 ∃v bx,k v bx ds=some r/\((bx=[]/\VR A0 w R v x)\/∃b,bx=[(id,b)]/\IB w g x b/\(b.cn=false->v=.ref id [])/\(b.cn=true->v=.sl id [])):=by
 cases m with
 |ro t=>
  match l,c with
  |[d],c=>
   obtain ⟨_,e,j⟩:=c
   grind [na,mY]
 |bw t=>
  match l,c with
  |[d],c=>
   obtain ⟨_,e,j⟩:=c
   grind [na,mY]
 |ptr t=>
  match l,c with
  |[d],c=>
   obtain ⟨e,j⟩:=c;obtain ⟨n,y⟩:=d;have e:n=t:=e;subst e;simp only [jJ,dV,na,mY] at hk;exact ⟨_,_,hk,.inr ⟨_,rfl,.inl ⟨_,_,rfl,j,Ty.oJ o⟩,λ_=>rfl,λh=>(by cases h)⟩⟩
 | «mut» t=>
  match l,c with
  |[d],c=>
   obtain ⟨e,⟨u,rfl⟩,q,j⟩:=c;obtain ⟨n,y⟩:=d;have e:n=.slice u:=e;subst e;simp only [jJ,dV,na,mY] at hk;exact ⟨_,_,hk,.inr ⟨_,rfl,.inr ⟨_,_,_,rfl,q,j,Ty.oJ o⟩,λh=>(by cases h),λ_=>rfl⟩⟩
 |ab t=>
  match l,c with
  |[d],c=>
   obtain ⟨e,⟨u,rfl⟩,q,j⟩:=c;obtain ⟨n,y⟩:=d;have e:n=.slice u:=e;subst e;simp only [jJ,dV,na,mY] at hk;exact ⟨_,_,hk,.inr ⟨_,rfl,.inr ⟨_,_,_,rfl,q,j,Ty.oJ o⟩,λh=>(by cases h),λ_=>rfl⟩⟩
 |bY f I=>
  obtain ⟨_,vs,rfl,j⟩:=c;simp only [na] at hk;obtain ⟨J,z,C⟩:=agM I l ds vs _ r j o hk;exact ⟨_,_,z,.inl ⟨rfl,dF (cs:=[_]) ⟨vs,C,rfl⟩ rfl⟩⟩
def agK:∀(l:List PM) (i:Nat) (ds:List D) (vs:List Value) (c:List Gh) (k:List (Nat×TV)->List (Nat×bl)->Option Z) (r:Z),(∀m∈l,m.iE=true)->lE w R l ds vs c->x4 i l ds k=some r->
 ∃ts bs,k ts bs=some r/\
  (∀n v,lk ts n=some v->∃j x g,n=i+j/\vs[j]?=some x/\c[j]?=some g/\IV w R (n*32) g x v (lk bs (n*32)))/\
  (∀id b,lk bs id=some b->∃j x g,id=(i+j)*32/\vs[j]?=some x/\c[j]?=some g/\IB w g x b):=by
 intro l
 induction l with
 |nil=>
  intro i ds vs c k r _ d hk
  match ds,vs,c,d with
  |[],[],[],_=>exact ⟨[],[],hk,λn v h=>(by cases h),λn v h=>(by cases h)⟩
 |cons m l ac=>
  intro i ds vs c k r U d hk
  match vs,c,d with
  |x::vs,g::c,d=>
   obtain ⟨K,J,rfl,W,X⟩:=d;have hk:na (i*32) m (K++J) (λv b ds=>x4 (i+1) l ds λts bs=>k ((i,v)::ts) (b++bs))=some r:=by
    cases h:K++J with
    |nil=>rw [h] at hk;exact hk
    |cons _ _=>rw [h] at hk;exact hk
   obtain ⟨v,bx,ad,o⟩:=agL (U m (by simp)) W hk;obtain ⟨ts,bs,ae,aa,O⟩:=ac (i+1) J vs c _ r (λm h=>U m (by simp [h])) X ad;have ag:∀b,lk bs (i*32)≠some b:=by
    grind
   refine ⟨_,_,ae,λn u C=>?_,λid b f=>?_⟩;rw [gr] at C;split at C;rename_i e;subst e;obtain rfl:=b2 C;refine ⟨0,x,g,rfl,rfl,rfl,?_⟩;rcases o with ⟨rfl,o⟩|⟨b,rfl,f,o⟩
   exact .inl o;refine .inr ⟨b,?_,f,o⟩;rw [x9,gr,ay rfl];rfl;obtain ⟨j,y,g',e,q,z,I⟩:=aa n u C;refine ⟨j+1,y,g',by omega,by simpa using q,by simpa using z,?_⟩
   grind [gr]
   rw [x9] at f;rcases o with ⟨rfl,_⟩|⟨af,rfl,ab,_⟩
   obtain ⟨j,y,g',e,q,z,I⟩:=O id b f;exact ⟨j+1,y,g',by omega,by simpa using q,by simpa using z,I⟩;rw [gr] at f;split at f;rename_i e;obtain rfl:=b2 f;exact ⟨0,x,g,e.symm,rfl,rfl,ab⟩;obtain ⟨j,y,g',e,q,z,I⟩:=O id b f;exact ⟨j+1,y,g',by omega,by simpa using q,by simpa using z,I⟩
  |[],_,d=>exact d.elim
  |_::_,[],d=>exact d.elim
def l3 (b:List Gh) (id:Nat):Gh:=if id%32=0 then (b[id/32]?).getD ⟨none,.leaf⟩ else ⟨none,.leaf⟩
theorem EW {b:List Gh} {j:Nat} {g:Gh} (h:b[j]?=some g):l3 b (j*32)=g:=by
 unfold l3;simp_all
theorem LD {c:List Gh} {j:Nat} {g:Gh} (h:c[j]?=some g) {b:Nat} (d:b∈g.ae):b∈bW c:=by
 unfold bW
 grind
def agt:∀{c:List Gh},(bW c).Nodup->(∀(j:Nat) (g:Gh),c[j]?=some g->g.ae.Nodup)/\∀(i j:Nat) (g g':Gh),c[i]?=some g->c[j]?=some g'->i≠j->∀b∈g.ae,b∉g'.ae:=by
 intro c
 induction c with
 |nil=>simp_all
 |cons d c e=>
  grind [EX,LD]
theorem ajK {F:Fr}:∀(l:List PM) (i:Nat) (ds:List D) (vs:List Value) (c:List Gh),lE w R l ds vs c->(∀j g,c[j]?=some g->F.bj ((i+j)*32)=g.bj/\F.dy ((i+j)*32)=g.ft.dy)->JN F i l vs c:=by
 intro l
 induction l with
 |nil=>
  intro i ds vs c f _
  match ds,vs,c,f with
  |[],[],[],_=>trivial
 |cons m l K=>
  intro i ds vs c f o
  match vs,c,f with
  |x::vs,g::c,f=>
   obtain ⟨n,v,rfl,h,C⟩:=f;refine ⟨?_,K (i+1) v vs c C (λj g I=>by have:=o (j+1) g (by simpa using I);grind)⟩;have q:=o 0 g rfl;cases m with
   |ptr t=>
    match n,h with
    |[d],h=>
     obtain ⟨_,r,row,e,U,W,_⟩:=h;exact ⟨q.1,r,U,W⟩
   | «mut» t=>
    match n,h with
    |[d],h=>
     obtain ⟨e,⟨u,rfl⟩,_,J⟩:=h;obtain ⟨y,X⟩:=d;have e:y=.slice u:=e;subst e;obtain ⟨b,cap,O,z,aa,_,_,ab,_⟩:=J;refine ⟨⟨u,rfl⟩,q.2,b,cap,O,z,?_⟩;simp_all
   |_=>trivial
  |[],_,f=>exact f.elim
  |_::_,[],f=>exact f.elim
theorem Su:∀(d:List PM) (ds:List D) (vs:List Value) (c:List Gh),lE w R d ds vs c->vs.length=d.length:=by
 intro d
 induction d with
 |nil=>
  intro ds vs c b
  match ds,vs,c,b with
  |[],[],[],_=>rfl
 |cons m d l=>
  intro ds vs c b
  match vs,c,b with
  |x::vs,g::c,b=>
   obtain ⟨e,f,rfl,h,j⟩:=b
   grind
  |[],_,b=>exact b.elim
  |_::_,[],b=>exact b.elim
theorem aki {c:aA} {ds:List D} {vs:List Value} {q:List Gh} (C:xh w R c ds vs q) (ag:∀m∈c.params,m.iE=true) {nt:Nat} (ax:c.params.length<=nt)
 {k:List (Nat×TV)->List (Nat×bl)->Option Z} {r:Z} (hk:x4 0 c.params ds k=some r):
 ∃ts bs,k ts bs=some r/\aC ⟨R,bW q,w,nt,λid=>(l3 q id).bj,λid=>(l3 q id).ft.dy,[]⟩ (l3 q) {tmps:=ts,cg:=bs} {tmps:=vs.toArray++Array.replicate (nt-vs.length) undef,defers:=[]} w:=by
 obtain ⟨ts,bs,am,af,ae⟩:=agK c.params 0 ds vs q k r ag C.args hk;obtain ⟨a0,a1⟩:=agt C.b7;have av:=Su _ _ _ _ C.args;have K:∀id b,St.box {tmps:=ts,cg:=bs} id=some b->∃j x g,id=j*32/\q[j]?=some g/\l3 q id=g/\IB w g x b:=by
  intro id b d;obtain ⟨j,x,g,e,_,o,f⟩:=ae id b d
  grind [EW]
 refine ⟨ts,bs,am,⟨λi x l=>?_,λi x l=>?_,λi j x y l az aw b d=>?_,λi x l=>?_,λi x l b d=>?_,λb d=>⟨C.R b d,λJ=>(C.bQ b J).1 d⟩,λn=>?_,λ_ _ _=>rfl,fM.refl _,rfl,?_,λi x l=>?_,λi n=>.inl (by simp [St.fZ,lk]),rfl⟩⟩;obtain ⟨j,v,g,rfl,I,o,f⟩:=K i x l;rw [o];unfold dw;rcases f with ⟨t,y,rfl,z,_⟩|⟨u,y,dD,rfl,d,z,_⟩
 rw [au (by simp)];obtain ⟨O,row,e,U,_,W,ad,h4⟩:=z;exact ⟨O,row,e,U,W,ad,rfl,h4⟩;rw [ay rfl];exact ⟨d,⟨u,rfl⟩,[v],rfl,z⟩;obtain ⟨j,v,g,rfl,I,o,f⟩:=K i x l;rcases f with ⟨t,y,rfl,_,aa⟩|⟨u,y,dD,rfl,_,_,aa⟩<;>exact aa
 grind
 grind
 obtain ⟨al,_,g,rfl,I,o,_⟩:=K i x l;rw [o] at d;have J:=LD I d;exact ⟨(C.bQ b J).1,(C.bQ b J).2,.inl J⟩;show VR _ w R ((lk ts n).getD .un) _;cases ak:lk ts n with
 |none=>exact .inl rfl
 |some v=>
  obtain ⟨j,x,g,e,I,o,f⟩:=af n v ak;rw [ka] at e;subst e;have l:(vs.toArray++Array.replicate (nt-vs.length) undef).getD n undef=x:=by
   have aj:=(b6.1 I).1;rw [jI,Array.getElem?_append_left (by simpa using aj)];simp [I]
  rw [l];simp only [uV];rcases f with f|⟨y,f,ao,ap,aq⟩
  exact VR.mono (λ_ _ _ _ _ h=>by cases h) (λ_ _=>rfl) f;have X:St.box {tmps:=ts,cg:=bs} (n*32)=some y:=f;rcases ao with ⟨t,ar,rfl,z,_⟩|⟨u,ar,dD,rfl,d,z,_⟩
  rw [ap rfl];obtain ⟨O,row,e,U,W,_⟩:=z;refine dF (cs:=[x]) ⟨t,g.ft,O,0,?_,by rw [W]⟩ rfl;rw [fu X,EW o,U];cases t<;>rfl
  rw [aq rfl];obtain ⟨b,cap,an,ab,ac,_,_,ai,_⟩:=z;refine dF (cs:=[x]) ⟨u,b,cap,an,none,?_,by rw [ac,ai]⟩ rfl;rw [fu X,EW o,d,ab];rfl
 simp_all;obtain ⟨al,_,g,rfl,I,o,f⟩:=K i x l;refine ⟨λ_=>rfl,λah=>?_⟩;rcases f with ⟨t,y,rfl,_⟩|⟨u,y,dD,rfl,_⟩
 cases ah;simp_all
def akl {c:List D} {xs:List Value} {b:List FT} (h:s0 w c xs b):JR w c (if h:xs.length=1 then xs[0] else .tuple xs.toArray) b:=by
 match c,xs,b,h with
 |[],[],[],_=>exact ⟨rfl,rfl⟩
 |[d],[x],[f],h=>exact ⟨f,rfl,h.1⟩
 |d::e::c,x::x'::xs,f::g::b,h=>exact ⟨x::x'::xs,by simp,h⟩
 |[],_::_,_,h=>exact h.elim
 |[],[],_::_,h=>exact h.elim
 |_::_,[],_,h=>exact h.elim
 |_::_,_::_,[],h=>exact h.elim
 |[_],_::_::_,_::_,h=>exact h.2.elim
 |[_],[_],_::_::_,h=>exact h.2.elim
 |_::_::_,[_],_::_,h=>exact h.2.elim
 |_::_::_,_::_::_,[_],h=>exact h.2.elim
theorem aeY {f:Nat} {fn:Func} {c:aA} (am:P.funcs[f]?=some fn) (o:fn.body.isSome=true) (I:P.follows .mixedOrders=true)
 (ab:lS P E) (W:e8 P E) (aq:c.params.all PM.iE=true) (ap:c.params.length<=fn.ntmps)
 {n:Nat} {ds:List D} {O:List D->List D->Option Z} {r:Z} (ad:Ni E n c.params c.results fn ds O=some r) {vs:List Value} {d:List Gh} (X:xh w R c ds vs d):
 Calls P f vs.toArray w λe w'=>match e with
  | .returned v=>∃K J z C,O K J=some r/\u1 w c vs d K J v w' z C
  |_=>False:=by
 have ai:e8 P {E with nt:=fn.ntmps}:=⟨W.fn,W.inl,W.hW⟩;have ak:fn.body=some (k3 fn):=by
  unfold k3
  grind
 unfold Ni at ad;have a3:=Su _ _ _ _ X.args;obtain ⟨ts,bs,au,hrel⟩:=aki X (λm h=>eT.1 aq m h) (nt:=fn.ntmps) ap ad;have aj:dk P {E with nt:=fn.ntmps} ⟨R,bW d,w,fn.ntmps,λid=>(l3 d id).bj,λid=>(l3 d id).ft.dy,[]⟩:=⟨⟨ab.ty,ab.maps⟩,rfl⟩;refine calls_of_wp am ak ?_;have ar:vs.toArray.size=vs.length:=by simp
 rw [ar];refine wp_mono (UQ (Xe aj ai I) n (k3 fn) _ _ _ _ _ _ hrel au) λe a w' q=>?_
 have done:cf ⟨R,bW d,w,fn.ntmps,λid=>(l3 d id).bj,λid=>(l3 d id).ft.dy,[]⟩ (λs=>Lt {E with nt:=fn.ntmps} c.params c.results fn.results.toList s O) r a w'->
  a.defers=[]/\∃v,(results fn a.tmps).run P w'=.ok v w'/\∃K J z C,O K J=some r/\u1 w c vs d K J v w' z C:=by
  rintro ⟨G,s,aa,hk⟩;unfold Lt at hk;dsimp only at hk;split at hk;rotate_left;cases hk;rename_i l ao;obtain ⟨ag,xs,U,ah⟩:=Xh (E:={E with nt:=fn.ntmps}) aa ab.ty _ _ l ao;have U:=Xk U;obtain ⟨a2,a4,af,z,av,aw,ax,u⟩:=afB l xs G s id _ _ aa ah (λv y h=>h) hk;obtain ⟨a1,C,ay,az,a0,ae⟩:=afA u.rel c.params 0 vs d _ _ (ajK c.params 0 ds vs d X.args (λj g an=>by
   rw [ka];simp only [EW an];simp_all)) av
  refine ⟨aa.defers,_,U,af,a1,z,C,ay,akl ax,aw.trans ag,az,?_,λb o=>?_,u.rel.fT,u.rel.bT⟩;refine cv.2 ⟨u.b7,a0,λb o c al e=>?_⟩;subst e;obtain ⟨j,x,_,ac,I⟩:=ae b al;exact u.out b o _ x ac I;rcases bp.1 o with o|o
  exact (u.bQ b o).2;obtain ⟨j,x,_,ac,I⟩:=ae b o;exact (u.rel.bQ _ x ac b I).2
 cases e with
 |normal=>exact done q
 |ret=>exact done q
 |exit id=>obtain ⟨G,s,_,hk⟩:=q;cases hk
 |_=>exact q.elim
def kh:List Ty->Type
 |[]=>Unit
 |T::b=>T.ai×kh b
def qj:(b:List Ty)->List D->Option (kh b)
 |[],ds=>match ds with
  |[]=>some ()
  |_::_=>none
 |T::b,ds=>match ds with
  |[]=>none
  |d::ds=>match cG d.t T d.x with
   |none=>none
   |some x=>match qj b ds with
    |none=>none
    |some r=>some (x,r)
def oH:(b:List Ty)->kh b->List D
 |[],_=>[]
 |T::b,x=>⟨T,x.1⟩::oH b x.2
theorem UG:∀{b:List Ty} {ds:List D} {v:kh b},qj b ds=some v->ds=oH b v:=by
 intro b
 induction b with
 |nil=>
  intro ds v h;cases ds with
  |nil=>rfl
  |cons _ _=>simp [qj] at h
 |cons T b g=>
  intro ds v h;cases ds with
  |nil=>simp [qj] at h
  |cons d ds=>
   simp only [qj] at h;split at h;cases h;rename_i x f;obtain ⟨e,rfl⟩:=eO f;split at h;cases h;rename_i r c;have:=g c;subst this;obtain rfl:=b2 h;obtain ⟨t,x⟩:=d;have e:t=T:=e;subst e;rfl
def ld:List PM->List Ty
 |[]=>[]
 | .ptr t::b=>t::ld b
 | .mut t::b=>t::ld b
 |_::b=>ld b
def qi (c:List PM) (rt:List Ty) (e d:List D):Option (kh rt×kh (ld c)):=
 match qj rt e with
 |none=>none
 |some a=>match qj (ld c) d with
  |none=>none
  |some b=>some (a,b)
noncomputable def aQ (E:an) (n:Nat) (b:List PM) (rt:List Ty) (fn:Func) (ds:List D):Option (kh rt×kh (ld b)):=
 Ni E n b rt fn ds (qi b rt)
noncomputable def aO (E:an) (n:Nat) (b:List PM) (rt:List Ty) (fn:Func):aA:=
 {params:=b,results:=rt,h:=λds k=>match aQ E n b rt fn ds with
  |none=>none
  |some v=>k (oH rt v.1) (oH (ld b) v.2)}
theorem aS {f:Nat} {fn:Func} {d:List PM} {rt:List Ty} (n:Nat) (u:P.funcs[f]?=some fn) (r:∀args w,(callFunc f args).run P w=.ok (.enter f args) w) (o:fn.body.isSome=true) (x:P.follows .mixedOrders=true)
 (I:lS P E) (l:e8 P E) (j:(d.all PM.iE&&rt.all Ty.iE&&Nat.ble d.length fn.ntmps)=true):aN P f (aO E n d rt fn):=by
 simp only [bt] at j;obtain ⟨⟨z,C⟩,h⟩:=j;have h:d.length<=fn.ntmps:=by simp_all
 refine ⟨λZ ds k=>?_,λt D=>Ty.oJ (eT.1 C t D),λw R ds vs K U O y b=>.inl ⟨r,?_⟩⟩
 grind [aA.g,aO]
 unfold aA.g aO at b;simp only at b;split at b;cases b;rename_i v J;simp only [aX,bk] at b;obtain ⟨rfl,rfl⟩:=b;refine (aeY (c:=aO E n d rt fn) u o x I l z h J y).mono λe w' q=>?_
 grind [qi,UG]
def qW:Nat->List TV->List (Nat×TV)
 |_,[]=>[]
 |i,v::vs=>(i,v)::qW (i+1) vs
theorem aqi:∀(vs:List TV) (i n:Nat),lk (qW i vs) n=if i<=n then vs[n-i]? else none:=by
 intro vs
 induction vs with
 |nil=>intro i n;simp [qW,lk]
 |cons v vs b=>
  intro i n;simp only [qW,gr,b]
  grind
def TV.Mz:TV->Bool
 | .tup _=>false
 |_=>true
def Xj:List TV->TV
 |[v]=>v
 |vs=>.tup (vs.foldr .cons .unit)
def uz (E:an) (l:List TV) (s:St):St:=
 if l.all λv=>v.aI.isEmpty then s.tJ [] (s.cg.filterMap λx=>if Nat.beq (x.1%32) (E.fo%32) then none else some x.1) else s
def Kz {Z:Type} (E:an) (rt:List Ty) (fn:Func) (k:St->TV->Option Z) (s:St):Option Z:=
 match o4 E s fn.results.toList rt with
 |some l=>match (l.map Prod.snd).all TV.Mz with
  |true=>match (uz E (l.map Prod.snd) s).sv with
   |t::sv=>k {tmps:=t,cg:=(uz E (l.map Prod.snd) s).cg,sv:=sv} (Xj (l.map Prod.snd))
   |[]=>none
  |false=>none
 |none=>none
def m4 {Z:Type} (E:an) (rt:List Ty) (fn:Func) (k:St->TV->Option Z):Ex->St->Option Z:=λe s=>match e with
 | .exit _=>none
 |_=>Kz E rt fn k s
def dA (E:an) (n:Nat) (rt:List Ty) (fn:Func) (ts:List Nat):dx:=
 {run:=λs vs k=>match Nat.ble vs.length fn.ntmps with
  |true=>ha {E with nt:=fn.ntmps} n (k3 fn) (m4 {E with nt:=fn.ntmps} rt fn k) {tmps:=qW 0 vs,cg:=s.cg,sv:=(ts.map λn=>(n,s.get n))::s.sv}
  |false=>none}
def apX {A:b0} {R:Nat->Prop}:∀(vs:List TV) (xs:List Value),dq A w R vs xs->vs.length=xs.length/\∀(n:Nat) (v:TV),vs[n]?=some v->∃x,xs[n]?=some x/\VR A w R v x:=by
 intro vs
 induction vs with
 |nil=>
  intro xs h;cases xs with
  |nil=>simp_all
  |cons _ _=>exact h.elim
 |cons v vs d=>
  intro xs h;cases xs with
  |nil=>exact h.elim
  |cons x xs=>
   obtain ⟨c,e⟩:=d xs h.2;refine ⟨by simp [c],λn u b=>?_⟩;cases n with
   |zero=>simp at b;subst b;exact ⟨x,rfl,h.1⟩
   |succ n=>simp_all
def apY {A:b0} {R:Nat->Prop}:∀(vs:List TV) (xs:List Value),dq A w R vs xs->vs.all TV.Mz=true->fh A w R (vs.foldr .cons .unit) xs:=by
 intro vs
 induction vs with
 |nil=>
  intro xs h _;cases xs with
  |nil=>trivial
  |cons _ _=>exact h.elim
 |cons v vs c=>
  intro xs h b;cases xs with
  |nil=>exact h.elim
  |cons x xs=>
   simp only [List.all_cons,bt] at b;refine ⟨?_,c xs h.2 b.2⟩;have:=h.1;rwa [mV (λa e=>by rw [e] at b;cases b.1)] at this
theorem akm {A:b0} {R:Nat->Prop} {vs:List TV} {xs:List Value} (h:dq A w R vs xs) (b:vs.all TV.Mz=true):VR A w R (Xj vs) (if h:xs.length=1 then xs[0] else .tuple xs.toArray):=by
 match vs,xs,h with
 |[],[],_=>exact ⟨[],trivial,rfl⟩
 |[v],[x],h=>exact h.1
 |v::c::vs,x::x'::xs,h=>
  have:=apY (v::c::vs) (x::x'::xs) h b;exact ⟨_,this,by simp⟩
 |[],_::_,h=>exact h.elim
 |_::_,[],h=>exact h.elim
 |[_],_::_::_,h=>exact h.2.elim
 |_::_::_,[_],h=>exact h.2.elim
theorem bH.lh {A A':b0} {R:Nat->Prop}:∀(v:TV) (cs:List Value),v.aI=[]->bH A w R v cs->bH A' w R v cs:=by
 intro v
 induction v with
 |cons a d u x=>
  intro cs h g;simp only [TV.aI,y6] at h;obtain ⟨o,q,e,j,l⟩:=g;exact ⟨o,q,e,u o h.1 j,x q h.2 l⟩
 |bY f c r=>
  intro cs h g;obtain ⟨vs,j,l⟩:=g;exact ⟨vs,r vs h j,l⟩
 |ref b p=>intro cs h;simp [TV.aI] at h
 |sl b p=>intro cs h;simp [TV.aI] at h
 |slw b p lo n=>intro cs h;simp [TV.aI] at h
 |mp b=>intro cs h;simp [TV.aI] at h
 |tup a _=>intro cs _ g;exact g.elim
 |_=>intro cs _ g;exact g
theorem eI.lh {A A':b0} {R:Nat->Prop} {v:TV} {x:Value} (h:v.aI=[]) (d:eI A w R v x):eI A' w R v x:=by
 rcases d with e|⟨cs,b,c⟩
 exact .inl e;exact .inr ⟨cs,bH.lh v cs h b,c⟩
theorem fh.lh {A A':b0} {R:Nat->Prop}:∀(v:TV) (xs:List Value),v.aI=[]->fh A w R v xs->fh A' w R v xs:=by
 intro v
 induction v with
 |cons a d _ c=>
  intro xs h b;simp only [TV.aI,y6] at h;cases xs with
  |nil=>exact b.elim
  |cons x xs=>exact ⟨eI.lh h.1 b.1,c xs h.2 b.2⟩
 |unit=>intro xs _ b;cases xs with
  |nil=>exact b
  |cons _ _=>exact b.elim
 |_=>intro xs _ b;exact b.elim
theorem VR.lh {A A':b0} {R:Nat->Prop} {v:TV} {x:Value} (h:v.aI=[]) (e:VR A w R v x):VR A' w R v x:=by
 by_cases d:∃a,v=.tup a
 obtain ⟨a,rfl⟩:=d;obtain ⟨xs,b,c⟩:=e;exact ⟨xs,fh.lh a xs h b,c⟩
 grind [mV,eI.lh]
theorem dq.lh {A A':b0} {R:Nat->Prop}:∀(vs:List TV) (xs:List Value),(∀v∈vs,v.aI=[])->dq A w R vs xs->dq A' w R vs xs
 |[],[],_,h=>h
 |[],_::_,_,h=>h.elim
 |_::_,[],_,h=>h.elim
 |_::vs,_::xs,b,h=>⟨VR.lh (b _ (by simp)) h.1,dq.lh vs xs (λv c=>b v (by simp [c])) h.2⟩
theorem an7 {F:Fr} {G:Nat->Gh} {s:St} {a:Act} (h:aC F G s a w) {l:List TV} {xs:List Value} (b:dq (ax s.box G) w F.R l xs):aC F G (uz E l s) a w/\dq (ax (uz E l s).box G) w F.R l xs:=by
 unfold uz;split;rename_i c;exact ⟨h.tJ _ _,dq.lh l xs (λv d=>by simp_all) b⟩;simp_all
def fB {f:Nat} {fn:Func} {rt:List Ty} {ts:List Nat} (n:Nat) (U:P.funcs[f]?=some fn) (O:∀args w,(callFunc f args).run P w=.ok (.enter f args) w) (ai:fn.body.isSome=true) (ab:P.follows .mixedOrders=true)
 (u:lS P E) (j:e8 P E):dO P f (dA E n rt fn ts):=by
 intro Z F G s a w vs xs k r h ah c;unfold dA at c;simp only at c;split at c;rotate_left;cases c;rename_i ad;have ad:vs.length<=fn.ntmps:=by simp_all
 obtain ⟨aj,W⟩:=apX vs xs ah;have I:e8 P {E with nt:=fn.ntmps}:=⟨j.fn,j.inl,j.hW⟩;have K:fn.body=some (k3 fn):=by
  unfold k3
  grind
 refine .inl ⟨O,?_⟩;have J:dk P {E with nt:=fn.ntmps} {F with nt:=fn.ntmps,sv:=a.tmps::F.sv}:=⟨⟨u.ty,u.maps⟩,rfl⟩;have hrel:aC {F with nt:=fn.ntmps,sv:=a.tmps::F.sv} G {tmps:=qW 0 vs,cg:=s.cg,sv:=(ts.map λn=>(n,s.get n))::s.sv} {tmps:=xs.toArray++Array.replicate (fn.ntmps-xs.length) undef,defers:=[]} w:=by
  refine ⟨h.box,h.cC,h.c6,h.b7,h.bQ,h.R,λn=>?_,h.bT,h.fT,rfl,?_,h.cU,λi n=>?_,?_⟩;show VR (ax s.box G) w F.R ((lk (qW 0 vs) n).getD .un) _;rw [aqi,ay (bL n),Nat.sub_zero];cases ac:vs[n]? with
  |none=>exact .inl rfl
  |some v=>
   obtain ⟨x,C,ak⟩:=W n v ac;have aa:=(b6.1 C).1;have:(xs.toArray++Array.replicate (fn.ntmps-xs.length) undef).getD n undef=x:=by
    rw [jI,Array.getElem?_append_left (by simpa using aa)];simp [C]
   simp_all
  simp_all;cases i with
  |zero=>
   show VR (ax s.box G) w F.R ((lk (ts.map λn=>(n,s.get n)) n).getD .un) (a.tmps.getD n undef);rcases VA (λn=>s.get n) ts n with e|e
   rw [e];exact h.tmps n;rw [e];exact .inl rfl
  |succ i=>exact h.sv i n
  simp [h.jF]
 refine calls_of_wp U K ?_;have ag:xs.toArray.size=xs.length:=by simp
 rw [ag];refine wp_mono (UQ (Xe J I ab) n (k3 fn) _ _ _ _ _ _ hrel c) λe a' w' q=>?_
 have done:cf {F with nt:=fn.ntmps,sv:=a.tmps::F.sv} (λs=>Kz {E with nt:=fn.ntmps} rt fn k s) r a' w'->
  a'.defers=[]/\∃v,(results fn a'.tmps).run P w'=.ok v w'/\∃z y tv,aC F z y a w'/\VR (ax y.box z) w' F.R tv v/\k y tv=some r:=by
  rintro ⟨D,s2,b,hk⟩;unfold Kz at hk;dsimp only at hk;split at hk;rotate_left;cases hk;rename_i l X;split at hk;rotate_left;cases hk;rename_i ae;obtain ⟨_,al,g,d⟩:=Xh (E:={E with nt:=fn.ntmps}) b u.ty _ _ l X;have g:=Xk g;obtain ⟨b,d⟩:=an7 (E:={E with nt:=fn.ntmps}) b d;generalize uz {E with nt:=fn.ntmps} (l.map Prod.snd) s2=s2 at hk b d;split at hk;rotate_left;cases hk;rename_i t sv o;have af:(t::sv).length=(a.tmps::F.sv).length:=by rw [<-o];exact b.jF
  refine ⟨b.defers,_,g,D,{tmps:=t,cg:=s2.cg,sv:=sv},_,⟨b.box,b.cC,b.c6,b.b7,b.bQ,b.R,λn=>?_,b.bT,b.fT,h.defers,h.nt,b.cU,λi n=>?_,by simpa using af⟩,akm d ae,hk⟩;have:=b.sv 0 n;unfold St.fZ Fr.fZ at this;rw [o] at this;exact this;have:=b.sv (i+1) n;unfold St.fZ Fr.fZ at this;rw [o] at this;exact this
 cases e with
 |normal=>exact done q
 |ret=>exact done q
 |exit id=>obtain ⟨G,s,_,hk⟩:=q;cases hk
 |_=>exact q.elim
end
def Ty.jD:Ty->Bool
 | .bG=>false
 | .slice t=>t.jD&& !(t.size==0)
 | .cons t r=>t.jD&&r.jD
 | .arr _ t=>t.jD
 |_=>true
def mu:(t:Ty)->t.ai->Prop
 | .int k,x=>(Lit.int k x).wf=true
 | .bR,x=>List.length (α:=UInt8) x<=reachBytes
 | .slice t,xs=>List.length (α:=t.ai) xs<=reachBytes/\∀x∈(show List t.ai from xs),mu t x
 | .cons t r,x=>mu t x.1/\mu r x.2
 | .arr _ t,xs=>∀x∈(show List t.ai from xs),mu t x
 |_,_=>True
theorem Mk {α β:Type} {f:α->Option β}:∀{l:List α} {r:List β},l.mapM f=some r->r.length=l.length/\∀(i:Nat) (x:α),l[i]?=some x->∃y,r[i]?=some y/\f x=some y:=by
 intro l
 induction l with
 |nil=>simp_all
 |cons a l e=>
  intro r h;rw [List.mapM_cons] at h;cases c:f a with
  |none=>rw [c] at h;cases h
  |some b=>
   rw [c] at h;cases d:l.mapM f with
   |none=>rw [d] at h;cases h
   |some g=>
    grind
def Uv {α:Type} {Q:Nat->α->Prop}:∀(n:Nat),(∀i,i<n->∃x,Q i x)->∃xs:List α,xs.length=n/\∀(i:Nat) (x:α),xs[i]?=some x->Q i x:=by
 intro n
 induction n with
 |zero=>simp_all
 |succ n c=>
  intro h;obtain ⟨xs,b,d⟩:=c (λi hi=>h i (by omega));obtain ⟨y,f⟩:=h n (by omega);refine ⟨xs++[y],by simp [b],λi x e=>?_⟩
  grind
theorem Eh (a:Addr) (n:Nat):(a.add n).block=a.block:=by unfold Addr.add;split<;>rfl
theorem Sl (a:Addr) (n:Nat):(a.add n).off=a.off+n:=by
 unfold Addr.add
 grind
theorem ae1 {w:World} {a:Addr} {n:Nat} {cs:List Value} (h:w.cells? 0 a n=some cs) (o:n≠0):a.spot=none/\a.block<w.heap.size/\At w a.block a.off n cs:=by
 unfold World.cells? at h;rw [ay (bL _)] at h;obtain ⟨f,g⟩:=Mk h;rw [y9] at f;have hi:∀i,i<n->∃y,cs[i]?=some y/\w.cell? (a.add i)=some y:=λi hi=>g i i (by simp_all)
 obtain ⟨r,_,c⟩:=hi 0 (by omega);unfold World.cell? at c;split at c;rename_i row e fz b;split at c;cases c;rename_i d;have d:a.spot=none:=by
  have:(a.add 0).spot=a.spot:=rfl;simp_all
 have b:w.heap[a.block]?=some (.cells row e fz):=by rw [Eh] at b;exact b
 have j:∀i,i<n->∃y,cs[i]?=some y/\row[a.off+i]?=some y:=by
  grind [World.cell?,Eh,Sl]
 have l:a.off+n<=row.size:=by
  obtain ⟨y,_,q⟩:=j (n-1) (by omega)
  grind
 refine ⟨d,(y5.1 b).1,row,e,fz,b,l,?_⟩;apply lz
 grind
 cases c
section
variable {H:Type} {enc:TypeId×Value->H} {P:Program} {w:World}
abbrev below (w:World):Nat->Prop:=λb=>b<w.heap.size
theorem aav {e:TypeId}:∀(l:List (DataW H)) (d:DataW H),d∈l->∀n∈d.weights P e,n∈DataW.weightsAll P e l:=by
 intro l
 induction l with
 |nil=>intro d h;cases h
 |cons a l b=>
  grind [DataW.weightsAll]
def ae3 {cs:List Value} {m:Nat}:∀(l:List (List Value)),cs.length=l.length*m->(∀(i:Nat) (c:List Value),l[i]?=some c->c=(cs.drop (i*m)).take m)->l.flatten=cs:=by
 intro l
 induction l generalizing cs with
 |nil=>simp_all
 |cons c l g=>
  intro h d;have b:=d 0 c rfl;simp at b;rw [mA];have f:(cs.drop m).length=l.length*m:=by
   rw [List.length_drop,h,jg,nM];omega
  rw [g (cs:=cs.drop m) f (λi c' e=>by
   have:=d (i+1) c' (by simpa using e);rw [this,jK,nM,Nat.add_comm]),b,iR]
def aot {k:IntKind} {t:TypeId} (c:P.underlying t=some (.int k)) {b:Nat} {cs:List Value} {d:DataW H} {e:List MemPlace} (h:DataW.trod enc P w 0 (λ_=>true) true b t cs=some (d,e)):
 ∃n,cs=[.int k n]/\(Lit.int k n).wf=true:=by
 cases b with
 |zero=>cases h
 |succ b=>
  rcases cs with _|⟨v,_|⟨f,r⟩⟩
  simp [DataW.trod,c] at h;cases v<;>simp [DataW.trod,c] at h
  simp_all;simp [DataW.trod,c] at h
def aos {t:TypeId} (e:P.underlying t=some .bool) {c:Nat} {cs:List Value} {d:DataW H} {f:List MemPlace} (h:DataW.trod enc P w 0 (λ_=>true) true c t cs=some (d,f)):
 ∃b,cs=[.bool b]:=by
 cases c with
 |zero=>cases h
 |succ c=>
  rcases cs with _|⟨v,_|⟨g,r⟩⟩
  simp [DataW.trod,e] at h;cases v<;>simp [DataW.trod,e] at h
  exact ⟨_,rfl⟩;simp [DataW.trod,e] at h
def aow {t:TypeId} (c:P.underlying t=some .string) {b:Nat} {cs:List Value} {d:DataW H} {e:List MemPlace} (h:DataW.trod enc P w 0 (λ_=>true) true b t cs=some (d,e)):
 ∃s,cs=[.string s]/\d=.lit (.string s.data.toList):=by
 cases b with
 |zero=>cases h
 |succ b=>
  rcases cs with _|⟨v,_|⟨f,r⟩⟩
  simp [DataW.trod,c] at h;cases v<;>simp [DataW.trod,c] at h
  simp_all;simp [DataW.trod,c] at h
def aov {t e:TypeId} (b:P.underlying t=some (.slice e)) {f:Nat} {cs:List Value} {d:DataW H} {q:List MemPlace} (h:DataW.trod enc P w 0 (λ_=>true) true f t cs=some (d,q)):
 cs=[.slice none 0 0]\/∃l a len cap c bo,cs=[.slice (some a) len cap]/\len<=cap/\
  ((List.range len).mapM λi=>(w.cells? 0 (a.add (i*P.cellsOf e)) (P.cellsOf e)).bind (DataW.trod enc P w 0 (λ_=>true) true l e))=some c/\d=.slice (c.map (·.1)) bo:=by
 cases f with
 |zero=>cases h
 |succ f=>
  rcases cs with _|⟨v,_|⟨u,r⟩⟩
  simp [DataW.trod,b] at h;cases v with
  |slice a len cap=>
   cases a with
   |none=>
    left;cases len<;>cases cap<;>first|rfl|simp [DataW.trod,b] at h
   |some a=>
    right;unfold DataW.trod at h;rw [b] at h;simp only at h;split at h;rename_i o;rw [Option.bind_eq_some_iff] at h;obtain ⟨c,n,g⟩:=h;rw [Option.map_eq_some_iff] at g;obtain ⟨bo,_,j⟩:=g;simp only [bk] at j;exact ⟨f,a,len,cap,c,_,rfl,o.2.1,n,j.1.symm⟩;cases h
  |_=>simp [DataW.trod,b] at h
  simp [DataW.trod,b] at h
def Z5 {t:TypeId} {c:Array Field} (n:P.underlying t=some (.struct c)) {b:Nat} {cs:List Value} {d:DataW H} {o:List MemPlace} (h:DataW.trod enc P w 0 (λ_=>true) true b t cs=some (d,o)):
 ∃g xs,cs.length=P.cellsOf t/\(c.toList.mapM λf=>DataW.trod enc P w 0 (λ_=>true) true g f.type ((cs.drop f.offset).take (P.cellsOf f.type)))=some xs/\d=.agg (xs.map (·.1)):=by
 cases b with
 |zero=>cases h
 |succ b=>
  unfold DataW.trod at h;rw [n] at h;simp only at h;split at h;rename_i l;rw [Option.map_eq_some_iff] at h;obtain ⟨xs,j,e⟩:=h;simp only [bk] at e;exact ⟨b,xs,l,j,e.1.symm⟩;cases h
def aor {t e:TypeId} {n:Nat} (l:P.underlying t=some (.array n e)) {b:Nat} {cs:List Value} {d:DataW H} {o:List MemPlace} (h:DataW.trod enc P w 0 (λ_=>true) true b t cs=some (d,o)):
 ∃f xs,cs.length=P.cellsOf t/\((List.range n).mapM λi=>DataW.trod enc P w 0 (λ_=>true) true f e ((cs.drop (i*P.cellsOf e)).take (P.cellsOf e)))=some xs/\d=.agg (xs.map (·.1)):=by
 cases b with
 |zero=>cases h
 |succ b=>
  unfold DataW.trod at h;rw [l] at h;simp only at h;split at h;rename_i j;rw [Option.map_eq_some_iff] at h;obtain ⟨xs,g,c⟩:=h;simp only [bk] at c;exact ⟨b,xs,j,g,c.1.symm⟩;cases h
def aou (T:Ty):(∀(t:TypeId),bE P T t->T.jD=true->∀(g:Nat) (cs:List Value) (d:DataW H) (U:List MemPlace),DataW.trod enc P w 0 (λ_=>true) true g t cs=some (d,U)->
 (∀n∈d.weights P t,n<=reachBytes)->∃x:T.ai,Rd w (below w) T x cs/\mu T x)/\
 (∀(l:List Field) (o:Nat),cK P T l o=true->T.jD=true->∀(g:Nat) (cs:List Value) (xs:List (DataW H×List MemPlace)),
  (l.mapM λf=>DataW.trod enc P w 0 (λ_=>true) true g f.type ((cs.drop f.offset).take (P.cellsOf f.type)))=some xs->(∀n∈DataW.weightsEach P (l.map (·.type)) (xs.map (·.1)),n<=reachBytes)->
  o+T.size<=cs.length->∃x:T.ai,Rd w (below w) T x ((cs.drop o).take T.size)/\mu T x):=by
 have af:∀(T:Ty) (t:TypeId),bE P T t->P.cellsOf t=T.size:=by
  intro T t h;obtain ⟨i,hi,v,_⟩:=h.gT;unfold Program.cellsOf;rw [hi];exact v
 have ar:reachBytes<=eL:=by decide
 induction T with
 |int k=>
  refine ⟨λt D _ g cs d U h _=>?_,λl o h=>by cases l<;>simp [cK] at h⟩;have j:P.underlying t=some (.int k):=by
   have I:=D;simp only [bE,dH,bt] at I
   grind
  obtain ⟨n,rfl,q⟩:=aot j h;exact ⟨(n:Int),⟨rfl,trivial,rfl⟩,q⟩
 |bool=>
  refine ⟨λt D _ g cs d U h _=>?_,λl o h=>by cases l<;>simp [cK] at h⟩;have j:P.underlying t=some .bool:=by
   have I:=D;simp only [bE,dH,bt] at I
   grind
  obtain ⟨b,rfl⟩:=aos j h;exact ⟨(b:Bool),⟨rfl,trivial,rfl⟩,trivial⟩
 |bR=>
  refine ⟨λt D _ g cs d U h q=>?_,λl o h=>by cases l<;>simp [cK] at h⟩;obtain ⟨s,rfl,rfl⟩:=aow D.bR h;have W:s.data.toList.length<=reachBytes:=q _ (by simp [DataW.weights]);refine ⟨s.data.toList,⟨rfl,Nat.le_trans W ar,?_⟩,W⟩;simp only [bJ]
 |bG=>grind [Ty.jD]
 |slice T ak=>
  refine ⟨λt D v g cs d U h q=>?_,λl o h=>by cases l<;>simp [cK] at h⟩;simp only [Ty.jD,bt,hp,nN] at v;obtain ⟨e,j,ac⟩:=D.slice;rcases aov j h with rfl|⟨aa,J,len,cap,ao,bo,rfl,aJ,u,rfl⟩
  exact ⟨([]:List T.ai),⟨none,0,rfl,⟨cV _,bL _⟩,λau=>absurd rfl au⟩,bL _,λx O=>by cases O⟩;obtain ⟨C,K⟩:=Mk u;rw [y9] at C;obtain ⟨aL,a5,aK,a2⟩:=ac.bytes v.2;have a4:1<=P.bytesOf e:=by unfold Program.bytesOf;rw [a5];exact a2
  have ad:len<=reachBytes:=by
   have:=q ((ao.map (·.1)).length+bo.length|>(· *P.bytesOf e)) (by simp [DataW.weights,j]);simp only [dU,C] at this;have ab:(len+bo.length)*1<=(len+bo.length)*P.bytesOf e:=Nat.mul_le_mul_left _ a4;omega
  have a7:∀n∈DataW.weightsAll P e (ao.map (·.1)),n<=reachBytes:=λn ae=>q n (by simp only [DataW.weights,j];simp_all)
  rw [af T e ac] at K;have key:∀i,i<len->∃x:T.ai,(∃c,(i=0->J.spot=none)/\J.block<w.heap.size/\At w J.block (J.off+i*T.size) T.size c/\Rd w (below w) T x c)/\mu T x:=by
   intro i hi;obtain ⟨y,ag,X⟩:=K i i (by simp_all);rw [Option.bind_eq_some_iff] at X;obtain ⟨c,aA,aB⟩:=X;obtain ⟨ay,am,a3⟩:=ae1 aA v.2;obtain ⟨x,an,az⟩:=ak.1 e ac v.1 aa c y.1 y.2 aB (λn ae=>a7 n (aav _ y.1 (cQ.2 ⟨y,cz ag,rfl⟩) n ae))
   grind [Addr.add]
  obtain ⟨xs,al,aE⟩:=Uv len key;refine ⟨xs,⟨some J,cap,by rw [<-al],⟨by omega,Nat.le_trans (Nat.le_of_eq al) (Nat.le_trans ad ar)⟩,λau=>?_⟩,Nat.le_trans (Nat.le_of_eq al) ad,λx O=>?_⟩;have a1:0<len:=by
   grind
  obtain ⟨_,⟨_,ay,am,_⟩,_⟩:=key 0 a1;refine ⟨J.block,J.off,?_,am,λi x O=>?_⟩;obtain ⟨b,o,sp⟩:=J;simp_all;simp_all;obtain ⟨i,hi⟩:=nI.1 O;exact (aE i x hi).2
 |unit=>
  refine ⟨λt D _ g cs d U h _=>?_,λl o h _ g cs xs u _ _=>⟨(),⟨rfl,trivial,by simp [Ty.size,bJ]⟩,trivial⟩⟩;have I:=D;simp only [bE,dH,bt] at I;obtain ⟨_,j⟩:=I;split at j;rename_i a0 ah;obtain ⟨aa,xs,C,_⟩:=Z5 ah h;rw [af _ _ D] at C;have:cs=[]:=hO.1 C;subst this;exact ⟨(),⟨rfl,trivial,rfl⟩,trivial⟩;cases j
 |cons a r a8 a9=>
  have fields:∀(f:Field) (l:List Field) (o:Nat),f.offset=o->bE P a f.type->cK P r l (o+a.size)=true->a.jD=true->r.jD=true->∀(g:Nat) (cs:List Value) (xs:List (DataW H×List MemPlace)),
   ((f::l).mapM λf=>DataW.trod enc P w 0 (λ_=>true) true g f.type ((cs.drop f.offset).take (P.cellsOf f.type)))=some xs->(∀n∈DataW.weightsEach P ((f::l).map (·.type)) (xs.map (·.1)),n<=reachBytes)->
   o+(Ty.cons a r).size<=cs.length->∃x:(Ty.cons a r).ai,Rd w (below w) (Ty.cons a r) x ((cs.drop o).take (Ty.cons a r).size)/\mu (Ty.cons a r) x:=by
   intro f l o a6 ap W aD sr g cs xs u q ad;rw [List.mapM_cons] at u;cases C:DataW.trod enc P w 0 (λ_=>true) true g f.type ((cs.drop f.offset).take (P.cellsOf f.type)) with
   |none=>rw [C] at u;cases u
   |some y=>
    rw [C] at u;cases K:(l.mapM λf=>DataW.trod enc P w 0 (λ_=>true) true g f.type ((cs.drop f.offset).take (P.cellsOf f.type))) with
    |none=>rw [K] at u;cases u
    |some aj=>
     rw [K] at u;have u:some (y::aj)=some xs:=u;obtain rfl:=b2 u;simp only [fJ,DataW.weightsEach,bp] at q;rw [af _ _ ap,a6] at C;obtain ⟨x,av,aw⟩:=a8.1 _ ap aD g _ y.1 y.2 C (λn ae=>q n (.inl ae));simp only [Ty.size] at ad;obtain ⟨z,aC,w2⟩:=a9.2 l (o+a.size) W sr g cs aj K (λn ae=>q n (.inr ae)) (by omega);refine ⟨(x,z),⟨_,_,?_,av,aC⟩,aw,w2⟩;simp only [Ty.size];rw [<-jK,List.take_add]
  refine ⟨λt D v g cs d U h q=>?_,λl o h v g cs xs u q ad=>?_⟩;simp only [Ty.jD,bt] at v;have I:=D;simp only [bE,dH,bt] at I;obtain ⟨_,j⟩:=I;split at j;rename_i a0 ah;split at j;rename_i f l W;simp only [bt,iS] at j;obtain ⟨⟨⟨⟨C,_⟩,_⟩,ab⟩,h4⟩:=j;obtain ⟨aa,xs,ag,X,rfl⟩:=Z5 ah h;rw [W] at X;rw [af _ _ D] at ag;simp only [DataW.weights,ah,W] at q;obtain ⟨x,av,aw⟩:=fields f l 0 C ab (by simp_all) v.1 v.2 aa cs xs X q (by omega)
  grind
  cases j;cases j;simp only [Ty.jD,bt] at v;cases l with
  |nil=>simp [cK] at h
  |cons f l=>
   simp only [cK,bt,iS] at h;obtain ⟨⟨⟨⟨C,_⟩,_⟩,ab⟩,h4⟩:=h;exact fields f l o C ab h4 v.1 v.2 g cs xs u q ad
 |arr n T ak=>
  refine ⟨λt D v g cs d U h q=>?_,λl o h=>by cases l<;>simp [cK] at h⟩;simp only [Ty.jD] at v;obtain ⟨e,j,ac,aq⟩:=D.arr;obtain ⟨aa,xs,C,K,rfl⟩:=aor j h;rw [af _ _ D] at C;obtain ⟨ab,h4⟩:=Mk K;rw [y9] at ab;simp only [DataW.weights,j] at q;rw [af T e ac] at h4;have key:∀i,i<n->∃x:T.ai,dl T x/\bJ T x=(cs.drop (i*T.size)).take T.size/\mu T x:=by
   intro i hi;obtain ⟨y,ag,X⟩:=h4 i i (by simp_all);obtain ⟨x,an,az⟩:=ak.1 e ac v aa _ y.1 y.2 X (λm u=>q m (aav _ y.1 (cQ.2 ⟨y,cz ag,rfl⟩) m u));obtain ⟨aG,aH⟩:=Rd.aW aq an
   grind
  obtain ⟨aj,aF,ax⟩:=Uv n key;refine ⟨aj,⟨aq,⟨aF,λx O=>?_⟩,?_⟩,λx O=>?_⟩;obtain ⟨i,hi⟩:=nI.1 O;exact (ax i x hi).1;rw [afT];refine (ae3 (m:=T.size) _ ?_ (λi c aI=>?_)).symm
  grind [Ty.size]
  grind
  obtain ⟨i,hi⟩:=nI.1 O;exact (ax i x hi).2.2
end
end Go.TM
namespace Go.TM
open Go.ChangeShapes Go.WideShapes Go.RowKit Go.ChangeMaps
section
variable {H:Type} {enc:TypeId×Value->H} {P:Program} {w:World}
def DK:List Ty->List D->Prop
 |[],[]=>True
 |T::b,d::ds=>(∃x:T.ai,d=⟨T,x⟩/\mu T x)/\DK b ds
 |_,_=>False
def MQ (P:Program) (T:Ty) (t:TypeId):Bool:=dH P T t&&T.jD&&P.readableRec t&&decide (t<P.types.size)
def mf (P:Program):List Ty->List TypeId->Bool
 |[],[]=>true
 |T::b,t::ts=>MQ P T t&&mf P b ts
 |_,_=>false
theorem apW {T:Ty} {t:TypeId} (g:bE P T t) {r:Reach} {b:Nat} {v:Value} (f:Value.okWide P w r b t v) {x:T.ai} (z:Rd w (below w) T x v.cells.toList):VR A0 w (below w) (.ad T x) v:=by
 refine dF (cs:=v.cells.toList) z ?_;have I:=g.row;obtain ⟨d,C,y⟩:=I;show if T.agg then v=.agg v.cells.toList.toArray else v.cells.toList=[v]
 cases u:T.agg with
 |true=>
  rw [ay rfl];rw [u] at y;unfold Value.okWide at f;rw [C] at f;cases d<;>simp [TypeDesc.isRow] at y
  all_goals
   obtain ⟨cs,rfl,_⟩:=f;simp [Value.cells]
 |false=>
  rw [au (by simp)];have fin:(∀cs,v≠ .agg cs)->v.cells.toList=[v]:=by
   intro h;cases v<;>first|rfl|exact absurd rfl (h _)
  apply fin;rintro cs rfl;cases T with
  |int k=>
   have j:=g;simp only [bE,dH,bt] at j;obtain ⟨_,o⟩:=j;split at o;rename_i k' q;obtain ⟨n,e⟩:=okWide_int q f;cases e;cases o
  |bool=>
   have j:=g;simp only [bE,dH,bt] at j;obtain ⟨_,o⟩:=j;split at o;rename_i q;obtain ⟨n,e⟩:=okWide_bool q f;cases e;cases o
  |bR=>obtain ⟨n,e⟩:=okWide_string g.bR f;cases e
  |slice T=>obtain ⟨e,D,_⟩:=g.slice;obtain ⟨a,l,c,e⟩:=okWide_slice D f;cases e
  |bG=>exact z.elim
  |_=>simp [Ty.agg] at u
def aet:∀(c:List Ty) (ts:List TypeId) (vs:List Value) (ds:List (DataW H)) (z:List MemPlace),mf P c ts=true->DataW.TrodAll enc P w 0 (λ_=>true) true ts vs ds z->
 (∀n∈DataW.weightsEach P ts ds,n<=reachBytes)->(∀(j:Nat) t v,ts[j]?=some t->vs[j]?=some v->∃r b,Value.okWide P w r b t v)->
 ∃e g,DK c e/\lE w (below w) (c.map .ro) e vs g/\bW g=[]/\ds.length=c.length:=by
 intro c
 induction c with
 |nil=>
  intro ts vs ds z f h _ _;cases ts with
  |nil=>
   obtain ⟨rfl,rfl,rfl⟩:=trodAll_nil h;exact ⟨[],[],trivial,trivial,rfl,rfl⟩
  |cons _ _=>simp [mf] at f
 |cons T c X=>
  intro ts vs ds z f h y C;cases ts with
  |nil=>simp [mf] at f
  |cons t ts=>
   simp only [mf,MQ,bt,nO] at f;obtain ⟨⟨⟨⟨D,aa⟩,p3⟩,ag⟩,ab⟩:=f;obtain ⟨v,vs,d,ds,p,q,rfl,rfl,rfl,l,o⟩:=trodAll_cons h;simp only [DataW.weightsEach,bp] at y;obtain ⟨K,O⟩:=l;obtain ⟨x,W,af⟩:=(aou T).1 t D aa K _ d p O (λn u=>y n (.inl u));obtain ⟨r,b,U⟩:=C 0 t v rfl rfl;obtain ⟨e,g,I,J,a3,a4⟩:=X ts vs ds q ab o (λn u=>y n (.inr u)) (λj ac ad l o=>C (j+1) ac ad (by simpa using l) (by simpa using o));refine ⟨⟨T,x⟩::e,⟨none,.leaf⟩::g,⟨⟨x,rfl,af⟩,I⟩,⟨[⟨T,x⟩],e,rfl,⟨rfl,rfl,apW D U W⟩,J⟩,by simp [bW,Gh.ae,FT.ae] at a3|-;exact a3,by simp [a4]⟩
def anX {j:World} (y:laidOutB P=true) (r:∀b,b<w.heap.size->j.heap[b]?=w.heap[b]?):∀(e:List Ty) (ts:List TypeId) (vs:List Value) (ds:List (DataW H)) (g:List MemPlace),mf P e ts=true->DataW.TrodAll enc P w 0 (λ_=>true) true ts vs ds g->
 DataW.TrodAll enc P j 0 (λb=>decide (b<w.heap.size)) true ts vs ds g:=by
 intro e
 induction e with
 |nil=>
  intro ts vs ds g c h;cases ts with
  |nil=>obtain ⟨rfl,rfl,rfl⟩:=trodAll_nil h;exact trodAll_mk0
  |cons _ _=>simp [mf] at c
 |cons T e C=>
  intro ts vs ds g c h;cases ts with
  |nil=>simp [mf] at c
  |cons t ts=>
   simp only [mf,MQ,bt,nO] at c;obtain ⟨⟨⟨⟨J,K⟩,p3⟩,D⟩,I⟩:=c;obtain ⟨v,vs,d,ds,p,q,rfl,rfl,rfl,n,u⟩:=trodAll_cons h;have l:∀x∈p,x.block<w.heap.size:=by obtain ⟨m,z⟩:=n;exact DataW.trod_lt m _ _ _ z
   refine trodAll_cons_mk (WideElems.Trod_stays y p3 D n (λx f=>?_) (λx f=>by simpa using l x f)) (C ts vs ds q I u);cases x with
   |cell b o=>
    have:=r b (l _ f);show j.cell? ⟨b,o,none⟩=w.cell? ⟨b,o,none⟩;unfold World.cell?;rw [this]
   |map b=>exact r b (l _ f)
def afg {f:FuncId} {fn:Func} {s:ChangeSpec} {c:List Ty} {h:{Z:Type}->List D->(List D->List D->Option Z)->Option Z} (aj:aN P f ⟨c.map .ro,[.bool],h⟩) (av:∀args w,(callFunc f args).run P w=.ok (.enter f args) w) (ac:∀ds,DK c ds->aA.g ⟨c.map .ro,[.bool],h⟩ ds=some ([⟨.bool,true⟩],[]))
 (O:s.vars=[]) (al:s.plain.varTypes P=[]) (r:∀ds:List (DataW H),ds.length=c.length->s.fn H ds={results:=[.lit (.bool true)],args:=ds})
 (K:mf P c fn.params.toList=true) {tb:TypeId} (ag:fn.resultTypes= #[tb]) (ai:P.underlying tb=some .bool) (ad:laidOutB P=true) {c6 er handsOn:Bool}
 (W:World) (bj:Nat) (args:Array Value) (ds u:List (DataW H)) (before:List MemPlace)
 (ak:∀(j:Nat) t v,fn.params[j]?=some t->args[j]?=some v->Value.okWide P W .any bj t v)
 (C:DataW.Whole enc P fn.params.toList s.vars c6 W args.toList ds u before)
 (ah:(DataW.weightsEach P (fn.params.toList++s.plain.varTypes P) (ds++u)).all (· <=reachBytes)=true):
 Calls P f args W λe o=>∃v,e=.returned v/\s.post enc P fn c6 er handsOn false W args v o:=by
 have aa:=C;obtain ⟨p,q,y,z,rfl,aw,ay⟩:=C;rw [O] at z;obtain ⟨rfl,rfl⟩:=trodVars_none z;rw [al,gg,gg] at ah;have an:∀n∈DataW.weightsEach P fn.params.toList ds,n<=reachBytes:=λn ax=>by simp_all
 obtain ⟨l,x,U,X,a3,a4⟩:=aet c fn.params.toList args.toList ds p K y an (λj t v ar au=>⟨.any,bj,ak j t v (by simp_all) (by simp_all)⟩);have af:xh W (below W) ⟨c.map .ro,[.bool],h⟩ l args.toList x:=⟨X,by simp_all,λb d=>(by rw [a3] at d;cases d),λb d=>d⟩;rcases aj.Up W (below W) l args.toList x _ _ af (ac l U) with ⟨_,I⟩|⟨v,w',az,_⟩
 rotate_left;simp_all;rw [Array.toArray_toList] at I;refine I.mono λe o J=>?_
 cases e with
 |returned v=>
  obtain ⟨ap,aq,D⟩:=J;have ab:∀b,b<W.heap.size->o.heap[b]?=W.heap[b]?:=λb d=>D.bT b d (by simp_all)
  have am:v=.bool true:=by
   obtain ⟨f,_,cs,ae,ao⟩:=D.dd;obtain ⟨_,_,_,rfl⟩:=ae;simpa [Ty.agg,bJ] using ao.symm
  subst am;refine ⟨_,rfl,ds,[],p++[],[],p,[],aa,?_,?_,?_,⟨D.fT.os,D.fT.output,λi hi=>?_⟩,λh=>by cases h⟩;rw [gg,r ds a4,ag];exact trodAll_mk1 (shut_bool ai _);rw [gg,r ds a4];exact anX ad ab c _ _ ds p K y;rw [gg,r ds a4,O];exact rfl
  grind
 |_=>exact J.elim
end
end Go.TM
namespace Go.TM
def nb:List Nat->List Nat->Bool
 |[],[]=>true
 |a::l,b::m=>match Nat.beq a b with
  |true=>nb l m
  |false=>false
 |_,_=>false
def Fe:List (Nat×List Nat×aA)->Nat->List Nat->Option aA
 |[],_,_=>none
 |(k,b,c)::r,n,ids=>match Nat.beq k n with
  |true=>match nb b ids with
   |true=>some c
   |false=>Fe r n ids
  |false=>Fe r n ids
def aE (ty:List (Nat×Ty)) (cs:List (Nat×List Nat×aA)) (dW:List (Nat×mL)):an:=
 {nt:=0,ty:=ty,fn:=λf ids=>Fe cs f ids,dW:=dW}
def afE (P:Program) (ty:List (Nat×Ty)) (dW:List (Nat×mL)):e8 P (aE ty [] dW):=⟨λf ids c h=>(by cases h),λf ids I h=>(by cases h),λf ids I h=>(by cases h)⟩
def afD {P:Program} {ty:List (Nat×Ty)} {dW:List (Nat×mL)} {f:Nat} {l:List Nat} {c:aA} {cs:List (Nat×List Nat×aA)} (h:aN P f c) (j:e8 P (aE ty cs dW)):e8 P (aE ty ((f,l,c)::cs) dW):=by
 refine ⟨?_,λf ids I h=>(by cases h),λf ids I h=>(by cases h)⟩;intro g ids d b;simp only [aE,Fe] at b;split at b;rename_i e;split at b;simp_all;exact j.fn g ids d b;exact j.fn g ids d b
def Ff:List (Nat×List Nat×dx)->Nat->List Nat->Option dx
 |[],_,_=>none
 |(k,b,c)::r,n,ids=>match Nat.beq k n with
  |true=>match nb b ids with
   |true=>some c
   |false=>Ff r n ids
  |false=>Ff r n ids
def dI (E:an) (fo:Nat) (l:List (Nat×List Nat×dx)):an:={E with fo:=fo,inl:=λf ids=>Ff l f ids}
def eC {P:Program} {E:an} {o:Nat} (h:e8 P E):e8 P (dI E o []):=⟨h.fn,λf ids I h=>(by cases h),λf ids I h=>(by cases h)⟩
def cF {P:Program} {E:an} {o:Nat} {f:Nat} {l:List Nat} {c:dx} {cs:List (Nat×List Nat×dx)} (h:dO P f c) (j:e8 P (dI E o cs)) (hi:c.hW=true->c.ru:=by intro h;cases h):e8 P (dI E o ((f,l,c)::cs)):=by
 have key:∀g ids d,(dI E o ((f,l,c)::cs)).inl g ids=some d->dO P g d/\(d.hW=true->d.ru):=by
  intro g ids d b;simp only [dI,Ff] at b;split at b;rename_i e;split at b;simp_all;exact ⟨j.inl g ids d b,j.hW g ids d b⟩;exact ⟨j.inl g ids d b,j.hW g ids d b⟩
 exact ⟨j.fn,λg ids d b=>(key g ids d b).1,λg ids d b=>(key g ids d b).2⟩
def y2 (E:an) (l:List (Nat×Ty)):an:={E with maps:=l}
def pf (E:an) (l:List Nat):an:={E with Nz:=l}
def Lq {P:Program} {E:an} {l:List (Nat×Ty)} (h:e8 P E):e8 P (y2 E l):=⟨h.fn,h.inl,h.hW⟩
def tr {P:Program} {E:an} {l:List Nat} (h:e8 P E):e8 P (pf E l):=⟨h.fn,h.inl,h.hW⟩
def uC {P:Program} {E:an} {l:List Nat} (h:lS P E):lS P (pf E l):=⟨h.ty,h.maps⟩
def N0 {P:Program} {E:an} {l:List (Nat×Ty)} (h:lS P E) (c:l.all (λx=>oW P x.2 x.1)=true):lS P (y2 E l):=by
 refine ⟨h.ty,λt K b=>?_⟩;replace b:lk l t=some K:=b
 induction l with
 |nil=>cases b
 |cons x l d=>
  obtain ⟨k,v⟩:=x;simp only [List.all_cons,bt] at c;rw [gr] at b
  grind
def Z9 {P:Program} {b:List (Nat×Ty)} (h:b.all (λx=>dH P x.2 x.1)=true) {cs:List (Nat×List Nat×aA)} {dW:List (Nat×mL)}:∀t T,(aE b cs dW).iN t=some T->bE P T t:=by
 intro t T c;have:∀l:List (Nat×Ty),l.all (λx=>dH P x.2 x.1)=true->lk l t=some T->dH P T t=true:=by
  intro l
  induction l with
  |nil=>intro _ h;cases h
  |cons x l f=>
   intro d e;obtain ⟨k,v⟩:=x;simp only [List.all_cons,bt] at d;rw [gr] at e
   grind
 exact this b h c
def k9:Code->List Code
 | .seq a b=>k9 a++k9 b
 | .cond _ a b=>k9 a++k9 b
 | .block _ c=>k9 c
 | .loop c=>c::k9 c
 |_=>[]
def oN (d:Nat):Code->Bool
 | .region id _ _=>Nat.beq id d
 | .seq a b=>oN d a||oN d b
 | .cond _ a b=>oN d a||oN d b
 | .block _ c=>oN d c
 | .loop c=>oN d c
 |_=>false
def yb (fn:Func) (n:Nat):Code:=
 match fn.body with
 |some c=>(k9 c).getD n .skip
 |none=>.skip
section
variable {Z:Type}
def m2 (E:an) (n:Nat):Code->Nat->List Nat->(Ex->St->Option Z)->(Ex->St->Option Z)
 | .seq a b,i,d,k=>if Nat.blt i (k9 a).length then m2 E n a i d (λe f=>match e with
  | .normal=>ju E (fS b+2000000) f (ha E n b k)
  |e=>k e f) else m2 E n b (i-(k9 a).length) d k
 | .cond _ a b,i,d,k=>if Nat.blt i (k9 a).length then m2 E n a i d k else m2 E n b (i-(k9 a).length) d k
 | .block id c,i,d,k=>m2 E n c i d (λe f=>match e with
  | .exit j=>if Nat.beq j id then k .normal f else k (.exit j) f
  |e=>k e f)
 | .loop c,0,_,k=>k
 | .loop c,i+1,d,k=>m2 E n c i d.tail (λe f=>match e with
  | .normal=>ju E (fS c) f (tN (ha E n c) (ju E (fS c)) (m6 E (fS c) k) (d.headD 0))
  |e=>m6 E (fS c) k e f)
 |_,_,_,k=>k
def oF (E:an) (n:Nat):Code->Nat->Nat->List Nat->(Ex->St->Option Z)->St->Option Z
 | .region _ ops h,_,j,_,k,s=>match h with
  |false=>kA E ops (k .normal) (ops.toList.drop j) s
  |true=>lZ E (ko ops.toList) (k .normal) (((ko ops.toList).zip (jl (ko ops.toList))).drop j) s
 | .seq a b,d,j,f,k,s=>match oN d a with
  |true=>oF E n a d j f (λe g=>match e with
   | .normal=>ju E (fS b+2000000) g (ha E n b k)
   |e=>k e g) s
  |false=>oF E n b d j f k s
 | .cond _ a b,d,j,f,k,s=>match oN d a with
  |true=>oF E n a d j f k s
  |false=>oF E n b d j f k s
 | .block id c,d,j,f,k,s=>oF E n c d j f (λe g=>match e with
  | .exit i=>if Nat.beq i id then k .normal g else k (.exit i) g
  |e=>k e g) s
 | .loop c,d,j,f,k,s=>oF E n c d j f.tail (λe g=>match e with
  | .normal=>ju E (fS c) g (tN (ha E n c) (ju E (fS c)) (m6 E (fS c) k) (f.headD 0))
  |e=>m6 E (fS c) k e g) s
 |_,_,_,_,_,_=>none
def nE (E:an) (fn:Func):an:={E with nt:=fn.ntmps}
noncomputable def kZ (E:an) (n:Nat) (fn:Func) (b j:Nat) (dst:Option Nat) (k:Ex->St->Option Z):St->TV->Option Z:=λs v=>
 oF (nE E fn) n (k3 fn) b (j+1) [] k (match dst with
  |some d=>s.put d v
  |none=>s)
def p6 (E:an) (n:Nat) (fn:Func) (i m b j:Nat) (dst:Option Nat) (k:Ex->St->Option Z):St->TV->Option Z:=λs v=>
 oF (nE E fn) n (.loop (yb fn i)) b (j+1) [m] k (match dst with
  |some d=>s.put d v
  |none=>s)
noncomputable def kp (E:an) (n:Nat) (rt:List Ty) (fn:Func) (i:Nat) (k:St->TV->Option Z):Ex->St->Option Z:=m2 (nE E fn) n (k3 fn) i [] (m4 (nE E fn) rt fn k)
noncomputable def aZ (Z:Type) (E:an) (fn:Func) (n:Nat) (i:Nat) (m:Nat) (k:Ex->St->Option Z) (s:St):Option Z:=
 tN (ha {E with nt:=fn.ntmps} n (yb fn i)) (ju {E with nt:=fn.ntmps} (fS (yb fn i))) (m6 {E with nt:=fn.ntmps} (fS (yb fn i)) k) m s
noncomputable def bm (E:an) (n:Nat) (b:List PM) (rt:List Ty) (fn:Func) (i:Nat):Ex->St->Option (kh rt×kh (ld b)):=
 m2 {E with nt:=fn.ntmps} n (k3 fn) i [] (tq {E with nt:=fn.ntmps} b rt fn (qi b rt))
noncomputable def eJ {Z:Type} (E:an) (n:Nat) (fn:Func) (j i:Nat) (m:Nat) (k:Ex->St->Option Z):Ex->St->Option Z:=
 m2 {E with nt:=fn.ntmps} n (.loop (yb fn j)) (i-j) [m] k
end
theorem oP {Z:Type} {n m:Nat} (h:m<n) (k:Nat->Option Z):eh n (m:Int) k=k m:=by
 show (match Nat.blt m n with|true=>k m|false=>none)=_;have:Nat.blt m n=true:=by simp_all
 rw [this]
section
variable {α Z:Type}
def wi (x:Int):Int:=IntKind.i64.wrap x
def ln (l:List α):Int:=(l.length:Int)
noncomputable def gn (l:List α) (j:Nat) (k:α->Option Z):Option Z:=match iG l j with
 |some x=>k x
 |none=>none
noncomputable def gi (l:List α) (i:Int) (k:α->Option Z):Option Z:=match oM l i with
 |some x=>k x
 |none=>none
noncomputable def ix (l:List α) (i:Int) (k:Nat->Option Z):Option Z:=eh l.length i k
noncomputable def cl (x:Option α) (k:α->Option Z):Option Z:=match x with
 |none=>none
 |some v=>k v
noncomputable def gd (c:Bool) (k:Option Z):Option Z:=match c with
 |true=>k
 |false=>none
def mc (e f:Int) (k:Nat->Option Z):Option Z:=match e,f with
 | .ofNat p,.ofNat q=>if Nat.beq p q&&Nat.ble p bi&&true then k p else none
 |_,_=>none
end
instance aqj (k:IntKind) (n:Nat):OfNat (Ty.ai (.int k)) n:=inferInstanceAs (OfNat Int n)
instance aqk (k:IntKind):Neg (Ty.ai (.int k)):=inferInstanceAs (Neg Int)
noncomputable def di (x:Int):TV:=.ad (.int .i64) x
noncomputable def db (x:Bool):TV:=.ad .bool x
noncomputable def bs (t:Ty) (x:List t.ai):bl:=⟨.slice t,true,false,.ab (.slice t) x⟩
noncomputable def bv (t:Ty) (c:TV):bl:=⟨t,false,false,c⟩
abbrev KT (Z:Type):=Ex->St->Option Z
abbrev LI:=List Int
abbrev a2:=List (List Int)
abbrev LO:=List Bool
section
variable {F:Fr} {G:Nat->Gh} {s:St} {a:Act} {w w2:World}
theorem bH.bF {A A':b0} {w:World} {R:Nat->Prop}:∀(v:TV) (cs:List Value),v.aI=[]->bH A w R v cs->bH A' w R v cs
 | .ad t x,cs,_,h=>h
 | .nil,_,_,h=>h
 | .unit,_,_,h=>h
 | .un,_,_,h=>h
 | .tup _,_,_,h=>h
 | .ab _ _,_,_,h=>h
 | .cons a r,cs,c,h=>by
  simp only [TV.aI,y6] at c;obtain ⟨e,g,rfl,d,l⟩:=h;exact ⟨e,g,rfl,bH.bF a e c.1 d,bH.bF r g c.2 l⟩
 | .ref b p,cs,c,_=>by simp [TV.aI] at c
 | .sl b p,cs,c,_=>by simp [TV.aI] at c
 | .slw b p lo n,cs,c,_=>by simp [TV.aI] at c
 | .bw t x,cs,_,h=>h
 | .mp b,cs,c,_=>by simp [TV.aI] at c
 | .bY f j,cs,c,h=>by
  obtain ⟨vs,d,rfl⟩:=h;exact ⟨vs,bH.bF j vs (by simpa [TV.aI] using c) d,rfl⟩
theorem a1.bF {A A':b0} {w:World} {R:Nat->Prop}:∀(c:TV) (t:Ty) (ft:FT) (cs:List Value),c.aI=[]->a1 A w R c t ft cs->a1 A' w R c t ft cs:=by
 intro c
 induction c with
 |ab u x=>intro t ft cs _ h;exact h
 |ad u x=>intro t ft cs _ h;exact h
 |cons a d v y=>
  intro t ft cs e h;cases t<;>try exact h.elim
  simp only [TV.aI,y6] at e;obtain ⟨o,j,l,rfl,r,g,q⟩:=h;exact ⟨o,j,l,rfl,r,v _ _ _ e.1 g,y _ _ _ e.2 q⟩
 |unit=>intro t ft cs _ h;exact h
 |un=>intro t ft cs _ h;exact h
 |tup c _=>
  intro t ft cs _ h;cases t<;>try exact h.elim
  rcases fN.out h with ⟨xs,z,rfl,g⟩|⟨xs,rfl,g⟩|⟨xs,rfl,g⟩<;>exact ⟨rfl,g⟩
 |nil=>intro t ft cs _ h;exact h
 |ref b p=>intro t ft cs e _;simp [TV.aI] at e
 |sl b p=>intro t ft cs e _;simp [TV.aI] at e
 |slw b p lo n=>intro t ft cs e _;simp [TV.aI] at e
 |bw u x=>intro t ft cs _ h;exact h
 |mp b=>intro t ft cs e _;simp [TV.aI] at e
 |bY f c _=>intro t ft cs e h;exact ⟨h.1,h.2.1,h.2.2.1,bH.bF _ _ e h.2.2.2⟩
theorem ag0 {b:Nat} {p:aM}:∀(c:TV),c.aI=[]->c.aw b p=c:=by
 intro c
 induction c with
 |cons a d g j=>
  intro h;simp only [TV.aI,y6] at h;simp only [TV.aw];rw [g h.1,j h.2]
 |tup c e=>intro h;simp only [TV.aw];rw [e h]
 |bY f c e=>intro h;simp only [TV.aw];rw [e h]
 |ref b p=>intro h;simp [TV.aI] at h
 |sl b p=>intro h;simp [TV.aI] at h
 |slw b p lo n=>intro h;simp [TV.aI] at h
 |mp b=>intro h;simp [TV.aI] at h
 |_=>intro _;rfl
def aez (h:aC F G s a w) {b:Nat} {bx:bl} (g:s.box b=some bx) (n:bx.cn=false) (ab:fM w w2) (r:∀b,F.R b->w2.heap[b]?=w.heap[b]?)
 (C:∀j y,j≠b->s.box j=some y->∀d∈(G j).ae,w2.heap[d]?=w.heap[d]?) (D:∀d,d<F.w0.heap.size->d∉F.M->w2.heap[d]?=w.heap[d]?)
 {f:FT} {l:Nat} {row:Array Value} {e:TypeId} {c:TV} {A:b0} (ac:(G b).bj=some l) (X:w2.heap[l]?=some (.cells row e (0,0))) (aa:row.size=bx.ty.size) (J:a1 A w2 F.R c bx.ty f row.toList) (z:c.aI=[])
 (W:f.ae.Nodup) (O:∀d∈f.ae,d∈(G b).ft.ae\/∀j y,s.box j=some y->d∉(G j).ae) (U:∀d∈f.ae,¬F.R d/\d<w2.heap.size/\(d∈F.M\/F.w0.heap.size<=d)):
 aC F (λj=>if j=b then ⟨(G b).bj,f⟩ else G j) ((s.b4 b {bx with c:=c}).aw b []) a w2:=by
 have o:ax s.box G b []=some (bx.ty,(G b).ft,(G b).bj.map (·,0)):=p4 g;have q:(λj=>if j=b then (⟨(G b).bj,f⟩:Gh) else G j)=λj=>if j=b then ⟨(G b).bj,bC bx.ty (G b).ft [] f⟩ else G j:=by
  funext j;rw [Gf]
 have u:=k1 g c [];have x:=tf (f:=f) (c':=c.aw b []) (kl:=λv=>v.aw b []) g o q u;refine h.xR g o (λv=>v.aw b []) q (x2 _ b []) (yL _ b []) (yM _ b []) u (λv y n=>VR.aw x r n) (λc t ft cs I K=>a1.aw x r c t ft cs I K) ?_ ab C D W O U (λad af=>by simp_all);unfold dw;rw [au (show ¬(bx.with (c.aw b [])).cn=true from by simp [bl.with,n])];refine ⟨l,row,e,?_,X,aa,?_⟩;simp_all;simp only [cu];show a1 _ w2 F.R (c.aw b []) bx.ty f row.toList;rw [ag0 c z];exact a1.bF c _ _ _ z J
end
def gP:(t:Ty)->TV->Option t.ai
 |t,.ad u x=>cG u t x
 |t,.ab u x=>if u.aW then cG u t x else none
 | .slice t,.nil=>some ([]:List t.ai)
 | .unit,.unit=>some ()
 | .cons t r,.cons a d=>match gP t a with
  |some x=>match gP r d with
   |some y=>some (x,y)
   |none=>none
  |none=>none
 |_,_=>none
theorem Kw {A:b0} {w:World} {R:Nat->Prop}:∀(t:Ty) (c:TV) (x:t.ai) (ft:FT) (cs:List Value),gP t c=some x->a1 A w R c t ft cs->ft.ae=[]/\Rd w R t x cs:=by
 have ad:∀(t u:Ty) (y:u.ai) (x:t.ai) (ft:FT) (cs:List Value),cG u t y=some x->a1 A w R (.ad u y) t ft cs->ft.ae=[]/\Rd w R t x cs:=by
  intro t u y x ft cs h b;obtain ⟨rfl,rfl⟩:=eO h;exact ⟨b.2.1,b.2.2⟩
 have ab:∀(t u:Ty) (y:u.ai) (x:t.ai) (ft:FT) (cs:List Value),(if u.aW then cG u t y else none)=some x->a1 A w R (.ab u y) t ft cs->ft.ae=[]/\Rd w R t x cs:=by
  intro t u y x ft cs h b;split at h;rename_i j;obtain ⟨rfl,rfl⟩:=eO h;obtain ⟨O,U,W⟩:=bd.l0 j b.2;exact ⟨W,by rw [U];exact Rd.fW j O⟩;cases h
 intro t
 induction t with
 |cons t r K J=>
  intro c x ft cs h b;cases c with
  |ad u y=>exact ad _ u y x ft cs (by simpa only [gP] using h) b
  |ab u y=>exact ab _ u y x ft cs (by simpa only [gP] using h) b
  |cons a d=>
   simp only [gP] at h;obtain ⟨o,f,g,rfl,ac,q,e⟩:=b;split at h;rename_i y D;split at h;rename_i z I;cases h;obtain ⟨l,X⟩:=K a y _ f D q;obtain ⟨n,aa⟩:=J d z _ g I e;exact ⟨by rw [o,l,n];rfl,f,g,rfl,X,aa⟩;cases h;cases h
  |_=>simp [gP] at h
 |slice t _=>
  intro c x ft cs h b;cases c with
  |ad u y=>exact ad _ u y x ft cs (by simpa only [gP] using h) b
  |ab u y=>exact ab _ u y x ft cs (by simpa only [gP] using h) b
  |nil=>
   simp only [gP] at h;cases h;obtain ⟨_,_,v,h4⟩:=b;have h4:cs=[.slice none 0 0]:=h4;exact ⟨v,none,0,h4,⟨cV _,by simp [eL]⟩,λC=>absurd rfl C⟩
  |_=>simp [gP] at h
 |unit=>
  intro c x ft cs h b;cases c with
  |ad u y=>exact ad _ u y x ft cs (by simpa only [gP] using h) b
  |ab u y=>exact ab _ u y x ft cs (by simpa only [gP] using h) b
  |unit=>obtain ⟨_,e,rfl⟩:=b;exact ⟨e,rfl,trivial,rfl⟩
  |_=>simp [gP] at h
 |_=>
  intro c x ft cs h b;cases c with
  |ad u y=>exact ad _ u y x ft cs (by simpa only [gP] using h) b
  |ab u y=>exact ab _ u y x ft cs (by simpa only [gP] using h) b
  |_=>simp [gP] at h
def qo (I:dx) (t u:Ty) (x:t.ai) (bo:List TV):Option (t.ai×u.ai):=
 I.run ⟨[],[(0,⟨t,false,false,.ad t x⟩)],[]⟩ (.ref 0 []::bo) λb v=>match v with
  | .ad d y=>match cG d u y with
   |some y=>b5 b 0 λx'=>if decide (x'.ty=t) then (match gP t x'.c with
    |some z=>some (z,y)
    |none=>none) else none
   |none=>none
  |_=>none
def dt (I:dx) (t u:Ty):dx:={hW:=true,run:=λs vs k=>match vs with
 | .ref b []::bo=>if xW bo&&u.aW then b5 s b λx=>if x.cn||x.dD|| !decide (x.ty=t) then none else match gP t x.c with
  |some y=>match qo I t u y bo with
   |some z=>k ((s.b4 b {x with c:=.ad t z.1}).aw b []) (.ad u z.2)
   |none=>none
  |none=>none
  else none
 |_=>none}
theorem VR.aW {A A':b0} {w:World} {R:Nat->Prop} {u:Ty} {y:u.ai} {x:Value} (h:VR A w R (.ad u y) x):VR A' w R (.ad u y) x:=by
 rcases h with h|⟨cs,b,c⟩
 cases h;exact .inr ⟨cs,b,c⟩
theorem dq.aW {A A':b0} {w:World} {R:Nat->Prop}:∀(vs:List TV) (xs:List Value),xW vs=true->dq A w R vs xs->dq A' w R vs xs:=by
 intro vs
 induction vs with
 |nil=>intro xs _ h;cases xs with
  |nil=>trivial
  |cons x xs=>exact h.elim
 |cons v vs c=>
  intro xs b h;cases xs with
  |nil=>exact h.elim
  |cons x xs=>
   cases v<;>simp [xW] at b
   exact ⟨VR.aW h.1,c xs b.2 h.2⟩
def tG {P:Program} {f:Nat} {I:dx} (h:dO P f I) (t u:Ty):dO P f (dt I t u):=by
 intro Z F G s a w vs xs k r hrel a0 hk;simp only [dt] at hk;split at hk;rotate_left;cases hk;rename_i b bo;split at hk;rotate_left;cases hk;rename_i W;rw [bt] at W;obtain ⟨W,aX⟩:=W;unfold b5 at hk;split at hk;rotate_left;cases hk;rename_i x C;dsimp only at hk;split at hk;cases hk;rename_i aw;simp only [fC,gN,jf,Bool.not_eq_false',nO] at aw;obtain ⟨⟨az,aU⟩,J⟩:=aw;have J:x.ty=t:=by simpa using J
 split at hk;rotate_left;cases hk;rename_i aa aM;split at hk;rotate_left;cases hk;rename_i z a2;cases xs with
 |nil=>exact a0.elim
 |cons aR xs=>
 obtain ⟨aj,aK⟩:=a0;have ah:=hrel.box b x C;unfold dw at ah;rw [au (by simp [az])] at ah;obtain ⟨ak,row,e,ag,a8,aq,ar⟩:=ah;rw [J] at aq ar;obtain ⟨aA,aG⟩:=Kw t x.c aa _ _ aM ar
 let ab:Fr:={R:=F.R,M:=(G b).ae,w0:=w,nt:=0,bj:=λ_=>(G b).bj,dy:=λ_=>none,sv:=[]}
 let D:St:=⟨[],[(0,⟨t,false,false,.ad t aa⟩)],[]⟩
 let O:Nat->Gh:=λ_=>G b
 have av:∀i y,D.box i=some y->i=0/\y=⟨t,false,false,.ad t aa⟩:=by
  intro i y o;simp only [D,St.box,lk] at o;simp_all
 have ap:∀d,F.R d->d<w.heap.size:=λd g=>kJ (hrel.R d g).1 hrel.size
 have aH:aC ab O D {a with tmps:= #[]} w:=by
  refine ⟨λi y o=>?_,λi y o=>?_,λi j y z o a2 aV=>?_,λi y o=>hrel.b7 b x C,λi y o=>?_,λd g=>⟨ap d g,λK=>(hrel.bQ b x C d K).1 g⟩,λn=>.inl rfl,λ_ _ _=>rfl,fM.refl _,hrel.defers,rfl,λi y o=>?_,λi n=>.inl ?_,rfl⟩;obtain ⟨rfl,rfl⟩:=av i y o;exact ⟨ak,row,e,ag,a8,aq,rfl,aA,aG⟩;obtain ⟨rfl,rfl⟩:=av i y o;have:=hrel.cC b x C;simp_all
  grind
  exact λd g=>⟨(hrel.bQ b x C d g).1,(hrel.bQ b x C d g).2.1,.inl g⟩
  grind
  simp [St.fZ,D,lk]
 have aL:dq (ax D.box O) w ab.R (.ref 0 []::bo) (aR::xs):=by
  refine ⟨?_,dq.aW _ _ W aK⟩;rcases aj with aj|⟨cs,⟨aQ,ft,a4,off,U,rfl⟩,ao⟩
  cases aj;refine .inr ⟨_,⟨aQ,ft,a4,off,?_,rfl⟩,ao⟩;rw [p4 C,J] at U;rw [<-U];exact p4 (s:=D) (G:=O) (show D.box 0=some ⟨t,false,false,.ad t aa⟩ from rfl)
 refine (h _ ab O D {a with tmps:= #[]} w _ _ _ z aH aL a2).mono λen w' ay=>?_
 cases en with
 |returned v=>
  obtain ⟨ac,aP,tv,X,aJ,l⟩:=ay;split at l;rotate_left;cases l;rename_i aZ y;split at l;rotate_left;cases l;rename_i ba aN;obtain ⟨rfl,rfl⟩:=eO aN;unfold b5 at l;split at l;rotate_left;cases l;rename_i x' a1;dsimp only at l;split at l;rotate_left;cases l;rename_i aB;have aI:x'.ty=t:=e7 aB;split at l;rotate_left;cases l;rename_i a3 aO;obtain rfl:=b2 l;have a9:(ac 0).bj=some ak:=((X.cU 0 x' a1).1 rfl).trans ag;have ai:=X.box 0 x' a1;unfold dw at ai;have aF:x'.cn=false:=by
   simp_all
  rw [au (by simp [aF])] at ai;obtain ⟨aS,aY,aT,al,a5,am,an⟩:=ai;rw [a9] at al;obtain rfl:=b2 al;rw [aI] at am an;obtain ⟨a6,a7⟩:=Kw t x'.c a3 _ _ aO an;have af:∀d,d<w.heap.size->d∉(G b).ae->w'.heap[d]?=w.heap[d]?:=X.bT
  have aD:=aez (A:=ax aP.box ac) (f:=(ac 0).ft) (c:=.ad t a3) hrel C az X.fT (λd g=>af d (ap d g) λK=>(hrel.bQ b x C d K).1 g)
   (λj y aE o d g=>af d (hrel.bQ j y o d g).2.1 (hrel.c6 j b y x o C aE d g))
   (λd U ao=>af d (kJ U hrel.size) λK=>by
    rcases (hrel.bQ b x C d K).2.2 with q|q
    all_goals grind)
   ag a5 (by rw [J];exact am) (by rw [J];exact ⟨rfl,a6,a7⟩) rfl (by simp_all)
   (λd g=>by simp_all) (λd g=>by simp_all)
  exact ⟨_,_,_,aD,VR.aW aJ,hk⟩
 |_=>exact ay
def agU {I:dx} {t u:Ty} {Z:Type} {s:St} {vs:List TV} {k:St->TV->Option Z} {r:Z} (h:(dt I t u).run s vs k=some r):
 ∃b bx y bo,vs=.ref b []::bo/\xW bo=true/\u.aW=true/\bx.c.aI=[]/\k ((s.b4 b bx).aw b []) (.ad u y)=some r/\
  ∀(d:St),d.box b=s.box b->∀{Y:Type} (k':St->TV->Option Y),(dt I t u).run d vs k'=k' ((d.b4 b bx).aw b []) (.ad u y):=by
 simp only [dt] at h;split at h;rotate_left;cases h;rename_i b bo;split at h;rotate_left;cases h;rename_i f;have e:=f;rw [bt] at e;unfold b5 at h;split at h;rotate_left;cases h;rename_i x l;dsimp only at h;split at h;cases h;rename_i g;split at h;rotate_left;cases h;rename_i y n;split at h;rotate_left;cases h;rename_i z o;refine ⟨b,{x with c:=.ad t z.1},z.2,bo,rfl,e.1,e.2,rfl,h,λd j Y k'=>?_⟩
 grind [dt,b5]
def eQ (I:dx) (t u:Ty):(dt I t u).ru:=λZ s vs k r h=>by
 obtain ⟨b,bx,y,bo,rfl,e,f,h4,h5,h6⟩:=agU h;exact ⟨[.set b bx,.aw b []],.ad u y,h5,λm g=>by
  grind [Mv.at,TV.aI],λd c {Y} k'=>h6 d (c _ (nH ..) b (by simp [TV.aI])) k'⟩
def o3 {Z:Type} (s:St):List Ty->List TV->(List TV->Option Z)->Option Z
 |[],[],k=>k []
 |t::ts,v::vs,k=>dL s t v λx=>o3 s ts vs λb=>k (.ad t x::b)
 |_,_,_=>none
def uo (u:Ty):St->TV->Option u.ai:=λ_ v=>match v with
 | .ad b y=>cG b u y
 |_=>none
def Vm (I:dx) (t u:Ty) (x:t.ai) (bo:List TV):Option u.ai:=
 I.run ⟨[],[(0,⟨t,false,false,.ad t x⟩)],[]⟩ (.ref 0 []::bo) (uo u)
def qn (I:dx) (t u:Ty) (ts:List Ty):dx:={hW:=true,run:=λs vs k=>match vs with
 | .ref b []::bo=>if u.aW then b5 s b λx=>if x.cn||x.dD|| !decide (x.ty=t) then none else match gP t x.c with
  |some y=>o3 (s.drop b) ts (bo.map (TV.drop b)) λd=>match Vm I t u y d with
   |some z=>k (s.drop b) (.ad u z)
   |none=>none
  |none=>none
  else none
 |_=>none}
def akb {Z:Type} {F:Fr} {G:Nat->Gh} {s:St} {a:Act} {w:World} (h:aC F G s a w):∀(ts:List Ty) (vs:List TV) (xs:List Value) (k:List TV->Option Z) (r:Z),dq (ax s.box G) w F.R vs xs->o3 s ts vs k=some r->
 ∃c,k c=some r/\∀A:b0,dq A w (RR F G s) c xs:=by
 intro ts
 induction ts with
 |nil=>
  intro vs xs k r b hk
  match vs,xs,b,hk with
  |[],[],_,hk=>exact ⟨[],hk,λ_=>trivial⟩
 |cons t ts n=>
  intro vs xs k r b hk
  match vs,xs,b,hk with
  |v::vs,x::xs,b,hk=>
   simp only [o3] at hk;obtain ⟨f,g,j⟩:=Nc t v _ r hk;obtain ⟨cs,u,d⟩:=b.1.cells g j;obtain ⟨y,e,l⟩:=F6 h t v cs _ r u hk;obtain ⟨c,o,q⟩:=n vs xs _ r b.2 e;exact ⟨_,o,λA=>⟨dF (v:=.ad t y) l (by rw [f] at d;exact d),q A⟩⟩
  |[],[],_,hk=>cases hk
  |_::_,[],b,_=>exact b.elim
  |[],_::_,b,_=>exact b.elim
def agT {P:Program} {f:Nat} {I:dx} (h:dO P f I) (t u:Ty) (ts:List Ty):dO P f (qn I t u ts):=by
 intro Z F G s a w vs xs k r hrel av hk;simp only [qn] at hk;split at hk;rotate_left;cases hk;rename_i b bo;split at hk;rotate_left;cases hk;rename_i ar;unfold b5 at hk;split at hk;rotate_left;cases hk;rename_i x o;dsimp only at hk;split at hk;cases hk;rename_i an;simp only [fC,gN,jf,Bool.not_eq_false',nO] at an;obtain ⟨⟨aF,_⟩,aa⟩:=an;have aa:x.ty=t:=by simpa using aa
 split at hk;rotate_left;cases hk;rename_i ab aI;cases xs with
 |nil=>exact av.elim
 |cons aN xs=>
 obtain ⟨aj,X⟩:=av;have dy:=hrel.drop b;obtain ⟨a8,aP⟩:=Lo hrel b;have aG:dq (ax (s.drop b).box G) w F.R (bo.map (TV.drop b)) xs:=by
  clear hk
  induction bo generalizing xs with
  |nil=>
   cases xs with
   |nil=>trivial
   |cons y xs=>exact X.elim
  |cons v bo aJ=>
   cases xs with
   |nil=>exact X.elim
   |cons y xs=>exact ⟨a8 _ _ X.1,aJ xs X.2⟩
 obtain ⟨aM,ag,aD⟩:=akb dy ts _ xs _ r aG hk;split at ag;rotate_left;cases ag;rename_i z ay;have ai:=hrel.box b x o;unfold dw at ai;rw [au (by simp [aF])] at ai;obtain ⟨az,row,e,a5,a6,ak,al⟩:=ai;rw [aa] at ak al;obtain ⟨a7,aA⟩:=Kw t x.c ab _ _ aI al;have aK:∀i y,(s.drop b).box i=some y->i≠b/\∃ac,s.box i=some ac:=by
  simp_all<;>omega
 let K:Fr:={R:=RR F G (s.drop b),M:=(G b).ae,w0:=w,nt:=0,bj:=λ_=>(G b).bj,dy:=λ_=>none,sv:=[]}
 let C:St:=⟨[],[(0,⟨t,false,false,.ad t ab⟩)],[]⟩
 let O:Nat->Gh:=λ_=>G b
 have am:∀i y,C.box i=some y->i=0/\y=⟨t,false,false,.ad t ab⟩:=by
  intro i y l;simp only [C,St.box,lk] at l;simp_all
 have J:∀d,K.R d->d<w.heap.size/\d∉(G b).ae:=by
  rintro d (g|⟨i,y,hi,g⟩);exact ⟨kJ (hrel.R d g).1 hrel.size,λah=>(hrel.bQ b x o d ah).1 g⟩;obtain ⟨ao,ac,aw⟩:=aK i y hi;exact ⟨(hrel.bQ i ac aw d g).2.1,hrel.c6 i b ac x aw o ao d g⟩
 have aB:aC K O C {a with tmps:= #[]} w:=by
  refine ⟨λi y l=>?_,λi y l=>?_,λi j y z l ay ao=>?_,λi y l=>hrel.b7 b x o,λi y l=>?_,J,λn=>.inl rfl,λ_ _ _=>rfl,fM.refl _,hrel.defers,rfl,λi y l=>?_,λi n=>.inl ?_,rfl⟩;obtain ⟨rfl,rfl⟩:=am i y l;exact ⟨az,row,e,a5,a6,ak,rfl,a7,Rd.bT (λ_ h=>.inl h) (λ_ _=>rfl) _ _ _ aA⟩;obtain ⟨rfl,rfl⟩:=am i y l;have:=hrel.cC b x o;simp_all
  grind
  exact λd g=>⟨λa4=>(J d a4).2 g,(hrel.bQ b x o d g).2.1,.inl g⟩
  grind
  simp [St.fZ,C,lk]
 have aH:dq (ax C.box O) w K.R (.ref 0 []::aM) (aN::xs):=by
  refine ⟨?_,aD _⟩;rcases aj with aj|⟨cs,⟨aL,ft,a0,off,D,rfl⟩,U⟩
  cases aj;refine .inr ⟨_,⟨aL,ft,a0,off,?_,rfl⟩,U⟩;rw [p4 o,aa] at D;rw [<-D];exact p4 (s:=C) (G:=O) (show C.box 0=some ⟨t,false,false,.ad t ab⟩ from rfl)
 refine (h _ K O C {a with tmps:= #[]} w _ _ _ z aB aH ay).mono λen w' ap=>?_
 cases en with
 |returned v=>
  obtain ⟨aO,aQ,tv,aq,aE,W⟩:=ap;unfold uo at W;split at W;rotate_left;cases W;rename_i aR y;obtain ⟨rfl,rfl⟩:=eO W;have af:∀d,d<w.heap.size->d∉(G b).ae->w'.heap[d]?=w.heap[d]?:=aq.bT
  have a9:aC F G (s.drop b) a w':=dy.shift aq.fT (λd g=>af d (J d (.inl g)).1 (J d (.inl g)).2) (λi y hi d g=>af d (J d (.inr ⟨i,y,hi,g⟩)).1 (J d (.inr ⟨i,y,hi,g⟩)).2)
   (λd D U=>af d (kJ D hrel.size) λah=>by
    rcases (hrel.bQ b x o d ah).2.2 with q|q
    all_goals grind)
  refine ⟨_,_,_,a9,?_,ag⟩;rcases aE with a3|⟨cs,D,U⟩
  cases a3;obtain ⟨a1,a2⟩:=Rd.aW ar D;exact .inr ⟨cs,by rw [a2];exact Rd.fW ar a1,U⟩
 |_=>exact ap
theorem aka {Z:Type} {t:St}:∀(ts:List Ty) (vs:List TV) (k:List TV->Option Z) (r:Z),o3 t ts vs k=some r->∃b,k b=some r/\∀(s:St),(∀v∈vs,Ag s t v)->∀{Y:Type} (k':List TV->Option Y),o3 s ts vs k'=k' b:=by
 intro ts
 induction ts with
 |nil=>
  intro vs k r h;cases vs with
  |nil=>exact ⟨[],h,λs _ Y k'=>rfl⟩
  |cons v vs=>cases h
 |cons T ts c=>
  intro vs k r h;cases vs with
  |nil=>cases h
  |cons v vs=>
   simp only [o3] at h
   grind [Nd,o3]
def agS (I:dx) (t u:Ty) (ts:List Ty):(qn I t u ts).ru:=λZ s vs k r h=>by
 simp only [qn] at h;split at h;rotate_left;cases h;rename_i b bo;split at h;rotate_left;cases h;rename_i D;unfold b5 at h;split at h;rotate_left;cases h;rename_i x K;dsimp only at h;split at h;cases h;rename_i o;split at h;rotate_left;cases h;rename_i y f;obtain ⟨ab,d,l⟩:=aka _ _ _ _ h;split at d;rotate_left;cases d;rename_i z O;refine ⟨[.drop b],.ad u z,d,λm X=>?_,λg C Y k'=>?_⟩
 grind [Mv.at,TV.aI]
 simp only [qn];rw [ay D];unfold b5;have n:g.box b=s.box b:=C _ (nH ..) b (by simp [TV.aI]);rw [n,K];simp only;rw [au o];simp only [f];rw [l (g.drop b) λv J=>?_];simp only [O];rfl;obtain ⟨j,aa,rfl⟩:=cQ.1 J;intro c q y f;have W:c∈j.aI:=OB _ j c q;have U:∀e:St,(e.drop b).box c=if b=c then none else (e.box c).map (bl.bX λc=> !Nat.beq b c):=by
  intro e;unfold St.drop St.box;simp only [l7,Fg]
  grind
 grind
end Go.TM
namespace Go.TM
open Go.Proofs Go.Shelf
def V9 (b:List PM) (c:List Ty):aA:={params:=b,results:=c,h:=λ_ _=>none}
def ah6 {P:Program} {f:Nat} {e:List PM} {b:List Ty} (h:b.all Ty.iE=true):aN P f (V9 e b):=
 ⟨λ_ _ _=>rfl,λt d=>Ty.oJ (eT.1 h t d),λ_ _ _ _ _ _ _ _ c=>by cases c⟩
def EY {Z:Type} (n:Int) (k:Unit->Option Z):Option Z:=match decide (0<=n)&&decide (n<=4294967296) with
 |true=>k ()
 |false=>none
def EZ (o:Nat):dx:=
 {run:=λs vs k=>match vs with
  |[.nil,.ad (.int .i64) n]=>EY n λ_=>jY s o ⟨.slice (.int .i64),true,false,.ab (.slice (.int .i64)) ([]:List Int)⟩ λs=>k s (.sl o [])
  |_=>none}
def agz {P:Program} {Z:Ren} (L:Lays8.n4 P Z) {j:TypeInfo} {z:Value} (aa:P.info? (Z.t 25)=some j) (ag:j.zero=some z) (ah:z.cells.size=1) (ao:j.size=1) (d:j.bytes<=4096) (o:Nat):dO P (Z.f 4) (EZ o):=by
 intro Y F G s a w vs xs k r hrel q hk;simp only [EZ] at hk;split at hk;rotate_left;cases hk;rename_i n;unfold EY at hk;split at hk;rotate_left;cases hk;rename_i D;simp only [bt,nO] at D;obtain ⟨m,rfl⟩:=g1 D.1;have an:m<=4294967296:=by omega
 obtain ⟨O,U,hk⟩:=qz hk
 match xs,q with
 |[al,am],q=>
  obtain ⟨v0,aj,_⟩:=q;have J:am=.int .i64 (m:Int):=aj.int;have e0:al=.slice none 0 0:=by
   rcases v0 with v0|⟨cs,rfl,h⟩
   cases v0;simpa [TV.agg] using h.symm
  subst J e0;have fin:∀(w':World) (f:FT) (v:Value),aC F G s a w'->bd w' (.slice (.int .i64)) ([]:List Int) f [v]->hQ F G s w' ⟨none,f⟩->∃y u tv,aC F y u a w'/\VR (ax u.box y) w' F.R tv v/\k u tv=some r:=by
   intro w' f v l I W;have l:=l.PB (x:=⟨.slice (.int .i64),true,false,.ab (.slice (.int .i64)) ([]:List Int)⟩) (g:=⟨none,f⟩) O U rfl (Ty.oJ (by decide)) ⟨rfl,⟨_,rfl⟩,[v],⟨rfl,I⟩⟩ W;refine ⟨_,_,_,l,?_,hk⟩;refine dF (v:=.sl o []) (cs:=[v]) ?_ rfl;obtain ⟨b,cap,ai,rfl,ad,_,_,ac,_⟩:=I;refine ⟨.int .i64,b,cap,ai,none,?_,by rw [ad,ac]⟩;simp [ax,lW,fi,ak]
  refine .inl ⟨L.f4.enters rfl,?_⟩;by_cases K:m=0;subst K;refine (Any8.slices_Grow_room L none 0 0 0 w (by omega) (by omega) (by omega) (by omega)).mono ?_;rintro e w' ⟨rfl,rfl⟩;exact fin w' (.node none 0 []) _ hrel ⟨none,0,[],rfl,rfl,cV _,bL _,rfl,rfl⟩ ⟨by simp [Gh.ae,FT.ae,FT.bq],λb d=>by simp [Gh.ae,FT.ae,FT.bq] at d,λb d=>by simp [Gh.ae,FT.ae,FT.bq] at d⟩;refine (Any8.slices_Grow_grow L j z aa ag (by omega) none 0 0 m [] w (by omega) (by omega) ?_ (by omega) (by simp) (λ_=>rfl) (λa h=>by cases h)).mono ?_;have:(0+m)*j.bytes<=4294967296*4096:=Nat.mul_le_mul (by omega) d;omega;rintro e w' ⟨rfl,rfl⟩;have X:=grownCap_ge w (0+m) 0 (Z.t 25);generalize grownCap w (0+m) 0 (Z.t 25)=c at X;have C:aC F G s a w.drew:=hrel.shift ⟨cV _,rfl,rfl⟩ (λ_ _=>rfl) (λ_ _ _ _ _=>rfl) (λ_ _ _=>rfl);refine fin _ (.node (some w.heap.size) c []) _ (C.alloc _) ⟨some w.heap.size,c,[],rfl,rfl,bL _,bL _,rfl,⟨_,_,lT w.drew _,?_⟩,λi x k af=>by cases af⟩ (hQ.row c C lB (λb d=>by cases d) (λb d=>by cases d));simp only [Array.size_append,aax,ah];show c*1=_;simp;omega
end Go.TM
namespace Go.TM
open Go Go.Proofs Go.Shelf Go.RowKit Go.Sort
variable {P:Program} {Z:Ren}
def Qo (w:World) (tb b:TypeId) (pre:List Int) (W:World):Prop:=
 (∃v,W.heap[w.heap.size]?=some (.cells #[v] tb (0,0))/\W.ownsRow (w.heap.size+1) b 1 v pre.length (pre.map encZ))/\Below w.heap.size w W
theorem aoq (w:World) (tb l:TypeId):OwnFrom (w.heap.size+1) (Qo w tb l):=by
 rintro s W n row ⟨⟨v,f,d⟩,c⟩ b j;refine ⟨⟨v,?_,d.kept b ?_⟩,c.grown b c.size λk e=>by grind⟩;refine (b.block _ (y5.1 f).1 λe=>?_).trans f
 grind
 cases row with
 |none=>grind
 |some r=>
  obtain ⟨_,o,h,g⟩:=j r rfl;exact ownsRow_ne_a d h λq e=>by subst e;cases g
set_option maxRecDepth 100000 in
set_option maxHeartbeats 2000000 in
def aeq (L:SlLaysZI.n11 P Z) (n:Nat) (a2:3<=n) (g:Nat) (lb:Array Value) (ad:∀args w,(callFunc g args).run P w=.ok (.enter g args) w) (zs:List Int) (ax:zs.length<=4294967296) (w:World)
 (al:SeqStopsK Fence.wide (n-1) P g lb (λx:Int=> #[Value.int .i64 x]) (Below w.heap.size) (λaa=>aa=zs) (λ_=>True) zs.length w):
 CallsIn Fence.wide n P (Z.f 11) #[.slice none 0 0,.func (.func g) #[] lb] w λe w'=>∃v,e=.returned v/\w'.ownsRow w.heap.size (Z.t 26) 1 v zs.length (zs.map encZ)/\Below w.heap.size w w':=by
 have ae:1<=n:=by omega
 have mixed:=L.mixed;have t0:=L.t0;have a0:=L.a0;have z0:=L.z0;have v0:=L.v0;have t24:=L.t24;have a24:=L.a24;have z24:=L.z24;have v24:=L.v24;have t26:=L.t26;have a26:=L.a26;have z26:=L.z26;have v26:=L.v26;have t28:=L.t28;have a28:=L.a28;have z28:=L.z28;have v28:=L.v28;have a4:=run_underlying L.t0;have a5:=run_underlying L.t24;have a6:=run_underlying L.t26;have a7:=run_underlying L.t28;have aj:Z.t 24≠Z.t 26:=λe=>by simp_all
 obtain ⟨aq,hi,an,ao,ap⟩:=info_parts L.i26;obtain ⟨_,_,ab⟩:=L.f11;refine callsIn_of_wp_marks ab rfl trivial ?_ rfl;simp only [SlBodyZ.n11_ntmps Z,za,jg,List.length_nil,Nat.reduceAdd,Nat.reduceSub,Array.replicate_succ,Array.replicate_zero,List.push_toArray,List.append_toArray,dV,jJ]
 gi_wp2
 refine wpIn_rangeFunc_ownG (n:=n) rfl ae (gf:=g) (lb:=lb) rfl trivial ad al belowK_t (belowK_b (by simp)) ((Below.refl _ w).alloc (cV _) _) (λ_=>rfl)
  (Qo w (Z.t 24) (Z.t 26)) (λ_ _ _=>False) (by simpa using aoq w (Z.t 24) (Z.t 26)) (λ_ _ _ _ _ ak _ _=>ak)
  ⟨⟨_,World.alloc_heap_new w _,rfl,.inl ⟨rfl,rfl⟩⟩,(Below.refl _ w).alloc (cV _) _⟩
  (λx=>{tmps:= #[.slice none 0 0,.func (.func g) #[] lb,.pointer (some ⟨w.heap.size,0,none⟩),undef,.slice none 0 0,.int .i64 x,.func (.func g) #[] lb,.int .i64 x,undef,undef,undef,undef,undef],defers:=[]}) ?assign ?body ?done ?stop
 case assign=>
  intro l x W K q
  gi_wp2_with gi_round_op_a
  exact q
 case body=>
  rintro l pre x W ⟨⟨v,c,b⟩,h⟩ a1;obtain ⟨ag,ah⟩:=cell_of_box_a c;have U:w.heap.size<W.heap.size:=(y5.1 c).1;have am:some w.heap.size≠v.ownBlock:=λe=>by
   grind [ownsRow_ne_a]
  gi_wp2_with (first
   |(gi_at_builtin;refine wpListIn_append_own _ rfl _ _ (Z.t 24) rfl (w.heap.size+1) (Z.t 26) aq (.int .i64 0) 1 8 L.t24 hi an ao ap rfl (by decide) _ _ _ rfl (b.alloc _) ⟨W.heap.size,0,none⟩ 1 1 [encZ x] rfl rfl (cell_one_new _ _ _) (by simp [Value.oneCell',encZ]) (by unfold maxLen;omega) (by omega) (by simp;omega) ?_;intro ar z u r a3
     have y:z.heap[w.heap.size]?=some (.cells #[v] (Z.t 24) (0,0)):=(r.block _ (by simp;omega) am).trans ((Below.heap_alloc _ _ _ U).trans c);obtain ⟨ay,az⟩:=cell_of_box_a y;obtain ⟨c',d,rfl⟩:∃c' d,ar=.slice (some ⟨c',0,none⟩) (pre.length+1) d:=by
      rcases u.2 with ⟨_,av⟩|⟨c',d,_,au,_⟩
      omega;simp_all
     go_frame)
   |gi_round_op_a)
  have J:=grownBy_setCell0_a z w.heap.size (.slice (some ⟨c',0,none⟩) (pre.length+1) d);have hk:=u.kept J (ownsRow_ne_a u y λac e=>aj (Obj.cells.inj e).2.1);have C:Below w.heap.size W z:=((Below.refl _ W).alloc (by omega) _).grown r (by simp;omega) λk e=>by
   have:=(b.lt k e).1;omega
  have I:=C.grown J (Nat.le_trans (Nat.le_of_lt U) C.size) λk e=>by simp_all
  refine ⟨(((KeepsOthers.alloc W _).trans (KeepsOthers.of_grownBy r λj o O X=>?_)).trans (KeepsOthers.setCell _ _ _)).from _,I,⟨⟨_,heap_setCell_box_a _ y,by simpa using hk⟩,h.trans I⟩⟩;rcases (b.alloc (.cells #[encZ x] (Z.t 26))).2 with ⟨rfl,_⟩|⟨g',_,_,rfl,_,ai,_⟩
  cases O;obtain rfl:g'=j:=b2 O;rw [ai] at X;obtain rfl:=b2 X;rfl
 case done=>
  rintro D aa W af rfl ⟨⟨v,c,b⟩,h⟩ q;obtain ⟨ag,ah⟩:=cell_of_box_a c
  gi_wp2
  refine ⟨by simp,.inl ⟨_,_,rfl,run_takeDeferred q,?_⟩⟩;have aw:w.heap.size+1<=D:=by simpa using af
  exact ⟨_,results_tmp rfl _ _ _,v,rfl,ownsRow_base_a (b.kept (grownBy_putObj' _ _ _) (ownsRow_ne_a b q λac e=>by cases e)) (by omega),h.grown (grownBy_putObj' _ _ _) h.size λk e=>by cases e;omega⟩
 simp_all
set_option maxHeartbeats 1000000 in
def afb (L:SlLaysZI.n8 P Z) (n:Nat) (r:4<=n) (g:Nat) (lb:Array Value) (c:∀args w,(callFunc g args).run P w=.ok (.enter g args) w) (zs:List Int) (d:zs.length<=4294967296) (w:World)
 (h:SeqStopsK Fence.wide (n-1-1) P g lb (λx:Int=> #[Value.int .i64 x]) (Below w.heap.size) (λj=>j=zs) (λ_=>True) zs.length w):
 CallsIn Fence.wide n P (Z.f 8) #[.func (.func g) #[] lb] w λe w'=>∃v,e=.returned v/\w'.ownsRow w.heap.size (Z.t 26) 1 v zs.length (zs.map encZ)/\Below w.heap.size w w':=by
 have o:1<=n:=by omega
 have x3:Fence.wide.fn (Z.f 11):=trivial;have l:∀args w,(callFunc (Z.f 11) args).run P w=.ok (.enter (Z.f 11) args) w:=L.f11.enters rfl
 have mixed:=L.mixed;have t0:=L.t0;have a0:=L.a0;have z0:=L.z0;have v0:=L.v0;have t24:=L.t24;have a24:=L.a24;have z24:=L.z24;have v24:=L.v24;have t26:=L.t26;have a26:=L.a26;have z26:=L.z26;have v26:=L.v26;have t28:=L.t28;have a28:=L.a28;have z28:=L.z28;have v28:=L.v28;have y:=run_underlying L.t0;have z:=run_underlying L.t24;have C:=run_underlying L.t26;have D:=run_underlying L.t28;obtain ⟨_,_,b⟩:=L.f8;refine callsIn_of_wp b rfl trivial ?_ rfl;simp only [SlBodyZ.n8_ntmps Z,za,jg,List.length_nil,Nat.reduceAdd,Nat.reduceSub,Array.replicate_succ,Array.replicate_zero,List.push_toArray,List.append_toArray,dV,jJ]
 gi_wp2_with (gi_at_fn (Z.f 11);refine (aeq {L with} (n-1) (by omega) g lb c zs d _ h).mono ?_;rintro e w' ⟨v,rfl,u,q⟩)
 go_ret
 simp_all
def xQ (xs:List Int):Option ((List Int×Unit)×Unit):=match Nat.ble xs.length bi with
 |true=>some ((xs,()),())
 |false=>none
def EN (f:Nat):aA:=
 {params:=[.bY f [.bw (.slice (.int .i64))]],results:=[.slice (.int .i64)],h:=λds k=>match ds with
  |[⟨.slice (.int .i64),xs⟩]=>match xQ xs with
   |none=>none
   |some v=>k [⟨.slice (.int .i64),v.1.1⟩] []
  |_=>none}
theorem Wj {w:World} {b cap:Nat} {c:Array Value} {d:TypeId} {zs:List Int} (f:w.heap[b]?=some (.cells c d (0,0))) (j:zs.length<=cap) (q:zs.length<=eL) (l:c.size=cap*1) (h4:c.toList.take zs.length=zs.map encZ):
 ∃h,FT.bq h=[]/\bd w (.slice (.int .i64)) zs (.node (some b) cap h) [.slice (some ⟨b,0,none⟩) zs.length cap]:=by
 have r:∀n,FT.bq (List.replicate n FT.leaf)=[]:=λn=>by
  induction n with
  |zero=>rfl
  |succ n u=>rw [List.replicate_succ,FT.bq,u];rfl
 refine ⟨List.replicate zs.length .leaf,r _,some b,cap,_,rfl,rfl,j,q,List.length_replicate ..,⟨c,d,f,by simpa [Ty.size] using l.symm⟩,λi x k g hk=>?_⟩;have o:i<zs.length:=(b6.1 g).1;obtain rfl:k=.leaf:=(qZ (cz hk));refine ⟨[.int .i64 x],⟨c,d,(0,0),f,by simp [Ty.size];omega,?_⟩,bd.fW (t:=.int .i64) rfl trivial rfl⟩;simp only [Ty.size,Nat.mul_one];have e:(c.toList.take zs.length)[i]?=some (.int .i64 x):=by rw [h4,uR,show zs[i]?=some x from g];rfl
 rw [List.getElem?_take_of_lt o] at e;obtain ⟨v,y⟩:=b6.1 e;rw [jL v,y];rfl
def aio {w:World} {bj:Nat} {e:TypeId} {v:Value} {zs:List Int} (h:w.ownsRow bj e 1 v zs.length (zs.map encZ)) (q:zs.length<=eL):
 ∃f,bd w (.slice (.int .i64)) zs f [v]/\f.ae.Nodup/\∀b∈f.ae,bj<=b/\b<w.heap.size:=by
 rcases h.2 with ⟨rfl,d⟩|⟨b,cap,g,rfl,c,o,j,l,n,h4⟩
 obtain rfl:=hO.1 d;exact ⟨.node none 0 [],⟨none,0,[],rfl,rfl,cV _,bL _,rfl,rfl⟩,by simp [FT.ae,FT.bq],λb c=>by simp [FT.ae,FT.bq] at c⟩
 grind [Wj,FT.ae]
def Ss {w:World} {R:Nat->Prop} {m:PM} {ds:List D} {vs:List Value} {b:List Gh} (h:lE w R [m] ds vs b):∃v g,vs=[v]/\b=[g]/\zf w R m ds v g:=by
 cases vs with
 |nil=>cases b<;>exact h.elim
 |cons v vs=>cases b with
  |nil=>exact h.elim
  |cons g b=>
   obtain ⟨f,c,rfl,e,d⟩:=h;cases vs with
   |cons _ _=>cases b<;>cases c<;>exact d.elim
   |nil=>cases b with
    |cons _ _=>cases c<;>exact d.elim
    |nil=>cases c with
     |cons _ _=>exact d.elim
     |nil=>simp_all
def akq {w:World} {R:Nat->Prop} {m:PM} {ds:List D} {vs:List Value} (h:u0 w R [m] ds vs):∃d v,ds=[d]/\vs=[v]/\zg w R m d v:=by
 cases ds with
 |nil=>cases vs<;>exact h.elim
 |cons d ds=>cases vs with
  |nil=>exact h.elim
  |cons v vs=>
   obtain ⟨c,b⟩:=h;cases ds<;>cases vs<;>first|exact b.elim|simp_all
def afc (L:SlLaysZI.n8 P Z) {g:Nat} (O:∀args w,(callFunc g args).run P w=.ok (.enter g args) w)
 (an:∀(n:Nat) (w:World) (d off:Nat) (a:Option Addr) (cap:Nat) (zs:List Int),1<=n->zs.length<=4294967296->w.cell? ⟨d,off,none⟩=some (.slice a zs.length cap)->
  (zs≠[]->∃b o,a=some ⟨b,o,none⟩/\∀j,j<zs.length->w.cell? ⟨b,o+j,none⟩=some (.int .i64 (zs[j]?.getD 0)))->
  SeqStopsK Fence.wide n P g #[.pointer (some ⟨d,off,none⟩)] (λx:Int=> #[Value.int .i64 x]) (Below w.heap.size) (λav=>av=zs) (λ_=>True) zs.length w):aN P (Z.f 8) (EN g):=by
 refine ⟨λY ds k=>?_,λt y=>?_,λw R ds vs W ar ap ak ae=>?_⟩;unfold aA.g EN
 grind
 obtain rfl:t=.slice (.int .i64):=by simpa [EN] using y
 exact Ty.oJ (by decide)
 ·have aa:lE w R [.bY g [.bw (.slice (.int .i64))]] ds vs W:=ak.args;obtain ⟨ay,U,rfl,rfl,J,vs,rfl,ab⟩:=Ss aa;obtain ⟨⟨t,xs⟩,v,rfl,rfl,y,z⟩:=akq ab;dsimp only at y z;subst y;have h:(match xQ xs with
   |none=>none
   |some v=>some ([(⟨.slice (.int .i64),v.1.1⟩:D)],[]))=some (ar,ap):=ae
  unfold xQ at h;split at h;cases h;rename_i u C;split at C;rotate_left;cases C;rename_i q;obtain rfl:=b2 C;simp only [aX,bk] at h;obtain ⟨rfl,rfl⟩:=h;have q:List.length (α:=Int) xs<=4294967296:=po q;rcases z with z|⟨cs,⟨d,off,c,rfl,aw,ac,a,cap,rfl,_,ad⟩,X⟩
  cases z;obtain rfl:Value.pointer (some ⟨d,off,none⟩)=v:=by simpa [TV.agg] using X
  have cell:∀{b o:Nat} {u:Value},At w b o 1 [u]->w.cell? ⟨b,o,none⟩=some u:=by
   rintro b o u ⟨row,e,fz,K,I,aq⟩;have:row.toList[o]?=some u:=by
    have:=dB (λl=>l[0]?) aq
    grind
   simpa [World.cell?,K] using this
  have am:=an 2 w d off a cap xs (by omega) q (cell ac) λai=>by
   obtain ⟨b,o,rfl,_,ao⟩:=ad ai;refine ⟨b,o,rfl,λj af=>?_⟩;obtain ⟨c,K,I⟩:=ao j _ (ba af);have I:_/\_/\c=[Value.int .i64 _]:=I
   grind [Ty.size]
  refine .inl ⟨L.f8.enters rfl,(callsIn_wide (n:=4)).1 ((afb L 4 (by omega) g _ O xs q w am).mono ?_)⟩;rintro e w' ⟨au,rfl,al,r⟩;obtain ⟨f,aj,ah,ax⟩:=aio al (En (show _<=bi from q));refine ⟨[f],[U],⟨f,rfl,[au],aj,rfl⟩,rfl,⟨J,trivial⟩,?_,?_,⟨r.size,r.os,r.output⟩,λb ag _=>r.block b ag⟩;simp [FT.bq,bW,J];exact ah
  grind [FT.bq,bW]
theorem SD:∀b:List FT,(∀k∈b,k.ae=[])->FT.bq b=[]
 |[],_=>rfl
 |k::b,h=>by rw [FT.bq,h k (by simp),SD b λk hk=>h k (by simp [hk])];rfl
def yG (xs:List Int):Option (Unit×List Int×Unit):=match Nat.ble xs.length bi with
 |true=>some ((),xs.mergeSort (λx y=>decide (x<=y)),())
 |false=>none
def NE:aA:=
 {params:=[.mut (.slice (.int .i64))],results:=[],h:=λds k=>match ds with
  |[⟨.slice (.int .i64),xs⟩]=>match yG xs with
   |none=>none
   |some v=>k [] [⟨.slice (.int .i64),v.2.1⟩]
  |_=>none}
def anJ (L:SlLaysM.n5 P Z):aN P (Z.f 5) NE:=by
 refine ⟨λY ds k=>?_,λt K=>(by cases K),λw R ds vs ao a5 a3 I ar=>?_⟩;unfold aA.g NE
 grind
 ·have ap:lE w R [.mut (.slice (.int .i64))] ds vs ao:=I.args;obtain ⟨v,g,rfl,rfl,X⟩:=Ss ap;cases ds with
  |nil=>exact X.elim
  |cons d ds=>
  cases ds with
  |cons _ _=>exact X.elim
  |nil=>
  obtain ⟨t,xs⟩:=d;obtain ⟨K,_,ad,aj⟩:=X;dsimp only at K aj;subst K;have r:(match yG xs with
   |none=>none
   |some v=>some ([],[(⟨.slice (.int .i64),v.2.1⟩:D)]))=some (a5,a3):=ar
  unfold yG at r;split at r;cases r;rename_i u ab;split at ab;rotate_left;cases ab;rename_i ah;obtain rfl:=b2 ab;simp only [aX,bk] at r;obtain ⟨rfl,rfl⟩:=r;have ah:List.length (α:=Int) xs<=4294967296:=po ah;change List Int at xs;obtain ⟨b,cap,h,ag,aq,C,U,W,h4⟩:=aj;have a0:v=.slice (b.map (⟨·,0,none⟩)) xs.length cap:=List.head_eq_of_cons_eq aq;subst a0;have au:bW [g]=b.toList++FT.bq h:=by simp [bW,Gh.ae,ad,ag,FT.ae]
  refine .inl ⟨L.f5.enters rfl,?_⟩;have C:xs.length<=cap:=C;have U:xs.length<=eL:=U;have W:h.length=xs.length:=W;obtain ⟨j,ac⟩:∃j,j=xs.mergeSort λx y=>decide (x<=y):=⟨_,rfl⟩
  have am:j.length=xs.length:=by rw [ac];simp
  rw [<-ac];cases b with
  |none=>
   dsimp only at h4;subst h4;have a1:xs=[]:=hO.1 (Nat.le_zero.1 C);subst a1;obtain rfl:j=[]:=hO.1 am;refine (AnyM.slices_Sort_int_none L none 0 w).mono ?_;rintro e w' ⟨rfl,rfl⟩;refine ⟨[],[g],⟨rfl,rfl⟩,rfl,⟨⟨rfl,ad,none,0,h,ag,rfl,C,U,W,rfl⟩,trivial⟩,by simpa [FT.bq] using I.b7,λb o=>?_,fM.refl _,λ_ _ _=>rfl⟩;have o:b∈bW [g]:=by grind
   exact ⟨(I.bQ b o).2,.inl o⟩
  |some O=>
   obtain ⟨⟨row,aB,J,ax⟩,af⟩:=h4;have aw:∀k∈h,k.ae=[]:=λk hk=>by
    obtain ⟨i,hi⟩:=nI.1 hk;have aa:i<xs.length:=by grind
    obtain ⟨c,_,q⟩:=af i _ k (ba aa) hi;have q:_/\_/\k.ae=[]/\_:=q;exact q.2.2.1
   have a7:FT.bq h=[]:=SD h aw;have az:row.toList.take xs.length=xs.map encZ:=by
    apply lz;intro i;by_cases hi:i<xs.length;have av:i<h.length:=by omega
    obtain ⟨c,⟨nu,a6,fz,an,a9,a4⟩,q⟩:=af i _ _ (ba hi) (ba av);have q:_/\_/\_/\c=[Value.int .i64 _]:=q;rw [J] at an;obtain ⟨rfl,_⟩:=Obj.cells.inj (b2 an);rw [List.getElem?_take_of_lt hi,uR,ba hi];have:=dB (λl=>l[0]?) a4
    grind
    grind
   have ay:row.size=cap*1:=by simpa [Ty.size] using ax.symm
   refine (AnyM.slices_Sort_int L O 0 cap xs w (holds_of_block_i J az) (y5.1 J).1 (by omega)).mono ?_;rintro e w' ⟨rfl,n,os,rfl⟩;rw [<-ac];have z:=grownBy_sorted_i (w:=w) (g:=O) (n:=n) (os:=os) j.toArray;obtain ⟨a2,al,ak⟩:=Wj (cap:=cap) (zs:=j) (heap_sorted_i (n:=n) (os:=os) j.toArray J) (by omega) (by omega) (by rw [<-ay];simp [Go.Sort.putCells]) (take_putCells_i row _ (by omega));rw [am] at ak;refine ⟨[],[⟨none,.node (some O) cap a2⟩],⟨rfl,rfl⟩,rfl,⟨⟨rfl,rfl,ak⟩,trivial⟩,by simp [FT.bq,bW,Gh.ae,FT.ae,al],λb o=>?_,⟨z.size,z.os,z.output⟩,λb aa a8=>z.block b aa λe=>?_⟩;simp [FT.bq,bW,Gh.ae,FT.ae,al] at o;subst o;have ai:b∈bW [g]:=by rw [au];simp
   exact ⟨kJ (I.bQ b ai).2 z.size,.inl ai⟩;simp_all
end Go.TM
namespace Go.bu
open Go.TM
abbrev c4:=Int×Int×Unit
def dr (fr:Nat->Bool) (a k:Nat):Bool:=a%2^k==0&&(List.range (2^k)).all λi=>fr (a+i)
def i7 (fr:Nat->Bool) (a:Nat):Option Nat:=
 if dr fr a 3 then some 3 else if dr fr a 2 then some 2 else if dr fr a 1 then some 1 else if dr fr a 0 then some 0 else none
def gu (fr:Nat->Bool) (n:Nat):Nat->Nat->List c4
 |0,_=>[]
 |f+1,a=>if a<n then match i7 fr a with
  |none=>gu fr n f (a+1)
  |some k=>((a:Int),(k:Int),())::gu fr n f (a+2^k) else []
def hj (fr:Nat->Bool) (n:Nat):List c4:=gu fr n (n+1) 0
def cJ (r:c4):List Int:=(List.range (2^r.2.1.toNat)).map λi:Nat=>r.1+(i:Int)
theorem oE {fr:Nat->Bool} {a k:Nat}:dr fr a k=true↔a%2^k=0/\∀i,i<2^k->fr (a+i)=true:=by
 simp [dr]
def uc {fr:Nat->Bool} {a k:Nat} (h:i7 fr a=some k):k<=3/\dr fr a k=true/\∀j,k<j->j<=3->dr fr a j=false:=by
 unfold i7 at h
 grind
theorem ail {fr:Nat->Bool} {a:Nat} (h:i7 fr a=none):fr a=false:=by
 unfold i7 at h;split at h;cases h;split at h;cases h;split at h;cases h;split at h;cases h;rename_i b;simpa [dr,Nat.mod_one] using b
def tw {n a k:Nat} (c:n%8=0) (hk:k<=3) (b:a%2^k=0) (h:a<n):a+2^k<=n:=by
 rcases (by omega:k=0\/k=1\/k=2\/k=3) with rfl|rfl|rfl|rfl<;>simp at* <;>omega
def LF (r q:c4):Prop:=r.1+2^r.2.1.toNat<=q.1/\¬(r.2.1=q.2.1/\r.2.1<3/\r.1%(2*2^r.2.1.toNat)=0/\q.1=r.1+2^r.2.1.toNat)
def chain:List c4->Prop
 |r::q::l=>LF r q/\chain (q::l)
 |_=>True
def aih (fr:Nat->Bool) (n:Nat) (r:c4):Prop:=∃a k:Nat,r=((a:Int),(k:Int),())/\k<=3/\a%2^k=0/\a+2^k<=n/\∀i,i<2^k->fr (a+i)=true
def Xs {fr:Nat->Bool} {n:Nat} (j:n%8=0):∀(f a:Nat),∀r∈gu fr n f a,aih fr n r/\(a:Int)<=r.1:=by
 intro f
 induction f with
 |zero=>intro a r b;cases b
 |succ f l=>
  intro a r b;unfold gu at b;split at b;rename_i h;split at b
  grind
  rename_i k hk;obtain ⟨c,e,_⟩:=uc hk;obtain ⟨d,g⟩:=oE.1 e;rcases el.1 b with rfl|b
  exact ⟨⟨a,k,rfl,c,d,tw j c d h,g⟩,by simp⟩
  grind
  cases b
def akG {fr:Nat->Bool} {n:Nat}:∀(f a:Nat) (q:c4) (l:List c4),gu fr n f a=q::l->(a:Int)<=q.1/\(q.1=(a:Int)->∃k:Nat,q.2.1=(k:Int)/\i7 fr a=some k):=by
 intro f
 induction f with
 |zero=>intro a q l h;cases h
 |succ f b=>
  intro a q l h;unfold gu at h
  grind
def ae6 {fr:Nat->Bool} {a k:Nat} (b:dr fr a k=true) (c:dr fr (a+2^k) k=true) (d:a%(2*2^k)=0):dr fr a (k+1)=true:=by
 rw [oE] at*;refine ⟨by grind,λi hi=>?_⟩;rw [Nat.pow_succ] at hi;by_cases h:i<2^k;exact b.2 i h;have:=c.2 (i-2^k) (by omega)
 grind
theorem akE {fr:Nat->Bool} {n:Nat}:∀(f a:Nat),chain (gu fr n f a):=by
 intro f
 induction f with
 |zero=>intro a;trivial
 |succ f d=>
  intro a;unfold gu;split;split;exact d _;rename_i k hk;have b:=d (a+2^k);cases c:gu fr n f (a+2^k) with
  |nil=>trivial
  |cons q l=>
   rw [c] at b;refine ⟨?_,b⟩;obtain ⟨x,r⟩:=akG f _ q l c;obtain ⟨y,h4,h5⟩:=uc hk;have u:((2:Int)^k)=((2^k:Nat):Int):=by simp
   refine ⟨by grind,?_⟩;rintro ⟨e,g,h,j⟩;simp only [fg,u] at e g h j;obtain ⟨k',z,v⟩:=r (by omega);obtain rfl:k=k':=by omega
   have o:a%(2*2^k)=0:=by
    grind
   have:=ae6 h4 (uc v).2.1 o
   grind
  trivial
theorem akH {fr:Nat->Bool} {n:Nat}:∀(f a:Nat),(gu fr n f a).length<=n-a:=by
 intro f
 induction f with
 |zero=>intro a;simp [gu]
 |succ f b=>
  intro a;unfold gu
  grind
theorem af1 {fr:Nat->Bool} {a:Nat}:∀s,(∀i,i<s->fr (a+i)=true)->(List.range' a s).filter fr=List.range' a s:=by
 intro s h;rw [List.filter_eq_self];intro x b;rw [List.mem_range'_1] at b;have:=h (x-a) (by omega);simp_all
theorem Lz (a k:Nat):cJ ((a:Int),(k:Int),())=(List.range' a (2^k)).map λi:Nat=>(i:Int):=by
 unfold cJ;rw [List.range'_eq_map_range,List.map_map];simp
theorem akF {fr:Nat->Bool} {n:Nat} (l:n%8=0):∀(f a:Nat),n-a<f->(gu fr n f a).flatMap cJ=((List.range' a (n-a)).filter fr).map λi:Nat=>(i:Int):=by
 intro f
 induction f with
 |zero=>intro a h;omega
 |succ f b=>
  intro a h;unfold gu;split;rename_i g;split;rename_i hk;rw [b (a+1) (by omega)];have:n-a=(n-(a+1))+1:=by omega
  rw [this,List.range'_succ,List.filter_cons,au (by simp [ail hk])];rename_i k hk;obtain ⟨c,d,_⟩:=uc hk;obtain ⟨j,e⟩:=oE.1 d;have o:=tw l c j g;have q:=kL k;rw [List.flatMap_cons,b (a+2^k) (by omega),Lz];have:n-a=2^k+(n-(a+2^k)):=by omega
  rw [this,<-List.range'_append_1,iP,fI,af1 _ e];simp_all
theorem yz {fr b:Nat->Bool} {n:Nat} (e:n%8=0) (h:∀i,i<n->fr i=b i):∀(f a:Nat),gu fr n f a=gu b n f a:=by
 intro f
 induction f with
 |zero=>intro a;rfl
 |succ f o=>
  intro a;unfold gu;split;rename_i d;have j:∀k,k<=3->dr fr a k=dr b a k:=by
   intro k hk;rw [ph,oE,oE];constructor;rintro ⟨c,g⟩;have:=tw e hk c d
   grind
   rintro ⟨c,g⟩;have:=tw e hk c d
   grind
  have l:i7 fr a=i7 b a:=by
   unfold i7;simp_all
  simp_all;rfl
abbrev cj:=Int×Int×List Bool×Unit
abbrev bV:=Int×Int×Int×Int×Int×Unit
abbrev cx:=Int×Int×Bool×Unit
abbrev dp:=Bool×Int×List cx×Unit
abbrev cR:=Int×List Int×Unit
abbrev aaB:=Int×Int×Bool×Bool×Unit
abbrev MD:=List (List Int)×List Int×List c4×List cj×List bV×Int×List dp×List cR×List Int×List Int×Unit
structure M where
 mem:List (List Int)
 st:List Int
 bF:List c4
 aH:List cj
 aq:List bV
 next:Int
 ah:List dp
 az:List cR
 aD:List Int
 bb:List Int
@[reducible] def M.d (m:M):MD:=(m.mem,m.st,m.bF,m.aH,m.aq,m.next,m.ah,m.az,m.aD,m.bb,())
inductive E where
 |no
 |pg (f:Nat) (w r:Bool)
 |sl (i:Nat)
 deriving DecidableEq
def E.w:E->Int
 | .no=>0
 | .pg f w r=>1+8*(f:Int)+(if w then 2 else 0)+(if r then 4 else 0)
 | .sl i=>2+4*(i:Int)
def E.t:E->aaB
 | .no=>(-1,-1,false,false,())
 | .pg f w r=>(f,-1,w,r,())
 | .sl i=>(-1,i,false,false,())
def E.ok:E->Prop
 | .no=>True
 | .pg f _ _=>f<32
 | .sl i=>i<16
structure G where
 tb:Nat->Option Nat
 en:Nat->E
def row (mem:List (List Int)) (f:Nat):List Int:=mem.getD f []
def bU (mem:List (List Int)) (f k:Nat):Int:=(row mem f).getD k 0
def ar (st:List Int) (f:Nat):Int:=st.getD f 9
def tI:Option Nat->Int
 |none=> -1
 |some f=>f
def tW:Option Nat->Int
 |none=>0
 |some f=>f+1
def aB (sp:List dp) (s:Nat):dp:=sp.getD s (false,-1,[],())
def cy (mem:List (List Int)) (f k:Nat) (v:Int):List (List Int):=mem.set f ((row mem f).set k v)
def bB (rg:List cx) (p:Nat):Int:=rg.foldl (λa r=>if r.1<=(p:Int)/\(p:Int)<r.2.1 then (if r.2.2.1 then 2 else 1) else a) 0
def bc (sp:List dp) (s:Nat):List cx:=(aB sp s).2.2.1
def F7 (r q:cx):Prop:=r.2.1<=q.1/\(r.2.1=q.1->r.2.2.1≠q.2.2.1)
def ns:List cx->Prop
 |r::q::l=>F7 r q/\ns (q::l)
 |_=>True
def hz (rg:List cx):Prop:=rg.length<=12/\(∀r∈rg,0<=r.1/\r.1<r.2.1/\r.2.1<=64)/\ns rg
structure eN (mem:List (List Int)):Prop where
 lo:8<=mem.length
 hi:mem.length<=32
 m8:mem.length%8=0
 mi:∀r∈mem,r.length=4/\∀x∈r,0<=x/\x<=100000
structure eU (n:Nat) (st:List Int):Prop where
 len:st.length=n
 val:∀f,f<n->0<=ar st f/\ar st f<=5/\(ar st f=1↔f<2)
structure fs (mem:List (List Int)) (sp:List dp) (g:G):Prop where
 fl:∀s,s<4->(aB sp s).2.1=tI (g.tb s)
 c8:∀x,x<20->∀k,k<4->∀f,g.tb x=some f->bU mem f k=tW (g.tb (4*x+4+k))
 leaf:∀q,q<64->∀k,k<4->∀f,g.tb (20+q)=some f->bU mem f k=(g.en (4*q+k)).w
 cU:∀x,x<20->g.tb x=none->∀k,k<4->g.tb (4*x+4+k)=none
 hB:∀q,q<64->g.tb (20+q)=none->∀k,k<4->g.en (4*q+k)=.no
structure kg (tb:Nat->Option Nat) (st:List Int):Prop where
 inj:∀x y f,x<84->y<84->tb x=some f->tb y=some f->x=y
 ga:∀f,ar st f=4↔∃x,x<84/\tb x=some f
def NZ (tb:Nat->Option Nat) (en:Nat->E) (z:Nat):Prop:=∀x,x<84->x≠z->tb x≠none->(x<20->∃k,k<4/\tb (4*x+4+k)≠none)/\(20<=x->∃k,k<4/\en (4*(x-20)+k)≠ .no)
structure JT (sp:List dp):Prop where
 len:sp.length=4
 gW:∀s,s<4->hz (bc sp s)
 gR:∀s,s<4->(aB sp s).1=false->(aB sp s).2.1= -1/\bc sp s=[]
structure AB (en:Nat->E) (st:List Int) (sp:List dp) (n:Nat):Prop where
 pg:∀y,y<256->∀f w r,en y=.pg f w r->ar st f=5/\0<bB (bc sp (y/64)) (y%64)/\(w=true->bB (bc sp (y/64)) (y%64)=2)
 sl:∀y,y<256->∀i,en y=.sl i->i<n/\0<bB (bc sp (y/64)) (y%64)
def cI (en:Nat->E) (i:Nat):Nat:=((List.range 256).filter λy=>en y=.sl i).length
structure jj (sl:List cR) (en:Nat->E):Prop where
 len:sl.length<=16
 cI:∀i x,sl[i]?=some x->x.1=(cI en i:Int)
 zero:∀x∈sl,x.1=0->x.2.1=[]
 held:∀x∈sl,x.1≠0->x.2.1.length=4/\∀v∈x.2.1,0<=v/\v<=100000
structure jP (en:Nat->E):Prop where
 pg:∀y z f w r w' b,y<256->z<256->en y=.pg f w r->en z=.pg f w' b->y%64=z%64/\(y≠z->w=false)
 sl:∀y z i,y<256->z<256->en y=.sl i->en z=.sl i->y%64=z%64
structure aaJ (a i:List Int) (st:List Int):Prop where
 b7:(a++i).Nodup
 mem:∀x,x∈a++i↔∃f:Nat,x=f/\ar st f=5
def aaK (en:Nat->E) (st:List Int):Prop:=∀f,ar st f=5->∃y w r,y<256/\en y=.pg f w r
def fX (w:Int):Int:=if w<=4 then 0 else if w<=8 then 1 else if w<=16 then 2 else 3
def ct (w:Int):Int:=if w=1 then 1 else if w=2 then 2 else 4
def cA (aq:List bV):List Int:=aq.flatMap λx=>if x.2.2.1= -1 then cJ (x.2.1,x.2.2.2.1,()) else []
structure kY (s:cj):Prop where
 lo:0<=s.1
 hi:s.1<=31
 size:s.2.1=1/\s.2.2.1.length=4\/s.2.1=2/\s.2.2.1.length=2\/s.2.1=4/\s.2.2.1.length=1
 aab:true∈s.2.2.1
def MR (aH:List cj) (x:bV):Prop:=∃s∈aH,s.1=x.2.1/\x.2.2.2.1=0/\0<=x.2.2.1/\s.2.2.1[x.2.2.1.toNat]?=some true/\1<=x.2.2.2.2.1/\x.2.2.2.2.1<=4/\ct x.2.2.2.2.1=s.2.1
structure e9 (n:Nat) (st:List Int) (aH:List cj) (aq:List bV) (next:Int):Prop where
 kD:aH.length<=32
 eM:∀s∈aH,kY s
 iL:aH.Pairwise λs t=>s.1<t.1
 hL:∀f,ar st f=2↔∃s∈aH,s.1=f
 nl:1<=next
 tZ:next<=100000
 kz:aq.length<=40
 nm:aq.Pairwise λx y=>x.1<y.1
 li:∀x∈aq,1<=x.1/\x.1<next
 h2:∀x∈aq,x.2.2.1= -1->5<=x.2.2.2.2.1/\x.2.2.2.2.1<=32/\x.2.2.2.1=fX x.2.2.2.2.1/\0<=x.2.1/\x.2.1%2^x.2.2.2.1.toNat=0/\x.2.1+2^x.2.2.2.1.toNat<=n
 hG:∀x∈aq,x.2.2.1≠ -1->MR aH x
 np:aq.Pairwise λx y=>x.2.2.1≠ -1->¬(x.2.1=y.2.1/\x.2.2.1=y.2.2.1)
 bi:(cA aq).Nodup
 iY:∀f:Nat,(f:Int)∈cA aq↔ar st f=3
 sum:(aH.map λs=>s.2.2.1.count true).sum=aq.countP λx=>x.2.2.1 != -1
def dJ (st:List Int):List c4:=hj (λf=>ar st f==0) st.length
structure ao (m:M) (g:G) (z:Nat):Prop where
 mm:eN m.mem
 sn:eU m.mem.length m.st
 fr:m.bF=dJ m.st
 kr:e9 m.mem.length m.st m.aH m.aq m.next
 sp:JT m.ah
 rp:fs m.mem m.ah g
 tx:kg g.tb m.st
 nz:NZ g.tb g.en z
 eo:AB g.en m.st m.ah m.az.length
 sl:jj m.az g.en
 pg:jP g.en
 ls:aaJ m.aD m.bb m.st
 mp:aaK g.en m.st
def bD {α:Type} (f:Nat->α) (y:Nat) (v:α):Nat->α:=λx=>if x=y then v else f x
@[simp] theorem e5 {α:Type} (f:Nat->α) (y:Nat) (v:α):bD f y v y=v:=by simp [bD]
theorem bh {α:Type} {f:Nat->α} {x y:Nat} {v:α} (h:x≠y):bD f y v x=f x:=by simp [bD,h]
theorem qk {α:Type} {l:List α} {f g:Nat} {v d:α} (b:f<l.length):(l.set f v).getD g d=if g=f then v else l.getD g d:=by
 grind
theorem lp {mem:List (List Int)} {f g:Nat} {r:List Int} (b:f<mem.length):row (mem.set f r) g=if g=f then r else row mem g:=qk b
theorem fY {st:List Int} {f g:Nat} {v:Int} (b:f<st.length):ar (st.set f v) g=if g=f then v else ar st g:=qk b
theorem j4 {sp:List dp} {f g:Nat} {v:dp} (b:f<sp.length):aB (sp.set f v) g=if g=f then v else aB sp g:=qk b
theorem GU {mem:List (List Int)} {f k g j:Nat} {v:Int} (b:f<mem.length) (hk:k<(row mem f).length):bU (cy mem f k v) g j=if g=f/\j=k then v else bU mem g j:=by
 unfold bU cy;rw [lp b]
 grind
theorem y4 {mem:List (List Int)} {f g j:Nat} {r:List Int} (h:g≠f):bU (mem.set f r) g j=bU mem g j:=by
 unfold bU row
 grind
theorem jw {mem:List (List Int)} {f k:Nat} {v:Int}:(cy mem f k v).length=mem.length:=by simp [cy]
theorem e2 {mem:List (List Int)} {f:Nat} (b:f<mem.length):mem[f]?=some (row mem f)/\row mem f∈mem:=by
 unfold row;simp_all
theorem eN.row {mem:List (List Int)} (h:eN mem) {f:Nat} (b:f<mem.length):(row mem f).length=4/\∀x∈Go.bu.row mem f,0<=x/\x<=100000:=h.mi _ (e2 b).2
theorem eN.bU {mem:List (List Int)} (h:eN mem) {f k:Nat} (b:f<mem.length) (hk:k<4):(Go.bu.row mem f)[k]?=some (bU mem f k)/\0<=bU mem f k/\bU mem f k<=100000:=by
 obtain ⟨c,d⟩:=h.row b;unfold bu.bU;simp_all
theorem eN.set {mem:List (List Int)} (h:eN mem) {f:Nat} {r:List Int} (c:r.length=4/\∀x∈r,0<=x/\x<=100000):eN (mem.set f r):=by
 refine ⟨by simpa using h.lo,by simpa using h.hi,by simpa using h.m8,λq b=>?_⟩;rcases nJ b with b|rfl
 exact h.mi _ b;exact c
theorem eN.cy {mem:List (List Int)} (h:eN mem) {f k:Nat} {v:Int} (c:f<mem.length) (d:0<=v/\v<=100000):eN (cy mem f k v):=by
 refine h.set ⟨by simpa using (h.row c).1,λx b=>?_⟩;rcases nJ b with b|rfl
 exact (h.row c).2 x b;exact d
theorem eU.lt {n:Nat} {st:List Int} (h:eU n st) {f:Nat} (b:ar st f≠9):f<n:=by
 rw [<-h.len];apply hN;intro c;apply b;simp [ar,j7 (by omega:st.length<=f)]
theorem kg.lt {n:Nat} {tb:Nat->Option Nat} {st:List Int} (h:kg tb st) (c:eU n st) {x f:Nat} (d:x<84) (b:tb x=some f):f<n:=
 c.lt (by rw [(h.ga f).2 ⟨x,d,b⟩];decide)
theorem fs.off {mem mem':List (List Int)} {sp:List dp} {g:G} (h:fs mem sp g) (c:∀x f,x<84->g.tb x=some f->∀k,k<4->bU mem' f k=bU mem f k):fs mem' sp g:=by
 refine ⟨h.fl,λx e k hk f b=>?_,λq d k hk f b=>?_,h.cU,h.hB⟩;rw [c x f (by omega) b k hk];exact h.c8 x e k hk f b;rw [c _ f (by omega) b k hk];exact h.leaf q d k hk f b
theorem fs.set {mem:List (List Int)} {sp:List dp} {tb:Nat->Option Nat} {en:Nat->E} (h:fs mem sp ⟨tb,en⟩) (hi:∀x y f,x<84->y<84->tb x=some f->tb y=some f->x=y)
 {y f:Nat} {e:E} (u:y<256) (l:tb (20+y/4)=some f) (j:f<mem.length) (r:(row mem f).length=4):fs (cy mem f (y%4) e.w) sp ⟨tb,bD en y e⟩:=by
 have hk:y%4<(row mem f).length:=by omega
 refine ⟨h.fl,λx o k c g b=>?_,λq d k c g b=>?_,h.cU,λq d n k c=>?_⟩;rw [GU j hk,au];exact h.c8 x o k c g b
 grind
 simp only at b|-;rw [GU j hk];by_cases e:4*q+k=y;have:q=y/4:=by omega
 subst this;rw [l] at b;obtain rfl:=b2 b;rw [ay ⟨rfl,by omega⟩];simp [e];rw [au];simp only [bh e];exact h.leaf q d k c g b
 grind
 have:4*q+k≠y:=by
  grind
 simp only [bh this];exact h.hB q d n k c
theorem NZ.set {tb:Nat->Option Nat} {en:Nat->E} {z y:Nat} {e:E} (h:NZ tb en z) (o:z=84\/z=20+y/4) (j:e≠ .no):NZ tb (bD en y e) 84:=by
 intro x n _ l;by_cases c:x=20+y/4;refine ⟨λh=>by omega,λ_=>⟨y%4,by omega,?_⟩⟩;rw [show 4*(x-20)+y%4=y by omega,e5];exact j;obtain ⟨b,d⟩:=h x n (by omega) l;refine ⟨b,λf=>?_⟩;obtain ⟨k,hk,g⟩:=d f;exact ⟨k,hk,by rw [bh (by omega)];exact g⟩
def NZ.Nl {tb:Nat->Option Nat} {en:Nat->E} {z y:Nat} {e:E} (h:NZ tb en z) (n:z=84\/z=20+y/4):NZ tb (bD en y e) (20+y/4):=by
 intro x j l g;obtain ⟨b,c⟩:=h x j (by omega) g;refine ⟨b,λd=>?_⟩;obtain ⟨k,hk,f⟩:=c d;exact ⟨k,hk,by rw [bh (by omega)];exact f⟩
theorem NZ.dW {tb:Nat->Option Nat} {en en':Nat->E} {z:Nat} (h:NZ tb en z) (g:∀y,y<256->en y≠ .no->en' y≠ .no):NZ tb en' z:=by
 intro x c d b;obtain ⟨e,f⟩:=h x c d b
 grind
def NZ.x6 {tb:Nat->Option Nat} {en:Nat->E} {z x k f:Nat} (h:NZ tb en z) (u:z=84\/z=x) (r:x<20) (hk:k<4):NZ (bD tb (4*x+4+k) (some f)) en (4*x+4+k):=by
 intro a n o e;rw [bh o] at e;by_cases c:a=x;subst c;exact ⟨λ_=>⟨k,hk,by simp_all⟩,λh=>by omega⟩;obtain ⟨b,d⟩:=h a n (by omega) e;refine ⟨λg=>?_,d⟩;obtain ⟨j,q,l⟩:=b g;clear b d;exact ⟨j,q,by rw [bh (by omega)];exact l⟩
theorem NZ.x7 {tb:Nat->Option Nat} {en:Nat->E} {s f:Nat} (h:NZ tb en 84) (q:s<4):NZ (bD tb s (some f)) en s:=by
 intro a l n d;rw [bh n] at d;obtain ⟨b,c⟩:=h a l (by omega) d;refine ⟨λe=>?_,c⟩;obtain ⟨j,o,g⟩:=b e;clear b c;exact ⟨j,o,by rw [bh (by omega)];exact g⟩
theorem NZ.cut {tb:Nat->Option Nat} {en:Nat->E} {x k:Nat} (h:NZ tb en (4*x+4+k)) (q:x<20) (hk:k<4):NZ (bD tb (4*x+4+k) none) en x:=by
 intro a l o e;by_cases c:a=4*x+4+k;simp_all;rw [bh c] at e;obtain ⟨b,d⟩:=h a l c e;refine ⟨λf=>?_,d⟩;obtain ⟨j,n,g⟩:=b f;clear b d;exact ⟨j,n,by rw [bh (by omega)];exact g⟩
def NZ.Ll {tb:Nat->Option Nat} {en:Nat->E} {s:Nat} (h:NZ tb en s) (q:s<4):NZ (bD tb s none) en 84:=by
 intro a l o e;by_cases c:a=s;simp_all;rw [bh c] at e;obtain ⟨b,d⟩:=h a l c e;refine ⟨λf=>?_,d⟩;obtain ⟨j,n,g⟩:=b f;clear b d;exact ⟨j,n,by rw [bh (by omega)];exact g⟩
def NZ.tz {tb:Nat->Option Nat} {en:Nat->E} {z:Nat} (h:NZ tb en z) (e:(z<20->∃k,k<4/\tb (4*z+4+k)≠none)/\(20<=z->∃k,k<4/\en (4*(z-20)+k)≠ .no)):NZ tb en 84:=by
 intro x d _ b;by_cases c:x=z;subst c;exact e;exact h x d c b
def fs.x6 {mem:List (List Int)} {sp:List dp} {tb:Nat->Option Nat} {en:Nat->E} (h:fs mem sp ⟨tb,en⟩) (hi:∀x y f,x<84->y<84->tb x=some f->tb y=some f->x=y)
 {x k p f:Nat} (O:x<20) (hk:k<4) (D:tb x=some p) (v:tb (4*x+4+k)=none) (J:∀y,y<84->tb y≠some f) (z:∀k,k<4->bU mem f k=0) (C:p<mem.length) (K:(row mem p).length=4):
 fs (cy mem p k ((f:Int)+1)) sp ⟨bD tb (4*x+4+k) (some f),en⟩:=by
 have r:f≠p:=by grind
 have u:∀g j,bU (cy mem p k ((f:Int)+1)) g j=if g=p/\j=k then (f:Int)+1 else bU mem g j:=λg j=>GU C (by omega)
 refine ⟨λs I=>?_,λx' o k' d g b=>?_,λq n k' d g b=>?_,λx' o l k' d=>?_,λq n l k' d=>?_⟩;simp only [bh (show s≠4*x+4+k by omega)];exact h.fl s I;simp only at b|-;rw [u];by_cases e:x'=4*x+4+k;rw [e,e5] at b;obtain rfl:=b2 b;rw [au (λc=>r c.1),z k' d,bh (by omega)];have:=h.cU x' o (by rw [e];exact v) k' d;simp only at this;rw [this];rfl;rw [bh e] at b;by_cases c:g=p/\k'=k;obtain ⟨rfl,rfl⟩:=c;obtain rfl:=hi _ _ _ (by omega) (by omega) b D;rw [ay ⟨rfl,rfl⟩,e5];rfl;rw [au c,bh];exact h.c8 x' o k' d g b
 grind
 simp only at b|-;rw [u];by_cases e:20+q=4*x+4+k;rw [e,e5] at b;obtain rfl:=b2 b;rw [au (λc=>r c.1),z k' d];have:=h.hB q n (by rw [e];exact v) k' d;simp only at this;rw [this];rfl;rw [bh e] at b;rw [au];exact h.leaf q n k' d g b
 grind
 simp only at l|-;by_cases e:x'=4*x+4+k;simp_all;rw [bh e] at l;rw [bh];exact h.cU x' o l k' d
 grind
 simp only at l|-;by_cases e:20+q=4*x+4+k;simp_all;rw [bh e] at l;exact h.hB q n l k' d
theorem fs.x7 {mem:List (List Int)} {sp sp':List dp} {tb:Nat->Option Nat} {en:Nat->E} (h:fs mem sp ⟨tb,en⟩)
 {s f:Nat} (v:s<4) (r:tb s=none) (u:∀k,k<4->bU mem f k=0)
 (o:∀t,t<4->(aB sp' t).2.1=if t=s then (f:Int) else (aB sp t).2.1):fs mem sp' ⟨bD tb s (some f),en⟩:=by
 refine ⟨λt n=>?_,λx' j k' c g b=>?_,λq l k' c g b=>?_,λx' j d k' c=>?_,λq l d k' c=>?_⟩;rw [o t n];by_cases e:t=s;subst e;simp [tI];simp only [au e,bh e];exact h.fl t n;simp only at b|-;rw [bh (by omega)];by_cases e:x'=s;subst e;rw [e5] at b;obtain rfl:=b2 b;have:=h.cU x' j r k' c;simp only at this;rw [u k' c,this];rfl;rw [bh e] at b;exact h.c8 x' j k' c g b;simp only at b|-;rw [bh (by omega)] at b;exact h.leaf q l k' c g b;simp only at d|-;rw [bh (by omega)];by_cases e:x'=s;simp_all;rw [bh e] at d;exact h.cU x' j d k' c;simp only at d|-;rw [bh (by omega)] at d;exact h.hB q l d k' c
def fs.SA {mem:List (List Int)} {sp:List dp} {g:G} (h:fs mem sp g) {y f:Nat} (j:g.tb y=some f) (l:∀k,k<4->bU mem f k=0):
 (y<20->∀k,k<4->g.tb (4*y+4+k)=none)/\(∀q,y=20+q->q<64->∀k,k<4->g.en (4*q+k)=.no):=by
 refine ⟨λo k hk=>?_,λq e n k hk=>?_⟩;have:=h.c8 y o k hk f j;rw [l k hk] at this;cases d:g.tb (4*y+4+k) with
 |none=>rfl
 |some v=>rw [d] at this;simp [tW] at this;omega
 subst e;have:=h.leaf q n k hk f j;rw [l k hk] at this;cases d:g.en (4*q+k) with
 |no=>rfl
 |pg a b c=>rw [d] at this;simp only [E.w] at this;omega
 |sl a=>rw [d] at this;simp only [E.w] at this;omega
theorem fs.cut {mem:List (List Int)} {sp:List dp} {tb:Nat->Option Nat} {en:Nat->E} (h:fs mem sp ⟨tb,en⟩) (hi:∀x y f,x<84->y<84->tb x=some f->tb y=some f->x=y)
 {x k p f:Nat} (U:x<20) (hk:k<4) (z:tb x=some p) (D:tb (4*x+4+k)=some f) (I:∀k,k<4->bU mem f k=0) (v:p<mem.length) (O:(row mem p).length=4):
 fs (cy mem p k 0) sp ⟨bD tb (4*x+4+k) none,en⟩:=by
 have u:∀g j,bU (cy mem p k 0) g j=if g=p/\j=k then 0 else bU mem g j:=λg j=>GU v (by omega)
 obtain ⟨J,K⟩:=h.SA D I;refine ⟨λs C=>?_,λx' o k' d g b=>?_,λq n k' d g b=>?_,λx' o l k' d=>?_,λq n l k' d=>?_⟩;simp only [bh (show s≠4*x+4+k by omega)];exact h.fl s C;simp only at b|-;rw [u];by_cases e:x'=4*x+4+k;simp_all;rw [bh e] at b;by_cases c:g=p/\k'=k;obtain ⟨rfl,rfl⟩:=c;obtain rfl:=hi _ _ _ (by omega) (by omega) b z;rw [ay ⟨rfl,rfl⟩,e5];rfl;rw [au c,bh];exact h.c8 x' o k' d g b
 grind
 simp only at b|-;rw [u];by_cases e:20+q=4*x+4+k;simp_all;rw [bh e] at b;rw [au];exact h.leaf q n k' d g b
 grind
 simp only at l|-;by_cases r:4*x'+4+k'=4*x+4+k;rw [r,e5];rw [bh r];by_cases e:x'=4*x+4+k
 grind
 rw [bh e] at l;exact h.cU x' o l k' d;simp only at l|-;by_cases e:20+q=4*x+4+k;simp_all;rw [bh e] at l;exact h.hB q n l k' d
def fs.Ll {mem:List (List Int)} {sp sp':List dp} {tb:Nat->Option Nat} {en:Nat->E} (h:fs mem sp ⟨tb,en⟩)
 {s f:Nat} (y:s<4) (r:tb s=some f) (u:∀k,k<4->bU mem f k=0)
 (o:∀t,t<4->(aB sp' t).2.1=if t=s then -1 else (aB sp t).2.1):fs mem sp' ⟨bD tb s none,en⟩:=by
 obtain ⟨v,x⟩:=h.SA r u;refine ⟨λt n=>?_,λx' l k' c g b=>?_,λq j k' c g b=>?_,λx' l d k' c=>?_,λq j d k' c=>?_⟩;rw [o t n];by_cases e:t=s;subst e;simp [tI];simp only [au e,bh e];exact h.fl t n;simp only at b|-;rw [bh (by omega)];by_cases e:x'=s;simp_all;rw [bh e] at b;exact h.c8 x' l k' c g b;simp only at b|-;rw [bh (by omega)] at b;exact h.leaf q j k' c g b;simp only at d|-;rw [bh (by omega)];by_cases e:x'=s;simp_all;rw [bh e] at d;exact h.cU x' l d k' c;simp only at d|-;rw [bh (by omega)] at d;exact h.hB q j d k' c
theorem kg.add {tb:Nat->Option Nat} {st:List Int} (h:kg tb st) {y f:Nat} (z:y<84) (D:tb y=none) (u:ar st f≠4) (v:f<st.length):kg (bD tb y (some f)) (st.set f 4):=by
 have C:∀x,x<84->tb x≠some f:=λx d e=>u ((h.ga f).2 ⟨x,d,e⟩)
 refine ⟨λa b g q r n o=>?_,λg=>?_⟩;by_cases j:a=y<;>by_cases l:b=y
 rw [j,l];rw [j,e5] at n;rw [bh l] at o;simp_all;rw [l,e5] at o;rw [bh j] at n;simp_all;rw [bh j] at n;rw [bh l] at o;exact h.inj a b g q r n o;rw [fY v];by_cases e:g=f;subst e;rw [ay rfl];exact ⟨λ_=>⟨y,z,e5 ..⟩,λ_=>rfl⟩;rw [au e,h.ga];constructor;rintro ⟨x,d,ex⟩;refine ⟨x,d,?_⟩;rw [bh];exact ex
 grind
 rintro ⟨x,d,ex⟩;by_cases c:x=y;simp_all;rw [bh c] at ex;exact ⟨x,d,ex⟩
theorem kg.oG {tb:Nat->Option Nat} {st:List Int} (h:kg tb st) {y f:Nat} (z:y<84) (u:tb y=some f) (v:f<st.length):kg (bD tb y none) (st.set f 0):=by
 refine ⟨λa b g q r j l=>?_,λg=>?_⟩;by_cases n:a=y;simp_all;by_cases o:b=y;simp_all;rw [bh n] at j;rw [bh o] at l;exact h.inj a b g q r j l;rw [fY v];by_cases e:g=f;subst e;rw [ay rfl];refine ⟨(λc=>by cases c),?_⟩;rintro ⟨x,d,ex⟩;by_cases c:x=y;simp_all;rw [bh c] at ex;exact absurd (h.inj _ _ _ d z ex u) c;rw [au e,h.ga];constructor;rintro ⟨x,d,ex⟩;refine ⟨x,d,?_⟩;rw [bh];exact ex
 grind
 rintro ⟨x,d,ex⟩;by_cases c:x=y;simp_all;rw [bh c] at ex;exact ⟨x,d,ex⟩
def kg.dv {tb:Nat->Option Nat} {st st':List Int} (h:kg tb st) (b:∀f,ar st' f=4↔ar st f=4):kg tb st':=⟨h.inj,λf=>(b f).trans (h.ga f)⟩
section
variable {α Z:Type}
theorem a7 {x:Int} (b: -9223372036854775808<=x) (c:x<9223372036854775808):wi x=x:=by
 simp [wi,IntKind.wrap,IntKind.signed,IntKind.bits];split<;>omega
@[simp] theorem aa (v:α) (k:α->Option Z):cl (some v) k=k v:=rfl
theorem bO {a:Nat} {k:Option Z} (h:a<=4294967296):gd (Nat.ble a bi) k=k:=by
 rw [show Nat.ble a bi=true from zb h];rfl
theorem bg (l:List α) (j:Nat) (k:α->Option Z):gn l j k=cl l[j]? k:=by
 unfold gn cl iG;cases l[j]?<;>rfl
theorem aU (l:List α) (j:Nat) (k:α->Option Z):gi l (j:Int) k=cl l[j]? k:=by
 unfold gi cl oM
 grind
theorem tC {l:List α} {i:Int} (h:0<=i) (k:α->Option Z):gi l i k=cl l[i.toNat]? k:=by
 obtain ⟨n,rfl⟩:=g1 h;simpa using aU l n k
theorem be {l:List α} {j:Nat} (h:j<l.length) (k:Nat->Option Z):ix l (j:Int) k=k j:=by
 unfold ix;show (match Nat.blt j l.length with|true=>k j|false=>none)=k j;rw [show Nat.blt j l.length=true from by simp_all]
theorem oP {n j:Nat} (h:j<n) (k:Nat->Option Z):eh n (j:Int) k=k j:=by
 show (match Nat.blt j n with|true=>k j|false=>none)=k j;rw [show Nat.blt j n=true from by simp_all]
theorem ap (l:List α):ln l=(l.length:Int):=rfl
theorem bZ {n:Nat} {Q:Nat->Nat->Prop} (b:∀m,Q (m+1) n) (e:∀m i,i<n->Q m (i+1)->Q (m+1) i):∀i m,i<=n->n-i<m->Q m i:=by
 intro i
 induction h:n-i generalizing i with
 |zero=>
  intro m hi c;obtain rfl:i=n:=by omega
  obtain ⟨m,rfl⟩:∃k,m=k+1:=⟨m-1,by omega⟩
  exact b m
 |succ d f=>
  intro m hi c;obtain ⟨m,rfl⟩:∃k,m=k+1:=⟨m-1,by omega⟩
  grind
theorem aL {i:Nat} (h:i<4294967296):wi ((i:Int)+1)=((i+1:Nat):Int):=by
 rw [a7 (by omega) (by omega)];simp
theorem ly {i:Nat} (h:i<4294967296):wi ((i:Int)-1)=(i:Int)-1:=a7 (by omega) (by omega)
theorem lc {β:Type} (L:Nat->List β->Int->Option Z) (X:List β->Option Z) (a:List α) (f:α->β)
 (c:∀m acc (i:Nat) x,a[i]?=some x->acc.length=i->L (m+1) acc i=L m (acc++[f x]) ((i+1:Nat):Int)) (e:∀m acc,L (m+1) acc a.length=X acc)
 {N:Nat} (g:a.length<N):L N [] 0=X (a.map f):=by
 have key:=bZ (n:=a.length) (Q:=λm i=>∀acc,acc=(a.take i).map f->L m acc i=X (a.map f)) (λm acc b=>by
  simp_all) (λm i hi d acc b=>by
  rw [c m acc i a[i] (ba hi) (by rw [b];simp;omega)];refine d _ ?_;rw [b,iQ,ba hi]
  grind)
 exact key 0 N (bL _) (by omega) [] (by simp)
theorem ER {β:Type} (L:Nat->List β->Int->Option Z) (X:List β->Option Z) (n:Nat) (p:Nat->Bool) (f:Nat->β)
 (d:∀m acc (i:Nat),i<n->acc.length<=i->L (m+1) acc i=L m (if p i then acc++[f i] else acc) ((i+1:Nat):Int)) (c:∀m acc,L (m+1) acc n=X acc)
 {N:Nat} (g:n<N):L N [] 0=X (((List.range n).filter p).map f):=by
 have key:=bZ (n:=n) (Q:=λm i=>∀acc,acc=((List.range i).filter p).map f->L m acc i=X (((List.range n).filter p).map f)) (λm acc b=>by
  rw [c,b]) (λm i hi e acc b=>by
  rw [d m acc i hi (by grind)];refine e _ ?_;rw [b,gK,iP,fI]
  grind)
 grind
theorem ki (L:Nat->Int->Option Z) (b c:Option Z) (n:Nat) (p:Nat->Bool) (e:∀m (i:Nat),i<n->L (m+1) i=if p i then L m ((i+1:Nat):Int) else b) (d:∀m,L (m+1) n=c)
 {N:Nat} (f:n<N):L N 0=if (List.range n).all p then c else b:=by
 have key:=bZ (n:=n) (Q:=λm i=>L m i=if (List.range' i (n-i)).all p then c else b) (λm=>by simp [d]) (λm i hi g=>by
  grind)
 have:=key 0 N (bL _) (by omega);simp_all
theorem Ek (L:Nat->Int->Option Z) (c d:Option Z) (b n:Nat) (p:Nat->Bool) (f:∀m (i:Nat),b<=i->i<n->L (m+1) i=if p i then L m ((i+1:Nat):Int) else c) (e:∀m,L (m+1) n=d)
 {N:Nat} (hi:b<=n) (g:n<N):L N b=if (List.range' b (n-b)).all p then d else c:=by
 have key:=bZ (n:=n) (Q:=λm i=>b<=i->L m i=if (List.range' i (n-i)).all p then d else c) (λm _=>by simp [e]) (λm i hi j h=>by
  grind)
 grind
theorem EU {Y:Type} (L:Nat->Y->Int->Option Z) (X:Y->Option Z) (a:List α) (f:Y->α->Y) (I:Nat->Y->Prop)
 (e:∀m s (i:Nat) x,a[i]?=some x->I i s->L (m+1) s i=L m (f s x) ((i+1:Nat):Int)/\I (i+1) (f s x)) (h:∀m s,I a.length s->L (m+1) s a.length=X s)
 {N:Nat} {s:Y} (b:I 0 s) (j:a.length<N):L N s 0=X (a.foldl f s)/\I a.length (a.foldl f s):=by
 have key:=bZ (n:=a.length) (Q:=λm i=>∀s,I i s->L m s i=X ((a.drop i).foldl f s)/\I a.length ((a.drop i).foldl f s)) (λm s b=>by
  simp_all) (λm i hi g s b=>by
  obtain ⟨c,d⟩:=e m s i a[i] (ba hi) b;rw [c,jL hi];exact g _ d)
 exact key 0 N (bL _) (by omega) s b
end
theorem aG {p:Prop} [Decidable p] {α:Type} {a b:α} (h:¬p):cond (decide p) a b=b:=by rw [bN h];rfl
theorem aJ {p:Prop} [Decidable p] {α:Type} {a b:α} (h:p):cond (decide p) a b=a:=by rw [bn h];rfl
structure eV (m:M) (g:G):Prop where
 mm:eN m.mem
 len:m.ah.length=4
 rp:fs m.mem m.ah g
 lt:∀x f,x<84->g.tb x=some f->f<m.mem.length
 inj:∀x y f,x<84->y<84->g.tb x=some f->g.tb y=some f->x=y
theorem eV.of {m:M} {g:G} {z:Nat} (h:ao m g z):eV m g:=⟨h.mm,h.sp.len,h.rp,λx f c b=>h.tx.lt h.sn c b,h.tx.inj⟩
structure cb (m:M) (g:G):Prop extends eV m g where
 ok:∀y,y<256->(g.en y).ok
theorem ao.oI {m:M} {g:G} {z:Nat} (h:ao m g z) {y:Nat} (c:y<256):(g.en y).ok:=by
 cases b:g.en y with
 |no=>trivial
 |pg f w r=>
  have:=h.sn.lt (f:=f) (by rw [(h.eo.pg y c f w r b).1];decide);have:=h.mm.hi;show f<32;omega
 |sl i=>
  have:=(h.eo.sl y c i b).1;have:=h.sl.len;show i<16;omega
theorem cb.of {m:M} {g:G} {z:Nat} (h:ao m g z):cb m g:=⟨eV.of h,λy b=>h.oI b⟩
def bM (e:E) (f:Nat):Bool:=match e with
 | .pg g _ _=>g==f
 |_=>false
theorem eX {e:E} {f:Nat}:bM e f=true↔∃w r,e=.pg f w r:=by
 cases e with
 |no=>simp [bM]
 |pg g w r=>simp only [bM,iS,E.pg.injEq];simp_all
 |sl i=>simp [bM]
def maps (en:Nat->E) (f:Nat):List Nat:=(List.range 256).filter λy=>bM (en y) f
def yI (y:Nat):List Int:=[((y/64:Nat):Int),((y%64:Nat):Int)]
theorem eV.gR {m:M} {g:G} (h:eV m g) {s p:Nat} (j:s<4) (n:p<64) (e:(aB m.ah s).2.1= -1):g.en (64*s+p)=.no:=by
 have b:g.tb s=none:=by
  have:=h.rp.fl s j;rw [e] at this;cases d:g.tb s with
  |none=>rfl
  |some f=>rw [d] at this;simp only [tI] at this;omega
 have c:=h.rp.cU s (by omega) b (p/16) (by omega);have l:=h.rp.cU _ (by omega) c (p/4%4) (by omega);have:=h.rp.hB ((64*s+p)/4) (by omega) (by grind) (p%4) (by omega)
 grind
def qV (l:List Int):Prop:=l.length=4/\∀v∈l,0<=v/\v<=100000
structure p2 (x:cR):Prop where
 lo:0<=x.1
 hi:x.1<=64
 zero:x.1=0->x.2.1=[]
 held:x.1≠0->qV x.2.1
def lR (l:List cR):Prop:=l.length<=16/\∀x∈l,p2 x
theorem p2.len {x:cR} (h:p2 x):x.2.1.length<=4:=by
 by_cases c:x.1=0;rw [h.zero c];simp;rw [(h.held c).1];omega
theorem lR.set {l:List cR} (h:lR l) {i:Nat} {x:cR} (c:p2 x):lR (l.set i x):=by
 refine ⟨by simpa using h.1,λy b=>?_⟩;rcases nJ b with b|rfl
 exact h.2 y b;exact c
def agd (c:Nat):((List.range 256).filter λy=>y%64==c).length<=4:=by
 by_cases h:c<64;revert h;revert c;decide+kernel;rw [List.filter_eq_nil_iff.2];simp
 grind
theorem UX {p:Nat->Bool} (h:∀y z,y<256->z<256->p y=true->p z=true->y%64=z%64):((List.range 256).filter p).length<=4:=by
 cases b:(List.range 256).filter p with
 |nil=>simp
 |cons y l=>
  have c:y∈(List.range 256).filter p:=by simp_all
  simp only [gy,g2] at c;rw [<-b];have:(List.range 256).filter p=((List.range 256).filter λz=>z%64==y%64).filter p:=by
   rw [List.filter_filter];apply uQ;intro z d;rw [g2] at d;cases e:p z;simp
   grind
  rw [this];exact Nat.le_trans (j8 _ _) (agd _)
theorem Lj {en:Nat->E} (h:jP en) (i:Nat):cI en i<=4:=by
 unfold cI;exact UX (λy z d e b c=>h.sl y z i d e (by simpa using b) (by simpa using c))
theorem VW {en:Nat->E} (h:jP en) (f:Nat):(maps en f).length<=4:=by
 unfold maps;refine UX (λy z d e b c=>?_);obtain ⟨w,r,b⟩:=eX.1 b;obtain ⟨w',g,c⟩:=eX.1 c;exact (h.pg y z f w r w' g d e b c).1
theorem uy {l:List cR} {en:Nat->E} (h:jj l en) (c:jP en):lR l:=by
 refine ⟨h.len,λx b=>?_⟩;obtain ⟨i,hi⟩:=nI.1 b;have:=h.cI i x hi;have:=Lj c i;exact ⟨by omega,by omega,h.zero x b,h.held x b⟩
structure Re (m:M) (g:G) (mem':List (List Int)) (en':Nat->E):Prop where
 br:cb {m with mem:=mem'} ⟨g.tb,en'⟩
 len:mem'.length=m.mem.length
 off:∀f,(∀x,x<84->g.tb x≠some f)->row mem' f=row m.mem f
theorem Re.refl {m:M} {g:G} (h:cb m g):Re m g m.mem g.en:=⟨h,rfl,λ_ _=>rfl⟩
def E.apZ {e:E} (h:e.ok):e.w<=100000:=by
 cases e with
 |no=>decide
 |pg f w r=>have h:f<32:=h;simp only [E.w];omega
 |sl i=>have h:i<16:=h;simp only [E.w];omega
def E.ap0 {e:E}:0<=e.w:=by
 cases e with
 |no=>decide
 |pg f w r=>simp only [E.w];omega
 |sl i=>simp only [E.w];omega
theorem Re.set {m:M} {g:G} {mem':List (List Int)} {en':Nat->E} (h:Re m g mem' en') {y q:Nat} {e:E} (r:y<256) (l:g.tb (20+y/4)=some q) (j:e.ok):
 Re m g (cy mem' q (y%4) e.w) (bD en' y e):=by
 have b:q<mem'.length:=h.br.lt _ q (by omega) l;have n:=h.br.mm.row b;refine ⟨⟨⟨h.br.mm.cy b ⟨E.ap0,E.apZ j⟩,h.br.len,h.br.rp.set h.br.inj r l b n.1,λx f o d=>?_,h.br.inj⟩,λz u=>?_⟩,by rw [jw];exact h.len,λf d=>?_⟩;rw [jw];exact h.br.lt x f o d;by_cases c:z=y;subst c;simpa using j;simp only [bh c];exact h.br.ok z u;have:f≠q:=by grind
 rw [<-h.off f d];unfold cy;rw [lp b,au this]
theorem Re.congr {m:M} {g:G} {mem':List (List Int)} {d b:Nat->E} (h:Re m g mem' d) (j:∀y,y<256->d y=b y):Re m g mem' b:=by
 refine ⟨⟨⟨h.br.mm,h.br.len,⟨h.br.rp.fl,h.br.rp.c8,λq c k hk f l=>?_,h.br.rp.cU,λq c n k hk=>?_⟩,h.br.lt,h.br.inj⟩,λy e=>?_⟩,h.len,h.off⟩;have:=h.br.rp.leaf q c k hk f l
 grind
 have:=h.br.rp.hB q c n k hk
 grind
 show (b y).ok;rw [<-j y e];exact h.br.ok y e
def E.dr:E->E
 | .pg f w _=>.pg f w false
 |e=>e
def E.ref:E->Bool
 | .pg _ _ r=>r
 |_=>false
def cq (en:Nat->E) (f:Nat):Nat->E:=λy=>if bM (en y) f then (en y).dr else en y
def fx (en:Nat->E) (f:Nat):Bool:=(maps en f).any λy=>(en y).ref
def cL (e b:E):Prop:=match e with
 | .no=>b=.no
 | .sl i=>b=.sl i
 | .pg f w _=>∃w' c,b=.pg f w' c/\(w'=true->w=true)
theorem oU (e:E):cL e e:=by
 cases e with
 |no=>rfl
 |sl i=>rfl
 |pg f w r=>exact ⟨w,r,rfl,id⟩
def Fc {e:E} {f:Nat} {w r:Bool} (h:cL e (.pg f w r)):∃w' c,e=.pg f w' c/\(w=true->w'=true):=by
 cases e with
 |no=>cases h
 |sl i=>cases h
 |pg g a b=>
  obtain ⟨w',c,d,j⟩:=h;simp_all
def ahi {e:E} {i:Nat}:cL e (.sl i)->e=.sl i:=by
 intro h;cases e with
 |no=>cases h
 |sl j=>cases h;rfl
 |pg g a b=>obtain ⟨w',f,c,d⟩:=h;cases c
def Vz {e c:E} (h:cL e c) (d:e≠ .no):c≠ .no:=by
 cases e with
 |no=>exact absurd rfl d
 |sl j=>cases h;omega
 |pg g a b=>obtain ⟨w',n,f,l⟩:=h;simp_all
theorem ahg (e:E):cL e e.dr:=by
 cases e with
 |no=>rfl
 |sl i=>rfl
 |pg f w r=>exact ⟨w,false,rfl,id⟩
def qs (en:Nat->E) (f y:Nat):cL (en y) (cq en f y):=by
 unfold cq;split;exact ahg _;exact oU _
theorem Li {en en':Nat->E} {i j:Nat} (h:∀y,y<256->(en y=.sl i↔en' y=.sl j)):cI en i=cI en' j:=by
 unfold cI;congr 1;apply uQ;simp_all
theorem xO {en:Nat->E} {i:Nat} (h:cI en i=0) {y:Nat} (b:y<256):en y≠ .sl i:=by
 intro e;have:y∈(List.range 256).filter λy=>en y=.sl i:=by simp [b,e]
 have:=List.length_pos_of_mem this;unfold cI at h;omega
def e9.dv {n b:Nat} {st st':List Int} {e:List cj} {d:List bV} {c:Int} (h:e9 n st e d c) (l:b=n) (g:∀f,ar st' f=2↔ar st f=2) (j:∀f,ar st' f=3↔ar st f=3):e9 b st' e d c:=by
 subst l;exact {h with hL:=λf=>(g f).trans (h.hL f),iY:=λf=>(h.iY f).trans (j f).symm}
def ao.re {m:M} {g:G} {z:Nat} (h:ao m g z) {mem':List (List Int)} {en':Nat->E} (u:Re m g mem' en') (q:∀y,y<256->cL (g.en y) (en' y)):ao {m with mem:=mem'} ⟨g.tb,en'⟩ z:=by
 have pg:∀y,y<256->∀f w r,en' y=.pg f w r->∃w' l,g.en y=.pg f w' l/\(w=true->w'=true):=λy d f w r e=>Fc (by rw [<-e];exact q y d)
 have sl:∀y,y<256->∀i,g.en y=.sl i↔en' y=.sl i:=λy d i=>⟨λe=>by have:=q y d;rw [e] at this;exact this,λe=>ahi (by grind)⟩
 refine ⟨u.br.mm,?_,h.fr,?_,h.sp,u.br.rp,h.tx,h.nz.dW λy d I=>Vz (q y d) I,⟨λy d f w r e=>?_,λy d i e=>?_⟩,⟨h.sl.len,λi x J=>?_,h.sl.zero,h.sl.held⟩,⟨λy z f w r w' l d n j o=>?_,λy z i d n j o=>?_⟩,h.ls,λf D=>?_⟩;show eU mem'.length m.st;rw [u.len];exact h.sn;exact h.kr.dv u.len (λ_=>gx) (λ_=>gx);obtain ⟨w',l,j,o⟩:=pg y d f w r e;obtain ⟨a,b,c⟩:=h.eo.pg y d f w' l j;simp_all;exact h.eo.sl y d i ((sl y d i).2 e);show x.1=(cI en' i:Int);rw [h.sl.cI i x J,Li (sl · · i)];obtain ⟨a,b,C,h4⟩:=pg y d f w r j;obtain ⟨a',v,h5,h6⟩:=pg z n f w' l o;obtain ⟨K,h8⟩:=h.pg.pg y z f a b a' v d n C h5
 grind
 exact h.pg.sl y z i d n ((sl y d i).2 j) ((sl z n i).2 o);obtain ⟨y,w,r,d,e⟩:=h.mp f D;have:=q y d;rw [e] at this;obtain ⟨w',l,j,_⟩:=this
 grind
theorem eU.set {n:Nat} {st:List Int} (h:eU n st) {f:Nat} {v:Int} (j:2<=f) (d:f<n) (l:0<=v) (h5:v<=5) (e:v≠1):eU n (st.set f v):=by
 refine ⟨by simpa using h.len,λg b=>?_⟩;rw [fY (by rw [h.len];exact d)];by_cases c:g=f;omega;rw [au c];exact h.val g b
theorem eU.hl {n:Nat} {st:List Int} (h:eU n st) {f:Nat} (h9:ar st f≠9) (b:ar st f≠1):2<=f:=by
 have:=(h.val f (h.lt h9)).2.2;omega
def ao.afN {m:M} {g:G} {z f aP:Nat} {x:cR} {mem':List (List Int)} {en':Nat->E} {a i:List Int} (h:ao m g z) (ah:ar m.st f=5) (af:m.az[aP]?=some x) (am:x.1=0)
 (X:Re m g mem' en') (K:∀y,y<256->en' y=if bM (g.en y) f then .sl aP else g.en y) (ak:(a++i).Nodup) (aj:∀v,v∈a++i↔v∈m.aD++m.bb/\v≠(f:Int)):
 ao {m with mem:=mem',st:=m.st.set f 0,bF:=dJ (m.st.set f 0),az:=m.az.set aP (((maps g.en f).length:Int),row m.mem f,()),aD:=a,bb:=i} ⟨g.tb,en'⟩ z:=by
 have U:=h.sn.lt (f:=f) (by omega);have ai:=h.sn.hl (f:=f) (by omega) (by omega);have ac:f<m.st.length:=by rw [h.sn.len];exact U
 have ab:=(b6.1 af).1;have ag:cI g.en aP=0:=by have:=h.sl.cI aP x af;omega
 have pg:∀y,y<256->∀k w r,en' y=.pg k w r->g.en y=.pg k w r/\k≠f:=by
  intro y d k w r l;rw [K y d] at l;split at l;cases l;rename_i ae;refine ⟨l,?_⟩;rintro rfl;exact ae (eX.2 ⟨w,r,l⟩)
 have sl:∀y,y<256->∀j,en' y=.sl j->j=aP/\bM (g.en y) f=true\/j≠aP/\g.en y=.sl j:=by
  intro y d j l;rw [K y d] at l;split at l;simp_all;refine .inr ⟨?_,l⟩;rintro rfl;exact xO ag d l
 have al:∀k,k≠f->ar (m.st.set f 0) k=ar m.st k:=λk hk=>by rw [fY ac,au hk]
 have an:ar (m.st.set f 0) f=0:=by rw [fY ac,ay rfl]
 have aa:∀k v,v≠0->v≠5->(ar (m.st.set f 0) k=v↔ar m.st k=v):=by
  grind
 have ad:mem'.length=m.mem.length:=X.len;refine ⟨X.br.mm,?_,rfl,h.kr.dv ad (λk=>aa k 2 (by omega) (by omega)) (λk=>aa k 3 (by omega) (by omega)),h.sp,X.br.rp,h.tx.dv λk=>aa k 4 (by omega) (by omega),h.nz.dW λy d ae=>?_,⟨λy d k w r l=>?_,λy d j l=>?_⟩,⟨?_,λj v o=>?_,λv u n=>?_,λv u n=>?_⟩,⟨λy z k w r w' J d C n D=>?_,λy z j d C n D=>?_⟩,⟨ak,λv=>?_⟩,λk hk=>?_⟩;show eU mem'.length _;rw [ad];exact h.sn.set ai U (by omega) (by omega) (by omega)
 grind
 obtain ⟨n,D⟩:=pg y d k w r l;obtain ⟨a,b,c⟩:=h.eo.pg y d k w r n
 grind
 show j<(m.az.set aP _).length/\_;rw [hr];rcases sl y d j l with ⟨rfl,q⟩|⟨_,n⟩
 obtain ⟨w,r,q⟩:=eX.1 q;exact ⟨ab,(h.eo.pg y d f w r q).2.1⟩;exact h.eo.sl y d j n;show (m.az.set aP _).length<=16;rw [hr];exact h.sl.len;show v.1=(cI en' j:Int);have o:(m.az.set aP (((maps g.en f).length:Int),row m.mem f,()))[j]?=some v:=o;rw [pk] at o;by_cases c:aP=j;subst c;rw [ay rfl,ay ab] at o;cases o;show ((maps g.en f).length:Int)=_;congr 1;unfold maps cI;congr 1;apply uQ
 grind
 rw [au c] at o;rw [h.sl.cI j v o,Li λy d=>?_];rw [K y d];constructor;intro e;rw [e];rfl
 grind
 rcases nJ u with u|rfl
 exact h.sl.zero v u n;obtain ⟨y,w,r,d,l⟩:=h.mp f ah;have:y∈maps g.en f:=by unfold maps;grind
 grind
 rcases nJ u with u|rfl
 exact h.sl.held v u n;exact h.mm.row U;obtain ⟨O,_⟩:=pg y d k w r n;obtain ⟨h4,_⟩:=pg z C k w' J D;exact h.pg.pg y z k w r w' J d C O h4;rcases sl y d j n with ⟨rfl,q⟩|⟨I,O⟩
 rcases sl z C j D with ⟨_,W⟩|⟨I,_⟩
 obtain ⟨w,r,q⟩:=eX.1 q;obtain ⟨w',J,W⟩:=eX.1 W;exact (h.pg.pg y z f w r w' J d C q W).1;exact absurd rfl I;rcases sl z C j D with ⟨rfl,_⟩|⟨_,h4⟩
 exact absurd rfl I;exact h.pg.sl y z j d C O h4;show v∈a++i↔_;rw [aj v,h.ls.mem v]
 grind
 have hk:ar (m.st.set f 0) k=5:=hk;have I:k≠f:=by grind
 rw [al k I] at hk;obtain ⟨y,w,r,d,l⟩:=h.mp k hk;refine ⟨y,w,r,d,?_⟩;show en' y=_;rw [K y d,au,l];intro c;obtain ⟨w',J,c⟩:=eX.1 c
 grind
def cd (m:M) (f:Nat) (v:Int):M:={m with mem:=m.mem.set f [0,0,0,0],st:=m.st.set f v,bF:=dJ (m.st.set f v)}
theorem ZY {m:M} {f:Nat} {v:Int} (b:f<m.mem.length) (k:Nat):bU (cd m f v).mem f k=0:=by
 unfold cd bU;simp only;rw [lp b,ay rfl]
 grind
theorem aoh {m:M} {f k:Nat} {v:Int} {j:Nat} (h:k≠f):bU (cd m f v).mem k j=bU m.mem k j:=y4 h
theorem Gn {m:M} {g:G} (h:cb m g) {f:Nat} {v:Int} (c:∀x,x<84->g.tb x≠some f):cb (cd m f v) g:=by
 refine ⟨⟨h.mm.set ⟨rfl,by simp⟩,h.len,h.rp.off λx k b hk j d=>aoh (by grind),λx k b hk=>?_,h.inj⟩,h.ok⟩;show k<(m.mem.set f _).length;rw [hr];exact h.lt x k b hk
theorem e4 {st:List Int} {f:Nat} {u v:Int} (b:f<st.length) (e:ar st f=u) {k:Nat} {w:Int} (c:w≠u) (d:w≠v):ar (st.set f v) k=w↔ar st k=w:=by
 rw [fY b]
 grind
def ao.ZV {m:M} {g:G} {z f:Nat} (h:ao m g z) (l:ar m.st f=0) {y:Nat} (n:y<84) (I:g.tb y=none) {mem':List (List Int)} {sp':List dp} {x:Nat}
 (D:eN mem') (u:mem'.length=m.mem.length) (U:JT sp') (K:∀s,bc sp' s=bc m.ah s) (O:fs mem' sp' ⟨bD g.tb y (some f),g.en⟩) (J:NZ (bD g.tb y (some f)) g.en x):
 ao {cd m f 4 with mem:=mem',ah:=sp'} ⟨bD g.tb y (some f),g.en⟩ x:=by
 have q:=h.sn.lt (f:=f) (by omega);have C:=h.sn.hl (f:=f) (by omega) (by omega);have d:f<m.st.length:=by rw [h.sn.len];exact q
 refine ⟨D,?_,rfl,h.kr.dv u (λk=>e4 d l (by omega) (by omega)) (λk=>e4 d l (by omega) (by omega)),U,O,h.tx.add n I (by omega) d,J,⟨λy n k w r o=>?_,λy n j o=>?_⟩,h.sl,h.pg,⟨h.ls.b7,λv=>?_⟩,λk hk=>?_⟩;show eU mem'.length _;rw [u];exact h.sn.set C q (by omega) (by omega) (by omega);obtain ⟨a,b,c⟩:=h.eo.pg y n k w r o;refine ⟨(e4 d l (by omega) (by omega)).2 a,?_⟩;simp_all;show _/\0<bB (bc sp' _) _;rw [K];exact h.eo.sl y n j o;show v∈m.aD++m.bb↔_;rw [h.ls.mem v];constructor;rintro ⟨k,e,hk⟩;exact ⟨k,e,(e4 d l (by omega) (by omega)).2 hk⟩;rintro ⟨k,e,hk⟩;exact ⟨k,e,(e4 d l (by omega) (by omega)).1 hk⟩;exact h.mp k ((e4 d l (by omega) (by omega)).1 hk)
theorem ao.i1 {m:M} {g:G} {z f:Nat} (h:ao m g z) (b:ar m.st f≠4):∀x,x<84->g.tb x≠some f:=λx c e=>b ((h.tx.ga f).2 ⟨x,c,e⟩)
def ao.x6 {m:M} {g:G} {z f x k p:Nat} (h:ao m g z) (o:ar m.st f=0) (n:x<20) (hk:k<4) (l:g.tb x=some p) (d:g.tb (4*x+4+k)=none) (r:z=84\/z=x):
 ao {cd m f 4 with mem:=cy (cd m f 4).mem p k ((f:Int)+1)} ⟨bD g.tb (4*x+4+k) (some f),g.en⟩ (4*x+4+k):=by
 have q:=h.sn.lt (f:=f) (by omega);have e:=h.i1 (f:=f) (by omega);have b:=Gn (v:=4) (cb.of h) e;have c:p<(cd m f 4).mem.length:=b.lt x p (by omega) l;have u:=h.mm.hi;refine h.ZV (sp':=m.ah) o (by omega) d (b.mm.cy c ⟨by omega,by omega⟩) ?_ h.sp (λ_=>rfl) ?_ (h.nz.x6 r n hk);rw [jw];simp [cd];exact b.rp.x6 b.inj n hk l d e (λj _=>ZY q j) c (b.mm.row c).1
theorem ao.x7 {m:M} {g:G} {f s:Nat} (h:ao m g 84) (r:ar m.st f=0) (e:s<4) (o:g.tb s=none) (z:(aB m.ah s).1=true):
 ao {cd m f 4 with ah:=m.ah.set s ((aB m.ah s).1,(f:Int),(aB m.ah s).2.2)} ⟨bD g.tb s (some f),g.en⟩ s:=by
 have u:=h.sn.lt (f:=f) (by omega);have x:=h.i1 (f:=f) (by omega);have n:=Gn (v:=4) (cb.of h) x;have y:s<m.ah.length:=by rw [h.sp.len];exact e
 have q:∀t,aB (m.ah.set s ((aB m.ah s).1,(f:Int),(aB m.ah s).2.2)) t=if t=s then ((aB m.ah s).1,(f:Int),(aB m.ah s).2.2) else aB m.ah t:=λt=>j4 y
 have d:∀t,bc (m.ah.set s ((aB m.ah s).1,(f:Int),(aB m.ah s).2.2)) t=bc m.ah t:=by
  intro t;unfold bc
  grind
 refine h.ZV r (by omega) o n.mm (by simp [cd]) ⟨by rw [hr];exact h.sp.len,λt l=>by rw [d];exact h.sp.gW t l,λt l b=>?_⟩ d ?_ (h.nz.x7 e);rw [q] at b|-;rw [d];split at b;simp_all;rename_i c;rw [au c];exact h.sp.gR t l b;refine n.rp.x7 e o (λj _=>ZY u j) (λt _=>?_);rw [q];split<;>rfl
theorem oQ (en:Nat->E) (f y k:Nat):bM (cq en f y) k=bM (en y) k:=by
 unfold cq;split;cases en y<;>rfl
 rfl
theorem Mo (en:Nat->E) (f k:Nat):maps (cq en f) k=maps en k:=by
 unfold maps;apply uQ;intro y _;exact oQ en f y k
theorem Xc {en:Nat->E} {f y:Nat} (h:(cq en f y).ref=true):(en y).ref=true/\bM (en y) f=false:=by
 unfold cq at h;split at h;cases b:en y<;>rw [b] at h<;>cases h
 simp_all
def Nf {en:Nat->E} {f:Nat}:fx en f=true↔∃y,y<256/\bM (en y) f=true/\(en y).ref=true:=by
 unfold fx maps;simp_all
def akf (en:Nat->E) (f:Nat):fx (cq en f) f=false:=by
 rw [qY];intro h;obtain ⟨y,_,b,c⟩:=Nf.1 h;rw [oQ,(Xc c).2] at b;cases b
def ake {en:Nat->E} {f:Nat} (g:Nat) (h:fx en f=false):fx (cq en g) f=false:=by
 rw [qY] at*;intro c;obtain ⟨y,e,b,d⟩:=Nf.1 c;rw [oQ] at b;exact h (Nf.2 ⟨y,e,b,(Xc d).1⟩)
def g9 (en:Nat->E) (a:List Int):Nat->E:=a.foldl (λen f=>cq en f.toNat) en
def ae4:∀(a:List Int) (en:Nat->E) (f:Nat),fx en f=false->fx (g9 en a) f=false:=by
 intro a
 induction a with
 |nil=>intro en f h;exact h
 |cons x a b=>intro en f h;exact b _ f (ake _ h)
theorem ae5:∀(a:List Int) (en:Nat->E) (x:Int),x∈a->fx (g9 en a) x.toNat=false:=by
 intro a
 induction a with
 |nil=>intro en f h;cases h
 |cons y a b=>
  intro en x h;rcases el.1 h with rfl|h
  exact ae4 a _ _ (akf _ _);exact b _ x h
def tL {a b c:E} (d:cL a b) (e:cL b c):cL a c:=by
 cases a with
 |no=>cases d;exact e
 |sl i=>cases d;exact e
 |pg f w r=>
  obtain ⟨w',l,rfl,g⟩:=d;obtain ⟨w2,j,rfl,h4⟩:=e;exact ⟨w2,j,rfl,λh=>g (h4 h)⟩
def Vy:∀(a:List Int) (en:Nat->E) (y:Nat),cL (en y) (g9 en a y):=by
 intro a
 induction a with
 |nil=>intro en y;exact oU _
 |cons x a b=>intro en y;exact tL (qs en x.toNat y) (b _ y)
def i0:Nat->(Nat->E)->List Int->List Int->Option (Nat×(Nat->E)×List Int×List Int)
 |0,_,_,_=>none
 |n+1,en,a,[]=>match a with
  |[]=>none
  |f::r=>if fx (g9 en a) f.toNat then i0 n (cq (g9 en a) f.toNat) [f] r else some (f.toNat,cq (g9 en a) f.toNat,[],r)
 |n+1,en,a,f::r=>if fx en f.toNat then i0 n (cq en f.toNat) (a++[f]) r else some (f.toNat,cq en f.toNat,a,r)
def afJ:∀(n:Nat) (en:Nat->E) (a i:List Int),i.length+1<n->a++i≠[]->∃r,i0 n en a i=some r:=by
 intro n
 induction n with
 |zero=>intro en a i h;omega
 |succ n c=>
  intro en a i h b;cases i with
  |nil=>
   unfold i0;cases a with
   |nil=>exact absurd rfl b
   |cons f r=>
    simp only;rw [ae5 (f::r) en f (nH ..)];exact ⟨_,rfl⟩
  |cons f r=>
   unfold i0;split;simp_all;exact ⟨_,rfl⟩
def EO {m:M} {g:G} {z:Nat} (h:ao m g z):∀s,s<4->(aB m.ah s).1=false->(aB m.ah s).2.1= -1:=λs c b=>(h.sp.gR s c b).1
theorem ao.fv {m:M} {g:G} {z:Nat} (h:ao m g z):m.st.length<=32/\m.mem.length<=32:=⟨by rw [h.sn.len];exact h.mm.hi,h.mm.hi⟩
def ua:∀(l:List Int) (n:Nat),l.Nodup->(∀x∈l,0<=x/\x<n)->l.length<=n:=by
 intro l n
 induction n generalizing l with
 |zero=>
  intro _ h;cases l with
  |nil=>simp
  |cons a l=>have:=h a (nH ..);omega
 |succ n d=>
  intro b h;have e:=d (l.filter λx=>x !=(n:Int)) (nD _ b) (λx j=>by
   grind)
  have f:l.length<=(l.filter λx=>x !=(n:Int)).length+1:=by
   clear d h e
   induction l with
   |nil=>simp
   |cons a l o=>
    obtain ⟨g,h4⟩:=jh.1 b;by_cases c:a=(n:Int);have:(l.filter λx=>x !=(n:Int))=l:=by
     rw [List.filter_eq_self]
     grind
    grind
    simp_all
  omega
theorem kt {m:M} {g:G} {z:Nat} (h:ao m g z):(m.aD++m.bb).length<=32:=by
 refine Nat.le_trans (ua _ m.mem.length h.ls.b7 λx b=>?_) h.mm.hi;obtain ⟨f,rfl,c⟩:=(h.ls.mem x).1 b;have:=h.sn.lt (f:=f) (by omega);omega
def cb.k8 {m:M} {g:G} (h:cb m g) (a i:List Int):cb {m with aD:=a,bb:=i} g:=⟨⟨h.mm,h.len,h.rp,h.lt,h.inj⟩,h.ok⟩
def ao.k8 {m:M} {g:G} {z:Nat} (h:ao m g z) {a i:List Int} (b:(a++i).Nodup) (c:∀v,v∈a++i↔v∈m.aD++m.bb):ao {m with aD:=a,bb:=i} g z:=
 ⟨h.mm,h.sn,h.fr,h.kr,h.sp,h.rp,h.tx,h.nz,h.eo,h.sl,h.pg,⟨b,λv=>(c v).trans (h.ls.mem v)⟩,h.mp⟩
theorem Re.trans {m:M} {g:G} {j l:List (List Int)} {c d:Nat->E} (e:Re m g j c) (b:Re {m with mem:=j} ⟨g.tb,c⟩ l d):Re m g l d:=
 ⟨⟨⟨b.br.mm,b.br.len,b.br.rp,b.br.lt,b.br.inj⟩,b.br.ok⟩,b.len.trans e.len,λf h=>(b.off f h).trans (e.off f h)⟩
def Re.k8 {m:M} {g:G} {c:List (List Int)} {b:Nat->E} {a i:List Int} (h:Re {m with aD:=a,bb:=i} g c b):Re m g c b:=
 ⟨⟨⟨h.br.mm,h.br.len,h.br.rp,h.br.lt,h.br.inj⟩,h.br.ok⟩,h.len,h.off⟩
def Uw {a:List Int} {i:Nat} (hi:i<a.length) (en:Nat->E):cq (g9 en (a.take i)) a[i].toNat=g9 en (a.take (i+1)):=by
 rw [iQ,ba hi];unfold g9
 grind
structure ou (n:Nat) (l:List c4):Prop where
 nn:8<=n/\n<=32/\n%8=0
 len:l.length<=n
 b3:∀r∈l,∃a k:Nat,r=((a:Int),(k:Int),())/\k<=3/\a%2^k=0/\a+2^k<=n
 chain:chain l
def dQ (m:M) (f:Nat):M:={m with st:=m.st.set f 0,bF:=dJ (m.st.set f 0)}
def cr (st:List Int) (v:Int):List Int:=((List.range st.length).filter λf=>ar st f==v).map λf:Nat=>(f:Int)
theorem fD {st:List Int} {v:Int} (h9:v≠9) (f:Nat):(f:Int)∈cr st v↔ar st f=v:=by
 unfold cr;simp only [cQ,gy,g2,iS];constructor
 grind
 intro h;refine ⟨f,⟨?_,h⟩,rfl⟩;apply hN;intro c;apply h9;rw [<-h];simp [ar,j7 (by omega:st.length<=f)]
theorem oO (st:List Int) (v:Int):(cr st v).length<=st.length:=by
 unfold cr
 grind
def agi {st:List Int} {n:Nat} (b:8<=n/\n<=32/\n%8=0) (c:st.length=n):ou n (dJ st):=by
 unfold dJ hj;rw [c];exact ⟨b,Nat.le_trans (akH _ _) (by omega),λr d=>by
  obtain ⟨a,k,e,f,g,h4,_⟩:=(Xs b.2.2 _ _ r d).1
  grind,akE _ _⟩
def agh {st:List Int} (b:st.length%8=0):(dJ st).flatMap cJ=cr st 0:=by
 unfold dJ hj cr;rw [akF b _ _ (by omega),Nat.sub_zero,<-List.range_eq_range']
theorem ao.bK {m:M} {g:G} {z:Nat} (h:ao m g z):ou m.mem.length m.bF:=by
 rw [h.fr];exact agi ⟨h.mm.lo,h.mm.hi,h.mm.m8⟩ h.sn.len
theorem ao.aW {m:M} {g:G} {z:Nat} (h:ao m g z):m.bF.flatMap cJ=cr m.st 0:=by
 rw [h.fr];exact agh (by rw [h.sn.len];exact h.mm.m8)
theorem ao.xX {m:M} {g:G} {z:Nat} (h:ao m g z):(m.bF.flatMap cJ).length<=1000:=by
 rw [h.aW];have:=oO m.st 0;have:=h.fv.1;omega
theorem ao.run {m:M} {g:G} {z:Nat} (h:ao m g z) {r:c4} (b:r∈m.bF):∃a k:Nat,r=((a:Int),(k:Int),())/\k<=3/\a%2^k=0/\a+2^k<=m.mem.length/\∀i,i<2^k->ar m.st (a+i)=0:=by
 rw [h.fr] at b;obtain ⟨a,k,c,d,e,h4,h5⟩:=(Xs (by rw [h.sn.len];exact h.mm.m8) _ _ r b).1;exact ⟨a,k,c,d,e,by rw [<-h.sn.len];exact h4,λi hi=>by simpa using h5 i hi⟩
def ao.agl {m:M} {g:G} {z f:Nat} (h:ao m g z) (b:ar m.st f=0):m.bF≠[]:=by
 intro e;have:=h.aW;rw [e] at this;have c:=(fD (st:=m.st) (v:=0) (by decide) f).2 b;simp_all
def cS (m:M) (e:E):List Int:=match e with
 | .no=>[0,0,0,0]
 | .pg f _ _=>row m.mem f
 | .sl i=>(m.az.getD i (0,[],())).2.1
structure ih (m:M) (g:G) (b:M) (g':G):Prop where
 tb:g'.tb=g.tb
 ah:b.ah=m.ah
 aH:b.aH=m.aH
 aq:b.aq=m.aq
 next:b.next=m.next
 len:b.mem.length=m.mem.length
 j3:b.az.length=m.az.length
 st:∀k,ar b.st k=ar m.st k\/ar m.st k=5/\ar b.st k=0
 en:∀y,y<256->cL (g.en y) (g'.en y)\/∃f w r j,g.en y=.pg f w r/\g'.en y=.sl j/\ar b.st f=0
 off:∀k,(∀x,x<84->g.tb x≠some k)->row b.mem k=row m.mem k
 cS:∀y,y<256->cS b (g'.en y)=cS m (g.en y)
theorem ih.refl (m:M) (g:G):ih m g m g:=⟨rfl,rfl,rfl,rfl,rfl,rfl,rfl,λ_=>.inl rfl,λy _=>.inl (oU _),λ_ _=>rfl,λ_ _=>rfl⟩
theorem ih.trans {m q u:M} {g v x:G} (h:ih m g q v) (d:ih q v u x):ih m g u x:=by
 have D:∀f,ar q.st f=0->ar u.st f=0:=λf z=>by
  rcases d.st f with e|⟨e,_⟩
  rw [e,z];omega
 refine ⟨d.tb.trans h.tb,d.ah.trans h.ah,d.aH.trans h.aH,d.aq.trans h.aq,d.next.trans h.next,d.len.trans h.len,d.j3.trans h.j3,λk=>?_,λy l=>?_,λk hk=>?_,λy l=>(d.cS y l).trans (h.cS y l)⟩;rcases h.st k with e|⟨J,K⟩
 rw [<-e];exact d.st k;simp_all;rcases h.en y l with o|⟨f,w,r,j,a,b,c⟩
 rcases d.en y l with n|⟨f,w,r,j,a,b,c⟩
 exact .inl (tL o n);rw [a] at o;obtain ⟨w',C,e,_⟩:=Fc o;simp_all;rcases d.en y l with n|⟨O,w',C,U,a',I,c'⟩
 rw [b] at n;exact .inr ⟨f,w,r,j,a,n,D f c⟩;simp_all;rw [d.off k (by rw [h.tb];exact hk),h.off k hk]
theorem UO {m:M} {tb:Nat->Option Nat} {en en':Nat->E} {z f aP:Nat} {x:cR} {mem':List (List Int)} {a' D:List Int} (h:ao m ⟨tb,en⟩ z) (O:ar m.st f=5) (n:m.az[aP]?=some x) (I:x.1=0)
 {g:M} (b:g={m with mem:=mem',st:=m.st.set f 0,bF:=dJ (m.st.set f 0),az:=m.az.set aP (((maps en f).length:Int),row m.mem f,()),aD:=a',bb:=D})
 (hi:ao g ⟨tb,λy=>if bM (en y) f then .sl aP else en' y⟩ z) (C:∀k,(∀x,x<84->tb x≠some k)->row mem' k=row m.mem k) (j:∀y,cL (en y) (en' y)):
 ih m ⟨tb,en⟩ g ⟨tb,λy=>if bM (en y) f then .sl aP else en' y⟩:=by
 have u:f<m.st.length:=by rw [h.sn.len];exact h.sn.lt (f:=f) (by omega)
 have o:=(b6.1 n).1;have q:cI en aP=0:=by have:x.1=(cI en aP:Int):=h.sl.cI aP x n;omega
 have v:g.mem.length=m.mem.length:=by
  have J:=hi.sn.len;have K:=h.sn.len;simp_all
 have U:∀k,ar g.st k=if k=f then 0 else ar m.st k:=λk=>by rw [b];exact fY u
 refine ⟨rfl,by rw [b],by rw [b],by rw [b],by rw [b],v,by rw [b];simp,λk=>?_,λy l=>?_,λk hk=>by simp_all,λy l=>?_⟩
 grind
 by_cases c:bM (en y) f=true;obtain ⟨w,r,e⟩:=eX.1 c;simp_all;simp_all;by_cases c:bM (en y) f=true;obtain ⟨w,r,e⟩:=eX.1 c;simp only [ay c];simp only [cS,e,b];simp_all;simp only [au c];cases d:en y with
 |no=>
  have:=j y;rw [d] at this;have this:en' y=.no:=this;rw [this];rfl
 |sl i=>
  have:=j y;rw [d] at this;have this:en' y=.sl i:=this;rw [this];simp only [cS,b];rw [qk o,au];rintro rfl;exact xO q l d
 |pg k w r=>
  have:=j y;rw [d] at this;obtain ⟨w',W,e,_⟩:=this;rw [e];simp only [cS,b];apply C;have h5:=(h.eo.pg y l k w r d).1;exact h.i1 (by omega)
structure Sm (m:M) (g:G) (b:M) (g':G):Prop where
 bc:∀s,bc b.ah s=bc m.ah s
 g6:∀s,(aB b.ah s).1=(aB m.ah s).1
 aH:b.aH=m.aH
 aq:b.aq=m.aq
 next:b.next=m.next
 len:b.mem.length=m.mem.length
 j3:b.az.length=m.az.length
 NS:∀k,ar b.st k=5->ar m.st k=5
 dW:∀k v,1<=v->v<=4->ar m.st k=v->ar b.st k=v
 new:∀k v,1<=v->v<=3->ar b.st k=v->ar m.st k=v
 en:∀y,y<256->cL (g.en y) (g'.en y)\/∃f w r j,g.en y=.pg f w r/\g'.en y=.sl j/\ar b.st f≠5
 off:∀k,ar m.st k=2\/ar m.st k=3->row b.mem k=row m.mem k
 cS:∀y,y<256->cS b (g'.en y)=cS m (g.en y)
 qO:∀x,x<84->g.tb x≠none->g'.tb x=g.tb x
theorem Sm.refl (m:M) (g:G):Sm m g m g:=⟨λ_=>rfl,λ_=>rfl,rfl,rfl,rfl,rfl,rfl,λ_ h=>h,λ_ _ _ _ h=>h,λ_ _ _ _ h=>h,λy _=>.inl (oU _),λ_ _=>rfl,λ_ _=>rfl,λ_ _ _=>rfl⟩
theorem Sm.trans {m q J:M} {g D I:G} (d:Sm m g q D) (l:Sm q D J I):Sm m g J I:=by
 refine ⟨λs=>(l.bc s).trans (d.bc s),λs=>(l.g6 s).trans (d.g6 s),l.aH.trans d.aH,l.aq.trans d.aq,l.next.trans d.next,l.len.trans d.len,l.j3.trans d.j3,λk h=>d.NS k (l.NS k h),λk v a b h=>l.dW k v a b (d.dW k v a b h),λk v a b h=>d.new k v a b (l.new k v a b h),λy n=>?_,λk hk=>?_,λy n=>(l.cS y n).trans (d.cS y n),λx z u=>?_⟩;rcases d.en y n with C|⟨f,w,r,j,a,b,c⟩
 rcases l.en y n with o|⟨f,w,r,j,a,b,c⟩
 exact .inl (tL C o);rw [a] at C;obtain ⟨w',K,e,_⟩:=Fc C;simp_all;rcases l.en y n with o|⟨U,w',K,W,a',O,c'⟩
 rw [b] at o;exact .inr ⟨f,w,r,j,a,o,λe=>c (l.NS f e)⟩;simp_all;have:ar q.st k=2\/ar q.st k=3:=hk.elim (λe=>.inl (d.dW k 2 (by omega) (by omega) e)) (λe=>.inr (d.dW k 3 (by omega) (by omega) e));rw [l.off k this,d.off k hk];rw [l.qO x z (by rw [d.qO x z u];exact u),d.qO x z u]
theorem ih.sm {m n:M} {g g':G} {z:Nat} (h:ih m g n g') (hi:ao m g z):Sm m g n g':=by
 refine ⟨λs=>by rw [h.ah],λs=>by rw [h.ah],h.aH,h.aq,h.next,h.len,h.j3,λk hk=>?_,λk v a b hk=>?_,λk v a b hk=>?_,λy o=>?_,λk hk=>?_,h.cS,λx _ _=>by rw [h.tb]⟩;rcases h.st k with e|⟨e,d⟩<;>omega
 rcases h.st k with e|⟨e,d⟩<;>omega
 rcases h.st k with e|⟨e,d⟩<;>omega
 rcases h.en y o with l|⟨f,w,r,j,a,b,c⟩
 exact .inl l;simp_all;exact h.off k (hi.i1 (by omega))
def ZW {m:M} {g:G} {z f y:Nat} (h:ao m g z) (C:ar m.st f=0) (n:g.tb y=none) {mem':List (List Int)} {sp':List dp} (l:mem'.length=m.mem.length)
 (o:∀s,bc sp' s=bc m.ah s) (d:∀s,(aB sp' s).1=(aB m.ah s).1) (c:∀k,k≠f->ar m.st k≠4->row mem' k=row m.mem k):
 Sm m g {cd m f 4 with mem:=mem',ah:=sp'} ⟨bD g.tb y (some f),g.en⟩:=by
 have j:f<m.st.length:=by rw [h.sn.len];exact h.sn.lt (f:=f) (by omega)
 have D:∀k,ar (m.st.set f 4) k=if k=f then 4 else ar m.st k:=λk=>fY j
 refine ⟨o,d,rfl,rfl,rfl,l,rfl,λk hk=>?_,λk v a b hk=>?_,λk v a b hk=>?_,λy _=>.inl (oU _),λk hk=>c k (by rintro rfl;omega) (by omega),λy u=>?_,λx _ q=>bh (by rintro rfl;exact q n)⟩;have hk:ar (m.st.set f 4) k=5:=hk
 grind
 show ar (m.st.set f 4) k=v
 grind
 have hk:ar (m.st.set f 4) k=v:=hk
 grind
 show cS {cd m f 4 with mem:=mem',ah:=sp'} (g.en y)=_;cases e:g.en y with
 |no=>rfl
 |sl i=>rfl
 |pg k w r=>
  have h5:=(h.eo.pg y u k w r e).1;exact c k (by rintro rfl;omega) (by omega)
structure Sr (m:M) (g:G) (b:M) (g':G):Prop where
 bc:∀s,bc b.ah s=bc m.ah s
 g6:∀s,(aB b.ah s).1=(aB m.ah s).1
 aH:b.aH=m.aH
 aq:b.aq=m.aq
 next:b.next=m.next
 len:b.mem.length=m.mem.length
 j3:b.az.length=m.az.length
 l6:∀k v,v=2\/v=3->(ar b.st k=v↔ar m.st k=v)
 off:∀k,ar m.st k=2\/ar m.st k=3->row b.mem k=row m.mem k
 cS:∀y,y<256->cS b (g'.en y)=cS m (g.en y)
theorem Sm.sr {m b:M} {g g':G} (h:Sm m g b g'):Sr m g b g':=
 ⟨h.bc,h.g6,h.aH,h.aq,h.next,h.len,h.j3,λk v c=>⟨λe=>h.new k v (by omega) (by omega) e,λe=>h.dW k v (by omega) (by omega) e⟩,h.off,h.cS⟩
theorem Sr.refl (m:M) (g:G):Sr m g m g:=(Sm.refl m g).sr
theorem Sr.trans {m j l:M} {g d e:G} (b:Sr m g j d) (c:Sr j d l e):Sr m g l e:=
 ⟨λs=>(c.bc s).trans (b.bc s),λs=>(c.g6 s).trans (b.g6 s),c.aH.trans b.aH,c.aq.trans b.aq,c.next.trans b.next,c.len.trans b.len,c.j3.trans b.j3,λk v f=>(c.l6 k v f).trans (b.l6 k v f),
  λk hk=>by rw [c.off k (hk.imp (b.l6 k 2 (.inl rfl)).2 (b.l6 k 3 (.inr rfl)).2),b.off k hk],λy h=>(c.cS y h).trans (b.cS y h)⟩
theorem afl {p q:Nat->Bool} {y:Nat}:∀n,y<n->(∀z,z≠y->p z=q z)->((List.range n).filter p).length+(if q y then 1 else 0)=((List.range n).filter q).length+(if p y then 1 else 0):=by
 intro n
 induction n with
 |zero=>intro h;omega
 |succ n e=>
  intro d b;rw [gK,iP,iP,ea,ea];by_cases c:y=n;subst c;have:(List.range y).filter p=(List.range y).filter q:=by
   apply uQ
   grind
  grind
  grind
def xN {en:Nat->E} {y:Nat} (b:y<256) (e:E) (i:Nat):cI (bD en y e) i+(if en y=.sl i then 1 else 0)=cI en i+(if e=.sl i then 1 else 0):=by
 unfold cI;have:=afl (p:=λz=>decide (bD en y e z=.sl i)) (q:=λz=>decide (en z=.sl i)) 256 b (λz c=>by simp only [bh c]);simpa using this
theorem jj.e3 {l:List cR} {en:Nat->E} (h:jj l en) {y:Nat} (f:y<256) {e:E} (b:∀i,en y≠ .sl i) (c:∀i,e≠ .sl i):jj l (bD en y e):=by
 refine ⟨h.len,λi x d=>?_,h.zero,h.held⟩;have:=xN (en:=en) f e i;rw [au (b i),au (c i)] at this;rw [h.cI i x d];omega
theorem jj.eY {l:List cR} {en:Nat->E} (h:jj l en) {y i:Nat} {x:cR} (z:y<256) (r:en y=.sl i) (g:l[i]?=some x) {e:E} (n:∀i,e≠ .sl i):
 x.1≠0/\jj (l.set i (x.1+ -1,(if x.1+ -1=0 then [] else x.2.1),())) (bD en y e):=by
 have D:=(b6.1 g).1;have C:=h.cI i x g;have q:=xN (en:=en) z e;have hi:=q i;rw [ay r,au (n i)] at hi;have o:x.1≠0:=by omega
 refine ⟨o,by rw [hr];exact h.len,λj v f=>?_,λv b d=>?_,λv b d=>?_⟩;rw [pk] at f;by_cases c:i=j
 grind
 rw [au c] at f;have u:=q j;rw [au (by simp_all),au (n j)] at u;rw [h.cI j v f];omega;rcases nJ b with b|rfl
 exact h.zero v b d;simp_all;rcases nJ b with b|rfl
 exact h.held v b d;have d:x.1+ -1≠0:=d;show (if x.1+ -1=0 then [] else x.2.1).length=4/\_;simp only [au d];exact h.held x (cz g) o
def jj.Fu {l:List cR} {en:Nat->E} (h:jj l en) {y i:Nat} {x:cR} (u:y<256) (q:∀j,en y≠ .sl j) (g:l[i]?=some x) (o:x.1≠0):
 jj (l.set i (x.1+1,x.2.1,())) (bD en y (.sl i)):=by
 have C:=(b6.1 g).1;have z:=h.cI i x g;have r:=xN (en:=en) u (.sl i);refine ⟨by rw [hr];exact h.len,λj v f=>?_,λv b d=>?_,λv b d=>?_⟩;rw [pk] at f;have n:=r j;rw [au (q j)] at n;by_cases c:i=j
 grind
 rw [au c] at f;rw [au (λe=>c (E.sl.inj e))] at n;rw [h.cI j v f];omega;rcases nJ b with b|rfl
 exact h.zero v b d;omega;rcases nJ b with b|rfl
 exact h.held v b d;exact h.held x (cz g) o
theorem FQ {e:E} {f:Nat} (h:bM e f=false) {w r:Bool}:e≠ .pg f w r:=by
 rintro rfl;simp [bM] at h
theorem jP.only {en:Nat->E} (h:jP en) {y f:Nat} {w r:Bool} (n:∀z,z<256->z≠y->bM (en z) f=false):jP (bD en y (.pg f w r)):=by
 refine ⟨λa b k u o w2 q j l c d=>?_,λa b i j l c d=>?_⟩;by_cases e:a=y<;>by_cases g:b=y
 omega;rw [e,e5] at c;rw [bh g] at d;cases c;exact absurd d (FQ (n b l g));rw [g,e5] at d;rw [bh e] at c;cases d;exact absurd c (FQ (n a j e));rw [bh e] at c;rw [bh g] at d;exact h.pg a b k u o w2 q j l c d;have e:a≠y:=by rintro rfl;simp_all
 have g:b≠y:=by rintro rfl;simp_all
 rw [bh e] at c;rw [bh g] at d;exact h.sl a b i j l c d
theorem jP.hc {en:Nat->E} (h:jP en) (y:Nat):jP (bD en y .no):=by
 refine ⟨λa b k o l w2 n g j c d=>?_,λa b i g j c d=>?_⟩;have e:a≠y:=by rintro rfl;simp_all
 have f:b≠y:=by rintro rfl;simp_all
 rw [bh e] at c;rw [bh f] at d;exact h.pg a b k o l w2 n g j c d;have e:a≠y:=by rintro rfl;simp_all
 have f:b≠y:=by rintro rfl;simp_all
 rw [bh e] at c;rw [bh f] at d;exact h.sl a b i g j c d
def ao.ago {m:M} {g:G} {z y:Nat} (h:ao m g z) (d:y<256) (b:z=84\/z=20+y/4) (c:g.en y≠ .no):ao m g 84:=by
 rcases b with rfl|rfl
 exact h;exact ⟨h.mm,h.sn,h.fr,h.kr,h.sp,h.rp,h.tx,h.nz.tz ⟨λh=>by omega,λ_=>⟨y%4,by omega,by grind⟩⟩,h.eo,h.sl,h.pg,h.ls,h.mp⟩
theorem ao.ab {m:M} {g:G} {z y f q:Nat} {w r:Bool} (h:ao m g z) (u:y<256) (o:g.en y=.pg f w r) (x:∀z,z<256->z≠y->bM (g.en z) f=false) (J:bB (bc m.ah (y/64)) (y%64)=2)
 {mem':List (List Int)} (j:Re m g mem' (bD g.en y (.pg f true true))):ao {m with mem:=mem'} ⟨g.tb,bD g.en y (.pg f true true)⟩ z:=by
 refine ⟨j.br.mm,?_,h.fr,h.kr.dv j.len (λ_=>gx) (λ_=>gx),h.sp,j.br.rp,h.tx,h.nz.dW λa d v=>?_,⟨λa d k n l b=>?_,λa d i b=>?_⟩,h.sl.e3 u (λi=>by simp_all) (λi e=>by cases e),h.pg.only x,h.ls,λk hk=>?_⟩;show eU mem'.length m.st;rw [j.len];exact h.sn;by_cases c:a=y;simp_all;simp only [bh c];exact v;by_cases c:a=y;subst c;simp only [e5] at b;cases b;obtain ⟨C,D,I⟩:=h.eo.pg a u f w r o;simp_all;simp only [bh c] at b;exact h.eo.pg a d k n l b;by_cases c:a=y;simp_all;simp only [bh c] at b;exact h.eo.sl a d i b;obtain ⟨a,n,l,d,b⟩:=h.mp k hk;by_cases c:a=y;subst c;rw [o] at b;cases b;exact ⟨a,true,true,d,by simp⟩;exact ⟨a,n,l,d,by simp only [bh c];exact b⟩
def ao.ajJ {m:M} {g:G} {z y f:Nat} {w:Bool} (h:ao m g z) (u:ar m.st f=0) (af:y<256) (ag:z=84\/z=20+y/4)
 (aj:0<bB (bc m.ah (y/64)) (y%64)) (al:w=true->bB (bc m.ah (y/64)) (y%64)=2)
 (ad:∀k w r,g.en y=.pg k w r->∃a,a<256/\a≠y/\bM (g.en a) k=true)
 {mem':List (List Int)} {sl':List cR} (X:eN mem') (D:mem'.length=m.mem.length) (ac:fs mem' m.ah ⟨g.tb,bD g.en y (.pg f w true)⟩)
 (ae:jj sl' (bD g.en y (.pg f w true))) (ak:sl'.length=m.az.length):
 ao {m with mem:=mem',st:=m.st.set f 5,bF:=dJ (m.st.set f 5),az:=sl',aD:=m.aD++[(f:Int)]} ⟨g.tb,bD g.en y (.pg f w true)⟩ 84:=by
 have C:=h.sn.lt (f:=f) (by omega);have U:=h.sn.hl (f:=f) (by omega) (by omega);have q:f<m.st.length:=by rw [h.sn.len];exact C
 have ab:∀a,a<256->bM (g.en a) f=false:=by
  intro a d;rw [qY];intro c;obtain ⟨o,n,e⟩:=eX.1 c;have:=(h.eo.pg a d f o n e).1;omega
 have I:∀k,ar (m.st.set f 5) k=if k=f then 5 else ar m.st k:=λk=>fY q
 have W:(f:Int)∉m.aD++m.bb:=by
  intro c;obtain ⟨k,e,hk⟩:=(h.ls.mem _).1 c
  grind
 refine ⟨X,?_,rfl,h.kr.dv D (λk=>e4 q u (by omega) (by omega)) (λk=>e4 q u (by omega) (by omega)),h.sp,ac,h.tx.dv λk=>e4 q u (by omega) (by omega),h.nz.set ag (λe=>by cases e),⟨λa d k o n j=>?_,λa d i j=>?_⟩,ae,h.pg.only λa d _=>ab a d,⟨?_,λv=>?_⟩,λk hk=>?_⟩;show eU mem'.length _;rw [D];exact h.sn.set U C (by omega) (by omega) (by omega);by_cases c:a=y;simp_all;simp only [bh c] at j;obtain ⟨J,K⟩:=h.eo.pg a d k o n j;simp_all;by_cases c:a=y;simp_all;simp only [bh c] at j;obtain ⟨J,K⟩:=h.eo.sl a d i j;simp_all;show (m.aD++[(f:Int)]++m.bb).Nodup;have l:(m.aD++[(f:Int)]++m.bb).Perm ((f:Int)::(m.aD++m.bb)):=by
  simp_all
 rw [l.nodup_iff,jh];exact ⟨W,h.ls.b7⟩;show v∈m.aD++[(f:Int)]++m.bb↔_;have l:(m.aD++[(f:Int)]++m.bb).Perm ((f:Int)::(m.aD++m.bb)):=by
  simp_all
 rw [l.mem_iff,el,h.ls.mem v];constructor;rintro (rfl|⟨k,e,hk⟩)
 grind
 exact ⟨k,e,by simp_all⟩;rintro ⟨k,e,hk⟩;have hk:ar (m.st.set f 5) k=5:=hk;rw [I] at hk
 grind
 have hk:ar (m.st.set f 5) k=5:=hk;rw [I] at hk;by_cases c:k=f;subst c;exact ⟨y,w,true,af,by simp⟩;rw [au c] at hk;obtain ⟨a,o,n,d,j⟩:=h.mp k hk;by_cases x:a=y;subst x;obtain ⟨b,O,aa,l⟩:=ad k o n j;obtain ⟨w2,ai,l⟩:=eX.1 l;exact ⟨b,w2,ai,O,by simp only [bh aa];exact l⟩;exact ⟨a,o,n,d,by simp only [bh x];exact j⟩
structure sE (sp sp':List dp):Prop where
 len:sp'.length=4
 fl:∀s,s<4->(aB sp' s).2.1=(aB sp s).2.1
 g6:∀s,s<4->(aB sp' s).1=(aB sp s).1
theorem sE.refl {sp:List dp} (h:sp.length=4):sE sp sp:=⟨h,λ_ _=>rfl,λ_ _=>rfl⟩
theorem cb.cL {m:M} {g:G} {sp0:List dp} (h:cb {m with ah:=sp0} g) (b:sE sp0 m.ah):cb m g:=
 ⟨⟨h.mm,b.len,⟨λs c=>(b.fl s c).trans (h.rp.fl s c),h.rp.c8,h.rp.leaf,h.rp.cU,h.rp.hB⟩,h.lt,h.inj⟩,h.ok⟩
def anW {st:List Int} {f k:Nat} {v:Int} (b:f<st.length) (c:v≠0):ar (st.set f 0) k=v↔k≠f/\ar st k=v:=by
 rw [fY b];omega
def ao.aaa {m:M} {g:G} {z f y:Nat} (h:ao m g z) (n:y<84) (q:g.tb y=some f) {mem':List (List Int)} {sp':List dp} {C:Nat}
 (I:eN mem') (x:mem'.length=m.mem.length) (U:JT sp') (K:∀s,bc sp' s=bc m.ah s) (O:fs mem' sp' ⟨bD g.tb y none,g.en⟩) (J:NZ (bD g.tb y none) g.en C):
 ao {dQ m f with mem:=mem',ah:=sp'} ⟨bD g.tb y none,g.en⟩ C:=by
 have l:ar m.st f=4:=(h.tx.ga f).2 ⟨y,n,q⟩;have u:=h.sn.lt (f:=f) (by omega);have D:=h.sn.hl (f:=f) (by omega) (by omega);have d:f<m.st.length:=by rw [h.sn.len];exact u
 refine ⟨I,?_,rfl,h.kr.dv x (λk=>e4 d l (by omega) (by omega)) (λk=>e4 d l (by omega) (by omega)),U,O,h.tx.oG n q d,J,⟨λy n k w r o=>?_,λy n j o=>?_⟩,h.sl,h.pg,⟨h.ls.b7,λv=>?_⟩,λk hk=>?_⟩;show eU mem'.length _;rw [x];exact h.sn.set D u (by omega) (by omega) (by omega);obtain ⟨a,b,c⟩:=h.eo.pg y n k w r o;refine ⟨(e4 d l (by omega) (by omega)).2 a,?_⟩;simp_all;show _/\0<bB (bc sp' _) _;rw [K];exact h.eo.sl y n j o;show v∈m.aD++m.bb↔_;rw [h.ls.mem v];constructor;rintro ⟨k,e,hk⟩;exact ⟨k,e,(e4 d l (by omega) (by omega)).2 hk⟩;rintro ⟨k,e,hk⟩;exact ⟨k,e,(e4 d l (by omega) (by omega)).1 hk⟩;exact h.mp k ((e4 d l (by omega) (by omega)).1 hk)
theorem ao.UF {m:M} {g:G} {x k p f:Nat} (h:ao m g (4*x+4+k)) (l:x<20) (hk:k<4) (e:g.tb x=some p) (d:g.tb (4*x+4+k)=some f) (n:∀j,j<4->bU m.mem f j=0):
 ao {dQ m f with mem:=cy m.mem p k 0} ⟨bD g.tb (4*x+4+k) none,g.en⟩ x:=by
 have c:=cb.of h;have b:=c.lt x p (by omega) e;exact h.aaa (sp':=m.ah) (by omega) d (h.mm.cy b ⟨by omega,by omega⟩) jw h.sp (λ_=>rfl) (h.rp.cut c.inj l hk e d n b (h.mm.row b).1) (h.nz.cut l hk)
theorem ao.afo {m:M} {g:G} {s f:Nat} (h:ao m g s) (l:s<4) (n:g.tb s=some f) (r:∀j,j<4->bU m.mem f j=0):
 ao {dQ m f with ah:=m.ah.set s ((aB m.ah s).1,-1,(aB m.ah s).2.2)} ⟨bD g.tb s none,g.en⟩ 84:=by
 have q:s<m.ah.length:=by rw [h.sp.len];exact l
 have o:∀t,aB (m.ah.set s ((aB m.ah s).1,-1,(aB m.ah s).2.2)) t=if t=s then ((aB m.ah s).1,-1,(aB m.ah s).2.2) else aB m.ah t:=λt=>j4 q
 have e:∀t,bc (m.ah.set s ((aB m.ah s).1,-1,(aB m.ah s).2.2)) t=bc m.ah t:=by
  intro t;unfold bc
  grind
 refine h.aaa (by omega) n h.mm rfl ⟨by rw [hr];exact h.sp.len,λt d=>by rw [e];exact h.sp.gW t d,λt d b=>?_⟩ e ?_ (h.nz.Ll l);rw [o] at b|-;rw [e];split at b;rename_i c;subst c;rw [ay rfl];exact ⟨rfl,(h.sp.gR t d b).2⟩;rename_i c;rw [au c];exact h.sp.gR t d b;refine h.rp.Ll l n r (λt _=>?_)
 grind
theorem AB.hc {en:Nat->E} {st:List Int} {sp:List dp} {n:Nat} (h:AB en st sp n) (y:Nat) {st':List Int} {e:Nat} (g:∀a,a<256->a≠y->∀k w r,en a=.pg k w r->ar st' k=5) (f:e=n):AB (bD en y .no) st' sp e:=by
 subst f;refine ⟨λa d k w r b=>?_,λa d i b=>?_⟩;have c:a≠y:=by rintro rfl;simp_all
 rw [bh c] at b;exact ⟨g a d c k w r b,(h.pg a d k w r b).2⟩;have c:a≠y:=by rintro rfl;simp_all
 rw [bh c] at b;exact h.sl a d i b
def ao.afy {m:M} {g:G} {y i:Nat} {x:cR} (h:ao m g 84) (n:y<256) (d:g.en y=.sl i) (l:m.az[i]?=some x) {mem':List (List Int)} (b:Re m g mem' (bD g.en y .no)):
 x.1≠0/\ao {m with mem:=mem',az:=m.az.set i (x.1+ -1,(if x.1+ -1=0 then [] else x.2.1),())} ⟨g.tb,bD g.en y .no⟩ (20+y/4):=by
 obtain ⟨f,j⟩:=h.sl.eY (e:=.no) n d l (λi e=>by cases e);refine ⟨f,b.br.mm,?_,h.fr,h.kr.dv b.len (λ_=>gx) (λ_=>gx),h.sp,b.br.rp,h.tx,h.nz.Nl (.inl rfl),h.eo.hc y (λa c _ k w r e=>(h.eo.pg a c k w r e).1) (by simp),j,h.pg.hc y,h.ls,λk hk=>?_⟩;show eU mem'.length m.st;rw [b.len];exact h.sn;obtain ⟨a,w,r,c,e⟩:=h.mp k hk;have:a≠y:=by grind
 exact ⟨a,w,r,c,by simp only [bh this];exact e⟩
def ao.afx {m:M} {g:G} {y f a:Nat} {w r:Bool} (h:ao m g 84) (u:y<256) (q:g.en y=.pg f w r) (j:a<256) (n:a≠y) (l:bM (g.en a) f=true) {mem':List (List Int)} (d:Re m g mem' (bD g.en y .no)):
 ao {m with mem:=mem'} ⟨g.tb,bD g.en y .no⟩ (20+y/4):=by
 refine ⟨d.br.mm,?_,h.fr,h.kr.dv d.len (λ_=>gx) (λ_=>gx),h.sp,d.br.rp,h.tx,h.nz.Nl (.inl rfl),h.eo.hc y (λa j _ k w r e=>(h.eo.pg a j k w r e).1) rfl,h.sl.e3 u (λi=>by simp_all) (λi e=>by cases e),h.pg.hc y,h.ls,λk hk=>?_⟩;show eU mem'.length m.st;rw [d.len];exact h.sn;obtain ⟨b,w',v,o,e⟩:=h.mp k hk;by_cases c:b=y;subst c;rw [q] at e;cases e;obtain ⟨w2,x,l⟩:=eX.1 l;exact ⟨a,w2,x,j,by simp only [bh n];exact l⟩;exact ⟨b,w',v,o,by simp only [bh c];exact e⟩
def ao.afw {m:M} {g:G} {y f:Nat} {w r:Bool} (h:ao m g 84) (z:y<256) (J:g.en y=.pg f w r) (O:∀a,a<256->a≠y->bM (g.en a) f=false) {mem':List (List Int)} (j:Re m g mem' (bD g.en y .no)):
 ao {m with mem:=mem',st:=m.st.set f 0,bF:=dJ (m.st.set f 0),aD:=m.aD.filter (λx=>x !=(f:Int)),bb:=m.bb.filter (λx=>x !=(f:Int))} ⟨g.tb,bD g.en y .no⟩ (20+y/4):=by
 have l:=(h.eo.pg y z f w r J).1;have q:=h.sn.lt (f:=f) (by omega);have K:=h.sn.hl (f:=f) (by omega) (by omega);have d:f<m.st.length:=by rw [h.sn.len];exact q
 have u:∀k,ar (m.st.set f 0) k=5↔k≠f/\ar m.st k=5:=λk=>anW d (by omega)
 refine ⟨j.br.mm,?_,rfl,h.kr.dv j.len (λk=>e4 d l (by omega) (by omega)) (λk=>e4 d l (by omega) (by omega)),h.sp,j.br.rp,h.tx.dv λk=>e4 d l (by omega) (by omega),h.nz.Nl (.inl rfl),h.eo.hc y (λa o D k w' n e=>(u k).2 ⟨?_,(h.eo.pg a o k w' n e).1⟩) rfl,h.sl.e3 z (λi=>by simp_all) (λi e=>by cases e),h.pg.hc y,⟨?_,λv=>?_⟩,λk hk=>?_⟩;show eU mem'.length _;rw [j.len];exact h.sn.set K q (by omega) (by omega) (by omega);rintro rfl;exact FQ (O a o D) e;show (m.aD.filter _++m.bb.filter _).Nodup;rw [<-iP];exact nD _ h.ls.b7;show v∈m.aD.filter _++m.bb.filter _↔_;rw [<-iP,gy,h.ls.mem v]
 grind
 obtain ⟨U,C⟩:=(u k).1 hk;obtain ⟨b,w',n,I,e⟩:=h.mp k C;have c:b≠y:=by
  grind
 exact ⟨b,w',n,I,by simp only [bh c];exact e⟩
def ao.yw {m:M} {g:G} {z s:Nat} {rg:List cx} (h:ao m g z) (v:s<4) (u:hz rg) (C:(aB m.ah s).1=true)
 (D:∀p,p<64->∀f w r,g.en (64*s+p)=.pg f w r->0<bB rg p/\(w=true->bB rg p=2)) (x:∀p,p<64->∀i,g.en (64*s+p)=.sl i->0<bB rg p):
 ao {m with ah:=m.ah.set s ((aB m.ah s).1,(aB m.ah s).2.1,rg,())} g z:=by
 have q:s<m.ah.length:=by rw [h.sp.len];exact v
 have o:∀t,aB (m.ah.set s ((aB m.ah s).1,(aB m.ah s).2.1,rg,())) t=if t=s then ((aB m.ah s).1,(aB m.ah s).2.1,rg,()) else aB m.ah t:=λt=>j4 q
 have l:∀t,bc (m.ah.set s ((aB m.ah s).1,(aB m.ah s).2.1,rg,())) t=if t=s then rg else bc m.ah t:=λt=>by
  unfold bc;grind
 refine ⟨h.mm,h.sn,h.fr,h.kr,⟨by rw [hr];exact h.sp.len,λt d=>?_,λt d e=>?_⟩,⟨λt d=>?_,h.rp.c8,h.rp.leaf,h.rp.cU,h.rp.hB⟩,h.tx,h.nz,⟨λy n f w r j=>?_,λy n i j=>?_⟩,h.sl,h.pg,h.ls,h.mp⟩;rw [l];split;exact u;exact h.sp.gW t d;rw [o] at e|-;rw [l];by_cases c:t=s;simp_all;rw [au c] at e|-;rw [au c];exact h.sp.gR t d e;show (aB (m.ah.set s _) t).2.1=_;rw [o];split;rename_i c;subst c;exact h.rp.fl t d;exact h.rp.fl t d;obtain ⟨a,b⟩:=h.eo.pg y n f w r j
 grind
 obtain ⟨a,b⟩:=h.eo.sl y n i j;refine ⟨a,?_⟩;show 0<bB (bc (m.ah.set s _) _) _;rw [l];by_cases c:y/64=s;rw [ay c];exact x (y%64) (by omega) i (by grind);simp_all
def cT (mk:Nat->Int):Nat->List cx×Option cx
 |0=>([],none)
 |p+1=>if mk p=0 then ((cT mk p).1++(cT mk p).2.toList,none) else match (cT mk p).2 with
  |some r=>if mk (p-1)=mk p then ((cT mk p).1,some (r.1,((p+1:Nat):Int),r.2.2)) else ((cT mk p).1++[r],some ((p:Int),((p+1:Nat):Int),(mk p==2),()))
  |none=>((cT mk p).1,some ((p:Int),((p+1:Nat):Int),(mk p==2),()))
def fm (mk:Nat->Int) (p:Nat):List cx:=(cT mk p).1++(cT mk p).2.toList
theorem Xl (l:List cx) (r:cx) (p:Nat):bB (l++[r]) p=if r.1<=(p:Int)/\(p:Int)<r.2.1 then (if r.2.2.1 then 2 else 1) else bB l p:=by
 unfold bB;simp_all
theorem Nh:∀(l:List cx) (r:cx),ns l->(∀q,l.getLast?=some q->F7 q r)->ns (l++[r])
 |[],r,_,_=>trivial
 |[a],r,_,h=>⟨h a rfl,trivial⟩
 |a::b::l,r,h,c=>⟨h.1,Nh (b::l) r h.2 (λq d=>c q (by simp_all))⟩
def Xd:∀(l:List cx) (r:cx),ns (l++[r])->ns l/\∀q,l.getLast?=some q->F7 q r
 |[],r,_=>⟨trivial,(λq c=>by cases c)⟩
 |[a],r,h=>⟨trivial,λq c=>by cases c;exact h.1⟩
 |a::b::l,r,h=>by
  obtain ⟨d,e⟩:=Xd (b::l) r h.2;exact ⟨⟨h.1,d⟩,λq c=>e q (by simp_all)⟩
theorem Lx {mk:Nat->Int} (aa:∀p,mk p=0\/mk p=1\/mk p=2):∀p,(∀r∈fm mk p,0<=r.1/\r.1<r.2.1/\r.2.1<=p)/\ns (fm mk p)/\
 (∀r,(cT mk p).2=some r->r.2.1=p/\0<p/\mk (p-1)≠0/\r.2.2.1=(mk (p-1)==2))/\((cT mk p).2=none->∀r∈fm mk p,r.2.1<p)/\(∀q,bB (fm mk p) q=if q<p then mk q else 0)/\(0<p->mk (p-1)≠0->(cT mk p).2≠none)/\(fm mk p).length<=p:=by
 intro p
 induction p with
 |zero=>exact ⟨(λr d=>by cases d),trivial,(λr d=>by cases d),(λ_ r d=>by cases d),λq=>rfl,(λh=>by omega),by simp [fm,cT]⟩
 |succ p I=>
  obtain ⟨u,n,C,ab,o,ac,D⟩:=I;by_cases c:mk p=0;have e:cT mk (p+1)=(fm mk p,none):=by unfold cT;rw [ay c];rfl
  have f:fm mk (p+1)=fm mk p:=by unfold fm at e|-;rw [e];simp
  rw [f,e]
  grind
  have v:∀(l:List cx),l=fm mk p->(∀q,l.getLast?=some q->q.2.1=(p:Int)->q.2.2.1≠(mk p==2))->cT mk (p+1)=(l,some ((p:Int),((p+1:Nat):Int),(mk p==2),()))->
   (∀r∈fm mk (p+1),0<=r.1/\r.1<r.2.1/\r.2.1<=((p+1:Nat):Int))/\ns (fm mk (p+1))/\
   (∀r,(cT mk (p+1)).2=some r->r.2.1=((p+1:Nat):Int)/\0<p+1/\mk (p+1-1)≠0/\r.2.2.1=(mk (p+1-1)==2))/\((cT mk (p+1)).2=none->∀r∈fm mk (p+1),r.2.1<((p+1:Nat):Int))/\(∀q,bB (fm mk (p+1)) q=if q<p+1 then mk q else 0)/\(0<p+1->mk (p+1-1)≠0->(cT mk (p+1)).2≠none)/\(fm mk (p+1)).length<=p+1:=by
   intro l x y e;have f:fm mk (p+1)=l++[((p:Int),((p+1:Nat):Int),(mk p==2),())]:=by unfold fm;rw [e];rfl
   rw [f,e];subst x;refine ⟨λr d=>?_,Nh _ _ n λq b=>⟨?_,y q b⟩,λr d=>?_,(λh=>by cases h),λq=>?_,(λ_ _ h=>by cases h),by grind⟩
   grind
   grind
   grind
   rw [Xl,o]
   grind
  cases j:(cT mk p).2 with
  |none=>
   have g:fm mk p=(cT mk p).1:=by unfold fm;rw [j];simp
   refine v (cT mk p).1 g.symm (λq b z=>?_) ?_
   grind
   ·conv=>lhs;unfold cT
    rw [au c,j]
  |some r=>
   obtain ⟨O,U,a3,a4⟩:=C r j;have g:fm mk p=(cT mk p).1++[r]:=by unfold fm;rw [j];rfl
   by_cases W:mk (p-1)=mk p
   ·have e:cT mk (p+1)=((cT mk p).1,some (r.1,((p+1:Nat):Int),r.2.2)):=by
     conv=>lhs;unfold cT
     grind
    have f:fm mk (p+1)=(cT mk p).1++[(r.1,((p+1:Nat):Int),r.2.2)]:=by unfold fm;rw [e];rfl
    rw [g] at u n o D;obtain ⟨J,K⟩:=Xd _ _ n;have X:=u r (by simp);rw [f,e];refine ⟨λq b=>?_,Nh _ _ J λq b=>K q b,λq b=>?_,(λh=>by cases h),λq=>?_,(λ_ _ h=>by cases h),by grind⟩
    grind
    grind
    have:=o q;rw [Xl] at this|-
    grind
   refine v ((cT mk p).1++[r]) g.symm (λq b z=>?_) ?_
   grind
   ·conv=>lhs;unfold cT
    grind
theorem ao.spawn {m:M} {g:G} {z s:Nat} (h:ao m g z) (l:s<4) (x:(aB m.ah s).1=false):ao {m with ah:=m.ah.set s (true,-1,[],())} g z:=by
 have C:s<m.ah.length:=by rw [h.sp.len];exact l
 obtain ⟨u,v⟩:=h.sp.gR s l x;have n:∀t,aB (m.ah.set s (true,-1,[],())) t=if t=s then (true,-1,[],()) else aB m.ah t:=λt=>j4 C
 have q:∀t,bc (m.ah.set s (true,-1,[],())) t=bc m.ah t:=λt=>by
  unfold bc;rw [n];split;rename_i c;rw [c];exact v.symm;rfl
 refine ⟨h.mm,h.sn,h.fr,h.kr,⟨by rw [hr];exact h.sp.len,λt d=>by rw [q];exact h.sp.gW t d,λt d e=>?_⟩,⟨λt d=>?_,h.rp.c8,h.rp.leaf,h.rp.cU,h.rp.hB⟩,h.tx,h.nz,⟨λy o f w r j=>?_,λy o i j=>?_⟩,h.sl,h.pg,h.ls,h.mp⟩;rw [n] at e|-;rw [q];by_cases c:t=s;simp_all;rw [au c] at e|-;exact h.sp.gR t d e;show (aB (m.ah.set s _) t).2.1=_;rw [n];split;rename_i c;rw [c,<-h.rp.fl s l,u];exact h.rp.fl t d;obtain ⟨a,b⟩:=h.eo.pg y o f w r j;simp_all;obtain ⟨a,b⟩:=h.eo.sl y o i j;simp_all
def ao.aia {m:M} {g:G} {s:Nat} (h:ao m g 84) (n:s<4) (f:∀p,p<64->g.en (64*s+p)=.no):g.tb s=none:=by
 apply hN;intro c;obtain ⟨b,_⟩:=h.nz s (by omega) (by omega) c;obtain ⟨k,hk,d⟩:=b (by omega);obtain ⟨e,_⟩:=h.nz (4*s+4+k) (by omega) (by omega) d;obtain ⟨j,l,h4⟩:=e (by omega);obtain ⟨_,h5⟩:=h.nz (4*(4*s+4+k)+4+j) (by omega) (by omega) h4;obtain ⟨i,hi,h6⟩:=h5 (by omega);apply h6;have:=f (16*k+4*j+i) (by omega)
 grind
theorem ao.aw {m:M} {g:G} {s:Nat} (h:ao m g 84) (q:s<4) (n:∀p,p<64->g.en (64*s+p)=.no):ao {m with ah:=m.ah.set s (false,-1,[],())} g 84:=by
 have v:s<m.ah.length:=by rw [h.sp.len];exact q
 have z:=h.aia q n;have u:∀t,aB (m.ah.set s (false,-1,[],())) t=if t=s then (false,-1,[],()) else aB m.ah t:=λt=>j4 v
 have o:∀t,bc (m.ah.set s (false,-1,[],())) t=if t=s then [] else bc m.ah t:=λt=>by
  unfold bc;grind
 have C:∀y,y<256->g.en y≠ .no->y/64≠s:=λy e x c=>x (by
  have:=n (y%64) (by omega)
  grind)
 refine ⟨h.mm,h.sn,h.fr,h.kr,⟨by rw [hr];exact h.sp.len,λt d=>?_,λt d j=>?_⟩,⟨λt d=>?_,h.rp.c8,h.rp.leaf,h.rp.cU,h.rp.hB⟩,h.tx,h.nz,⟨λy e f w r l=>?_,λy e i l=>?_⟩,h.sl,h.pg,h.ls,h.mp⟩;rw [o];split;exact ⟨by simp,by simp,trivial⟩;exact h.sp.gW t d;rw [u] at j|-;rw [o];by_cases c:t=s;simp_all;rw [au c] at j|-;rw [au c];exact h.sp.gR t d j;show (aB (m.ah.set s _) t).2.1=_;rw [u];split;rename_i c;rw [c,z];rfl;exact h.rp.fl t d;obtain ⟨a,b⟩:=h.eo.pg y e f w r l;simp_all;obtain ⟨a,b⟩:=h.eo.sl y e i l;simp_all
def ao.agb {m:M} {g:G} {z a b i:Nat} {x:cR} (h:ao m g z) (K:a<256) (O:b<256) (U:g.en a=.sl i) (al:g.en b=.no) (ai:a%64=b%64) (ae:z=84\/z=20+b/4) (q:m.az[i]?=some x)
 (ak:0<bB (bc m.ah (b/64)) (b%64)) {mem':List (List Int)} (n:Re m g mem' (bD g.en b (.sl i))):
 x.1≠0/\ao {m with mem:=mem',az:=m.az.set i (x.1+1,x.2.1,())} ⟨g.tb,bD g.en b (.sl i)⟩ 84:=by
 have I:x.1≠0:=by
  have d:=h.sl.cI i x q;intro ag;exact xO (en:=g.en) (i:=i) (by omega) K U
 have aj:=(b6.1 q).1;refine ⟨I,n.br.mm,?_,h.fr,h.kr.dv n.len (λ_=>gx) (λ_=>gx),h.sp,n.br.rp,h.tx,h.nz.set ae (λe=>by cases e),⟨λy f k w r d=>?_,λy f j d=>?_⟩,h.sl.Fu O (λj=>by simp_all) q I,⟨λy o k w r w2 af f C d l=>?_,λy o j f C d l=>?_⟩,h.ls,λk hk=>?_⟩;show eU mem'.length m.st;rw [n.len];exact h.sn;have c:y≠b:=by rintro rfl;simp_all
 simp only [bh c] at d;exact h.eo.pg y f k w r d;show j<(m.az.set i _).length/\_;rw [hr];by_cases c:y=b;simp_all;simp only [bh c] at d;exact h.eo.sl y f j d;have c:y≠b:=by rintro rfl;simp_all
 have J:o≠b:=by rintro rfl;simp_all
 simp only [bh c] at d;simp only [bh J] at l;exact h.pg.pg y o k w r w2 af f C d l;have key:∀y,y<256->∀j,bD g.en b (.sl i) y=.sl j->∃D,D<256/\D%64=y%64/\g.en D=.sl j:=λy f j d=>by
  by_cases c:y=b;subst c;rw [e5] at d;grind;rw [bh c] at d;grind
 obtain ⟨u,W,aa,X⟩:=key y f j d;obtain ⟨v,ab,ad,ac⟩:=key o C j l;rw [<-aa,<-ad];exact h.pg.sl u v j W ab X ac;obtain ⟨y,w,r,f,e⟩:=h.mp k hk;have c:y≠b:=by grind
 exact ⟨y,w,r,f,by simp only [bh c];exact e⟩
def ao.aga {m:M} {g:G} {z a b f:Nat} {w r:Bool} (h:ao m g z) (W:a<256) (ag:b<256) (O:g.en a=.pg f w r) (aj:g.en b=.no) (a0:a%64=b%64) (ax:z=84\/z=20+b/4)
 (a2:0<bB (bc m.ah (b/64)) (b%64)) {mem':List (List Int)} (J:Re m g mem' (bD (bD g.en a (.pg f false r)) b (.pg f false false))):
 ao {m with mem:=mem'} ⟨g.tb,bD (bD g.en a (.pg f false r)) b (.pg f false false)⟩ 84:=by
 have al:a≠b:=by grind
 have key:∀y,y<256->∀k w' q,bD (bD g.en a (.pg f false r)) b (.pg f false false) y=.pg k w' q->∃I w2 D,I<256/\I%64=y%64/\g.en I=.pg k w2 D/\(w'=true->I=y/\w2=true)/\(k=f->w'=false):=λy n k w' q l=>by
  by_cases c:y=b;subst c;rw [e5] at l;grind;rw [bh c] at l;by_cases o:y=a;subst o;rw [e5] at l;grind;rw [bh o] at l;refine ⟨y,w',q,n,rfl,l,λe=>⟨rfl,e⟩,λe=>?_⟩;subst e;exact (h.pg.pg y a k w' q w r n W l O).2 o
 have U:∀y,∀j,bD (bD g.en a (.pg f false r)) b (.pg f false false) y=.sl j->g.en y=.sl j:=λy j l=>by
  have c:y≠b:=by rintro rfl;simp_all
  rw [bh c] at l;have o:y≠a:=by rintro rfl;simp_all
  rwa [bh o] at l
 refine ⟨J.br.mm,?_,h.fr,h.kr.dv J.len (λ_=>gx) (λ_=>gx),h.sp,J.br.rp,h.tx,(h.nz.dW (en':=bD g.en a (.pg f false r)) λy n ak=>?_).set ax (λe=>by cases e),⟨λy n k w' q l=>?_,λy n j l=>h.eo.sl y n j (U y j l)⟩,(h.sl.e3 W (λi=>by simp_all) (λi e=>by cases e)).e3 ag (λi=>by rw [bh al.symm,aj];simp_all) (λi e=>by cases e),⟨λy x k w' q w2 D n K l C=>?_,λy x j n K l C=>h.pg.sl y x j n K (U y j l) (U x j C)⟩,h.ls,λk hk=>?_⟩;show eU mem'.length m.st;rw [J.len];exact h.sn;by_cases c:y=a;simp_all;rw [bh c];exact ak;have az:=l;obtain ⟨I,w2,D,aw,a7,e,a6,_⟩:=key y n k w' q l;have h5:=(h.eo.pg I aw k w2 D e).1;refine ⟨h5,?_⟩;by_cases c:y=b;simp_all;simp only [bh c] at l;by_cases o:y=a;subst o;simp only [e5] at l;cases l;exact ⟨(h.eo.pg y n f w r O).2.1,λe=>by cases e⟩;simp only [bh o] at l;exact (h.eo.pg y n k w' q l).2;obtain ⟨u,X,ab,an,a3,ap,av,ai⟩:=key y n k w' q l;obtain ⟨v,aa,ac,aq,a5,ar,_,a1⟩:=key x K k w2 D C;obtain ⟨a8,a9⟩:=h.pg.pg u v k X ab aa ac an aq ap ar;refine ⟨by omega,λam=>?_⟩;by_cases ad:k=f;exact ai ad;cases au:w';rfl;obtain ⟨af,ay⟩:=av au;by_cases a4:u=v
 ·
  exfalso;subst af;by_cases c:x=b;simp_all;simp only [bh c] at C;by_cases o:x=a;simp_all;simp only [bh o] at C;by_cases d:u=b;simp_all;simp only [bh d] at l;by_cases ae:u=a;simp_all;simp only [bh ae] at l;have:=(h.pg.pg u x k w' q w2 D n K l C).2 am;simp_all
 simp_all;obtain ⟨y,w',q,n,e⟩:=h.mp k hk;have c:y≠b:=by grind
 by_cases o:y=a;subst o;rw [O] at e;cases e;exact ⟨y,false,r,n,by simp only [bh c,e5]⟩;exact ⟨y,w',q,n,by simp only [bh c,bh o];exact e⟩
def E.mv (t:Nat):E->E
 | .pg _ w r=>.pg t w r
 |e=>e
def hE (en:Nat->E) (f t:Nat):Nat->E:=λy=>if bM (en y) f then (en y).mv t else en y
def eR (f t:Nat) (x:Int):Int:=if x=(f:Int) then (t:Int) else x
def yi (m:M) (mem':List (List Int)) (f t:Nat):M:=
 {m with mem:=mem'.set t (row m.mem f),st:=(m.st.set t 5).set f 0,bF:=dJ ((m.st.set t 5).set f 0),aD:=m.aD.map (eR f t),bb:=m.bb.map (eR f t)}
def Ms {en:Nat->E} {f t y k:Nat} {w r:Bool} (h:hE en f t y=.pg k w r):(k=t/\en y=.pg f w r)\/(k≠f/\en y=.pg k w r):=by
 unfold hE at h;by_cases c:bM (en y) f=true;rw [ay c] at h;obtain ⟨w',b,e⟩:=eX.1 c;rw [e] at h|-;cases h;simp_all;rw [au c] at h;refine .inr ⟨?_,h⟩;rintro rfl;exact c (eX.2 ⟨w,r,h⟩)
def Fv {en:Nat->E} {f t y i:Nat}:hE en f t y=.sl i↔en y=.sl i:=by
 unfold hE;by_cases c:bM (en y) f=true;rw [ay c];obtain ⟨w',b,e⟩:=eX.1 c;rw [e];constructor<;>intro h<;>cases h
 rw [au c]
def ahU {en:Nat->E} {f t y:Nat}:hE en f t y=.no↔en y=.no:=by
 unfold hE;by_cases c:bM (en y) f=true;rw [ay c];obtain ⟨w',b,e⟩:=eX.1 c;rw [e];constructor<;>intro h<;>cases h
 rw [au c]
theorem V4 {en:Nat->E} {f t y k:Nat} {w r:Bool} (h:en y=.pg k w r):hE en f t y=.pg (if k=f then t else k) w r:=by
 unfold hE;rw [h];by_cases c:k=f;subst c;rw [ay (eX.2 ⟨w,r,rfl⟩),ay rfl];rfl;rw [au c,au];intro e;obtain ⟨_,_,e⟩:=eX.1 e;cases e;exact c rfl
def akr {f t:Nat} {a b:Int} (c:a≠(t:Int)) (d:b≠(t:Int)) (h:eR f t a=eR f t b):a=b:=by
 unfold eR at h;omega
def ao.move {m:M} {g:G} {z f t:Nat} {mem':List (List Int)} (h:ao m g z) (U:ar m.st f=5) (aw:ar m.st t=0) (K:Re m g mem' (hE g.en f t)):
 ao (yi m mem' f t) ⟨g.tb,hE g.en f t⟩ z:=by
 have an:f≠t:=by rintro rfl;omega
 have J:=h.sn.lt (f:=f) (by omega);have aa:=h.sn.lt (f:=t) (by omega);have ae:=h.sn.hl (f:=f) (by omega) (by omega);have ah:=h.sn.hl (f:=t) (by omega) (by omega);have am:f<m.st.length:=by rw [h.sn.len];exact J
 have ai:t<m.st.length:=by rw [h.sn.len];exact aa
 have av:∀k,ar ((m.st.set t 5).set f 0) k=if k=f then 0 else if k=t then 5 else ar m.st k:=λk=>by
  rw [fY (by simp_all),fY ai]
 have O:∀k v,v≠0->v≠5->(ar ((m.st.set t 5).set f 0) k=v↔ar m.st k=v):=by
  grind
 have h5:∀k,ar ((m.st.set t 5).set f 0) k=5↔k=t\/k≠f/\ar m.st k=5:=by
  grind
 have X:mem'.length=m.mem.length:=K.len;have ap:=h.i1 (f:=t) (by omega);have aq:∀y,y<256->∀w r,g.en y≠ .pg t w r:=λy d w r e=>by have:=(h.eo.pg y d t w r e).1;omega
 refine ⟨K.br.mm.set (h.mm.row J),?_,rfl,h.kr.dv (by simp [yi,X]) (λk=>O k 2 (by omega) (by omega)) (λk=>O k 3 (by omega) (by omega)),h.sp,K.br.rp.off λx k ax hk j _=>y4 ?_,h.tx.dv λk=>O k 4 (by omega) (by omega),h.nz.dW λy d ag e=>ag (ahU.1 e),⟨λy d k w r n=>?_,λy d j n=>h.eo.sl y d j (Fv.1 n)⟩,⟨h.sl.len,λj v af=>?_,h.sl.zero,h.sl.held⟩,⟨λy z k w r w' ab d q l I=>?_,λy z j d q l I=>h.pg.sl y z j d q (Fv.1 l) (Fv.1 I)⟩,⟨?_,λv=>?_⟩,λk hk=>?_⟩;show eU (mem'.set t _).length _;rw [hr,X];exact (h.sn.set ah aa (by omega) (by omega) (by omega)).set ae J (by omega) (by omega) (by omega)
 grind
 rcases Ms n with ⟨rfl,e⟩|⟨hk,e⟩
 obtain ⟨_,b,c⟩:=h.eo.pg y d f w r e;exact ⟨(h5 k).2 (.inl rfl),b,c⟩;obtain ⟨a,b,c⟩:=h.eo.pg y d k w r e;exact ⟨(h5 k).2 (.inr ⟨hk,a⟩),b,c⟩;show v.1=(cI (hE g.en f t) j:Int);rw [h.sl.cI j v af,Li λy d=>?_];exact Fv.symm;rcases Ms l with ⟨rfl,C⟩|⟨az,C⟩<;>rcases Ms I with ⟨al,D⟩|⟨al,D⟩
 exact h.pg.pg y z f w r w' ab d q C D
 grind
 grind
 exact h.pg.pg y z k w r w' ab d q C D;show (m.aD.map _++m.bb.map _).Nodup;rw [<-fI];unfold List.Nodup;rw [lD];refine List.Pairwise.imp_of_mem (λ{a b} ac ad o e=>o ?_) h.ls.b7;have W:∀v,v∈m.aD++m.bb->v≠(t:Int):=λv ak=>by
  obtain ⟨k,rfl,hk⟩:=(h.ls.mem v).1 ak
  grind
 exact akr (W a ac) (W b ad) e;show v∈m.aD.map _++m.bb.map _↔_;rw [<-fI,cQ];constructor;rintro ⟨u,aj,rfl⟩;obtain ⟨k,rfl,hk⟩:=(h.ls.mem u).1 aj;unfold eR;by_cases c:k=f;subst c;rw [ay rfl];exact ⟨t,rfl,(h5 t).2 (.inl rfl)⟩;rw [au (by omega)];exact ⟨k,rfl,(h5 k).2 (.inr ⟨c,hk⟩)⟩;rintro ⟨k,rfl,hk⟩;rcases (h5 k).1 hk with rfl|⟨o,l⟩
 exact ⟨f,(h.ls.mem f).2 ⟨f,rfl,U⟩,by unfold eR;rw [ay rfl]⟩;exact ⟨k,(h.ls.mem k).2 ⟨k,rfl,l⟩,by unfold eR;rw [au (by omega)]⟩;rcases (h5 k).1 hk with rfl|⟨o,l⟩
 obtain ⟨y,w,r,d,n⟩:=h.mp f U;exact ⟨y,w,r,d,by show hE g.en f k y=_;rw [V4 n,ay rfl]⟩;obtain ⟨y,w,r,d,n⟩:=h.mp k l;exact ⟨y,w,r,d,by show hE g.en f t y=_;rw [V4 n,au o]⟩
def cY {α:Type} (l:List α) (a:Nat):Nat->α->List α
 |0,_=>l
 |n+1,v=>(cY l a n v).set (a+n) v
theorem mj {α:Type} (l:List α) (a:Nat) (v:α):∀n,(cY l a n v).length=l.length
 |0=>rfl
 |n+1=>by rw [cY,hr,mj l a v n]
theorem uw {α:Type} {l:List α} {a:Nat} {v d:α} (i:Nat):∀n,a+n<=l.length->(cY l a n v).getD i d=if a<=i/\i<a+n then v else l.getD i d
 |0,_=>by rw [cY,au (by omega)]
 |n+1,h=>by
  rw [cY,qk (by rw [mj];omega)];by_cases c:i=a+n;simp_all;rw [au c,uw i n (by omega)]
  grind
theorem eN.cY {mem:List (List Int)} (h:eN mem) (a:Nat):∀n,eN (cY mem a n [0,0,0,0])
 |0=>h
 |n+1=>(h.cY a n).set ⟨rfl,by simp⟩
def ap8 {mem mem':List (List Int)} {f k:Nat} (h:row mem' f=row mem f):bU mem' f k=bU mem f k:=by unfold bU;rw [h]
theorem MB {w:Int} {k:Nat} (h:(k:Int)=fX w):k<=3:=by
 unfold fX at h;omega
def qa (m:M) (a k:Nat):M:={m with mem:=cY m.mem a (2^k) [0,0,0,0],st:=cY m.st a (2^k) 3,bF:=dJ (cY m.st a (2^k) 3)}
theorem kj (l:List bV) (x:bV):cA (l++[x])=cA l++if x.2.2.1= -1 then cJ (x.2.1,x.2.2.2.1,()) else []:=by
 unfold cA;simp_all
theorem tV {a k:Nat} {v:Int}:v∈cJ ((a:Int),(k:Int),())↔∃i:Nat,v=i/\a<=i/\i<a+2^k:=by
 rw [Lz,cQ]
 grind
theorem agn (a k:Nat):(cJ ((a:Int),(k:Int),())).Nodup:=by
 rw [Lz];unfold List.Nodup;rw [lD];exact List.Pairwise.imp (λ{x y} h e=>h (by omega)) List.nodup_range'
theorem ao.KD {m:M} {g:G} {z a k:Nat} {w:Int} (h:ao m g z) (hk:(k:Int)=fX w) (ad:5<=w/\w<=32) (X:a%2^k=0) (K:a+2^k<=m.mem.length) (d:∀i,i<2^k->ar m.st (a+i)=0)
 (ab:m.aq.length<40) (b:m.next<100000):ao {qa m a k with aq:=m.aq++[(m.next,(a:Int),-1,(k:Int),w,())],next:=m.next+1} g z:=by
 have U:=h.sn.len;have ac:=kL k;have W:∀i,a<=i->i<a+2^k->ar m.st i=0:=λi D I=>by
  have:=d (i-a) (by omega);simp_all
 have o:∀i,ar (cY m.st a (2^k) 3) i=if a<=i/\i<a+2^k then 3 else ar m.st i:=λi=>uw i _ (by omega)
 have j:∀i v,v≠0->v≠3->(ar (cY m.st a (2^k) 3) i=v↔ar m.st i=v):=by
  grind
 have O:∀i,ar m.st i≠0->row (cY m.mem a (2^k) [0,0,0,0]) i=row m.mem i:=by
  intro i hi;unfold row;rw [uw i _ K,au]
  grind
 refine ⟨h.mm.cY a _,?_,rfl,?_,h.sp,h.rp.off λx f b d k _=>?_,h.tx.dv λf=>j f 4 (by omega) (by omega),h.nz,⟨λy l f w r J=>?_,h.eo.sl⟩,h.sl,h.pg,⟨h.ls.b7,λv=>?_⟩,λf d=>?_⟩;show eU (cY m.mem a _ _).length (cY m.st a _ _);rw [mj];refine ⟨by rw [mj];exact U,λf d=>?_⟩;rw [o];by_cases c:a<=f/\f<a+2^k;rw [ay c];have:=(h.sn.val f d).2.2;simp_all;rw [au c];exact h.sn.val f d
 ·show e9 (cY m.mem a _ _).length (cY m.st a _ _) m.aH (m.aq++_) (m.next+1);rw [mj];have aa:1<=m.next:=h.kr.nl;refine ⟨h.kr.kD,h.kr.eM,h.kr.iL,λf=>(j f 2 (by omega) (by omega)).trans (h.kr.hL f),by omega,by omega,by simp;omega,?_,?_,?_,?_,?_,?_,?_,?_⟩;rw [lC];refine ⟨h.kr.nm,q2 _ _,λx b y l=>?_⟩;rw [fq.1 l];exact (h.kr.li x b).2;intro x b;rcases bp.1 b with b|b
  have:=h.kr.li x b;omega
  grind
  intro x b n;rcases bp.1 b with b|b
  exact h.kr.h2 x b n
  grind
  intro x b n;rcases bp.1 b with b|b
  exact h.kr.hG x b n;simp_all;rw [lC];refine ⟨h.kr.np,q2 _ _,λx b y l n e=>?_⟩;simp_all;rw [kj,ay rfl,cv];refine ⟨h.kr.bi,agn a k,λx b y l e=>?_⟩;subst e;obtain ⟨i,rfl,D,I⟩:=tV.1 l;have:=(h.kr.iY i).1 b;simp_all;intro f;rw [kj,ay rfl,bp,h.kr.iY,o];show _\/(f:Int)∈cJ ((a:Int),(k:Int),())↔_;rw [tV]
  grind
  rw [h.kr.sum,y7];simp
 refine ap8 ?_;exact O f (by rw [(h.tx.ga f).2 ⟨x,b,d⟩];decide);obtain ⟨q,u,C⟩:=h.eo.pg y l f w r J;exact ⟨(j f 5 (by omega) (by omega)).2 q,u,C⟩;show v∈m.aD++m.bb↔_;rw [h.ls.mem v];constructor;rintro ⟨f,e,d⟩;exact ⟨f,e,(j f 5 (by omega) (by omega)).2 d⟩;rintro ⟨f,e,d⟩;exact ⟨f,e,(j f 5 (by omega) (by omega)).1 d⟩;exact h.mp f ((j f 5 (by omega) (by omega)).1 d)
theorem Ky {l:List cj} (h:l.Pairwise λs t=>s.1<t.1) {s t:cj} (b:s∈l) (c:t∈l) (e:s.1=t.1):s=t:=by
 induction l with
 |nil=>cases b
 |cons a l d=>
  rw [pn] at h
  grind
theorem Sx {l b:List cj} (e:b.map (·.1)=l.map (·.1)) (h:l.Pairwise λs t=>s.1<t.1):b.Pairwise λs t=>s.1<t.1:=by
 have c:=lD.2 h
 grind
theorem UP {l b:List cj} (e:b.map (·.1)=l.map (·.1)) (f:Int):(∃s∈b,s.1=f)↔∃s∈l,s.1=f:=by
 have:∀l:List cj,(∃s∈l,s.1=f)↔f∈l.map (·.1):=λl=>by rw [cQ]
 rw [this,this,e]
def dZ (s:cj) (j:Nat) (b:Bool):cj:=(s.1,s.2.1,s.2.2.1.set j b,())
theorem Gg (A B:List cj) (s:cj) (j:Nat) (b:Bool):(A++dZ s j b::B).map (·.1)=(A++s::B).map (·.1):=by simp [dZ]
def XA {s:cj} (h:kY s) (j:Nat) (b:Bool) (c:true∈s.2.2.1.set j b):kY (dZ s j b):=
 ⟨h.lo,h.hi,by simpa [dZ] using h.size,c⟩
theorem afk {l:List Bool} {j:Nat} (h:l[j]?=some false):(l.set j true).count true=l.count true+1:=by
 grind
theorem UE {l:List Bool} {j:Nat} (h:l[j]?=some true):(l.set j false).count true+1=l.count true:=by
 grind
theorem oz (C D:List bV) (x:bV):cA (C++x::D)=cA C++((if x.2.2.1= -1 then cJ (x.2.1,x.2.2.2.1,()) else [])++cA D):=by
 unfold cA;simp_all
theorem qb (C D:List bV):cA (C++D)=cA C++cA D:=by
 unfold cA;simp_all
theorem e9.part {n:Nat} {st:List Int} {A B:List cj} {s:cj} {aq:List bV} {next w:Int} {j:Nat} (h:e9 n st (A++s::B) aq next) (z:s.2.2.1[j]?=some false)
 (J:1<=w/\w<=4) (U:ct w=s.2.1) (X:aq.length<40) (b:next<100000):
 e9 n st (A++dZ s j true::B) (aq++[(next,s.1,(j:Int),0,w,())]) (next+1):=by
 have D:s∈A++s::B:=by simp
 have W:=h.nl;have O:=(b6.1 z).1;have I:(s.2.2.1.set j true)[j]?=some true:=q0 O;have C:dZ s j true∈A++dZ s j true::B:=by simp
 refine ⟨by have:=h.kD;simp at this|-;omega,λt d=>?_,Sx (Gg A B s j true) h.iL,λf=>(h.hL f).trans (UP (Gg A B s j true) f).symm,by omega,by omega,by simp;omega,?_,?_,?_,?_,?_,?_,?_,?_⟩;simp only [bp,el] at d;rcases d with d|rfl|d
 exact h.eM t (by simp [d]);exact XA (h.eM s D) j true (cz I);exact h.eM t (by simp [d]);rw [lC];refine ⟨h.nm,q2 _ _,λx b y o=>?_⟩;rw [fq.1 o];exact (h.li x b).2;intro x b;rcases bp.1 b with b|b
 have:=h.li x b;omega
 grind
 intro x b g;rcases bp.1 b with b|b
 exact h.h2 x b g;simp_all;intro x b g;rcases bp.1 b with b|b
 obtain ⟨t,d,l,q,r,u,v⟩:=h.hG x b g;by_cases c:t=s;subst c;refine ⟨dZ t j true,C,l,q,r,?_,v⟩;show (t.2.2.1.set j true)[x.2.2.1.toNat]?=some true
 grind
 refine ⟨t,?_,l,q,r,u,v⟩
 grind
 rw [fq.1 b];exact ⟨dZ s j true,C,rfl,rfl,by simp,by simpa [dZ] using I,J.1,J.2,U⟩;rw [lC];refine ⟨h.np,q2 _ _,λx b y o g e=>?_⟩;rw [fq.1 o] at e;simp only at e;obtain ⟨t,d,l,_,_,u,_⟩:=h.hG x b g;obtain rfl:=Ky h.iL d D (by omega);simp_all;rw [kj,au (by simp only;omega),gg];exact h.bi;rw [kj,au (by simp only;omega),gg];exact h.iY;have K:=h.sum;rw [y7];simp only [fI,fJ,List.sum_append,List.sum_cons] at K|-;rw [show (dZ s j true).2.2.1.count true=s.2.2.1.count true+1 from afk z]
 grind
theorem e9.MS {n:Nat} {st:List Int} {A B:List cj} {aq:List bV} {next w z:Int} {f:Nat} {u:List Bool} (h:e9 n st (A++B) aq next) (X:∀a∈A,a.1<(f:Int)) (aa:∀b∈B,(f:Int)<b.1)
 (I:ar st f=0) (r:f<st.length) (ac:f<32) (J:kY ((f:Int),z,u,())) (K:u[0]?=some true) (ab:u.count true=1) (C:1<=w/\w<=4) (O:ct w=z) (af:aq.length<40) (d:next<100000):
 e9 n (st.set f 2) (A++((f:Int),z,u,())::B) (aq++[(next,(f:Int),0,0,w,())]) (next+1):=by
 have ad:=h.nl;have ae:∀t∈A++B,t.1≠(f:Int):=λt g e=>by
  grind
 have D:(A++((f:Int),z,u,())::B).Pairwise λs t=>s.1<t.1:=by
  have l:=lC.1 h.iL;rw [lC,pn]
  grind
 have o:∀t,t∈A++((f:Int),z,u,())::B↔t=((f:Int),z,u,())\/t∈A++B:=λt=>by
  grind
 have v:∀t∈A++((f:Int),z,u,())::B,kY t:=λt g=>by
  rcases (o t).1 g with rfl|g
  exact J;exact h.eM t g
 refine ⟨?_,v,D,λk=>?_,by omega,by omega,by simp;omega,?_,?_,?_,?_,?_,?_,?_,?_⟩;have l:((A++((f:Int),z,u,())::B).map (·.1)).Nodup:=by
  grind
 have:=ua _ 32 l (λx d=>by
  obtain ⟨t,g,rfl⟩:=cQ.1 d;have:=v t g;have l:=this.lo;have W:=this.hi;omega)
 simpa using this;rw [fY r];by_cases c:k=f
 grind
 rw [au c,h.hL]
 grind
 rw [lC];refine ⟨h.nm,q2 _ _,λx d y q=>?_⟩;rw [fq.1 q];exact (h.li x d).2;intro x d;rcases bp.1 d with d|d
 have:=h.li x d;omega
 grind
 intro x d j;rcases bp.1 d with d|d
 exact h.h2 x d j;simp_all;intro x d j;rcases bp.1 d with d|d
 obtain ⟨t,g,e⟩:=h.hG x d j;exact ⟨t,(o t).2 (.inr g),e⟩;rw [fq.1 d];exact ⟨_,(o _).2 (.inl rfl),rfl,rfl,by simp,by simpa using K,C.1,C.2,O⟩;rw [lC];refine ⟨h.np,q2 _ _,λx d y q j e=>?_⟩;rw [fq.1 q] at e;simp only at e;obtain ⟨t,g,U,_⟩:=h.hG x d j
 grind
 rw [kj,au (by simp only;omega),gg];exact h.bi;intro k;rw [kj,au (by simp only;omega),gg,h.iY];exact (e4 r I (by omega) (by omega)).symm;have l:=h.sum
 grind
theorem ma {α:Type} {C D:List α} {x y:α} (h:y∈C++D):y∈C++x::D:=by
 grind
theorem qK {α:Type} {R:α->α->Prop} {C D:List α} {x:α} (h:(C++x::D).Pairwise R):(C++D).Pairwise R:=
 h.sublist (List.Sublist.append_left (List.sublist_cons_self _ _) _)
theorem e9.Wi {n:Nat} {st:List Int} {aH:List cj} {C D:List bV} {x y:bV} {next:Int} (h:e9 n st aH (C++x::D) next) (f:x.2.2.1≠ -1) (b:y∈C++D) (g:y.2.2.1≠ -1) (e:y.2.1=x.2.1):y.2.2.1≠x.2.2.1:=by
 intro c;have d:=lC.1 h.np;rcases bp.1 b with b|b
 grind
 exact (pn.1 d.2.1).1 y b f ⟨e.symm,c.symm⟩
theorem e9.agu {n:Nat} {st:List Int} {A B:List cj} {s:cj} {C D:List bV} {x:bV} {next:Int} (h:e9 n st (A++s::B) (C++x::D) next) (e:x.2.2.1≠ -1) (X:s.1=x.2.1)
 (I:true∈s.2.2.1.set x.2.2.1.toNat false):e9 n st (A++dZ s x.2.2.1.toNat false::B) (C++D) next:=by
 have z:s∈A++s::B:=by simp
 have J:x∈C++x::D:=by simp
 obtain ⟨t,q,K,_,O,u,_⟩:=h.hG x J e;obtain rfl:=Ky h.iL q z (by omega);have v:dZ t x.2.2.1.toNat false∈A++dZ t x.2.2.1.toNat false::B:=by simp
 refine ⟨by have:=h.kD;simp at this|-;omega,λr b=>?_,Sx (Gg A B t _ false) h.iL,λf=>(h.hL f).trans (UP (Gg A B t _ false) f).symm,h.nl,h.tZ,by have:=h.kz;simp at this|-;omega,qK h.nm,λy d=>h.li y (ma d),λy d=>h.h2 y (ma d),λy d o=>?_,qK h.np,?_,λf=>?_,?_⟩;simp only [bp,el] at b;rcases b with b|rfl|b
 exact h.eM r (by simp [b]);exact XA (h.eM t q) _ false I;exact h.eM r (by simp [b]);obtain ⟨r,b,g,j,f3,f4,f5⟩:=h.hG y (ma d) o;by_cases c:r=t;subst c;have W:=h.Wi e d o (by omega);refine ⟨dZ r x.2.2.1.toNat false,v,g,j,f3,?_,f5⟩;show (r.2.2.1.set x.2.2.1.toNat false)[y.2.2.1.toNat]?=some true
 grind
 refine ⟨r,?_,g,j,f3,f4,f5⟩
 grind
 have:=h.bi;rw [oz,au e,dV] at this;rw [qb];exact this;have:=h.iY f;rw [oz,au e,dV] at this;rw [qb];exact this;have l:=h.sum;have U:=UE u;simp only [fI,fJ,List.sum_append,List.sum_cons,y7] at l|-;rw [List.countP_cons_of_pos (by simpa using e)] at l;rw [show (dZ t x.2.2.1.toNat false).2.2.1=t.2.2.1.set x.2.2.1.toNat false from rfl];omega
theorem e9.hc {n:Nat} {st:List Int} {A B:List cj} {s:cj} {C D:List bV} {x:bV} {next:Int} {f:Nat} (h:e9 n st (A++s::B) (C++x::D) next) (g:x.2.2.1≠ -1) (ad:s.1=x.2.1) (aa:x.2.1=(f:Int)) (l:f<st.length)
 (K:true∉s.2.2.1.set x.2.2.1.toNat false):e9 n (st.set f 0) (A++B) (C++D) next:=by
 have J:s∈A++s::B:=by simp
 have O:x∈C++x::D:=by simp
 obtain ⟨t,q,U,_,W,u,_⟩:=h.hG x O g;obtain rfl:=Ky h.iL q J (by omega);have I:ar st f=2:=(h.hL f).2 ⟨t,q,by omega⟩;have ab:∀r∈A++B,r.1≠t.1:=by
  intro r b e;have j:=lC.1 h.iL;rcases bp.1 b with b|b
  grind
  have:=(pn.1 j.2.1).1 r b;omega
 refine ⟨by have:=h.kD;simp at this|-;omega,λr b=>h.eM r (ma b),qK h.iL,λk=>?_,h.nl,h.tZ,by have:=h.kz;simp at this|-;omega,qK h.nm,λy d=>h.li y (ma d),λy d=>h.h2 y (ma d),λy d o=>?_,qK h.np,?_,λk=>?_,?_⟩;rw [fY l];by_cases c:k=f
 grind
 rw [au c,h.hL];constructor;rintro ⟨r,b,e⟩
 grind
 rintro ⟨r,b,e⟩;grind;obtain ⟨r,b,v,z,f3,f4,f5⟩:=h.hG y (ma d) o;by_cases c:r=t;subst c;have ac:=h.Wi g d o (by omega);refine absurd (cz (i:=y.2.2.1.toNat) ?_) K
 grind
 refine ⟨r,?_,v,z,f3,f4,f5⟩;simp_all;have:=h.bi;rw [oz,au g,dV] at this;rw [qb];exact this;have:=h.iY k;rw [oz,au g,dV] at this;rw [qb,this];exact (e4 l I (by omega) (by omega)).symm;have j:=h.sum;have X:=UE u
 grind
def e9.N1 {n:Nat} {st:List Int} {aH:List cj} {C D:List bV} {x:bV} {next:Int} {a k:Nat} (h:e9 n st aH (C++x::D) next) (e:x.2.2.1= -1) (d:x.2.1=(a:Int)) (hk:x.2.2.2.1=(k:Int)) (q:a+2^k<=st.length):
 e9 n (cY st a (2^k) 0) aH (C++D) next:=by
 have l:∀i,ar (cY st a (2^k) 0) i=if a<=i/\i<a+2^k then 0 else ar st i:=λi=>uw i _ q
 have j:=h.bi;rw [oz,ay e,d,hk,cv,cv] at j;obtain ⟨u,⟨v,z,I⟩,J⟩:=j;have K:∀i,a<=i->i<a+2^k->ar st i=3:=λi g o=>by
  rw [<-h.iY,oz,ay e,d,hk];simp only [bp];exact .inr (.inl (tV.2 ⟨i,rfl,g,o⟩))
 refine ⟨h.kD,h.eM,h.iL,λf=>?_,h.nl,h.tZ,by have:=h.kz;simp at this|-;omega,qK h.nm,λy b=>h.li y (ma b),λy b=>h.h2 y (ma b),λy b r=>h.hG y (ma b) r,qK h.np,?_,λf=>?_,?_⟩;rw [<-h.hL,l]
 grind
 rw [qb,cv];simp_all;have h4:=h.iY f;rw [oz,ay e,d,hk,bp,bp,tV] at h4;rw [qb,bp,l];by_cases c:a<=f/\f<a+2^k;rw [ay c];have O:(f:Int)∈cJ ((a:Int),(k:Int),()):=tV.2 ⟨f,rfl,c⟩
 grind
 grind
 have g:=h.sum;simp_all
def ao.L1 {m:M} {g:G} {z:Nat} (h:ao m g z) {st':List Int} {sl':List cj} {d:List bV} {nx':Int} (h4:∀f,ar st' f=4↔ar m.st f=4) (h5:∀f,ar st' f=5↔ar m.st f=5) (l:eU m.mem.length st')
 (hk:e9 m.mem.length st' sl' d nx'):ao {m with st:=st',bF:=dJ st',aH:=sl',aq:=d,next:=nx'} g z:=by
 refine ⟨h.mm,l,rfl,hk,h.sp,h.rp,h.tx.dv h4,h.nz,⟨λy n f w r e=>?_,h.eo.sl⟩,h.sl,h.pg,⟨h.ls.b7,λv=>?_⟩,λf j=>h.mp f ((h5 f).1 j)⟩;obtain ⟨a,b,c⟩:=h.eo.pg y n f w r e;simp_all;show v∈m.aD++m.bb↔_;rw [h.ls.mem v];simp_all
theorem ao.nu {m:M} {g:G} {z f:Nat} {r:List Int} (h:ao m g z) (l:f<m.mem.length) (h4:ar m.st f≠4) (c:r.length=4/\∀x∈r,0<=x/\x<=100000):ao {m with mem:=m.mem.set f r} g z:=by
 have d:∀x q,x<84->g.tb x=some q->∀j,j<4->bU (m.mem.set f r) q j=bU m.mem q j:=λx q e b j n=>by
  have:q≠f:=by rintro rfl;exact h4 ((h.tx.ga q).2 ⟨x,e,b⟩)
  exact y4 this
 refine ⟨h.mm.set c,?_,h.fr,h.kr.dv (by simp) (λ_=>gx) (λ_=>gx),h.sp,h.rp.off d,h.tx,h.nz,h.eo,h.sl,h.pg,h.ls,h.mp⟩;show eU (m.mem.set f r).length m.st;rw [hr];exact h.sn
theorem ao.MS {m:M} {g:G} {z f:Nat} {A B:List cj} {w y:Int} {u:List Bool} (h:ao m g z) (d:ar m.st f=0) (C:m.aH=A++B) (l:∀a∈A,a.1<(f:Int)) (n:∀b∈B,(f:Int)<b.1)
 (x:kY ((f:Int),y,u,())) (D:u[0]?=some true) (o:u.count true=1) (I:1<=w/\w<=4) (K:ct w=y) (v:m.aq.length<40) (J:m.next<100000):
 ao {cd m f 2 with aH:=A++((f:Int),y,u,())::B,aq:=m.aq++[(m.next,(f:Int),0,0,w,())],next:=m.next+1} g z:=by
 have e:=h.sn.lt (f:=f) (by omega);have q:=h.sn.hl (f:=f) (by omega) (by omega);have c:f<m.st.length:=by rw [h.sn.len];exact e
 have O:=h.mm.hi;have hk:=h.kr;rw [C] at hk;have j:=h.L1 (st':=m.st.set f 2) (λk=>e4 c d (by omega) (by omega)) (λk=>e4 c d (by omega) (by omega)) (h.sn.set q e (by omega) (by omega) (by omega))
  (hk.MS l n d c (by omega) x D o I K v J)
 exact j.nu (f:=f) (r:=[0,0,0,0]) e (by show ar (m.st.set f 2) f≠4;rw [fY c,ay rfl];decide) ⟨rfl,by simp⟩
theorem ao.hc {m:M} {g:G} {z f:Nat} {A B:List cj} {s:cj} {C D:List bV} {x:bV} (h:ao m g z) (q:m.aH=A++s::B) (l:m.aq=C++x::D) (n:x.2.2.1≠ -1) (o:s.1=x.2.1) (e:x.2.1=(f:Int))
 (r:true∉s.2.2.1.set x.2.2.1.toNat false):ao {m with st:=m.st.set f 0,bF:=dJ (m.st.set f 0),aH:=A++B,aq:=C++D} g z:=by
 have hk:=h.kr;rw [q,l] at hk;have d:ar m.st f=2:=(hk.hL f).2 ⟨s,by simp,by omega⟩;have c:=h.sn.lt (f:=f) (by omega);have j:=h.sn.hl (f:=f) (by omega) (by omega);have b:f<m.st.length:=by rw [h.sn.len];exact c
 exact h.L1 (nx':=m.next) (λk=>e4 b d (by omega) (by omega)) (λk=>e4 b d (by omega) (by omega)) (h.sn.set j c (by omega) (by omega) (by omega)) (hk.hc n o e b r)
def ao.N1 {m:M} {g:G} {z a k:Nat} {C D:List bV} {x:bV} (h:ao m g z) (q:m.aq=C++x::D) (j:x.2.2.1= -1) (d:x.2.1=(a:Int)) (hk:x.2.2.2.1=(k:Int)) (I:a+2^k<=m.mem.length):
 ao {m with st:=cY m.st a (2^k) 0,bF:=dJ (cY m.st a (2^k) 0),aq:=C++D} g z:=by
 have b:=h.kr;rw [q] at b;have u:=h.sn.len;have r:∀i,ar (cY m.st a (2^k) 0) i=if a<=i/\i<a+2^k then 0 else ar m.st i:=λi=>uw i _ (by omega)
 have y:∀i,a<=i->i<a+2^k->ar m.st i=3:=λi n o=>by
  rw [<-b.iY,oz,ay j,d,hk];simp only [bp];exact .inr (.inl (tV.2 ⟨i,rfl,n,o⟩))
 have l:∀i v,v≠0->v≠3->(ar (cY m.st a (2^k) 0) i=v↔ar m.st i=v):=by
  grind
 refine h.L1 (nx':=m.next) (λi=>l i 4 (by omega) (by omega)) (λi=>l i 5 (by omega) (by omega)) ⟨by rw [mj];exact u,λf e=>?_⟩ (b.N1 j d hk (by omega));rw [r];by_cases c:a<=f/\f<a+2^k;rw [ay c];have:=(h.sn.val f e).2.2;simp_all;rw [au c];exact h.sn.val f e
def lg (n:Nat):List Int:=((List.replicate n (0:Int)).set 0 1).set 1 1
def jA (n s:Nat):M:=⟨List.replicate n [0,0,0,0],lg n,dJ (lg n),[],[],1,List.replicate 4 (false,-1,[],()),List.replicate s (0,[],()),[],[]⟩
def Fw:G:=⟨λ_=>none,λ_=>.no⟩
theorem V7 {n:Nat} (b:8<=n) (f:Nat):ar (lg n) f=if f<2 then 1 else if f<n then 0 else 9:=by
 unfold lg ar
 grind
theorem ao.new {n s:Nat} (C:8<=n/\n<=32/\n%8=0) (u:s<=16):ao (jA n s) Fw 84:=by
 have O:=V7 C.1;have J:(lg n).length=n:=by simp [lg]
 have l:(jA n s).mem.length=n:=by simp [jA]
 have g:∀f v,v≠0->v≠1->v≠9->ar (jA n s).st f≠v:=λf v I W h9=>by
  show ar (lg n) f≠v
  grind
 have D:∀t,t<4->aB (jA n s).ah t=(false,-1,[],()):=λt j=>by
  show (List.replicate 4 (false,-1,[],())).getD t _=_
  grind
 refine ⟨⟨by omega,by omega,by rw [l];exact C.2.2,λr o=>?_⟩,⟨by rw [l];exact J,λf c=>?_⟩,rfl,?_,⟨by simp [jA],λt j=>?_,λt j _=>?_⟩,⟨λt j=>?_,λx b k hk f c=>(by cases c),λq X k hk f c=>(by cases c),λx _ _ k _=>rfl,λq _ _ k _=>rfl⟩,⟨λx y f _ _ c=>(by cases c),λf=>?_⟩,λx b _ K=>absurd rfl K,⟨λy U f w r d=>(by cases d),λy U i d=>(by cases d)⟩,⟨by simp [jA];exact u,λi x b=>?_,λx b _=>?_,λx b I=>?_⟩,⟨λy z f w r w' aa _ _ d=>(by cases d),λy z i _ _ d=>(by cases d)⟩,⟨lB,λx=>?_⟩,λf c=>absurd c (g f 5 (by omega) (by omega) (by omega))⟩;have:r=[0,0,0,0]:=qZ o;simp_all;rw [l] at c;show 0<=ar (lg n) f/\_;rw [show ar (jA n s).st f=ar (lg n) f from rfl,O];omega;refine ⟨by simp [jA],λs u=>(by cases u),List.Pairwise.nil,λf=>⟨λe=>absurd e (g f 2 (by omega) (by omega) (by omega)),λ⟨_,h,_⟩=>(by cases h)⟩,by simp [jA],by simp [jA],by simp [jA],List.Pairwise.nil,λx b=>(by cases b),λx b=>(by cases b),λx b=>(by cases b),List.Pairwise.nil,lB,λf=>⟨λh=>(by cases h),λe=>absurd e (g f 3 (by omega) (by omega) (by omega))⟩,rfl⟩;unfold bc;rw [D t j];exact ⟨by simp,λr o=>(by cases o),trivial⟩;unfold bc;simp_all;rw [D t j];rfl;exact ⟨λe=>absurd e (g f 4 (by omega) (by omega) (by omega)),λ⟨_,_,e⟩=>(by cases e)⟩;have:x=(0,[],()):=qZ (cz b);subst this;have:cI Fw.en i=0:=by
  unfold cI;rw [hO,List.filter_eq_nil_iff];intro y _;simp [Fw]
 rw [this];rfl;have:x=(0,[],()):=qZ b;rw [this];have:x=(0,[],()):=qZ b;simp_all;exact ⟨λh=>(by cases h),λ⟨f,_,c⟩=>absurd c (g f 5 (by omega) (by omega) (by omega))⟩
end Go.bu
namespace Go.Proofs.YticidjkonpphfaaGreat
set_option maxRecDepth 100000
open Go.TM
abbrev b9:Ty:=(.cons (.int .i64) (.cons (.int .i64) .unit))
abbrev aR:Type:=Int×Int×Unit
abbrev ez:Ty:=(.cons (.int .i64) (.cons (.slice (.int .i64)) .unit))
abbrev a6:Type:=Int×LI×Unit
abbrev ef:Ty:=(.cons (.int .i64) (.cons (.int .i64) (.cons .bool .unit)))
abbrev bz:Type:=Int×Int×Bool×Unit
abbrev cO:Ty:=(.cons (.int .i64) (.cons (.int .i64) (.cons (.slice .bool) .unit)))
abbrev aY:Type:=Int×Int×LO×Unit
abbrev b1:Ty:=(.cons (.slice (.int .u8)) b9)
abbrev b8:Type:=(List Int)×aR
abbrev JW:Ty:=(.cons (.int .i64) ez)
abbrev iy:Ty:=(.cons (.int .i64) (.cons (.int .i64) (.cons .bool (.cons .bool .unit))))
abbrev ig:Type:=Int×Int×Bool×Bool×Unit
abbrev bf:Ty:=(.cons (.int .i64) (.cons (.int .i64) (.cons (.int .i64) b9)))
abbrev aK:Type:=Int×Int×Int×aR
abbrev s4:Ty:=(.cons .bool (.cons (.int .i64) (.cons (.slice ef) .unit)))
abbrev bI:Type:=Bool×Int×(List bz)×Unit
abbrev adC:Ty:=(.cons (.int .i64) (.cons (.int .i64) (.cons (.int .i64) bf)))
abbrev bS:Ty:=(.cons (.slice .bool) (.cons (.slice (.slice ef)) (.cons (.slice JW) (.cons (.slice ez) (.cons (.int .i64) .unit)))))
abbrev af:Ty:=(.cons (.slice (.slice (.int .i64))) (.cons (.slice (.int .i64)) (.cons (.slice b9) (.cons (.slice cO) (.cons (.slice bf) (.cons (.int .i64) (.cons (.slice s4) (.cons (.slice ez) (.cons (.slice (.int .i64)) (.cons (.slice (.int .i64)) .unit))))))))))
abbrev aj:Type:=a2×LI×(List aR)×(List aY)×(List aK)×Int×(List bI)×(List a6)×LI×LI×Unit
def aF:List (Nat×Ty):=[(3,(.int .i64)),(4,.bool),(5,(.int .u8)),(22,(.slice (.int .u8))),(24,(.slice (.slice (.int .i64)))),(25,(.slice (.int .i64))),(26,(.slice b9)),(27,(.slice cO)),(28,(.slice bf)),(29,(.slice s4)),(30,(.slice ez)),(32,af),(34,bf),(38,bf),(55,adC),(62,(.slice ef)),(64,s4),(70,(.slice .bool)),(71,(.slice (.slice ef))),(72,(.slice JW)),(73,(.slice ez)),(75,bS),(79,b9),(90,iy),(93,JW),(94,.bG),(99,.bG),(116,ez),(124,b9),(130,.bG),(143,ez),(152,ef),(165,b1),(166,(.slice bf)),(179,cO),(206,.bG),(207,(.arr 2 (.int .i64))),(210,.bG),(226,(.arr 64 (.int .i64))),(253,.bG),(283,(.slice (.slice b9)))]
def Z8:aF.all (λx=>dH Tryz.prog x.2 x.1)=true:=by kernel_rfl
theorem aV {cs:List (Nat×List Nat×aA)} {dW:List (Nat×mL)}:lS Tryz.prog (aE aF cs dW):=⟨Z9 Z8,λ_ _ h=>by cases h⟩
def eH {cs:List (Nat×List Nat×aA)} {dW:List (Nat×mL)} {o:Nat} {l:List (Nat×List Nat×dx)}:lS Tryz.prog (dI (aE aF cs dW) o l):=⟨λt T h=>Z9 (cs:=cs) (dW:=dW) Z8 t T h,λ_ _ h=>by cases h⟩
def Fo:List (Nat×Ty):=[(206,(.arr 2 (.int .i64))),(210,(.int .i64))]
def Mm:Fo.all (λx=>oW Tryz.prog x.2 x.1)=true:=by kernel_rfl
theorem en {dW:List (Nat×mL)}:e8 Tryz.prog (aE aF [] dW):=afE _ _ _
def ec {dW:List (Nat×mL)} {f:Nat} {d:List Nat} {c:aA} {cs:List (Nat×List Nat×aA)} (h:aN Tryz.prog f c) (b:e8 Tryz.prog (aE aF cs dW)):e8 Tryz.prog (aE aF ((f,d,c)::cs) dW):=afD h b
def mixed:Tryz.prog.follows .mixedOrders=true:=by kernel_rfl
end Go.Proofs.YticidjkonpphfaaGreat
