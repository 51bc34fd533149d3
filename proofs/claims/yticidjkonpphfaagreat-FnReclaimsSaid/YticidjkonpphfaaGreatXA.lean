/- Part 1 of 8. -/
import Derived.Deep.AppendSrc
import Derived.Deep.MidRow
import Derived.Great.BuildSlice
import Derived.Laws.Build
import Derived.Laws.BytesArg
import Derived.Laws.MakeOwn
import Derived.Laws.Slices
import Derived.Laws.StructEq
import Derived.MapKept
import Derived.Orders
import Derived.Tactics
set_option autoImplicit false
set_option linter.unusedVariables false
set_option linter.unusedSimpArgs false
set_option linter.constructorNameAsVariable false
set_option linter.defProp false
namespace Go.TM
def au:=@cond_true
def av:=@if_neg
def aE:=@if_pos
def a6:=@List.getElem?_eq_getElem
def bi:=@Option.some.injEq
def bl:=@decide_eq_true
def bE:=@Bool.and_eq_true
def bG:=@Nat.zero_le
def bI:=@List.mem_append
def bK:=@Prod.mk.injEq
def bM:=@decide_eq_false
def b3:=@Option.some.inj
def b4:=@List.getElem?_eq_some_iff
def cw:=@List.mem_of_getElem?
def cF:=@List.nodup_append
def cL:=@List.getElem_mem
def cN:=@if_true
def cS:=@Nat.le_refl
def dm:=@List.mem_map
def dy:=@Option.map_some
def dz:=@congrArg
def dA:=@if_false
def dK:=@Bool.not_false
def ea:=@List.length_append
def eb:=@List.length_map
def el:=@List.nil_append
def eN:=@List.mem_cons
def fa:=@List.all_eq_true
def fb:=@of_decide_eq_true
def fk:=@Int.toNat_natCast
def fH:=@List.map_append
def ga:=@Nat.eq_of_beq_eq_true
def gb:=@and_true
def gx:=@Bool.or_eq_true
def gy:=@Iff.rfl
def gz:=@List.append_assoc
def gA:=@List.append_nil
def gB:=@List.cons.injEq
def gC:=@List.mem_filter
def gD:=@List.mem_singleton
def gP:=@List.map_cons
def gQ:=@List.range_succ
def gR:=@List.take_length
def g5:=@Int.eq_ofNat_of_zero_le
def g6:=@List.mem_range
def hr:=@List.cons.inj
def hs:=@List.length_set
def ht:=@List.singleton_append
def hv:=@not_or
def hT:=@List.length_eq_zero_iff
def hU:=@Option.toList_some
def il:=@Bool.not_eq_true'
def im:=@Classical.byContradiction
def iq:=@Int.tmod_eq_emod_of_nonneg
def ir:=@List.take_add_one
def iR:=@List.filter_append
def iS:=@List.take_append_drop
def jh:=@List.length_cons
def jL:=@Array.getD_eq_getD_getElem?
def jM:=@Bool.not_eq_true
def jN:=@List.drop_drop
def jO:=@List.drop_eq_getElem_cons
def jP:=@List.nodup_cons
def jQ:=@Nat.mul_le_mul_right
def jR:=@beq_iff_eq
def kb:=@List.length_filter_le
def kc:=@List.pairwise_iff_getElem
def kd:=@beq_false
def ke:=@bne_self_eq_false
def kK:=@Bool.false_eq_true
def kL:=@List.cons_append
def kM:=@List.getElem?_eq_none
def kN:=@List.mem_iff_getElem
def kO:=@Nat.lt_of_lt_of_le
def kP:=@Nat.pow_le_pow_right
def kQ:=@Nat.two_pow_pos
def kR:=@Nat.zero_add
def lA:=@Bool.false_or
def lB:=@List.ext_getElem?
def lC:=@List.map_congr_left
def lD:=@List.nodup_nil
def lE:=@List.pairwise_append
def lF:=@List.pairwise_map
def mE:=@List.flatten_cons
def mF:=@List.mem_flatMap
def nJ:=@Int.tdiv_eq_ediv_of_nonneg
def nK:=@List.Pairwise.filter
def nL:=@List.map_id
def nM:=@List.mem_cons_self
def nN:=@List.mem_iff_getElem?
def nO:=@List.mem_or_eq_of_mem_set
def nP:=@Nat.beq_refl
def nQ:=@Nat.lt_succ_self
def nR:=@Nat.succ_mul
def nS:=@beq_eq_false_iff_ne
def nT:=@decide_eq_true_eq
def pu:=@Bool.eq_iff_iff
def pv:=@List.getElem?_set
def pw:=@List.pairwise_cons
def px:=@Option.ne_none_iff_exists'
def py:=@decide_eq_false_iff_not
def pz:=@decide_eq_true_iff
def rc:=@Array.getElem?_toList
def rf:=@Bool.eq_false_iff
def rh:=@Bool.true_and
def ri:=@List.eq_of_mem_replicate
def rj:=@List.map_nil
def rk:=@List.pairwise_singleton
def rl:=@Nat.add_zero
def rm:=@Nat.le_of_ble_eq_true
def rq:=@beq_self_eq_true
def vc:=@Classical.not_not
def vd:=@List.countP_append
def ve:=@List.drop_zero
def vf:=@List.filter_congr
def vg:=@List.getElem?_map
def vh:=@List.getElem?_set_self
def vi:=@List.mem_filterMap
def vj:=@List.nodup_range
def vk:=@Nat.ble_eq_true_of_le
def vl:=@Nat.succ_le_of_lt
def vm:=@Option.getD_some
def vn:=@Option.map_none
def zy:=@Array.getElem?_eq_some_iff
def zz:=@Array.toList_map
def zA:=@List.append_eq_nil_iff
def zB:=@List.eq_nil_iff_forall_not_mem
def zC:=@List.length_pos_of_mem
def zD:=@List.length_range
def zE:=@List.not_mem_nil
def zF:=@List.size_toArray
def zG:=@Option.isSome_iff_exists
def zH:=@Option.toList_none
def HB:=@Array.getElem?_replicate
def HC:=@List.getD_eq_getElem?_getD
def HD:=@List.perm_ext_iff_of_nodup
inductive Ty where
 |int (k:IntKind)|bool|bR|bz
 |slice (t:Ty)
 |unit|cons (t r:Ty)
 |arr (n:Nat) (t:Ty)
 deriving DecidableEq
def Ty.ai:Ty->Type
 | .int _=>Int
 | .bool=>Bool
 | .bR=>List UInt8
 | .bz=>Unit
 | .slice t=>List t.ai
 | .unit=>Unit
 | .cons t r=>t.ai×r.ai
 | .arr _ t=>List t.ai
def Ty.size:Ty->Nat
 | .unit=>0
 | .cons t r=>t.size+r.size
 | .arr n t=>n*t.size
 |_=>1
def Ty.aY:Ty->Bool
 | .slice _=>false
 | .bz=>false
 | .cons t r=>t.aY&&r.aY
 | .arr _ t=>t.aY
 |_=>true
def Ty.agg:Ty->Bool
 | .unit| .cons _ _| .arr _ _=>true
 |_=>false
def Ty.cC:Ty->Prop
 | .cons t r=>t.cC/\r.cC/\(r=.unit\/∃c d,r=.cons c d)
 | .slice t=>t.cC
 | .arr _ t=>t.cC
 |_=>True
def Ty.iF:Ty->Bool
 | .cons t r=>t.iF&&r.iF&&(match r with
  | .unit=>true
  | .cons _ _=>true
  |_=>false)
 | .slice t=>t.iF
 | .arr _ t=>t.iF
 |_=>true
def Ty.oU {t:Ty} (h:t.iF=true):t.cC:=by
 induction t with
 |slice t b=>exact b h
 |arr n t b=>exact b h
 |cons t r d c=>
  simp only [Ty.iF,bE] at h;refine ⟨d h.1.1,c h.1.2,?_⟩
  grind
 |_=>trivial
inductive FT where
 |leaf
 |node (b:Option Nat) (cap:Nat) (dY:List FT)
 |eI (a r:FT)
def FT.fst:FT->FT
 | .eI a _=>a
 |_=>.leaf
def FT.snd:FT->FT
 | .eI _ r=>r
 |_=>.leaf
mutual
def FT.af:FT->List Nat
 | .leaf=>[]
 | .node b _ c=>b.toList++FT.bo c
 | .eI a r=>a.af++r.af
def FT.bo:List FT->List Nat
 |[]=>[]
 |k::b=>k.af++FT.bo b
end
def At (w:World) (b o n:Nat) (cs:List Value):Prop:=
 ∃row e fz,w.heap[b]?=some (.cells row e fz)/\o+n<=row.size/\(row.toList.drop o).take n=cs
def eK:Nat:=140737488355328
def sub (cs:List Value) (o n:Nat):List Value:=(cs.drop o).take n
def bH:(t:Ty)->t.ai->List Value
 | .int k,x=>[.int k x]
 | .bool,x=>[.bool x]
 | .bR,x=>[.string ⟨List.toArray (α:=UInt8) x⟩]
 | .cons t r,x=>bH t x.1++bH r x.2
 | .arr _ t,xs=>(List.map (bH t) xs).flatten
 |_,_=>[]
def dg:(t:Ty)->t.ai->Prop
 | .bR,x=>List.length (α:=UInt8) x<=eK
 | .cons t r,x=>dg t x.1/\dg r x.2
 | .arr n t,xs=>List.length (α:=t.ai) xs=n/\∀x∈(show List t.ai from xs),dg t x
 | .slice _,_=>False
 | .bz,_=>False
 |_,_=>True
def bd (w:World):(t:Ty)->t.ai->FT->List Value->Prop
 | .slice t,xs,ft,cs=>∃b cap d,ft=.node b cap d/\cs=[.slice (b.map (⟨·,0,none⟩)) (List.length (α:=t.ai) xs) cap]/\
  List.length (α:=t.ai) xs<=cap/\List.length (α:=t.ai) xs<=eK/\d.length=List.length (α:=t.ai) xs/\
  (match b with
   |none=>cap=0
   |some b=>(∃row e,w.heap[b]?=some (.cells row e (0,0))/\cap*t.size=row.size)/\
    ∀(i:Nat) (x:t.ai) (k:FT),(show List t.ai from xs)[i]?=some x->d[i]?=some k->∃c,At w b (i*t.size) t.size c/\bd w t x k c)
 | .cons t r,x,ft,cs=>ft.af=ft.fst.af++ft.snd.af/\∃f g,cs=f++g/\bd w t x.1 ft.fst f/\bd w r x.2 ft.snd g
 | .bz,_,_,_=>False
 |t,x,ft,cs=>t.aY=true/\dg t x/\ft.af=[]/\cs=bH t x
def Rd (w:World) (R:Nat->Prop):(t:Ty)->t.ai->List Value->Prop
 | .slice t,xs,cs=>∃a cap,cs=[.slice a (List.length (α:=t.ai) xs) cap]/\(List.length (α:=t.ai) xs<=cap/\List.length (α:=t.ai) xs<=eK)/\
  ((show List t.ai from xs)≠[]->∃b o,a=some ⟨b,o,none⟩/\R b/\
    ∀(i:Nat) (x:t.ai),(show List t.ai from xs)[i]?=some x->∃c,At w b (o+i*t.size) t.size c/\Rd w R t x c)
 | .cons t r,x,cs=>∃d e,cs=d++e/\Rd w R t x.1 d/\Rd w R r x.2 e
 | .bz,_,_=>False
 |t,x,cs=>t.aY=true/\dg t x/\cs=bH t x
theorem At.len {w:World} {b o n:Nat} {cs:List Value} (h:At w b o n cs):cs.length=n:=by
 obtain ⟨row,e,fz,_,c,rfl⟩:=h;simp;omega
theorem At.bT {w w':World} {b o n:Nat} {cs:List Value} (c:w'.heap[b]?=w.heap[b]?) (h:At w b o n cs):At w' b o n cs:=by
 unfold At at*;rw [c];exact h
theorem hf:∀(t:Ty) (x:t.ai),t.aY=true->dg t x->(bH t x).length=t.size
 | .int _,_,_,_=>rfl
 | .bool,_,_,_=>rfl
 | .bR,_,_,_=>rfl
 | .bz,_,h,_=>by simp [Ty.aY] at h
 | .slice _,_,h,_=>by simp [Ty.aY] at h
 | .unit,_,_,_=>rfl
 | .cons t r,x,h,hk=>by
  simp only [Ty.aY,bE] at h;simp only [bH,ea,Ty.size];rw [hf t x.1 h.1 hk.1,hf r x.2 h.2 hk.2]
 | .arr n t,xs,h,hk=>by
  have d:List.length (α:=t.ai) xs=n:=hk.1;have c:=hk.2;simp only [bH,Ty.size];rw [<-d];clear hk d;revert c;generalize b:(show List t.ai from xs)=l;change (∀x∈l,dg t x)->_;have:xs=l:=b;subst this;intro c;have key:∀l:List t.ai,(∀x∈l,dg t x)->((l.map (bH t)).flatten).length=l.length*t.size:=by
   intro l
   induction l with
   |nil=>intro _;simp
   |cons a l f=>
    intro b;simp only [gP,mE,ea,jh];rw [hf t a h (b a (by simp)),f (λx e=>b x (by simp [e]))]
    grind
  exact key _ c
theorem bd.bT {w w':World}:∀(t:Ty) (x:t.ai) (ft:FT) (cs:List Value),(∀b∈ft.af,w'.heap[b]?=w.heap[b]?)->bd w t x ft cs->bd w' t x ft cs
 | .int _,_,_,_,_,h=>h
 | .bool,_,_,_,_,h=>h
 | .bR,_,_,_,_,h=>h
 | .bz,_,_,_,_,h=>h
 | .unit,_,_,_,_,h=>h
 | .arr _ _,_,_,_,_,h=>h
 | .cons t r,x,ft,cs,d,h=>by
  obtain ⟨g,n,o,rfl,j,l⟩:=h;exact ⟨g,n,o,rfl,bd.bT t x.1 ft.fst n (λb m=>d b (by simp [g,m])) j,bd.bT r x.2 ft.snd o (λb m=>d b (by simp [g,m])) l⟩
 | .slice t,xs,ft,cs,d,h=>by
  obtain ⟨b,cap,f,rfl,rfl,j,l,q,h4⟩:=h;refine ⟨b,cap,f,rfl,rfl,j,l,q,?_⟩;cases b with
  |none=>exact h4
  |some b=>
   obtain ⟨⟨row,e,h5,h6⟩,u⟩:=h4;have e0:w'.heap[b]?=w.heap[b]?:=d b (by simp [FT.af]);refine ⟨⟨row,e,by rw [e0];exact h5,h6⟩,λi x k z hk=>?_⟩;obtain ⟨c,v,y⟩:=u i x k z hk;refine ⟨c,v.bT e0,bd.bT t x k c (λC m=>d C ?_) y⟩;have D:k∈f:=cw hk;clear hk z y v u q d h5 h6 e0;simp only [FT.af,bI];right
   induction f with
   |nil=>cases D
   |cons k' f I=>
    simp only [FT.bo,bI]
    grind
theorem Rd.bT {w w':World} {R j:Nat->Prop} (d:∀b,R b->j b) (e:∀b,R b->w'.heap[b]?=w.heap[b]?):∀(t:Ty) (x:t.ai) (cs:List Value),Rd w R t x cs->Rd w' j t x cs
 | .int _,_,_,h=>h
 | .bool,_,_,h=>h
 | .bR,_,_,h=>h
 | .bz,_,_,h=>h
 | .unit,_,_,h=>h
 | .arr _ _,_,_,h=>h
 | .cons t r,x,cs,h=>by
  obtain ⟨l,n,rfl,f,g⟩:=h;exact ⟨l,n,rfl,Rd.bT d e t x.1 l f,Rd.bT d e r x.2 n g⟩
 | .slice t,xs,cs,h=>by
  obtain ⟨a,cap,rfl,f,g⟩:=h;refine ⟨a,cap,rfl,f,λy=>?_⟩;obtain ⟨b,o,rfl,q,u⟩:=g y;refine ⟨b,o,rfl,d b q,λi x C=>?_⟩;obtain ⟨c,v,z⟩:=u i x C;exact ⟨c,v.bT (e b q),Rd.bT d e t x c z⟩
theorem bd.len {w:World}:∀(t:Ty) (x:t.ai) (ft:FT) (cs:List Value),bd w t x ft cs->cs.length=t.size
 | .int _,_,_,_,h=>by obtain ⟨_,_,_,rfl⟩:=h;rfl
 | .bool,_,_,_,h=>by obtain ⟨_,_,_,rfl⟩:=h;rfl
 | .bR,_,_,_,h=>by obtain ⟨_,_,_,rfl⟩:=h;rfl
 | .bz,_,_,_,h=>h.elim
 | .unit,_,_,_,h=>by obtain ⟨_,_,_,rfl⟩:=h;rfl
 | .arr _ _,_,_,_,h=>by obtain ⟨c,d,_,rfl⟩:=h;exact hf _ _ c d
 | .cons t r,x,_,_,h=>by
  obtain ⟨_,e,f,rfl,c,d⟩:=h;simp [Ty.size,bd.len t x.1 _ e c,bd.len r x.2 _ f d]
 | .slice t,xs,ft,cs,h=>by obtain ⟨b,cap,g,_,rfl,_⟩:=h;rfl
theorem Rd.len {w:World} {R:Nat->Prop}:∀(t:Ty) (x:t.ai) (cs:List Value),Rd w R t x cs->cs.length=t.size
 | .int _,_,_,h=>by obtain ⟨_,_,rfl⟩:=h;rfl
 | .bool,_,_,h=>by obtain ⟨_,_,rfl⟩:=h;rfl
 | .bR,_,_,h=>by obtain ⟨_,_,rfl⟩:=h;rfl
 | .bz,_,_,h=>h.elim
 | .unit,_,_,h=>by obtain ⟨_,_,rfl⟩:=h;rfl
 | .arr _ _,_,_,h=>by obtain ⟨b,c,rfl⟩:=h;exact hf _ _ b c
 | .cons t r,x,_,h=>by
  obtain ⟨d,e,rfl,b,c⟩:=h;simp [Ty.size,Rd.len t x.1 d b,Rd.len r x.2 e c]
 | .slice t,xs,cs,h=>by obtain ⟨a,cap,rfl,_⟩:=h;rfl
theorem bd.rd {w:World} {R:Nat->Prop}:∀(t:Ty) (x:t.ai) (ft:FT) (cs:List Value),(∀b∈ft.af,R b)->bd w t x ft cs->Rd w R t x cs
 | .int _,_,_,_,_,h=>⟨h.1,h.2.1,h.2.2.2⟩
 | .bool,_,_,_,_,h=>⟨h.1,h.2.1,h.2.2.2⟩
 | .bR,_,_,_,_,h=>⟨h.1,h.2.1,h.2.2.2⟩
 | .bz,_,_,_,_,h=>h
 | .unit,_,_,_,_,h=>⟨h.1,h.2.1,h.2.2.2⟩
 | .arr _ _,_,_,_,_,h=>⟨h.1,h.2.1,h.2.2.2⟩
 | .cons t r,x,ft,cs,e,h=>by
  obtain ⟨o,l,n,rfl,f,g⟩:=h;exact ⟨l,n,rfl,bd.rd t x.1 _ l (λb m=>e b (by simp [o,m])) f,bd.rd r x.2 _ n (λb m=>e b (by simp [o,m])) g⟩
 | .slice t,xs,ft,cs,e,h=>by
  obtain ⟨b,cap,d,rfl,rfl,f,g,y,h4⟩:=h;refine ⟨_,cap,rfl,⟨f,g⟩,λC=>?_⟩;cases b with
  |none=>
   subst h4
   grind
  |some b=>
   refine ⟨b,0,rfl,e b (by simp [FT.af]),λi x u=>?_⟩;have hi:i<d.length:=by
    grind
   obtain ⟨c,z,q⟩:=h4.2 i x d[i] u (a6 hi);refine ⟨c,by simp_all,bd.rd t x d[i] c (λv m=>e v ?_) q⟩;have j:d[i]∈d:=cL hi;revert m j;generalize d[i]=k;clear u q z h4 y e hi;intro m j;simp only [FT.af,bI];right
   induction d with
   |nil=>cases j
   |cons k' d D=>
    simp only [FT.bo,bI]
    grind
inductive aeO where
 |f (n:Nat)
 |i (n:Nat)
 deriving DecidableEq
abbrev aN:=List aeO
def aN.dM:aN->Bool
 |[]=>false
 | .i _::_=>true
 | .f _::p=>aN.dM p
def cE:Ty->aN->Option Ty
 |t,[]=>some t
 | .cons t _,.f 0::p=>cE t p
 | .cons _ r,.f (n+1)::p=>cE r (.f n::p)
 | .slice t,.i _::p=>cE t p
 | .arr _ t,[.i _]=>if t.agg then none else some t
 |_,_=>none
inductive TV where
 |un
 |ad (t:Ty) (x:t.ai)
 |ab (t:Ty) (x:t.ai)
 |nil
 |unit
 |cons (a r:TV)
 |tup (a:TV)
 |ref (b:Nat) (p:aN)
 |sl (b:Nat) (p:aN)
 |slw (b:Nat) (p:aN) (lo len:Nat)
 |bt (t:Ty) (x:t.ai)
 |bU (f:Nat) (c:TV)
 |mp (b:Nat)
structure bm where
 ty:Ty
 cm:Bool
 dI:Bool
 c:TV
structure St where
 tmps:List (Nat×TV)
 cg:List (Nat×bm)
 sv:List (List (Nat×TV)):=[]
def lk {α:Type} (l:List (Nat×α)) (n:Nat):Option α:=
 match l with
 |[]=>none
 |(k,v)::r=>if Nat.beq k n then some v else lk r n
def St.fW (s:St) (i n:Nat):TV:=(lk (s.sv.getD i []) n).getD .un
def St.get (s:St) (n:Nat):TV:=(lk s.tmps n).getD .un
def St.put (s:St) (n:Nat) (v:TV):St:={s with tmps:=(n,v)::s.tmps}
def St.box (s:St) (n:Nat):Option bm:=lk s.cg n
def bB {α:Type} (l:List (Nat×α)) (n:Nat) (v:α):List (Nat×α):=
 match l with
 |[]=>[]
 |(k,x)::r=>if Nat.beq k n then (k,v)::r else (k,x)::bB r n v
def St.b2 (s:St) (n:Nat) (b:bm):St:={s with cg:=bB s.cg n b}
def cI (a b:Ty) (x:a.ai):Option b.ai:=
 match decEq a b with
 | .isTrue h=>some (h▸x)
 | .isFalse _=>none
def oX {α:Type} (l:List α) (i:Int):Option α:=
 match i with
 | .ofNat n=>l[n]?
 | .negSucc _=>none
def iH {α:Type} (l:List α) (n:Nat):Option α:=l[n]?
def lone:Ty->aN->Bool
 | .slice _,[]=>true
 | .cons t r,.f 0::p=>lone t p&&r.aY
 | .cons t r,.f (n+1)::p=>t.aY&&lone r (.f n::p)
 |_,_=>false
def ahQ:TV->Bool
 | .tup (.cons (.ab (.slice _) _) (.ab (.slice .bool) _))=>true
 |_=>false
section
variable {Z:Type}
def cy:(t:Ty)->t.ai->aN->((u:Ty)->u.ai->Option Z)->Option Z
 |t,x,[],k=>k t x
 | .cons t _,x,.f 0::p,k=>cy t x.1 p k
 | .cons _ r,x,.f (n+1)::p,k=>cy r x.2 (.f n::p) k
 | .slice t,xs,.i n::p,k=>match iH (α:=t.ai) xs n with
  |some x=>cy t x p k
  |none=>none
 | .arr _ t,xs,.i n::p,k=>if t.agg then none else match iH (α:=t.ai) xs n with
  |some x=>cy t x p k
  |none=>none
 |_,_,_,_=>none
def ez:(t:Ty)->t.ai->aN->(u:Ty)->u.ai->(t.ai->Option Z)->Option Z
 |t,_,[],u,y,k=>match cI u t y with
  |some z=>k z
  |none=>none
 | .cons t _,x,.f 0::p,u,y,k=>ez t x.1 p u y λa=>k (a,x.2)
 | .cons _ r,x,.f (n+1)::p,u,y,k=>ez r x.2 (.f n::p) u y λa=>k (x.1,a)
 | .slice t,xs,.i n::p,u,y,k=>match iH (α:=t.ai) xs n with
  |some x=>ez t x p u y λa=>k (List.set (α:=t.ai) xs n a)
  |none=>none
 | .arr _ t,xs,.i n::p,u,y,k=>if t.agg then none else match iH (α:=t.ai) xs n with
  |some x=>ez t x p u y λa=>k (List.set (α:=t.ai) xs n a)
  |none=>none
 |_,_,_,_,_,_=>none
def qx:TV->Nat->aN->(TV->Option Z)->Option Z
 | .cons (.ab (.slice t) xs) (.ab (.slice .bool) b),n,p,k=>match iH (α:=t.ai) xs n with
  |some x=>match iH (α:=Bool) b n with
   |some g=>cy t x p λu y=>cond (cond (aN.dM p|| !u.aY) g false) none (k (if u.aY then .ad u y else .ab u y))
   |none=>none
  |none=>none
 |_,_,_,_=>none
def nC:TV->Nat->aN->TV->(TV->Option Z)->Option Z
 | .cons (.ab (.slice t) xs) (.ab (.slice .bool) b),n,p,v,k=>match iH (α:=t.ai) xs n with
  |some x=>match iH (α:=Bool) b n with
   |some g=>cond g none (match v with
    | .un=>if lone t p then k (.tup (.cons (.ab (.slice t) xs) (.ab (.slice .bool) (List.set (α:=Bool) b n true)))) else none
    | .ab u y=>ez t x p u y λa=>k (.tup (.cons (.ab (.slice t) (List.set (α:=t.ai) xs n a)) (.ab (.slice .bool) b)))
    | .ad u y=>if u.aY then ez t x p u y λa=>k (.tup (.cons (.ab (.slice t) (List.set (α:=t.ai) xs n a)) (.ab (.slice .bool) b))) else none
    |_=>none)
   |none=>none
  |none=>none
 |_,_,_,_,_=>none
def Ws:TV->(Nat->Option Z)->Option Z
 | .cons (.ab (.slice t) xs) (.ab (.slice .bool) _),k=>k (List.length (α:=t.ai) xs)
 |_,_=>none
def dC:TV->aN->(TV->Option Z)->Option Z
 |c,[],k=>k c
 | .ab t x,p,k=>cy t x p λu y=>k (.ab u y)
 | .ad t x,p,k=>if aN.dM p then none else cy t x p λu y=>k (.ad u y)
 | .cons a _,.f 0::p,k=>dC a p k
 | .cons _ r,.f (n+1)::p,k=>dC r (.f n::p) k
 | .tup c,.i n::p,k=>qx c n p k
 |_,_,_=>none
def TV.c7:TV->TV
 | .ab (.cons t r) x=>.cons (.ab t x.1) (.ab r x.2)
 | .ab .unit _=>.unit
 | .ad (.cons t r) x=>.cons (.ad t x.1) (.ad r x.2)
 | .ad .unit _=>.unit
 |c=>c
def TV.dv:(t:Ty)->TV->Option t.ai
 |t,.ab u x=>cI u t x
 | .int k,.ad u x=>cI u (.int k) x
 | .bool,.ad u x=>cI u .bool x
 | .bR,.ad u x=>cI u .bR x
 | .slice t,.nil=>some ([]:List t.ai)
 | .unit,.unit=>some ()
 | .unit,.ad .unit _=>some ()
 | .cons t r,.cons a d=>match dv t a with
  |some x=>match dv r d with
   |some y=>some (x,y)
   |none=>none
  |none=>none
 | .cons t r,.ad (.cons c b) x=>match dv t (.ad c x.1) with
  |some a=>match dv r (.ad b x.2) with
   |some y=>some (a,y)
   |none=>none
  |none=>none
 |_,_=>none
def e5 (mk:(t:Ty)->t.ai->TV):(t:Ty)->t.ai->aN->TV->(TV->Option Z)->Option Z
 |_,_,[],v,k=>k v
 | .cons t r,x,.f 0::p,v,k=>e5 mk t x.1 p v λa=>k (.cons a (mk r x.2))
 | .cons t r,x,.f (n+1)::p,v,k=>e5 mk r x.2 (.f n::p) v λa=>k (.cons (mk t x.1) a)
 |_,_,_,_,_=>none
def b7:TV->aN->TV->(TV->Option Z)->Option Z
 |_,[],v,k=>k v
 | .ab t x,p,v,k=>match v with
  | .ab u y=>ez t x p u y λz=>k (.ab t z)
  | .ad u y=>if u.aY then ez t x p u y λz=>k (.ab t z) else e5 .ab t x p (.ad u y) k
  |v=>e5 .ab t x p v k
 | .ad t x,p,v,k=>e5 .ad t x p v k
 | .cons a r,.f 0::p,v,k=>b7 a p v λa=>k (.cons a r)
 | .cons a r,.f (n+1)::p,v,k=>b7 r (.f n::p) v λr=>k (.cons a r)
 | .tup c,.i n::p,v,k=>nC c n p v k
 |_,_,_,_=>none
end
structure D where
 t:Ty
 x:t.ai
inductive PM where
 |ro (t:Ty)
 |bt (t:Ty)
 |ptr (t:Ty)
 |mut (t:Ty)
 |ab (t:Ty)
 |bU (f:Nat) (b:List PM)
structure az where
 params:List PM
 results:List Ty
 h:{Z:Type}->List D->(List D->List D->Option Z)->Option Z
def az.g (c:az) (ds:List D):Option (List D×List D):=c.h ds λd b=>some (d,b)
def az.bq (c:az):Prop:=∀(Z:Type) (ds:List D) (k:List D->List D->Option Z),c.h ds k=match c.g ds with
 |none=>none
 |some (d,b)=>k d b
structure mQ where
 ab:List (Nat×Ty)
 ajn:List Nat
 ts:List Nat
 bs:List Nat
structure du where
 run:{Z:Type}->St->List TV->(St->TV->Option Z)->Option Z
 h3:Bool:=false
structure an where
 nt:Nat
 ty:List (Nat×Ty)
 fn:Nat->List Nat->Option az
 dX:List (Nat×mQ)
 fA:Nat:=1
 Oo:List Nat:=[]
 maps:List (Nat×Ty):=[]
 inl:Nat->List Nat->Option du:=λ_ _=>none
def aN.fY:aN->aN->Option aN
 |[],q=>some q
 | .f m::p,.f n::q=>if Nat.beq m n then aN.fY p q else none
 | .i _::p,.i _::q=>aN.fY p q
 |_,_=>none
def TV.ax (b:Nat) (p:aN):TV->TV
 | .ref c q=>if Nat.beq b c then (match aN.fY p q with|some r=>if aN.dM r then .un else .ref c q|none=>.ref c q) else .ref c q
 | .sl c q=>if Nat.beq b c then (match aN.fY p q with|some _=>.un|none=>.sl c q) else .sl c q
 | .slw c q lo n=>if Nat.beq b c then (match aN.fY p q with|some _=>.un|none=>.slw c q lo n) else .slw c q lo n
 | .mp c=>if Nat.beq b c then (match aN.fY p [] with|some _=>.un|none=>.mp c) else .mp c
 | .cons a r=>.cons (a.ax b p) (r.ax b p)
 | .tup a=>.tup (a.ax b p)
 | .bU f d=>.bU f (d.ax b p)
 |v=>v
def bm.ax (b:Nat) (p:aN) (x:bm):bm:={x with c:=x.c.ax b p}
def St.ax (s:St) (b:Nat) (p:aN):St:=
 {tmps:=s.tmps.map λx=>(x.1,x.2.ax b p),cg:=s.cg.map λx=>(x.1,x.2.ax b p),sv:=s.sv.map λl=>l.map λx=>(x.1,x.2.ax b p)}
def Mf:Value->TV
 | .int k n=>.ad (.int k) n
 | .bool b=>.ad .bool b
 | .string s=>if Nat.ble s.data.toList.length eK then .ad .bR s.data.toList else .un
 | .slice none 0 0=>.nil
 |_=>.un
def St.ev (s:St):Operand->TV
 | .tmp t=>s.get t
 | .const v=>Mf v
 | .func f=>.bU f .unit
 | .global _=>.un
def nI (b:Nat):(t:Ty)->t.ai->aN->Nat->TV
 | .slice _,_,p,_=>.sl b p
 | .cons t r,x,p,n=>
  if (Ty.cons t r).aY then .ad (.cons t r) x
  else .cons (nI b t x.1 (p++[.f n]) 0) (nI b r x.2 p (n+1))
 | .unit,_,_,_=>.unit
 |t,x,_,_=>if t.aY then .ad t x else .un
def u9 (b:Nat):TV->aN->Nat->TV
 | .ab (.cons t r) x,p,n=>nI b (.cons t r) x p n
 | .ab t x,p,_=>nI b t x p 0
 | .cons a r,p,n=>.cons (u9 b a (p++[.f n]) 0) (u9 b r p (n+1))
 | .tup _,_,_=>.un
 |c,_,_=>c
section
variable {Z:Type}
def b6 (s:St) (b:Nat) (k:bm->Option Z):Option Z:=
 match s.box b with
 |some x=>k x
 |none=>none
def hp (s:St) (t:Ty):TV->(List t.ai->Option Z)->Option Z
 | .nil,k=>k []
 | .ad u x,k=>match cI u (.slice t) x with
  |some xs=>k xs
  |none=>none
 | .sl b p,k=>b6 s b λx=>dC x.c p λc=>match c with
  | .ab u y=>match cI u (.slice t) y with
   |some xs=>k xs
   |none=>none
  | .tup (.ad u y)=>match cI u (.slice t) y with
   |some xs=>k xs
   |none=>none
  |_=>none
 | .slw b p lo n,k=>b6 s b λx=>dC x.c p λc=>match c with
  | .ab u y=>match cI u (.slice t) y with
   |some xs=>k ((List.drop (α:=t.ai) lo xs).take n)
   |none=>none
  |_=>none
 |_,_=>none
def dV (s:St):(t:Ty)->TV->(t.ai->Option Z)->Option Z
 | .slice t,v,k=>hp s t v k
 | .cons t r,.cons a d,k=>dV s t a λx=>dV s r d λy=>k (x,y)
 | .unit,.unit,k=>k ()
 |t,.ad u x,k=>match cI u t x with
  |some y=>k y
  |none=>none
 |_,_,_=>none
def eT (K:Ty):Ty:=.cons K (.cons (.int .i64) .unit)
def la:(K:Ty)->K.ai->K.ai->Bool
 | .int _,x,y=>(show Int from x)==(show Int from y)
 | .arr _ (.int _),x,y=>(show List Int from x)==(show List Int from y)
 |_,_,_=>false
def cZ (K:Ty) (key:K.ai):List (K.ai×Int×Unit)->Int
 |[]=>0
 |e::r=>if la K key e.1 then e.2.1 else cZ K key r
def dE (K:Ty) (key:K.ai) (v:Int):List (K.ai×Int×Unit)->List (K.ai×Int×Unit)
 |[]=>[(key,v,())]
 |e::r=>if la K key e.1 then (key,v,())::r else e::dE K key v r
def ib (K:Ty) (c:TV) (k:List (K.ai×Int×Unit)->Option Z):Option Z:=
 match c with
 | .tup (.ab u xs)=>match cI u (.slice (eT K)) xs with
  |some y=>k y
  |none=>none
 |_=>none
def jY (K:Ty) (v:TV) (k:K.ai->Option Z):Option Z:=
 match v with
 | .ad u x=>match cI u K x with
  |some y=>k y
  |none=>none
 |_=>none
def eQ:(t:Ty)->TV->(t.ai->Option Z)->Option Z
 |t,.ab u x,k=>match cI u t x with
  |some y=>k y
  |none=>none
 |t,.ad u x,k=>match cI u t x with
  |some y=>k y
  |none=>none
 | .slice _,.nil,k=>k []
 | .cons t r,.cons a d,k=>eQ t a λx=>eQ r d λy=>k (x,y)
 | .unit,.unit,k=>k ()
 |_,_,_=>none
def asInt (v:TV) (k:IntKind->Int->Option Z):Option Z:=
 match v with
 | .ad (.int b) n=>k b n
 |_=>none
def ys:List TV->Bool
 |[]=>true
 | .ad u _::r=>u.aY&&ys r
 |_=>false
def TV.MI:TV->Bool
 | .ref _ _=>true
 | .bt _ _=>true
 |_=>false
def TV.oO:TV->Option (List TV)
 | .unit=>some []
 | .cons a r=>if a.MI then (match r.oO with
  |some l=>some (a::l)
  |none=>none) else none
 |_=>none
def l1:TV->Nat
 | .bU f _=>f+1
 |_=>0
def TV.bY (p:Nat->Bool):TV->TV
 | .ref c q=>if p c then .ref c q else .un
 | .sl c q=>if p c then .sl c q else .un
 | .slw c q lo n=>if p c then .slw c q lo n else .un
 | .mp c=>if p c then .mp c else .un
 | .cons a r=>.cons (a.bY p) (r.bY p)
 | .tup a=>.tup (a.bY p)
 | .bU f b=>.bU f (b.bY p)
 |v=>v
def TV.drop (b:Nat) (v:TV):TV:=v.bY λc=> !Nat.beq b c
def oR {α:Type} (l:List (Nat×α)) (n:Nat):List (Nat×α):=
 match l with
 |[]=>[]
 |(k,x)::r=>if Nat.beq k n then oR r n else (k,x)::oR r n
def bm.bY (p:Nat->Bool) (x:bm):bm:={x with c:=x.c.bY p}
def St.drop (s:St) (b:Nat):St:=
 {tmps:=s.tmps.map λx=>(x.1,x.2.drop b),cg:=(oR s.cg b).map λx=>(x.1,x.2.bY λc=> !Nat.beq b c),sv:=s.sv.map λl=>l.map λx=>(x.1,x.2.drop b)}
def mem (l:List Nat) (n:Nat):Bool:=
 match l with
 |[]=>false
 |k::r=>if Nat.beq k n then true else mem r n
end
inductive Ex where
 |normal
 |exit (n:Nat)
 |ret
def hS:(t:Ty)->t.ai
 | .int _=>(0:Int)
 | .bool=>false
 | .bR=>([]:List UInt8)
 | .bz=>()
 | .slice t=>([]:List t.ai)
 | .unit=>()
 | .cons t r=>(hS t,hS r)
 | .arr n t=>List.replicate n (hS t)
def mD (t:Ty):TV:=match t with
 | .slice _=>.nil
 | .cons t r=>.cons (mD t) (mD r)
 | .unit=>.unit
 | .bz=>.un
 |t=>.ad t (hS t)
def Ty.fE:Ty->Bool
 | .bz=>false
 | .slice t=>t.fE
 | .cons t r=>t.fE&&r.fE
 | .arr _ t=>t.fE
 |_=>true
def bg:Nat:=4294967296
def an.iO (E:an) (t:Nat):Option Ty:=lk E.ty t
def TV.FJ:TV->Bool
 | .ref _ _=>true
 |_=>false
section
variable {Z:Type}
def St.gp (s:St) (b:Nat):Bool:=match s.box b with
 |some x=>x.cm&& !x.dI&&ahQ x.c
 |none=>false
def cj (s:St):(t:Ty)->TV->(St->TV->(TV->TV)->Option Z)->Option Z
 | .slice t,.nil,k=>k s (.ab (.slice t) ([]:List t.ai)) id
 | .slice t,.sl b p,k=>if aN.dM p&& !s.gp b then k s (.sl b p) id else
  b6 s b λx=>dC x.c p λc=>match c with
  | .ab u y=>if x.dI|| !decide (u=.slice t) then none else b7 x.c p .un λc'=>k ((s.b2 b {x with c:=c'}).ax b p) (.ab u y) (λe=>e.ax b p)
  |_=>none
 | .slice t,.slw b p lo n,k=>if aN.dM p|| !Nat.beq lo 0 then none else
  b6 s b λx=>dC x.c p λc=>match c with
  | .ab u y=>if x.dI then none else (match cI u (.slice t) y with
   |some z=>b7 x.c p .un λc'=>k ((s.b2 b {x with c:=c'}).ax b p) (.ab (.slice t) (List.take (α:=t.ai) n z)) (λe=>e.ax b p)
   |none=>none)
  |_=>none
 | .cons t r,.cons a d,k=>cj s t a λs a' κ=>cj s r (κ d) λs h g=>k s (.cons (g a') h) (λe=>g (κ e))
 | .unit,.unit,k=>k s .unit id
 |t,.ad u x,k=>if decide (u=t) then k s (.ad u x) id else none
 | .bz,.ref b p,k=>k s (.ref b p) id
 | .bz,.bt t x,k=>k s (.bt t x) id
 | .bz,.bU f c,k=>k s (.bU f c) id
 | .bz,.mp b,k=>k s (.mp b) id
 |_,_,_=>none
def o8 (t:Ty) (p:aN) (c:TV):TV:=
 match c with
 | .cons a d=>if aN.dM p then (match TV.dv t (.cons a d) with
  |some y=>.ab t y
  |none=>.cons a d) else .cons a d
 | .ad (.arr n u) x=>if (Ty.arr n u).aY then .ab (.arr n u) x else .ad (.arr n u) x
 |c=>c
def lv (s:St) (t:Ty) (a v:TV) (k:St->Option Z):Option Z:=
 match a with
 | .ref d e=>cj s t v λs c κ=>match κ (.ref d e) with
  | .ref b p=>b6 s b λx=>if (x.cm&&p.isEmpty)|| !decide (cE x.ty p=some t) then none else b7 x.c p (o8 t p c) λc'=>
   match c with
   | .ad u _=>if u.aY then k (s.b2 b {x with c:=c'}) else k ((s.b2 b {x with c:=c'}).ax b p)
   |_=>k ((s.b2 b {x with c:=c'}).ax b p)
  |_=>none
 |_=>none
def gF:(t:Ty)->TV->Option TV
 | .slice t,.nil=>some (.ab (.slice t) ([]:List t.ai))
 | .slice _,.sl b p=>some (.sl b p)
 | .cons t r,.cons a d=>match gF t a with
  |some x=>match gF r d with
   |some y=>some (.cons x y)
   |none=>none
  |none=>none
 | .unit,.unit=>some .unit
 |t,.ad u x=>if decide (u=t) then some (.ad u x) else none
 |_,_=>none
def lu (s:St) (t:Ty) (a v:TV) (k:St->Option Z):Option Z:=
 match a with
 | .ref b p=>match gF t v with
  |some c=>b6 s b λx=>if (x.cm&&p.isEmpty)|| !decide (cE x.ty p=some t) then none else b7 x.c p (o8 t p c) λc'=>
   match c with
   | .ad u _=>if u.aY then k (s.b2 b {x with c:=c'}) else k ((s.b2 b {x with c:=c'}).ax b p)
   |_=>k ((s.b2 b {x with c:=c'}).ax b p)
  |none=>none
 |_=>none
def kx (s:St) (t:Ty) (a:TV) (k:TV->Option Z):Option Z:=
 match a with
 | .ref b p=>b6 s b λx=>if decide (cE x.ty p=some t) then dC x.c p λc=>k (u9 b c p 0) else none
 | .bt u x=>if decide (u=t) then k (.ad u x) else none
 |_=>none
def Ma (op:BinOp) (x y:Int):Option Bool:=
 match op with
 | .eql=>some (x==y)
 | .neq=>some (x !=y)
 | .lss=>some (decide (x<y))
 | .leq=>some (decide (x<=y))
 | .gtr=>some (decide (x>y))
 | .geq=>some (decide (x>=y))
 |_=>none
def Ty.qX:Ty->Nat
 | .cons t r=>max (t.qX+1) r.qX
 |_=>0
def Ty.plain:Ty->Bool
 | .int _| .bool| .bR| .unit=>true
 | .cons t r=>t.plain&&r.plain
 |_=>false
def h2:(t:Ty)->t.ai->t.ai->Bool
 | .int _,x,y=>(show Int from x)==(show Int from y)
 | .bool,x,y=>(show Bool from x)==(show Bool from y)
 | .bR,x,y=>(show List UInt8 from x)==(show List UInt8 from y)
 | .unit,_,_=>true
 | .cons t r,x,y=>h2 t x.1 y.1&&h2 r x.2 y.2
 |_,_,_=>false
def jW (op:BinOp) (c:IntKind) (x y:Int) (k:TV->Option Z):Option Z:=
 match op with
 | .shl=>match y with
  | .ofNat n=>k (.ad (.int c) (c.wrap (x*2^(min n c.bits))))
  | .negSucc _=>none
 | .shr=>match y with
  | .ofNat n=>k (.ad (.int c) (Int.fdiv x (2^(min n c.bits))))
  | .negSucc _=>none
 | .add=>k (.ad (.int c) (c.wrap (x+y)))
 | .sub=>k (.ad (.int c) (c.wrap (x-y)))
 | .mul=>k (.ad (.int c) (c.wrap (x*y)))
 | .quo=>match y with
  | .ofNat 0=>none
  | .ofNat (n+1)=>k (.ad (.int c) (c.wrap (Int.tdiv x (.ofNat (n+1)))))
  | .negSucc n=>k (.ad (.int c) (c.wrap (Int.tdiv x (.negSucc n))))
 | .rem=>match y with
  | .ofNat 0=>none
  | .ofNat (n+1)=>k (.ad (.int c) (Int.tmod x (.ofNat (n+1))))
  | .negSucc n=>k (.ad (.int c) (Int.tmod x (.negSucc n)))
 | .and=>k (.ad (.int c) (c.wrap ((BitVec.ofInt c.bits x&&&BitVec.ofInt c.bits y).toNat:Int)))
 | .or=>k (.ad (.int c) (c.wrap ((BitVec.ofInt c.bits x|||BitVec.ofInt c.bits y).toNat:Int)))
 | .xor=>k (.ad (.int c) (c.wrap ((BitVec.ofInt c.bits x^^^BitVec.ofInt c.bits y).toNat:Int)))
 |op=>match Ma op x y with
  |some b=>k (.ad .bool b)
  |none=>none
def Oq:BinOp->Bool
 | .shl| .shr=>true
 |_=>false
def tE (op:BinOp) (T:Option Ty) (a b:TV) (k:TV->Option Z):Option Z:=
 match a,b with
 | .ad (.int c) x,.ad (.int d) y=>if Oq op||decide (c=d) then jW op c x y k else none
 | .ad .bR x,.ad .bR y=>
  match op with
  | .add=>if decide (List.length (α:=UInt8) x+List.length (α:=UInt8) y<=bg) then k (.ad .bR (List.append (α:=UInt8) x y)) else none
  | .eql=>k (.ad .bool ((show List UInt8 from x)==(show List UInt8 from y)))
  | .neq=>k (.ad .bool (!((show List UInt8 from x)==(show List UInt8 from y))))
  |_=>none
 | .ad .bool x,.ad .bool y=>if !decide (T=some .bool) then none else
  match op with
  | .eql=>k (.ad .bool ((show Bool from x)==(show Bool from y)))
  | .neq=>k (.ad .bool (!((show Bool from x)==(show Bool from y))))
  |_=>none
 | .ad (.cons t r) x,.ad u y=>
  if (Ty.cons t r).plain&&Nat.blt (Ty.cons t r).qX 9999&&decide (T=some (.cons t r)) then match cI u (.cons t r) y with
   |some y=>match op with
    | .eql=>k (.ad .bool (h2 (.cons t r) x y))
    | .neq=>k (.ad .bool (!(h2 (.cons t r) x y)))
    |_=>none
   |none=>none
  else none
 |_,_=>none
def jx (s:St):TV->(Nat->Option Z)->Option Z
 | .nil,k=>k 0
 | .ad (.slice t) x,k=>k (List.length (α:=t.ai) x)
 | .sl b p,k=>b6 s b λx=>dC x.c p λc=>match c with
  | .ab (.slice t) y=>k (List.length (α:=t.ai) y)
  | .tup c=>Ws c k
  |_=>none
 | .slw _ _ _ n,k=>k n
 |_,_=>none
def eh (n:Nat) (i:Int) (k:Nat->Option Z):Option Z:=
 match i with
 | .ofNat m=>match Nat.blt m n with
  |true=>k m
  |false=>none
 | .negSucc _=>none
def nh (s:St) (T:Ty) (x i:TV) (k:TV->Option Z):Option Z:=
 asInt i λ_ i=>match x with
 | .ad (.slice t) xs=>if decide (T=.slice t) then (match oX (α:=t.ai) xs i with
  |some a=>k (.bt t a)
  |none=>none) else none
 | .sl b p=>b6 s b λx=>if decide (cE x.ty p=some T) then (jx s (.sl b p) λn=>eh n i λm=>k (.ref b (p++[.i m]))) else none
 | .slw b p lo n=>b6 s b λx=>if decide (cE x.ty p=some T) then eh n i λm=>k (.ref b (p++[.i (lo+m)])) else none
 | .ref b p=>b6 s b λx=>if decide (cE x.ty p=some T) then (match T with
  | .arr n t=>if t.agg||Nat.ble n 1 then none else eh n i λm=>k (.ref b (p++[.i m]))
  |_=>none) else none
 |_=>none
def fR:TV->Nat->Option TV
 | .cons a _,0=>some a
 | .cons _ r,n+1=>fR r n
 | .ad (.cons t _) x,0=>some (.ad t x.1)
 | .ad (.cons _ r) x,n+1=>fR (.ad r x.2) n
 |_,_=>none
def TV.sz:TV->Nat
 | .ad t _=>t.size
 | .unit=>0
 | .cons a r=>a.sz+r.sz
 |_=>1
def TV.mw:TV->Bool
 | .un| .tup _| .ab _ _=>false
 |_=>true
def l8 {β:Type} (x:Nat×β):List (Nat×β)->List (Nat×β)
 |[]=>[x]
 |y::l=>match Nat.blt y.1 x.1 with
  |true=>y::l8 x l
  |false=>x::y::l
def pk {β:Type}:List (Nat×β)->List (Nat×β)
 |[]=>[]
 |x::l=>l8 x (pk l)
def hb (s:St):(t:Ty)->Nat->List (Nat×Operand)->(TV->Option Z)->Option Z
 | .cons t r,n,(i,x)::b,k=>match Nat.beq i n with
  |true=>if (s.ev x).mw&&Nat.beq (s.ev x).sz t.size then hb s r (n+1) b λd=>k (.cons (s.ev x) d) else none
  |false=>hb s r (n+1) ((i,x)::b) λd=>k (.cons (mD t) d)
 | .cons t r,n,[],k=>hb s r (n+1) [] λd=>k (.cons (mD t) d)
 | .unit,_,[],k=>k .unit
 |_,_,_,_=>none
def uQ:Nat->List (Nat×Operand)->Bool
 |_,[]=>true
 |n,x::l=>Nat.beq x.1 n&&uQ (n+1) l
def m9 (s:St) (t:Ty) (kl:TV->TV):List TV->(St->List t.ai->Option Z)->Option Z
 |[],k=>k s []
 |v::vs,k=>cj s t (kl v) λs c κ=>match c.dv t with
  |some x=>m9 s t (λd=>κ (kl d)) vs λs xs=>k s (x::xs)
  |none=>none
def j1 (s:St) (id:Nat) (x:bm) (k:St->Option Z):Option Z:=
 match Nat.beq (id%32) 0 with
 |true=>none
 |false=>match s.box id with
  |some _=>none
  |none=>k {s with cg:=(id,x)::s.cg}
def er (o d:Nat):Nat:=d*32+o%32
def lh (s:St) (o d:Nat) (t:Ty) (xs:List t.ai) (k:St->Option Z):Option Z:=
 j1 s (er o d) ⟨.slice t,true,false,.ab (.slice t) xs⟩ λs=>k (s.put d (.sl (er o d) []))
def qM (s:St) (o d:Nat) (t:Ty) (xs:List t.ai) (k:St->Option Z):Option Z:=
 j1 s (er o d) ⟨.slice t,true,false,.tup (.ad (.slice t) xs)⟩ λs=>k (s.put d (.sl (er o d) []))
def yE (t:Ty):List TV->Option (List t.ai)
 |[]=>some []
 | .ad u x::vs=>match cI u t x with
  |some y=>match yE t vs with
   |some b=>some (y::b)
   |none=>none
  |none=>none
 |_=>none
def MX (u:Ty) (vs:List TV):Option (List u.ai):=
 match u,vs with
 | .slice t,v::vs=>yE (.slice t) (v::vs)
 |_,_=>none
def newVar (s:St) (o d:Nat) (t:Ty) (c:TV) (k:St->Option Z):Option Z:=
 j1 s (er o d) ⟨t,false,false,c⟩ λs=>k (s.put d (.ref (er o d) []))
def ej (s:St):List PM->List TV->(St->List TV->(TV->TV)->Option Z)->Option Z
 |[],[],k=>k s [] id
 |m::b,v::vs,k=>match m with
  | .ab (.slice t)=>cj s (.slice t) v λs c κ=>match c.dv (.slice t) with
   |some x=>ej s b (vs.map κ) λs vs d=>k s (.ab (.slice t) x::vs) (λe=>d (κ e))
   |none=>none
  | .ab _=>none
  |_=>ej s b vs λs vs κ=>k s (κ v::vs) κ
 |_,_,_=>none
def PM.fh:PM->Bool
 | .ptr _| .mut _=>true
 |_=>false
def cH (s:St):List PM->List TV->(St->List TV->(TV->TV)->Option Z)->Option Z
 |[],[],k=>k s [] id
 |m::d,v::vs,k=>match m,v with
  | .ptr t,.ref b []=>b6 s b λx=>if x.cm||d.any PM.fh|| !decide (x.ty=t) then none else match x.c.dv t with
   |some y=>k (s.drop b) (.ab t y::vs.map (TV.drop b)) (TV.drop b)
   |none=>none
  | .ptr _,_=>none
  | .mut (.slice t),.nil=>if d.any PM.fh then none else k s (.ab (.slice t) ([]:List t.ai)::vs) id
  | .mut (.slice t),.sl b p=>if aN.dM p||d.any PM.fh then none else b6 s b λx=>dC x.c p λc=>match c with
   | .ab u y=>if decide (u=.slice t) then b7 x.c p .un λc'=>k (((s.b2 b {x with dI:=false}).b2 b {x with dI:=false,c:=c'}).ax b p) (.ab u y::vs.map (TV.ax b p)) (TV.ax b p) else none
   |_=>none
  | .mut _,_=>none
  |_,v=>cH s d vs λs vs κ=>k s (κ v::vs) κ
 |_,_,_=>none
def gJ (s:St):PM->TV->(D->Option Z)->Option Z
 | .ro t,v,k=>dV s t v λx=>k ⟨t,x⟩
 | .bt t,.bt u x,k=>match cI u t x with
  |some y=>k ⟨t,y⟩
  |none=>none
 | .bt t,.ref b p,k=>b6 s b λx=>if decide (cE x.ty p=some t) then (dC x.c p λc=>eQ t c λy=>k ⟨t,y⟩) else none
 |_,_,_=>none
def uh (s:St):List PM->List TV->(List D->Option Z)->Option Z
 |[],[],k=>k []
 |m::b,v::vs,k=>gJ s m v λd=>uh s b vs λds=>k (d::ds)
 |_,_,_=>none
def jz (s:St):PM->TV->(List D->Option Z)->Option Z
 | .ptr t,.ab u x,k=>if decide (u=t) then k [⟨u,x⟩] else none
 | .mut t,.ab u x,k=>if decide (u=t) then k [⟨u,x⟩] else none
 | .ab t,.ab u x,k=>if decide (u=t) then k [⟨u,x⟩] else none
 | .bU f c,.bU g b,k=>if Nat.beq f g then (match b.oO with
  |some l=>uh s c l k
  |none=>none) else none
 |m,v,k=>gJ s m v λd=>k [d]
def iJ (s:St):List PM->List TV->(List D->Option Z)->Option Z
 |[],[],k=>k []
 |m::b,v::vs,k=>jz s m v λd=>iJ s b vs λds=>k (d++ds)
 |_,_,_=>none
def eD (s:St):PM->TV->List D->(St->List D->Option Z)->Option Z
 | .ptr t,.ref b [],d::ds,k=>if decide (d.t=t) then b6 s b λx=>k ((s.b2 b {x with c:=.ab d.t d.x}).ax b []) ds else none
 | .mut _,.nil,_::ds,k=>k s ds
 | .mut t,.sl b p,d::ds,k=>if decide (d.t=t) then b6 s b λx=>b7 x.c p (.ab d.t d.x) λc=>
  match t with
  | .slice u=>if u.aY then k (s.b2 b {x with c:=c}) ds else k ((s.b2 b {x with c:=c}).ax b p) ds
  |_=>none
  else none
 | .ptr _,_,_,_=>none
 | .mut _,_,_,_=>none
 |_,_,ds,k=>k s ds
def gU (s:St):List PM->List TV->List D->(St->Option Z)->Option Z
 |[],[],[],k=>k s
 |m::b,v::vs,ds,k=>eD s m v ds λs ds=>gU s b vs ds k
 |_,_,_,_=>none
def fX (s:St) (id:Nat):(t:Ty)->t.ai->(St->Nat->TV->Option Z)->Option Z
 | .slice t,x,k=>j1 s id ⟨.slice t,true,false,.ab (.slice t) x⟩ λs=>k s (id+1) (.sl id [])
 | .cons t r,x,k=>if (Ty.cons t r).aY then k s id (.ad (.cons t r) x) else fX s id t x.1 λs id a=>fX s id r x.2 λs id d=>k s id (.cons a d)
 | .unit,_,k=>k s id .unit
 |t,x,k=>if t.aY then k s id (.ad t x) else none
def nD (s:St) (id:Nat):List D->(St->TV->Option Z)->Option Z
 |[],k=>k s .unit
 |d::ds,k=>fX s id d.t d.x λs id a=>nD s id ds λs r=>k s (.cons a r)
def qY (s:St) (o:Nat) (dst:Option Nat) (b:List D) (k:St->Option Z):Option Z:=
 match dst with
 |none=>k s
 |some d=>nD s (er o d) b λs v=>match b,v with
  |[_],.cons a .unit=>k (s.put d a)
  |_,v=>k (s.put d (.tup v))
def i0 (E:an) (s:St) (f:Nat) (vs:List TV) (dst:Option Nat) (k:St->Option Z):Option Z:=
 match E.fn f (vs.map l1) with
 |none=>match E.inl f (vs.map l1) with
  |none=>none
  |some I=>I.run s vs λs v=>match dst with
   |some d=>k (s.put d v)
   |none=>k s
 |some c=>ej s c.params vs λs vs _=>cH s c.params vs λs1 g _=>iJ s1 c.params g λds=>c.h ds λe b=>gU s c.params vs b λs=>qY s E.fA dst e k
def nr (s:St) (t:Ty) (b:Ty) (v:TV) (k:St->List t.ai->(TV->TV)->Option Z):Option Z:=
 match b with
 | .bR=>match v with
  | .ad .bR x=>match cI (.slice (.int .u8)) (.slice t) (List.map (λc:UInt8=>(c.toNat:Int)) x) with
   |some xs=>k s xs id
   |none=>none
  |_=>none
 | .slice _=>if t.aY then hp s t v λxs=>k s xs id
  else cj s (.slice t) v λs c κ=>match c.dv (.slice t) with
   |some xs=>k s xs κ
   |none=>none
 |_=>none
def qk (s:St) (o d:Nat) (t e:Ty) (x y:TV) (k:St->Option Z):Option Z:=if !t.fE then none else
 nr s t e y λs b κ=>cj s (.slice t) (κ x) λs c _=>match c.dv (.slice t) with
  |some xs=>match Nat.ble (List.length (α:=t.ai) xs+b.length) bg with
   |true=>lh s o d t (List.append (α:=t.ai) xs b) k
   |false=>none
  |none=>none
def dj (o:Oper) (s:St) (k:St->Option Z) (v:TV):Option Z:=
 match o.dst with
 |some d=>k (s.put d v)
 |none=>k s
def builtinK (E:an) (o:Oper) (s:St) (b:Builtin) (ts:List Nat) (vs:List TV) (k:St->Option Z):Option Z:=
 match b,ts,vs with
 | .len,t::_,[v]=>match E.iO t with
  |some (.slice _)=>jx s v λn=>dj o s k (.ad (.int .i64) (n:Int))
  |some .bR=>match v with
   | .ad .bR x=>dj o s k (.ad (.int .i64) (List.length (α:=UInt8) x:Int))
   |_=>none
  |some .bz=>match lk E.maps t with
   |some K=>match v with
    | .mp b=>b6 s b λx=>ib K x.c λxs=>dj o s k (.ad (.int .i64) (xs.length:Int))
    |_=>none
   |none=>none
  |_=>none
 | .append,[t,tx],[x,y]=>match E.iO t,E.iO tx,o.dst with
  |some (.slice t),some g,some d=>qk s E.fA d t g x y k
  |_,_,_=>none
 | .min,_,[x,y]=>asInt x λe a=>asInt y λf b=>if decide (e=f) then dj o s k (.ad (.int e) (min (α:=Int) a b)) else none
 | .max,_,[x,y]=>asInt x λe a=>asInt y λf b=>if decide (e=f) then dj o s k (.ad (.int e) (max (α:=Int) a b)) else none
 |_,_,_=>none
def lZ (n:Nat) (lo hi:Option TV) (k:Nat->Nat->Option Z):Option Z:=
 match hi with
 |none=>match lo with
  |none=>k 0 n
  |some v=>asInt v λ_ l=>eh (n+1) l λl=>k l n
 |some v=>asInt v λ_ h=>eh (n+1) h λh=>match lo with
  |none=>k 0 h
  |some v=>asInt v λ_ l=>eh (h+1) l λl=>k l h
def j6 (s:St) (T:Ty) (x:TV) (lo hi:Option TV) (k:TV->Option Z):Option Z:=
 match T with
 | .bR=>match x with
  | .ad .bR x=>lZ (List.length (α:=UInt8) x) lo hi λl h=>k (.ad .bR ((List.take (α:=UInt8) h x).drop l))
  |_=>none
 | .slice t=>jx s x λn=>lZ n lo hi λl h=>match x with
  | .ad (.slice u) x=>if decide (u=t) then k (.ad (.slice u) ((List.take (α:=u.ai) h x).drop l)) else none
  | .sl b p=>b6 s b λbx=>if decide (cE bx.ty p=some (.slice t)) then (match lo.isNone&&(Nat.beq l 0&&Nat.beq h n) with
   |true=>k (.sl b p)
   |false=>k (.slw b p l (h-l))) else none
  | .slw b p c _=>b6 s b λbx=>if decide (cE bx.ty p=some (.slice t)) then k (.slw b p (c+l) (h-l)) else none
  | .nil=>k .nil
  |_=>none
 |_=>none
def dW (E:an) (t:Nat) (k:Ty->Option Z):Option Z:=
 match E.iO t with
 |some T=>k T
 |none=>none
def a8 (E:an) (o:Oper) (s:St) (k:St->Option Z):Option Z:=
 match o.op with
 | .move x| .assign x=>dj o s k (s.ev x)
 | .pick c a b=>match s.ev c with
  | .ad .bool t=>match t with
   |true=>dj o s k (s.ev a)
   |false=>dj o s k (s.ev b)
  |_=>none
 | .alloc t=>match o.dst with
  |some d=>dW E t λT=>if T.fE then newVar s E.fA d T (.ab T (hS T)) k else match T with
   | .bz=>newVar s E.fA d T .un k
   |_=>none
  |none=>none
 | .box t x=>match o.dst with
  |some d=>dW E t λT=>match mem E.Oo d with
   |true=>(match gF T (s.ev x) with
    |some c=>newVar s E.fA d T c k
    |none=>none)
   |false=>cj s T (s.ev x) λs c _=>newVar s E.fA d T c k
  |none=>none
 | .build t parts=>dW E t λT=>match T with
  | .cons a r=>if (Ty.cons a r).fE then hb s (.cons a r) 0 (pk parts.toList) λv=>if (Ty.cons a r).aY then dV s (.cons a r) v λx=>dj o s k (.ad (.cons a r) x) else dj o s k v else none
  | .arr n u=>match parts.toList with
   |[]=>dj o s k (.ad (.arr n u) (hS (.arr n u)))
   |[(0,x),(1,y)]=>if decide (Ty.arr n u=.arr 2 (.int .i64)) then (match s.ev x,s.ev y with
    | .ad (.int .i64) p,.ad (.int .i64) q=>dj o s k (.ad (.arr 2 (.int .i64)) (List.cons (α:=Int) p (List.cons (α:=Int) q [])))
    |_,_=>none) else none
   |_=>none
  |_=>none
 | .buildSlice t len parts=>match o.dst with
  |some d=>dW E t λT=>match T with
   | .slice u=>if Nat.beq parts.toList.length len&&uQ 0 parts.toList&&u.fE&&Nat.ble (len*u.size) 16777216&&(Nat.blt 0 u.size) then (match MX u (parts.toList.map λx=>s.ev x.2) with
    |some xs=>qM s E.fA d u xs k
    |none=>m9 s u id (parts.toList.map λx=>s.ev x.2) λs xs=>lh s E.fA d u xs k) else none
   |_=>none
  |none=>none
 | .load t a=>dW E t λT=>kx s T (s.ev a) (dj o s k)
 | .store t a x=>dW E t λT=>lv s T (s.ev a) (s.ev x) k
 | .nilCheck x=>match s.ev x with
  | .ref b p=>dj o s k (.ref b p)
  | .bt t y=>dj o s k (.bt t y)
  | .bU f c=>dj o s k (.bU f c)
  |_=>none
 | .binOp op t x y _=>tE op (E.iO t) (s.ev x) (s.ev y) (dj o s k)
 | .unOp op _ x=>match op,s.ev x with
  | .not,.ad .bool b=>dj o s k (.ad .bool (!(show Bool from b)))
  | .neg,.ad (.int g) n=>jW .sub g 0 n (dj o s k)
  |_,_=>none
 | .convert u t x=>dW E u λU=>dW E t λT=>match U,T,s.ev x with
  | .int _,.int g,.ad (.int _) n=>dj o s k (.ad (.int g) (g.wrap n))
  | .slice (.int .u8),.bR,v=>hp s (.int .u8) v λxs=>dj o s k (.ad .bR (List.map (λn:Int=>UInt8.ofNat n.toNat) xs))
  |_,_,_=>none
 | .makeSlice t n c=>match o.dst with
  |some d=>dW E t λT=>match T with
   | .slice u=>asInt (s.ev n) λ_ n=>asInt (s.ev c) λ_ c=>match n,c with
    | .ofNat n,.ofNat c=>if Nat.beq n c&&Nat.ble n bg&&u.fE then lh s E.fA d u (List.replicate n (hS u)) k else none
    |_,_=>none
   |_=>none
  |none=>none
 | .makeMap t n=>match n,o.dst with
  |none,some d=>match lk E.maps t with
   |some K=>j1 s (er E.fA d) ⟨.slice (eT K),true,false,.tup (.ab (.slice (eT K)) (show List (K.ai×Int×Unit) from []))⟩ λs=>k (s.put d (.mp (er E.fA d)))
   |none=>none
  |_,_=>none
 | .lookup t m x ok=>match ok,lk E.maps t,s.ev m with
  |false,some K,.mp b=>b6 s b λbx=>ib K bx.c λxs=>jY K (s.ev x) λkey=>dj o s k (.ad (.int .i64) (cZ K key xs))
  |_,_,_=>none
 | .mapUpdate t m x v=>match o.dst,lk E.maps t,s.ev m,s.ev v with
  |none,some K,.mp b,.ad (.int .i64) y=>b6 s b λbx=>if bx.cm then (ib K bx.c λxs=>jY K (s.ev x) λkey=>k (s.b2 b {bx with c:=.tup (.ab (.slice (eT K)) (show List (K.ai×Int×Unit) from dE K key y xs))})) else none
  |_,_,_,_=>none
 | .slice h x lo hi max=>match max with
  |none=>dW E h λT=>j6 s T (s.ev x) (lo.map s.ev) (hi.map s.ev) (dj o s k)
  |some _=>none
 | .fieldAddr t x n=>dW E t λT=>match s.ev x with
  | .ref b p=>b6 s b λbx=>if decide (cE bx.ty p=some T) then (match cE T [.f n] with
   |some _=>dj o s k (.ref b (p++[.f n]))
   |none=>none) else none
  | .bt u y=>if decide (u=T) then cy u y [.f n] λu z=>dj o s k (.bt u z) else none
  |_=>none
 | .field t x n=>dW E t λT=>match s.ev x with
  | .ad u y=>if decide (u=T) then cy u y [.f n] λu z=>dj o s k (.ad u z) else none
  |_=>none
 | .indexAddr t x i=>dW E t λT=>nh s T (s.ev x) (s.ev i) (dj o s k)
 | .index t x i=>dW E t λT=>asInt (s.ev i) λ_ i=>match T,s.ev x with
  | .bR,.ad .bR y=>match oX (α:=UInt8) y i with
   |some c=>dj o s k (.ad (.int .u8) (c.toNat:Int))
   |none=>none
  | .arr n t,.ad (.arr m u) y=>if decide (Ty.arr m u=Ty.arr n t) then (match oX (α:=u.ai) y i with
   |some c=>dj o s k (.ad u c)
   |none=>none) else none
  |_,_=>none
 | .extract x n=>match s.ev x with
  | .tup v=>match fR v n with
   |some v=>dj o s k v
   |none=>none
  |_=>none
 | .makeFunc fn first e=>match fn,first.toList with
  | .func f,[]=>if e.toList.all λx=>(s.ev x).FJ then dj o s k (.bU f (e.toList.foldr (λx r=>.cons (s.ev x) r) .unit)) else none
  |_,_=>none
 | .call c=>match c.callee with
  | .builtin b=>builtinK E o s b c.argTypes.toList (c.args.toList.map s.ev) k
  | .value f=>match s.ev f with
   | .bU f e=>match e.oO with
    |some l=>i0 E s f (c.args.toList.map s.ev++l) o.dst k
    |none=>none
   |_=>none
  |_=>none
 |_=>none
def dF (E:an) (o:Oper) (s:St) (k:St->Option Z):Option Z:=
 match o.dst with
 |some d=>match Nat.blt d E.nt with
  |true=>match o.op with
   | .store _ _ _=>none
   |_=>a8 E o s k
  |false=>none
 |none=>a8 E o s k
def kC (E:an) (ops:Array Oper) (k:St->Option Z):List Oper->St->Option Z
 |[],s=>k s
 |o::bn,s=>match o.guard with
  |none=>dF E o s (kC E ops k bn)
  |some (j,want)=>match (ops[j]?).bind (·.dst) with
   |none=>none
   |some d=>match s.get d with
    | .ad .bool b=>match b with
     |true=>if want then dF E o (s.put d (.ad .bool true)) (kC E ops k bn) else kC E ops k bn (match o.dst with|some e=>(s.put d (.ad .bool true)).put e (.tup .unit)|none=>s.put d (.ad .bool true))
     |false=>if want then kC E ops k bn (match o.dst with|some e=>(s.put d (.ad .bool false)).put e (.tup .unit)|none=>s.put d (.ad .bool false)) else dF E o (s.put d (.ad .bool false)) (kC E ops k bn)
    | .tup .unit=>kC E ops k bn (match o.dst with|some e=>s.put e (.tup .unit)|none=>s)
    |_=>none
def dQ (o:Oper):List Nat:=(o.after.toList.filter λe=>Region.binds .any e).map (·.on)
def apL:Operand->Option Nat
 | .tmp t=>some t
 |_=>none
def e1 (ops:List Oper) (o:Oper):List Nat:=
 o.op.operands.toList.filterMap apL++(match o.guard with
 |some (j,_)=>((ops[j]?).bind (·.dst)).toList
 |none=>[])
def nj (t:Nat) (o:Oper):Bool:=match o.dst with
 |some d=>Nat.beq d t
 |none=>false
def ha:List Oper->List Nat->List Nat
 |[],acc=>acc
 |o::r,acc=>ha r (acc++[(dQ o).foldr (λj m=>(2^j|||acc.getD j 0)|||m) 0])
def Lq (bs:List Nat) (i:Nat):Option (List Nat):=
 let un:=(List.range bs.length).filter λj=> !(Nat.beq j i||(if Nat.blt j i then (bs.getD i 0).testBit j else (bs.getD j 0).testBit i))
 if un.all λj=>Nat.blt j i then some un else none
def Mi (bs:List Nat) (ops:List Oper) (i:Nat) (o:Oper):Bool:=
 ((dQ o).all λj=>Nat.blt j i)&&(match o.guard with
  |some (j,_)=>mem (dQ o) j
  |none=>true)&&
 ((e1 ops o).all λt=>ops.zipIdx.all λx=> !nj t x.1||(mem (dQ o) x.2||Nat.blt i x.2&&(bs.getD x.2 0).testBit i))&&
 (match o.dst with
  |some d=>ops.zipIdx.all λx=> !nj d x.1||Nat.beq x.2 i
  |none=>true)
def Mh (ops:List Oper):Bool:=ops.zipIdx.all λx=>Mi (ha ops []) ops x.2 x.1
def jm (ops:List Oper):List (Option (List Nat)):=(List.range ops.length).map (Lq (ha ops []))
def qV:Op->Bool
 | .move _| .assign _| .pick _ _ _| .load _ _| .nilCheck _| .binOp _ _ _ _ _| .unOp _ _ _| .convert _ _ _| .slice _ _ _ _ _
 | .fieldAddr _ _ _| .field _ _ _| .indexAddr _ _ _| .index _ _ _| .extract _ _| .build _ _| .alloc _| .makeSlice _ _ _| .makeMap _ _| .lookup _ _ _ _=>true
 | .call c=>match c.callee with
  | .builtin .len=>true
  |_=>false
 |_=>false
def PM.gv:PM->Bool
 | .ro _| .bt _=>true
 |_=>false
def TV.aK:TV->List Nat
 | .ref b _| .sl b _| .slw b _ _ _| .mp b=>[b]
 | .cons a r=>a.aK++r.aK
 | .tup a=>a.aK
 | .bU _ c=>c.aK
 |_=>[]
def az.plain (c:az):Bool:=c.params.all λm=>match m with
 | .bU _ _=>false
 |_=>true
def tM (E:an) (p:az->Bool) (o:Oper) (s:St):Bool:=
 match o.op with
 | .call c=>match c.callee with
  | .value g=>match s.ev g with
   | .bU f .unit=>match E.fn f ((c.args.toList.map s.ev).map l1) with
    |some c'=>p c'
    |none=>false
   |_=>false
  |_=>false
 |_=>false
def MY (o:Oper) (s:St):Bool:=
 match o.op with
 | .buildSlice _ _ b=>b.toList.all λx=>(s.ev x.2).aK.isEmpty
 |_=>false
def MJ (E:an) (o:Oper) (s:St):Bool:=qV o.op||MY o s||tM E (λc=>c.params.all PM.gv) o s
def FG (E:an) (o:Oper) (s:St):Bool:=
 match o.op with
 | .call c=>match c.callee with
  | .value g=>match s.ev g with
   | .bU f .unit=>match E.fn f ((c.args.toList.map s.ev).map l1),E.inl f ((c.args.toList.map s.ev).map l1) with
    |none,some I=>I.h3
    |_,_=>false
   |_=>false
  |_=>false
 |_=>false
def q9 (E:an) (o:Oper) (s:St):Bool:=
 match o.op with
 | .store _ _ _| .buildSlice _ _ _=>true
 | .call c=>match c.callee with
  | .builtin .append=>true
  |_=>tM E az.plain o s||FG E o s
 |_=>false
def Fo (s:St) (B:List Nat) (b:Nat):Bool:= !mem B b&&(match s.box b with
 |some y=>y.c.aK.all λc=> !mem B c
 |none=>true)
def hn (o:Oper) (s:St):List Nat:=(o.op.operands.toList.map λx=>(s.ev x).aK).flatten
def lx:List PM->List TV->List Nat
 |m::b,v::vs=>(if m.gv then [] else v.aK)++lx b vs
 |_,_=>[]
def nw (E:an) (al:Bool) (o:Oper) (s:St) (k:St->Option Z):Option Z:=
 match al with
 |false=>dF E o s k
 |true=>match o.dst,o.op with
  |none,.store t a x=>dW E t λT=>lu s T (s.ev a) (s.ev x) k
  |_,_=>none
def je (E:an) (al:Bool) (o:Oper) (s:St):List Nat:=
 match o.op with
 | .store _ a _=>if al then (s.ev a).aK else hn o s
 | .call c=>match c.callee with
  | .builtin .append=>match c.argTypes.toList,c.args.toList with
   |[t,_],[x,_]=>match E.iO t with
    |some (.slice T)=>if T.aY then (s.ev x).aK else hn o s
    |_=>hn o s
   |_,_=>hn o s
  | .value g=>match s.ev g with
   | .bU f .unit=>match E.fn f ((c.args.toList.map s.ev).map l1) with
    |some c'=>lx c'.params (c.args.toList.map s.ev)
    |none=>match E.inl f ((c.args.toList.map s.ev).map l1) with
     |some I=>if I.h3 then ((c.args.toList.map s.ev).headD .un).aK else hn o s
     |none=>hn o s
   |_=>hn o s
  |_=>hn o s
 |_=>hn o s
def l2 (ops:List Oper) (o:Oper):List Nat:=
 match o.op with
 | .extract _ _=>match o.guard with
  |some (j,_)=>((ops[j]?).bind (·.dst)).toList
  |none=>[]
 |_=>e1 ops o
def zw (E:an) (al:Bool) (ops:List Oper) (U:List Nat) (o:Oper) (s:St):Bool:=
 (U.isEmpty&& !al)||(q9 E o s&&U.all λj=>match ops[j]? with
  |none=>true
  |some p=>((e1 ops p).all λt=>ops.zipIdx.all λx=> !nj t x.1||(mem (dQ p) x.2|| !mem U x.2))&&((l2 ops p++p.dst.toList).all λn=>(s.get n).aK.all λb=>Fo s (je E al o s) b)&&
   (match p.dst with
    |some d=>s.cg.all λx=> !Nat.beq (x.1/32) d||Fo s (je E al o s) x.1
    |none=>true))
def NI (any:Bool) (done:Nat):List (Nat×Bool×Nat)->Option (Nat×List (Nat×Bool×Nat))
 |[]=>none
 |x::l=>if (any||x.2.1)&&Nat.beq (Nat.land x.2.2 done) x.2.2 then some (x.1,l) else match NI any done l with
  |some (i,b)=>some (i,x::b)
  |none=>none
def yU:Nat->Nat->List (Nat×Bool×Nat)->List Nat
 |0,_,_=>[]
 |n+1,done,l=>match NI false done l with
  |some (i,b)=>i::yU n (Nat.lor (2^i) done) b
  |none=>match NI true done l with
   |some (i,b)=>i::yU n (Nat.lor (2^i) done) b
   |none=>[]
def mq:Nat->List Oper->List Nat->List (Nat×Bool×Nat)
 |i,o::os,b::bs=>(i,qV o.op,b)::mq (i+1) os bs
 |_,_,_=>[]
def fF:List Nat->Nat->Nat
 |[],_=>0
 |k::r,n=>if Nat.beq k n then 0 else fF r n+1
def lq (p:List Nat) (o:Oper):Oper:={o with after:=o.after.map λe=>{e with on:=fF p e.on},guard:=o.guard.map λg=>(fF p g.1,g.2)}
def NH (p:List Nat) (n:Nat):Bool:=Nat.beq p.length n&&(p.all λj=>Nat.blt j n)&&(List.range n).all λi=>mem p i&&Nat.beq (fF p (p.getD i 0)) i
def kt (ops:List Oper):List Oper:=
 let p:=yU ops.length 0 (mq 0 ops (ha ops []))
 if NH p ops.length then p.filterMap λi=>(ops[i]?).map (lq p) else ops
def pj (E:an) (ops:List Oper) (bar:Option (List Nat)) (o:Oper) (s:St) (k:St->Option Z):Option Z:=
 if MJ E o s then dF E o s k else
 match bar with
 |some U=>if zw E false ops U o s then dF E o s k else if zw E true ops U o s then nw E true o s k else none
 |none=>none
def iE (E:an) (ops:List Oper) (k:St->Option Z):List (Oper×Option (List Nat))->St->Option Z
 |[],s=>k s
 |(o,bar)::bn,s=>match o.guard with
  |none=>pj E ops bar o s (iE E ops k bn)
  |some (j,want)=>match (ops[j]?).bind (·.dst) with
   |none=>none
   |some d=>match s.get d with
    | .ad .bool b=>match b with
     |true=>if want then pj E ops bar o s (iE E ops k bn) else iE E ops k bn (match o.dst with|some e=>s.put e (.tup .unit)|none=>s)
     |false=>if want then iE E ops k bn (match o.dst with|some e=>s.put e (.tup .unit)|none=>s) else pj E ops bar o s (iE E ops k bn)
    | .tup .unit=>iE E ops k bn (match o.dst with|some e=>s.put e (.tup .unit)|none=>s)
    |_=>none
def St.ref (s:St) (d:Nat) (b:Bool):St:={s with tmps:=bB s.tmps d (.ad .bool b)}
def l4 (E:an) (ops:List Oper) (k:St->Option Z):List (Oper×Option (List Nat))->St->Option Z
 |[],s=>k s
 |(o,bar)::bn,s=>match o.guard with
  |none=>pj E ops bar o s (l4 E ops k bn)
  |some (j,want)=>match (ops[j]?).bind (·.dst) with
   |none=>none
   |some d=>match s.get d with
    | .ad .bool b=>match b with
     |true=>if want then pj E ops bar o (s.ref d true) (l4 E ops k bn) else l4 E ops k bn (match o.dst with|some e=>(s.ref d true).put e (.tup .unit)|none=>s.ref d true)
     |false=>if want then l4 E ops k bn (match o.dst with|some e=>(s.ref d false).put e (.tup .unit)|none=>s.ref d false) else pj E ops bar o (s.ref d false) (l4 E ops k bn)
    | .tup .unit=>l4 E ops k bn (match o.dst with|some e=>s.put e (.tup .unit)|none=>s)
    |_=>none
theorem ap1 {α:Type} {l:List (Nat×α)} {n:Nat} {v:α} (h:lk l n=some v):bB l n v=l:=by
 induction l with
 |nil=>rfl
 |cons x l b=>
  grind [lk,bB]
theorem alw {s:St} {d:Nat} {b:Bool} (h:s.get d=.ad .bool b):s.ref d b=s:=by
 unfold St.get at h;cases c:lk s.tmps d with
 |none=>simp_all
 |some v=>
  rw [c] at h;simp only [vm] at h;subst h;unfold St.ref;rw [ap1 c]
theorem agI (E:an) (ops:List Oper) (k:St->Option Z):∀(bn:List (Oper×Option (List Nat))),l4 E ops k bn=iE E ops k bn:=by
 intro bn
 induction bn with
 |nil=>rfl
 |cons x bn b=>
  obtain ⟨o,bar⟩:=x;funext s;unfold l4 iE;rw [b];cases o.guard with
  |none=>rfl
  |some g=>
   obtain ⟨j,want⟩:=g;simp only;cases (ops[j]?).bind (·.dst) with
   |none=>rfl
   |some d=>
    grind [alw]
def Nl:Op->Bool
 | .alloc _| .makeSlice _ _ _| .makeMap _ _=>true
 |_=>false
def y1 (E:an) (f:Nat->Bool) (k:St->Option Z):Nat->List Oper->St->Option Z
 |_,[],s=>k s
 |i,o::l,s=>if (f i||o.op.operands.toList.all λx=>(s.ev x).aK.all λc=>match s.box c with
  |some y=> !y.cm
  |none=>false)&&qV o.op&& !Nl o.op&&o.dst.isSome then dF E o s (y1 E f k (i+1) l) else none
def MG (E:an) (ops:List Oper) (k:St->Option Z) (s:St):Option Z:=
 match ops with
 |[C,D,I,J,O,U,h,l,n,u,g]=>match h.op,l.dst,n.op,n.dst,u.op,u.dst,g.op,g.dst with
  | .lookup X (.tmp m6) (.tmp j) false,some f,.mapEntry q (.tmp m8) (.tmp r),some d,.extract (.tmp y) 1,some e,.entryStore W (.tmp z) (.tmp x) (.tmp aa),none=>
   if Nat.beq X q&&Nat.beq W q&&Nat.beq m6 m8&&Nat.beq z m8&&Nat.beq j r&&Nat.beq y d&&Nat.beq x e&&Nat.beq aa f&&Nat.blt d E.nt&&Nat.blt e E.nt&& !(mem [f,d,e] m6||mem [f,d,e] j||nj m6 h||nj j h)&&(mem (dQ l) 6&&mem (dQ g) 7)&&mem (dQ g) 9&&Mh ops&&ops.all λo=>o.guard.isNone then
    y1 E (λi=>mem (dQ n) i||Nat.beq i 6) (λs=>match lk E.maps q,s.get m8,s.get f with
     |some K,.mp b,.ad (.int .i64) v=>b6 s b λbx=>if bx.cm then (ib K bx.c λxs=>jY K (s.get r) λkey=>
      k (((s.put d .un).put e .un).b2 b {bx with c:=.tup (.ab (.slice (eT K)) (show List (K.ai×Int×Unit) from dE K key v xs))})) else none
     |_,_,_=>none) 0 [C,D,I,J,O,U,h,l] s
   else none
  |_,_,_,_,_,_,_,_=>none
 |_=>none
def ah3 (ops:List Oper):Bool:=ops.any λo=>match o.op with
 | .mapEntry _ _ _=>true
 |_=>false
def Yc (E:an) (ops:Array Oper) (b:Bool) (k:St->Option Z) (s:St):Option Z:=
 match b with
 |false=>kC E ops k ops.toList s
 |true=>if ah3 ops.toList then MG E ops.toList k s else match Mh (kt ops.toList) with
  |false=>none
  |true=>l4 E (kt ops.toList) k ((kt ops.toList).zip (jm (kt ops.toList))) s
def fP:Code->Nat
 | .region id _ _=>id
 | .seq a _=>fP a
 | .block _ c=>fP c
 | .loop c=>fP c
 |_=>0
def St.ug (s:St) (ts bs:List Nat):St:=
 {tmps:=ts.map λn=>(n,(s.get n).bY (mem bs)),cg:=bs.filterMap λn=>(s.box n).map λb=>(n,b.bY (mem bs)),sv:=s.sv.map λl=>l.map λx=>(x.1,x.2.bY (mem bs))}
def GN (s:St) (o:Nat):List (Nat×Ty)->(St->Option Z)->Option Z
 |[],k=>k s
 |(t,T)::l,k=>if T.iF then cj s (.slice T) (s.get t) λs c _=>match c.dv (.slice T) with
  |some x=>j1 (s.drop (er o t)) (er o t) ⟨.slice T,true,false,.ab (.slice T) x⟩ λs=>GN (s.put t (.sl (er o t) [])) o l k
  |none=>none
  else none
def ME:TV->Option TV
 | .ab (.slice t) xs=>some (.tup (.cons (.ab (.slice t) xs) (.ab (.slice .bool) (List.replicate (List.length (α:=t.ai) xs) false))))
 | .tup (.cons (.ab (.slice t) xs) (.ab (.slice .bool) b))=>some (.tup (.cons (.ab (.slice t) xs) (.ab (.slice .bool) b)))
 |_=>none
def yS (s:St):List Nat->(St->Option Z)->Option Z
 |[],k=>k s
 |b::l,k=>b6 s b λx=>if x.cm then (match ME x.c with
  |some c=>yS (s.b2 b {x with c:=c}) l k
  |none=>none) else match x.c.dv x.ty with
  |some y=>yS ((s.b2 b {x with c:=.ab x.ty y}).ax b []) l k
  |none=>none
def jw (E:an) (id:Nat) (s:St) (k:St->Option Z):Option Z:=
 match lk E.dX id with
 |none=>k s
 |some K=>GN s E.fA K.ab λs=>yS s K.ajn λs=>k (s.ug K.ts K.bs)
def nf (E:an) (id:Nat) (k:Ex->St->Option Z):Ex->St->Option Z:=λe s=>jw E (id+1000000) s (k e)
def uk (f:(Ex->St->Option Z)->St->Option Z) (b:St->(St->Option Z)->Option Z) (k:Ex->St->Option Z):Nat->St->Option Z
 |0,_=>none
 |n+1,s=>f (λe c=>match e with
  | .normal=>b c (uk f b k n)
  |e=>k e c) s
def hd (E:an) (n:Nat):Code->(Ex->St->Option Z)->St->Option Z
 | .skip,k,s=>k .normal s
 | .region _ ops g,k,s=>Yc E ops g (k .normal) s
 | .seq a b,k,s=>hd E n a (λe f=>match e with
  | .normal=>jw E (fP b+2000000) f (hd E n b k)
  |e=>k e f) s
 | .cond c a b,k,s=>match s.ev c with
  | .ad .bool t=>match t with
   |true=>hd E n a k (match c with| .tmp d=>s.put d (.ad .bool true)|_=>s)
   |false=>hd E n b k (match c with| .tmp d=>s.put d (.ad .bool false)|_=>s)
  |_=>none
 | .block id c,k,s=>hd E n c (λe f=>match e with
  | .exit j=>if Nat.beq j id then k .normal f else k (.exit j) f
  |e=>k e f) s
 | .loop c,k,s=>jw E (fP c) s (uk (hd E n c) (jw E (fP c)) (nf E (fP c) k) n)
 | .exit id,k,s=>k (.exit id) s
 | .ret,k,s=>k .ret s
 |_,_,_=>none
end
section
variable {Z:Type}
def yB:List PM->List D->(List TV->List D->Option Z)->Option Z
 |[],ds,k=>k [] ds
 |m::b,d::ds,k=>match m with
  | .ro t=>match cI d.t t d.x with
   |some x=>yB b ds λvs ds=>k (.ad t x::vs) ds
   |none=>none
  | .bt t=>match cI d.t t d.x with
   |some x=>yB b ds λvs ds=>k (.bt t x::vs) ds
   |none=>none
  |_=>none
 |_,_,_=>none
def ni (i:Nat):PM->List D->(TV->List (Nat×bm)->List D->Option Z)->Option Z
 | .ro t,d::ds,k=>match cI d.t t d.x with
  |some x=>k (.ad t x) [] ds
  |none=>none
 | .bt t,d::ds,k=>match cI d.t t d.x with
  |some x=>k (.bt t x) [] ds
  |none=>none
 | .ptr t,d::ds,k=>match cI d.t t d.x with
  |some x=>k (.ref i []) [(i,⟨t,false,false,.ab t x⟩)] ds
  |none=>none
 | .mut (.slice t),d::ds,k=>match cI d.t (.slice t) d.x with
  |some x=>k (.sl i []) [(i,⟨.slice t,true,true,.ab (.slice t) x⟩)] ds
  |none=>none
 | .ab (.slice t),d::ds,k=>match cI d.t (.slice t) d.x with
  |some x=>k (.sl i []) [(i,⟨.slice t,true,false,.ab (.slice t) x⟩)] ds
  |none=>none
 | .bU f b,ds,k=>yB b ds λvs ds=>k (.bU f (vs.foldr TV.cons .unit)) [] ds
 |_,_,_=>none
def yA (i:Nat):List PM->List D->(List (Nat×TV)->List (Nat×bm)->Option Z)->Option Z
 |[],[],k=>k [] []
 |m::c,ds,k=>ni (i*32) m ds λv b ds=>yA (i+1) c ds λts bs=>k ((i,v)::ts) (b++bs)
 |_,_,_=>none
def yq (s:St) (kl:TV->TV):List (Ty×TV)->(St->List D->Option Z)->Option Z
 |[],k=>k s []
 |(t,v)::r,k=>if t.aY then dV s t (kl v) λx=>yq s kl r λs ds=>k s (⟨t,x⟩::ds)
  else cj s t (kl v) λs c κ=>match c.dv t with
   |some x=>yq s (λe=>κ (kl e)) r λs ds=>k s (⟨t,x⟩::ds)
   |none=>none
def ku (s:St) (i:Nat):List PM->(List D->Option Z)->Option Z
 |[],k=>k []
 | .ptr t::d,k=>b6 s (i*32) λb=>if b.cm|| !decide (b.ty=t) then none else match b.c.dv t with
  |some x=>ku s (i+1) d λds=>k (⟨t,x⟩::ds)
  |none=>none
 | .mut t::d,k=>b6 s (i*32) λb=>if !b.cm|| !b.dI|| !decide (b.ty=t) then none else match b.c with
  | .ab u x=>ku s (i+1) d λds=>k (⟨u,x⟩::ds)
  |_=>none
 |_::d,k=>ku s (i+1) d k
end
inductive Mv where
 |set (b:Nat) (x:bm)|ax (b:Nat) (p:aN)|drop (b:Nat)
def Mv.at:Mv->Nat
 | .set b _| .ax b _| .drop b=>b
def Mv.run (s:St):Mv->St
 | .set b x=>s.b2 b x
 | .ax b p=>s.ax b p
 | .drop b=>s.drop b
def bL (s:St) (l:List Mv):St:=l.foldl Mv.run s
def du.rN (I:du):Prop:=∀(Z:Type) (t:St) (vs:List TV) (k:St->TV->Option Z) (r:Z),I.run t vs k=some r->
 ∃(l:List Mv) (v:TV),k (bL t l) v=some r/\(∀m∈l,m.at∈(vs.headD .un).aK)/\
  ∀(s:St),(∀v∈vs,∀b∈v.aK,s.box b=t.box b)->∀{Y:Type} (k':St->TV->Option Y),I.run s vs k'=k' (bL s l) v
structure an.xt (E:an):Prop where
 fn:∀f ids c,E.fn f ids=some c->c.bq
 inl:∀f ids I,E.inl f ids=some I->I.h3=true->I.rN
theorem eP {a b:Ty} {x:a.ai} {y:b.ai} (h:cI a b x=some y):∃e:a=b,e▸x=y:=by
 unfold cI at h;split at h;simp_all;cases h
theorem m1 {a:Ty} (x:a.ai):cI a a x=some x:=by
 unfold cI;split;rfl
 grind
def ak:Ty->FT->Option (Nat×Nat)->aN->Option (Ty×FT×Option (Nat×Nat))
 |t,ft,a,[]=>some (t,ft,a)
 | .cons t _,ft,a,.f 0::p=>ak t ft.fst a p
 | .cons t r,ft,a,.f (n+1)::p=>ak r ft.snd (a.map λx=>(x.1,x.2+t.size)) (.f n::p)
 | .slice t,.node (some b) _ c,_,.i n::p=>match c[n]? with
  |some k=>ak t k (some (b,n*t.size)) p
  |none=>none
 | .arr m t,_,a,[.i n]=>if t.agg||Nat.ble m n then none else some (t,.leaf,a.map λx=>(x.1,x.2+n*t.size))
 |_,_,_,_=>none
def bA:Ty->FT->aN->FT->FT
 |_,_,[],f=>f
 | .cons t _,ft,.f 0::p,f=>.eI (bA t ft.fst p f) ft.snd
 | .cons _ r,ft,.f (n+1)::p,f=>.eI ft.fst (bA r ft.snd (.f n::p) f)
 | .slice t,.node (some b) cap c,.i n::p,f=>match c[n]? with
  |some k=>.node (some b) cap (c.set n (bA t k p f))
  |none=>.node (some b) cap c
 |_,ft,_,_=>ft
theorem eY {b:Nat} {k:FT} {c:List FT} (d:k∈c) (e:b∈k.af):b∈FT.bo c:=by
 induction c with
 |nil=>cases d
 |cons k' c f=>
  simp only [FT.bo,bI]
  grind
def aiV {b:Nat} {c:List FT} (h:b∈FT.bo c):∃k∈c,b∈k.af:=by
 induction c with
 |nil=>simp [FT.bo] at h
 |cons k' c d=>
  simp only [FT.bo,bI] at h
  grind
theorem i3 {ft:FT} {b:Nat} (h:b∈ft.fst.af):b∈ft.af:=by
 cases ft<;>simp_all [FT.fst,FT.af]
theorem jd {ft:FT} {b:Nat} (h:b∈ft.snd.af):b∈ft.af:=by
 cases ft<;>simp_all [FT.snd,FT.af]
theorem fO:∀(t:Ty) (ft:FT) (a:Option (Nat×Nat)) (p:aN) {u:Ty} {g:FT} {a':Option (Nat×Nat)},ak t ft a p=some (u,g,a')->
 (∀b∈g.af,b∈ft.af)/\((∃b o,a'=some (b,o)/\b∈ft.af/\aN.dM p=true)\/
  (∃d,a'=a.map (λx=>(x.1,x.2+d))/\d+u.size<=t.size)):=by
 intro t
 induction t with
 |cons t r z I=>
  intro ft a p u g a' h
  match p,h with
  |[],h=>simp only [ak,bi,bK] at h;obtain ⟨rfl,rfl,rfl⟩:=h;exact ⟨λ_ h=>h,.inr ⟨0,by simp,by simp⟩⟩
  | .f 0::p,h=>
   simp only [ak] at h;obtain ⟨j,l⟩:=z _ _ _ h;refine ⟨λb c=>i3 (j b c),?_⟩;rcases l with ⟨b,o,e,c,v⟩|⟨d,e,v⟩
   exact .inl ⟨b,o,e,i3 c,by simpa [aN.dM] using v⟩;exact .inr ⟨d,e,by simp only [Ty.size];omega⟩
  | .f (n+1)::p,h=>
   simp only [ak] at h;obtain ⟨j,l⟩:=I _ _ _ h;refine ⟨λb c=>jd (j b c),?_⟩;rcases l with ⟨b,o,e,c,v⟩|⟨d,e,v⟩
   exact .inl ⟨b,o,e,jd c,by simpa [aN.dM] using v⟩;refine .inr ⟨t.size+d,?_,by simp only [Ty.size];omega⟩;rw [e];cases a<;>simp;omega
  | .i n::p,h=>simp [ak] at h
 |slice t z=>
  intro ft a p u g a' h
  match p,h with
  |[],h=>simp only [ak,bi,bK] at h;obtain ⟨rfl,rfl,rfl⟩:=h;exact ⟨λ_ h=>h,.inr ⟨0,by simp,by simp⟩⟩
  | .f n::p,h=>simp [ak] at h
  | .i n::p,h=>
   match ft,h with
   | .node (some b) cap J,h=>
    simp only [ak] at h;split at h;rename_i k hk;obtain ⟨j,l⟩:=z _ _ _ h;have D:=cw hk;refine ⟨λy c=>by simp only [FT.af,bI];exact .inr (eY D (j y c)),.inl ?_⟩;rcases l with ⟨y,o,e,c,_⟩|⟨d,e,_⟩
    exact ⟨y,o,e,by simp only [FT.af,bI];exact .inr (eY D c),rfl⟩;exact ⟨b,_,by rw [e];rfl,by simp [FT.af],rfl⟩;cases h
   | .leaf,h=>simp [ak] at h
   | .eI _ _,h=>simp [ak] at h
   | .node none _ _,h=>simp [ak] at h
 |arr m t _=>
  intro ft a p u g a' h
  match p,h with
  |[],h=>simp only [ak,bi,bK] at h;obtain ⟨rfl,rfl,rfl⟩:=h;exact ⟨λ_ h=>h,.inr ⟨0,by simp,by simp⟩⟩
  |[.i n],h=>
   simp only [ak] at h;split at h;cases h;rename_i C;simp only [bi,bK] at h;obtain ⟨rfl,rfl,rfl⟩:=h;refine ⟨λb c=>by simp [FT.af] at c,.inr ⟨n*t.size,rfl,?_⟩⟩;simp only [gx,Nat.ble_eq,hv,Nat.not_le] at C;simp only [Ty.size];have:=jQ t.size (vl C.2)
   grind
  | .f n::p,h=>simp [ak] at h
  | .i n::q::p,h=>simp [ak] at h
 |_=>
  intro ft a p u g a' h;cases p with
  |nil=>simp only [ak,bi,bK] at h;obtain ⟨rfl,rfl,rfl⟩:=h;exact ⟨λ_ h=>h,.inr ⟨0,by simp,by simp⟩⟩
  |cons q p=>simp [ak] at h
theorem At.sub {w:World} {b o n:Nat} {cs:List Value} (h:At w b o n cs) (i m:Nat) (hi:i+m<=n):At w b (o+i) m ((cs.drop i).take m):=by
 obtain ⟨row,e,fz,c,d,rfl⟩:=h;refine ⟨row,e,fz,c,by omega,?_⟩;rw [List.drop_take,List.take_take,jN];congr 1;omega
theorem At.o2 {w:World} {b o n m:Nat} {c d:List Value} (h:At w b o n c) (j:At w b (o+n) m d):At w b o (n+m) (c++d):=by
 obtain ⟨row,e,fz,g,r,rfl⟩:=h;obtain ⟨nA,l,q,f,u,rfl⟩:=j;rw [g] at f;simp only [bi,Obj.cells.injEq] at f;obtain ⟨rfl,_,_⟩:=f;refine ⟨row,e,fz,g,by omega,?_⟩;rw [<-jN,List.take_add]
theorem At.fst {w:World} {b o n m:Nat} {c d:List Value} (h:At w b o (n+m) (c++d)) (e:c.length=n):At w b o n c:=by
 have:=h.sub 0 n (by omega);simp_all
theorem At.snd {w:World} {b o n m:Nat} {c d:List Value} (h:At w b o (n+m) (c++d)) (e:c.length=n):At w b (o+n) m d:=by
 have f:d.length=m:=by have:=h.len;simp at this;omega
 have:=h.sub n m (by omega)
 grind
theorem ag9 (n:Nat) (t:Ty) (l:List t.ai):bH (.arr n t) l=(l.map (bH t)).flatten:=rfl
theorem aho {t:Ty} (c:t.aY=true):∀(l:List t.ai) (_:∀x∈l,dg t x) (i:Nat) (x:t.ai),l[i]?=some x->
 (((l.map (bH t)).flatten.drop (i*t.size)).take t.size)=bH t x:=by
 intro l
 induction l with
 |nil=>simp_all
 |cons a l f=>
  intro b i x h;have d:(bH t a).length=t.size:=hf t a c (b a (by simp));cases i with
  |zero=>
   simp_all
  |succ i=>
   simp only [List.getElem?_cons_succ] at h;simp only [gP,mE];rw [<-f (λx e=>b x (by simp [e])) i x h,nR,Nat.add_comm,<-jN,List.drop_left' d]
theorem bd.aY {w:World} {t:Ty} {x:t.ai} {ft:FT} {cs:List Value} (c:t.aY=true) (b:t.agg=false) (h:bd w t x ft cs):
 dg t x/\ft.af=[]/\cs=bH t x:=by
 cases t<;>first|exact ⟨h.2.1,h.2.2.1,h.2.2.2⟩|(exfalso;simp [Ty.agg] at b;done)|(exfalso;simp [Ty.aY] at c;done)
theorem yw {ft:FT} (h:ft.af=[]):ft.fst.af=[]:=by
 cases ft<;>simp_all [FT.fst,FT.af]
theorem zb {ft:FT} (h:ft.af=[]):ft.snd.af=[]:=by
 cases ft<;>simp_all [FT.snd,FT.af]
theorem bd.fS {w:World}:∀{t:Ty} {x:t.ai} {ft:FT},t.aY=true->dg t x->ft.af=[]->bd w t x ft (bH t x)
 | .int _,_,_,b,hk,c=>⟨b,hk,c,rfl⟩
 | .bool,_,_,b,hk,c=>⟨b,hk,c,rfl⟩
 | .bR,_,_,b,hk,c=>⟨b,hk,c,rfl⟩
 | .unit,_,_,b,hk,c=>⟨b,hk,c,rfl⟩
 | .arr _ _,_,_,b,hk,c=>⟨b,hk,c,rfl⟩
 | .bz,_,_,b,_,_=>by simp [Ty.aY] at b
 | .slice _,_,_,b,_,_=>by simp [Ty.aY] at b
 | .cons t r,x,ft,b,hk,c=>by
  simp only [Ty.aY,bE] at b;exact ⟨by rw [c,yw c,zb c];rfl,bH t x.1,bH r x.2,rfl,bd.fS b.1 hk.1 (yw c),bd.fS b.2 hk.2 (zb c)⟩
theorem Rd.aY {w:World} {R:Nat->Prop}:∀{t:Ty} {x:t.ai} {cs:List Value},t.aY=true->Rd w R t x cs->dg t x/\cs=bH t x
 | .int _,_,_,_,h=>⟨h.2.1,h.2.2⟩
 | .bool,_,_,_,h=>⟨h.2.1,h.2.2⟩
 | .bR,_,_,_,h=>⟨h.2.1,h.2.2⟩
 | .unit,_,_,_,h=>⟨h.2.1,h.2.2⟩
 | .arr _ _,_,_,_,h=>⟨h.2.1,h.2.2⟩
 | .bz,_,_,b,_=>by simp [Ty.aY] at b
 | .slice _,_,_,b,_=>by simp [Ty.aY] at b
 | .cons t r,x,cs,b,h=>by
  simp only [Ty.aY,bE] at b;obtain ⟨g,j,rfl,e,f⟩:=h;obtain ⟨c,rfl⟩:=Rd.aY b.1 e;obtain ⟨d,rfl⟩:=Rd.aY b.2 f;exact ⟨⟨c,d⟩,rfl⟩
theorem bd.l5 {w:World}:∀{t:Ty} {x:t.ai} {ft:FT} {cs:List Value},t.aY=true->bd w t x ft cs->dg t x/\cs=bH t x/\ft.af=[]
 | .int _,_,_,_,_,h=>⟨h.2.1,h.2.2.2,h.2.2.1⟩
 | .bool,_,_,_,_,h=>⟨h.2.1,h.2.2.2,h.2.2.1⟩
 | .bR,_,_,_,_,h=>⟨h.2.1,h.2.2.2,h.2.2.1⟩
 | .unit,_,_,_,_,h=>⟨h.2.1,h.2.2.2,h.2.2.1⟩
 | .arr _ _,_,_,_,_,h=>⟨h.2.1,h.2.2.2,h.2.2.1⟩
 | .bz,_,_,_,b,_=>by simp [Ty.aY] at b
 | .slice _,_,_,_,b,_=>by simp [Ty.aY] at b
 | .cons t r,x,ft,cs,b,h=>by
  simp only [Ty.aY,bE] at b;obtain ⟨g,n,o,rfl,j,l⟩:=h;obtain ⟨c,rfl,e⟩:=bd.l5 b.1 j;obtain ⟨d,rfl,f⟩:=bd.l5 b.2 l;exact ⟨⟨c,d⟩,rfl,by rw [g,e,f];rfl⟩
section
variable {Z:Type} {w:World}
theorem bd.get:∀(t:Ty) (x:t.ai) (ft:FT) (cs:List Value) (a:Option (Nat×Nat)) (p:aN) (k:(u:Ty)->u.ai->Option Z) (r:Z),
 bd w t x ft cs->(∀b o,a=some (b,o)->At w b o t.size cs)->cy t x p k=some r->
 ∃(u:Ty) (y:u.ai) (I:FT) (a':Option (Nat×Nat)) (D:List Value),k u y=some r/\ak t ft a p=some (u,I,a')/\bd w u y I D/\
  (∀b o,a'=some (b,o)->At w b o u.size D):=by
 intro t
 induction t with
 |cons t r K am=>
  intro x ft cs a p k ek h g d
  match p,d with
  |[],d=>exact ⟨_,x,ft,a,cs,by simpa [cy] using d,rfl,h,g⟩
  | .f 0::p,d=>
   simp only [cy] at d;obtain ⟨af,C,O,rfl,v,J⟩:=h;exact K x.1 ft.fst C a p k ek v (λb o e=>(g b o e).fst (bd.len t x.1 _ C v)) d
  | .f (n+1)::p,d=>
   simp only [cy] at d;obtain ⟨af,C,O,rfl,v,J⟩:=h;refine am x.2 ft.snd O (a.map λx=>(x.1,x.2+t.size)) (.f n::p) k ek J (λb o e=>?_) d;cases a with
   |none=>cases e
   |some a=>simp only [dy,bi,bK] at e;obtain ⟨rfl,rfl⟩:=e;exact (g _ _ rfl).snd (bd.len t x.1 _ C v)
  | .i n::p,d=>simp [cy] at d
 |slice t K=>
  intro x ft cs a p k ek h g d
  match p,d with
  |[],d=>exact ⟨_,x,ft,a,cs,by simpa [cy] using d,rfl,h,g⟩
  | .f n::p,d=>simp [cy] at d
  | .i n::p,d=>
   simp only [cy] at d;split at d;rename_i l j;unfold iH at j;obtain ⟨b,cap,aa,rfl,rfl,v,J,ao,h4⟩:=h;have W:n<List.length (α:=t.ai) x:=(b4.1 j).1;cases b with
   |none=>subst h4;omega
   |some b=>
    have hk:aa[n]?=some (aa[n]'(by omega)):=a6 _;obtain ⟨c,aq,aj⟩:=h4.2 n l _ j hk;obtain ⟨u,y,I,a',D,ab,ac,ad,ae⟩:=K l _ c (some (b,n*t.size)) p k ek aj (λan ar e=>by simp_all) d;exact ⟨u,y,I,a',D,ab,by simp only [ak,hk];exact ac,ad,ae⟩
   cases d
 |arr m t _=>
  intro x ft cs a p k ek h g d
  match p,d with
  |[],d=>exact ⟨_,x,ft,a,cs,by simpa [cy] using d,rfl,h,g⟩
  | .f n::p,d=>simp [cy] at d
  | .i n::p,d=>
   simp only [cy] at d;split at d;cases d;rename_i ag;split at d
   ·rename_i l j;unfold iH at j;obtain ⟨z,⟨ah,X⟩,ap,rfl⟩:=h;have z:t.aY=true:=z;have W:n<List.length (α:=t.ai) x:=(b4.1 j).1;have U:t.agg=false:=by simpa using ag
    have al:dg t l:=X l (cw j)
    match p,d with
    |[],d=>
     refine ⟨t,l,.leaf,a.map λx=>(x.1,x.2+n*t.size),bH t l,by simpa [cy] using d,?_,bd.fS z al rfl,?_⟩;simp only [ak,U,lA];simp_all;intro b o e;cases a with
     |none=>cases e
     |some a=>
      simp only [dy,bi,bK] at e;obtain ⟨rfl,rfl⟩:=e;have:=(g _ _ rfl).sub (n*t.size) t.size (by
       simp only [Ty.size];rw [<-ah];have:=jQ t.size (vl W)
       grind)
      rw [show bH (.arr m t) x=((show List t.ai from x).map (bH t)).flatten from rfl,aho z (show List t.ai from x) X n l j] at this;exact this
    |q::p,d=>cases t<;>first|(exfalso;simp [cy] at d;done)|(exfalso;simp [Ty.agg] at U;done)|(exfalso;simp [Ty.aY] at z;done)
   cases d
 |_=>
  intro x ft cs a p k ek h g d;cases p with
  |nil=>exact ⟨_,x,ft,a,cs,by simpa [cy] using d,rfl,h,g⟩
  |cons q p=>simp [cy] at d
theorem Rd.get {R:Nat->Prop}:∀(t:Ty) (x:t.ai) (cs:List Value) (a:Option (Nat×Nat)) (p:aN) (k:(u:Ty)->u.ai->Option Z) (r:Z),
 Rd w R t x cs->(∀b o,a=some (b,o)->At w b o t.size cs)->cy t x p k=some r->aN.dM p=false->
 ∃(u:Ty) (y:u.ai) (a':Option (Nat×Nat)) (g:List Value),k u y=some r/\(∀ft:FT,ft.af=[]->∃O,O.af=[]/\ak t ft a p=some (u,O,a'))/\Rd w R u y g/\
  (∀b o,a'=some (b,o)->At w b o u.size g):=by
 intro t
 induction t with
 |cons t r X W=>
  intro x cs a p k ek h j c z
  match p,c with
  |[],c=>exact ⟨_,x,a,cs,by simpa [cy] using c,λft d=>⟨ft,d,rfl⟩,h,j⟩
  | .f 0::p,c=>
   simp only [cy] at c;obtain ⟨l,K,rfl,v,U⟩:=h;obtain ⟨u,y,a',g,C,D,I,J⟩:=X x.1 l a p k ek v (λb o e=>(j b o e).fst (Rd.len t x.1 l v)) c (by simpa [aN.dM] using z);exact ⟨u,y,a',g,C,λft d=>D ft.fst (yw d),I,J⟩
  | .f (n+1)::p,c=>
   simp only [cy] at c;obtain ⟨l,K,rfl,v,U⟩:=h;obtain ⟨u,y,a',g,C,D,I,J⟩:=W x.2 K (a.map λx=>(x.1,x.2+t.size)) (.f n::p) k ek U (λb o e=>by
    cases a with
    |none=>cases e
    |some a=>simp only [dy,bi,bK] at e;obtain ⟨rfl,rfl⟩:=e;exact (j _ _ rfl).snd (Rd.len t x.1 l v)) c (by simpa [aN.dM] using z)
   exact ⟨u,y,a',g,C,λft d=>D ft.snd (zb d),I,J⟩
  | .i n::p,c=>simp [cy] at c
 |_=>
  intro x cs a p k ek h j c z;cases p with
  |nil=>exact ⟨_,x,a,cs,by simpa [cy] using c,λft d=>⟨ft,d,rfl⟩,h,j⟩
  |cons q p=>cases q<;>simp [cy,aN.dM] at c z
end
structure Wr (w w2:World) (b o n:Nat) (cs:List Value):Prop where
 len:cs.length=n
 ex:∃row c e fz,w.heap[b]?=some (.cells row e fz)/\w2.heap[b]?=some (.cells c e fz)/\o+n<=row.size/\
  c.toList=row.toList.take o++cs++row.toList.drop (o+n)
theorem Wr.e4 {w w2:World} {b o n:Nat} {cs:List Value} (h:Wr w w2 b o n cs):At w2 b o n cs:=by
 obtain ⟨row,c,e,fz,g,d,j,h4⟩:=h.ex;have l:=h.len;have f:c.toList.length=row.toList.length:=by rw [h4];simp;omega
 refine ⟨c,e,fz,d,by simp at f;omega,?_⟩
 grind
theorem Wr.c7 {w w2:World} {b o n:Nat} {cs:List Value} (h:Wr w w2 b o n cs) {d m:Nat} {c:List Value} (r:At w b d m c) (g:d+m<=o\/o+n<=d):At w2 b d m c:=by
 obtain ⟨row,j,e,fz,l,q,z,h4⟩:=h.ex;obtain ⟨nA,v,x,f,y,rfl⟩:=r;rw [l] at f;simp only [bi,Obj.cells.injEq] at f;obtain ⟨rfl,rfl,rfl⟩:=f;have C:=h.len;have u:j.toList.length=row.toList.length:=by rw [h4];simp;omega
 refine ⟨j,e,fz,q,by simp at u;omega,?_⟩;rw [h4];rcases g with g|g
 rw [gz,List.drop_append_of_le_length (by simp;omega),List.take_append_of_le_length (by simp;omega),List.drop_take,List.take_take];congr 1;omega;rw [List.drop_append,List.drop_of_length_le (by simp;omega),el,jN];congr 2;simp;omega
theorem Wr.bD {w w2:World} {b o n:Nat} {cs:List Value} (h:Wr w w2 b o n cs) {k:Nat} (f:∃row e,w.heap[b]?=some (.cells row e (0,0))/\k=row.size):
 ∃row e,w2.heap[b]?=some (.cells row e (0,0))/\k=row.size:=by
 obtain ⟨row,g,e,fz,d,l,q,h4⟩:=h.ex;obtain ⟨nA,j,c,rfl⟩:=f;rw [d] at c;simp only [bi,Obj.cells.injEq] at c;obtain ⟨rfl,rfl,rfl⟩:=c;have r:=h.len;have u:g.toList.length=row.toList.length:=by rw [h4];simp;omega
 grind
theorem Wr.ah2 {w w2:World} {b o n:Nat} {cs:List Value} (h:Wr w w2 b o n cs) {f m d:Nat} {c:List Value} (e:At w b f m c) (l:o=f+d) (r:d+n<=m):
 At w2 b f m (c.take d++cs++c.drop (d+n)):=by
 subst l;have g:=h.c7 (e.sub 0 d (by omega)) (.inl (by omega));have j:=h.c7 (e.sub (d+n) (m-(d+n)) (by omega)) (.inr (by omega));have q:=e.len;rw [rl,ve] at g;rw [List.take_of_length_le (by simp;omega)] at j;have:=(g.o2 h.e4).o2 (by omega);simp_all
def ahp {t:Ty} (e:t.aY=true) (y:t.ai):∀(l:List t.ai) (_:∀x∈l,dg t x) (n:Nat),n<l.length->
 ((l.set n y).map (bH t)).flatten=((l.map (bH t)).flatten.take (n*t.size))++bH t y++((l.map (bH t)).flatten.drop (n*t.size+t.size)):=by
 intro l
 induction l with
 |nil=>intro _ n h;simp at h
 |cons a l g=>
  intro b n h;have j:(bH t a).length=t.size:=hf t a e (b a (by simp));cases n with
  |zero=>simp_all
  |succ n=>
   have:=g (λx f=>b x (by simp [f])) n (by simpa using h);simp only [List.set_cons_succ,gP,mE,this];have c:(n+1)*t.size=(bH t a).length+n*t.size:=by grind
   have d:(n+1)*t.size+t.size=(bH t a).length+(n*t.size+t.size):=by omega
   rw [d,c,List.take_length_add_append,List.drop_length_add_append];simp_all
theorem qo {c:List FT} {n:Nat} {k:FT} (hk:c[n]?=some k) (h:(FT.bo c).Nodup):k.af.Nodup/\
 (∀i k',i≠n->c[i]?=some k'->∀b∈k'.af,b∉k.af):=by
 induction c generalizing n with
 |nil=>simp at hk
 |cons q c o=>
  simp only [FT.bo,cF] at h;obtain ⟨j,l,g⟩:=h;cases n with
  |zero=>
   simp only [List.getElem?_cons_zero,bi] at hk;subst hk;refine ⟨j,λi k' hi d b e f=>?_⟩;cases i with
   |zero=>exact hi rfl
   |succ i=>exact g b f b (eY (cw (by simpa using d)) e) rfl
  |succ n=>
   obtain ⟨h4,h5⟩:=o (by simpa using hk) l;refine ⟨h4,λi k' hi d b e f=>?_⟩;cases i with
   |zero=>
    simp only [List.getElem?_cons_zero,bi] at d;subst d;exact g b e b (eY (cw (by simpa using hk)) f) rfl
   |succ i=>grind
section
variable {Z:Type} {w w2:World}
theorem bd.set {I aO:Nat} {ah:List Value} {u:Ty} {y:u.ai} {a0 ft2:FT} (D:Wr w w2 I aO u.size ah) (av:bd w2 u y ft2 ah):
 ∀(t:Ty) (x:t.ai) (ft:FT) (cs:List Value) (a:Option (Nat×Nat)) (p:aN) (v:Ty) (k:t.ai->Option Z) (r:Z),
 bd w t x ft cs->(∀b o,a=some (b,o)->At w b o t.size cs/\b∉ft.af/\(b≠I->w2.heap[b]?=w.heap[b]?))->ft.af.Nodup->
 ak t ft a p=some (v,a0,some (I,aO))->ez t x p u y k=some r->
 (∀b∈ft.af,b∉a0.af->b≠I->w2.heap[b]?=w.heap[b]?)->I∉a0.af->
 v=u/\∃(x':t.ai) (a7:List Value),k x'=some r/\bd w2 t x' (bA t ft p ft2) a7/\a7.length=cs.length/\(∀b o,a=some (b,o)->At w2 b o t.size a7):=by
 intro t
 induction t with
 |cons t r aC bk=>
  intro x ft cs a p v k ek h C U j g K aj
  match p,j,g with
  |[],j,g=>
   simp only [ak,bi,bK] at j;obtain ⟨rfl,rfl,rfl⟩:=j;simp only [ez] at g;split at g;rename_i z ab;obtain ⟨rfl,rfl⟩:=eP ab;exact ⟨rfl,y,ah,g,av,by rw [bd.len _ _ _ _ h,D.len],λb o e=>by simp only [bi,bK] at e;obtain ⟨rfl,rfl⟩:=e;exact D.e4⟩;cases g
  | .f 0::p,j,g=>
   simp only [ez] at g;obtain ⟨aa,W,X,rfl,ad,ae⟩:=h;simp only [ak] at j;have ap:=bd.len t x.1 _ W ad;have aX:=bd.len r x.2 _ X ae;simp only [aa,cF] at U;obtain ⟨a2,a3,aB⟩:=U;obtain ⟨al,au⟩:=fO _ _ _ _ j;obtain ⟨rfl,x',aF,an,ay,az,ao⟩:=aC x.1 ft.fst W a p v _ ek ad (λb o e=>⟨(C b o e).1.fst ap,λl=>(C b o e).2.1 (by simp [aa,l]),(C b o e).2.2⟩) a2 j g (λb l=>K b (by simp [aa,l])) aj;have aU:bd w2 r x.2 ft.snd X:=bd.bT r x.2 _ X (λb l=>K b (by simp [aa,l]) (λar=>aB b (al b ar) b l rfl) (λe=>by
    subst e;rcases au with ⟨J,ax,e0,a1,_⟩|⟨d,e0,_⟩
    grind
    cases a with
    |none=>cases e0
    |some a=>grind)) ae
   refine ⟨rfl,(x',x.2),aF++X,an,⟨by simp [bA,FT.af,FT.fst,FT.snd],aF,X,rfl,ay,aU⟩,by simp [az],λb o e=>?_⟩;simp only [Ty.size];refine (ao b o e).o2 ?_;have ac:At w b (o+t.size) r.size X:=(C b o e).1.snd ap;by_cases O:b=I;subst O;refine D.c7 ac (.inr ?_)
   grind
   exact ac.bT ((C b o e).2.2 O)
  | .f (n+1)::p,j,g=>
   simp only [ez] at g;obtain ⟨aa,W,X,rfl,ad,ae⟩:=h;simp only [ak] at j;have ap:=bd.len t x.1 _ W ad;have aX:=bd.len r x.2 _ X ae;simp only [aa,cF] at U;obtain ⟨a2,a3,aB⟩:=U;obtain ⟨al,au⟩:=fO _ _ _ _ j;obtain ⟨rfl,x',a5,an,ay,az,ao⟩:=bk x.2 ft.snd X (a.map λx=>(x.1,x.2+t.size)) (.f n::p) v _ ek ae (λb o e=>by
    cases a with
    |none=>cases e
    |some a=>
     simp only [dy,bi,bK] at e;obtain ⟨rfl,rfl⟩:=e;exact ⟨(C _ _ rfl).1.snd ap,λl=>(C _ _ rfl).2.1 (by simp [aa,l]),(C _ _ rfl).2.2⟩) a3 j g (λb l=>K b (by simp [aa,l])) aj
   have aT:bd w2 t x.1 ft.fst W:=bd.bT t x.1 _ W (λb l=>K b (by simp [aa,l]) (λar=>aB b l b (al b ar) rfl) (λe=>by
    subst e;rcases au with ⟨J,ax,e0,a1,_⟩|⟨d,e0,_⟩
    grind
    cases a with
    |none=>cases e0
    |some a=>grind)) ad
   refine ⟨rfl,(x.1,x'),W++a5,an,⟨by simp [bA,FT.af,FT.fst,FT.snd],W,a5,rfl,aT,ay⟩,by simp [az],λb o e=>?_⟩;simp only [Ty.size];have ac:At w b o t.size W:=(C b o e).1.fst ap;have aW:At w2 b (o+t.size) r.size a5:=ao b (o+t.size) (by subst e;rfl);refine At.o2 ?_ aW;by_cases O:b=I;subst O;refine D.c7 ac (.inl ?_)
   grind
   exact ac.bT ((C b o e).2.2 O)
  | .i n::p,j,g=>simp [ak] at j
 |slice t aC=>
  intro x ft cs a p v k ek h C U j g K aj
  match p,j,g with
  |[],j,g=>
   simp only [ak,bi,bK] at j;obtain ⟨rfl,rfl,rfl⟩:=j;simp only [ez] at g;split at g;rename_i z ab;obtain ⟨rfl,rfl⟩:=eP ab;exact ⟨rfl,y,ah,g,av,by rw [bd.len _ _ _ _ h,D.len],λb o e=>by simp only [bi,bK] at e;obtain ⟨rfl,rfl⟩:=e;exact D.e4⟩;cases g
  | .f n::p,j,g=>simp [ak] at j
  | .i n::p,j,g=>
   simp only [ez] at g;split at g;rename_i aE am;unfold iH at am;obtain ⟨b,cap,aw,rfl,rfl,ad,ae,bl,h4⟩:=h;have aK:n<List.length (α:=t.ai) x:=(b4.1 am).1;cases b with
   |none=>subst h4;omega
   |some b=>
    have hk:aw[n]?=some (aw[n]'(by omega)):=a6 _;generalize aw[n]'(by omega)=kn at hk;simp only [ak,hk] at j;obtain ⟨c,bo,be⟩:=h4.2 n aE _ am hk;simp only [FT.af,hU,ht,jP] at U;obtain ⟨a2,a3⟩:=qo hk U.2;have ba:=cw hk;obtain ⟨al,au⟩:=fO _ _ _ _ j;have aS:b∉kn.af:=λl=>U.1 (eY ba l)
    have aR:b∉a0.af:=λl=>aS (al b l)
    have aQ:b≠I->w2.heap[b]?=w.heap[b]?:=λbb=>K b (by simp [FT.af]) aR bb
    obtain ⟨rfl,x',c',an,ay,az,ao⟩:=aC aE kn c (some (b,n*t.size)) p v _ ek be (λJ ax e=>by
     grind) a2 j g
     (λJ l=>K J (by grind [FT.af,eY])) aj
    have bp:=ao b (n*t.size) rfl;have bm:I=b\/I∈kn.af:=by
     grind
    refine ⟨rfl,List.set (α:=t.ai) x n x',[.slice (some ⟨b,0,none⟩) (List.length (α:=t.ai) x) cap],an,?_,rfl,?_⟩;have aq:List.length (α:=t.ai) (List.set (α:=t.ai) x n x')=List.length (α:=t.ai) x:=hs;refine ⟨some b,cap,aw.set n (bA t kn p ft2),by simp only [bA,hk],by rw [aq];rfl,by rw [aq];exact ad,by rw [aq];exact ae,by grind,?_,?_⟩;by_cases O:b=I;subst O;exact D.bD h4.1
    grind
    intro i aD a4 bv bs;by_cases aI:i=n
    grind
    have bj:(show List t.ai from x)[i]?=some aD:=by
     grind
    have aA:aw[i]?=some a4:=by
     grind
    obtain ⟨aG,aH,bf⟩:=h4.2 i aD a4 bj aA;have bt:=cw aA;refine ⟨aG,?_,bd.bT t aD a4 aG (λJ a1=>K J (by grind [FT.af,eY]) (λar=>a3 i a4 aI aA J a1 (al J ar)) (λe=>?_)) bf⟩;by_cases O:b=I;subst O;refine D.c7 aH ?_;rcases au with ⟨J,ax,e0,a1,_⟩|⟨d,e0,bq⟩
    grind
    simp only [dy,bi,bK] at e0;obtain ⟨_,rfl⟩:=e0;rcases Nat.lt_or_gt_of_ne aI with aZ|aV
    left;have:=jQ t.size (vl aZ)
    grind
    right;have:=jQ t.size (vl aV)
    grind
    exact aH.bT (aQ O)
    grind [eY]
    intro J ax e;obtain ⟨ac,bc,aP⟩:=C J ax e;refine ac.bT (aP λe=>bc ?_)
    grind [FT.af,eY]
   cases g
 |arr m t _=>
  intro x ft cs a p v k ek h C U j g K aj
  match p,j,g with
  |[],j,g=>
   simp only [ak,bi,bK] at j;obtain ⟨rfl,rfl,rfl⟩:=j;simp only [ez] at g;split at g;rename_i z ab;obtain ⟨rfl,rfl⟩:=eP ab;exact ⟨rfl,y,ah,g,av,by rw [bd.len _ _ _ _ h,D.len],λb o e=>by simp only [bi,bK] at e;obtain ⟨rfl,rfl⟩:=e;exact D.e4⟩;cases g
  | .f n::p,j,g=>simp [ak] at j
  | .i n::q::p,j,g=>simp [ak] at j
  |[.i n],j,g=>
   obtain ⟨ag,⟨aJ,aL⟩,bn,rfl⟩:=h;have ag:t.aY=true:=ag;simp only [ak] at j;split at j;cases j;rename_i a9;simp only [gx,Nat.ble_eq,hv,jM,Nat.not_le] at a9;simp only [bi,bK] at j;obtain ⟨bh,_,a8⟩:=j;subst bh;cases a with
   |none=>cases a8
   |some a=>
    simp only [dy,bi,bK] at a8;obtain ⟨rfl,rfl⟩:=a8;simp only [ez] at g;split at g;cases g;split at g;rename_i aE am;unfold iH at am;split at g;rename_i z ab;obtain ⟨rfl,rfl⟩:=eP ab;obtain ⟨bw,_,rfl⟩:=bd.aY ag a9.1 av;have aK:n<(show List u.ai from x).length:=(b4.1 am).1;have aq:List.length (α:=u.ai) (List.set (α:=u.ai) x n y)=List.length (α:=u.ai) x:=hs;have ac:=D.ah2 (d:=n*u.size) (C _ _ rfl).1 rfl (by
     simp only [Ty.size];have:=jQ u.size (vl a9.2)
     grind)
    have br:=ahp ag y (show List u.ai from x) aL n aK;have aM:dg (.arr m u) (List.set (α:=u.ai) x n y):=⟨aq.trans aJ,λbx bu=>by
     grind⟩
    have bg:dg (.arr m u) x:=⟨aJ,aL⟩;refine ⟨rfl,List.set (α:=u.ai) x n y,bH (.arr m u) (List.set (α:=u.ai) x n y),g,⟨ag,aM,by grind [bA],rfl⟩,(hf (.arr m u) _ ag aM).trans (hf (.arr m u) x ag bg).symm,?_⟩
    grind [bH]
    cases g;cases g
 |_=>
  intro x ft cs a p v k ek h C U j g K aj;cases p with
  |cons q p=>simp [ak] at j
  |nil=>
   simp only [ak,bi,bK] at j;obtain ⟨rfl,rfl,rfl⟩:=j;simp only [ez] at g;split at g;rename_i z ab;obtain ⟨rfl,rfl⟩:=eP ab;exact ⟨rfl,y,ah,g,av,by rw [bd.len _ _ _ _ h,D.len],λb o e=>by simp only [bi,bK] at e;obtain ⟨rfl,rfl⟩:=e;exact D.e4⟩;cases g
end
abbrev b0:=Nat->aN->Option (Ty×FT×Option (Nat×Nat))
structure Gh where
 bj:Option Nat
 ft:FT
def Gh.af (g:Gh):List Nat:=g.bj.toList++g.ft.af
def ay (B:Nat->Option bm) (G:Nat->Gh):b0:=λb p=>
 match B b with
 |some x=>ak x.ty (G b).ft ((G b).bj.map (·,0)) p
 |none=>none
def bF (A:b0) (w:World) (R:Nat->Prop):TV->List Value->Prop
 | .ad t x,cs=>Rd w R t x cs
 | .nil,cs=>cs=[.slice none 0 0]
 | .unit,cs=>cs=[]
 | .cons a r,cs=>∃h j,cs=h++j/\bF A w R a h/\bF A w R r j
 | .ref b p,cs=>∃t ft e off,A b p=some (t,ft,some (e,off))/\cs=[.pointer (some ⟨e,off,none⟩)]
 | .sl b p,cs=>∃t d cap g a,A b p=some (.slice t,.node d cap g,a)/\cs=[.slice (d.map (⟨·,0,none⟩)) g.length cap]
 | .slw b p lo n,cs=>∃t d cap g a,A b p=some (.slice t,.node d cap g,a)/\(lo+n<=g.length/\n<=eK)/\
  ∃a' c,cs=[.slice a' n c]/\(n<=c/\(lo=0->c=cap/\a'=d.map (⟨·,0,none⟩)))/\(0<n->∃e,d=some e/\a'=some ⟨e,lo*t.size,none⟩)
 | .bt t x,cs=>∃e off c,cs=[.pointer (some ⟨e,off,none⟩)]/\R e/\At w e off t.size c/\Rd w R t x c
 | .bU f l,cs=>∃vs,bF A w R l vs/\cs=[.func (.func f) #[] vs.toArray]
 | .mp b,cs=>∃t d cap g a,A b []=some (.slice t,.node (some d) cap g,a)/\cs=[.map (some d)]
 | .un,cs=>∃v,cs=[v]
 | .tup _,_=>False
 | .ab _ _,_=>False
def TV.agg:TV->Bool
 | .ad t _=>t.agg
 | .unit| .cons _ _=>true
 |_=>false
def eJ (A:b0) (w:World) (R:Nat->Prop) (v:TV) (x:Value):Prop:=
 v=.un\/∃cs,bF A w R v cs/\(if v.agg then x=.agg cs.toArray else cs=[x])
def fl (A:b0) (w:World) (R:Nat->Prop):TV->List Value->Prop
 | .cons a r,x::xs=>eJ A w R a x/\fl A w R r xs
 | .unit,[]=>True
 |_,_=>False
def VR (A:b0) (w:World) (R:Nat->Prop) (v:TV) (x:Value):Prop:=
 match v with
 | .tup a=>∃xs,fl A w R a xs/\x=.tuple xs.toArray
 |v=>eJ A w R v x
def ee:(t:Ty)->t.ai->FT->List Value->Prop
 | .slice _,_,ft,cs=>ft.af=[]/\cs.length=1
 | .cons t r,x,ft,cs=>ft.af=ft.fst.af++ft.snd.af/\∃b c,cs=b++c/\ee t x.1 ft.fst b/\ee r x.2 ft.snd c
 | .bz,_,_,_=>False
 |t,x,ft,cs=>t.aY=true/\dg t x/\ft.af=[]/\cs=bH t x
def mJ (w:World) (t:Ty) (xs:List t.ai) (f:List Bool) (ft:FT) (cs:List Value):Prop:=
 ∃b cap d,ft=.node b cap d/\cs=[.slice (b.map (⟨·,0,none⟩)) xs.length cap]/\xs.length<=cap/\xs.length<=eK/\d.length=xs.length/\f.length=xs.length/\
  (match b with
   |none=>cap=0
   |some b=>(∃row e,w.heap[b]?=some (.cells row e (0,0))/\cap*t.size=row.size)/\
    ∀(i:Nat) (x:t.ai) (k:FT) (g:Bool),xs[i]?=some x->d[i]?=some k->f[i]?=some g->∃c,At w b (i*t.size) t.size c/\(g=false->bd w t x k c)/\(g=true->ee t x k c))
def fg:(K:Ty)->K.ai->Value
 | .int b,x=>.int b x
 |t,x=>.agg (bH t x).toArray
def iI (K:Ty):Prop:=K=.int .i64\/K=.arr 2 (.int .i64)
def kY (w:World):(u:Ty)->List u.ai->FT->List Value->Prop
 | .cons K (.cons (.int .i64) .unit),xs,ft,cs=>iI K/\∃c b,ft=.node (some c) 0 []/\cs=[.map (some c)]/\w.heap[c]?=some (.map b b.size)/\b.size=List.length xs/\
  ∀(i:Nat) (x:K.ai×Int×Unit),xs[i]?=some x->dg K x.1/\∃e,b[i]?=some e/\e.key=fg K x.1/\e.val=.int .i64 x.2.1/\e.born=i
 |_,_,_,_=>False
def xu (w:World) (R:Nat->Prop) (u:Ty) (xs:List u.ai) (ft:FT) (cs:List Value):Prop:=
 ∃b cap d,ft=.node (some b) cap d/\FT.bo d=[]/\cs=[.slice (some ⟨b,0,none⟩) xs.length cap]/\xs.length<=cap/\xs.length<=eK/\d.length=xs.length/\
  (∃row e,w.heap[b]?=some (.cells row e (0,0))/\cap*u.size=row.size)/\∀(i:Nat) (x:u.ai),xs[i]?=some x->∃c,At w b (i*u.size) u.size c/\Rd w R u x c
def fK (w:World) (R:Nat->Prop) (t:Ty):TV->FT->List Value->Prop
 | .cons (.ab (.slice u) xs) (.ab (.slice .bool) b),ft,cs=>u=t/\mJ w u xs b ft cs
 | .ab (.slice u) xs,ft,cs=>u=t/\kY w u xs ft cs
 | .ad (.slice u) xs,ft,cs=>u=t/\xu w R u xs ft cs
 |_,_,_=>False
def aZ (A:b0) (w:World) (R:Nat->Prop):TV->Ty->FT->List Value->Prop
 | .ab u x,t,ft,cs=>u=t/\bd w u x ft cs
 | .ad u x,t,ft,cs=>u=t/\ft.af=[]/\Rd w R u x cs
 | .cons a d,.cons t r,ft,cs=>ft.af=ft.fst.af++ft.snd.af/\∃b e,cs=b++e/\b.length=t.size/\aZ A w R a t ft.fst b/\aZ A w R d r ft.snd e
 | .cons _ _,_,_,_=>False
 | .unit,t,ft,cs=>t=.unit/\ft.af=[]/\cs=[]
 | .un,t,ft,cs=>ft.af=[]/\t.size=1/\t.agg=false/\cs.length=1
 | .tup c,.slice t,ft,cs=>fK w R t c ft cs
 | .tup _,_,_,_=>False
 |v,t,ft,cs=>t.size=1/\t.agg=false/\ft.af=[]/\bF A w R v cs
def dB (A:b0) (w:World) (R:Nat->Prop) (g:Gh) (x:bm):Prop:=
 if x.cm then g.bj=none/\(∃t,x.ty=.slice t)/\∃cs,aZ A w R x.c x.ty g.ft cs
 else ∃b row e,g.bj=some b/\w.heap[b]?=some (.cells row e (0,0))/\row.size=x.ty.size/\aZ A w R x.c x.ty g.ft row.toList
structure Fr where
 R:Nat->Prop
 M:List Nat
 w0:World
 nt:Nat
 bj:Nat->Option Nat
 dD:Nat->Option (Option Nat×Nat×Nat)
 sv:List (Array Value):=[]
def Fr.fW (F:Fr) (i n:Nat):Value:=(F.sv.getD i #[]).getD n undef
def FT.dD:FT->Option (Option Nat×Nat×Nat)
 | .node b cap c=>some (b,cap,c.length)
 |_=>none
structure fJ (w w2:World):Prop where
 size:w.heap.size<=w2.heap.size
 os:w2.os=w.os
 output:w2.output=w.output
theorem fJ.refl (w:World):fJ w w:=⟨cS _,rfl,rfl⟩
theorem fJ.trans {a b c:World} (h:fJ a b) (k:fJ b c):fJ a c:=⟨Nat.le_trans h.size k.size,k.os.trans h.os,k.output.trans h.output⟩
structure aC (F:Fr) (G:Nat->Gh) (s:St) (a:Act) (w:World):Prop where
 box:∀i x,s.box i=some x->dB (ay s.box G) w F.R (G i) x
 cC:∀i x,s.box i=some x->x.ty.cC
 c7:∀i j x y,s.box i=some x->s.box j=some y->i≠j->∀b∈(G i).af,b∉(G j).af
 b5:∀i x,s.box i=some x->(G i).af.Nodup
 bQ:∀i x,s.box i=some x->∀b∈(G i).af,¬F.R b/\b<w.heap.size/\(b∈F.M\/F.w0.heap.size<=b)
 R:∀b,F.R b->b<F.w0.heap.size/\b∉F.M
 tmps:∀n,VR (ay s.box G) w F.R (s.get n) (a.tmps.getD n undef)
 bT:∀b,b<F.w0.heap.size->b∉F.M->w.heap[b]?=F.w0.heap[b]?
 fQ:fJ F.w0 w
 defers:a.defers=[]
 nt:a.tmps.size=F.nt
 cW:∀i x,s.box i=some x->(i%32=0->(G i).bj=F.bj i)/\(x.dI=true->x.cm=true/\(G i).ft.dD=F.dD i)
 sv:∀i n,VR (ay s.box G) w F.R (s.fW i n) (F.fW i n)
 jI:s.sv.length=F.sv.length
theorem aC.size {F:Fr} {G:Nat->Gh} {s:St} {a:Act} {w:World} (h:aC F G s a w):F.w0.heap.size<=w.heap.size:=h.fQ.size
def fp:Ty->FT->Option (Option Nat×Nat×Nat)
 | .slice _,ft=>ft.dD
 |_,_=>none
def hV (A A':b0):Prop:=∀b p t ft a,A b p=some (t,ft,a)->∃c,A' b p=some (t,c,a)/\fp t c=fp t ft
def mG (b:Nat) (p:aN) (A A':b0):Prop:=∀c q t ft a,A c q=some (t,ft,a)->
 (b≠c\/aN.fY p q=none->∃d,A' c q=some (t,d,a)/\fp t d=fp t ft)/\
 (∀r,b=c->aN.fY p q=some r->aN.dM r=false->∃d,A' c q=some (t,d,a))
def ng {ft:FT} {b:Option Nat} {cap:Nat} {c:List FT} (h:ft.dD=(FT.node b cap c).dD):∃d,ft=.node b cap d/\d.length=c.length:=by
 cases ft<;>simp [FT.dD] at h
 simp_all
section
variable {A A':b0} {w w':World} {R:Nat->Prop}
theorem bF.mono (j:hV A A') (l:∀b,R b->w'.heap[b]?=w.heap[b]?):∀(v:TV) (cs:List Value),bF A w R v cs->bF A' w' R v cs
 | .ad t x,cs,h=>Rd.bT (λ_ h=>h) l t x cs h
 | .nil,_,h=>h
 | .unit,_,h=>h
 | .un,_,h=>h
 | .tup _,_,h=>h
 | .ab _ _,_,h=>h
 | .cons a r,cs,h=>by
  obtain ⟨z,C,rfl,d,e⟩:=h;exact ⟨z,C,rfl,bF.mono j l a z d,bF.mono j l r C e⟩
 | .ref b p,cs,h=>by
  obtain ⟨t,ft,y,off,d,rfl⟩:=h;obtain ⟨u,e,_⟩:=j _ _ _ _ _ d;exact ⟨t,u,y,off,e,rfl⟩
 | .sl b p,cs,h=>by
  obtain ⟨t,o,cap,D,a,d,rfl⟩:=h;obtain ⟨u,e,g⟩:=j _ _ _ _ _ d;obtain ⟨q,rfl,h4⟩:=ng g;exact ⟨t,o,cap,q,a,e,by rw [h4]⟩
 | .slw b p lo n,cs,h=>by
  obtain ⟨t,o,cap,D,a,d,J,h5⟩:=h;obtain ⟨u,e,g⟩:=j _ _ _ _ _ d;obtain ⟨q,rfl,h4⟩:=ng g;exact ⟨t,o,cap,q,a,e,⟨by omega,J.2⟩,h5⟩
 | .bt t x,cs,h=>by
  obtain ⟨y,off,c,rfl,d,e,g⟩:=h;exact ⟨y,off,c,rfl,d,e.bT (l _ d),Rd.bT (λ_ h=>h) l t x c g⟩
 | .bU f I,cs,h=>by
  obtain ⟨vs,d,rfl⟩:=h;exact ⟨vs,bF.mono j l I vs d,rfl⟩
 | .mp b,cs,h=>by
  obtain ⟨t,o,cap,D,a,d,rfl⟩:=h;obtain ⟨u,e,g⟩:=j _ _ _ _ _ d;obtain ⟨q,rfl,_⟩:=ng g;exact ⟨t,o,cap,q,a,e,rfl⟩
theorem aic (b:Nat) (p:aN) (v:TV):(v.ax b p).agg=v.agg:=by
 cases v
 case ref=>simp only [TV.ax];split<;>(try split)<;>(try split)<;>rfl
 case sl=>simp only [TV.ax];split<;>(try split)<;>(try split)<;>rfl
 case slw=>simp only [TV.ax];split<;>(try split)<;>(try split)<;>rfl
 case mp=>simp only [TV.ax];split<;>(try split)<;>(try split)<;>rfl
 all_goals rfl
theorem bF.ax {b:Nat} {p:aN} (z:mG b p A A') (D:∀b,R b->w'.heap[b]?=w.heap[b]?):∀(v:TV) (cs:List Value),bF A w R v cs->bF A' w' R (v.ax b p) cs
 | .ad t x,cs,h=>Rd.bT (λ_ h=>h) D t x cs h
 | .nil,_,h=>h
 | .unit,_,h=>h
 | .un,_,h=>h
 | .tup _,_,h=>h.elim
 | .ab _ _,_,h=>h.elim
 | .cons a r,cs,h=>by
  obtain ⟨J,K,rfl,g,d⟩:=h;exact ⟨J,K,rfl,bF.ax z D a J g,bF.ax z D r K d⟩
 | .ref c q,cs,h=>by
  obtain ⟨t,ft,I,off,g,rfl⟩:=h;obtain ⟨d,C⟩:=z _ _ _ _ _ g;simp only [TV.ax];split;rename_i e;split;rename_i r o;split;exact ⟨_,rfl⟩;rename_i aa;obtain ⟨j,h4⟩:=C r (ga e) o (by simpa using aa);exact ⟨t,j,I,off,h4,rfl⟩;rename_i o;obtain ⟨j,h4,_⟩:=d (.inr o);exact ⟨t,j,I,off,h4,rfl⟩;rename_i e;obtain ⟨j,h4,_⟩:=d (.inl (λy=>e (by rw [y,nP])));exact ⟨t,j,I,off,h4,rfl⟩
 | .sl c q,cs,h=>by
  obtain ⟨t,u,cap,W,a,g,rfl⟩:=h;obtain ⟨d,C⟩:=z _ _ _ _ _ g;simp only [TV.ax];split;rename_i e;split;exact ⟨_,rfl⟩;rename_i o;obtain ⟨j,h4,h5⟩:=d (.inr o);obtain ⟨l,rfl,h6⟩:=ng h5;exact ⟨t,u,cap,l,a,h4,by rw [h6]⟩;rename_i e;obtain ⟨j,h4,h5⟩:=d (.inl (λy=>e (by rw [y,nP])));obtain ⟨l,rfl,h6⟩:=ng h5;exact ⟨t,u,cap,l,a,h4,by rw [h6]⟩
 | .slw c q lo n,cs,h=>by
  obtain ⟨t,u,cap,W,a,g,U,a',c',rfl,O⟩:=h;obtain ⟨d,C⟩:=z _ _ _ _ _ g;simp only [TV.ax];split;rename_i e;split;exact ⟨_,rfl⟩;rename_i o;obtain ⟨j,h4,h5⟩:=d (.inr o);obtain ⟨l,rfl,h6⟩:=ng h5;exact ⟨t,u,cap,l,a,h4,⟨by omega,U.2⟩,a',c',rfl,O⟩;rename_i e;obtain ⟨j,h4,h5⟩:=d (.inl (λy=>e (by rw [y,nP])));obtain ⟨l,rfl,h6⟩:=ng h5;exact ⟨t,u,cap,l,a,h4,⟨by omega,U.2⟩,a',c',rfl,O⟩
 | .bt t x,cs,h=>by
  obtain ⟨I,off,c,rfl,g,d,C⟩:=h;exact ⟨I,off,c,rfl,g,d.bT (D _ g),Rd.bT (λ_ h=>h) D t x c C⟩
 | .bU f X,cs,h=>by
  obtain ⟨vs,g,rfl⟩:=h;exact ⟨vs,bF.ax z D X vs g,rfl⟩
 | .mp c,cs,h=>by
  obtain ⟨t,u,cap,W,a,g,rfl⟩:=h;obtain ⟨d,C⟩:=z _ _ _ _ _ g;simp only [TV.ax];split;rename_i e;split;exact ⟨_,rfl⟩;rename_i o;obtain ⟨j,h4,h5⟩:=d (.inr o);obtain ⟨l,rfl,h6⟩:=ng h5;exact ⟨t,u,cap,l,a,h4,rfl⟩;rename_i e;obtain ⟨j,h4,h5⟩:=d (.inl (λy=>e (by rw [y,nP])));obtain ⟨l,rfl,h6⟩:=ng h5;exact ⟨t,u,cap,l,a,h4,rfl⟩
theorem eJ.mono (e:hV A A') (f:∀b,R b->w'.heap[b]?=w.heap[b]?) {v:TV} {x:Value} (h:eJ A w R v x):eJ A' w' R v x:=
 h.imp id λ⟨cs,c,d⟩=>⟨cs,bF.mono e f v cs c,d⟩
theorem fl.mono (c:hV A A') (d:∀b,R b->w'.heap[b]?=w.heap[b]?):∀(v:TV) (xs:List Value),fl A w R v xs->fl A' w' R v xs
 | .cons _ r,_::xs,h=>⟨eJ.mono c d h.1,fl.mono c d r xs h.2⟩
 | .unit,[],_=>trivial
 | .cons _ _,[],h=>h.elim
 | .unit,_::_,h=>h.elim
 | .un,_,h=>h.elim
 | .ad _ _,_,h=>h.elim
 | .ab _ _,_,h=>h.elim
 | .nil,_,h=>h.elim
 | .tup _,_,h=>h.elim
 | .ref _ _,_,h=>h.elim
 | .sl _ _,_,h=>h.elim
 | .slw _ _ _ _,_,h=>h.elim
 | .bt _ _,_,h=>h.elim
 | .bU _ _,_,h=>h.elim
 | .mp _,_,h=>h.elim
theorem VR.mono (c:hV A A') (d:∀b,R b->w'.heap[b]?=w.heap[b]?) {v:TV} {x:Value} (h:VR A w R v x):VR A' w' R v x:=by
 unfold VR at*
 grind [fl.mono,eJ.mono]
theorem eJ.ax {b:Nat} {p:aN} (e:mG b p A A') (f:∀b,R b->w'.heap[b]?=w.heap[b]?) {v:TV} {x:Value} (h:eJ A w R v x):eJ A' w' R (v.ax b p) x:=by
 rcases h with rfl|⟨cs,c,d⟩
 exact .inl rfl;exact .inr ⟨cs,bF.ax e f v cs c,by rw [aic];exact d⟩
theorem fl.ax {b:Nat} {p:aN} (c:mG b p A A') (d:∀b,R b->w'.heap[b]?=w.heap[b]?):∀(v:TV) (xs:List Value),fl A w R v xs->fl A' w' R (v.ax b p) xs
 | .cons _ r,_::xs,h=>⟨eJ.ax c d h.1,fl.ax c d r xs h.2⟩
 | .unit,[],_=>trivial
 | .cons _ _,[],h=>h.elim
 | .unit,_::_,h=>h.elim
 | .un,_,h=>h.elim
 | .ad _ _,_,h=>h.elim
 | .ab _ _,_,h=>h.elim
 | .nil,_,h=>h.elim
 | .tup _,_,h=>h.elim
 | .ref _ _,_,h=>h.elim
 | .sl _ _,_,h=>h.elim
 | .slw _ _ _ _,_,h=>h.elim
 | .bt _ _,_,h=>h.elim
 | .bU _ _,_,h=>h.elim
 | .mp _,_,h=>h.elim
theorem oG {v:TV} {x:Value} (h:∀a,v≠ .tup a):VR A w R v x=eJ A w R v x:=by
 cases v<;>first|rfl|exact absurd rfl (h _)
theorem aif (b:Nat) (p:aN) {v:TV} (h:∀a,v≠ .tup a):∀a,v.ax b p≠ .tup a:=by
 intro a;cases v
 case tup a=>exact absurd rfl (h a)
 case ref=>simp only [TV.ax];grind
 case sl=>simp only [TV.ax];grind
 case slw=>simp only [TV.ax];grind
 case mp=>simp only [TV.ax];grind
 all_goals simp [TV.ax]
theorem VR.ax {b:Nat} {p:aN} (e:mG b p A A') (g:∀b,R b->w'.heap[b]?=w.heap[b]?) {v:TV} {x:Value} (h:VR A w R v x):VR A' w' R (v.ax b p) x:=by
 by_cases f:∃a,v=.tup a
 obtain ⟨a,rfl⟩:=f;obtain ⟨xs,c,d⟩:=h;exact ⟨xs,fl.ax e g a xs c,d⟩
 grind [oG,aif,eJ.ax]
end
def EX:∀(t:Ty) (ft:FT) (a:Option (Nat×Nat)) (q:aN) {v:Ty} {d:FT} {b:Option (Nat×Nat)},ak t ft a q=some (v,d,b)->aN.dM q=false->
 ∀ft2,∃e,ak t ft2 a q=some (v,e,b):=by
 intro t
 induction t with
 |cons t r j g=>
  intro ft a q v d b h c ft2
  match q,h with
  |[],h=>simp only [ak,bi,bK] at h;obtain ⟨rfl,rfl,rfl⟩:=h;exact ⟨ft2,rfl⟩
  | .f 0::q,h=>exact j _ _ _ h (by simpa [aN.dM] using c) _
  | .f (n+1)::q,h=>exact g _ _ _ h (by simpa [aN.dM] using c) _
  | .i n::q,h=>simp [ak] at h
 |_=>
  intro ft a q v d b h c ft2;cases q with
  |nil=>simp only [ak,bi,bK] at h;obtain ⟨rfl,rfl,rfl⟩:=h;exact ⟨ft2,rfl⟩
  |cons s q=>cases s<;>simp [ak,aN.dM] at h c
def afy:∀(t:Ty) (ft:FT) (a:Option (Nat×Nat)) (p q:aN) (f:FT) {u v:Ty} {o j:FT} {l e:Option (Nat×Nat)},
 ak t ft a p=some (u,o,l)->ak t ft a q=some (v,j,e)->
 (aN.fY p q=none->∃x,ak t (bA t ft p f) a q=some (v,x,e)/\fp v x=fp v j)/\
 (∀r,aN.fY p q=some r->aN.dM r=false->∃x,ak t (bA t ft p f) a q=some (v,x,e)):=by
 intro t
 induction t with
 |cons t r y I=>
  intro ft a p q f u v o j l e c d
  match p,c with
  |[],c=>exact ⟨λh=>by simp [aN.fY] at h,λs h g=>by simp only [aN.fY,bi] at h;subst h;exact EX _ _ _ _ d g _⟩
  | .i n::p,c=>simp [ak] at c
  | .f 0::p,c=>
   match q,d with
   |[],d=>
    simp only [ak,bi,bK] at d;obtain ⟨rfl,rfl,rfl⟩:=d;exact ⟨λ_=>⟨_,rfl,rfl⟩,λs h=>by simp [aN.fY] at h⟩
   | .i n::q,d=>simp [ak] at d
   | .f 0::q,d=>
    simp only [ak] at c d;have:=y _ _ p q f c d;simpa [aN.fY,ak,bA,FT.fst] using this
   | .f (n+1)::q,d=>
    grind [ak,bA,FT.snd]
  | .f (m+1)::p,c=>
   match q,d with
   |[],d=>
    simp only [ak,bi,bK] at d;obtain ⟨rfl,rfl,rfl⟩:=d;exact ⟨λ_=>⟨_,rfl,rfl⟩,λs h=>by simp [aN.fY] at h⟩
   | .i n::q,d=>simp [ak] at d
   | .f 0::q,d=>
    grind [ak,bA,FT.fst]
   | .f (n+1)::q,d=>
    simp only [ak] at c d;have:=I _ _ (.f m::p) (.f n::q) f c d;simp only [aN.fY] at this|-;simp only [ak,bA,FT.snd];exact this
 |slice t y=>
  intro ft a p q f u v o j l e c d
  match p,c with
  |[],c=>exact ⟨λh=>by simp [aN.fY] at h,λs h g=>by simp only [aN.fY,bi] at h;subst h;exact EX _ _ _ _ d g _⟩
  | .f n::p,c=>simp [ak] at c
  | .i n::p,c=>
   match ft,c,d with
   | .leaf,c,_=>simp [ak] at c
   | .eI _ _,c,_=>simp [ak] at c
   | .node none _ _,c,_=>simp [ak] at c
   | .node (some b) cap J,c,d=>
    simp only [ak] at c;split at c;rename_i kn hk
    match q,d with
    |[],d=>
     grind [ak,fp,FT.dD,bA]
    | .f n::q,d=>simp [ak] at d
    | .i m::q,d=>
     simp only [ak] at d;split at d;rename_i K z;by_cases C:m=n;subst C;rw [hk] at z;obtain rfl:=b3 z;have D:(J.set m (bA t kn p f))[m]?=some (bA t kn p f):=by
      grind
     have:=y _ _ p q f c d;simpa [aN.fY,ak,bA,hk,D] using this
     grind [bA,ak]
     cases d
    cases c
 |arr m t _=>
  intro ft a p q f u v o j l e c d
  match p,c with
  |[],c=>exact ⟨λh=>by simp [aN.fY] at h,λs h g=>by simp only [aN.fY,bi] at h;subst h;exact EX _ _ _ _ d g _⟩
  | .f n::p,c=>simp [ak] at c
  | .i n::s::p,c=>simp [ak] at c
  |[.i n],c=>
   grind [bA]
 |_=>
  intro ft a p q f u v o j l e c d;cases p with
  |nil=>exact ⟨λh=>by simp [aN.fY] at h,λs h g=>by simp only [aN.fY,bi] at h;subst h;exact EX _ _ _ _ d g _⟩
  |cons s p=>simp [ak] at c
theorem fK.out {w:World} {R:Nat->Prop} {t:Ty} {c:TV} {ft:FT} {cs:List Value} (h:fK w R t c ft cs):
 (∃(xs:List t.ai) (b:List Bool),c=.cons (.ab (.slice t) xs) (.ab (.slice .bool) b)/\mJ w t xs b ft cs)\/
 (∃(xs:List t.ai),c=.ab (.slice t) xs/\kY w t xs ft cs)\/∃(xs:List t.ai),c=.ad (.slice t) xs/\xu w R t xs ft cs:=by
 unfold fK at h;split at h;obtain ⟨rfl,h⟩:=h;grind;obtain ⟨rfl,h⟩:=h;grind;obtain ⟨rfl,h⟩:=h;grind;exact h.elim
theorem kY.out {w:World} {u:Ty} {xs:List u.ai} {ft:FT} {cs:List Value} (h:kY w u xs ft cs):∃b c,ft=.node (some b) 0 []/\cs=[.map (some b)]/\w.heap[b]?=some (.map c c.size):=by
 unfold kY at h
 grind
theorem kY.bT {w w':World} {u:Ty} {xs:List u.ai} {ft:FT} {cs:List Value} (c:∀b∈ft.af,w'.heap[b]?=w.heap[b]?) (h:kY w u xs ft cs):kY w' u xs ft cs:=by
 unfold kY at h|-
 grind [FT.af]
theorem xu.bT {w w':World} {R:Nat->Prop} {u:Ty} {xs:List u.ai} {ft:FT} {cs:List Value} (r:∀b,R b->w'.heap[b]?=w.heap[b]?) (n:∀b∈ft.af,w'.heap[b]?=w.heap[b]?) (h:xu w R u xs ft cs):xu w' R u xs ft cs:=by
 obtain ⟨b,cap,y,rfl,d,f,g,j,h4,⟨row,e,h5,h6⟩,l⟩:=h;have e0:w'.heap[b]?=w.heap[b]?:=n b (by simp [FT.af]);refine ⟨b,cap,y,rfl,d,f,g,j,h4,⟨row,e,by rw [e0];exact h5,h6⟩,λi x v=>?_⟩;obtain ⟨c,o,q⟩:=l i x v;exact ⟨c,o.bT e0,Rd.bT (λ_ h=>h) r _ _ _ q⟩
theorem mJ.bT {w w':World} {t:Ty} {xs:List t.ai} {d:List Bool} {ft:FT} {cs:List Value} (f:∀b∈ft.af,w'.heap[b]?=w.heap[b]?) (h:mJ w t xs d ft cs):mJ w' t xs d ft cs:=by
 obtain ⟨b,cap,C,rfl,rfl,l,n,o,h4,h5⟩:=h;refine ⟨b,cap,C,rfl,rfl,l,n,o,h4,?_⟩;cases b with
 |none=>exact h5
 |some b=>
  obtain ⟨⟨row,e,h5,h6⟩,q⟩:=h5;have e0:w'.heap[b]?=w.heap[b]?:=f b (by simp [FT.af]);refine ⟨⟨row,e,by rw [e0];exact h5,h6⟩,λi x k g z hk u=>?_⟩;obtain ⟨c,r,y,v⟩:=q i x k g z hk u;refine ⟨c,r.bT e0,λe=>bd.bT t x k c (λj m=>f j ?_) (y e),v⟩;simp only [FT.af,bI];exact .inr (eY (cw hk) m)
section
variable {A A':b0} {w w':World} {R:Nat->Prop}
theorem aZ.len:∀(c:TV) (t:Ty) (ft:FT) (cs:List Value),aZ A w R c t ft cs->cs.length=t.size:=by
 intro c
 induction c with
 |ab u x=>intro t ft cs h;obtain ⟨rfl,h⟩:=h;exact bd.len _ _ _ _ h
 |ad u x=>intro t ft cs h;obtain ⟨rfl,_,h⟩:=h;exact Rd.len _ _ _ h
 |cons a d q j=>
  intro t ft cs h;cases t<;>try exact h.elim
  obtain ⟨_,l,o,rfl,e,_,g⟩:=h;simp [Ty.size,e,j _ _ _ g]
 |unit=>intro t ft cs h;obtain ⟨rfl,_,rfl⟩:=h;rfl
 |un=>intro t ft cs h;rw [h.2.1];exact h.2.2.2
 |tup a _=>
  intro t ft cs h;cases t<;>try exact h.elim
  rcases fK.out h with ⟨_,_,_,_,_,_,_,rfl,_⟩|⟨_,_,h⟩|⟨_,_,_,_,_,_,_,rfl,_⟩
  rfl;obtain ⟨_,_,_,rfl,_⟩:=h.out;rfl;rfl
 |nil=>intro t ft cs h;obtain ⟨e,_,_,rfl⟩:=h;rw [e];rfl
 |ref b p=>intro t ft cs h;obtain ⟨e,_,_,_,_,_,_,_,rfl⟩:=h;rw [e];rfl
 |sl b p=>intro t ft cs h;obtain ⟨e,_,_,_,_,_,_,_,_,rfl⟩:=h;rw [e];rfl
 |slw b p lo n=>intro t ft cs h;obtain ⟨e,_,_,_,_,_,_,_,_,_,_,_,rfl,_⟩:=h;rw [e];rfl
 |bt u x=>intro t ft cs h;obtain ⟨e,_,_,_,_,_,rfl,_⟩:=h;rw [e];rfl
 |bU f c _=>intro t ft cs h;obtain ⟨e,_,_,_,_,rfl⟩:=h;rw [e];rfl
 |mp b=>intro t ft cs h;obtain ⟨e,_,_,_,_,_,_,_,_,rfl⟩:=h;rw [e];rfl
theorem aZ.mono (l:hV A A') (g:∀b,R b->w'.heap[b]?=w.heap[b]?):∀(c:TV) (t:Ty) (ft:FT) (cs:List Value),(∀b∈ft.af,w'.heap[b]?=w.heap[b]?)->aZ A w R c t ft cs->aZ A' w' R c t ft cs:=by
 intro c
 induction c with
 |ab u x=>intro t ft cs e h;exact ⟨h.1,bd.bT _ _ _ _ e h.2⟩
 |ad u x=>intro t ft cs e h;exact ⟨h.1,h.2.1,Rd.bT (λ_ h=>h) g _ _ _ h.2.2⟩
 |cons a d C D=>
  intro t ft cs e h;cases t<;>try exact h.elim
  obtain ⟨v,q,r,rfl,j,y,z⟩:=h;exact ⟨v,q,r,rfl,j,C _ _ _ (λb o=>e b (i3 o)) y,D _ _ _ (λb o=>e b (jd o)) z⟩
 |unit=>intro t ft cs _ h;exact h
 |un=>intro t ft cs _ h;exact h
 |tup a _=>
  intro t ft cs e h;cases t<;>try exact h.elim
  rcases fK.out h with ⟨xs,I,rfl,j⟩|⟨xs,rfl,j⟩|⟨xs,rfl,j⟩
  exact ⟨rfl,j.bT e⟩;exact ⟨rfl,j.bT e⟩;exact ⟨rfl,j.bT g e⟩
 |nil=>intro t ft cs _ h;exact h
 |ref b p=>intro t ft cs _ h;exact ⟨h.1,h.2.1,h.2.2.1,bF.mono l g _ _ h.2.2.2⟩
 |sl b p=>intro t ft cs _ h;exact ⟨h.1,h.2.1,h.2.2.1,bF.mono l g _ _ h.2.2.2⟩
 |slw b p lo n=>intro t ft cs _ h;exact ⟨h.1,h.2.1,h.2.2.1,bF.mono l g _ _ h.2.2.2⟩
 |bt u x=>intro t ft cs _ h;exact ⟨h.1,h.2.1,h.2.2.1,bF.mono l g _ _ h.2.2.2⟩
 |bU f c _=>intro t ft cs _ h;exact ⟨h.1,h.2.1,h.2.2.1,bF.mono l g _ _ h.2.2.2⟩
 |mp b=>intro t ft cs _ h;exact ⟨h.1,h.2.1,h.2.2.1,bF.mono l g _ _ h.2.2.2⟩
def G7 {v:TV} {b:Nat} {p:aN} {t:Ty} {ft:FT} {cs:List Value} (c:t.size=1) (d:t.agg=false) (f:ft.af=[]) (g:v.ax b p=.un\/v.ax b p=v)
 (j:∀(A:b0) (w:World) (R:Nat->Prop),(t.size=1/\t.agg=false/\ft.af=[]/\bF A w R v cs)->aZ A w R v t ft cs) (h:bF A w R (v.ax b p) cs):aZ A w R (v.ax b p) t ft cs:=by
 rcases g with e|e
 rw [e] at h|-;obtain ⟨x,rfl⟩:=h;exact ⟨f,c,d,rfl⟩;simp_all
def kill_cases (b:Nat) (p:aN) (c:Nat) (q:aN) (lo n:Nat):
 ((TV.ref c q).ax b p=.un\/(TV.ref c q).ax b p=.ref c q)/\((TV.sl c q).ax b p=.un\/(TV.sl c q).ax b p=.sl c q)/\((TV.slw c q lo n).ax b p=.un\/(TV.slw c q lo n).ax b p=.slw c q lo n)/\((TV.mp c).ax b p=.un\/(TV.mp c).ax b p=.mp c):=by
 grind [TV.ax]
theorem aZ.ax {b:Nat} {p:aN} (l:mG b p A A') (g:∀b,R b->w'.heap[b]?=w.heap[b]?):∀(c:TV) (t:Ty) (ft:FT) (cs:List Value),(∀b∈ft.af,w'.heap[b]?=w.heap[b]?)->aZ A w R c t ft cs->aZ A' w' R (c.ax b p) t ft cs:=by
 intro c
 induction c with
 |ab u x=>intro t ft cs e h;exact ⟨h.1,bd.bT _ _ _ _ e h.2⟩
 |ad u x=>intro t ft cs e h;exact ⟨h.1,h.2.1,Rd.bT (λ_ h=>h) g _ _ _ h.2.2⟩
 |cons a d D I=>
  intro t ft cs e h;cases t<;>try exact h.elim
  obtain ⟨y,r,v,rfl,j,z,C⟩:=h;exact ⟨y,r,v,rfl,j,D _ _ _ (λb o=>e b (i3 o)) z,I _ _ _ (λb o=>e b (jd o)) C⟩
 |unit=>intro t ft cs _ h;exact h
 |un=>intro t ft cs _ h;exact h
 |tup a _=>
  intro t ft cs e h;cases t<;>try exact h.elim
  rcases fK.out h with ⟨xs,J,rfl,j⟩|⟨xs,rfl,j⟩|⟨xs,rfl,j⟩
  exact ⟨rfl,j.bT e⟩;exact ⟨rfl,j.bT e⟩;exact ⟨rfl,j.bT g e⟩
 |nil=>intro t ft cs _ h;exact h
 |ref c q=>intro t ft cs _ h;exact G7 h.1 h.2.1 h.2.2.1 (kill_cases b p c q 0 0).1 (λ_ _ _ h=>h) (bF.ax l g _ _ h.2.2.2)
 |sl c q=>intro t ft cs _ h;exact G7 h.1 h.2.1 h.2.2.1 (kill_cases b p c q 0 0).2.1 (λ_ _ _ h=>h) (bF.ax l g _ _ h.2.2.2)
 |slw c q lo n=>intro t ft cs _ h;exact G7 h.1 h.2.1 h.2.2.1 (kill_cases b p c q lo n).2.2.1 (λ_ _ _ h=>h) (bF.ax l g _ _ h.2.2.2)
 |bt u x=>intro t ft cs _ h;exact ⟨h.1,h.2.1,h.2.2.1,bF.ax l g _ _ h.2.2.2⟩
 |bU f c _=>intro t ft cs _ h;exact ⟨h.1,h.2.1,h.2.2.1,bF.ax l g _ _ h.2.2.2⟩
 |mp c=>intro t ft cs _ h;exact G7 h.1 h.2.1 h.2.2.1 (kill_cases b p c [] 0 0).2.2.2 (λ_ _ _ h=>h) (bF.ax l g _ _ h.2.2.2)
end
theorem Rd.fS {w:World} {R:Nat->Prop}:∀{t:Ty} {x:t.ai},t.aY=true->dg t x->Rd w R t x (bH t x)
 | .int _,_,b,hk=>⟨b,hk,rfl⟩
 | .bool,_,b,hk=>⟨b,hk,rfl⟩
 | .bR,_,b,hk=>⟨b,hk,rfl⟩
 | .unit,_,b,hk=>⟨b,hk,rfl⟩
 | .arr _ _,_,b,hk=>⟨b,hk,rfl⟩
 | .bz,_,b,_=>by simp [Ty.aY] at b
 | .slice _,_,b,_=>by simp [Ty.aY] at b
 | .cons t r,x,b,hk=>by
  simp only [Ty.aY,bE] at b;exact ⟨_,_,rfl,Rd.fS b.1 hk.1,Rd.fS b.2 hk.2⟩
def Tk:∀(t:Ty) (ft:FT) (a:Option (Nat×Nat)) (p:aN) {u:Ty} {f:FT} {a':Option (Nat×Nat)},ak t ft a p=some (u,f,a')->cE t p=some u:=by
 intro t
 induction t with
 |cons t r c d=>
  intro ft a p u f a' h
  match p,h with
  |[],h=>simp only [ak,bi,bK] at h;obtain ⟨rfl,_,_⟩:=h;rfl
  | .f 0::p,h=>exact c _ _ _ h
  | .f (n+1)::p,h=>exact d _ _ _ h
  | .i n::p,h=>simp [ak] at h
 |slice t c=>
  intro ft a p u f a' h
  match p,h with
  |[],h=>simp only [ak,bi,bK] at h;obtain ⟨rfl,_,_⟩:=h;rfl
  | .f n::p,h=>simp [ak] at h
  | .i n::p,h=>
   match ft,h with
   | .leaf,h=>simp [ak] at h
   | .eI _ _,h=>simp [ak] at h
   | .node none _ _,h=>simp [ak] at h
   | .node (some b) cap e,h=>
    simp only [ak] at h;split at h;exact c _ _ _ h;cases h
 |arr m t _=>
  intro ft a p u f a' h
  match p,h with
  |[],h=>simp only [ak,bi,bK] at h;obtain ⟨rfl,_,_⟩:=h;rfl
  | .f n::p,h=>simp [ak] at h
  | .i n::s::p,h=>simp [ak] at h
  |[.i n],h=>
   grind [ak,cE]
 |_=>
  intro ft a p u f a' h;cases p with
  |nil=>simp only [ak,bi,bK] at h;obtain ⟨rfl,_,_⟩:=h;rfl
  |cons s p=>simp [ak] at h
def lP (w:World) (b o n:Nat):Prop:=∃row e,w.heap[b]?=some (.cells row e (0,0))/\o+n<=row.size
def afx:∀(t:Ty) (ft:FT) (a:Option (Nat×Nat)) (p:aN) {u:Ty} {j:FT} {h off:Nat},ak t ft a p=some (u,j,some (h,off))->ft.af.Nodup->(∀b o,a=some (b,o)->b∉ft.af)->h∉j.af:=by
 intro t
 induction t with
 |cons t r x y=>
  intro ft a p u j h off c g v;have h4:ft.fst.af.Nodup/\ft.snd.af.Nodup:=by
   cases ft with
   |eI a d=>simp only [FT.af,cF] at g;exact ⟨g.1,g.2.1⟩
   |_=>simp [FT.fst,FT.snd,FT.af]
  match p,c with
  |[],c=>grind [ak]
  | .f 0::p,c=>exact x _ _ _ c h4.1 (λb o e l=>v b o e (i3 l))
  | .f (n+1)::p,c=>
   refine y _ _ _ c h4.2 (λb o e l=>?_);cases a with
   |none=>cases e
   |some a=>grind [jd]
  | .i n::p,c=>simp [ak] at c
 |slice t x=>
  intro ft a p u j h off c g v
  match p,c with
  |[],c=>grind [ak]
  | .f n::p,c=>simp [ak] at c
  | .i n::p,c=>
   match ft,c,g with
   | .leaf,c,_=>simp [ak] at c
   | .eI _ _,c,_=>simp [ak] at c
   | .node none _ _,c,_=>simp [ak] at c
   | .node (some b) cap C,c,g=>
    simp only [ak] at c;split at c;rename_i kn hk;simp only [FT.af,hU,ht,jP] at g;refine x _ _ _ c (qo hk g.2).1 (λz D e l=>?_);simp only [bi,bK] at e;obtain ⟨rfl,rfl⟩:=e;exact g.1 (eY (cw hk) l);cases c
 |arr m t _=>
  intro ft a p u j h off c g v
  match p,c with
  |[],c=>grind [ak]
  | .f n::p,c=>simp [ak] at c
  | .i n::q::p,c=>simp [ak] at c
  |[.i n],c=>
   grind [ak,FT.af]
 |_=>
  grind [ak]
def afw:∀(t:Ty) (ft:FT) (a:Option (Nat×Nat)) (p:aN) {u:Ty} {g:FT} {h:Option (Nat×Nat)},ak t ft a p=some (u,g,h)->ft.af.Nodup->g.af.Nodup:=by
 intro t
 induction t with
 |cons t r j l=>
  intro ft a p u g h c e;have h4:ft.fst.af.Nodup/\ft.snd.af.Nodup:=by
   cases ft with
   |eI a d=>simp only [FT.af,cF] at e;exact ⟨e.1,e.2.1⟩
   |_=>simp [FT.fst,FT.snd,FT.af]
  match p,c with
  |[],c=>grind [ak]
  | .f 0::p,c=>exact j _ _ _ c h4.1
  | .f (n+1)::p,c=>exact l _ _ _ c h4.2
  | .i n::p,c=>simp [ak] at c
 |slice t j=>
  intro ft a p u g h c e
  match p,c with
  |[],c=>grind [ak]
  | .f n::p,c=>simp [ak] at c
  | .i n::p,c=>
   match ft,c,e with
   | .leaf,c,_=>simp [ak] at c
   | .eI _ _,c,_=>simp [ak] at c
   | .node none _ _,c,_=>simp [ak] at c
   | .node (some b) cap o,c,e=>
    grind [ak,FT.af,qo]
 |arr m t _=>
  intro ft a p u g h c e
  match p,c with
  |[],c=>grind [ak]
  | .f n::p,c=>simp [ak] at c
  | .i n::s::p,c=>simp [ak] at c
  |[.i n],c=>
   simp only [ak] at c;split at c;cases c;simp only [bi,bK] at c;obtain ⟨_,rfl,_⟩:=c;exact lD
 |_=>
  grind [ak]
section
variable {Z:Type} {w w2:World}
theorem tZ:∀(t:Ty) (x:t.ai) (p:aN) (k:(u:Ty)->u.ai->Option Z) (r:Z),cy t x p k=some r->
 ∃u y,k u y=some r/\∀{Y:Type} (k':(u:Ty)->u.ai->Option Y),cy t x p k'=k' u y:=by
 have b:∀(t:Ty) (x:t.ai) (k:(u:Ty)->u.ai->Option Z) (r:Z),cy t x [] k=some r->∃u y,k u y=some r/\∀{Y:Type} (k':(u:Ty)->u.ai->Option Y),cy t x [] k'=k' u y:=by
  grind [cy]
 intro t
 induction t with
 |cons t r c d=>
  intro x p k q h
  match p,h with
  |[],h=>exact b _ _ _ _ h
  | .i n::p,h=>simp [cy] at h
  | .f 0::p,h=>
   grind [cy]
  | .f (n+1)::p,h=>
   grind [cy]
 |slice t c=>
  intro x p k q h
  match p,h with
  |[],h=>exact b _ _ _ _ h
  | .f n::p,h=>simp [cy] at h
  | .i n::p,h=>
   grind [cy]
 |arr m t c=>
  intro x p k q h
  match p,h with
  |[],h=>exact b _ _ _ _ h
  | .f n::p,h=>simp [cy] at h
  | .i n::p,h=>
   grind [cy]
 |_=>
  grind [cy]
theorem ee.len:∀(t:Ty) (x:t.ai) (ft:FT) (cs:List Value),ee t x ft cs->cs.length=t.size
 | .int _,_,_,_,h=>by rw [h.2.2.2];exact hf _ _ h.1 h.2.1
 | .bool,_,_,_,h=>by rw [h.2.2.2];exact hf _ _ h.1 h.2.1
 | .bR,_,_,_,h=>by rw [h.2.2.2];exact hf _ _ h.1 h.2.1
 | .unit,_,_,_,h=>by rw [h.2.2.2];exact hf _ _ h.1 h.2.1
 | .arr _ _,_,_,_,h=>by rw [h.2.2.2];exact hf _ _ h.1 h.2.1
 | .bz,_,_,_,h=>h.elim
 | .slice _,_,_,_,h=>h.2
 | .cons t r,x,ft,cs,h=>by
  obtain ⟨_,b,c,rfl,d,e⟩:=h;rw [ea,ee.len t x.1 _ b d,ee.len r x.2 _ c e];rfl
def ee.Gd:∀(t:Ty) (x:t.ai) (ft:FT) (cs:List Value),t.aY=true->bd w t x ft cs->ee t x ft cs
 | .int _,_,_,_,_,h=>h
 | .bool,_,_,_,_,h=>h
 | .bR,_,_,_,_,h=>h
 | .unit,_,_,_,_,h=>h
 | .arr _ _,_,_,_,_,h=>h
 | .bz,_,_,_,_,h=>h.elim
 | .slice _,_,_,_,b,_=>by simp [Ty.aY] at b
 | .cons t r,x,ft,cs,b,h=>by
  simp only [Ty.aY,bE] at b;obtain ⟨e,c,d,rfl,f,g⟩:=h;exact ⟨e,c,d,rfl,ee.Gd t x.1 _ c b.1 f,ee.Gd r x.2 _ d b.2 g⟩
theorem ee.nil:∀(t:Ty) (x:t.ai) (ft:FT) (cs:List Value),ee t x ft cs->ft.af=[]
 | .int _,_,_,_,h=>h.2.2.1
 | .bool,_,_,_,h=>h.2.2.1
 | .bR,_,_,_,h=>h.2.2.1
 | .unit,_,_,_,h=>h.2.2.1
 | .arr _ _,_,_,_,h=>h.2.2.1
 | .bz,_,_,_,h=>h.elim
 | .slice _,_,_,_,h=>h.1
 | .cons t r,x,ft,cs,h=>by
  obtain ⟨d,b,c,rfl,e,f⟩:=h;rw [d,ee.nil t x.1 _ b e,ee.nil r x.2 _ c f];rfl
theorem ee.l5:∀{t:Ty} {x:t.ai} {ft:FT} {cs:List Value},t.aY=true->ee t x ft cs->dg t x/\cs=bH t x/\ft.af=[]
 | .int _,_,_,_,_,h=>⟨h.2.1,h.2.2.2,h.2.2.1⟩
 | .bool,_,_,_,_,h=>⟨h.2.1,h.2.2.2,h.2.2.1⟩
 | .bR,_,_,_,_,h=>⟨h.2.1,h.2.2.2,h.2.2.1⟩
 | .unit,_,_,_,_,h=>⟨h.2.1,h.2.2.2,h.2.2.1⟩
 | .arr _ _,_,_,_,_,h=>⟨h.2.1,h.2.2.2,h.2.2.1⟩
 | .bz,_,_,_,b,_=>by simp [Ty.aY] at b
 | .slice _,_,_,_,b,_=>by simp [Ty.aY] at b
 | .cons t r,x,ft,cs,b,h=>by
  simp only [Ty.aY,bE] at b;obtain ⟨g,n,o,rfl,j,l⟩:=h;obtain ⟨c,rfl,e⟩:=ee.l5 b.1 j;obtain ⟨d,rfl,f⟩:=ee.l5 b.2 l;exact ⟨⟨c,d⟩,rfl,by rw [g,e,f];rfl⟩
theorem ee.get:∀(t:Ty) (x:t.ai) (ft:FT) (cs:List Value) (a:Option (Nat×Nat)) (p:aN) (k:(u:Ty)->u.ai->Option Z) (r:Z),
 ee t x ft cs->(∀b o,a=some (b,o)->At w b o t.size cs)->aN.dM p=false->cy t x p k=some r->
 ∃(u:Ty) (y:u.ai) (z:FT) (a':Option (Nat×Nat)) (v:List Value),k u y=some r/\ak t ft a p=some (u,z,a')/\ee u y z v/\
  (∀b o,a'=some (b,o)->At w b o u.size v):=by
 intro t
 induction t with
 |cons t r I D=>
  intro x ft cs a p k ek h d j c
  match p,c with
  |[],c=>exact ⟨_,x,ft,a,cs,by simpa [cy] using c,rfl,h,d⟩
  | .f 0::p,c=>
   simp only [cy] at c;obtain ⟨_,l,q,rfl,g,C⟩:=h;exact I x.1 ft.fst l a p k ek g (λb o e=>(d b o e).fst (ee.len _ _ _ _ g)) (by simpa [aN.dM] using j) c
  | .f (n+1)::p,c=>
   simp only [cy] at c;obtain ⟨_,l,q,rfl,g,C⟩:=h;refine D x.2 ft.snd q (a.map λx=>(x.1,x.2+t.size)) (.f n::p) k ek C (λb o e=>?_) (by simpa [aN.dM] using j) c;cases a with
   |none=>cases e
   |some a=>simp only [dy,bi,bK] at e;obtain ⟨rfl,rfl⟩:=e;exact (d _ _ rfl).snd (ee.len _ _ _ _ g)
  | .i n::p,c=>simp [cy] at c
 |_=>
  intro x ft cs a p k ek h d j c
  match p,c with
  |[],c=>exact ⟨_,x,ft,a,cs,by simpa [cy] using c,by simp [ak],h,d⟩
  | .f n::p,c=>simp [cy] at c
  | .i n::p,c=>simp [aN.dM] at j
def Wz:∀(t:Ty) (p:aN),lone t p=true->aN.dM p=false:=by
 intro t
 induction t with
 |cons t r c b=>
  intro p h
  match p,h with
  |[],h=>rfl
  | .i n::p,h=>simp [lone] at h
  | .f 0::p,h=>simp only [lone,bE] at h;exact c p h.1
  | .f (n+1)::p,h=>simp only [lone,bE] at h;exact b (.f n::p) h.2
 |_=>
  intro p h
  match p,h with
  |[],h=>rfl
  |q::p,h=>simp [lone] at h
theorem ee.set {aa ae:Nat} {ad:List Value} {ft2:FT} (al:ft2.af=[]) (l:Wr w w2 aa ae 1 ad):∀(t:Ty) (x:t.ai) (ft:FT) (cs:List Value) (a:Option (Nat×Nat)) (p:aN) {u:Ty} {K:FT},
 u.size=1->bd w t x ft cs->(∀b o,a=some (b,o)->At w b o t.size cs)->lone t p=true->ak t ft a p=some (u,K,some (aa,ae))->
 ∃C,ee t x (bA t ft p ft2) C/\C.length=cs.length/\(∀b o,a=some (b,o)->At w2 b o t.size C):=by
 intro t
 induction t with
 |cons t r ao an=>
  intro x ft cs a p u K X h q g c
  match p,c with
  |[],c=>simp [lone] at g
  | .i n::p,c=>simp [ak] at c
  | .f 0::p,c=>
   simp only [ak] at c;obtain ⟨ag,y,z,rfl,j,O⟩:=h;have v:=bd.len _ _ _ _ j;simp only [lone,bE] at g;obtain ⟨g,U⟩:=g;have dD:=Wz _ _ g;obtain ⟨ab,D,I,J⟩:=ao x.1 ft.fst y a p X j (λb o e=>(q b o e).fst v) g c;refine ⟨ab++z,⟨by simp [bA,FT.af,FT.fst,FT.snd],ab,z,rfl,D,ee.Gd _ _ _ _ U O⟩,by simp [I],λb o e=>?_⟩;simp only [Ty.size];refine (J b o e).o2 ?_;obtain ⟨_,W⟩:=fO _ _ _ _ c;rcases W with ⟨_,_,_,_,ah⟩|⟨d,e0,aj⟩
   simp_all;subst e;simp only [dy,bi,bK] at e0;obtain ⟨rfl,rfl⟩:=e0;refine l.c7 ((q _ _ rfl).snd v) (.inr ?_);omega
  | .f (n+1)::p,c=>
   simp only [ak] at c;obtain ⟨ag,y,z,rfl,j,O⟩:=h;have v:=bd.len _ _ _ _ j;simp only [lone,bE] at g;obtain ⟨U,g⟩:=g;have dD:=Wz _ _ g;obtain ⟨ac,D,I,J⟩:=an x.2 ft.snd z _ (.f n::p) X O (λb o e=>(by
    cases a with
    |none=>cases e
    |some a=>simp only [dy,bi,bK] at e;obtain ⟨rfl,rfl⟩:=e;exact (q _ _ rfl).snd v)) g c
   refine ⟨y++ac,⟨by simp [bA,FT.af,FT.fst,FT.snd],y,ac,rfl,ee.Gd _ _ _ _ U j,D⟩,by simp [I],λb o e=>?_⟩;simp only [Ty.size];refine At.o2 ?_ (J b (o+t.size) (by subst e;rfl));obtain ⟨_,W⟩:=fO _ _ _ _ c;rcases W with ⟨_,_,_,_,ah⟩|⟨d,e0,aj⟩
   simp_all;subst e;simp only [dy,bi,bK] at e0;obtain ⟨rfl,rfl⟩:=e0;exact l.c7 ((q _ _ rfl).fst v) (.inl (by omega))
 |slice t _=>
  intro x ft cs a p u K X h q g c
  match p,c with
  |[],c=>
   simp only [ak,bi,bK] at c;obtain ⟨_,rfl,rfl⟩:=c;have am:cs.length=1:=bd.len _ _ _ _ h;exact ⟨ad,⟨al,l.len⟩,by rw [l.len,am],λb o e=>by simp only [bi,bK] at e;obtain ⟨rfl,rfl⟩:=e;exact l.e4⟩
  | .f n::p,c=>simp [ak] at c
  | .i n::p,c=>simp [lone] at g
 |_=>
  grind [lone]
theorem mJ.set {t:Ty} {xs:List t.ai} {v:List Bool} {b cap:Nat} {g:List FT} {cs:List Value} {n:Nat} {k:FT} {f U m:Nat} {X:List Value} {x:FT} {x':t.ai} {g':Bool} {k':FT} {c':List Value}
 (h:mJ w t xs v (.node (some b) cap g) cs) (hk:g[n]?=some k) (q:(FT.node (some b) cap g).af.Nodup) (y:Wr w w2 f U m X)
 (an:(f=b/\∃d,U=n*t.size+d/\d+m<=t.size)\/f∈k.af) (K:∀c∈x.af,c∈k.af)
 (z:∀c∈(FT.node (some b) cap g).af,c∉x.af->c≠f->w2.heap[c]?=w.heap[c]?)
 (ar:At w2 b (n*t.size) t.size c') (a0:g'=false->bd w2 t x' k' c') (ay:g'=true->ee t x' k' c'):
 mJ w2 t (xs.set n x') (v.set n g') (.node (some b) cap (g.set n k')) cs:=by
 obtain ⟨ao,ap,a1,e0,rfl,aa,ab,ac,h4,h5⟩:=h;simp only [FT.node.injEq] at e0;obtain ⟨rfl,rfl,rfl⟩:=e0;simp only at h5;simp only [FT.af,hU,ht,jP] at q;obtain ⟨az,aj⟩:=qo hk q.2;have ah:=cw hk;have C:b∉k.af:=λj=>q.1 (eY ah j)
 have ad:b≠f->w2.heap[b]?=w.heap[b]?:=λak=>z b (by simp [FT.af]) (λj=>C (K b j)) ak
 have av:n<g.length:=(b4.1 hk).1;refine ⟨some b,cap,g.set n k',rfl,by simp,by simpa using aa,by simpa using ab,by simpa using ac,by simpa using h4,?_,λi W r gi O o I=>?_⟩;by_cases l:b=f;subst l;exact y.bD h5.1;simp_all;by_cases J:i=n
 grind
 rw [List.getElem?_set_ne (Ne.symm J)] at O o I;obtain ⟨u,D,am,al⟩:=h5.2 i W r gi O o I;have ax:=cw o;refine ⟨u,?_,λe=>bd.bT t W r u (λc ag=>z c (by grind [FT.af,eY]) (λae=>aj i r J o c ag (K c ae)) (λaq=>?_)) (am e),al⟩;by_cases l:b=f;subst l;rcases an with ⟨_,d,rfl,au⟩|j
 refine y.c7 D ?_;by_cases aw:i<n;left;have:=jQ t.size (show i+1<=n by omega)
 grind
 right;have:=jQ t.size (show n+1<=i by omega)
 grind
 exact absurd j C;exact D.bT (ad l)
 grind [eY]
end
section
variable {Z:Type} {A:b0} {w w2:World} {R:Nat->Prop}
theorem fK.get {t:Ty} {c:TV} {ft:FT} {cs:List Value} {a:Option (Nat×Nat)} {n:Nat} {p:aN} {k:TV->Option Z} {r:Z} (h:fK w R t c ft cs) (d:qx c n p k=some r):
 ∃(c':TV) (u:Ty) (v:FT) (a':Option (Nat×Nat)) (l:List Value),k c'=some r/\ak (.slice t) ft a (.i n::p)=some (u,v,a')/\aZ A w R c' u v l/\
  (∀b o,a'=some (b,o)->At w b o u.size l):=by
 rcases fK.out h with ⟨xs,ah,rfl,b,cap,K,rfl,rfl,ai,aj,al,h4,h5⟩|⟨_,rfl,_⟩|⟨_,rfl,_⟩
 rotate_left;cases d;cases d;simp only [qx] at d;split at d;rotate_left;cases d;rename_i x ab;split at d;rotate_left;cases d;rename_i g ae;unfold iH at ab ae;have an:n<xs.length:=(b4.1 ab).1;cases b with
 |none=>omega
 |some b=>
  have hk:K[n]?=some (K[n]'(by omega)):=a6 _;generalize K[n]'(by omega)=kn at hk;obtain ⟨q,am,ag,af⟩:=h5.2 n x kn g ab hk ae;have ad:∀O ac,some (b,n*t.size)=some (O,ac)->At w O ac t.size q:=λO ac e=>by
   simp_all
  have aa:∀{z},ak t kn (some (b,n*t.size)) p=z->ak (.slice t) (.node (some b) cap K) a (.i n::p)=z:=λe=>by simp only [ak,hk];exact e
  cases g with
  |false=>
   obtain ⟨u,y,v,a',l,f,C,D,I⟩:=bd.get t x kn q (some (b,n*t.size)) p _ r (ag rfl) ad d;rw [show cond (aN.dM p|| !u.aY) false false=false by simp_all,cond_false] at f;by_cases j:u.aY=true;rw [aE j] at f;obtain ⟨U,W,X⟩:=bd.l5 j D;exact ⟨_,u,v,a',l,f,aa C,⟨rfl,X,by rw [W];exact Rd.fS j U⟩,I⟩;rw [av j] at f;exact ⟨_,u,v,a',l,f,aa C,⟨rfl,D⟩,I⟩
  |true=>
   by_cases J:aN.dM p=true
   grind [tZ]
   have J:aN.dM p=false:=by simpa using J
   obtain ⟨u,y,v,a',l,f,C,D,I⟩:=ee.get t x kn q (some (b,n*t.size)) p _ r (af rfl) ad J d;by_cases j:u.aY=true;rw [J,j] at f;obtain ⟨U,W,X⟩:=ee.l5 j D;exact ⟨_,u,v,a',l,f,aa C,⟨rfl,X,by rw [W];exact Rd.fS j U⟩,I⟩;simp_all
theorem aZ.get:∀(c:TV) (t:Ty) (ft:FT) (cs:List Value) (a:Option (Nat×Nat)) (p:aN) (k:TV->Option Z) (r:Z),
 aZ A w R c t ft cs->(∀b o,a=some (b,o)->At w b o t.size cs)->dC c p k=some r->
 ∃(c':TV) (u:Ty) (q:FT) (a':Option (Nat×Nat)) (l:List Value),k c'=some r/\ak t ft a p=some (u,q,a')/\aZ A w R c' u q l/\
  (∀b o,a'=some (b,o)->At w b o u.size l):=by
 intro c
 induction c with
 |ab u x=>
  intro t ft cs a p k r h j g;cases p with
  |nil=>exact ⟨_,t,ft,a,cs,by simpa [dC] using g,by cases t<;>rfl,h,j⟩
  |cons s p=>
   obtain ⟨rfl,h⟩:=h;obtain ⟨v,y,q,a',l,C,z,D,I⟩:=bd.get u x ft cs a (s::p) _ r h j (by simpa [dC] using g);exact ⟨_,v,q,a',l,C,z,⟨rfl,D⟩,I⟩
 |ad u x=>
  intro t ft cs a p k r h j g;cases p with
  |nil=>exact ⟨_,t,ft,a,cs,by simpa [dC] using g,by cases t<;>rfl,h,j⟩
  |cons s p=>
   obtain ⟨rfl,X,h⟩:=h;simp only [dC] at g;split at g;cases g;rename_i ac;obtain ⟨v,y,a',l,C,z,D,I⟩:=Rd.get u x cs a (s::p) _ r h j g (by simpa using ac);obtain ⟨q,aa,z⟩:=z ft X;exact ⟨_,v,q,a',l,C,z,⟨rfl,aa,D⟩,I⟩
 |cons c d ae af=>
  intro t ft cs a p k r h j g
  match p,g with
  |[],g=>exact ⟨_,t,ft,a,cs,by simpa [dC] using g,by cases t<;>rfl,h,j⟩
  | .i n::p,g=>simp [dC] at g
  | .f 0::p,g=>
   cases t<;>try exact h.elim
   obtain ⟨_,K,O,rfl,J,U,W⟩:=h;exact ae _ _ K a p k r U (λb o e=>(j b o e).fst J) (by simpa [dC] using g)
  | .f (n+1)::p,g=>
   cases t<;>try exact h.elim
   rename_i t u;obtain ⟨_,K,O,rfl,J,U,W⟩:=h;refine af _ _ O (a.map λx=>(x.1,x.2+t.size)) (.f n::p) k r W (λb o e=>?_) (by simpa [dC] using g);cases a with
   |none=>cases e
   |some a=>simp only [dy,bi,bK] at e;obtain ⟨rfl,rfl⟩:=e;exact (j _ _ rfl).snd J
 |tup c _=>
  intro t ft cs a p k r h j g
  match p,g with
  |[],g=>exact ⟨_,t,ft,a,cs,by simpa [dC] using g,by cases t<;>rfl,h,j⟩
  | .f n::p,g=>cases n<;>simp [dC] at g
  | .i n::p,g=>
   cases t<;>try exact h.elim
   exact fK.get h (by simpa only [dC] using g)
 |_=>
  intro t ft cs a p k r h j g;cases p with
  |nil=>exact ⟨_,t,ft,a,cs,by simpa [dC] using g,by cases t<;>rfl,h,j⟩
  |cons s p=>simp [dC] at g
def rr (w w2:World) (c:Nat) (a:Option (Nat×Nat)) (n:Nat) (ft:FT) (cs:List Value):Prop:=
 ∀b o,a=some (b,o)->At w b o n cs/\b∉ft.af/\(b≠c->w2.heap[b]?=w.heap[b]?)
structure pO (w w2:World) (R:Nat->Prop) (c:Nat) (ft d:FT):Prop where
 ab:∀b∈ft.af,b∉d.af->b≠c->w2.heap[b]?=w.heap[b]?
 not:c∉d.af
 ro:∀b,R b->w2.heap[b]?=w.heap[b]?
def Vv {t r v:Ty} {ft x:FT} {q g:List Value} {a:Option (Nat×Nat)} {p:aN} {c O:Nat} {W:List Value} {d:TV}
 (X:ft.af=ft.fst.af++ft.snd.af) (y:q.length=t.size) (D:aZ A w R d r ft.snd g)
 (j:rr w w2 c a (t.size+r.size) ft (q++g)) (J:ft.af.Nodup) (aa:ak t ft.fst a p=some (v,x,some (c,O)))
 (n:pO w w2 R c ft x) (ac:Wr w w2 c O v.size W):
 rr w w2 c a t.size ft.fst q/\ft.fst.af.Nodup/\pO w w2 R c ft.fst x/\
 (∀c' f u,aZ A w2 R c' t u f->f.length=q.length->(∀b o,a=some (b,o)->At w2 b o t.size f)->
  aZ A w2 R (.cons c' d) (.cons t r) (.eI u ft.snd) (f++g)/\(∀b o,a=some (b,o)->At w2 b o (t.size+r.size) (f++g))):=by
 rw [X,cF] at J;obtain ⟨ai,an,aj⟩:=J;obtain ⟨al,K⟩:=fO _ _ _ _ aa;refine ⟨λb o e=>⟨(j b o e).1.fst y,λl=>(j b o e).2.1 (i3 l),(j b o e).2.2⟩,ai,⟨λb l=>n.ab b (i3 l),n.not,n.ro⟩,λc' f u ae ag ad=>⟨⟨by simp [FT.af,FT.fst,FT.snd],f,g,rfl,by rw [ag,y],ae,?_⟩,λb o e=>?_⟩⟩;refine aZ.mono (λ_ _ _ ft _ h=>⟨ft,h,rfl⟩) n.ro d r ft.snd g (λb l=>n.ab b (jd l) (λah=>aj b (al b ah) b l rfl) (λe=>?_)) D;subst e;rcases K with ⟨U,am,e0,I,_⟩|⟨d,e0,_⟩
 grind
 cases a with
 |none=>cases e0
 |some a=>simp only [dy,bi,bK] at e0;obtain ⟨rfl,_⟩:=e0;exact (j _ _ rfl).2.1 (jd l)
 refine (ad b o e).o2 ?_;have z:At w b (o+t.size) r.size g:=(j b o e).1.snd y;by_cases C:b=c;subst C;refine ac.c7 z (.inr ?_);rcases K with ⟨U,am,e0,I,_⟩|⟨d,e0,D⟩
 simp only [bi,bK] at e0;obtain ⟨rfl,rfl⟩:=e0;exact absurd (i3 I) (j _ _ e).2.1
 grind
 exact z.bT ((j b o e).2.2 C)
def Vw {t r v:Ty} {ft y:FT} {c q:List Value} {a:Option (Nat×Nat)} {p:aN} {f U:Nat} {X:List Value} {d:TV}
 (aa:ft.af=ft.fst.af++ft.snd.af) (z:c.length=t.size) (I:aZ A w R d t ft.fst c)
 (j:rr w w2 f a (t.size+r.size) ft (c++q)) (K:ft.af.Nodup) (ac:ak r ft.snd (a.map λx=>(x.1,x.2+t.size)) p=some (v,y,some (f,U)))
 (n:pO w w2 R f ft y) (ad:Wr w w2 f U v.size X):
 rr w w2 f (a.map λx=>(x.1,x.2+t.size)) r.size ft.snd q/\ft.snd.af.Nodup/\pO w w2 R f ft.snd y/\
 (∀c' g u,aZ A w2 R c' r u g->g.length=q.length->(∀b o,a.map (λx=>(x.1,x.2+t.size))=some (b,o)->At w2 b o r.size g)->
  aZ A w2 R (.cons d c') (.cons t r) (.eI ft.fst u) (c++g)/\(∀b o,a=some (b,o)->At w2 b o (t.size+r.size) (c++g))):=by
 rw [aa,cF] at K;obtain ⟨ao,ai,aj⟩:=K;obtain ⟨al,O⟩:=fO _ _ _ _ ac;refine ⟨λb o e=>?_,ai,⟨λb l=>n.ab b (jd l),n.not,n.ro⟩,λc' g u ag an ae=>⟨⟨by simp [FT.af,FT.fst,FT.snd],c,g,rfl,z,?_,ag⟩,λb o e=>?_⟩⟩;cases a with
 |none=>cases e
 |some a=>
  simp only [dy,bi,bK] at e;obtain ⟨rfl,rfl⟩:=e;exact ⟨(j _ _ rfl).1.snd z,λl=>(j _ _ rfl).2.1 (jd l),(j _ _ rfl).2.2⟩
 refine aZ.mono (λ_ _ _ ft _ h=>⟨ft,h,rfl⟩) n.ro d t ft.fst c (λb l=>n.ab b (i3 l) (λah=>aj b l b (al b ah) rfl) (λe=>?_)) I;subst e;rcases O with ⟨W,am,e0,J,_⟩|⟨d,e0,_⟩
 simp_all;cases a with
 |none=>cases e0
 |some a=>simp only [dy,bi,bK] at e0;obtain ⟨rfl,_⟩:=e0;exact (j _ _ rfl).2.1 (i3 l)
 have C:At w b o t.size c:=(j b o e).1.fst z;refine At.o2 ?_ (ae b (o+t.size) (by subst e;rfl));by_cases D:b=f;subst D;refine ad.c7 C (.inl ?_);rcases O with ⟨W,am,e0,J,_⟩|⟨d,e0,I⟩
 simp only [bi,bK] at e0;obtain ⟨rfl,rfl⟩:=e0;exact absurd (jd J) (j _ _ e).2.1;simp_all;exact C.bT ((j b o e).2.2 D)
def Kx (A:b0) (w:World) (R:Nat->Prop) (mk:(t:Ty)->t.ai->TV):Prop:=
 ∀t r x ft cs,aZ A w R (mk (.cons t r) x) (.cons t r) ft cs->ft.af=ft.fst.af++ft.snd.af/\∃b c,cs=b++c/\b.length=t.size/\
  aZ A w R (mk t x.1) t ft.fst b/\aZ A w R (mk r x.2) r ft.snd c
def ak4:Kx A w R .ab:=by
 intro t r x ft cs h;obtain ⟨_,e,c,d,rfl,b,f⟩:=h;exact ⟨e,c,d,rfl,bd.len _ _ _ _ b,⟨rfl,b⟩,⟨rfl,f⟩⟩
def ak3:Kx A w R .ad:=by
 intro t r x ft cs h;obtain ⟨_,b,d,e,rfl,c,f⟩:=h;exact ⟨by rw [b,yw b,zb b];rfl,d,e,rfl,Rd.len _ _ _ c,⟨rfl,yw b,c⟩,⟨rfl,zb b,f⟩⟩
def Yw {mk:(t:Ty)->t.ai->TV} (am:Kx A w R mk) {l ao:Nat} {q:List Value} {u:Ty} {v:TV} {al ft2:FT}
 (g:Wr w w2 l ao u.size q) (an:aZ A w2 R v u ft2 q):
 ∀(t:Ty) (x:t.ai) (ft:FT) (cs:List Value) (a:Option (Nat×Nat)) (p:aN) (k:TV->Option Z) (r:Z),
 aZ A w R (mk t x) t ft cs->rr w w2 l a t.size ft cs->ft.af.Nodup->ak t ft a p=some (u,al,some (l,ao))->e5 mk t x p v k=some r->
 pO w w2 R l ft al->
 ∃(c':TV) (y:List Value),k c'=some r/\aZ A w2 R c' t (bA t ft p ft2) y/\y.length=cs.length/\(∀b o,a=some (b,o)->At w2 b o t.size y):=by
 intro t
 induction t with
 |cons t r au ar=>
  intro x ft cs a p k ek h ac ag c d ad
  match p,c,d with
  |[],c,d=>
   simp only [ak,bi,bK] at c;obtain ⟨rfl,rfl,rfl⟩:=c;exact ⟨v,q,by simpa [e5] using d,an,by rw [aZ.len _ _ _ _ h,g.len],λb o e=>by simp only [bi,bK] at e;obtain ⟨rfl,rfl⟩:=e;exact g.e4⟩
  | .i n::p,c,d=>simp [ak] at c
  | .f 0::p,c,d=>
   obtain ⟨X,ah,aj,rfl,ae,aa,ab⟩:=am t r x ft cs h;simp only [ak] at c;simp only [e5] at d;obtain ⟨K,O,U,W⟩:=Vv X ae ab ac ag c ad g;obtain ⟨c',ap,z,C,j,D⟩:=au x.1 ft.fst ah a p _ ek aa K O c d U;obtain ⟨I,J⟩:=W c' ap _ C j D;exact ⟨_,_,z,I,by simp [j],J⟩
  | .f (n+1)::p,c,d=>
   obtain ⟨X,ah,aj,rfl,ae,aa,ab⟩:=am t r x ft cs h;simp only [ak] at c;simp only [e5] at d;obtain ⟨K,O,U,W⟩:=Vw X ae aa ac ag c ad g;obtain ⟨c',aq,z,C,j,D⟩:=ar x.2 ft.snd aj _ (.f n::p) _ ek ab K O c d U;obtain ⟨I,J⟩:=W c' aq _ C j D;exact ⟨_,_,z,I,by simp [j],J⟩
 |_=>
  intro x ft cs a p k ek h ac ag c d ad;cases p with
  |nil=>
   simp only [ak,bi,bK] at c;obtain ⟨rfl,rfl,rfl⟩:=c;exact ⟨v,q,by simpa [e5] using d,an,by rw [aZ.len _ _ _ _ h,g.len],λb o e=>by simp only [bi,bK] at e;obtain ⟨rfl,rfl⟩:=e;exact g.e4⟩
  |cons s p=>simp [e5] at d
theorem fK.set {l al:Nat} {ad:List Value} {u:Ty} {v:TV} {ao ft2:FT} (D:Wr w w2 l al u.size ad) (J:aZ A w2 R v u ft2 ad) {t:Ty} {c:TV} {ft:FT} {cs:List Value} {a:Option (Nat×Nat)} {n:Nat} {p:aN} {k:TV->Option Z} {r:Z}
 (h:fK w R t c ft cs) (aa:ft.af.Nodup) (U:ak (.slice t) ft a (.i n::p)=some (u,ao,some (l,al))) (f:nC c n p v k=some r) (C:pO w w2 R l ft ao):
 ∃(c':TV),k c'=some r/\aZ A w2 R c' (.slice t) (bA (.slice t) ft (.i n::p) ft2) cs:=by
 rcases fK.out h with ⟨xs,O,rfl,W⟩|⟨_,rfl,_⟩|⟨_,rfl,_⟩
 rotate_left;cases f;cases f;obtain ⟨b,cap,j,rfl,a4,a0,a1,a2,h4,h5⟩:=W;simp only [nC] at f;split at f;rotate_left;cases f;rename_i x aj;split at f;rotate_left;cases f;rename_i g aq;unfold iH at aj aq;have aK:n<xs.length:=(b4.1 aj).1;cases g with
 |true=>cases f
 |false=>
 rw [cond_false] at f;cases b with
 |none=>omega
 |some b=>
  have hk:j[n]?=some (j[n]'(by omega)):=a6 _;generalize j[n]'(by omega)=kn at hk;obtain ⟨q,aH,ac,_⟩:=h5.2 n x kn false aj hk aq;have W:mJ w t xs O (.node (some b) cap j) cs:=⟨some b,cap,j,rfl,a4,a0,a1,a2,h4,h5⟩;have ac:=ac rfl;simp only [ak,hk] at U;have au:=aa;simp only [FT.af,hU,ht,jP] at aa;obtain ⟨aA,aJ⟩:=qo hk aa.2;have a9:=cw hk;have a3:b∉kn.af:=λX=>aa.1 (eY a9 X)
  obtain ⟨ah,aC⟩:=fO _ _ _ _ U;have ag:(l=b/\∃d,al=n*t.size+d/\d+u.size<=t.size)\/l∈kn.af:=by
   rcases aC with ⟨K,aw,e0,aI,_⟩|⟨d,e0,ap⟩
   simp_all;simp_all
  have aD:bA (.slice t) (.node (some b) cap j) (.i n::p) ft2=.node (some b) cap (j.set n (bA t kn p ft2)):=by simp only [bA,hk]
  rw [aD];have aG:b≠l->w2.heap[b]?=w.heap[b]?:=λaB=>C.ab b (by simp [FT.af]) (λX=>a3 (ah b X)) aB
  have ax:∀(o:Ty) (y:o.ai) (_:bd w2 o y ft2 ad) (_:o=u),ez t x p o y (λz=>k (.tup (.cons (.ab (.slice t) (List.set (α:=t.ai) xs n z)) (.ab (.slice .bool) O))))=some r->
   ∃(c':TV),k c'=some r/\aZ A w2 R c' (.slice t) (.node (some b) cap (j.set n (bA t kn p ft2))) cs:=by
   intro o y aF e f;subst e;obtain ⟨_,x',ay,ae,am,an,az⟩:=bd.set D aF t x kn q (some (b,n*t.size)) p o _ r ac (λK aw e=>by
    simp_all) aA U f
    (λK X=>C.ab K (by grind [FT.af,eY])) C.not
   have I:=W.set (g':=false) hk au D ag ah C.ab (az b _ rfl) (λ_=>am) (λe=>by cases e);rw [show O.set n false=O from lB λi=>by
    rw [pv]
    grind] at I
   exact ⟨_,ae,rfl,I⟩
  split at f;rename_i aL;split at f;rename_i ap;obtain ⟨a7,av,_,_⟩:=J;rw [av] at D ag;obtain ⟨ay,ae,am,an⟩:=ee.set (ft2:=ft2) a7 D t x kn q (some (b,n*t.size)) p av ac (λK aw e=>by
   simp_all) ap U
  have I:=W.set (x':=x) (g':=true) hk au D ag ah C.ab (an b _ rfl) (λe=>by cases e) (λ_=>ae);rw [show xs.set n x=xs from lB λi=>by
   grind] at I
  exact ⟨_,f,rfl,I⟩;cases f;obtain ⟨e,J⟩:=J;exact ax _ _ J e f;obtain ⟨e,a5,aE⟩:=J;split at f;rename_i ar;obtain ⟨a8,rfl⟩:=Rd.aY ar aE;exact ax _ _ (bd.fS ar a8 a5) e f;cases f;cases f
theorem aZ.set {W au:Nat} {ah:List Value} {u:Ty} {v:TV} {am ft2:FT}
 (J:Wr w w2 W au u.size ah) (K:aZ A w2 R v u ft2 ah):
 ∀(c:TV) (t:Ty) (ft:FT) (cs:List Value) (a:Option (Nat×Nat)) (p:aN) (k:TV->Option Z) (r:Z),
 aZ A w R c t ft cs->rr w w2 W a t.size ft cs->ft.af.Nodup->ak t ft a p=some (u,am,some (W,au))->b7 c p v k=some r->
 pO w w2 R W ft am->
 ∃(c':TV) (l:List Value),k c'=some r/\aZ A w2 R c' t (bA t ft p ft2) l/\l.length=cs.length/\(∀b o,a=some (b,o)->At w2 b o t.size l):=by
 have aL:∀(c:TV) (t:Ty) (ft:FT) (cs:List Value) (a:Option (Nat×Nat)) (k:TV->Option Z) (r:Z),
  aZ A w R c t ft cs->ak t ft a []=some (u,am,some (W,au))->b7 c [] v k=some r->
  ∃(c':TV) (l:List Value),k c'=some r/\aZ A w2 R c' t (bA t ft [] ft2) l/\l.length=cs.length/\(∀b o,a=some (b,o)->At w2 b o t.size l):=by
  intro c t ft cs a k r h j g;have e:ak t ft a []=some (t,ft,a):=by cases t<;>rfl
  have a6:bA t ft [] ft2=ft2:=by cases t<;>rfl
  have a7:b7 c [] v k=k v:=by cases c<;>rfl
  rw [e] at j;simp only [bi,bK] at j;obtain ⟨rfl,rfl,rfl⟩:=j;rw [a6];exact ⟨v,ah,by rw [<-a7];exact g,K,by rw [aZ.len _ _ _ _ h,J.len],λb o e=>by simp only [bi,bK] at e;obtain ⟨rfl,rfl⟩:=e;exact J.e4⟩
 intro c
 induction c with
 |ab t0 x=>
  intro t ft cs a p k r h D I j g C;cases p with
  |nil=>grind
  |cons s p=>
   obtain ⟨rfl,h⟩:=h;have a1:∀(X:Ty) (y:X.ai) (az:bd w2 X y ft2 ah) (_:X=u),ez t0 x (s::p) X y (λz=>k (.ab t0 z))=some r->
    ∃(c':TV) (l:List Value),k c'=some r/\aZ A w2 R c' t0 (bA t0 ft (s::p) ft2) l/\l.length=cs.length/\(∀b o,a=some (b,o)->At w2 b o t0.size l):=by
    intro X y az e g;subst e;obtain ⟨_,x',l,q,O,U,aa⟩:=bd.set J az t0 x ft cs a (s::p) X _ r h D I j g C.ab C.not;exact ⟨_,l,q,⟨rfl,O⟩,U,aa⟩
   have a0:e5 .ab t0 x (s::p) v k=some r->
    ∃(c':TV) (l:List Value),k c'=some r/\aZ A w2 R c' t0 (bA t0 ft (s::p) ft2) l/\l.length=cs.length/\(∀b o,a=some (b,o)->At w2 b o t0.size l):=
    λg=>Yw ak4 J K t0 x ft cs a (s::p) k r ⟨rfl,h⟩ D I j g C
   simp only [b7] at g;split at g;obtain ⟨e,K⟩:=K;exact a1 _ _ K e g;obtain ⟨e,a8,aD⟩:=K;split at g;rename_i ay;obtain ⟨hk,rfl⟩:=Rd.aY ay aD;exact a1 _ _ (bd.fS ay hk a8) e g;exact a0 g;exact a0 g
 |ad t0 x=>
  intro t ft cs a p k r h D I j g C;cases p with
  |nil=>grind
  |cons s p=>
   have aC:t0=t:=h.1;subst aC;exact Yw ak3 J K t0 x ft cs a (s::p) k r h D I j (by simpa [b7] using g) C
 |cons c d aE aF=>
  intro t ft cs a p k r h D I j g C
  match p,j,g with
  |[],j,g=>grind
  | .i n::p,j,g=>simp [b7] at g
  | .f 0::p,j,g=>
   cases t<;>try exact h.elim
   obtain ⟨ao,av,aw,rfl,ar,ap,aq⟩:=h;simp only [ak] at j;simp only [b7] at g;obtain ⟨ac,ae,ag,an⟩:=Vv ao ar aq D I j C J;obtain ⟨c',a4,q,O,U,aa⟩:=aE _ _ av a p _ r ap ac ae j g ag;obtain ⟨aj,al⟩:=an c' a4 _ O U aa;exact ⟨_,_,q,aj,by simp [U],al⟩
  | .f (n+1)::p,j,g=>
   cases t<;>try exact h.elim
   obtain ⟨ao,av,aw,rfl,ar,ap,aq⟩:=h;simp only [ak] at j;simp only [b7] at g;obtain ⟨ac,ae,ag,an⟩:=Vw ao ar ap D I j C J;obtain ⟨c',a5,q,O,U,aa⟩:=aF _ _ aw _ (.f n::p) _ r aq ac ae j g ag;obtain ⟨aj,al⟩:=an c' a5 _ O U aa;exact ⟨_,_,q,aj,by simp [U],al⟩
 |tup c _=>
  intro t ft cs a p k r h D I j g C
  match p,j,g with
  |[],j,g=>grind
  | .f n::p,j,g=>cases n<;>simp [b7] at g
  | .i n::p,j,g=>
   simp only [b7] at g;cases t<;>try exact h.elim
   rcases fK.out h with ⟨_,_,rfl,b,cap,aK,rfl,rfl,_⟩|⟨_,rfl,_⟩|⟨_,rfl,_⟩
   rotate_left;cases g;cases g;obtain ⟨c',q,O⟩:=fK.set J K h I j g C;refine ⟨c',_,q,O,rfl,λa2 aM e=>?_⟩;subst e;obtain ⟨ac,ae,ag⟩:=D _ _ rfl;by_cases ax:a2=W;subst ax;exact absurd (by
    obtain ⟨_,aA⟩:=fO _ _ _ _ j;rcases aA with ⟨a3,aG,e0,aJ,_⟩|⟨d,e0,aI⟩
    simp_all;cases b with
    |none=>simp [ak] at j
    |some b=>
     simp only [ak] at j;split at j;rename_i kn hk;obtain ⟨_,aB⟩:=fO _ _ _ _ j;rcases aB with ⟨a3,aG,q,a9,_⟩|⟨aH,q,_⟩
     simp only [bi,bK] at q;obtain ⟨rfl,rfl⟩:=q;simp only [FT.af,bI];exact .inr (eY (cw hk) a9)
     grind [FT.af]
     cases j) ae
   exact ac.bT (ag ax)
 |_=>
  grind [b7]
end
def VL:∀(t:Ty) (ft:FT) (a:Option (Nat×Nat)) (q:aN) {v:Ty} {d:FT} {c:Option (Nat×Nat)},t.aY=true->ak t ft a q=some (v,d,c)->
 v.aY=true/\∀ft2,∃j,ak t ft2 a q=some (v,j,c):=by
 intro t
 induction t with
 |cons t r u o=>
  intro ft a q v d c b h;simp only [Ty.aY,bE] at b
  match q,h with
  |[],h=>grind [ak,Ty.aY]
  | .f 0::q,h=>obtain ⟨e,g⟩:=u _ _ _ b.1 h;exact ⟨e,λft2=>g ft2.fst⟩
  | .f (n+1)::q,h=>obtain ⟨e,g⟩:=o _ _ _ b.2 h;exact ⟨e,λft2=>g ft2.snd⟩
  | .i n::q,h=>simp [ak] at h
 |slice t _=>intro ft a q v d c b h;simp [Ty.aY] at b
 |bz=>intro ft a q v d c b h;simp [Ty.aY] at b
 |arr m t _=>
  intro ft a q v d c b h
  match q,h with
  |[],h=>grind [ak]
  | .f n::q,h=>simp [ak] at h
  | .i n::s::q,h=>simp [ak] at h
  |[.i n],h=>
   simp only [ak] at h;split at h;cases h;rename_i l;simp only [bi,bK] at h;obtain ⟨rfl,rfl,rfl⟩:=h;exact ⟨b,λft2=>⟨.leaf,by simp only [ak];rw [av l]⟩⟩
 |_=>
  grind [ak]
def V3 {t:Ty} (h:t.aY=true) (f g:FT):fp t f=fp t g:=by
 cases t<;>first|rfl|simp [Ty.aY] at h
def afz:∀(t:Ty) (ft:FT) (a:Option (Nat×Nat)) (p q:aN) (f:FT) {u v:Ty} {o j:FT} {l h:Option (Nat×Nat)},
 u.aY=true->ak t ft a p=some (u,o,l)->ak t ft a q=some (v,j,h)->
 ∃x,ak t (bA t ft p f) a q=some (v,x,h)/\fp v x=fp v j:=by
 intro t;have y:∀(t:Ty) (ft:FT) (a:Option (Nat×Nat)) (q:aN) (f:FT) {u v:Ty} {o j:FT} {l h:Option (Nat×Nat)},
  u.aY=true->ak t ft a []=some (u,o,l)->ak t ft a q=some (v,j,h)->∃x,ak t f a q=some (v,x,h)/\fp v x=fp v j:=by
  intro t ft a q f u v o j l h g c d;have e:ak t ft a []=some (t,ft,a):=by cases t<;>rfl
  rw [e] at c;simp only [bi,bK] at c;obtain ⟨rfl,rfl,rfl⟩:=c;obtain ⟨I,J⟩:=VL _ _ _ _ g d;obtain ⟨D,K⟩:=J f;exact ⟨D,K,V3 I _ _⟩
 induction t with
 |cons t r z W=>
  intro ft a p q f u v o j l h g c d
  match p,c with
  |[],c=>exact y _ _ _ _ _ g c d
  | .i n::p,c=>simp [ak] at c
  | .f 0::p,c=>
   match q,d with
   |[],d=>simp only [ak,bi,bK] at d;obtain ⟨rfl,rfl,rfl⟩:=d;exact ⟨_,rfl,rfl⟩
   | .i n::q,d=>simp [ak] at d
   | .f 0::q,d=>
    simp only [ak] at c d;simpa [ak,bA,FT.fst] using z _ _ p q f g c d
   | .f (n+1)::q,d=>grind [ak,bA,FT.snd]
  | .f (m+1)::p,c=>
   match q,d with
   |[],d=>simp only [ak,bi,bK] at d;obtain ⟨rfl,rfl,rfl⟩:=d;exact ⟨_,rfl,rfl⟩
   | .i n::q,d=>simp [ak] at d
   | .f 0::q,d=>grind [ak,bA,FT.fst]
   | .f (n+1)::q,d=>
    simp only [ak] at c d;have:=W _ _ (.f m::p) (.f n::q) f g c d;simp only [ak,bA,FT.snd];exact this
 |slice t z=>
  intro ft a p q f u v o j l h g c d
  match p,c with
  |[],c=>exact y _ _ _ _ _ g c d
  | .f n::p,c=>simp [ak] at c
  | .i n::p,c=>
   match ft,c,d with
   | .leaf,c,_=>simp [ak] at c
   | .eI _ _,c,_=>simp [ak] at c
   | .node none _ _,c,_=>simp [ak] at c
   | .node (some b) cap X,c,d=>
    simp only [ak] at c;split at c;rename_i kn hk
    match q,d with
    |[],d=>
     grind [ak,fp,FT.dD,bA]
    | .f n::q,d=>simp [ak] at d
    | .i m::q,d=>
     simp only [ak] at d;split at d;rename_i aa C;by_cases O:m=n;subst O;rw [hk] at C;obtain rfl:=b3 C;have U:(X.set m (bA t kn p f))[m]?=some (bA t kn p f):=by
      grind
     simpa [ak,bA,hk,U] using z _ _ p q f g c d
     grind [bA,ak]
     cases d
    cases c
 |arr m t _=>
  intro ft a p q f u v o j l h g c d
  match p,c with
  |[],c=>exact y _ _ _ _ _ g c d
  | .f n::p,c=>simp [ak] at c
  | .i n::s::p,c=>simp [ak] at c
  |[.i n],c=>
   grind [bA]
 |_=>
  intro ft a p q f u v o j l h g c d;cases p with
  |nil=>exact y _ _ _ _ _ g c d
  |cons s p=>simp [ak] at c
def Lu {c:List FT} {n:Nat} {k k':FT} (hk:c[n]?=some k) {b:Nat} (h:b∈FT.bo (c.set n k')):b∈k'.af\/∃i d,i≠n/\c[i]?=some d/\b∈d.af:=by
 obtain ⟨x,e,f⟩:=aiV h;obtain ⟨i,hi⟩:=nN.1 e
 grind
def ajm {d:List FT} {n:Nat} {k k':FT} (hk:d[n]?=some k) (h:(FT.bo d).Nodup) (x:k'.af.Nodup)
 (j:∀b∈k'.af,b∈k.af\/b∉FT.bo d):(FT.bo (d.set n k')).Nodup:=by
 induction d generalizing n with
 |nil=>simp at hk
 |cons y d v=>
  simp only [FT.bo,cF] at h;obtain ⟨o,q,g⟩:=h;cases n with
  |zero=>
   grind [FT.bo]
  |succ n=>
   simp only [List.getElem?_cons_succ] at hk;simp only [List.set_cons_succ,FT.bo,cF];refine ⟨o,v hk q (λb f=>(j b f).imp id λh l=>h (by simp [FT.bo,l])),λb f c u e=>?_⟩;subst e;rcases Lu hk u with h|⟨i,z,_,hi,r⟩
   rcases j b h with h|h
   exact g b f b (eY (cw hk) h) rfl;exact h (by simp [FT.bo,f]);exact g b f b (eY (cw hi) r) rfl
def GU:∀(t:Ty) (ft:FT) (a:Option (Nat×Nat)) (p:aN) (f:FT) {u:Ty} {v:FT} {x:Option (Nat×Nat)},
 ak t ft a p=some (u,v,x)->ft.af.Nodup->f.af.Nodup->(∀b∈f.af,b∈v.af\/b∉ft.af)->
 (bA t ft p f).af.Nodup/\∀b∈(bA t ft p f).af,b∈f.af\/(b∈ft.af/\b∉v.af):=by
 intro t;have O:∀ft:FT,ft.af.Nodup->(ft.fst.af++ft.snd.af).Nodup:=by
  intro ft h;cases ft with
  |eI a d=>simpa [FT.af,FT.fst,FT.snd] using h
  |_=>simp [FT.af,FT.fst,FT.snd]
 induction t with
 |cons t r I ad=>
  intro ft a p f u v x g l o q
  match p,g with
  |[],g=>simp only [ak,bi,bK] at g;obtain ⟨rfl,rfl,rfl⟩:=g;exact ⟨o,λb h=>.inl h⟩
  | .i n::p,g=>simp [ak] at g
  | .f 0::p,g=>
   have C:=O ft l;rw [cF] at C;obtain ⟨J,K,W⟩:=C;simp only [ak] at g;obtain ⟨s1,_⟩:=fO _ _ _ _ g;obtain ⟨y,z⟩:=I ft.fst a p f g J o (λb j=>(q b j).imp id λh D=>h (i3 D));simp only [bA,FT.af,cF,bI];refine ⟨⟨y,K,λb j c X e=>?_⟩,λb j=>?_⟩
   grind [jd]
   rcases j with j|j
   exact (z b j).imp id λh=>⟨i3 h.1,h.2⟩
   grind [jd]
  | .f (n+1)::p,g=>
   have C:=O ft l;rw [cF] at C;obtain ⟨J,K,W⟩:=C;simp only [ak] at g;obtain ⟨s1,_⟩:=fO _ _ _ _ g;obtain ⟨y,z⟩:=ad ft.snd _ (.f n::p) f g K o (λb j=>(q b j).imp id λh D=>h (jd D));simp only [bA,FT.af,cF,bI];refine ⟨⟨J,y,λb j c X e=>?_⟩,λb j=>?_⟩
   grind [i3]
   rcases j with j|j
   exact .inr ⟨i3 j,λh=>W b j b (s1 b h) rfl⟩;exact (z b j).imp id λh=>⟨jd h.1,h.2⟩
 |slice t I=>
  intro ft a p f u v x g l o q
  match p,g with
  |[],g=>simp only [ak,bi,bK] at g;obtain ⟨rfl,rfl,rfl⟩:=g;exact ⟨o,λb h=>.inl h⟩
  | .f n::p,g=>simp [ak] at g
  | .i n::p,g=>
   match ft,g,l,q with
   | .leaf,g,_,_=>simp [ak] at g
   | .eI _ _,g,_,_=>simp [ak] at g
   | .node none _ _,g,_,_=>simp [ak] at g
   | .node (some ai) cap ae,g,l,q=>
    simp only [ak] at g;split at g;rename_i kn hk;simp only [FT.af,hU,ht,jP] at l;obtain ⟨ag,ah⟩:=qo hk l.2;have ac:=cw hk;obtain ⟨s1,_⟩:=fO _ _ _ _ g;obtain ⟨y,z⟩:=I kn _ p f g ag o (λb j=>(q b j).imp id λh D=>h (by grind [FT.af,eY]));have aa:∀b∈(bA t kn p f).af,b∈kn.af\/b∉FT.bo ae:=λb j=>by
     grind [FT.af]
    simp only [bA,hk,FT.af,hU,ht,jP,eN];refine ⟨⟨λh=>?_,ajm hk l.2 y aa⟩,λb j=>?_⟩;rcases Lu hk h with h|⟨i,U,_,hi,j⟩
    rcases z _ h with h|h
    grind [eY,FT.af]
    exact l.1 (eY ac h.1);exact l.1 (eY (cw hi) j);rcases j with rfl|j
    grind [eY]
    rcases Lu hk j with h|⟨i,U,ab,hi,j⟩
    grind [eY]
    exact .inr ⟨.inr (eY (cw hi) j),λh=>ah i U ab hi b j (s1 b h)⟩;cases g
 |arr m t _=>
  intro ft a p f u v x g l o q
  match p,g with
  |[],g=>simp only [ak,bi,bK] at g;obtain ⟨rfl,rfl,rfl⟩:=g;exact ⟨o,λb h=>.inl h⟩
  | .f n::p,g=>simp [ak] at g
  | .i n::s::p,g=>simp [ak] at g
  |[.i n],g=>
   have e:bA (.arr m t) ft [.i n] f=ft:=by cases ft<;>rfl
   rw [e];simp only [ak] at g;split at g;cases g
   grind [FT.af]
 |_=>
  intro ft a p f u v x g l o q;cases p with
  |nil=>simp only [ak,bi,bK] at g;obtain ⟨rfl,rfl,rfl⟩:=g;exact ⟨o,λb h=>.inl h⟩
  |cons s p=>simp [ak] at g
theorem ko {m n:Nat} (h:m≠n):Nat.beq m n=false:=by
 cases e:Nat.beq m n;rfl;simp_all
section
variable {α:Type}
theorem gr (k:Nat) (v:α) (l:List (Nat×α)) (n:Nat):lk ((k,v)::l) n=if k=n then some v else lk l n:=by
 simp only [lk];simp_all
theorem Wy (l:List (Nat×α)) (n:Nat) (v:α) (m:Nat):lk (bB l n v) m=if n=m then (lk l m).map (λ_=>v) else lk l m:=by
 induction l with
 |nil=>simp [bB,lk]
 |cons a l b=>
  obtain ⟨k,x⟩:=a;simp only [bB];by_cases hk:k=n;subst hk;simp only [nP,cN,gr];simp_all
  grind [ko,gr]
theorem mb {β:Type} (f:α->β) (l:List (Nat×α)) (n:Nat):lk (l.map λx=>(x.1,f x.2)) n=(lk l n).map f:=by
 induction l with
 |nil=>rfl
 |cons a l b=>
  grind [gr]
end
theorem i4 (s:St) (d n:Nat) (v:TV):(s.put d v).get n=if d=n then v else s.get n:=by
 simp only [St.get,St.put,gr]
 grind
theorem x2 (s:St) (d:Nat) (v:TV):(s.put d v).box=s.box:=rfl
def yy (s:St) (b:Nat) (p:aN) (n:Nat):(s.ax b p).get n=(s.get n).ax b p:=by
 simp only [St.get,St.ax,mb];cases lk s.tmps n<;>rfl
theorem TB (s:St) (b:Nat) (p:aN) (n:Nat):(s.ax b p).box n=(s.box n).map (bm.ax b p):=by
 simp only [St.box,St.ax,mb]
def OM (f:TV->TV) (b:f .un=.un) (l:List (List (Nat×TV))) (i n:Nat):(lk ((l.map λl=>l.map λx=>(x.1,f x.2)).getD i []) n).getD .un=f ((lk (l.getD i []) n).getD .un):=by
 simp only [HC,vg];cases l[i]? with
 |none=>exact b.symm
 |some l=>
  simp only [dy,vm,mb];cases lk l n with
  |none=>exact b.symm
  |some v=>rfl
def zf (s:St) (b:Nat) (p:aN) (i n:Nat):(s.ax b p).fW i n=(s.fW i n).ax b p:=OM (λv=>v.ax b p) rfl s.sv i n
def zg (s:St) (b:Nat) (p:aN):(s.ax b p).sv.length=s.sv.length:=eb _
theorem kq (s:St) (b:Nat) (x y:bm) (h:s.box b=some y) (n:Nat):(s.b2 b x).box n=if b=n then some x else s.box n:=by
 simp only [St.box,St.b2,Wy] at*
 grind
section
variable {Z:Type}
theorem uT:∀(t:Ty) (x:t.ai) (p:aN) (u:Ty) (y:u.ai) (k:t.ai->Option Z) (r:Z),ez t x p u y k=some r->
 ∃x':t.ai,k x'=some r/\∀{Y:Type} (k':t.ai->Option Y),ez t x p u y k'=k' x':=by
 intro t;have d:∀(t:Ty) (x:t.ai) (u:Ty) (y:u.ai) (k:t.ai->Option Z) (r:Z),ez t x [] u y k=some r->
  ∃x':t.ai,k x'=some r/\∀{Y:Type} (k':t.ai->Option Y),ez t x [] u y k'=k' x':=by
  grind [ez]
 induction t with
 |cons t r b c=>
  intro x p u y k ek h
  match p,h with
  |[],h=>simp_all
  | .f 0::p,h=>
   grind [ez]
  | .f (n+1)::p,h=>
   grind [ez]
  | .i n::p,h=>simp [ez] at h
 |slice t b=>
  intro x p u y k ek h
  match p,h with
  |[],h=>simp_all
  | .f n::p,h=>simp [ez] at h
  | .i n::p,h=>
   grind [ez]
 |arr m t b=>
  intro x p u y k ek h
  match p,h with
  |[],h=>simp_all
  | .f n::p,h=>simp [ez] at h
  | .i n::p,h=>
   grind [ez]
 |_=>
  grind [ez]
def Yv {mk:(t:Ty)->t.ai->TV} (b:Nat) (q:aN) (c:∀t x,(mk t x).ax b q=mk t x):∀(t:Ty) (x:t.ai) (p:aN) (v:TV) (k:TV->Option Z) (r:Z),e5 mk t x p v k=some r->
 ∃c',k c'=some r/\∀{Y:Type} (k':TV->Option Y),e5 mk t x p (v.ax b q) k'=k' (c'.ax b q):=by
 intro t
 induction t with
 |cons t r e d=>
  intro x p v k ek h
  match p,h with
  |[],h=>grind [e5]
  | .f 0::p,h=>
   grind [e5,TV.ax]
  | .f (n+1)::p,h=>
   grind [e5,TV.ax]
  | .i n::p,h=>simp [e5] at h
 |_=>
  grind [e5]
theorem Wn {b:Nat} {q:aN} {t:Ty} {x:t.ai}:(TV.ab t x).ax b q=.ab t x:=rfl
def aid {b:Nat} {q:aN} {t:Ty} {x:t.ai}:(TV.ad t x).ax b q=.ad t x:=rfl
theorem Yu {c:TV} {n:Nat} {p:aN} {v:TV} {k:TV->Option Z} {r:Z} (h:nC c n p v k=some r):
 ∃c',k c'=some r/\(∀{Y:Type} (k':TV->Option Y),nC c n p v k'=k' c')/\∀b q,c.ax b q=c/\v.ax b q=v/\c'.ax b q=c':=by
 unfold nC at h;split at h;rotate_left;cases h;rename_i t xs u;split at h;rotate_left;cases h;rename_i x j;split at h;rotate_left;cases h;rename_i g f;cases g with
 |true=>cases h
 |false=>
  rw [cond_false] at h;split at h;split at h;rename_i l;exact ⟨_,h,λk'=>by simp only [nC,j,f,cond_false];rw [aE l],λb q=>⟨rfl,rfl,rfl⟩⟩;cases h;obtain ⟨x',d,e⟩:=uT t x p _ _ _ r h;exact ⟨_,d,λk'=>by simp only [nC,j,f,cond_false];rw [e],λb q=>⟨rfl,rfl,rfl⟩⟩;split at h;rename_i o;obtain ⟨x',d,e⟩:=uT t x p _ _ _ r h;exact ⟨_,d,λk'=>by simp only [nC,j,f,cond_false];rw [aE o,e],λb q=>⟨rfl,rfl,rfl⟩⟩;cases h;cases h
def Oa (b:Nat) (q:aN):∀(c:TV) (p:aN) (v:TV) (k:TV->Option Z) (r:Z),b7 c p v k=some r->
 ∃c',k c'=some r/\∀{Y:Type} (k':TV->Option Y),b7 (c.ax b q) p (v.ax b q) k'=k' (c'.ax b q):=by
 have l:∀(c:TV) (v:TV) (k:TV->Option Z) (r:Z),b7 c [] v k=some r->
  ∃c',k c'=some r/\∀{Y:Type} (k':TV->Option Y),b7 (c.ax b q) [] (v.ax b q) k'=k' (c'.ax b q):=by
  grind [b7]
 intro c
 induction c with
 |ab t x=>
  intro p v k r h;cases p with
  |nil=>exact l _ _ _ _ h
  |cons s p=>
   have o:∀v:TV,(∀{Y:Type} (k':TV->Option Y),b7 (.ab t x) (s::p) (v.ax b q) k'=e5 .ab t x (s::p) (v.ax b q) k')->e5 .ab t x (s::p) v k=some r->
    ∃c',k c'=some r/\∀{Y:Type} (k':TV->Option Y),b7 ((TV.ab t x).ax b q) (s::p) (v.ax b q) k'=k' (c'.ax b q):=by
    intro v e D;obtain ⟨c',z,C⟩:=Yv b q (λ_ _=>Wn) t x (s::p) v k r D;exact ⟨c',z,λk'=>by rw [Wn,e,C]⟩
   cases v with
   |ab u y=>
    grind [uT,b7,TV.ax]
   |ad u y=>
    grind [b7,uT,TV.ax]
   |ref g j=>
    refine o _ (λk'=>?_) (by simpa [b7] using h);rcases (kill_cases b q g j 0 0).1 with e|e<;>rw [e]<;>simp [b7]
   |sl g j=>
    refine o _ (λk'=>?_) (by simpa [b7] using h);rcases (kill_cases b q g j 0 0).2.1 with e|e<;>rw [e]<;>simp [b7]
   |slw g j lo n=>
    refine o _ (λk'=>?_) (by simpa [b7] using h);rcases (kill_cases b q g j lo n).2.2.1 with e|e<;>rw [e]<;>simp [b7]
   |mp g=>
    refine o _ (λk'=>?_) (by simpa [b7] using h);rcases (kill_cases b q g [] 0 0).2.2.2 with e|e<;>rw [e]<;>simp [b7]
   |_=>grind [TV.ax,b7]
 |ad t x=>
  intro p v k r h;cases p with
  |nil=>exact l _ _ _ _ h
  |cons s p=>
   obtain ⟨c',z,C⟩:=Yv b q (λ_ _=>aid) t x (s::p) v k r (by simpa [b7] using h)
   grind [TV.ax,b7]
 |cons a d I J=>
  intro p v k r h
  match p,h with
  |[],h=>exact l _ _ _ _ h
  | .i n::p,h=>simp [b7] at h
  | .f 0::p,h=>
   grind [b7,TV.ax]
  | .f (n+1)::p,h=>
   grind [b7,TV.ax]
 |tup c _=>
  intro p v k r h
  match p,h with
  |[],h=>exact l _ _ _ _ h
  | .f n::p,h=>cases n<;>simp [b7] at h
  | .i n::p,h=>
   grind [Yu,b7,TV.ax]
 |_=>
  grind [b7]
def Ob (c:TV) (p:aN) (v:TV) (k:TV->Option Z) (r:Z) (h:b7 c p v k=some r):
 ∃c',k c'=some r/\∀{Y:Type} (k':TV->Option Y),b7 c p v k'=k' c':=by
 have l:∀(mk:(t:Ty)->t.ai->TV) (t:Ty) (x:t.ai) (p:aN) (k:TV->Option Z) (r:Z),e5 mk t x p v k=some r->∃c',k c'=some r/\∀{Y:Type} (k':TV->Option Y),e5 mk t x p v k'=k' c':=by
  intro mk t
  induction t with
  |cons t r j g=>
   intro x p k ek h
   match p,h with
   |[],h=>grind [e5]
   | .f 0::p,h=>
    grind [e5]
   | .f (n+1)::p,h=>
    grind [e5]
   | .i n::p,h=>simp [e5] at h
  |_=>
   grind [e5]
 have key:∀(c:TV) (p:aN) (k:TV->Option Z) (r:Z),b7 c p v k=some r->∃c',k c'=some r/\∀{Y:Type} (k':TV->Option Y),b7 c p v k'=k' c':=by
  intro c
  induction c with
  |ab t x=>
   intro p k r h;cases p with
   |nil=>exact ⟨v,h,λk'=>rfl⟩
   |cons s p=>
    cases v with
    |ab u y=>
     grind [uT,b7]
    |ad u y=>
     grind [b7,uT]
    |_=>
     grind [b7]
  |ad t x=>
   intro p k r h;cases p with
   |nil=>exact ⟨v,h,λk'=>rfl⟩
   |cons s p=>
    grind [b7]
  |cons a d b e=>
   intro p k r h
   match p,h with
   |[],h=>exact ⟨v,h,λk'=>rfl⟩
   | .i n::p,h=>simp [b7] at h
   | .f 0::p,h=>
    grind [b7]
   | .f (n+1)::p,h=>
    grind [b7]
  |tup c _=>
   intro p k r h
   match p,h with
   |[],h=>exact ⟨v,h,λk'=>rfl⟩
   | .f n::p,h=>cases n<;>simp [b7] at h
   | .i n::p,h=>
    grind [Yu,b7]
  |_=>
   grind [b7]
 exact key c p k r h
end
def bm.with (x:bm) (c:TV):bm:={x with c:=c}
section
variable {F:Fr} {G:Nat->Gh} {s:St} {a:Act} {w:World}
theorem aC.ro (h:aC F G s a w) {i:Nat} {x:bm} (e:s.box i=some x) {b:Nat} (c:F.R b):b∉(G i).af:=λd=>(h.bQ i x e b d).1 c
def aC.ph (h:aC F G s a w) {b:Nat} (c:F.R b):b<w.heap.size:=kO (h.R b c).1 h.size
theorem dB.ff {A:b0} {R:Nat->Prop} {g:Gh} {x:bm} (h:dB A w R g x):
 ∃cs,aZ A w R x.c x.ty g.ft cs/\∀b o,g.bj.map (·,0)=some (b,o)->At w b o x.ty.size cs/\∃row e,w.heap[b]?=some (.cells row e (0,0))/\row.toList=cs/\o=0:=by
 unfold dB at h;split at h;simp_all;obtain ⟨j,row,e,f,d,l,h4⟩:=h;refine ⟨row.toList,h4,λb o eq=>?_⟩;rw [f] at eq;simp only [dy,bi,bK] at eq;obtain ⟨rfl,rfl⟩:=eq;exact ⟨⟨row,e,(0,0),d,by omega,by rw [ve,List.take_of_length_le (by simp;omega)]⟩,row,e,d,rfl,rfl⟩
theorem aC.ym (h:aC F G s a w) {i:Nat} {x:bm} (C:s.box i=some x) {p:aN} {u:Ty} {W:FT} {ac:Option (Nat×Nat)}
 (ax:ay s.box G i p=some (u,W,ac)) {w2:World} {c':TV} {f:FT} {s2:St} {D:Nat->Gh} (kl:TV->TV)
 (a0:D=λj=>if j=i then ⟨(G i).bj,bA x.ty (G i).ft p f⟩ else G j)
 (a5:∀n,s2.get n=kl (s.get n)) (a9:∀i n,s2.fW i n=kl (s.fW i n)) (a6:s2.sv.length=s.sv.length) (I:∀j,s2.box j=if j=i then some (x.with c') else (s.box j).map λy=>y.with (kl y.c))
 (ah:∀v y,VR (ay s.box G) w F.R v y->VR (ay s2.box D) w2 F.R (kl v) y)
 (ag:∀c t ft cs,(∀b∈ft.af,w2.heap[b]?=w.heap[b]?)->aZ (ay s.box G) w F.R c t ft cs->aZ (ay s2.box D) w2 F.R (kl c) t ft cs)
 (aM:dB (ay s2.box D) w2 F.R (D i) (x.with c'))
 (am:fJ w w2) (az:∀j y,j≠i->s.box j=some y->∀b∈(G j).af,w2.heap[b]?=w.heap[b]?) (a1:∀b,b<F.w0.heap.size->b∉F.M->w2.heap[b]?=w.heap[b]?)
 (a2:f.af.Nodup) (ai:∀b∈f.af,b∈W.af\/∀j y,s.box j=some y->b∉(G j).af)
 (a4:∀b∈f.af,¬F.R b/\b<w2.heap.size/\(b∈F.M\/F.w0.heap.size<=b))
 (a3:x.dI=true->x.cm=true->(bA x.ty (G i).ft p f).dD=(G i).ft.dD):aC F D s2 a w2:=by
 subst a0;have ae:ak x.ty (G i).ft ((G i).bj.map (·,0)) p=some (u,W,ac):=by simpa [ay,C] using ax
 have al:=h.b5 i x C;simp only [Gh.af,cF] at al;obtain ⟨aO,aD,aP⟩:=al;obtain ⟨s1,_⟩:=fO _ _ _ _ ae;obtain ⟨aK,aL⟩:=GU x.ty (G i).ft _ p f ae aD a2 (λb I=>(ai b I).imp id λaw au=>aw i x C (by simp [Gh.af,au]));have ck:∀j y,s2.box j=some y->∃g,s.box j=some g:=by
  intro j y d;rw [I] at d;by_cases e:j=i;simp_all;simp only [e,dA] at d;cases q:s.box j with
  |none=>rw [q] at d;cases d
  |some g=>exact ⟨g,rfl⟩
 have sub:∀b,b∈(Gh.mk (G i).bj (bA x.ty (G i).ft p f)).af->b∈f.af\/(b∈(G i).af):=by
  grind [Gh.af]
 have aJ:∀j y,j≠i->s.box j=some y->∀b∈(G j).af,b∉f.af/\b∉(G i).af:=by
  intro j y q d b l;refine ⟨λa7=>?_,λK=>h.c7 j i y x d C q b l K⟩;rcases ai b a7 with o|o
  exact h.c7 j i y x d C q b l (by simp [Gh.af,s1 b o]);exact o j y d l
 refine ⟨?_,?_,?_,?_,?_,h.R,?_,?_,h.fQ.trans am,h.defers,h.nt,?hpar,λi n=>(by rw [a9];exact ah _ _ (h.sv i n)),a6.trans h.jI⟩
 case hpar=>
  intro j y d;rw [I] at d;by_cases e:j=i;subst e;simp only [cN,bi] at d;subst d;simp only [cN];obtain ⟨aF,aG⟩:=h.cW j x C;refine ⟨aF,λan=>?_⟩;obtain ⟨ar,aH⟩:=aG an;exact ⟨ar,(a3 an ar).trans aH⟩;simp only [e,dA] at d|-;cases q:s.box j with
  |none=>rw [q] at d;cases d
  |some g=>
   rw [q] at d;simp only [dy,bi] at d;subst d;exact h.cW j g q
 rotate_left;intro j y d;rw [I] at d;by_cases e:j=i;subst e;simp only [cN,bi] at d;subst d;exact h.cC j x C;simp only [e,dA] at d;cases q:s.box j with
 |none=>rw [q] at d;cases d
 |some g=>
  rw [q] at d;simp only [dy,bi] at d;subst d;exact h.cC j g q
 rotate_right
 intro j y d;by_cases e:j=i;simp_all;obtain ⟨g,r⟩:=ck j y d;rw [I] at d;simp only [e,dA,r,dy,bi] at d;subst d;have J:=h.box j g r;have ab:∀b∈(G j).af,w2.heap[b]?=w.heap[b]?:=λb l=>az j g e r b l
 unfold dB at J|-;by_cases O:g.cm=true;rw [aE O] at J;rw [av e,aE (show (g.with (kl g.c)).cm=true from O)];obtain ⟨o,X,cs,aa⟩:=J;exact ⟨o,X,cs,ag _ _ _ _ (λb l=>ab b (by simp [Gh.af,l])) aa⟩;rw [av O] at J;rw [av e,av (show ¬(g.with (kl g.c)).cm=true from O)];obtain ⟨ad,row,U,o,X,aa,h4⟩:=J;exact ⟨ad,row,U,o,by rw [ab ad (by simp [Gh.af,o])];exact X,aa,ag _ _ _ _ (λb l=>ab b (by simp [Gh.af,l])) h4⟩;intro j k y z d aA a8 b l K;obtain ⟨g,r⟩:=ck j y d;obtain ⟨aI,aB⟩:=ck k z aA;by_cases e:j=i
 grind
 by_cases U:k=i
 grind
 simp only [e,U,dA] at l K;exact h.c7 j k g aI r aB a8 b l K;intro j y d;obtain ⟨g,r⟩:=ck j y d;by_cases e:j=i
 grind [Gh.af]
 simp only [e,dA];exact h.b5 j g r;intro j y d b l;obtain ⟨g,r⟩:=ck j y d;by_cases e:j=i;subst e;simp only [cN] at l;rcases sub b l with o|o
 exact a4 b o;obtain ⟨ao,ap,aq⟩:=h.bQ j x C b o;exact ⟨ao,kO ap am.size,aq⟩;simp only [e,dA] at l;obtain ⟨ao,ap,aq⟩:=h.bQ j g r b l
 grind
 intro n;rw [a5];exact ah _ _ (h.tmps n);intro b aj l;rw [a1 b aj l];exact h.bT b aj l
def aC.core (h:aC F G s a w) {i:Nat} {x:bm} (g:s.box i=some x) {p:aN} {u:Ty} {l:FT} {z:Option (Nat×Nat)}
 (C:ay s.box G i p=some (u,l,z)) {w2:World} {c':TV} {f:FT} {s2:St} {d:Nat->Gh} (kl:TV->TV)
 (I:d=λj=>if j=i then ⟨(G i).bj,bA x.ty (G i).ft p f⟩ else G j)
 (ab:∀n,s2.get n=kl (s.get n)) (ai:∀i n,s2.fW i n=kl (s.fW i n)) (ae:s2.sv.length=s.sv.length) (K:∀j,s2.box j=if j=i then some (x.with c') else (s.box j).map λy=>y.with (kl y.c))
 (J:∀v y,VR (ay s.box G) w F.R v y->VR (ay s2.box d) w2 F.R (kl v) y)
 (D:∀c t ft cs,(∀b∈ft.af,w2.heap[b]?=w.heap[b]?)->aZ (ay s.box G) w F.R c t ft cs->aZ (ay s2.box d) w2 F.R (kl c) t ft cs)
 (O:dB (ay s2.box d) w2 F.R (d i) (x.with c'))
 (aj:fJ w w2) (q:∀b,b<w.heap.size->b∉(G i).af->w2.heap[b]?=w.heap[b]?)
 (U:f.af.Nodup) (W:∀b∈f.af,b∈l.af\/∀j y,s.box j=some y->b∉(G j).af)
 (aa:∀b∈f.af,¬F.R b/\b<w2.heap.size/\(b∈F.M\/F.w0.heap.size<=b))
 (X:x.dI=true->x.cm=true->(bA x.ty (G i).ft p f).dD=(G i).ft.dD):aC F d s2 a w2:=by
 refine h.ym g C kl I ab ai ae K J D O aj (λj y ad r b e=>q b (h.bQ j y r b e).2.1 (λah=>h.c7 j i y x r g ad b e ah)) (λb ag e=>q b (kO ag h.size) (λac=>?_)) U W aa X;rcases (h.bQ i x g b ac).2.2 with o|o
 exact e o;omega
theorem aC.put (h:aC F G s a w) {d:Nat} {v:TV} {x:Value} (b:d<F.nt) (c:VR (ay s.box G) w F.R v x):aC F G (s.put d v) (a.put (some d) x) w:=by
 refine ⟨h.box,h.cC,h.c7,h.b5,h.bQ,h.R,λn=>?_,h.bT,h.fQ,h.defers,by simpa [Act.put] using h.nt,h.cW,h.sv,h.jI⟩;rw [i4,x2];by_cases e:d=n;subst e;have:(a.put (some d) x).tmps.getD d undef=x:=by simp [Act.put,h.nt,b]
 simp_all;have:(a.put (some d) x).tmps.getD n undef=a.tmps.getD n undef:=by
  simp [Act.put,jL,Array.getElem?_setIfInBounds_ne e]
 rw [this,av e];exact h.tmps n
def aC.NL (h:aC F G s a w) (d:Nat):aC F G (s.put d (.tup .unit)) (a.put (some d) undef) w:=by
 refine ⟨h.box,h.cC,h.c7,h.b5,h.bQ,h.R,λn=>?_,h.bT,h.fQ,h.defers,by simpa [Act.put] using h.nt,h.cW,h.sv,h.jI⟩;rw [i4,x2];by_cases e:d=n;subst e;have:(a.put (some d) undef).tmps.getD d undef=undef:=by
  simp only [Act.put,jL];simp_all
 rw [this,aE rfl];exact ⟨[],trivial,rfl⟩;have:(a.put (some d) undef).tmps.getD n undef=a.tmps.getD n undef:=by
  simp [Act.put,jL,Array.getElem?_setIfInBounds_ne e]
 rw [this,av e];exact h.tmps n
def VZ (h:aC F G s a w) {ops:Array Oper} {j d:Nat} (g:(ops[j]?).bind (·.dst)=some d) (f:s.get d=.tup .unit):yielded ops a.tmps j=none:=by
 have b:=h.tmps d;rw [f] at b;obtain ⟨xs,c,e⟩:=b;cases xs with
 |cons _ _=>exact c.elim
 |nil=>
  rw [jL] at e;unfold yielded
  grind
def aC.GO (h:aC F G s a w) {d:Nat} {v:TV} (b:VR (ay s.box G) w F.R v (a.tmps.getD d undef)):aC F G (s.put d v) a w:=by
 refine ⟨h.box,h.cC,h.c7,h.b5,h.bQ,h.R,λn=>?_,h.bT,h.fQ,h.defers,h.nt,h.cW,h.sv,h.jI⟩;rw [i4,x2];by_cases e:d=n;simp_all;rw [av e];exact h.tmps n
theorem aC.grow (h:aC F G s a w) {w2:World} (z:fJ w w2) (o:∀b,b<w.heap.size->w2.heap[b]?=w.heap[b]?):aC F G s a w2:=by
 have g:∀b,F.R b->w2.heap[b]?=w.heap[b]?:=λb j=>o b (h.ph j)
 have f:hV (ay s.box G) (ay s.box G):=λ_ _ _ ft _ e=>⟨ft,e,rfl⟩
 refine ⟨λi x d=>?_,h.cC,h.c7,h.b5,λi x d b j=>?_,h.R,λn=>VR.mono f g (h.tmps n),λb q c=>?_,h.fQ.trans z,h.defers,h.nt,h.cW,λi n=>VR.mono f g (h.sv i n),h.jI⟩;have y:∀b∈(G i).af,w2.heap[b]?=w.heap[b]?:=λb c=>o b (h.bQ i x d b c).2.1
 have l:=h.box i x d;unfold dB at l|-;split;rename_i C;rw [aE C] at l;obtain ⟨r,u,cs,v⟩:=l;exact ⟨r,u,cs,aZ.mono f g _ _ _ _ (λb c=>y b (by simp [Gh.af,c])) v⟩
 grind [aZ.mono,Gh.af]
 obtain ⟨D,I,J⟩:=h.bQ i x d b j
 grind
 rw [o b (kO q h.size)];exact h.bT b q c
end
theorem Wr.refl {w:World} {b o n:Nat} {cs:List Value} (h:At w b o n cs):Wr w w b o n cs:=by
 obtain ⟨row,e,fz,c,d,rfl⟩:=h;refine ⟨by simp;omega,row,row,e,fz,c,c,d,?_⟩;rw [gz,<-jN,iS,iS]
theorem fv {B:Nat->Option bm} {G:Nat->Gh} {i:Nat} {x:bm} (h:B i=some x) (p:aN):ay B G i p=ak x.ty (G i).ft ((G i).bj.map (·,0)) p:=by
 simp [ay,h]
section
variable {Z:Type} {F:Fr} {G:Nat->Gh} {s:St} {a:Act} {w:World}
def tG {i:Nat} {x:bm} (n:s.box i=some x) {p:aN} {u:Ty} {g:FT} {d:Option (Nat×Nat)}
 (r:ay s.box G i p=some (u,g,d)) {f:FT} {s2:St} {b:Nat->Gh} {c':TV} {kl:TV->TV}
 (z:b=λj=>if j=i then ⟨(G i).bj,bA x.ty (G i).ft p f⟩ else G j)
 (l:∀j,s2.box j=if j=i then some (x.with c') else (s.box j).map λy=>y.with (kl y.c)):mG i p (ay s.box G) (ay s2.box b):=by
 subst z;intro c q t ft aP h;have v:ak x.ty (G i).ft ((G i).bj.map (·,0)) p=some (u,g,d):=by rw [<-fv n];exact r
 by_cases e:i=c;subst e;rw [fv n] at h;have C:∀q,ay s2.box (λj=>if j=i then ⟨(G i).bj,bA x.ty (G i).ft p f⟩ else G j) i q=ak x.ty (bA x.ty (G i).ft p f) ((G i).bj.map (·,0)) q:=by
  intro q;simp [ay,l,bm.with]
 obtain ⟨D,I⟩:=afy x.ty (G i).ft _ p q f v h;simp_all;have C:ay s2.box (λj=>if j=i then ⟨(G i).bj,bA x.ty (G i).ft p f⟩ else G j) c q=ay s.box G c q:=by
  have o:¬c=i:=λh=>e h.symm
  simp only [ay,l,o,dA];cases s.box c<;>rfl
 simp_all
def ail {i:Nat} {x:bm} (o:s.box i=some x) {p:aN} {u:Ty} {g:FT} {d:Option (Nat×Nat)}
 (v:ay s.box G i p=some (u,g,d)) (D:u.aY=true) {f:FT} {s2:St} {b:Nat->Gh} {c':TV} {kl:TV->TV}
 (C:b=λj=>if j=i then ⟨(G i).bj,bA x.ty (G i).ft p f⟩ else G j)
 (l:∀j,s2.box j=if j=i then some (x.with c') else (s.box j).map λy=>y.with (kl y.c)):hV (ay s.box G) (ay s2.box b):=by
 subst C;intro c q t ft aP h;have z:ak x.ty (G i).ft ((G i).bj.map (·,0)) p=some (u,g,d):=by rw [<-fv o];exact v
 by_cases e:i=c;subst e;rw [fv o] at h;have n:ay s2.box (λj=>if j=i then ⟨(G i).bj,bA x.ty (G i).ft p f⟩ else G j) i q=ak x.ty (bA x.ty (G i).ft p f) ((G i).bj.map (·,0)) q:=by
  simp [ay,l,bm.with]
 rw [n];exact afz x.ty (G i).ft _ p q f D z h;have n:ay s2.box (λj=>if j=i then ⟨(G i).bj,bA x.ty (G i).ft p f⟩ else G j) c q=ay s.box G c q:=by
  have r:¬c=i:=λh=>e h.symm
  simp only [ay,l,r,dA];cases s.box c<;>rfl
 simp_all
structure hz (F:Fr) (G:Nat->Gh) (s:St) (w:World) (f:FT):Prop where
 b5:f.af.Nodup
 out:∀b∈f.af,∀j y,s.box j=some y->b∉(G j).af
 bQ:∀b∈f.af,¬F.R b/\b<w.heap.size/\(b∈F.M\/F.w0.heap.size<=b)
structure iv (G:Nat->Gh) (s:St) (c:Nat->Gh) (d:St):Prop where
 sub:∀j y,d.box j=some y->∀b∈(c j).af,∃i x,s.box i=some x/\b∈(G i).af
theorem iv.refl:iv G s G s:=⟨λj y h b c=>⟨j,y,h,c⟩⟩
theorem iv.trans {G1 c:Nat->Gh} {s1 s2:St} (h:iv G s G1 s1) (d:iv G1 s1 c s2):iv G s c s2:=
 ⟨λj y l b e=>let ⟨i,x,g,f⟩:=d.sub j y l b e;h.sub i x g b f⟩
def pB (G:Nat->Gh) (s:St) (f:FT):Prop:=∀b∈f.af,∃i x,s.box i=some x/\b∈(G i).af
theorem pB.eZ {c:Nat->Gh} {d:St} {f:FT} (h:iv G s c d) (l:pB c d f):pB G s f:=λb e=>
 let ⟨j,y,n,g⟩:=l b e;h.sub j y n b g
theorem hz.eZ {d:Nat->Gh} {e:St} {f:FT} (h:iv G s d e) (c:hz F G s w f):hz F d e w f:=
 ⟨c.b5,λb g j y q l=>let ⟨i,x,o,n⟩:=h.sub j y q b l;c.out b g i x o n,c.bQ⟩
theorem hz.c7 {f g:FT} (e:hz F G s w f) (h:pB G s g):∀b∈g.af,b∉f.af:=λb c d=>
 let ⟨i,x,l,j⟩:=h b c;e.out b d i x l j
theorem hz.nil {f:FT} (h:f.af=[]):hz F G s w f:=⟨by simp_all,λb c=>(by rw [h] at c;cases c),λb c=>(by rw [h] at c;cases c)⟩
theorem k5 {i:Nat} {x:bm} (b:s.box i=some x) (c:TV) (p:aN) (j:Nat):
 ((s.b2 i {x with c:=c}).ax i p).box j=if j=i then some (x.with (c.ax i p)) else (s.box j).map λy=>y.with (y.c.ax i p):=by
 rw [TB,kq s i _ x b];by_cases e:j=i;subst e;simp [bm.ax,bm.with];simp only [Ne.symm e,dA,e];cases s.box j<;>rfl
def aC.move (h:aC F G s a w) {b:Nat} {p:aN} {x:bm} (q:s.box b=some x) (bh:x.dI=false) (a4:aN.dM p=false\/x.cm=true) {u:Ty} {I:FT} {aa:Option (Nat×Nat)} {cs:List Value} {t:Ty} {y:t.ai} (an:t.size=1) (a8:t.agg=false)
 (aq:ay s.box G b p=some (u,I,aa)) (aQ:aZ (ay s.box G) w F.R (.ab t y) u I cs) (aj:∀b o,aa=some (b,o)->At w b o u.size cs) {k:TV->Option Z} {r:Z} (aJ:b7 x.c p .un k=some r):
 ∃c' ah,k c'=some r/\aC F ah ((s.b2 b {x with c:=c'}).ax b p) a w/\hz F ah ((s.b2 b {x with c:=c'}).ax b p) w I/\
  mG b p (ay s.box G) (ay ((s.b2 b {x with c:=c'}).ax b p).box ah)/\bd w t y I cs/\t=u/\
  iv G s ah ((s.b2 b {x with c:=c'}).ax b p)/\pB G s I:=by
 obtain ⟨c',hk,a0⟩:=Oa b p x.c p .un k r aJ
 let s2:=(s.b2 b {x with c:=c'}).ax b p
 let l:Nat->Gh:=λj=>if j=b then ⟨(G b).bj,bA x.ty (G b).ft p .leaf⟩ else G j
 have g:ak x.ty (G b).ft ((G b).bj.map (·,0)) p=some (u,I,aa):=by rw [<-fv q];exact aq
 have al:mG b p (ay s.box G) (ay s2.box l):=tG (kl:=λv=>v.ax b p) q aq rfl (k5 q c' p);obtain ⟨rfl,aU⟩:=aQ;obtain ⟨s1,bn⟩:=fO _ _ _ _ g;have a6:=h.b5 b x q;have aT:=h.bQ b x q;simp only [Gh.af,cF] at a6;obtain ⟨bl,X,aW⟩:=a6;obtain ⟨ac,a2,bg⟩:=(h.box b x q).ff;have a3:aZ (ay s2.box l) w F.R (x.c.ax b p) x.ty (G b).ft ac:=aZ.ax al (λ_ _=>rfl) _ _ _ _ (λ_ _=>rfl) a2;refine ⟨c',l,hk,?_,?_,al,aU,rfl,⟨λj y D z U=>?_⟩,λz U=>⟨b,x,q,by grind [Gh.af]⟩⟩;rotate_left 2;obtain ⟨_,a9⟩:=GU x.ty (G b).ft _ p .leaf g X (by simp [FT.af]) (λb J=>by simp [FT.af] at J);rw [k5 q] at D;by_cases e:j=b
 grind [Gh.af,FT.af]
 simp only [e,dA] at D;simp only [l,e,dA] at U;cases am:s.box j with
 |none=>rw [am] at D;cases D
 |some aA=>grind
 refine h.core q aq (λv=>v.ax b p) rfl (yy _ b p) (zf _ b p) (zg _ b p) (k5 q c' p) (λv y K=>VR.ax al (λ_ _=>rfl) K) (λc t ft cs aK aR=>aZ.ax al (λ_ _=>rfl) c t ft cs aK aR) ?_ (fJ.refl _) (λ_ _ _=>rfl) (by simp [FT.af]) (λb J=>by simp [FT.af] at J) (λb J=>by simp [FT.af] at J) (λbe=>by simp_all);unfold dB;by_cases K:x.cm=true
 ·have C:=h.box b x q;unfold dB at C;rw [aE K] at C;have az:=C.1;by_cases a7:p=[];rotate_left;rw [aE (show (x.with (c'.ax b p)).cm=true from K)];obtain ⟨ba,ae⟩:=C.2.1;have au:∃d o,aa=some (d,o):=by
   rw [ae] at g
   match p,g with
   |[],_=>exact absurd rfl a7
   | .f n::p,g=>simp [ak] at g
   | .i n::p,g=>
    generalize (G b).ft=aG at g
    match aG,g with
    | .leaf,O=>simp [ak] at O
    | .eI _ _,O=>simp [ak] at O
    | .node none _ _,O=>simp [ak] at O
    | .node (some bb) cap bk,O=>
     grind [ak,fO]
  obtain ⟨d,o,rfl⟩:=au;have ar:Wr w w d o t.size cs:=Wr.refl (aj d o rfl);have ag:aZ (ay s2.box l) w F.R .un t .leaf cs:=⟨rfl,an,a8,by rw [(aj d o rfl).len,an]⟩;rw [az] at g;obtain ⟨aB,ad,ap,aH,aI,a1⟩:=aZ.set ar ag (x.c.ax b p) x.ty (G b).ft ac none p (λc=>some c) (c'.ax b p) a3
   (λz aX ao=>by cases ao) X g (a0 some) ⟨λ_ _ _ _=>rfl,afx _ _ _ _ g X (λb o e=>by cases e),λ_ _=>rfl⟩
  obtain rfl:=b3 ap;exact ⟨by simpa [l] using az,C.2.1,ad,by
   change aZ _ w F.R (c'.ax b p) x.ty (l b).ft ad
   grind⟩
  subst a7;rw [aE (show (x.with (c'.ax b [])).cm=true from K)];refine ⟨by simpa [l] using az,C.2.1,ac,?_⟩;have aD:∀{Y:Type} (c v:TV) (k:TV->Option Y),b7 c [] v k=k v:=by intro Y c v k;cases c<;>rfl
  have:=a0 some;rw [aD] at this;have ag:c'.ax b []=.un:=(b3 this).symm;have aF:bA x.ty (G b).ft [] .leaf=.leaf:=by cases x.ty<;>rfl
  change aZ _ w F.R (c'.ax b []) x.ty (l b).ft ac;rw [ag];simp only [l,cN,aF];have bi:x.ty=t:=by
   grind [ak]
  obtain ⟨ba,ae⟩:=C.2.1;exact ⟨rfl,by rw [ae];rfl,by rw [ae];rfl,by rw [aZ.len _ _ _ _ a2,ae];rfl⟩
 have a4:aN.dM p=false:=a4.resolve_right K;rw [av (show ¬(x.with (c'.ax b p)).cm=true from K)];have C:=h.box b x q;unfold dB at C;rw [av K] at C;obtain ⟨d,row,e,aw,aM,aO,bf⟩:=C;have au:∃o,aa=some (d,o):=by
  grind
 obtain ⟨o,rfl⟩:=au;have ar:Wr w w d o t.size cs:=Wr.refl (aj d o rfl);have aP:d∉(G b).ft.af:=λW=>aW d (by simp [aw]) d W rfl
 have ag:aZ (ay s2.box l) w F.R .un t .leaf cs:=⟨rfl,an,a8,by rw [(aj d o rfl).len,an]⟩;obtain ⟨aB,ad,ap,aH,aI,a1⟩:=aZ.set ar ag (x.c.ax b p) x.ty (G b).ft ac ((G b).bj.map (·,0)) p (λc=>some c) (c'.ax b p) a3
  (λz aX ao=>by
   simp_all) X g (a0 some) ⟨λ_ _ _ _=>rfl,λW=>aP (s1 d W),λ_ _=>rfl⟩
 obtain rfl:=b3 ap;refine ⟨d,row,e,by simp [l,aw],aM,aO,?_⟩;have aL:=a1 d 0 (by rw [aw];rfl);have aV:ad=row.toList:=by
  obtain ⟨nA,ao,bc,aY,a9,rfl⟩:=aL
  grind
 rw [<-aV];change aZ _ w F.R (c'.ax b p) x.ty (l b).ft ad
 grind
 have a5:∀z∈I.af,z∈(G b).af:=λz J=>by grind [Gh.af]
 have aS:I.af.Nodup:=afw _ _ _ _ g X;obtain ⟨aY,a9⟩:=GU x.ty (G b).ft _ p .leaf g X (by simp [FT.af]) (λb J=>by simp [FT.af] at J);refine ⟨aS,λz U j y D W=>?_,λz U=>aT z (a5 z U)⟩;rw [k5 q] at D;by_cases e:j=b
 grind [Gh.af,FT.af]
 simp only [e,dA] at D;cases am:s.box j with
 |none=>rw [am] at D;cases D
 |some aA=>
  simp only [l,e,dA] at W;exact h.c7 b j x aA q am (Ne.symm e) z (a5 z U) W
end
def ei (cs:List Value):Prop:=∀v∈cs,v.oneCell'=true
def uz {a b:List Value} (c:ei a) (d:ei b):ei (a++b):=λv e=>(bI.1 e).elim (c v) (d v)
def jD:∀(t:Ty) (x:t.ai),ei (bH t x)
 | .int _,_=>by intro v b;simp [bH] at b;subst b;rfl
 | .bool,_=>by intro v b;simp [bH] at b;subst b;rfl
 | .bR,_=>by intro v b;simp [bH] at b;subst b;rfl
 | .bz,_=>by intro v b;simp [bH] at b
 | .slice _,_=>by intro v b;simp [bH] at b
 | .unit,_=>by intro v b;simp [bH] at b
 | .cons t r,x=>uz (jD t x.1) (jD r x.2)
 | .arr _ t,xs=>by
  intro v b;have b:v∈((show List t.ai from xs).map (bH t)).flatten:=b;rw [List.mem_flatten] at b;obtain ⟨l,c,d⟩:=b;obtain ⟨y,_,e⟩:=dm.1 c;subst e;exact jD t y v d
theorem Rd.ei {w:World} {R:Nat->Prop}:∀(t:Ty) (x:t.ai) (cs:List Value),Rd w R t x cs->ei cs
 | .int _,_,_,h=>by rw [h.2.2];exact jD _ _
 | .bool,_,_,h=>by rw [h.2.2];exact jD _ _
 | .bR,_,_,h=>by rw [h.2.2];exact jD _ _
 | .bz,_,_,h=>h.elim
 | .unit,_,_,h=>by rw [h.2.2];exact jD _ _
 | .arr _ _,_,_,h=>by rw [h.2.2];exact jD _ _
 | .cons t r,x,cs,h=>by
  obtain ⟨c,d,rfl,e,f⟩:=h;exact uz (Rd.ei t x.1 c e) (Rd.ei r x.2 d f)
 | .slice t,xs,cs,h=>by
  obtain ⟨a,cap,rfl,_⟩:=h;intro v b;simp at b;subst b;rfl
theorem bd.ei {w:World}:∀(t:Ty) (x:t.ai) (ft:FT) (cs:List Value),bd w t x ft cs->ei cs
 | .int _,_,_,_,h=>by rw [h.2.2.2];exact jD _ _
 | .bool,_,_,_,h=>by rw [h.2.2.2];exact jD _ _
 | .bR,_,_,_,h=>by rw [h.2.2.2];exact jD _ _
 | .bz,_,_,_,h=>h.elim
 | .unit,_,_,_,h=>by rw [h.2.2.2];exact jD _ _
 | .arr _ _,_,_,_,h=>by rw [h.2.2.2];exact jD _ _
 | .cons t r,x,ft,cs,h=>by
  obtain ⟨_,d,e,rfl,f,g⟩:=h;exact uz (bd.ei t x.1 _ d f) (bd.ei r x.2 _ e g)
 | .slice t,xs,ft,cs,h=>by
  obtain ⟨b,cap,j,_,rfl,_⟩:=h;intro v c;simp at c;subst c;rfl
def mj {v:Value} (h:v.oneCell'=true):ei [v]:=λx b=>by simp_all
section
variable {Z:Type} {F:Fr} {a:Act} {w:World}
def Wl {A A':b0} {R:Nat->Prop} {b:Nat} {p:aN} (h:mG b p A A'):
 (∀d e,bF A w R d e->bF A' w R (d.ax b p) e)/\(∀c t f cs,aZ A w R c t f cs->aZ A' w R (c.ax b p) t f cs):=
 ⟨λd e j=>bF.ax h (λ_ _=>rfl) d e j,λc t f cs g=>aZ.ax h (λ_ _=>rfl) c t f cs (λ_ _=>rfl) g⟩
theorem af1:∀(b:List FT) (n:Nat),List.Sublist (FT.bo (b.take n)) (FT.bo b):=by
 intro b
 induction b with
 |nil=>simp_all
 |cons f b c=>
  intro n;cases n with
  |zero=>simp [FT.bo]
  |succ n=>
   simp only [List.take_succ_cons,FT.bo];simp_all
def W7 (b:Option Nat) (cap:Nat) (c:List FT) (n:Nat):List.Sublist (FT.node b cap (c.take n)).af (FT.node b cap c).af:=by
 grind [FT.af,af1]
structure tu (F:Fr) (G:Nat->Gh) (s:St) (a:Act) (w:World) (κ:TV->TV) (t:Ty) (cs:List Value) (b:Nat->Gh) (e:St) (c:TV) (f:FT):Prop where
 rel:aC F b e a w
 ff:aZ (ay e.box b) w F.R c t f cs
 et:hz F b e w f
 jt:pB G s f
 eZ:iv G s b e
 Hx:∀d g,bF (ay s.box G) w F.R d g->bF (ay e.box b) w F.R (κ d) g
 cons:∀d t f cs,aZ (ay s.box G) w F.R d t f cs->aZ (ay e.box b) w F.R (κ d) t f cs
 vr:∀d y,VR (ay s.box G) w F.R d y->VR (ay e.box b) w F.R (κ d) y
 ei:ei cs
def tu.still {G:Nat->Gh} {s:St} (h:aC F G s a w) {t:Ty} {cs:List Value} {c:TV} {f:FT} (j:aZ (ay s.box G) w F.R c t f cs) (g:f.af=[]) (l:TM.ei cs):
 tu F G s a w id t cs G s c f:=
 ⟨h,j,.nil g,λb e=>(by rw [g] at e;cases e),.refl,λ_ _ d=>d,λ_ _ _ _ d=>d,λ_ _ d=>d,l⟩
def oH:∀(t:Ty) (v:TV) (G:Nat->Gh) (s:St) (cs:List Value) (k:St->TV->(TV->TV)->Option Z) (r:Z),aC F G s a w->bF (ay s.box G) w F.R v cs->cj s t v k=some r->
 ∃aa ao c f κ,k ao c κ=some r/\tu F G s a w κ t cs aa ao c f:=by
 intro t;have al:∀(t u:Ty) (x:u.ai) (G:Nat->Gh) (s:St) (cs:List Value) (k:St->TV->(TV->TV)->Option Z) (r:Z),aC F G s a w->bF (ay s.box G) w F.R (.ad u x) cs->(if decide (u=t) then k s (.ad u x) id else none)=some r->
  ∃aa ao c f κ,k ao c κ=some r/\tu F G s a w κ t cs aa ao c f:=by
  intro t u x G s cs k r h j g;split at g;rename_i e;have e:u=t:=fb e;exact ⟨G,s,_,.leaf,id,g,.still h ⟨e,rfl,j⟩ rfl (Rd.ei _ _ _ j)⟩;cases g
 induction t with
 |cons t u bb bc=>
  intro v G s cs k r h j g;cases v with
  |cons x d=>
   simp only [cj] at g;obtain ⟨aF,ak,rfl,aS,aT⟩:=j;obtain ⟨G1,s1,bm,a2,bk,aU,D⟩:=bb x G s aF _ r h aS g;obtain ⟨aE,s2,bl,aH,br,aV,C⟩:=bc (bk d) G1 s1 ak _ r D.rel (D.Hx d ak aT) aU;have a4:hz F aE s2 w a2:=D.et.eZ C.eZ;have aM:∀b∈aH.af,b∉a2.af:=D.et.c7 C.jt
   refine ⟨aE,s2,_,.eI a2 aH,_,aV,C.rel,⟨rfl,aF,ak,rfl,aZ.len _ _ _ _ D.ff,C.cons _ _ _ _ D.ff,C.ff⟩,⟨?_,?_,?_⟩,?_,D.eZ.trans C.eZ,λe aw an=>C.Hx _ _ (D.Hx e aw an),λe bg aQ aw an=>C.cons _ _ _ _ (D.cons e bg aQ aw an),λd y J=>C.vr _ _ (D.vr d y J),uz D.ei C.ei⟩;simp only [FT.af,cF];exact ⟨a4.b5,C.et.b5,λb l c aI e=>aM c aI (e▸l)⟩;intro b l;rcases bI.1 l with l|l
   exact a4.out b l;exact C.et.out b l;intro b l;rcases bI.1 l with l|l
   exact a4.bQ b l;exact C.et.bQ b l;intro b l;rcases bI.1 l with l|l
   exact D.jt b l;exact (pB.eZ D.eZ C.jt) b l
  |ad W x=>exact al _ W x G s cs k r h j (by simpa [cj] using g)
  |_=>simp [cj] at g
 |slice t _=>
  intro v G s cs k r h j g;cases v with
  |nil=>
   simp only [cj] at g;obtain rfl:=j;exact ⟨G,s,_,.node none 0 [],id,g,.still h ⟨rfl,none,0,[],rfl,rfl,cS _,by simp [eK],rfl,rfl⟩ rfl (mj rfl)⟩
  |ad W x=>exact al _ W x G s cs k r h j (by simpa [cj] using g)
  |sl b p=>
   simp only [cj] at g;split at g;rename_i J;refine ⟨G,s,.sl b p,.leaf,id,g,.still h ⟨rfl,rfl,rfl,j⟩ rfl ?_⟩;obtain ⟨aK,K,cap,U,a',_,rfl⟩:=j;exact mj rfl;rename_i J;unfold b6 at g;split at g;rename_i x O;have J:aN.dM p=false\/x.cm=true:=by
    grind [St.gp]
   obtain ⟨az,a6,a5⟩:=(h.box b x O).ff;obtain ⟨c',u,aR,a',aG,I,am,a0,a1⟩:=aZ.get x.c x.ty (G b).ft az ((G b).bj.map (·,0)) p _ r a6 (λq o e=>(a5 q o e).1) g;split at I;rename_i bh y;split at I;cases I;rename_i X;simp only [gx,il,py,hv,vc,jM] at X;obtain ⟨X,rfl⟩:=X;obtain ⟨ak,aa,aB,av,ah,ag,aj,rfl,au,ap⟩:=h.move O X J rfl rfl (by rw [fv O];exact am) a0 a1 I;obtain ⟨aK,K,cap,U,aL,ab,rfl⟩:=j;rw [fv O,am] at ab;simp only [bi,bK] at ab;obtain ⟨_,rfl,_⟩:=ab;have aW:aG=[.slice (K.map (⟨·,0,none⟩)) U.length cap]:=by
    obtain ⟨aO,aP,bd,aD,be,_,_,bf,_⟩:=aj;simp_all
   rw [aW] at aj;obtain ⟨aq,ar⟩:=Wl (w:=w) (R:=F.R) ag;exact ⟨aa,_,_,_,_,aB,av,⟨rfl,aj⟩,ah,ap,au,aq,ar,λd y J=>VR.ax ag (λ_ _=>rfl) J,mj rfl⟩;cases I;cases g
  |slw b p lo n=>
   simp only [cj] at g;split at g;cases g;rename_i aJ;simp only [gx,hv,jM,Bool.not_eq_false'] at aJ;obtain ⟨J,a8⟩:=aJ;have a8:lo=0:=ga (by simpa using a8);subst a8;unfold b6 at g;split at g;rename_i x O;obtain ⟨az,a6,a5⟩:=(h.box b x O).ff;obtain ⟨c',u,aR,a',aG,I,am,a0,a1⟩:=aZ.get x.c x.ty (G b).ft az ((G b).bj.map (·,0)) p _ r a6 (λq o e=>(a5 q o e).1) g;split at I;rename_i bh y;split at I;cases I;rename_i X;have X:x.dI=false:=by simpa using X
   split at I;rename_i z aY;obtain ⟨an,aA⟩:=eP aY;subst an;have aA:y=z:=aA;subst aA;obtain ⟨ak,aa,aB,av,ah,ag,aj,rfl,au,ap⟩:=h.move O X (.inl J) rfl rfl (by rw [fv O];exact am) a0 a1 I;obtain ⟨aK,K,cap,U,aL,ab,bn,a3,ae,rfl,⟨aI,ba⟩,_⟩:=j;rw [fv O,am] at ab;simp only [bi,bK] at ab;obtain ⟨_,rfl,_⟩:=ab;obtain ⟨rfl,rfl⟩:=ba rfl;obtain ⟨aO,aP,bd,aD,be,bf,bo,bp,bq⟩:=aj;simp only [FT.node.injEq] at aD;obtain ⟨rfl,rfl,rfl⟩:=aD;have a9:∀q∈(FT.node K ae (U.take n)).af,q∈(FT.node K ae U).af:=λq ac=>(W7 K ae U n).subset ac
   have a7:List.length (α:=t.ai) (List.take (α:=t.ai) n y)=n:=by
    grind
   obtain ⟨aq,ar⟩:=Wl (w:=w) (R:=F.R) ag;refine ⟨aa,_,_,.node K ae (U.take n),_,aB,av,⟨rfl,K,ae,U.take n,rfl,?_,?_,?_,?_,?_⟩,⟨?_,λq ac=>ah.out q (a9 q ac),λq ac=>ah.bQ q (a9 q ac)⟩,λq ac=>ap q (a9 q ac),au,aq,ar,λd y J=>VR.ax ag (λ_ _=>rfl) J,mj rfl⟩;rw [a7];rw [a7];omega;rw [a7];omega;simp_all
   grind
   have aX:=ah.b5;exact List.Nodup.sublist (W7 K ae U n) aX;cases I;cases I;cases g
  |_=>simp [cj] at g
 |unit=>
  intro v G s cs k r h j g;cases v with
  |unit=>exact ⟨G,s,.unit,.leaf,id,by simpa [cj] using g,.still h ⟨rfl,rfl,j⟩ rfl (by rw [show cs=[] from j];intro v j;cases j)⟩
  |ad W x=>exact al _ W x G s cs k r h j (by simpa [cj] using g)
  |_=>simp [cj] at g
 |bz=>
  intro v G s cs k r h j g;cases v with
  |ad W x=>exact al _ W x G s cs k r h j (by simpa [cj] using g)
  |ref b p=>
   refine ⟨G,s,.ref b p,.leaf,id,by simpa [cj] using g,.still h ⟨rfl,rfl,rfl,j⟩ rfl ?_⟩;obtain ⟨_,_,_,_,_,rfl⟩:=j;exact mj rfl
  |bt u x=>
   refine ⟨G,s,.bt u x,.leaf,id,by simpa [cj] using g,.still h ⟨rfl,rfl,rfl,j⟩ rfl ?_⟩;obtain ⟨_,_,_,rfl,_⟩:=j;exact mj rfl
  |bU f c=>
   refine ⟨G,s,.bU f c,.leaf,id,by simpa [cj] using g,.still h ⟨rfl,rfl,rfl,j⟩ rfl ?_⟩;obtain ⟨_,_,rfl⟩:=j;exact mj rfl
  |mp b=>
   refine ⟨G,s,.mp b,.leaf,id,by simpa [cj] using g,.still h ⟨rfl,rfl,rfl,j⟩ rfl ?_⟩;obtain ⟨_,_,_,_,_,_,rfl⟩:=j;exact mj rfl
  |_=>simp [cj] at g
 |_=>
  intro v G s cs k r h j g;cases v with
  |ad W x=>exact al _ W x G s cs k r h j (by simpa [cj] using g)
  |_=>simp [cj] at g
end
theorem Yt (w:World) (b o:Nat) (v:Value) (c:Nat):(w.setCell ⟨b,o,none⟩ v).heap[c]?=if b=c then (w.heap[c]?).map (λx=>match x with
 | .cells cs elem fz=>.cells (cs.setIfInBounds o v) elem fz
 |x=>x) else w.heap[c]?:=by
 simp only [World.setCell,Array.getElem?_modify]
 grind
theorem Og (b:Nat):∀(vs:List Value) (o:Nat) (w:World),(w.setCells b o vs).heap.size=w.heap.size
 |[],_,_=>rfl
 |v::r,o,w=>by rw [World.setCells,Og b r (o+1)];simp
theorem Oc (b:Nat):∀(vs:List Value) (o:Nat) (w:World),(w.setCells b o vs).os=w.os
 |[],_,_=>rfl
 |v::vs,o,w=>by
  show ((w.setCell ⟨b,o,none⟩ v).setCells b (o+1) vs).os=w.os;rw [Oc b vs (o+1)];rfl
theorem Oe (b:Nat):∀(vs:List Value) (o:Nat) (w:World),(w.setCells b o vs).output=w.output
 |[],_,_=>rfl
 |v::vs,o,w=>by
  show ((w.setCell ⟨b,o,none⟩ v).setCells b (o+1) vs).output=w.output;rw [Oe b vs (o+1)];rfl
theorem Od (b:Nat):∀(vs:List Value) (o:Nat) (w:World) (c:Nat),c≠b->(w.setCells b o vs).heap[c]?=w.heap[c]?
 |[],_,_,_,_=>rfl
 |v::r,o,w,c,h=>by rw [World.setCells,Od b r (o+1) _ c h,Yt,av (Ne.symm h)]
def Of (b:Nat):∀(vs:List Value) (o:Nat) (w:World) (row:Array Value) (e:TypeId) (fz:Nat×Nat),w.heap[b]?=some (.cells row e fz)->o+vs.length<=row.size->
 ∃c,(w.setCells b o vs).heap[b]?=some (.cells c e fz)/\c.toList=row.toList.take o++vs++row.toList.drop (o+vs.length)
 |[],o,w,row,e,fz,h,d=>⟨row,h,by simp⟩
 |v::r,o,w,row,e,fz,h,d=>by
  have f:(w.setCell ⟨b,o,none⟩ v).heap[b]?=some (.cells (row.setIfInBounds o v) e fz):=by
   rw [Yt,aE rfl,h];rfl
  have q:o+(r.length+1)<=row.toList.length:=by simpa using d
  have u:o+(r.length+1)<=row.size:=by simpa using d
  obtain ⟨c,g,j⟩:=Of b r (o+1) _ _ e fz f (by simp;omega);refine ⟨c,g,?_⟩;rw [j];simp only [Array.toList_setIfInBounds,jh];have l:o<row.toList.length:=by omega
  rw [List.take_set,List.drop_set];rw [aE (by omega)];have x:(row.toList.take (o+1)).set o v=row.toList.take o++[v]:=by
   rw [List.take_succ_eq_append_getElem l];have n:(row.toList.take o).length=o:=by grind
   simp_all
  grind
def arD {w:World} {b o n:Nat} {row:Array Value} {e:TypeId} {cs:List Value} (h:w.heap[b]?=some (.cells row e (0,0))) (c:o+n<=row.size) (g:cs.length=n):
 Wr w (w.setCells b o cs) b o n cs:=by
 subst g;obtain ⟨j,d,f⟩:=Of b cs o w row e (0,0) h c;exact ⟨rfl,row,j,e,(0,0),h,d,c,f⟩
def apK {w:World} {b o n:Nat} {row:Array Value} {e:TypeId} (h:w.heap[b]?=some (.cells row e (0,0))) (d:o+n<=row.size):w.there b o n:=by
 intro j c
 grind [World.cell?,World.frozen?]
theorem X7 {w:World} {b o n:Nat} {cs:List Value} (h:At w b o n cs):w.rangeAt b o cs:=by
 intro j v f;obtain ⟨row,e,fz,c,d,rfl⟩:=h
 grind [World.cell?]
theorem bd.qK {w:World}:∀(t:Ty) (x:t.ai) (ft:FT) (cs:List Value) (a:Option (Nat×Nat)) (p:aN) {u:Ty} {v:FT} {j off:Nat},
 bd w t x ft cs->(∀b o,a=some (b,o)->lP w b o t.size)->ak t ft a p=some (u,v,some (j,off))->lP w j off u.size:=by
 intro t;have am:∀(t:Ty) (ft:FT) (a:Option (Nat×Nat)) {u:Ty} {v:FT} {j off:Nat},(∀b o,a=some (b,o)->lP w b o t.size)->ak t ft a []=some (u,v,some (j,off))->lP w j off u.size:=by
  grind [ak]
 induction t with
 |cons t r K aa=>
  intro x ft cs a p u v j off h z g
  match p,g with
  |[],g=>grind
  | .i n::p,g=>simp [ak] at g
  | .f 0::p,g=>
   obtain ⟨_,O,U,rfl,D,I⟩:=h;exact K x.1 _ O a p D (λb o e=>let ⟨row,y,l,C⟩:=z b o e;⟨row,y,l,by simp only [Ty.size] at C;omega⟩) g
  | .f (n+1)::p,g=>
   obtain ⟨_,O,U,rfl,D,I⟩:=h;refine aa x.2 _ U (a.map λ(x:Nat×Nat)=>(x.1,x.2+t.size)) (.f n::p) I (λb o e=>?_) (by simpa only [ak] using g);cases a with
   |none=>cases e
   |some a=>
    simp only [dy,bi,bK] at e;obtain ⟨rfl,rfl⟩:=e;obtain ⟨row,y,l,C⟩:=z _ _ rfl;exact ⟨row,y,l,by simp only [Ty.size] at C;omega⟩
 |slice t K=>
  intro x ft cs a p u v j off h z g
  match p,g with
  |[],g=>grind
  | .f n::p,g=>simp [ak] at g
  | .i n::p,g=>
   obtain ⟨b,cap,al,rfl,rfl,D,I,ae,h4⟩:=h;cases b with
   |none=>simp [ak] at g
   |some b=>
    simp only [ak] at g;split at g;rename_i kn hk;have J:n<List.length (α:=t.ai) x:=by grind
    have X:(show List t.ai from x)[n]?=some ((show List t.ai from x)[n]'J):=a6 J;obtain ⟨c,ag,W⟩:=h4.2 n _ kn X hk;refine K _ kn c (some (b,n*t.size)) p W (λac an e=>?_) g;simp only [bi,bK] at e;obtain ⟨rfl,rfl⟩:=e;obtain ⟨⟨row,e,l,C⟩,_⟩:=h4;refine ⟨row,e,l,?_⟩;have:=jQ t.size (Nat.le_trans (vl J) D)
    grind
    cases g
 |arr m t _=>
  intro x ft cs a p u v j off h z g
  match p,g with
  |[],g=>grind
  | .f n::p,g=>simp [ak] at g
  | .i n::q::p,g=>simp [ak] at g
  |[.i n],g=>
   obtain ⟨_,ab⟩:=fO _ _ _ _ g;rcases ab with ⟨ad,ao,e0,aj,_⟩|⟨d,e0,ah⟩
   have af:=h.2.2.1;simp_all;cases a with
   |none=>cases e0
   |some a=>
    simp only [dy,bi,bK] at e0;obtain ⟨rfl,rfl⟩:=e0;obtain ⟨row,y,l,C⟩:=z _ _ rfl;exact ⟨row,y,l,by omega⟩
 |_=>
  grind [ak]
theorem aZ.qK {A:b0} {w:World} {R:Nat->Prop}:∀(c:TV) (t:Ty) (ft:FT) (cs:List Value) (a:Option (Nat×Nat)) (p:aN) {u:Ty} {z:FT} {l off:Nat},
 aZ A w R c t ft cs->(∀b o,a=some (b,o)->lP w b o t.size)->ak t ft a p=some (u,z,some (l,off))->lP w l off u.size:=by
 have nb:∀(t:Ty) (ft:FT) (a:Option (Nat×Nat)) (p:aN) {u:Ty} {z:FT} {l off:Nat},ft.af=[]->(∀b o,a=some (b,o)->lP w b o t.size)->ak t ft a p=some (u,z,some (l,off))->lP w l off u.size:=by
  intro t ft a p u z l off ac j g;obtain ⟨_,aw⟩:=fO _ _ _ _ g;rcases aw with ⟨C,K,e0,J,_⟩|⟨d,e0,a1⟩
  rw [ac] at J;cases J;cases a with
  |none=>cases e0
  |some a=>
   simp only [dy,bi,bK] at e0;obtain ⟨rfl,rfl⟩:=e0;obtain ⟨row,D,O,U⟩:=j _ _ rfl;exact ⟨row,D,O,by omega⟩
 intro c
 induction c with
 |ab u x=>intro t ft cs a p u z l off h j g;obtain ⟨rfl,h⟩:=h;exact bd.qK _ _ _ _ _ _ h j g
 |cons c d ar au=>
  intro t ft cs a p u z l off h j g;cases t<;>try exact h.elim
  rename_i t r;obtain ⟨_,ah,ai,rfl,a2,I,ae⟩:=h
  match p,g with
  |[],g=>
   grind [ak]
  | .i n::p,g=>simp [ak] at g
  | .f 0::p,g=>exact ar _ _ ah a p I (λb o e=>let ⟨row,D,O,U⟩:=j b o e;⟨row,D,O,by simp only [Ty.size] at U;omega⟩) g
  | .f (n+1)::p,g=>
   refine au _ _ ai (a.map λ(x:Nat×Nat)=>(x.1,x.2+t.size)) (.f n::p) ae (λb o e=>?_) (by simpa only [ak] using g);cases a with
   |none=>cases e
   |some a=>
    simp only [dy,bi,bK] at e;obtain ⟨rfl,rfl⟩:=e;obtain ⟨row,D,O,U⟩:=j _ _ rfl;exact ⟨row,D,O,by simp only [Ty.size] at U;omega⟩
 |ad v y=>intro t ft cs a p u z l off h j g;exact nb _ _ _ _ h.2.1 j g
 |unit=>intro t ft cs a p u z l off h j g;exact nb _ _ _ _ h.2.1 j g
 |un=>intro t ft cs a p u z l off h j g;exact nb _ _ _ _ h.1 j g
 |tup c _=>
  intro t ft cs a p u z l off h j g;cases t<;>try exact h.elim
  rename_i t;rcases fK.out h with ⟨xs,aa,rfl,b,cap,av,rfl,rfl,I,ae,al,h4,h5⟩|⟨_,rfl,I⟩|⟨_,rfl,b,cap,av,rfl,ac,_,I,_,al,⟨row,e,W,X⟩,_⟩
  rotate_left;obtain ⟨ay,az,rfl,_⟩:=I.out
  match p,g with
  |[],g=>
   grind [ak]
  | .f n::p,g=>simp [ak] at g
  | .i n::p,g=>simp [ak] at g
  match p,g with
  |[],g=>
   grind [ak]
  | .f n::p,g=>simp [ak] at g
  | .i n::p,g=>
   simp only [ak] at g;split at g;rename_i kn hk;have an:kn.af=[]:=zB.2 λax am=>by
    have:=eY (cw hk) am;simp_all
   have ao:=(b4.1 hk).1;refine nb _ _ _ _ an (λC K e0=>?_) g;simp only [bi,bK] at e0;obtain ⟨rfl,rfl⟩:=e0;refine ⟨row,e,W,?_⟩;rw [<-X];have:=jQ t.size (show n+1<=cap by omega)
   grind
   cases g
  match p,g with
  |[],g=>
   grind [ak]
  | .f n::p,g=>simp [ak] at g
  | .i n::p,g=>
   cases b with
   |none=>simp [ak] at g
   |some b=>
    simp only [ak] at g;split at g;rename_i kn hk;have ao:=(b4.1 hk).1;obtain ⟨⟨row,e,W,X⟩,aj⟩:=h5;obtain ⟨q,a0,aq,ap⟩:=aj n _ kn _ (a6 (show n<xs.length by omega)) hk (a6 (show n<aa.length by omega));have J:∀C K,some (b,n*t.size)=some (C,K)->lP w C K t.size:=λC K e0=>by
     simp only [bi,bK] at e0;obtain ⟨rfl,rfl⟩:=e0;refine ⟨row,e,W,?_⟩;rw [<-X];have:=jQ t.size (show n+1<=cap by omega)
     grind
    cases ag:aa[n]'(by omega);exact bd.qK _ _ _ _ _ _ (aq ag) J g;exact nb _ _ _ _ (ee.nil _ _ _ _ (ap ag)) J g;cases g
 |nil=>intro t ft cs a p u z l off h j g;exact nb _ _ _ _ h.2.2.1 j g
 |ref _ _=>intro t ft cs a p u z l off h j g;exact nb _ _ _ _ h.2.2.1 j g
 |sl _ _=>intro t ft cs a p u z l off h j g;exact nb _ _ _ _ h.2.2.1 j g
 |slw _ _ _ _=>intro t ft cs a p u z l off h j g;exact nb _ _ _ _ h.2.2.1 j g
 |bt _ _=>intro t ft cs a p u z l off h j g;exact nb _ _ _ _ h.2.2.1 j g
 |bU _ _ _=>intro t ft cs a p u z l off h j g;exact nb _ _ _ _ h.2.2.1 j g
 |mp _=>intro t ft cs a p u z l off h j g;exact nb _ _ _ _ h.2.2.1 j g
section
variable {Z:Type} {F:Fr} {G:Nat->Gh} {s:St} {a:Act} {w:World}
def E2 {i:Nat} {x:bm} (b:s.box i=some x) (c:TV) (j:Nat):
 (s.b2 i {x with c:=c}).box j=if j=i then some (x.with c) else (s.box j).map λy=>y.with y.c:=by
 rw [kq s i _ x b];by_cases e:j=i;subst e;simp [bm.with];simp only [Ne.symm e,dA,e];cases s.box j<;>rfl
theorem aC.qK (h:aC F G s a w) {b:Nat} {p:aN} {u:Ty} {j:FT} {d off:Nat} (c:ay s.box G b p=some (u,j,some (d,off))):lP w d off u.size:=by
 unfold ay at c;split at c;rename_i x r;have n:=h.box b x r;obtain ⟨z,q,o⟩:=n.ff;refine aZ.qK _ _ _ _ _ _ q (λf v e=>?_) c;obtain ⟨l,row,g,y,C,rfl⟩:=o f v e;exact ⟨row,g,y,by have:=l.len;grind⟩;cases c
def aC.aa1 (h:aC F G s a w) {b:Nat} {p:aN} {x:bm} (O:s.box b=some x) {u:Ty} {K f:FT} {l off:Nat} {cs:List Value} {c:TV}
 (ai:ay s.box G b p=some (u,K,some (l,off))) (z:aZ (ay s.box G) w F.R c u f cs) (ad:hz F G s w f)
 (kl:TV->TV) (s2:St) (c':TV)
 (aY:∀n,s2.get n=kl (s.get n)) (be:∀i n,s2.fW i n=kl (s.fW i n)) (ba:s2.sv.length=s.sv.length) (al:∀j,s2.box j=if j=b then some (x.with (kl c')) else (s.box j).map λy=>y.with (kl y.c))
 (aJ:∀(A':b0) (w':World),(A'=ay s2.box (λj=>if j=b then ⟨(G b).bj,bA x.ty (G b).ft p f⟩ else G j))->(∀b,F.R b->w'.heap[b]?=w.heap[b]?)->∀v y,VR (ay s.box G) w F.R v y->VR A' w' F.R (kl v) y)
 (aj:∀(A':b0) (w':World),(A'=ay s2.box (λj=>if j=b then ⟨(G b).bj,bA x.ty (G b).ft p f⟩ else G j))->(∀b,F.R b->w'.heap[b]?=w.heap[b]?)->
  ∀c t ft cs,(∀b∈ft.af,w'.heap[b]?=w.heap[b]?)->aZ (ay s.box G) w F.R c t ft cs->aZ A' w' F.R (kl c) t ft cs)
 (aI:∀{Y:Type} (k':TV->Option Y),b7 (kl x.c) p (kl c) k'=k' (kl c')):
 aC F (λj=>if j=b then ⟨(G b).bj,bA x.ty (G b).ft p f⟩ else G j) s2 a (w.setCells l off cs):=by
 have C:ak x.ty (G b).ft ((G b).bj.map (·,0)) p=some (u,K,some (l,off)):=by rw [<-fv O];exact ai
 obtain ⟨s1,aD⟩:=fO _ _ _ _ C;have a6:=h.b5 b x O;have br:=h.bQ b x O;simp only [Gh.af,cF] at a6;obtain ⟨bs,aA,bt⟩:=a6;obtain ⟨a2,aV,aQ⟩:=(h.box b x O).ff;have an:l∈(G b).af:=by
  simp only [Gh.af,bI];rcases aD with ⟨az,bh,e0,I,_⟩|⟨d,e0,_⟩
  simp_all;cases al:(G b).bj with
  |none=>rw [al] at e0;cases e0
  |some az=>simp_all
 obtain ⟨row,e,bk,bl⟩:=h.qK ai;have bb:=aZ.len _ _ _ _ z;have a4:Wr w (w.setCells l off cs) l off u.size cs:=arD bk bl bb;have W:∀c,c≠l->(w.setCells l off cs).heap[c]?=w.heap[c]?:=λc z=>Od l cs off w c z
 have ae:∀c,F.R c->(w.setCells l off cs).heap[c]?=w.heap[c]?:=λc z=>W c (λe=>h.ro O z (e▸an))
 have bc:l∉f.af:=λI=>ad.out l I b x O an
 have a7:(w.setCells l off cs).heap.size=w.heap.size:=Og _ _ _ _;have bd:l∉K.af:=by
  rcases aD with ⟨az,bh,e0,I,_⟩|⟨d,e0,_⟩
  simp only [bi,bK] at e0;obtain ⟨rfl,rfl⟩:=e0;have:∀(t:Ty) (ft:FT) (a:Option (Nat×Nat)) (p:aN) {u:Ty} {K:FT} {l off:Nat},ak t ft a p=some (u,K,some (l,off))->ft.af.Nodup->(∀b o,a=some (b,o)->b∉ft.af)->l∉K.af:=by
   intro t
   induction t with
   |cons t r aq bf=>
    intro ft a p u K l off g D ah;have h4:ft.fst.af.Nodup/\ft.snd.af.Nodup:=by
     cases ft with
     |eI a d=>simp only [FT.af,cF] at D;exact ⟨D.1,D.2.1⟩
     |_=>simp [FT.fst,FT.snd,FT.af]
    match p,g with
    |[],g=>grind [ak]
    | .f 0::p,g=>exact aq _ _ _ g h4.1 (λb o e I=>ah b o e (i3 I))
    | .f (n+1)::p,g=>
     refine bf _ _ _ g h4.2 (λb o e I=>?_);cases a with
     |none=>cases e
     |some a=>grind [jd]
    | .i n::p,g=>simp [ak] at g
   |slice t aq=>
    intro ft a p u K l off g D ah
    match p,g with
    |[],g=>grind [ak]
    | .f n::p,g=>simp [ak] at g
    | .i n::p,g=>
     match ft,g,D with
     | .leaf,g,_=>simp [ak] at g
     | .eI _ _,g,_=>simp [ak] at g
     | .node none _ _,g,_=>simp [ak] at g
     | .node (some b) cap bg,g,D=>
      simp only [ak] at g;split at g;rename_i kn hk;simp only [FT.af,hU,ht,jP] at D;refine aq _ _ _ g (qo hk D.2).1 (λaa au e I=>?_);simp only [bi,bK] at e;obtain ⟨rfl,rfl⟩:=e;exact D.1 (eY (cw hk) I);cases g
   |arr m t _=>
    intro ft a p u K l off g D ah
    match p,g with
    |[],g=>grind [ak]
    | .f n::p,g=>simp [ak] at g
    | .i n::q::p,g=>simp [ak] at g
    |[.i n],g=>
     grind [ak,FT.af]
   |_=>
    grind [ak]
  exact this _ _ _ _ C aA (λaa au e I=>by
   cases am:(G b).bj with
   |none=>rw [am] at e;cases e
   |some a0=>grind)
  cases am:(G b).bj with
  |none=>simp_all
  |some a0=>
   grind
 let ax:Nat->Gh:=λj=>if j=b then ⟨(G b).bj,bA x.ty (G b).ft p f⟩ else G j
 have aW:aZ (ay s2.box ax) w F.R (kl x.c) x.ty (G b).ft a2:=aj _ w rfl (λ_ _=>rfl) _ _ _ _ (λ_ _=>rfl) aV;have aT:aZ (ay s2.box ax) (w.setCells l off cs) F.R (kl c) u f cs:=aj _ _ rfl ae _ _ _ _ (λc z=>W c (λe=>bc (e▸z))) z;obtain ⟨bn,aF,aG,ag,bp,aH⟩:=aZ.set a4 aT (kl x.c) x.ty (G b).ft a2 ((G b).bj.map (·,0)) p (λc=>some c) (kl c') aW
  (λaa au a3=>by
   obtain ⟨aL,_⟩:=aQ aa au a3;refine ⟨aL,λI=>?_,λap=>W aa ap⟩;cases am:(G b).bj with
   |none=>simp_all
   |some a0=>grind)
  aA C (aI _) ⟨λc _ _ ap=>W c ap,bd,ae⟩
 obtain rfl:=b3 aG;refine h.core O ai kl rfl aY be ba al (λv y U=>aJ _ _ rfl ae v y U) (λc t ft cs aK aU=>aj _ _ rfl ae c t ft cs aK aU) ?_ ⟨Nat.le_of_eq a7.symm,Oc _ _ _ _,Oe _ _ _ _⟩ (λc _ z=>W c (λe=>z (e▸an))) ad.b5 (λc z=>.inr (ad.out c z)) (λc z=>by rw [a7];exact ad.bQ c z) (λ_ U=>by
  have J:=h.box b x O;unfold dB at J;rw [aE U] at J;obtain ⟨aS,⟨bu,a8⟩,_⟩:=J;rw [aS,a8] at C;rw [a8];cases p with
  |nil=>simp [ak] at C
  |cons q p=>
   cases q with
   |f n=>simp [ak] at C
   |i n=>
    cases ao:(G b).ft with
    |leaf=>rw [ao] at C;simp [ak] at C
    |eI _ _=>rw [ao] at C;simp [ak] at C
    |node a1 cap bg=>
     cases a1 with
     |none=>rw [ao] at C;simp [ak] at C
     |some a1=>
      simp only [bA];split<;>simp [FT.dD])
 unfold dB;have J:=h.box b x O;unfold dB at J;by_cases U:x.cm=true;rw [aE (show (x.with (kl c')).cm=true from U)];rw [aE U] at J;exact ⟨by simpa using J.1,J.2.1,aF,by simp only [cN];exact ag⟩;rw [av (show ¬(x.with (kl c')).cm=true from U)];rw [av U] at J;obtain ⟨ab,aB,e0,a5,aO,aP,bq⟩:=J;have aM:=aH ab 0 (by rw [a5];rfl);obtain ⟨nA,a3,bo,aw,w2,rfl⟩:=aM;have aX:∃X ac,(w.setCells l off cs).heap[ab]?=some (.cells X ac (0,0))/\X.size=aB.size:=by
  by_cases aR:ab=l;subst aR;obtain ⟨X,ac,ar,a9⟩:=a4.bD ⟨aB,e0,aO,rfl⟩
  grind
  grind
 obtain ⟨X,ac,ar,a9⟩:=aX;rw [ar] at aw;simp only [bi,Obj.cells.injEq] at aw;obtain ⟨rfl,rfl,rfl⟩:=aw;refine ⟨ab,X,ac,by simp [a5],ar,by rw [a9];exact aP,?_⟩;simp only [cN];rw [ve,List.take_of_length_le (by simp;omega)] at ag;exact ag
end
def eV:Ty->List Value
 | .int k=>[.int k 0]
 | .bool=>[.bool false]
 | .bR=>[.string ⟨#[]⟩]
 | .bz=>[.pointer none]
 | .slice _=>[.slice none 0 0]
 | .unit=>[]
 | .cons t r=>eV t++eV r
 | .arr n t=>(List.replicate n (eV t)).flatten
def L8:Value->Value->Bool
 | .int k n,.int k' d=>decide (k=k')&&decide (n=d)
 | .bool b,.bool c=>b==c
 | .string s,.string e=>decide (s.data.toList=e.data.toList)
 | .slice none 0 0,.slice none 0 0=>true
 |_,_=>false
def tO:List Value->List Value->Bool
 |[],[]=>true
 |a::l,b::r=>L8 a b&&tO l r
 |_,_=>false
theorem agd:∀{a b:Value},L8 a b=true->a=b:=by
 intro a b h;unfold L8 at h;split at h;simp_all;simp at h;rw [h];rename_i s c;have:s.data.toList=c.data.toList:=by simpa using h
 obtain ⟨⟨l⟩⟩:=s;simp_all;rfl;cases h
theorem Vm:∀{a b:List Value},tO a b=true->a=b
 |[],[],_=>rfl
 |a::l,b::r,h=>by
  simp only [tO,bE] at h;rw [agd h.1,Vm h.2]
 |[],_::_,h=>by simp [tO] at h
 |_::_,[],h=>by simp [tO] at h
def FH:Value->Bool
 | .agg _=>true
 |_=>false
def kv (P:Program) (T:Ty) (t:TypeId):Bool:=
 match P.info? t with
 |some i=>i.size==T.size&&decide (i.bytes<=4096/\(T.size=0\/1<=i.bytes))&&(!T.fE||(match i.zero with
  |some z=>tO z.cells.toList (eV T)&&(FH z==T.agg)
  |none=>false))&&(!decide (T=.bz)||(match i.zero with
  |some z=>z.cells.toList.length==1
  |none=>false))
 |none=>false
mutual
def dL (P:Program):Ty->TypeId->Bool
 | .int k,t=>kv P (.int k) t&&(match P.underlying t with
  |some (.int k')=>decide (k=k')
  |_=>false)
 | .bool,t=>kv P .bool t&&(match P.underlying t with
  |some .bool=>true
  |_=>false)
 | .bR,t=>kv P .bR t&&(match P.underlying t with
  |some .string=>true
  |_=>false)
 | .bz,t=>kv P .bz t&&(match P.underlying t with
  |some (.pointer _)=>true
  |some (.func _ _ _)=>true
  |some (.map _ _)=>true
  |_=>false)
 | .slice T,t=>kv P (.slice T) t&&(match P.underlying t with
  |some (.slice e)=>dL P T e
  |_=>false)
 | .unit,t=>kv P .unit t&&(match P.underlying t with
  |some (.struct b)=>b.toList.isEmpty
  |_=>false)
 | .cons a r,t=>kv P (.cons a r) t&& !P.stoodInHeld t&& !P.eqGuardType P.depth t&&(match P.underlying t with
  |some (.struct b)=>match b.toList with
   |f::l=>f.offset==0&& !(a.size==0)&&(f.name != "_")&&dL P a f.type&&cQ P r l a.size
   |[]=>false
  |_=>false)
 | .arr n T,t=>kv P (.arr n T) t&&T.aY&&(match P.underlying t with
  |some (.array m e)=>m==n&&dL P T e
  |_=>false)
def cQ (P:Program):Ty->List Field->Nat->Bool
 | .unit,[],_=>true
 | .cons a r,f::l,o=>f.offset==o&& !(a.size==0)&&(f.name != "_")&&dL P a f.type&&cQ P r l (o+a.size)
 |_,_,_=>false
end
abbrev bC (P:Program) (T:Ty) (t:TypeId):Prop:=dL P T t=true
def bC.head {P:Program} {T:Ty} {t:TypeId} (h:bC P T t):kv P T t=true:=by
 unfold bC at h;cases T<;>simp only [dL,bE] at h
 case cons=>exact h.1.1.1
 case arr=>exact h.1.1
 all_goals exact h.1
theorem bC.gX {P:Program} {T:Ty} {t:TypeId} (h:bC P T t):∃i,P.info? t=some i/\i.size=T.size/\i.bytes<=4096/\
 (T.fE=true->∃z,i.zero=some z/\z.cells.toList=eV T/\FH z=T.agg):=by
 have:=h.head;unfold kv at this;split at this;rename_i i hi;simp only [bE,jR,nT,gx,il] at this;obtain ⟨⟨⟨c,d⟩,b⟩,_⟩:=this;refine ⟨i,hi,c,d.1,λe=>?_⟩;rcases b with b|b
 rw [e] at b;cases b;split at b;rename_i z f;simp only [bE,jR] at b;exact ⟨z,f,Vm b.1,b.2⟩;cases b;cases this
theorem bC.bytes {P:Program} {T:Ty} {t:TypeId} (h:bC P T t) (b:T.size≠0):∃i,P.info? t=some i/\i.size=T.size/\1<=i.bytes:=by
 have:=h.head;unfold kv at this
 grind
theorem bC.bz {P:Program} {t:TypeId} (h:bC P .bz t):∃i z,P.info? t=some i/\i.zero=some z/\z.cells.toList.length=1:=by
 have:=h.head;unfold kv at this;split at this;rename_i i hi;simp only [bE] at this;obtain ⟨_,b⟩:=this;simp only [decide_true,Bool.not_true,lA] at b;split at b;simp_all;cases b;cases this
theorem bC.slice {P:Program} {T:Ty} {t:TypeId} (h:bC P (.slice T) t):∃e,P.underlying t=some (.slice e)/\bC P T e:=by
 unfold bC at h;simp only [dL,bE] at h
 grind
theorem bC.arr {P:Program} {n:Nat} {T:Ty} {t:TypeId} (h:bC P (.arr n T) t):∃e,P.underlying t=some (.array n e)/\bC P T e/\T.aY=true:=by
 unfold bC at h;simp only [dL,bE] at h
 grind
def ew:Ty->Nat->Nat
 | .cons t r,n+1=>t.size+ew r n
 |_,_=>0
def ahc {P:Program}:∀(T:Ty) (l:List Field) (o n:Nat) (u:Ty),cQ P T l o=true->cE T [.f n]=some u->
 ∃f,l[n]?=some f/\f.offset=o+ew T n/\u.size≠0/\bC P u f.type:=by
 intro T
 induction T with
 |cons a r _ y=>
  intro l o n u h b;cases l with
  |nil=>simp [cQ] at h
  |cons f l=>
   simp only [cQ,bE,jR,il,nS] at h;obtain ⟨⟨⟨⟨q,v⟩,_⟩,x⟩,h4⟩:=h;cases n with
   |zero=>
    simp only [cE,bi] at b;have b:a=u:=by omega
    subst b;exact ⟨f,rfl,by simp [ew,q],v,x⟩
   |succ n=>
    obtain ⟨g,c,d,e,j⟩:=y l _ n u h4 (by simpa [cE] using b);exact ⟨g,by simpa using c,by simp [ew,d];omega,e,j⟩
 |_=>intro l o n u h b;simp [cE] at b
theorem bC.struct {P:Program} {T:Ty} {t:TypeId} (h:bC P T t) {n:Nat} {u:Ty} (c:cE T [.f n]=some u):
 ∃b f,P.underlying t=some (.struct b)/\b[n]?=some f/\f.offset=ew T n/\u.size≠0/\bC P u f.type:=by
 cases T with
 |cons a r=>
  unfold bC at h;simp only [dL,bE] at h;obtain ⟨_,h⟩:=h;split at h;rename_i b d;split at h;rename_i f l e;simp only [bE,jR,il,nS] at h;obtain ⟨⟨⟨⟨x,y⟩,_⟩,z⟩,h4⟩:=h;cases n with
  |zero=>
   have c:a=u:=by cases a<;>simpa [cE] using c
   subst c;exact ⟨b,f,d,by rw [<-rc,e];rfl,by simp [ew,x],y,z⟩
  |succ n=>
   obtain ⟨g,j,o,q,v⟩:=ahc r l _ n u h4 (by simpa [cE] using c);exact ⟨b,g,d,by rw [<-rc,e];simpa using j,by simp [ew,o],q,v⟩
  cases h;cases h
 |_=>simp [cE] at c
theorem bC.row {P:Program} {T:Ty} {t:TypeId} (h:bC P T t):∃d,P.underlying t=some d/\d.isRow=T.agg:=by
 unfold bC at h;cases T<;>simp only [dL,bE] at h<;>obtain ⟨_,h⟩:=h<;>(split at h<;>first|exact ⟨_,by assumption,rfl⟩|cases h)
theorem afu:∀(t:Ty) (ft:FT) (a:Option (Nat×Nat)) (p q:aN) {u:Ty} {f:FT} {a':Option (Nat×Nat)},ak t ft a p=some (u,f,a')->ak t ft a (p++q)=ak u f a' q:=by
 intro t
 induction t with
 |cons t r d j=>
  intro ft a p q u f a' h
  match p,h with
  |[],h=>simp only [ak,bi,bK] at h;simp_all
  | .f 0::p,h=>simp only [ak] at h;simp only [kL,ak];exact d _ _ _ _ h
  | .f (n+1)::p,h=>simp only [ak] at h;simp only [kL,ak];grind
  | .i n::p,h=>simp [ak] at h
 |slice t d=>
  intro ft a p q u f a' h
  match p,h with
  |[],h=>simp only [ak,bi,bK] at h;simp_all
  | .f n::p,h=>simp [ak] at h
  | .i n::p,h=>
   cases ft with
   |leaf=>simp [ak] at h
   |eI _ _=>simp [ak] at h
   |node ob cap g=>
    cases ob with
    |none=>simp [ak] at h
    |some b=>
     simp only [ak] at h;simp only [kL,ak];cases hk:g[n]? with
     |none=>rw [hk] at h;cases h
     |some k=>grind
 |arr m t _=>
  intro ft a p q u f a' h
  match p,h with
  |[],h=>simp only [ak,bi,bK] at h;simp_all
  | .f n::p,h=>simp [ak] at h
  | .i n::s::p,h=>simp [ak] at h
  |[.i n],h=>
   cases q with
   |nil=>rw [gA,h];cases u<;>rfl
   |cons s q=>
    simp only [ak] at h;split at h;cases h
    ·rename_i c;simp only [bi,bK] at h;obtain ⟨rfl,rfl,rfl⟩:=h;simp only [gx,hv,jM] at c;have e:=c.1;simp only [kL,el,ak];cases t<;>first|(simp [Ty.agg] at e;done)|(cases s<;>simp [ak])
 |_=>
  intro ft a p q u f a' h;cases p with
  |nil=>simp only [ak,bi,bK] at h;simp_all
  |cons s p=>simp [ak] at h
theorem tB {B:Nat->Option bm} {G:Nat->Gh} {b:Nat} {p q:aN} {u:Ty} {f:FT} {a:Option (Nat×Nat)} (h:ay B G b p=some (u,f,a)):ay B G b (p++q)=ak u f a q:=by
 unfold ay at*;split at h;exact afu _ _ _ _ _ h;cases h
theorem m0 {B:Nat->Option bm} {G:Nat->Gh} {b:Nat} {p:aN} {u:Ty} {f:FT} {a:Option (Nat×Nat)} {x:bm} (c:B b=some x) (h:ay B G b p=some (u,f,a)):cE x.ty p=some u:=by
 rw [fv c] at h;exact Tk _ _ _ _ h
section
variable {A:b0} {w:World} {R:Nat->Prop}
def iw (A:b0) (b:Nat) (t:Ty) (ft:FT) (a:Option (Nat×Nat)) (p:aN) (n:Nat):Prop:=
 match t with
 | .cons t r=>∀m q,A b (p++.f (n+m)::q)=ak (.cons t r) ft a (.f m::q)
 | .unit=>True
 |t=>∀q,A b (p++q)=ak t ft a q
def iw.head {b:Nat} {t r:Ty} {ft:FT} {a:Option (Nat×Nat)} {p:aN} {n:Nat} (h:iw A b (.cons t r) ft a p n):iw A b t ft.fst a (p++[.f n]) 0:=by
 unfold iw;split;intro m q;have:=h 0 (.f m::q);simp only [rl,ak] at this;simpa using this;trivial;intro q;have:=h 0 q;simp only [rl,ak] at this;simpa using this
def iw.tail {b:Nat} {t:Ty} {r:Ty} {ft:FT} {a:Option (Nat×Nat)} {p:aN} {n:Nat} (h:iw A b (.cons t r) ft a p n) (e:r=.unit\/∃c d,r=.cons c d):
 iw A b r ft.snd (a.map λx=>(x.1,x.2+t.size)) p (n+1):=by
 rcases e with rfl|⟨c,d,rfl⟩
 trivial;intro m q;have:=h (m+1) q;simp only [ak] at this
 grind
theorem iw.V4 {b:Nat} {t:Ty} {ft:FT} {a:Option (Nat×Nat)} {p:aN} (h:∀q,A b (p++q)=ak t ft a q):iw A b t ft a p 0:=by
 unfold iw
 grind
theorem abf:∀(t:Ty) (p:aN) (u:Ty),t.cC->cE t p=some u->u.cC:=by
 intro t
 induction t with
 |cons t r c d=>
  intro p u h b
  match p,b with
  |[],b=>simp only [cE,bi] at b;subst b;exact h
  | .f 0::p,b=>exact c p u h.1 b
  | .f (n+1)::p,b=>exact d (.f n::p) u h.2.1 b
  | .i n::p,b=>simp [cE] at b
 |slice t c=>
  intro p u h b
  match p,b with
  |[],b=>simp only [cE,bi] at b;subst b;exact h
  | .f n::p,b=>simp [cE] at b
  | .i n::p,b=>exact c p u h b
 |arr m t c=>
  intro p u h b
  match p,b with
  |[],b=>simp only [cE,bi] at b;subst b;exact h
  | .f n::p,b=>simp [cE] at b
  | .i n::s::p,b=>simp [cE] at b
  |[.i n],b=>
   simp only [cE] at b;split at b;cases b;simp only [bi] at b;subst b;exact h
 |_=>
  intro p u h b;cases p with
  |nil=>simp only [cE,bi] at b;subst b;exact h
  |cons s p=>simp [cE] at b
def zu:∀(t:Ty) (x:t.ai) (ft:FT) (cs:List Value) (b:Nat) (a:Option (Nat×Nat)) (p:aN) (n:Nat),t.cC->bd w t x ft cs->iw A b t ft a p n->(t.aY=false->t.agg=false->n=0)->
 bF A w R (nI b t x p n) cs/\(nI b t x p n).agg=t.agg:=by
 intro t
 induction t with
 |cons t r C z=>
  intro x ft cs b a p n e h g _;simp only [nI];split;rename_i u;obtain ⟨f,rfl,_⟩:=bd.l5 u h;exact ⟨Rd.fS u f,rfl⟩;obtain ⟨_,j,l,rfl,f,o⟩:=h;refine ⟨⟨j,l,rfl,(C x.1 _ j b a _ 0 e.1 f g.head (λ_ _=>rfl)).1,(z x.2 _ l b _ p (n+1) e.2.1 o (g.tail e.2.2) (λq h4=>?_)).1⟩,rfl⟩;rcases e.2.2 with rfl|⟨c,d,rfl⟩
  simp [Ty.agg] at h4;simp [Ty.agg] at h4
 |slice t _=>
  intro x ft cs b a p n e h g y;obtain rfl:=y rfl rfl;obtain ⟨v,cap,D,rfl,rfl,f,o,q,h4⟩:=h;refine ⟨⟨t,v,cap,D,a,?_,by rw [q]⟩,rfl⟩;have:=g [];rw [gA] at this;exact this
 |unit=>intro x ft cs b a p n _ h _ _;exact ⟨h.2.2.2,rfl⟩
 |bz=>intro x ft cs b a p n _ h _ _;exact h.elim
 |int k=>intro x ft cs b a p n _ h _ _;exact ⟨⟨rfl,h.2.1,h.2.2.2⟩,rfl⟩
 |bool=>intro x ft cs b a p n _ h _ _;exact ⟨⟨rfl,h.2.1,h.2.2.2⟩,rfl⟩
 |bR=>intro x ft cs b a p n _ h _ _;exact ⟨⟨rfl,h.2.1,h.2.2.2⟩,rfl⟩
 |arr m t _=>
  intro x ft cs b a p n _ h _ _;simp only [nI];rw [aE h.1];exact ⟨⟨h.1,h.2.1,h.2.2.2⟩,rfl⟩
theorem abC:∀(c:TV) (t:Ty) (ft:FT) (cs:List Value) (b:Nat) (a:Option (Nat×Nat)) (p:aN) (n:Nat),t.cC->aZ A w R c t ft cs->iw A b t ft a p n->(t.agg=false->n=0)->
 bF A w R (u9 b c p n) cs/\(u9 b c p n).agg=t.agg:=by
 intro c
 induction c with
 |ab u x=>
  intro t ft cs b a p n f h g l;obtain ⟨rfl,h⟩:=h;cases u with
  |cons u v=>exact zu _ _ _ _ _ _ _ _ f h g (λ_ h=>(by simp [Ty.agg] at h))
  |unit=>exact ⟨h.2.2.2,rfl⟩
  |arr m u=>
   simp only [u9,nI];rw [aE h.1];exact ⟨⟨h.1,h.2.1,h.2.2.2⟩,rfl⟩
  |bz=>exact h.elim
  |slice u=>obtain rfl:=l rfl;exact zu _ _ _ _ _ _ _ _ f h g (λ_ _=>rfl)
  |int _=>obtain rfl:=l rfl;exact zu _ _ _ _ _ _ _ _ f h g (λ_ _=>rfl)
  |bool=>obtain rfl:=l rfl;exact zu _ _ _ _ _ _ _ _ f h g (λ_ _=>rfl)
  |bR=>obtain rfl:=l rfl;exact zu _ _ _ _ _ _ _ _ f h g (λ_ _=>rfl)
 |cons c d y z=>
  intro t ft cs b a p n f h g l;cases t<;>try exact h.elim
  obtain ⟨_,q,r,rfl,C,j,o⟩:=h;refine ⟨⟨q,r,rfl,(y _ _ q b a _ 0 f.1 j g.head (λ_=>rfl)).1,(z _ _ r b _ p (n+1) f.2.1 o (g.tail f.2.2) (λh4=>?_)).1⟩,rfl⟩;rcases f.2.2 with e|⟨_,_,e⟩<;>rw [e] at h4<;>simp [Ty.agg] at h4
 |ad u x=>intro t ft cs b a p n _ h _ _;obtain ⟨rfl,_,h⟩:=h;exact ⟨h,rfl⟩
 |unit=>intro t ft cs b a p n _ h _ _;obtain ⟨rfl,_,h⟩:=h;exact ⟨h,rfl⟩
 |un=>
  intro t ft cs b a p n _ h _ _;obtain ⟨_,_,j,o⟩:=h
  match cs,o with
  |[v],_=>exact ⟨⟨v,rfl⟩,j.symm⟩
 |tup c _=>
  intro t ft cs b a p n _ h _ _;cases t<;>try exact h.elim
  rcases fK.out h with ⟨_,_,rfl,_,_,_,_,rfl,_⟩|⟨_,rfl,j⟩|⟨_,rfl,_,_,_,_,_,rfl,_⟩
  exact ⟨⟨_,rfl⟩,rfl⟩;obtain ⟨_,_,_,rfl,_⟩:=j.out;exact ⟨⟨_,rfl⟩,rfl⟩;exact ⟨⟨_,rfl⟩,rfl⟩
 |nil=>intro t ft cs b a p n _ h _ _;exact ⟨h.2.2.2,h.2.1.symm⟩
 |ref _ _=>intro t ft cs b a p n _ h _ _;exact ⟨h.2.2.2,h.2.1.symm⟩
 |sl _ _=>intro t ft cs b a p n _ h _ _;exact ⟨h.2.2.2,h.2.1.symm⟩
 |slw _ _ _ _=>intro t ft cs b a p n _ h _ _;exact ⟨h.2.2.2,h.2.1.symm⟩
 |bt _ _=>intro t ft cs b a p n _ h _ _;exact ⟨h.2.2.2,h.2.1.symm⟩
 |bU _ _ _=>intro t ft cs b a p n _ h _ _;exact ⟨h.2.2.2,h.2.1.symm⟩
 |mp _=>intro t ft cs b a p n _ h _ _;exact ⟨h.2.2.2,h.2.1.symm⟩
end
section
variable {Z:Type} {P:Program} {E:an} {F:Fr} {G:Nat->Gh} {s:St} {a:Act} {w:World}
def cf (F:Fr) (k:St->Option Z) (r:Z) (a:Act) (w:World):Prop:=∃G s,aC F G s a w/\k s=some r
def o6 (P:Program) (K:Ty) (t:TypeId):Bool:=match P.underlying t with
 |some (.map c b)=>dL P K c&&dL P (.int .i64) b&&(decide (K=.int .i64)||decide (K=.arr 2 (.int .i64)))
 |_=>false
structure lW (P:Program) (E:an):Prop where
 ty:∀t T,E.iO t=some T->bC P T t
 maps:∀t K,lk E.maps t=some K->o6 P K t=true
structure df (P:Program) (E:an) (F:Fr):Prop extends lW P E where
 nt:E.nt=F.nt
theorem bC.cC {P:Program}:∀(T:Ty) (t:TypeId),bC P T t->T.cC:=by
 have bn:∀(r:Ty) (l:List Field) (o:Nat),cQ P r l o=true->r=.unit\/∃c d,r=.cons c d:=by
  intro r l o h;cases r<;>cases l<;>simp [cQ] at h|-
 have q:∀(T:Ty),(∀(t:TypeId),bC P T t->T.cC)/\(∀l o,cQ P T l o=true->T.cC):=by
  intro T
  induction T with
  |cons a r g j=>
   refine ⟨λt h=>?_,λl o h=>?_⟩;unfold bC at h;simp only [dL,bE] at h;obtain ⟨_,h⟩:=h;split at h;split at h;simp only [bE] at h;exact ⟨g.1 _ h.1.2,j.2 _ _ h.2,bn _ _ _ h.2⟩;cases h;cases h;cases l with
   |nil=>simp [cQ] at h
   |cons f l=>
    simp only [cQ,bE] at h;exact ⟨g.1 _ h.1.2,j.2 _ _ h.2,bn _ _ _ h.2⟩
  |slice T b=>
   refine ⟨λt h=>?_,λl o h=>by grind⟩;obtain ⟨e,_,h⟩:=bC.slice h;exact b.1 _ h
  |arr n T b=>
   refine ⟨λt h=>?_,λl o h=>by grind⟩;obtain ⟨e,_,h,_⟩:=bC.arr h;exact b.1 _ h
  |_=>exact ⟨λt _=>trivial,λl o _=>trivial⟩
 grind
theorem cu (h:aC F G s a w) (x:Operand):VR (ay s.box G) w F.R (s.ev x) (a.eval x):=by
 cases x with
 |tmp t=>exact h.tmps t
 |global g=>exact .inl rfl
 |func f=>exact .inr ⟨_,⟨[],rfl,rfl⟩,rfl⟩
 |const v=>
  simp only [St.ev,Act.eval];unfold Mf;split;exact .inr ⟨_,⟨rfl,trivial,rfl⟩,rfl⟩;exact .inr ⟨_,⟨rfl,trivial,rfl⟩,rfl⟩;rename_i b;split;rename_i c;exact .inr ⟨_,⟨rfl,rm c,rfl⟩,rfl⟩;exact .inl rfl;exact .inr ⟨_,rfl,rfl⟩;exact .inl rfl
theorem VR.cells {A:b0} {R:Nat->Prop} {v:TV} {x:Value} (h:VR A w R v x) (b:v≠ .un) (c:∀a,v≠ .tup a):∃cs,bF A w R v cs/\(if v.agg then x=.agg cs.toArray else cs=[x]):=by
 rw [oG c] at h;rcases h with h|h
 exact absurd h b;exact h
theorem dU {G:Nat->Gh} {s:St} {w:World} (h:aC F G s a w) (b:df P E F) {o:Oper} {tv:TV} {v:Value} (f:VR (ay s.box G) w F.R tv v) (c:∀d,o.dst=some d->d<E.nt) {k:St->Option Z} {r:Z}
 (hk:dj o s k tv=some r):cf F k r (a.put o.dst v) w:=by
 unfold dj at hk;cases e:o.dst with
 |none=>rw [e] at hk;exact ⟨G,s,h,hk⟩
 |some d=>rw [e] at hk;exact ⟨G,_,h.put (by rw [<-b.nt];exact c d e) f,hk⟩
theorem c1 {o:Oper} {K:Act->World->Prop} {Q:Exit->Act->World->Prop} {v:Value} {w':World} (h:(execOp a.eval o).run P w=.ok (.value v) w') (b:K (a.put o.dst v) w'):o.wp P a w K Q:=by
 unfold Oper.wp;rw [h];exact b
def Pp {o:Oper} {K:Act->World->Prop} {Q:Exit->Act->World->Prop} {w':World} (h:(execOp a.eval o).run P w=.ok .skip w') (b:K (a.put o.dst undef) w'):o.wp P a w K Q:=by
 unfold Oper.wp;rw [h];exact b
theorem VR.bool {A:b0} {R:Nat->Prop} {b:Bool} {x:Value} (h:VR A w R (.ad .bool b) x):x=.bool b:=by
 rcases h with h|⟨cs,c,d⟩
 cases h;have c:cs=bH .bool b:=c.2.2;subst c;simpa [TV.agg,Ty.agg,bH] using d.symm
theorem VR.int {A:b0} {R:Nat->Prop} {c:IntKind} {n:Int} {x:Value} (h:VR A w R (.ad (.int c) n) x):x=.int c n:=by
 rcases h with h|⟨cs,b,d⟩
 cases h;have b:cs=bH (.int c) n:=b.2.2;subst b;simpa [TV.agg,Ty.agg,bH] using d.symm
theorem VR.bR {A:b0} {R:Nat->Prop} {l:List UInt8} {x:Value} (h:VR A w R (.ad .bR l) x):x=.string ⟨l.toArray⟩/\l.length<=eK:=by
 rcases h with h|⟨cs,b,c⟩
 cases h;have d:cs=bH .bR l:=b.2.2;subst d;exact ⟨by simpa [TV.agg,Ty.agg,bH] using c.symm,b.2.1⟩
theorem pr {A:b0} {R:Nat->Prop} (b:Bool):VR A w R (.ad .bool b) (.bool b):=.inr ⟨_,⟨rfl,trivial,rfl⟩,rfl⟩
theorem gO {A:b0} {R:Nat->Prop} (b:IntKind) (n:Int):VR A w R (.ad (.int b) n) (.int b n):=.inr ⟨_,⟨rfl,trivial,rfl⟩,rfl⟩
theorem Pj {A:b0} {R:Nat->Prop} {l:List UInt8} (h:l.length<=eK):VR A w R (.ad .bR l) (.string ⟨l.toArray⟩):=.inr ⟨_,⟨rfl,h,rfl⟩,rfl⟩
theorem dJ {A:b0} {R:Nat->Prop} {v:TV} {cs:List Value} {x:Value} (h:bF A w R v cs) (d:if v.agg then x=.agg cs.toArray else cs=[x]):VR A w R v x:=by
 have c:∀b,v≠ .tup b:=by intro b e;subst e;exact h
 rw [oG c];exact .inr ⟨cs,h,d⟩
theorem VR.b1 {A:b0} {R:Nat->Prop} {v:TV} {x:Value} (h:VR A w R v x) (b:v≠ .un) (c:∀a,v≠ .tup a) (d:v.agg=false):bF A w R v [x]:=by
 obtain ⟨cs,h4,h5⟩:=h.cells b c;simp_all
variable {Q:Exit->Act->World->Prop}
def WX (h:aC F G s a w) (c:df P E F) {o:Oper} {x:Operand} (b:o.op=.move x\/o.op=.assign x) (e:∀d,o.dst=some d->d<E.nt) {k:St->Option Z} {r:Z} (hk:a8 E o s k=some r):
 o.wp P a w (cf F k r) Q:=by
 refine c1 (v:=a.eval x) (w':=w) (by unfold execOp;rcases b with b|b<;>rw [b]<;>rfl) (dU h c (cu h x) e ?_);unfold a8 at hk
 grind
def alc (h:aC F G s a w) (g:df P E F) {o:Oper} {c x y:Operand} (f:o.op=.pick c x y) (j:∀d,o.dst=some d->d<E.nt) {k:St->Option Z} {r:Z} (hk:a8 E o s k=some r):
 o.wp P a w (cf F k r) Q:=by
 unfold a8 at hk;rw [f] at hk;simp only at hk;have b:=cu h c;split at hk;rename_i t e;rw [e] at b;have b:=b.bool;cases t;refine c1 (v:=a.eval y) (w':=w) (by unfold execOp;rw [f];simp [b,asBool]) (dU h g (cu h y) j hk);refine c1 (v:=a.eval x) (w':=w) (by unfold execOp;rw [f];simp [b,asBool]) (dU h g (cu h x) j hk);cases hk
def alT {t:TypeId} {T:Ty} (j:bC P T t) (c:T.agg=false) {b o:Nat} {v:Value} (f:At w b o 1 [v]):
 (Instr.loadAt t (.pointer (some ⟨b,o,none⟩))).run P w=.ok v w:=by
 obtain ⟨d,l,h⟩:=j.row;rw [c] at h;have e:(isAgg t).run P w=.ok false w:=by
  unfold isAgg;rw [Sem.run_bind,run_underlying l w];cases d<;>simp_all
 have g:w.cell? ⟨b,o,none⟩=some v:=by simpa using X7 f 0 v rfl
 simp [Instr.loadAt,Instr.sureAddr,loadVar,e,g]
theorem GR {t:TypeId} {T:Ty} (g:bC P T t) {b o:Nat} {cs:List Value} (c:At w b o T.size cs) (j:T.agg=false->T.size=1):
 ∃v,(Instr.loadAt t (.pointer (some ⟨b,o,none⟩))).run P w=.ok v w/\(if T.agg then v=.agg cs.toArray else cs=[v]):=by
 obtain ⟨d,n,h⟩:=g.row;obtain ⟨i,hi,l,_⟩:=g.gX;have f:=c.len;cases e:T.agg with
 |true=>exact ⟨_,run_loadAt_mid w b o t cs d (X7 c) n (by rw [h,e]) (by simp [hi,l,f]),rfl⟩
 |false=>
  rw [j e] at f c
  match cs,f with
  |[v],_=>exact ⟨v,alT g e c,rfl⟩
theorem mu:∀(T:Ty),T.agg=false->T.size=1:=by
 intro T h;cases T<;>first|rfl|(simp [Ty.agg] at h)
def aiE (h:aC F G s a w) (D:df P E F) {o:Oper} {t:TypeId} {x:Operand} (J:o.op=.load t x) (X:∀d,o.dst=some d->d<E.nt) {k:St->Option Z} {r:Z} (hk:a8 E o s k=some r):
 o.wp P a w (cf F k r) Q:=by
 unfold a8 at hk;rw [J] at hk;simp only [dW] at hk;have f:=cu h x;split at hk;rename_i T ai;have aa:=D.ty t T ai;unfold kx at hk;split at hk;rename_i b p e;rw [e] at f;have f:=f.b1 (by simp) (by simp) rfl;obtain ⟨u,ft,C,off,n,l⟩:=f;simp only [gB,gb] at l;unfold b6 at hk;split at hk;rename_i bx j;dsimp only at hk;split at hk;rename_i z;have z:cE bx.ty p=some T:=fb z;have g:=m0 j n;rw [z] at g;obtain rfl:=b3 g;obtain ⟨ae,ak,aj⟩:=(h.box b bx j).ff;obtain ⟨c',u,W,a',ac,af,U,ag,ah⟩:=aZ.get bx.c bx.ty (G b).ft ae ((G b).bj.map (·,0)) p _ r ak (λab o e=>(aj ab o e).1) hk;rw [fv j,U] at n;simp only [bi,bK] at n;obtain ⟨rfl,rfl,rfl⟩:=n;have I:=ah C off rfl;have al:=abf _ _ _ (h.cC b bx j) z;obtain ⟨v,K,O⟩:=GR aa I (mu u);have am:iw (ay s.box G) b u W (some (C,off)) p 0:=iw.V4 (λq=>tB (by rw [fv j];exact U));obtain ⟨ao,ap⟩:=abC c' u W ac b _ p 0 al ag am (λ_=>rfl);refine c1 (v:=v) (w':=w) (by unfold execOp;rw [J];simp [l,K]) (dU h D (dJ ao (by rw [ap];exact O)) X af);cases hk;cases hk;rename_i u y e;rw [e] at f;have f:=f.b1 (by simp) (by simp) rfl;obtain ⟨C,off,c,l,aq,I,an⟩:=f;simp only [gB,gb] at l;split at hk;rename_i g;have g:u=T:=fb g;subst g;obtain ⟨v,K,O⟩:=GR aa I (mu u);exact c1 (v:=v) (w':=w) (by unfold execOp;rw [J];simp [l,K]) (dU h D (dJ (v:=.ad u y) an O) X hk);cases hk;cases hk;cases hk
end
section
variable {Z:Type} {P:Program} {E:an} {F:Fr} {G:Nat->Gh} {s:St} {a:Act} {w w2:World} {Q:Exit->Act->World->Prop}
theorem lY {A:b0} {R:Nat->Prop}:∀(t:Ty) (c:TV) (f:FT) (cs:List Value) (x:t.ai),aZ A w R c t f cs->c.dv t=some x->∃j:FT,j.af=f.af/\bd w t x j cs:=by
 have I:∀(t u:Ty) (y:u.ai) (f:FT) (cs:List Value) (x:t.ai),t.aY=true->aZ A w R (.ad u y) t f cs->cI u t y=some x->∃j:FT,j.af=f.af/\bd w t x j cs:=by
  intro t u y f cs x ae g b;obtain ⟨rfl,rfl⟩:=eP b;obtain ⟨_,h,W⟩:=g;obtain ⟨aj,ak⟩:=Rd.aY ae W;exact ⟨f,rfl,by rw [ak];exact bd.fS ae aj h⟩
 have l:∀(t u:Ty) (y:u.ai) (f:FT) (cs:List Value) (x:t.ai),aZ A w R (.ab u y) t f cs->cI u t y=some x->∃j:FT,j.af=f.af/\bd w t x j cs:=by
  intro t u y f cs x g b;obtain ⟨rfl,rfl⟩:=eP b;exact ⟨f,rfl,g.2⟩
 intro t
 induction t with
 |int aq=>
  intro c f cs x g b;cases c with
  |ab u y=>exact l _ u y f cs x g (by simpa [TV.dv] using b)
  |ad u y=>exact I _ u y f cs x rfl g (by simpa [TV.dv] using b)
  |_=>simp [TV.dv] at b
 |bool=>
  intro c f cs x g b;cases c with
  |ab u y=>exact l _ u y f cs x g (by simpa [TV.dv] using b)
  |ad u y=>exact I _ u y f cs x rfl g (by simpa [TV.dv] using b)
  |_=>simp [TV.dv] at b
 |bR=>
  intro c f cs x g b;cases c with
  |ab u y=>exact l _ u y f cs x g (by simpa [TV.dv] using b)
  |ad u y=>exact I _ u y f cs x rfl g (by simpa [TV.dv] using b)
  |_=>simp [TV.dv] at b
 |bz=>
  intro c f cs x g b;cases c with
  |ab u y=>exact l _ u y f cs x g (by simpa [TV.dv] using b)
  |_=>simp [TV.dv] at b
 |arr n t _=>
  intro c f cs x g b;cases c with
  |ab u y=>exact l _ u y f cs x g (by simpa [TV.dv] using b)
  |_=>simp [TV.dv] at b
 |slice t _=>
  intro c f cs x g b;cases c with
  |ab u y=>exact l _ u y f cs x g (by simpa [TV.dv] using b)
  |nil=>
   simp only [TV.dv] at b;obtain rfl:=b3 b;obtain ⟨_,_,h,X⟩:=g;exact ⟨.node none 0 [],by rw [h];rfl,none,0,[],rfl,X,cS _,bG _,rfl,rfl⟩
  |_=>simp [TV.dv] at b
 |unit=>
  intro c f cs x g b;cases c with
  |ab u y=>exact l _ u y f cs x g (by simpa [TV.dv] using b)
  |unit=>
   obtain ⟨_,h,X⟩:=g;exact ⟨f,rfl,rfl,trivial,h,X⟩
  |ad u y=>
   cases u with
   |unit=>
    obtain ⟨_,h,W⟩:=g;exact ⟨f,rfl,rfl,trivial,h,W.2.2⟩
   |_=>simp [TV.dv] at b
  |_=>simp [TV.dv] at b
 |cons t r ah ag=>
  intro c f cs x g b;cases c with
  |ab u y=>exact l _ u y f cs x g (by simpa [TV.dv] using b)
  |cons a d=>
   simp only [TV.dv] at b;split at b;rename_i ao J;split at b;rename_i ap K;obtain rfl:=b3 b;obtain ⟨al,o,q,rfl,_,O,U⟩:=g;obtain ⟨v,C,aa⟩:=ah a _ o _ O J;obtain ⟨z,D,ac⟩:=ag d _ q _ U K;exact ⟨.eI v z,by rw [al,<-C,<-D];rfl,rfl,o,q,rfl,aa,ac⟩;cases b;cases b
  |ad u y=>
   cases u with
   |cons an am=>
    simp only [TV.dv] at b;split at b;rename_i ao J;split at b;rename_i ap K;obtain rfl:=b3 b;obtain ⟨e,h,o,q,rfl,O,U⟩:=g;simp only [Ty.cons.injEq] at e;obtain ⟨rfl,rfl⟩:=e;obtain ⟨v,C,aa⟩:=ah (.ad an y.1) .leaf o _ ⟨rfl,rfl,O⟩ J;obtain ⟨z,D,ac⟩:=ag (.ad am y.2) .leaf q _ ⟨rfl,rfl,U⟩ K;refine ⟨.eI v z,?_,rfl,o,q,rfl,aa,ac⟩;rw [h];show v.af++z.af=[];rw [C,D];rfl;cases b;cases b
   |_=>simp [TV.dv] at b
  |_=>simp [TV.dv] at b
def hz.cast {f b:FT} (h:hz F G s w f) (e:b.af=f.af):hz F G s w b:=
 ⟨by rw [e];exact h.b5,by rw [e];exact h.out,by rw [e];exact h.bQ⟩
def ajA {A:b0} {R:Nat->Prop} (t:Ty) (p:aN) {c:TV} {f:FT} {cs:List Value} (h:aZ A w R c t f cs):∃d:FT,d.af=f.af/\aZ A w R (o8 t p c) t d cs:=by
 unfold o8;split;split;split;rename_i y q;obtain ⟨d,b,o⟩:=lY t _ f cs y h q;exact ⟨d,b,rfl,o⟩
 grind
 grind
 split;rename_i e;obtain ⟨rfl,l,n⟩:=h;obtain ⟨g,j⟩:=Rd.aY e n;exact ⟨f,rfl,rfl,by rw [j];exact bd.fS e g l⟩
 grind
 grind
end
section
variable {Z:Type} {P:Program} {E:an} {F:Fr} {G:Nat->Gh} {s:St} {a:Act} {w:World} {Q:Exit->Act->World->Prop}
def alW {t:TypeId} {T:Ty} (h:bC P T t) {b o:Nat} {v:Value} {cs:List Value} (d:w.there b o T.size) (n:cs.length=T.size) (l:v.cells.toList=cs) (g:ei cs):
 (Instr.storeAt t (.pointer (some ⟨b,o,none⟩)) v).run P w=.ok () (w.setCells b o cs):=by
 obtain ⟨i,hi,q,_⟩:=h.gX;have c:=run_storeCells_cells (P:=P) b o cs 0 w (λj f=>by simpa using (d j (by omega)).1) (λj f=>by simpa using (d j (by omega)).2) g;have e:v.cells.size=i.size:=by grind
 simp only [rl] at c;simp [Instr.storeAt,Instr.sureAddr,storeVar,sizeOf,typeInfo,hi,e,l,c]
def yg {v:TV} {x:Value} {cs:List Value} (b:if v.agg then x=.agg cs.toArray else cs=[x]) (c:v.agg=false->x.oneCell'=true):x.cells.toList=cs:=by
 split at b;subst b;rfl;rename_i d;subst b;have:=c (by simpa using d);cases x<;>first|rfl|simp [Value.oneCell'] at this
def aa2 (a3:df P E F) {o:Oper} {t:TypeId} {x y:Operand} (a4:o.op=.store t x y) (ap:o.dst=none) {T:Ty} (au:bC P T t) {X:Nat} {aj:aN} (aw:bF (ay s.box G) w F.R (.ref X aj) [a.eval x]) {cs:List Value}
 (J:if (s.ev y).agg then a.eval y=.agg cs.toArray else cs=[a.eval y]) {ak:Nat->Gh} {j:St} {c:TV} {f:FT} {κ:TV->TV} {k:St->Option Z} {r:Z}
 (h:(match κ (.ref X aj) with
  | .ref b p=>b6 j b λx=>if (x.cm&&p.isEmpty)|| !decide (cE x.ty p=some T) then none else b7 x.c p (o8 T p c) λc'=>
   match c with
   | .ad u _=>if u.aY then k (j.b2 b {x with c:=c'}) else k ((j.b2 b {x with c:=c'}).ax b p)
   |_=>k ((j.b2 b {x with c:=c'}).ax b p)
  |_=>none)=some r) (g:tu F G s a w κ T cs ak j c f):o.wp P a w (cf F k r) Q:=by
 have ao:(a.eval y).cells.toList=cs:=yg J (λI=>by
  rw [I] at J;simp only [kK,dA] at J;exact g.ei _ (by rw [J];simp))
 have ai:=g.Hx _ _ aw
 try dsimp only at h
 split at h;rename_i b p al;rw [al] at ai;obtain ⟨u,a2,aa,off,l,az⟩:=ai;simp only [gB,gb] at az;unfold b6 at h;split at h;rename_i bx d
 try dsimp only at h
 split at h;cases h;rename_i ae;simp only [gx,il,py,hv,vc,jM] at ae;obtain ⟨a6,av⟩:=ae;have ah:=m0 d l;rw [av] at ah;obtain rfl:=b3 ah;obtain ⟨row,e,a0,a1⟩:=g.rel.qK l;have a5:=alW au (v:=a.eval y) (apK a0 a1) (aZ.len _ _ _ _ g.ff) ao g.ei;refine Pp (w':=w.setCells aa off cs) (by unfold execOp;simp_all) ?_;have ar:a.put o.dst undef=a:=by rw [ap];rfl
 rw [ar];obtain ⟨K,am,ab⟩:=ajA T p g.ff;have ac:=g.et.cast am;have a7:∀c',b7 bx.c p (o8 T p c) (λc'=>some c')=some c'->∀(ag:k ((j.b2 b {bx with c:=c'}).ax b p)=some r),cf F k r a (w.setCells aa off cs):=by
  intro c' an ag;obtain ⟨C,D,O⟩:=Oa b p bx.c p (o8 T p c) _ _ an;obtain rfl:=b3 D;exact ⟨_,_,g.rel.aa1 d l ab ac (λv=>v.ax b p) ((j.b2 b {bx with c:=C}).ax b p) C (λn=>yy _ b p n) (zf _ b p) (zg _ b p) (k5 d C p)
   (λA' w' q z v y W=>by subst q;exact VR.ax (tG (f:=K) (kl:=λv=>v.ax b p) d l rfl (k5 d C p)) z W)
   (λA' w' q z c t ft cs I U=>by subst q;exact aZ.ax (tG (f:=K) (kl:=λv=>v.ax b p) d l rfl (k5 d C p)) z c t ft cs I U) O,ag⟩
 obtain ⟨c',D,O⟩:=Ob bx.c p (o8 T p c) _ r h;split at D;rename_i a8 a9;split at D;rename_i aq;obtain ⟨rfl,_,_⟩:=g.ff;have af:=ail (kl:=λv=>v) (f:=K) d l aq rfl (E2 d c');exact ⟨_,_,g.rel.aa1 d l ab ac (λv=>v) (j.b2 b {bx with c:=c'}) c' (λn=>rfl) (λ_ _=>rfl) rfl (E2 d c')
  (λA' w' q z v y W=>by subst q;exact VR.mono af z W)
  (λA' w' q z c t ft cs I U=>by subst q;exact aZ.mono af z c t ft cs I U) O,D⟩
 simp_all;simp_all;cases h;cases h
def apt (h:aC F G s a w) (d:df P E F) {o:Oper} {t:TypeId} {x y:Operand} (g:o.op=.store t x y) (n:o.dst=none) {k:St->Option Z} {r:Z} (hk:a8 E o s k=some r):
 o.wp P a w (cf F k r) Q:=by
 unfold a8 at hk;rw [g] at hk;simp only [dW] at hk;have b:=cu h x;have v:=cu h y;split at hk;rename_i T l;have u:=d.ty t T l;unfold lv at hk;split at hk;rename_i K O e0;rw [e0] at b;have b:=b.b1 (by simp) (by simp) rfl;have D:s.ev y≠ .un:=by intro e;rw [e] at hk;cases T<;>simp [cj] at hk
 have C:∀c,s.ev y≠ .tup c:=by intro c e;rw [e] at hk;cases T<;>simp [cj] at hk
 obtain ⟨cs,z,I⟩:=v.cells D C;obtain ⟨J,U,c,f,κ,q,j⟩:=oH T (s.ev y) G s cs _ r h z hk;exact aa2 d g n u b I q j;cases hk;cases hk
def Tl {A:b0} {R:Nat->Prop}:∀(t:Ty) (v:TV) (c:TV) (cs:List Value),bF A w R v cs->gF t v=some c->∃f:FT,f.af=[]/\aZ A w R c t f cs/\ei cs:=by
 have ad:∀(t u:Ty) (x:u.ai) (c:TV) (cs:List Value),bF A w R (.ad u x) cs->(if decide (u=t) then some (TV.ad u x) else none)=some c->∃f:FT,f.af=[]/\aZ A w R c t f cs/\ei cs:=by
  intro t u x c cs h g;split at g;rename_i e;have e:u=t:=fb e;obtain rfl:=b3 g;exact ⟨.leaf,rfl,⟨e,rfl,h⟩,Rd.ei _ _ _ h⟩;cases g
 intro t
 induction t with
 |cons t u X aa=>
  intro v c cs h g;cases v with
  |cons x d=>
   simp only [gF] at g;obtain ⟨n,o,rfl,J,K⟩:=h;split at g;rotate_left;cases g;rename_i x' W;split at g;rotate_left;cases g;rename_i C O;obtain rfl:=b3 g;obtain ⟨D,q,l,a3⟩:=X x x' n J W;obtain ⟨I,r,y,z⟩:=aa d C o K O;exact ⟨.eI D I,by simp [FT.af,q,r],⟨rfl,n,o,rfl,aZ.len _ _ _ _ l,l,y⟩,uz a3 z⟩
  |ad j x=>exact ad _ j x c cs h (by simpa [gF] using g)
  |_=>simp [gF] at g
 |slice t _=>
  intro v c cs h g;cases v with
  |nil=>
   simp only [gF,bi] at g;subst g;obtain rfl:=h;exact ⟨.node none 0 [],rfl,⟨rfl,none,0,[],rfl,rfl,cS _,by simp [eK],rfl,rfl⟩,mj rfl⟩
  |sl b p=>
   simp only [gF,bi] at g;subst g;refine ⟨.leaf,rfl,⟨rfl,rfl,rfl,h⟩,?_⟩;obtain ⟨ae,ab,cap,ac,a',_,rfl⟩:=h;exact mj rfl
  |ad j x=>exact ad _ j x c cs h (by simpa [gF] using g)
  |_=>simp [gF] at g
 |unit=>
  intro v c cs h g;cases v with
  |unit=>
   simp only [gF,bi] at g;subst g;exact ⟨.leaf,rfl,⟨rfl,rfl,h⟩,by rw [show cs=[] from h];intro v U;cases U⟩
  |ad j x=>exact ad _ j x c cs h (by simpa [gF] using g)
  |_=>simp [gF] at g
 |_=>
  intro v c cs h g;cases v with
  |ad j x=>exact ad _ j x c cs h (by simpa [gF] using g)
  |_=>simp [gF] at g
theorem apr (h:aC F G s a w) (g:df P E F) {o:Oper} {t:TypeId} {x y:Operand} (u:o.op=.store t x y) (n:o.dst=none) {k:St->Option Z} {r:Z} {T:Ty} (j:E.iO t=some T) (hk:lu s T (s.ev x) (s.ev y) k=some r):
 o.wp P a w (cf F k r) Q:=by
 have d:=cu h x;have z:=cu h y;unfold lu at hk;split at hk;rotate_left;cases hk;rename_i K O e0;rw [e0] at d;have d:=d.b1 (by simp) (by simp) rfl;split at hk;rotate_left;cases hk;rename_i c b;have I:s.ev y≠ .un:=by intro e;rw [e] at b;cases T<;>simp [gF] at b
 have D:∀c,s.ev y≠ .tup c:=by intro c e;rw [e] at b;cases T<;>simp [gF] at b
 obtain ⟨cs,C,J⟩:=z.cells I D;obtain ⟨f,q,l,v⟩:=Tl T _ c cs C b;exact aa2 (κ:=id) g u n (g.ty t T j) d J hk (tu.still h l q v)
def ajk (h:aC F G s a w) (q:df P E F) {o:Oper} {x:Operand} (n:o.op=.nilCheck x) (z:∀d,o.dst=some d->d<E.nt) {k:St->Option Z} {r:Z} (hk:a8 E o s k=some r):
 o.wp P a w (cf F k r) Q:=by
 unfold a8 at hk;rw [n] at hk;simp only at hk;have g:=cu h x;split at hk;rename_i b p e;rw [e] at g;have l:=g.b1 (by simp) (by simp) rfl;obtain ⟨u,D,C,off,I,j⟩:=l;simp only [gB,gb] at j;exact c1 (v:=a.eval x) (w':=w) (by unfold execOp;rw [n];simp [j]) (dU h q g z hk);rename_i u y e;rw [e] at g;have l:=g.b1 (by simp) (by simp) rfl;obtain ⟨C,off,c,j,_⟩:=l;simp only [gB,gb] at j;exact c1 (v:=a.eval x) (w':=w) (by unfold execOp;rw [n];simp [j]) (dU h q g z hk);rename_i f c e;rw [e] at g;have l:=g.b1 (by simp) (by simp) rfl;obtain ⟨vs,_,j⟩:=l;simp only [gB,gb] at j;exact c1 (v:=a.eval x) (w':=w) (by unfold execOp;rw [n];simp [j]) (dU h q g z hk);cases hk
theorem Ym {t:TypeId} {T u:Ty} (q:bC P T t) {n:Nat} (r:cE T [.f n]=some u) (b o:Nat):
 (Instr.fieldAt t (.pointer (some ⟨b,o,none⟩)) n).run P w=.ok (.pointer (some ⟨b,o+ew T n,none⟩)) w:=by
 obtain ⟨v,f,c,d,e,h4,h5⟩:=q.struct r;obtain ⟨i,hi,l,_⟩:=h5.gX;have h:¬i.size=0:=by rw [l];exact h4
 have g:(⟨b,o,none⟩:Addr).add f.offset=⟨b,o+ew T n,none⟩:=by rw [Addr.add_mid,e]
 have j:(fieldPlace ⟨b,o,none⟩ f).run P w=.ok ⟨b,o+ew T n,none⟩ w:=by
  unfold fieldPlace;simp [sizeOf,typeInfo,hi,h,g]
 unfold Instr.fieldAt;simp [run_underlying c,d,Instr.sureAddr,j]
def afv:∀(T:Ty) (ft:FT) (a:Option (Nat×Nat)) (n:Nat) (u:Ty),cE T [.f n]=some u->∃c,ak T ft a [.f n]=some (u,c,a.map λx=>(x.1,x.2+ew T n)):=by
 intro T
 induction T with
 |cons t r _ d=>
  intro ft a n u b;cases n with
  |zero=>
   have b:t=u:=by cases t<;>simpa [cE] using b
   subst b;refine ⟨ft.fst,?_⟩;have:ak t ft.fst a []=some (t,ft.fst,a):=by cases t<;>rfl
   simp only [ak,ew,this];cases a<;>simp
  |succ n=>
   obtain ⟨c,h⟩:=d ft.snd (a.map λx=>(x.1,x.2+t.size)) n u (by simpa [cE] using b);refine ⟨c,?_⟩;simp only [ak,h,ew];cases a<;>simp;omega
 |_=>intro ft a n u b;simp [cE] at b
theorem Rd.field {R:Nat->Prop}:∀(T:Ty) (x:T.ai) (cs:List Value) (n:Nat) (k:(u:Ty)->u.ai->Option Z) (r:Z),Rd w R T x cs->cy T x [.f n] k=some r->
 ∃(u:Ty) (y:u.ai),k u y=some r/\cE T [.f n]=some u/\Rd w R u y (sub cs (ew T n) u.size)/\ew T n+u.size<=T.size:=by
 intro T
 induction T with
 |cons t b _ C=>
  intro x cs n k r h d;obtain ⟨e,c,rfl,g,v⟩:=h;have j:=Rd.len _ _ _ g;cases n with
  |zero=>
   have z:k t x.1=some r:=by
    grind [cy]
   refine ⟨t,x.1,z,by cases t<;>rfl,?_,by simp [ew,Ty.size]⟩;simpa [sub,ew,List.take_left' j] using g
  |succ n=>
   obtain ⟨u,y,l,o,q,D⟩:=C x.2 c n k r v (by simpa [cy] using d);refine ⟨u,y,l,by simpa [cE] using o,?_,by simp [ew,Ty.size];omega⟩;have:sub (e++c) (ew (.cons t b) (n+1)) u.size=sub c (ew b n) u.size:=by
    unfold sub;rw [show ew (.cons t b) (n+1)=e.length+ew b n by rw [j];rfl,List.drop_length_add_append]
   rw [this];exact q
 |_=>intro x cs n k r h d;simp [cy] at d
def aha (h:aC F G s a w) (C:df P E F) {o:Oper} {t:TypeId} {x:Operand} {n:Nat} (D:o.op=.fieldAddr t x n) (U:∀d,o.dst=some d->d<E.nt) {k:St->Option Z} {r:Z} (hk:a8 E o s k=some r):
 o.wp P a w (cf F k r) Q:=by
 unfold a8 at hk;rw [D] at hk;simp only [dW] at hk;have q:=cu h x;split at hk;rename_i T ah;have W:=C.ty t T ah;split at hk;rename_i b p e;rw [e] at q;have J:=q.b1 (by simp) (by simp) rfl;obtain ⟨u,ae,j,off,O,l⟩:=J;simp only [gB,gb] at l;unfold b6 at hk;split at hk;rename_i bx aj
 try dsimp only at hk
 split at hk;rename_i I;have I:cE bx.ty p=some T:=fb I;have g:=m0 aj O;rw [I] at g;obtain rfl:=b3 g;split at hk;rename_i v X;obtain ⟨K,ak⟩:=afv T ae (some (j,off)) n v X;have af:ay s.box G b (p++[.f n])=some (v,K,some (j,off+ew T n)):=by rw [tB O];exact ak
 refine c1 (w':=w) (by unfold execOp;rw [D];simp [l,Ym W X];rfl) (dU h C ?_ U hk);exact dJ (v:=.ref b (p++[.f n])) (cs:=[_]) ⟨v,K,j,off+ew T n,af,rfl⟩ rfl;cases hk;cases hk;cases hk;rename_i u y e;rw [e] at q;have J:=q.b1 (by simp) (by simp) rfl;obtain ⟨j,off,c,l,ag,ai,al⟩:=J;simp only [gB,gb] at l;split at hk;rename_i g;have g:u=T:=fb g;subst g;obtain ⟨v,z,aa,ab,ac,ad⟩:=Rd.field u y c n _ r al hk;refine c1 (w':=w) (by unfold execOp;rw [D];simp [l,Ym W ab];rfl) (dU h C ?_ U aa);exact dJ (v:=.bt v z) (cs:=[_]) ⟨j,off+ew u n,_,rfl,ag,ai.sub _ _ ad,ac⟩ rfl;cases hk;cases hk;cases hk
end
def RR (F:Fr) (G:Nat->Gh) (s:St):Nat->Prop:=λb=>F.R b\/∃i bx,s.box i=some bx/\b∈(G i).af
section
variable {Z:Type} {P:Program} {E:an} {F:Fr} {G:Nat->Gh} {s:St} {a:Act} {w:World} {Q:Exit->Act->World->Prop}
theorem aC.GZ (h:aC F G s a w) {b:Nat} {bx:bm} (n:s.box b=some bx) {p:aN} {k:TV->Option Z} {r:Z} (hk:dC bx.c p k=some r) {t:Ty} {d:Option Nat} {cap:Nat} {j:List FT} {q:Option (Nat×Nat)}
 (g:ay s.box G b p=some (.slice t,.node d cap j,q)):
 ∃c' f,k c'=some r/\aZ (ay s.box G) w F.R c' (.slice t) (.node d cap j) f/\(∀x∈(FT.node d cap j).af,x∈(G b).af):=by
 obtain ⟨y,I,D⟩:=(h.box b bx n).ff;obtain ⟨c',u,O,a',f,z,l,C,K⟩:=aZ.get bx.c bx.ty (G b).ft y ((G b).bj.map (·,0)) p _ r I (λv o e=>(D v o e).1) hk;rw [fv n,l] at g;simp only [bi,bK] at g;obtain ⟨rfl,rfl,rfl⟩:=g;exact ⟨c',f,z,C,λx J=>by simp only [Gh.af,bI];exact .inr ((fO _ _ _ _ l).1 x J)⟩
theorem Wp (h:aC F G s a w) {b:Nat} {bx:bm} (l:s.box b=some bx) {p:aN} {k:Nat->Option Z} {r:Z} (hk:jx s (.sl b p) k=some r) {t:Ty} {g:Option Nat} {cap:Nat} {f:List FT} {n:Option (Nat×Nat)}
 (v:ay s.box G b p=some (.slice t,.node g cap f,n)):k f.length=some r/\(g=none->f.length=0):=by
 simp only [jx,b6,l] at hk;obtain ⟨c',C,c,j,_⟩:=h.GZ l hk v;split at c;rename_i u y;obtain ⟨e,o⟩:=j;simp only [Ty.slice.injEq] at e;subst e;obtain ⟨_,_,_,d,_,h6,h4,h5,q⟩:=o
 grind
 ·rcases fK.out j with ⟨xs,_,rfl,x,z,D,d,_,h6,h4,h5,_,q⟩|⟨_,rfl,_⟩|⟨_,rfl,_⟩
  rotate_left;cases c;cases c;simp only [FT.node.injEq] at d;obtain ⟨rfl,rfl,rfl⟩:=d;refine ⟨by rw [h5];exact c,λe=>?_⟩;simp_all
 cases c
def Wq (h:aC F G s a w) {v:TV} {x:Value} (g:VR (ay s.box G) w F.R v x) {k:Nat->Option Z} {r:Z} (hk:jx s v k=some r):
 ∃n f cap,k n=some r/\x=.slice f n cap/\n<=eK/\n<=cap:=by
 unfold jx at hk;split at hk;have:=g.b1 (by simp) (by simp) rfl;have:[x]=[Value.slice none 0 0]:=this
 grind
 have:=g.b1 (by simp) (by simp) rfl;obtain ⟨f,cap,K,q,_⟩:=this
 grind
 rename_i b p;obtain ⟨t,C,cap,I,f,z,l⟩:=g.b1 (by simp) (by simp) rfl;simp only [gB,gb] at l;unfold b6 at hk;split at hk;rename_i bx D;obtain ⟨c',J,d,o,_⟩:=h.GZ D hk z;split at d;rename_i u y;obtain ⟨e,q⟩:=o;simp only [Ty.slice.injEq] at e;subst e;obtain ⟨_,_,_,j,_,h6,h4,h5,_⟩:=q
 grind
 ·rcases fK.out o with ⟨xs,_,rfl,_,_,_,j,_,h6,h4,h5,_,_⟩|⟨_,rfl,_⟩|⟨_,rfl,_⟩
  rotate_left;cases d;cases d;simp only [FT.node.injEq] at j;obtain ⟨rfl,rfl,rfl⟩:=j;exact ⟨_,_,_,d,by rw [l,h5],h4,h6⟩
 cases d;cases hk;obtain ⟨t,C,cap,I,f,z,U,a',c,l,O,_⟩:=g.b1 (by simp) (by simp) rfl
 grind
 cases hk
theorem uc {n:Nat} {i:Int} {k:Nat->Option Z} {r:Z} (h:eh n i k=some r):∃m:Nat,i=m/\m<n/\k m=some r:=by
 unfold eh at h;split at h;rename_i m;split at h;rename_i b;exact ⟨m,rfl,Nat.lt_of_succ_le (rm b),h⟩;cases h;cases h
theorem My {α:Type} {l:List α} {i:Int} {y:α} (h:oX l i=some y):∃m:Nat,i=m/\l[m]?=some y:=by
 unfold oX at h;split at h
 grind
 cases h
theorem k4 {A:b0} {R:Nat->Prop} {v:TV} {x:Value} (c:VR A w R v x) {k:IntKind->Int->Option Z} {r:Z} (h:asInt v k=some r):∃b n,x=.int b n/\k b n=some r:=by
 unfold asInt at h;split at h;exact ⟨_,_,c.int,h⟩;cases h
theorem run_indexAt_slice {t:TypeId} {T:Ty} (h:bC P (.slice T) t) {b o len cap:Nat} {l:IntKind} {m:Nat} (f:m<len):
 (Instr.indexAt t (.slice (some ⟨b,o,none⟩) len cap) (.int l m)).run P w=.ok (.pointer (some ⟨b,o+m*T.size,none⟩)) w:=by
 obtain ⟨e,j,d⟩:=h.slice;obtain ⟨i,hi,g,_⟩:=d.gX;have c:(⟨b,o,none⟩:Addr).add (m*T.size)=⟨b,o+m*T.size,none⟩:=Addr.add_mid _ _ _;unfold Instr.indexAt;simp [asIntOf,run_underlying j,f,sizeOf,typeInfo,hi,g,c]
theorem alS {t:TypeId} {T:Ty} {n:Nat} (h:bC P (.arr n T) t) {b o:Nat} {l:IntKind} {m:Nat} (f:m<n):
 (Instr.indexAt t (.pointer (some ⟨b,o,none⟩)) (.int l m)).run P w=.ok (.pointer (some ⟨b,o+m*T.size,none⟩)) w:=by
 obtain ⟨e,j,d,_⟩:=h.arr;obtain ⟨i,hi,g,_⟩:=d.gX;have c:(⟨b,o,none⟩:Addr).add (m*T.size)=⟨b,o+m*T.size,none⟩:=Addr.add_mid _ _ _;unfold Instr.indexAt;simp [asIntOf,run_underlying j,f,sizeOf,typeInfo,hi,g,c,Instr.sureAddr]
def ahW (h:aC F G s a w) (W:df P E F) {o:Oper} {t:TypeId} {x y:Operand} (aa:o.op=.indexAddr t x y) (ac:∀d,o.dst=some d->d<E.nt) {k:St->Option Z} {r:Z} (hk:a8 E o s k=some r):
 o.wp P a w (cf F k r) Q:=by
 unfold a8 at hk;rw [aa] at hk;simp only [dW] at hk;have q:=cu h x;have aq:=cu h y;split at hk;rename_i T am;have ad:=W.ty t T am;unfold nh at hk;obtain ⟨ax,i,ae,an⟩:=k4 aq hk;clear hk;revert an;intro hk;split at hk;rename_i u xs e;rw [e] at q;split at hk;rename_i f;have f:T=.slice u:=fb f;subst f;cases ag:oX (α:=u.ai) xs i with
 |some z=>
  rw [ag] at hk;obtain ⟨m,rfl,g⟩:=My ag;obtain ⟨ah,cap,I,au,aj⟩:=q.b1 (by simp) (by simp) rfl;simp only [gB,gb] at I;have X:m<List.length (α:=u.ai) xs:=(b4.1 g).1;obtain ⟨b,ar,rfl,al,h4⟩:=aj (by grind);obtain ⟨c,ab,ao⟩:=h4 m z g;refine c1 (w':=w) (by unfold execOp;rw [aa];simp [I,ae,run_indexAt_slice ad X];rfl) (dU h W ?_ ac hk);exact dJ (v:=.bt u z) (cs:=[_]) ⟨b,ar+m*u.size,c,rfl,al,ab,ao⟩ rfl
 |none=>rw [ag] at hk;cases hk
 cases hk;rename_i b p e;rw [e] at q;unfold b6 at hk;split at hk;rename_i bx J
 try dsimp only at hk
 split at hk;rename_i j;have j:cE bx.ty p=some T:=fb j;obtain ⟨u,K,cap,D,ah,l,C⟩:=q.b1 (by simp) (by simp) rfl;simp only [gB,gb] at C;have f:=m0 J l;rw [j] at f;obtain rfl:=b3 f;obtain ⟨hk,aw⟩:=Wp h J hk l;obtain ⟨m,rfl,g,hk⟩:=uc hk;have af:D[m]?=some (D[m]'g):=a6 g;cases K with
 |none=>
  simp_all
 |some K=>
  have U:ay s.box G b (p++[.i m])=some (u,D[m]'g,some (K,m*u.size)):=by
   rw [tB l];simp only [ak,af]
  refine c1 (w':=w) (by unfold execOp;rw [aa];simp [C,ae,run_indexAt_slice ad g];rfl) (dU h W ?_ ac hk);exact dJ (v:=.ref b (p++[.i m])) (cs:=[_]) ⟨u,_,K,m*u.size,U,rfl⟩ rfl
 cases hk;cases hk;rename_i b p lo n e;rw [e] at q;unfold b6 at hk;split at hk;rename_i bx J
 try dsimp only at hk
 split at hk;rename_i j;have j:cE bx.ty p=some T:=fb j;obtain ⟨u,K,cap,D,ah,l,av,a',c',C,ap⟩:=q.b1 (by simp) (by simp) rfl;simp only [gB,gb] at C;have f:=m0 J l;rw [j] at f;obtain rfl:=b3 f;obtain ⟨m,rfl,g,hk⟩:=uc hk;obtain ⟨O,rfl,rfl⟩:=ap.2 (by omega);have X:lo+m<D.length:=by omega
 have af:D[lo+m]?=some (D[lo+m]'X):=a6 X;have U:ay s.box G b (p++[.i (lo+m)])=some (u,D[lo+m]'X,some (O,(lo+m)*u.size)):=by
  rw [tB l];simp only [ak,af]
 refine c1 (w':=w) (by unfold execOp;rw [aa];simp [C,ae,run_indexAt_slice ad g];rfl) (dU h W ?_ ac hk);exact dJ (v:=.ref b (p++[.i (lo+m)])) (cs:=[_]) ⟨u,_,O,lo*u.size+m*u.size,by rw [<-Nat.add_mul];exact U,rfl⟩ rfl;cases hk;cases hk;rename_i b p e;rw [e] at q;unfold b6 at hk;split at hk;rename_i bx J
 try dsimp only at hk
 split at hk;rename_i j;have j:cE bx.ty p=some T:=fb j;obtain ⟨u,ft,O,off,l,C⟩:=q.b1 (by simp) (by simp) rfl;simp only [gB,gb] at C;have f:=m0 J l;rw [j] at f;obtain rfl:=b3 f;cases T with
 |arr n v=>
  try dsimp only at hk
  split at hk;cases hk;rename_i ab;simp only [gx,hv,jM] at ab;obtain ⟨m,rfl,g,hk⟩:=uc hk;have I:1<n:=by
   rcases Nat.lt_or_ge 1 n with I|I
   exact I;have:=vk I;simp_all
  have U:ay s.box G b (p++[.i m])=some (v,.leaf,some (O,off+m*v.size)):=by
   rw [tB l];simp only [ak,ab.1,lA];simp_all
  refine c1 (w':=w) (by unfold execOp;rw [aa];simp [C,ae,alS ad g];rfl) (dU h W ?_ ac hk);exact dJ (v:=.ref b (p++[.i m])) (cs:=[_]) ⟨v,_,O,off+m*v.size,U,rfl⟩ rfl
 |_=>cases hk
 cases hk;cases hk;cases hk;cases hk
end
section
variable {Z:Type} {P:Program} {E:an} {F:Fr} {G:Nat->Gh} {s:St} {a:Act} {w:World} {Q:Exit->Act->World->Prop}
theorem Ou (h:aC F G s a w) {t:Ty} {v:TV} {x:Value} (I:VR (ay s.box G) w F.R v x) {k:List t.ai->Option Z} {r:Z} (hk:hp s t v k=some r):
 ∃xs:List t.ai,k xs=some r/\Rd w (RR F G s) (.slice t) xs [x]:=by
 unfold hp at hk;split at hk;have:[x]=[Value.slice none 0 0]:=I.b1 (by simp) (by simp) rfl;simp only [gB,gb] at this;subst this;exact ⟨[],hk,none,0,rfl,⟨cS _,by simp [eK]⟩,λh=>absurd rfl h⟩;rename_i u y;split at hk;rename_i xs f;obtain ⟨rfl,rfl⟩:=eP f;exact ⟨_,hk,Rd.bT (λb W=>.inl W) (λ_ _=>rfl) _ _ _ (I.b1 (by simp) (by simp) rfl)⟩;cases hk;rename_i b p;obtain ⟨a1,aj,cap,ax,ah,U,J⟩:=I.b1 (by simp) (by simp) rfl;simp only [gB,gb] at J;unfold b6 at hk;split at hk;rename_i bx j;obtain ⟨c',am,d,C,D⟩:=h.GZ j hk U;split at d;rename_i u y;split at d;rename_i xs f;obtain ⟨rfl,rfl⟩:=eP f;obtain ⟨e,l⟩:=C;simp only [Ty.slice.injEq] at e;subst e;have ac:=bd.rd (R:=RR F G s) _ _ _ _ (λK X=>.inr ⟨b,bx,j,D K X⟩) l;refine ⟨_,d,?_⟩;obtain ⟨_,_,_,g,h5,_,_,h6,_⟩:=l;simp_all;cases d;rename_i u y;split at d;rename_i xs f;obtain ⟨rfl,rfl⟩:=eP f;rcases fK.out C with ⟨_,_,q,_⟩|⟨_,q,_⟩|⟨zs,q,ao⟩
 cases q;cases q;obtain ⟨aa,ar⟩:=TV.ad.inj q;simp only [Ty.slice.injEq] at aa;subst aa;obtain rfl:=eq_of_heq ar;obtain ⟨O,al,a5,g,_,_,h5,h6,o,_,h8⟩:=ao;simp only [FT.node.injEq] at g;obtain ⟨rfl,rfl,rfl⟩:=g;refine ⟨_,d,some ⟨O,0,none⟩,cap,by rw [J,o];rfl,⟨h5,h6⟩,λ_=>⟨O,0,rfl,.inr ⟨b,bx,j,D O (by simp [FT.af])⟩,λi z ae=>?_⟩⟩;obtain ⟨c,a3,ap⟩:=h8 i z ae;exact ⟨c,by simp_all,Rd.bT (λb W=>.inl W) (λ_ _=>rfl) _ _ _ ap⟩;cases d;cases d;cases hk;rename_i b p lo n;obtain ⟨a1,aj,cap,ax,ah,U,au,a',c,J,aq,av⟩:=I.b1 (by simp) (by simp) rfl;simp only [gB,gb] at J;unfold b6 at hk;split at hk;rename_i bx j;obtain ⟨c',am,d,C,D⟩:=h.GZ j hk U;split at d;rename_i u y;split at d;rename_i xs f;obtain ⟨rfl,rfl⟩:=eP f;obtain ⟨e,l⟩:=C;simp only [Ty.slice.injEq] at e;subst e;have ac:=bd.rd (R:=RR F G s) _ _ _ _ (λK X=>.inr ⟨b,bx,j,D K X⟩) l;refine ⟨_,d,?_⟩;obtain ⟨_,_,_,g,h5,_,_,h6,_⟩:=l;simp only [FT.node.injEq] at g;obtain ⟨rfl,rfl,rfl⟩:=g;obtain ⟨a0,al,o,h8,h9⟩:=ac;rw [h5] at o;simp only [gB,Value.slice.injEq,gb] at o;obtain ⟨rfl,_,rfl⟩:=o;have ab:((List.drop (α:=t.ai) lo y).take n).length=n:=by
  grind
 refine ⟨a',c,by simp_all,⟨by rw [ab];exact aq.1,by rw [ab];exact au.2⟩,λa4=>?_⟩;have an:0<n:=by
  grind
 obtain ⟨ak,rfl,rfl⟩:=av an;have aw:(show List t.ai from y)≠[]:=by
  grind
 obtain ⟨a2,a6,ag,az,a7⟩:=h9 aw;simp only [dy,bi,Addr.mk.injEq,gb] at ag;obtain ⟨rfl,rfl⟩:=ag;refine ⟨ak,lo*t.size,rfl,az,λi z ae=>?_⟩
 grind
 cases d;cases d;cases hk;cases hk
def GL (h:aC F G s a w):∀(t:Ty) (v:TV) (cs:List Value) (k:t.ai->Option Z) (r:Z),bF (ay s.box G) w F.R v cs->dV s t v k=some r->
 ∃x:t.ai,k x=some r/\Rd w (RR F G s) t x cs:=by
 intro t;have g:∀(t u:Ty) (x:u.ai) (cs:List Value) (k:t.ai->Option Z) (r:Z),bF (ay s.box G) w F.R (.ad u x) cs->(∃y,cI u t x=some y/\k y=some r)->∃y:t.ai,k y=some r/\Rd w (RR F G s) t y cs:=by
  intro t u x cs k r e ⟨y,l,hk⟩;obtain ⟨rfl,rfl⟩:=eP l;exact ⟨_,hk,Rd.bT (λb J=>.inl J) (λ_ _=>rfl) _ _ _ e⟩
 induction t with
 |slice t _=>
  intro v cs k r e hk;have hk:hp s t v k=some r:=by cases v<;>simpa [dV] using hk
  have j:∃x,cs=[x]/\v.agg=false:=by
   cases v with
   |ad u x=>
    simp only [hp] at hk;split at hk;rename_i xs l;obtain ⟨rfl,rfl⟩:=eP l;obtain ⟨X,cap,rfl,_⟩:=e;exact ⟨_,rfl,rfl⟩;cases hk
   |nil=>exact ⟨_,e,rfl⟩
   |sl b p=>obtain ⟨_,_,_,_,_,_,rfl⟩:=e;exact ⟨_,rfl,rfl⟩
   |slw b p lo n=>obtain ⟨_,_,_,_,_,_,_,_,_,rfl,_⟩:=e;exact ⟨_,rfl,rfl⟩
   |_=>simp [hp] at hk
  obtain ⟨x,rfl,I⟩:=j;exact Ou h (dJ e (by rw [I];rfl)) hk
 |cons t u K O=>
  intro v cs k r e hk;cases v with
  |cons c d=>
   obtain ⟨o,q,rfl,j,D⟩:=e;simp only [dV] at hk;obtain ⟨x,z,U⟩:=K c o _ r j hk;obtain ⟨y,C,W⟩:=O d q _ r D z;exact ⟨(x,y),C,o,q,rfl,U,W⟩
  |ad f x=>exact g _ f x cs k r e (by simp only [dV] at hk;grind)
  |_=>simp [dV] at hk
 |unit=>
  intro v cs k r e hk;cases v with
  |unit=>exact ⟨(),by simpa [dV] using hk,⟨rfl,trivial,e⟩⟩
  |ad f x=>exact g _ f x cs k r e (by simp only [dV] at hk;grind)
  |_=>simp [dV] at hk
 |_=>
  intro v cs k r e hk;cases v with
  |ad f x=>exact g _ f x cs k r e (by simp only [dV] at hk;grind)
  |_=>simp [dV] at hk
end
section
variable {Z:Type} {P:Program} {E:an} {F:Fr} {G:Nat->Gh} {s:St} {a:Act} {w:World} {Q:Exit->Act->World->Prop}
theorem afX {op:BinOp} {c d:IntKind} {x y:Int} {k:TV->Option Z} {r:Z} (b:Oq op=true\/c=d) (h:jW op c x y k=some r) (t:TypeId):
 ∃tv v,k tv=some r/\(binOp op t (.int c x) (.int d y)).run P w=.ok v w/\∀(A:b0) (R:Nat->Prop),VR A w R tv v:=by
 cases op
 case shl=>
  simp only [jW] at h;split at h;rename_i n;refine ⟨_,_,h,?_,λA R=>gO _ _⟩;simp [binOp,Op.shift];intro h;omega;cases h
 case shr=>
  simp only [jW] at h;split at h;rename_i n;refine ⟨_,_,h,?_,λA R=>gO _ _⟩;simp [binOp,Op.shift];intro h;omega;cases h
 all_goals (rcases b with b|rfl;· simp [Oq] at b)
 case quo=>
  simp only [jW] at h;split at h;cases h;exact ⟨_,_,h,(by simp [binOp,Op.intDiv];intro h;omega),λA R=>gO _ _⟩;exact ⟨_,_,h,by simp [binOp,Op.intDiv],λA R=>gO _ _⟩
 case rem=>
  simp only [jW] at h;split at h;cases h;exact ⟨_,_,h,(by simp [binOp,Op.intDiv];intro h;omega),λA R=>gO _ _⟩;exact ⟨_,_,h,by simp [binOp,Op.intDiv],λA R=>gO _ _⟩
 case add=>exact ⟨_,_,h,by simp [binOp,Op.intArith],λA R=>gO _ _⟩
 case sub=>exact ⟨_,_,h,by simp [binOp,Op.intArith],λA R=>gO _ _⟩
 case mul=>exact ⟨_,_,h,by simp [binOp,Op.intArith],λA R=>gO _ _⟩
 case and=>exact ⟨_,_,h,by simp [binOp,Op.intBits],λA R=>gO _ _⟩
 case or=>exact ⟨_,_,h,by simp [binOp,Op.intBits],λA R=>gO _ _⟩
 case xor=>exact ⟨_,_,h,by simp [binOp,Op.intBits],λA R=>gO _ _⟩
 case andNot=>simp [jW,Ma] at h
 all_goals
  simp only [jW,Ma] at h;exact ⟨_,_,h,by simp [binOp,Op.intCmp],λA R=>pr _⟩
theorem agV (op:BinOp) (t:TypeId) (x y:Operand) (k k':IntKind) (m n:Int):(eqGuard op t x y (.int k m) (.int k' n)).run P w=.ok () w:=by
 cases op<;>simp [eqGuard]
theorem Mn (op:BinOp) (t:TypeId) (x y:Operand) (m n:ByteArray):(eqGuard op t x y (.string m) (.string n)).run P w=.ok () w:=by
 cases op<;>simp [eqGuard]
def VC (op:BinOp) (t:TypeId) (x y:Operand) (m n:Bool):(eqGuard op t x y (.bool m) (.bool n)).run P w=.ok () w:=by
 cases op<;>simp [eqGuard]
theorem toList_mk (l:List UInt8):(ByteArray.mk l.toArray).toList=l:=by
 simp_all
theorem alN (t:TypeId) (l b:List UInt8) (d:l.length+b.length<=bg):(binOp .add t (.string ⟨l.toArray⟩) (.string ⟨b.toArray⟩)).run P w=.ok (.string ⟨(l++b).toArray⟩) w:=by
 have c:∀m:List UInt8,(ByteArray.mk m.toArray).size=m.length:=λm=>by simp [ByteArray.size]
 rw [binOp_string_add];simp only [Op.stringOp];rw [c,c,av (by grind [IntKind.max,IntKind.bits,bg])];simp only [Sem.run_pure];congr 2
def alX (t:TypeId) (l b:List UInt8):(binOp .eql t (.string ⟨l.toArray⟩) (.string ⟨b.toArray⟩)).run P w=.ok (.bool (l==b)) w:=by
 simp [binOp_string_eql]
def alY (t:TypeId) (l b:List UInt8):(binOp .neq t (.string ⟨l.toArray⟩) (.string ⟨b.toArray⟩)).run P w=.ok (.bool (!(l==b))) w:=by
 simp [binOp_string_neq]
theorem Gw:∀{T:Ty},T.plain=true->T.aY=true
 | .int _,_=>rfl
 | .bool,_=>rfl
 | .bR,_=>rfl
 | .unit,_=>rfl
 | .cons _ _,h=>by simp only [Ty.plain,bE] at h;simp only [Ty.aY,bE];exact ⟨Gw h.1,Gw h.2⟩
 | .bz,h=>by simp [Ty.plain] at h
 | .slice _,h=>by simp [Ty.plain] at h
 | .arr _ _,h=>by simp [Ty.plain] at h
theorem tT:∀(T:Ty) (x:T.ai),T.plain=true->(bH T x).length=T.size
 | .int _,_,_=>rfl
 | .bool,_,_=>rfl
 | .bR,_,_=>rfl
 | .unit,_,_=>rfl
 | .cons t r,x,h=>by
  simp only [Ty.plain,bE] at h;simp [bH,Ty.size,tT t x.1 h.1,tT r x.2 h.2]
 | .bz,_,h=>by simp [Ty.plain] at h
 | .slice _,_,h=>by simp [Ty.plain] at h
 | .arr _ _,_,h=>by simp [Ty.plain] at h
def j0 (T:Ty) (cs:List Value):Value:=if T.agg then .agg cs.toArray else cs.headD undef
def GS {T:Ty} {t:TypeId} (g:bC P T t) {pre cs post:List Value} (f:cs.length=T.size) (j:T.agg=false->T.size=1):
 (part t (pre++cs++post).toArray pre.length).run P w=.ok (j0 T cs) w:=by
 obtain ⟨d,h,e⟩:=g.row;obtain ⟨i,hi,l,_⟩:=g.gX;unfold part;cases b:T.agg with
 |true=>
  have c:(isAgg t).run P w=.ok true w:=by
   unfold isAgg;rw [Sem.run_bind,run_underlying h w];rw [b] at e;cases d<;>simp_all
  simp only [Sem.run_bind,c,Result.andThen_ok,cN,sizeOf,typeInfo,Sem.run_pure,hi,run_program,l];congr 1;simp only [j0,b,cN];simp_all
 |false=>
  have c:(isAgg t).run P w=.ok false w:=by
   unfold isAgg;rw [Sem.run_bind,run_underlying h w];rw [b] at e;cases d<;>simp_all
  rw [j b] at f
  match cs,f with
  |[v],_=>
   simp only [Sem.run_bind,c,Result.andThen_ok,kK,dA];simp [j0,b]
theorem agW:∀(T:Ty),(∀(d:Nat) (t:TypeId) (x y:T.ai),T.plain=true->T≠ .unit->T.qX<d->bC P T t->∀w,(Op.equalIn d t (j0 T (bH T x)) (j0 T (bH T y))).run P w=.ok (h2 T x y) w)/\
 (∀(d o:Nat) (l:List Field) (x y:T.ai) (pre c:List Value),T.plain=true->T.qX<=d->cQ P T l o=true->pre.length=o->c.length=o->∀w,(Op.eqFields d (pre++bH T x).toArray (c++bH T y).toArray l).run P w=.ok (h2 T x y) w):=by
 intro T
 induction T with
 |cons t r ah ag=>
  have step:∀(d o:Nat) (f:Field) (l:List Field) (x y:(Ty.cons t r).ai) (pre c:List Value),(Ty.cons t r).plain=true->(Ty.cons t r).qX<=d->f.offset=o->t.size≠0->f.name≠ "_" ->bC P t f.type->cQ P r l (o+t.size)=true->pre.length=o->c.length=o->
   ∀w,(Op.eqFields d (pre++bH (.cons t r) x).toArray (c++bH (.cons t r) y).toArray (f::l)).run P w=.ok (h2 (.cons t r) x y) w:=by
   intro d o f l x y pre c g u z ad ae h4 h5 q C w;simp only [Ty.plain,bE] at g;simp only [Ty.qX] at u;have af:t≠ .unit:=by intro e;subst e;exact ad rfl
   have I:d=(d-1)+1:=by omega
   have ak:=GS (w:=w) h4 (pre:=pre) (post:=bH r x.2) (tT t x.1 g.1) (mu t);have al:=GS (w:=w) h4 (pre:=c) (post:=bH r y.2) (tT t y.1 g.1) (mu t);have v:=(ah.1) d f.type x.1 y.1 g.1 af (by omega) h4 w;have D:=(ag.2) d (o+t.size) l x.2 y.2 (pre++bH t x.1) (c++bH t y.1) g.2 (by omega) h5 (by simp [q,tT t x.1 g.1]) (by simp [C,tT t y.1 g.1]) w;simp only [bH];rw [<-gz,<-gz];simp only [Op.eqFields,ae,ne_eq,not_false_eq_true,cN,Sem.run_bind];rw [z,<-q,ak];simp only [Result.andThen_ok];rw [q,<-C,al];simp only [Result.andThen_ok,v,Sem.run_ite];simp only [h2];cases h2 t x.1 y.1 with
   |false=>simp
   |true=>
    grind
  refine ⟨λd O x y g _ u b w=>?_,λd o l x y pre c g u j q C w=>?_⟩;have am:=b;unfold bC at b;simp only [dL,bE] at b;obtain ⟨⟨⟨_,z⟩,_⟩,h⟩:=b;split at h;rename_i U K;split at h;rename_i f l q;simp only [bE,jR,il,nS,bne_iff_ne] at h;obtain ⟨⟨⟨⟨W,X⟩,aa⟩,ab⟩,ac⟩:=h;have J:P.fieldsOf O=U:=by simp [Program.fieldsOf,K]
  have I:d=(d-1)+1:=by omega
  rw [I];simp only [j0,Ty.agg,cN];rw [run_equalIn_struct w (d-1) O _ _ (by rw [J];exact K) (by simpa using z),J,q];exact step (d-1) 0 f l x y [] [] g (by omega) W X aa ab (by simpa using ac) rfl rfl w;cases h;cases h;cases l with
  |nil=>simp [cQ] at j
  |cons f l=>
   grind [cQ]
 |unit=>
  refine ⟨λd t x y _ h=>absurd rfl h,λd o l x y pre c _ _ j _ _ w=>?_⟩;cases l with
  |nil=>rfl
  |cons f l=>simp [cQ] at j
 |int aj=>
  refine ⟨λd t x y _ _ u b w=>?_,λd o l x y pre c _ _ j=>by cases l<;>simp [cQ] at j⟩;unfold bC at b;simp only [dL,bE] at b;obtain ⟨_,h⟩:=b;split at h;rename_i k' hk;rw [show d=(d-1)+1 by omega];exact run_equalIn_int w (d-1) t aj k' x y hk;cases h
 |bool=>
  refine ⟨λd t x y _ _ u b w=>?_,λd o l x y pre c _ _ j=>by cases l<;>simp [cQ] at j⟩;unfold bC at b;simp only [dL,bE] at b;obtain ⟨_,h⟩:=b;split at h;rename_i hk;rw [show d=(d-1)+1 by omega];exact run_equalIn_bool' w (d-1) t x y hk;cases h
 |bR=>
  refine ⟨λd t x y _ _ u b w=>?_,λd o l x y pre c _ _ j=>by cases l<;>simp [cQ] at j⟩;unfold bC at b;simp only [dL,bE] at b;obtain ⟨_,h⟩:=b;split at h;rename_i hk;rw [show d=(d-1)+1 by omega];have:=run_equalIn_string w (d-1) t ⟨List.toArray (α:=UInt8) x⟩ ⟨List.toArray (α:=UInt8) y⟩ hk;have v:(ByteArray.mk (List.toArray (α:=UInt8) x)).toList=x:=toList_mk x;have D:(ByteArray.mk (List.toArray (α:=UInt8) y)).toList=y:=toList_mk y;rw [v,D] at this;exact this;cases h
 |bz=>grind [Ty.plain]
 |slice t _=>grind [Ty.plain]
 |arr n t _=>grind [Ty.plain]
theorem afZ {A:b0} {R:Nat->Prop} (W:∀t T,E.iO t=some T->bC P T t) {op:BinOp} {t:TypeId} {u v:TV} {x y:Value} {ox oy:Operand} (j:VR A w R u x) (o:VR A w R v y) {k:TV->Option Z} {r:Z} (h:tE op (E.iO t) u v k=some r):
 ∃tv z,k tv=some r/\(eqGuard op t ox oy x y).run P w=.ok () w/\(binOp op t x y).run P w=.ok z w/\VR A w R tv z:=by
 unfold tE at h;split at h;rename_i am m an n;obtain rfl:=j.int;obtain rfl:=o.int;split at h;rename_i d;obtain ⟨tv,z,ab,ac,ad⟩:=afX (by simpa using d) h t;exact ⟨tv,z,ab,agV _ _ _ _ _ _ _ _,ac,ad A R⟩;cases h;rename_i l c;obtain ⟨rfl,aj⟩:=j.bR;obtain ⟨rfl,ak⟩:=o.bR;split at h;split at h;rename_i g;have g:List.length (α:=UInt8) l+List.length (α:=UInt8) c<=bg:=fb g;exact ⟨_,_,h,Mn _ _ _ _ _ _,alN t l c g,Pj (l:=List.append (α:=UInt8) l c) (by
  have e:(List.append (α:=UInt8) l c).length=List.length (α:=UInt8) l+List.length (α:=UInt8) c:=ea;rw [e];unfold eK;unfold bg at g;omega)⟩
 cases h;exact ⟨_,_,h,Mn _ _ _ _ _ _,alX t l c,pr _⟩;exact ⟨_,_,h,Mn _ _ _ _ _ _,alY t l c,pr _⟩;cases h;rename_i b U;obtain rfl:=j.bool;obtain rfl:=o.bool;split at h;cases h;rename_i d;have q:E.iO t=some .bool:=by simpa using d
 have f:=W t _ q;have aa:P.underlying t=some .bool:=by
  unfold bC at f;simp only [dL,bE] at f
  grind
 split at h;exact ⟨_,_,h,VC _ _ _ _ _ _,run_eql_bool w t b U aa,pr _⟩;exact ⟨_,_,h,VC _ _ _ _ _ _,run_neq_bool w t b U aa,pr _⟩;cases h;rename_i K O m ao n;split at h;rename_i d;simp only [bE,nT] at d;obtain ⟨⟨D,al⟩,q⟩:=d;split at h;rename_i ap af;obtain ⟨rfl,rfl⟩:=eP af;have f:=W t _ q;have X:P.eqGuardType P.depth t=false:=by
  have ae:=f;unfold bC at ae
  grind [dL]
 obtain ⟨cs,ag,I⟩:=j.cells (by simp) (by simp);obtain ⟨ai,ah,J⟩:=o.cells (by simp) (by simp);obtain ⟨_,rfl⟩:=Rd.aY (Gw D) ag;obtain ⟨_,rfl⟩:=Rd.aY (Gw D) ah;have I:x=.agg (bH (.cons K O) m).toArray:=I;have J:y=.agg (bH (.cons K O) n).toArray:=J;subst I J;have C:=((agW (P:=P) (.cons K O)).1 10000 t m n D (by simp) (by simp_all<;>omega) f) w;simp only [j0,Ty.agg,cN] at C;split at h;refine ⟨_,_,h,run_eqGuard_agg w _ t ox oy _ _ X,?_,pr _⟩;rw [run_eql_struct,C];rfl;refine ⟨_,_,h,run_eqGuard_agg w _ t ox oy _ _ X,?_,pr _⟩;rw [run_neq_struct,C];rfl;cases h;cases h;cases h;cases h
def af0 (h:aC F G s a w) (b:df P E F) {o:Oper} {op:BinOp} {t n:TypeId} {x y:Operand} (c:o.op=.binOp op t x y n) (l:∀d,o.dst=some d->d<E.nt) {k:St->Option Z} {r:Z} (hk:a8 E o s k=some r):
 o.wp P a w (cf F k r) Q:=by
 unfold a8 at hk;rw [c] at hk;simp only at hk;obtain ⟨tv,z,e,f,g,j⟩:=afZ b.ty (ox:=x) (oy:=y) (cu h x) (cu h y) hk;exact c1 (v:=z) (w':=w) (by unfold execOp;rw [c];simp [f,g]) (dU h b j l e)
def apX (h:aC F G s a w) (g:df P E F) {o:Oper} {op:UnOp} {t:TypeId} {x:Operand} (f:o.op=.unOp op t x) (j:∀d,o.dst=some d->d<E.nt) {k:St->Option Z} {r:Z} (hk:a8 E o s k=some r):
 o.wp P a w (cf F k r) Q:=by
 unfold a8 at hk;rw [f] at hk;simp only at hk;have c:=cu h x;split at hk;rename_i b e;rw [e] at c;have:=c.bool;exact c1 (v:=.bool (!b)) (w':=w) (by unfold execOp;rw [f];simp [this,Op.unary]) (dU h g (pr _) j hk);rename_i l n e;rw [e] at c;have:=c.int;simp only [jW] at hk;exact c1 (v:=.int l (l.wrap ((0:Int)-(show Int from n)))) (w':=w) (by unfold execOp;rw [f];simp [this,Op.unary,Op.intArith]) (dU h g (gO _ _) j hk);cases hk
end
section
variable {Z:Type} {P:Program} {E:an} {F:Fr} {G:Nat->Gh} {s:St} {a:Act} {w w2:World} {Q:Exit->Act->World->Prop}
theorem qJ {K:Ty} {t:TypeId} (h:o6 P K t=true):∃c b,P.underlying t=some (.map c b)/\bC P K c/\bC P (.int .i64) b/\iI K:=by
 unfold o6 at h;split at h;rename_i c b d;simp only [bE,gx,nT] at h;exact ⟨c,b,d,h.1.1,h.1.2,h.2⟩;cases h
theorem bC.i64 {t:TypeId} (h:bC P (.int .i64) t):P.underlying t=some (.int .i64):=by
 simp only [bC,dL,bE] at h
 grind
theorem Yn {e:TypeId} (b:P.underlying e=some (.int .i64)) (cs:Array Value) (n:Nat) (v:Value) (d:cs[n]?=some v) (w:World):(part e cs n).run P w=.ok v w:=by
 unfold part;have c:(isAgg e).run P w=.ok false w:=by
  unfold isAgg;rw [Sem.run_bind,run_underlying b w];rfl
 simp_all
def Yl {b:TypeId} (h:P.underlying b=some (.int .i64)) (em:Bool) (n:Nat) (x:Int) (w:World):(Instr.checkKey em (n+1) b (.int .i64 x)).run P w=.ok () w:=by
 unfold Instr.checkKey;simp [run_underlying h]
theorem y6 {K:Ty} {e:TypeId} (hk:iI K) (d:bC P K e) (x:K.ai) (l:dg K x) (em:Bool) (w:World):(Instr.checkKey em 10000 e (fg K x)).run P w=.ok () w:=by
 rcases hk with rfl|rfl
 exact Yl d.i64 em 9999 x w;obtain ⟨e0,j,b,n⟩:=d.arr;obtain ⟨o,f,h,_,_⟩:=b.gX;have g:List.length (α:=Int) x=2:=l.1
 match x,g with
 |[p,q],_=>
  rw [show (10000:Nat)=9999+1 from rfl,Instr.checkKey];simp only [Sem.run_bind,run_underlying j,Result.andThen_ok,fg,bH,gP,rj,mE,List.flatten_nil,gA,ht];simp only [Std.Legacy.Range.forIn_eq_forIn_range',Std.Legacy.Range.size,Nat.sub_zero,Nat.add_sub_cancel,Nat.div_one,List.range'_succ,List.range'_zero,List.forIn_cons,List.forIn_nil];have c:∀x,(Instr.checkKey em 9999 e0 (.int .i64 x)).run P w=.ok () w:=λx=>Yl b.i64 em 9998 x w
  simp [sizeOf,typeInfo,f,h,Ty.size,Yn b.i64];rw [c p,Result.andThen_ok,c q,Result.andThen_ok]
theorem alP {K:Ty} {c:TypeId} (hk:iI K) (g:bC P K c) (x y:K.ai) (v:dg K x) (z:dg K y) (w:World):(Op.equal c (fg K x) (fg K y)).run P w=.ok (la K x y) w:=by
 rcases hk with rfl|rfl
 exact run_equalIn_int w 9999 c .i64 .i64 x y g.i64;obtain ⟨e0,u,b,C⟩:=g.arr;obtain ⟨D,l,r,_,_⟩:=b.gX;have n:List.length (α:=Int) x=2:=v.1;have o:List.length (α:=Int) y=2:=z.1
 match x,n,y,o with
 |[p,q],_,[d,e],_=>
  unfold Op.equal Op.maxDepth;rw [show (10000:Nat)=9999+1 from rfl,Op.equalIn];simp only [Sem.run_bind,run_underlying u,Result.andThen_ok,fg,bH,gP,rj,mE,List.flatten_nil,gA,ht];simp only [Std.Legacy.Range.forIn_eq_forIn_range',Std.Legacy.Range.size,Nat.sub_zero,Nat.add_sub_cancel,Nat.div_one,List.range'_succ,List.range'_zero,List.forIn_cons,List.forIn_nil];have f:∀x y,(Op.equalIn 9999 e0 (.int .i64 x) (.int .i64 y)).run P w=.ok (x==y) w:=λx y=>run_equalIn_int w 9998 e0 .i64 .i64 x y b.i64
  simp [sizeOf,typeInfo,l,r,Ty.size,Yn b.i64,la];rw [f p d,Result.andThen_ok,f q e,Result.andThen_ok];change _=Result.ok (((show Int from p)==d)&&(((show Int from q)==e)&&true)) w;generalize ((show Int from p)==d)=h;generalize ((show Int from q)==e)=j;cases h<;>cases j<;>rfl
def hI (K:Ty) (key:K.ai):Nat->List (K.ai×Int×Unit)->Option (Nat×Int)
 |_,[]=>none
 |i,e::r=>if la K key e.1 then some (i,e.2.1) else hI K key (i+1) r
def s3 (K:Ty) (xs:List (K.ai×Int×Unit)) (b:Array MapEntry):Prop:=
 b.size=xs.length/\∀(i:Nat) (x:K.ai×Int×Unit),xs[i]?=some x->dg K x.1/\∃e,b[i]?=some e/\e.key=fg K x.1/\e.val=.int .i64 x.2.1/\e.born=i
def ahk {K:Ty} {d:TypeId} (hk:iI K) (o:bC P K d) (key:K.ai) (q:dg K key) (w:World):∀(xs:List (K.ai×Int×Unit)) (b:List MapEntry) (i:Nat),b.length=xs.length->
 (∀(i:Nat) (x:K.ai×Int×Unit),xs[i]?=some x->dg K x.1/\∃e,b[i]?=some e/\e.key=fg K x.1/\e.val=.int .i64 x.2.1)->
 (Instr.findAsking d (fg K key) b i).run P w=.ok ((hI K key i xs).map λx=>(x.1,.int .i64 x.2)) w:=by
 intro xs
 induction xs with
 |nil=>
  intro b i c _;obtain rfl:=hT.1 c;rfl
 |cons x xs u=>
  intro b i c h;cases b with
  |nil=>cases c
  |cons e b=>
   obtain ⟨f,v,n,g,l⟩:=h 0 x rfl;obtain rfl:=b3 n;rw [Instr.findAsking,Sem.run_bind,g,alP hk o key x.1 q f,Result.andThen_ok,hI];cases la K key x.1 with
   |true=>simp [l]
   |false=>
    simp only [kK,dA];exact u b (i+1) (by simpa using c) λj y r=>h (j+1) y r
def ahj (key:Int):∀(xs:List (Int×Int×Unit)) (b:List MapEntry) (i:Nat),b.length=xs.length->
 (∀(i:Nat) (x:Int×Int×Unit),xs[i]?=some x->∃e,b[i]?=some e/\e.key=.int .i64 x.1/\e.val=.int .i64 x.2.1)->
 Instr.findNow (.int .i64) (.int .i64 key) b i=some ((hI (.int .i64) key i xs).map λx=>(x.1,.int .i64 x.2)):=by
 intro xs
 induction xs with
 |nil=>
  intro b i c _;obtain rfl:=hT.1 c;rfl
 |cons x xs n=>
  intro b i c h;cases b with
  |nil=>cases c
  |cons e b=>
   obtain ⟨o,g,d,f⟩:=h 0 x rfl;obtain rfl:=b3 g;rw [Instr.findNow,d];simp only [Instr.sameNow,cN];change _=some (Option.map _ (if (key==x.1) then some (i,x.2.1) else hI (.int .i64) key (i+1) xs));cases key==x.1 with
   |true=>simp [f]
   |false=>
    simp only [kK,dA];exact n b (i+1) (by simpa using c) λj y l=>h (j+1) y l
theorem yr {K:Ty} {n:TypeId} (hk:iI K) (g:bC P K n) (key:K.ai) (d:dg K key) (w:World) {xs:List (K.ai×Int×Unit)} {b:Array MapEntry} (h:s3 K xs b):
 (Instr.findKey n (fg K key) b.toList).run P w=.ok ((hI K key 0 xs).map λx=>(x.1,.int .i64 x.2)) w:=by
 obtain ⟨c,q⟩:=h;have c:b.toList.length=xs.length:=by simpa using c
 have j:∀(i:Nat) (x:K.ai×Int×Unit),xs[i]?=some x->dg K x.1/\∃e,b.toList[i]?=some e/\e.key=fg K x.1/\e.val=.int .i64 x.2.1:=λi x d=>by
  grind
 unfold Instr.findKey;rcases hk with rfl|rfl
 rw [Sem.run_bind,run_underlying g.i64,Result.andThen_ok];have:=ahj key xs b.toList 0 c λi x d=>(j i x d).2
 rw [show Instr.findNow (.int .i64) (fg (.int .i64) key) b.toList 0=_ from this];rfl;obtain ⟨e0,o,_⟩:=g.arr;rw [Sem.run_bind,run_underlying o,Result.andThen_ok];cases f:b.toList with
 |nil=>
  rw [f] at c;obtain rfl:=hT.1 c.symm;rfl
 |cons e l=>
  rw [<-f];have:Instr.findNow (.array 2 e0) (fg (.arr 2 (.int .i64)) key) b.toList 0=none:=by rw [f];rfl
  rw [this];exact ahk (.inr rfl) g key d w xs b.toList 0 c j
theorem F7 {K:Ty} (key:K.ai):∀(xs:List (K.ai×Int×Unit)) (i:Nat),((hI K key i xs).map Prod.snd).getD 0=cZ K key xs
 |[],_=>rfl
 |x::xs,i=>by
  rw [hI,cZ];split;rfl;exact F7 key xs (i+1)
theorem kY.row {w:World} {K:Ty} {xs:List (K.ai×Int×Unit)} {ft:FT} {cs:List Value} (h:kY w (eT K) xs ft cs):iI K/\∃b c,ft=.node (some b) 0 []/\cs=[.map (some b)]/\w.heap[b]?=some (.map c c.size)/\s3 K xs c:=by
 obtain ⟨d,b,c,e,f,h4,h5,h6⟩:=h;exact ⟨d,b,c,e,f,h4,h5,h6⟩
theorem yP (h:aC F G s a w) {b:Nat} {x:Value} (z:VR (ay s.box G) w F.R (.mp b) x) {K:Ty} {bx:bm} (l:s.box b=some bx) {k:List (K.ai×Int×Unit)->Option Z} {r:Z} (hk:ib K bx.c k=some r):
 ∃(xs:List (K.ai×Int×Unit)) (d:Nat) (f:Array MapEntry),k xs=some r/\bx.c=.tup (.ab (.slice (eT K)) xs)/\bx.ty=.slice (eT K)/\x=.map (some d)/\(G b).ft=.node (some d) 0 []/\w.heap[d]?=some (.map f f.size)/\iI K/\s3 K xs f:=by
 unfold ib at hk;split at hk;rotate_left;cases hk;rename_i u xs q;split at hk;rotate_left;cases hk;rename_i y D;obtain ⟨rfl,rfl⟩:=eP D;obtain ⟨cs,j,_⟩:=(h.box b bx l).ff;rw [q] at j;obtain ⟨t,J,cap,aa,I,g,C⟩:=z.b1 (by simp) (by simp) rfl;simp only [gB,gb] at C;have n:ay s.box G b []=some (bx.ty,(G b).ft,(G b).bj.map (·,0)):=by
  simp only [ay,l];cases bx.ty<;>simp [ak]
 rw [n] at g;simp only [bi,bK] at g;obtain ⟨v,X,_⟩:=g;rw [v] at j;obtain ⟨e,o⟩:=(show _/\_ from j);subst e;obtain ⟨W,d,f,O,_,U,h4⟩:=o.row
 grind
theorem ML {A:b0} {R:Nat->Prop} {K:Ty} (f:iI K) {v:TV} {x:Value} (d:VR A w R v x) {k:K.ai->Option Z} {r:Z} (hk:jY K v k=some r):∃key,k key=some r/\x=fg K key/\dg K key:=by
 unfold jY at hk;split at hk;rotate_left;cases hk;split at hk;rotate_left;cases hk;rename_i y g;obtain ⟨rfl,rfl⟩:=eP g;refine ⟨_,hk,?_⟩;rcases d with d|⟨cs,e,b⟩
 cases d;rcases f with rfl|rfl
 obtain ⟨_,c,rfl⟩:=e;simp only [TV.agg,Ty.agg,kK,dA,bH,gB,gb] at b;exact ⟨b.symm,c⟩;obtain ⟨_,c,rfl⟩:=e;simp only [TV.agg,Ty.agg,cN] at b;exact ⟨b,c⟩
def aiG (h:aC F G s a w) (f:df P E F) {o:Oper} {t:TypeId} {m x:Operand} {ok:Bool} (j:o.op=.lookup t m x ok) (I:∀d,o.dst=some d->d<E.nt) {k:St->Option Z} {r:Z} (hk:a8 E o s k=some r):
 o.wp P a w (cf F k r) Q:=by
 unfold a8 at hk;rw [j] at hk;simp only at hk;split at hk;rotate_left;cases hk;rename_i K b y aa;obtain ⟨aj,ai,ad,l,ac,c⟩:=qJ (f.maps t K y);have n:=cu h m;rw [aa] at n;unfold b6 at hk;split at hk;rotate_left;cases hk;rename_i bx D;obtain ⟨xs,u,e,U,_,_,ae,_,O,_,C⟩:=yP h n D hk;obtain ⟨key,W,X,g⟩:=ML c (cu h x) U;refine c1 (v:=.int .i64 (cZ K key xs)) (w':=w) ?_ (dU h f (gO _ _) I W);obtain ⟨i,hi,_,_,af⟩:=ac.gX;obtain ⟨z,ah,ak,z3⟩:=af rfl;have ag:z=.int .i64 0:=by
  cases z<;>simp_all [Value.cells,eV,FH,Ty.agg]
 unfold execOp;rw [j];simp only [Sem.run_bind];have ab:(Instr.lookup t (a.eval m) (a.eval x) false).run P w=.ok (.int .i64 (cZ K key xs)) w:=by
  unfold Instr.lookup;rw [ae,X];simp only [Sem.run_bind,run_underlying ad,Result.andThen_ok];have J:(getObj u).run P w=.ok (.map e e.size) w:=by
   simp [getObj,Sem.run,O]
  rw [J];simp only [Result.andThen_ok,Sem.run_bind,Sem.run_pure,y6 c l key g,yr c l key g w C];rw [<-F7 key xs 0];cases hI K key 0 xs with
  |none=>simp [zeroValue,typeInfo,hi,ah,ag]
  |some q=>simp
 rw [ab];rfl
theorem MM {K:Ty} (b:iI K) {x y:K.ai} (h:la K x y=true):x=y:=by
 rcases b with rfl|rfl
 exact eq_of_beq (α:=Int) h;exact eq_of_beq (α:=List Int) h
theorem uw {K:Ty} (f:iI K) (key:K.ai) (v:Int):∀(xs:List (K.ai×Int×Unit)) (n:Nat),
 (hI K key n xs=none/\dE K key v xs=xs++[(key,v,())])\/∃i y,i<xs.length/\hI K key n xs=some (n+i,y)/\dE K key v xs=xs.set i (key,v,())/\∀x,xs[i]?=some x->x.1=key
 |[],n=>.inl ⟨rfl,rfl⟩
 |e::r,n=>by
  rw [hI,dE];cases hk:la K key e.1 with
  |true=>
   refine .inr ⟨0,e.2.1,by simp,by simp,by simp,λx b=>?_⟩;obtain rfl:=b3 b;exact (MM f hk).symm
  |false=>
   simp only [kK,dA];rcases uw f key v r (n+1) with ⟨c,d⟩|⟨i,y,c,d,g,h4⟩
   simp_all;exact .inr ⟨i+1,y,by simpa using c,by rw [d];simp;omega,by rw [g];rfl,λx b=>h4 x (by simpa using b)⟩
def Yr {K:Ty} (b:iI K) (x:K.ai) (d:dg K x):Instr.sameBits 10000 (fg K x) (fg K x)=true:=by
 rcases b with rfl|rfl
 simp only [fg,Instr.sameBits,bE]
 grind
 have c:List.length (α:=Int) x=2:=d.1
 match x,c with
 |[p,q],_=>
  simp only [fg,bH,gP,rj,mE,List.flatten_nil,gA,ht];rw [show (10000:Nat)=9999+1 from rfl,Instr.sameBits];simp [Instr.sameBits]
  grind
def aC.Nb (h:aC F G s a w) {b:Nat} {x:bm} (l:s.box b=some x) (u:x.cm=true) {f:Nat} (C:(G b).ft=.node (some f) 0 []) (o:Obj) {c:TV}
 (X:∀A:b0,aZ A {w with heap:=w.heap.setIfInBounds f o} F.R c x.ty (G b).ft [.map (some f)]):aC F G (s.b2 b {x with c:=c}) a {w with heap:=w.heap.setIfInBounds f o}:=by
 have K:ay s.box G b []=some (x.ty,(G b).ft,(G b).bj.map (·,0)):=by
  simp only [ay,l];cases x.ty<;>simp [ak]
 have I:f∈(G b).af:=by simp [Gh.af,C,FT.af]
 obtain ⟨ad,ah,ai⟩:=h.bQ b x l f I;have J:∀d,d≠f->({w with heap:=w.heap.setIfInBounds f o}:World).heap[d]?=w.heap[d]?:=λd g=>by
  grind
 have O:G=λj=>if j=b then ⟨(G b).bj,bA x.ty (G b).ft [] (G b).ft⟩ else G j:=by
  funext j;have:bA x.ty (G b).ft [] (G b).ft=(G b).ft:=by cases x.ty<;>rfl
  rw [this];split;rename_i e;rw [e];rfl
 have W:=E2 l c;have D:hV (ay s.box G) (ay (s.b2 b {x with c:=c}).box G):=by
  intro ag q t ft ae e
  grind [ay,bm.with]
 have z:∀d,F.R d->({w with heap:=w.heap.setIfInBounds f o}:World).heap[d]?=w.heap[d]?:=λd g=>J d λe=>ad (e▸g)
 have r:=h.box b x l;unfold dB at r;rw [aE u] at r;refine h.ym l K (λv=>v) O (λn=>rfl) (λi n=>rfl) rfl W (λv y u=>VR.mono D z u) (λc t ft cs U aa=>aZ.mono D z c t ft cs U aa) ?_ ⟨by simp,rfl,rfl⟩ ?_ ?_ ?_ (λd g=>.inl g) ?_ (λ_ _=>by cases x.ty<;>rfl);unfold dB;rw [aE (show (x.with c).cm=true from u)];exact ⟨r.1,r.2.1,_,X _⟩;intro j y ab ac d g;exact J d λe=>h.c7 b j x y l ac (Ne.symm ab) f I (e▸g)
 grind
 rw [C];simp [FT.af,FT.bo];intro d g;have:=h.bQ b x l d (by simp only [Gh.af,bI];exact .inr g)
 grind
def aiP (h:aC F G s a w) (ag:df P E F) {o:Oper} {t:TypeId} {m x v:Operand} (ar:o.op=.mapUpdate t m x v) {k:St->Option Z} {r:Z} (hk:a8 E o s k=some r):
 o.wp P a w (cf F k r) Q:=by
 unfold a8 at hk;rw [ar] at hk;simp only at hk;split at hk;rotate_left;cases hk;rename_i K b y al ah aq ax;obtain ⟨a2,az,ac,I,a1,d⟩:=qJ (ag.maps t K ah);have ad:=cu h m;rw [aq] at ad;have u:=cu h v;rw [ax] at u;have u:=u.int;unfold b6 at hk;split at hk;rotate_left;cases hk;rename_i bx W
 try dsimp only at hk
 split at hk;rotate_left;cases hk;rename_i aw;obtain ⟨xs,U,C,an,_,av,f,X,D,_,aj⟩:=yP h ad W hk;obtain ⟨key,ao,aa,l⟩:=ML d (cu h x) an;have au:=Yr d key l;obtain ⟨n,O⟩:=aj;have ae:∀g,s3 K (dE K key y xs) g->(Instr.mapUpdate t (a.eval m) (a.eval x) (a.eval v)).run P w=.ok () {w with heap:=w.heap.setIfInBounds U (.map g g.size)}->o.wp P a w (cf F k r) Q:=by
  intro g ak a0;have hrel:=h.Nb W aw X (.map g g.size) (c:=.tup (.ab (.slice (eT K)) (show List (K.ai×Int×Unit) from dE K key y xs))) λA=>by
   rw [av,X];refine ⟨rfl,d,U,g,rfl,rfl,?_,ak⟩
   grind
  refine Pp ?_ ⟨G,_,(by rw [al];exact hrel),ao⟩;unfold execOp;simp_all
 rcases uw d key y xs 0 with ⟨J,q⟩|⟨i,z,J,q,af,h4⟩
 refine ae (C.push {key:=fg K key,val:=.int .i64 y,born:=C.size}) ⟨by rw [q];simp [n],λi x f=>?_⟩ ?_;rw [q] at f;by_cases hi:i<xs.length
 grind
 rw [List.getElem?_append_right (by omega)] at f;have am:i=xs.length:=by
  grind
 subst am;simp at f;subst f;exact ⟨l,{key:=fg K key,val:=.int .i64 y,born:=C.size},by rw [<-n];simp,rfl,rfl,n⟩;unfold Instr.mapUpdate;rw [f,aa,u];simp only [Sem.run_bind,run_underlying ac,Result.andThen_ok,Go.MapKept.run_getObj_map D,y6 d I key l,yr d I key l w ⟨n,O⟩,J,vn];rw [Go.MapKept.run_setObj_map _ D];simp;refine ae (C.modify i λe=>{e with key:=fg K key,val:=.int .i64 y}) ⟨by rw [af];simp [n],λj x f=>?_⟩ ?_
 grind
 unfold Instr.mapUpdate;rw [f,aa,u];rw [kR] at q;obtain ⟨a3,e,ay,a4,a5,a7⟩:=O i _ (a6 J);have ap:e.key=fg K key:=by simp_all
 simp only [Sem.run_bind,run_underlying ac,Result.andThen_ok,Go.MapKept.run_getObj_map D,y6 d I key l,yr d I key l w ⟨n,O⟩,q,dy,ay,vm,ap,Instr.keyThatStays,au,cN,Sem.run_pure];rw [Go.MapKept.run_setObj_map _ D];simp
def aiO (h:aC F G s a w) {t:TypeId} {K:Ty} (q:o6 P K t=true) {b:Nat} {x:Value} (v:VR (ay s.box G) w F.R (.mp b) x) {k:List (K.ai×Int×Unit)->Option Z} {r:Z}
 (hk:(b6 s b λx=>ib K x.c k)=some r):∃(xs:List (K.ai×Int×Unit)) (e:Nat) (d:Array MapEntry),k xs=some r/\x=.map (some e)/\w.heap[e]?=some (.map d d.size)/\d.size=xs.length/\∃g f,P.underlying t=some (.map g f):=by
 obtain ⟨g,f,u,_⟩:=qJ q;unfold b6 at hk;split at hk;rotate_left;cases hk;rename_i bx o;obtain ⟨xs,e,d,j,_,_,l,_,n,_,h4⟩:=yP h v o hk;exact ⟨xs,e,d,j,l,n,h4.1,g,f,u⟩
end
section
variable {Z:Type} {P:Program} {E:an} {F:Fr} {G:Nat->Gh} {s:St} {a:Act} {w:World} {Q:Exit->Act->World->Prop}
theorem ajs {A:b0} {R:Nat->Prop}:∀(v:TV) (xs:List Value) (n:Nat) (u:TV),fl A w R v xs->fR v n=some u->∃x,xs[n]?=some x/\eJ A w R u x:=by
 intro v
 induction v with
 |cons a r f d=>
  intro xs n u h b;cases xs with
  |nil=>exact h.elim
  |cons x xs=>
   cases n with
   |zero=>
    simp only [fR,bi] at b;subst b;exact ⟨x,rfl,h.1⟩
   |succ n=>
    simp only [fR] at b;obtain ⟨y,e,c⟩:=d xs n u h.2 b;exact ⟨y,e,c⟩
 |unit=>
  intro xs n u h b;cases n<;>simp [fR] at b
 |_=>intro xs n u h b;exact h.elim
theorem eJ.vr {A:b0} {R:Nat->Prop} {v:TV} {x:Value} (h:eJ A w R v x):VR A w R v x:=by
 rcases h with rfl|⟨cs,b,c⟩
 exact .inl rfl;exact dJ b c
def VJ (h:aC F G s a w) (j:df P E F) {o:Oper} {x:Operand} {n:Nat} (b:o.op=.extract x n) (l:∀d,o.dst=some d->d<E.nt) {k:St->Option Z} {r:Z} (hk:a8 E o s k=some r):
 o.wp P a w (cf F k r) Q:=by
 unfold a8 at hk;rw [b] at hk;simp only at hk;have c:=cu h x;split at hk;rename_i v e;rw [e] at c;obtain ⟨xs,z,C⟩:=c;split at hk;rename_i u q;obtain ⟨y,f,g⟩:=ajs v xs n u z q;refine c1 (v:=y) (w':=w) (by unfold execOp;rw [b];simp [C,Instr.extract,f]) (dU h j g.vr l hk);cases hk;cases hk
def ahn {t:Ty} (f:t.aY=true) {xs:List t.ai} (hk:∀x∈xs,dg t x) {m:Nat} {c:t.ai} (d:xs[m]?=some c):
 ∃pre post,(xs.map (bH t)).flatten=pre++bH t c++post/\pre.length=m*t.size:=by
 have j:=(b4.1 d).1;have e:=(b4.1 d).2;refine ⟨((xs.take m).map (bH t)).flatten,((xs.drop (m+1)).map (bH t)).flatten,?_,?_⟩;have:xs=xs.take m++c::xs.drop (m+1):=by
  rw [<-e,List.getElem_cons_drop,iS]
 grind
 have key:∀l:List t.ai,(∀x∈l,dg t x)->((l.map (bH t)).flatten).length=l.length*t.size:=by
  intro l
  induction l with
  |nil=>intro _;simp
  |cons a l h=>
   intro b;simp only [gP,mE,ea,jh];rw [hf t a f (b a (by simp)),h (λx g=>b x (by simp [g])),nR];omega
 grind
theorem ai0 {A:b0} {R:Nat->Prop} {t:Ty} (b:t.aY=true) {c:t.ai} (hk:dg t c):VR A w R (.ad t c) (j0 t (bH t c)):=by
 refine dJ (cs:=bH t c) (Rd.fS b hk) ?_;unfold j0;simp only [TV.agg];split;rfl;rename_i d;have:=hf t c b hk;rw [mu t (by simpa using d)] at this
 match h:bH t c,this with
 |[v],_=>rfl
theorem bC.bR {t:TypeId} (h:bC P .bR t):P.underlying t=some .string:=by
 simp only [bC,dL,bE] at h
 grind
theorem bC.int {t:TypeId} {k:IntKind} (h:bC P (.int k) t):P.underlying t=some (.int k):=by
 simp only [bC,dL,bE] at h
 grind
theorem alR {t:TypeId} (h:P.underlying t=some .string) {l:List UInt8} {m:Nat} {c:UInt8} (b:l[m]?=some c) (d:IntKind):
 (Instr.index t (.string ⟨l.toArray⟩) (.int d m)).run P w=.ok (.int .u8 (c.toNat:Int)) w:=by
 have f:=(b4.1 b).1;have e:=(b4.1 b).2;rw [run_index_string (P:=P) w t ⟨l.toArray⟩ d m h];have g:m<(ByteArray.mk l.toArray).size:=by simpa [ByteArray.size] using f
 rw [dif_pos ⟨by omega,by omega⟩];have j:(ByteArray.mk l.toArray)[m]'g=c:=by rw [<-e];rfl
 simp_all
theorem Yo {T:Ty} {t:TypeId} (h:bC P T t):(sizeOf t).run P w=.ok T.size w:=by
 obtain ⟨d,b,c,_⟩:=h.gX;simp [sizeOf,typeInfo,b,c]
theorem alQ {n:Nat} {T:Ty} {t:TypeId} (h:bC P (.arr n T) t) {l:List T.ai} (v:l.length=n) (hk:∀x∈l,dg T x) {m:Nat} {c:T.ai} (b:l[m]?=some c) (o:IntKind):
 (Instr.index t (.agg ((l.map (bH T)).flatten).toArray) (.int o m)).run P w=.ok (j0 T (bH T c)) w:=by
 obtain ⟨e0,j,f,d⟩:=h.arr;obtain ⟨pre,post,q,r⟩:=ahn d hk b;have u:=(b4.1 b).1;have e:=GS (w:=w) f (pre:=pre) (cs:=bH T c) (post:=post) (hf T c d (hk c (cw b))) (mu T);rw [r,<-q] at e;have g:(0:Int)<=(m:Int)/\(m:Int)<(n:Int):=by omega
 unfold Instr.index;simp only [asIntOf,Sem.run_bind,Sem.run_pure,Result.andThen_ok,run_underlying j,aE g,Yo f,fk];exact e
def ahX (h:aC F G s a w) (C:df P E F) {o:Oper} {t:TypeId} {x y:Operand} (X:o.op=.index t x y) 
 (U:∀d,o.dst=some d->d<E.nt) {k:St->Option Z} {r:Z} (hk:a8 E o s k=some r):
 o.wp P a w (cf F k r) Q:=by
 unfold a8 at hk;rw [X] at hk;simp only [dW] at hk;have b:=cu h x;have al:=cu h y;split at hk;rename_i T ad;have J:=C.ty t T ad;obtain ⟨aa,i,ab,hk⟩:=k4 al hk;split at hk;rename_i _T _v l e _hk;rw [e] at b;have aj:=J.bR;obtain ⟨b,_⟩:=VR.bR b;split at hk;rename_i c D;obtain ⟨m,rfl,W⟩:=My D;have ah:=(b4.1 W).1;refine c1 (v:=.int .u8 (c.toNat:Int)) (w':=w) ?_ (dU h C (gO _ _) U hk);unfold execOp;rw [X];have:=alR (w:=w) aj W aa;simp [b,ab,this];cases hk;rename_i _T _v n u m f z e _hk;rw [e] at b;split at hk;rename_i g;have g:Ty.arr m f=Ty.arr n u:=fb g;simp only [Ty.arr.injEq] at g;obtain ⟨rfl,rfl⟩:=g;obtain ⟨e0,ap,ao,af⟩:=J.arr;split at hk;rename_i c D;obtain ⟨q,rfl,I⟩:=My D;have ah:=(b4.1 I).1;obtain ⟨cs,ae,ak⟩:=b.cells (by simp) (by simp);simp only [TV.agg,Ty.agg,cN] at ak;obtain ⟨am,ac,K⟩:=ae;obtain ⟨j,O⟩:=ac;have j:z.length=m:=j;have K:cs=((show List f.ai from z).map (bH f)).flatten:=K;have ag:dg f c:=O c (cw I);have an:=alQ (w:=w) J (l:=z) j O I aa;refine c1 (v:=j0 f (bH f c)) (w':=w) ?_ (dU h C (ai0 af ag) U hk);unfold execOp;simp_all;cases hk;cases hk;cases hk;cases hk
theorem alO {R:Nat->Prop} {t u:TypeId} (X:bC P (.slice (.int .u8)) t) (U:bC P .bR u) (xs:List Int) {x:Value} (O:Rd w R (.slice (.int .u8)) xs [x]):
 (convert t u x).run P w=.ok (.string ⟨(xs.map λn:Int=>UInt8.ofNat n.toNat).toArray⟩) w/\(xs.map λn:Int=>UInt8.ofNat n.toNat).length<=eK:=by
 obtain ⟨e0,r,W⟩:=X.slice;have o:=W.int;have q:=U.bR;obtain ⟨d,cap,e,⟨j,l⟩,J⟩:=O;have j:xs.length<=cap:=j;have l:xs.length<=eK:=l;have e:x=.slice d xs.length cap:=(hr e).1;subst e;refine ⟨?_,by simp_all⟩;by_cases v:xs=[]
 ·subst v;have aa:(convert t u (.slice d 0 cap)).run P w=.ok (.string ByteArray.empty) w:=by
   rw [run_convert_bytes_string w t u e0 _ 0 cap r o q];cases d<;>simp [Conv.bytesToString,loadCells]
   all_goals rfl
  exact aa
 obtain ⟨b,f,rfl,_,C⟩:=J v;exact run_convert_bytes_arg (P:=P) w t e0 r o b f xs.length cap xs rfl (λi hi=>by
  have I:xs[i]?=some (xs.getD i 0):=by simp_all
  obtain ⟨c,D,K⟩:=C i (xs.getD i 0) I;obtain ⟨_,_,rfl⟩:=K;obtain ⟨row,ab,fz,g,y,h⟩:=D;simp only [Ty.size,Nat.mul_one] at g y h;have ac:f+i<row.size:=by omega
  have z:(List.take 1 (List.drop (f+i) row.toList))[0]?=some (.int .u8 (xs.getD i 0)):=by rw [h];rfl
  simp only [World.cell?,g];simpa using z) u q
def agv (h:aC F G s a w) (b:df P E F) {o:Oper} {t u:TypeId} {x:Operand} (g:o.op=.convert t u x) (f:∀d,o.dst=some d->d<E.nt) {k:St->Option Z} {r:Z} (hk:a8 E o s k=some r):
 o.wp P a w (cf F k r) Q:=by
 unfold a8 at hk;rw [g] at hk;simp only [dW] at hk;have c:=cu h x;split at hk;rename_i U C;have l:=b.ty t U C;split at hk;rename_i T z;have j:=b.ty u T z;split at hk;rename_i W q X n e;rw [e] at c;have I:=c.int;refine c1 (v:=.int q (q.wrap n)) (w':=w) ?_ (dU h b (gO _ _) f hk);unfold execOp;rw [g];simp [I,convert,run_underlying l.int,run_underlying j.int,Conv.intToInt];rename_i K J aa;obtain ⟨xs,hk,D⟩:=Ou h c hk;obtain ⟨O,y⟩:=alO l j xs D;refine c1 (w':=w) ?_ (dU h b (Pj y) f hk);unfold execOp;simp_all;cases hk;cases hk;cases hk
def aiI (h:aC F G s a w) (z:df P E F) {o:Oper} {fn:Fn} {first b:Array Operand} (n:o.op=.makeFunc fn first b) (C:∀d,o.dst=some d->d<E.nt) {k:St->Option Z} {r:Z} (hk:a8 E o s k=some r):
 o.wp P a w (cf F k r) Q:=by
 unfold a8 at hk;rw [n] at hk;simp only at hk;split at hk;rotate_left;cases hk;rename_i f g;have g:first= #[]:=by simpa using g
 subst g;split at hk;rename_i c;have c:∀x∈b.toList,(s.ev x).FJ=true:=fa.1 c
 have key:∀l:List Operand,(∀x∈l,(s.ev x).FJ=true)->bF (ay s.box G) w F.R (l.foldr (λx r=>.cons (s.ev x) r) .unit) (l.map a.eval):=by
  intro l
  induction l with
  |nil=>intro _;rfl
  |cons x l I=>
   intro j;have e:=j x (by simp);have u:=cu h x;refine ⟨[a.eval x],l.map a.eval,rfl,?_,I (λy D=>j y (by simp [D]))⟩;cases q:s.ev x<;>rw [q] at e<;>simp [TV.FJ] at e
   rw [q] at u;exact u.b1 (by simp) (by simp) rfl
 refine c1 (v:=.func (.func f) #[] (b.map a.eval)) (w':=w) (by unfold execOp;rw [n];simp [Instr.makeFunc]) (dU h z ?_ C hk);refine dJ (cs:=[_]) ⟨_,key b.toList c,rfl⟩ ?_;cases b;simp [TV.agg];cases hk
end
end Go.TM
