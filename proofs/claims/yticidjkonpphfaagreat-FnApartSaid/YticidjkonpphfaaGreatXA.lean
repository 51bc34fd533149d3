/- Part 1 of 8. -/
import Derived.Deep.AppendSrc
import Derived.Deep.MidRow
import Derived.Great.BuildSlice
import Derived.Laws.Build
import Derived.Laws.BytesArg
import Derived.Laws.MakeOwn
import Derived.Laws.Slices
import Derived.Laws.StructEq
import Derived.MapKept
import Derived.Orders
import Derived.Tactics
set_option autoImplicit false
set_option linter.unusedVariables false
set_option linter.unusedSimpArgs false
set_option linter.constructorNameAsVariable false
set_option linter.defProp false
namespace Go.TM
def au:=@if_neg
def av:=@cond_true
def ay:=@if_pos
def aX:=@Option.some.injEq
def ba:=@List.getElem?_eq_getElem
def bn:=@decide_eq_true
def bt:=@Bool.and_eq_true
def bk:=@Prod.mk.injEq
def bp:=@List.mem_append
def bN:=@decide_eq_false
def bL:=@Nat.zero_le
def b2:=@Option.some.inj
def b6:=@List.getElem?_eq_some_iff
def cz:=@List.mem_of_getElem?
def cv:=@List.nodup_append
def cu:=@if_true
def cV:=@Nat.le_refl
def cZ:=@List.getElem_mem
def cQ:=@List.mem_map
def dn:=@Option.map_some
def c2:=@if_false
def dB:=@congrArg
def dV:=@List.nil_append
def dN:=@Bool.not_false
def ea:=@List.length_append
def el:=@List.mem_cons
def e7:=@of_decide_eq_true
def eT:=@List.all_eq_true
def fg:=@Int.toNat_natCast
def dU:=@List.length_map
def fK:=@and_true
def gh:=@List.cons.injEq
def gj:=@Nat.eq_of_beq_eq_true
def fC:=@Bool.or_eq_true
def gx:=@Iff.rfl
def gb:=@List.append_assoc
def gg:=@List.append_nil
def fJ:=@List.map_cons
def gy:=@List.mem_filter
def g1:=@Int.eq_ofNat_of_zero_le
def g2:=@List.mem_range
def fq:=@List.mem_singleton
def hq:=@List.cons.inj
def hr:=@List.length_set
def fI:=@List.map_append
def gM:=@List.singleton_append
def gN:=@not_or
def hO:=@List.length_eq_zero_iff
def hp:=@Bool.not_eq_true'
def hN:=@Classical.byContradiction
def jJ:=@List.cons_append
def gK:=@List.range_succ
def g3:=@List.take_length
def hs:=@Option.toList_some
def iQ:=@List.take_add_one
def iR:=@List.take_append_drop
def jg:=@List.length_cons
def j9:=@List.pairwise_iff_getElem
def jI:=@Array.getD_eq_getD_getElem?
def jf:=@Bool.not_eq_true
def iO:=@Int.tmod_eq_emod_of_nonneg
def jK:=@List.drop_drop
def iP:=@List.filter_append
def jh:=@List.nodup_cons
def jM:=@Nat.mul_le_mul_right
def iS:=@beq_iff_eq
def kb:=@bne_self_eq_false
def jN:=@beq_false
def ie:=@Bool.false_eq_true
def jL:=@List.drop_eq_getElem_cons
def j7:=@List.getElem?_eq_none
def kJ:=@Nat.lt_of_lt_of_le
def kK:=@Nat.pow_le_pow_right
def ka:=@Nat.zero_add
def kH:=@Bool.false_or
def lz:=@List.ext_getElem?
def j8:=@List.length_filter_le
def mB:=@List.mem_flatMap
def lB:=@List.nodup_nil
def lC:=@List.pairwise_append
def lD:=@List.pairwise_map
def kM:=@Ne.symm
def mA:=@List.flatten_cons
def kI:=@List.mem_iff_getElem
def kL:=@Nat.two_pow_pos
def nO:=@decide_eq_true_eq
def nC:=@Int.tdiv_eq_ediv_of_nonneg
def nD:=@List.Pairwise.filter
def q0:=@List.getElem?_set_self
def nF:=@List.map_id
def nH:=@List.mem_cons_self
def nJ:=@List.mem_or_eq_of_mem_set
def nK:=@Nat.beq_refl
def nL:=@Nat.lt_succ_self
def nM:=@Nat.succ_mul
def qX:=@Array.getElem?_toList
def pk:=@List.getElem?_set
def nI:=@List.mem_iff_getElem?
def pn:=@List.pairwise_cons
def pp:=@Option.ne_none_iff_exists'
def ph:=@Bool.eq_iff_iff
def qZ:=@List.eq_of_mem_replicate
def lA:=@List.map_congr_left
def nG:=@List.map_nil
def q2:=@List.pairwise_singleton
def q3:=@Nat.add_zero
def po:=@Nat.le_of_ble_eq_true
def q4:=@beq_self_eq_true
def pq:=@decide_eq_false_iff_not
def q5:=@decide_eq_true_iff
def qY:=@Bool.eq_false_iff
def pj:=@Bool.true_and
def uO:=@Classical.not_not
def uP:=@List.drop_zero
def uQ:=@List.filter_congr
def uR:=@List.getElem?_map
def uS:=@List.mem_filterMap
def uT:=@List.nodup_range
def uU:=@Nat.succ_le_of_lt
def uW:=@Option.map_none
def nN:=@beq_eq_false_iff_ne
def y5:=@Array.getElem?_eq_some_iff
def uN:=@Array.toList_map
def y6:=@List.append_eq_nil_iff
def y7:=@List.countP_append
def y8:=@List.eq_nil_iff_forall_not_mem
def q1:=@List.not_mem_nil
def za:=@List.size_toArray
def zb:=@Nat.ble_eq_true_of_le
def uV:=@Option.getD_some
def zc:=@Option.isSome_iff_exists
def zd:=@Option.toList_none
def GW:=@Array.getElem?_replicate
def y9:=@List.length_range
def GX:=@List.perm_ext_iff_of_nodup
inductive Ty where
 |int (k:IntKind)|bool|bR|bG
 |slice (t:Ty)
 |unit|cons (t r:Ty)
 |arr (n:Nat) (t:Ty)
 deriving DecidableEq
def Ty.ai:Ty->Type
 | .int _=>Int
 | .bool=>Bool
 | .bR=>List UInt8
 | .bG=>Unit
 | .slice t=>List t.ai
 | .unit=>Unit
 | .cons t r=>t.ai×r.ai
 | .arr _ t=>List t.ai
def Ty.size:Ty->Nat
 | .unit=>0
 | .cons t r=>t.size+r.size
 | .arr n t=>n*t.size
 |_=>1
def Ty.aW:Ty->Bool
 | .slice _=>false
 | .bG=>false
 | .cons t r=>t.aW&&r.aW
 | .arr _ t=>t.aW
 |_=>true
def Ty.agg:Ty->Bool
 | .unit| .cons _ _| .arr _ _=>true
 |_=>false
def Ty.cC:Ty->Prop
 | .cons t r=>t.cC/\r.cC/\(r=.unit\/∃c d,r=.cons c d)
 | .slice t=>t.cC
 | .arr _ t=>t.cC
 |_=>True
def Ty.iE:Ty->Bool
 | .cons t r=>t.iE&&r.iE&&(match r with
  | .unit=>true
  | .cons _ _=>true
  |_=>false)
 | .slice t=>t.iE
 | .arr _ t=>t.iE
 |_=>true
def Ty.oJ {t:Ty} (h:t.iE=true):t.cC:=by
 induction t with
 |slice t b=>exact b h
 |arr n t b=>exact b h
 |cons t r d c=>
  simp only [Ty.iE,bt] at h;refine ⟨d h.1.1,c h.1.2,?_⟩
  grind
 |_=>trivial
inductive FT where
 |leaf
 |node (b:Option Nat) (cap:Nat) (dX:List FT)
 |eE (a r:FT)
def FT.fst:FT->FT
 | .eE a _=>a
 |_=>.leaf
def FT.snd:FT->FT
 | .eE _ r=>r
 |_=>.leaf
mutual
def FT.ae:FT->List Nat
 | .leaf=>[]
 | .node b _ c=>b.toList++FT.bq c
 | .eE a r=>a.ae++r.ae
def FT.bq:List FT->List Nat
 |[]=>[]
 |k::b=>k.ae++FT.bq b
end
def At (w:World) (b o n:Nat) (cs:List Value):Prop:=
 ∃row e fz,w.heap[b]?=some (.cells row e fz)/\o+n<=row.size/\(row.toList.drop o).take n=cs
def eL:Nat:=140737488355328
def sub (cs:List Value) (o n:Nat):List Value:=(cs.drop o).take n
def bJ:(t:Ty)->t.ai->List Value
 | .int k,x=>[.int k x]
 | .bool,x=>[.bool x]
 | .bR,x=>[.string ⟨List.toArray (α:=UInt8) x⟩]
 | .cons t r,x=>bJ t x.1++bJ r x.2
 | .arr _ t,xs=>(List.map (bJ t) xs).flatten
 |_,_=>[]
def dl:(t:Ty)->t.ai->Prop
 | .bR,x=>List.length (α:=UInt8) x<=eL
 | .cons t r,x=>dl t x.1/\dl r x.2
 | .arr n t,xs=>List.length (α:=t.ai) xs=n/\∀x∈(show List t.ai from xs),dl t x
 | .slice _,_=>False
 | .bG,_=>False
 |_,_=>True
def bd (w:World):(t:Ty)->t.ai->FT->List Value->Prop
 | .slice t,xs,ft,cs=>∃b cap d,ft=.node b cap d/\cs=[.slice (b.map (⟨·,0,none⟩)) (List.length (α:=t.ai) xs) cap]/\
  List.length (α:=t.ai) xs<=cap/\List.length (α:=t.ai) xs<=eL/\d.length=List.length (α:=t.ai) xs/\
  (match b with
   |none=>cap=0
   |some b=>(∃row e,w.heap[b]?=some (.cells row e (0,0))/\cap*t.size=row.size)/\
    ∀(i:Nat) (x:t.ai) (k:FT),(show List t.ai from xs)[i]?=some x->d[i]?=some k->∃c,At w b (i*t.size) t.size c/\bd w t x k c)
 | .cons t r,x,ft,cs=>ft.ae=ft.fst.ae++ft.snd.ae/\∃f g,cs=f++g/\bd w t x.1 ft.fst f/\bd w r x.2 ft.snd g
 | .bG,_,_,_=>False
 |t,x,ft,cs=>t.aW=true/\dl t x/\ft.ae=[]/\cs=bJ t x
def Rd (w:World) (R:Nat->Prop):(t:Ty)->t.ai->List Value->Prop
 | .slice t,xs,cs=>∃a cap,cs=[.slice a (List.length (α:=t.ai) xs) cap]/\(List.length (α:=t.ai) xs<=cap/\List.length (α:=t.ai) xs<=eL)/\
  ((show List t.ai from xs)≠[]->∃b o,a=some ⟨b,o,none⟩/\R b/\
    ∀(i:Nat) (x:t.ai),(show List t.ai from xs)[i]?=some x->∃c,At w b (o+i*t.size) t.size c/\Rd w R t x c)
 | .cons t r,x,cs=>∃d e,cs=d++e/\Rd w R t x.1 d/\Rd w R r x.2 e
 | .bG,_,_=>False
 |t,x,cs=>t.aW=true/\dl t x/\cs=bJ t x
theorem At.len {w:World} {b o n:Nat} {cs:List Value} (h:At w b o n cs):cs.length=n:=by
 obtain ⟨row,e,fz,_,c,rfl⟩:=h;simp;omega
theorem At.bT {w w':World} {b o n:Nat} {cs:List Value} (c:w'.heap[b]?=w.heap[b]?) (h:At w b o n cs):At w' b o n cs:=by
 unfold At at*;rw [c];exact h
theorem hb:∀(t:Ty) (x:t.ai),t.aW=true->dl t x->(bJ t x).length=t.size
 | .int _,_,_,_=>rfl
 | .bool,_,_,_=>rfl
 | .bR,_,_,_=>rfl
 | .bG,_,h,_=>by simp [Ty.aW] at h
 | .slice _,_,h,_=>by simp [Ty.aW] at h
 | .unit,_,_,_=>rfl
 | .cons t r,x,h,hk=>by
  simp only [Ty.aW,bt] at h;simp only [bJ,ea,Ty.size];rw [hb t x.1 h.1 hk.1,hb r x.2 h.2 hk.2]
 | .arr n t,xs,h,hk=>by
  have d:List.length (α:=t.ai) xs=n:=hk.1;have c:=hk.2;simp only [bJ,Ty.size];rw [<-d];clear hk d;revert c;generalize b:(show List t.ai from xs)=l;change (∀x∈l,dl t x)->_;have:xs=l:=b;subst this;intro c;have key:∀l:List t.ai,(∀x∈l,dl t x)->((l.map (bJ t)).flatten).length=l.length*t.size:=by
   intro l
   induction l with
   |nil=>intro _;simp
   |cons a l f=>
    intro b;simp only [fJ,mA,ea,jg];rw [hb t a h (b a (by simp)),f (λx e=>b x (by simp [e]))]
    grind
  exact key _ c
theorem bd.bT {w w':World}:∀(t:Ty) (x:t.ai) (ft:FT) (cs:List Value),(∀b∈ft.ae,w'.heap[b]?=w.heap[b]?)->bd w t x ft cs->bd w' t x ft cs
 | .int _,_,_,_,_,h=>h
 | .bool,_,_,_,_,h=>h
 | .bR,_,_,_,_,h=>h
 | .bG,_,_,_,_,h=>h
 | .unit,_,_,_,_,h=>h
 | .arr _ _,_,_,_,_,h=>h
 | .cons t r,x,ft,cs,d,h=>by
  obtain ⟨g,n,o,rfl,j,l⟩:=h;exact ⟨g,n,o,rfl,bd.bT t x.1 ft.fst n (λb m=>d b (by simp [g,m])) j,bd.bT r x.2 ft.snd o (λb m=>d b (by simp [g,m])) l⟩
 | .slice t,xs,ft,cs,d,h=>by
  obtain ⟨b,cap,f,rfl,rfl,j,l,q,h4⟩:=h;refine ⟨b,cap,f,rfl,rfl,j,l,q,?_⟩;cases b with
  |none=>exact h4
  |some b=>
   obtain ⟨⟨row,e,h5,h6⟩,u⟩:=h4;have e0:w'.heap[b]?=w.heap[b]?:=d b (by simp [FT.ae]);refine ⟨⟨row,e,by rw [e0];exact h5,h6⟩,λi x k z hk=>?_⟩;obtain ⟨c,v,y⟩:=u i x k z hk;refine ⟨c,v.bT e0,bd.bT t x k c (λC m=>d C ?_) y⟩;have D:k∈f:=cz hk;clear hk z y v u q d h5 h6 e0;simp only [FT.ae,bp];right
   induction f with
   |nil=>cases D
   |cons k' f I=>
    simp only [FT.bq,bp]
    grind
theorem Rd.bT {w w':World} {R j:Nat->Prop} (d:∀b,R b->j b) (e:∀b,R b->w'.heap[b]?=w.heap[b]?):∀(t:Ty) (x:t.ai) (cs:List Value),Rd w R t x cs->Rd w' j t x cs
 | .int _,_,_,h=>h
 | .bool,_,_,h=>h
 | .bR,_,_,h=>h
 | .bG,_,_,h=>h
 | .unit,_,_,h=>h
 | .arr _ _,_,_,h=>h
 | .cons t r,x,cs,h=>by
  obtain ⟨l,n,rfl,f,g⟩:=h;exact ⟨l,n,rfl,Rd.bT d e t x.1 l f,Rd.bT d e r x.2 n g⟩
 | .slice t,xs,cs,h=>by
  obtain ⟨a,cap,rfl,f,g⟩:=h;refine ⟨a,cap,rfl,f,λy=>?_⟩;obtain ⟨b,o,rfl,q,u⟩:=g y;refine ⟨b,o,rfl,d b q,λi x C=>?_⟩;obtain ⟨c,v,z⟩:=u i x C;exact ⟨c,v.bT (e b q),Rd.bT d e t x c z⟩
theorem bd.len {w:World}:∀(t:Ty) (x:t.ai) (ft:FT) (cs:List Value),bd w t x ft cs->cs.length=t.size
 | .int _,_,_,_,h=>by obtain ⟨_,_,_,rfl⟩:=h;rfl
 | .bool,_,_,_,h=>by obtain ⟨_,_,_,rfl⟩:=h;rfl
 | .bR,_,_,_,h=>by obtain ⟨_,_,_,rfl⟩:=h;rfl
 | .bG,_,_,_,h=>h.elim
 | .unit,_,_,_,h=>by obtain ⟨_,_,_,rfl⟩:=h;rfl
 | .arr _ _,_,_,_,h=>by obtain ⟨c,d,_,rfl⟩:=h;exact hb _ _ c d
 | .cons t r,x,_,_,h=>by
  obtain ⟨_,e,f,rfl,c,d⟩:=h;simp [Ty.size,bd.len t x.1 _ e c,bd.len r x.2 _ f d]
 | .slice t,xs,ft,cs,h=>by obtain ⟨b,cap,g,_,rfl,_⟩:=h;rfl
theorem Rd.len {w:World} {R:Nat->Prop}:∀(t:Ty) (x:t.ai) (cs:List Value),Rd w R t x cs->cs.length=t.size
 | .int _,_,_,h=>by obtain ⟨_,_,rfl⟩:=h;rfl
 | .bool,_,_,h=>by obtain ⟨_,_,rfl⟩:=h;rfl
 | .bR,_,_,h=>by obtain ⟨_,_,rfl⟩:=h;rfl
 | .bG,_,_,h=>h.elim
 | .unit,_,_,h=>by obtain ⟨_,_,rfl⟩:=h;rfl
 | .arr _ _,_,_,h=>by obtain ⟨b,c,rfl⟩:=h;exact hb _ _ b c
 | .cons t r,x,_,h=>by
  obtain ⟨d,e,rfl,b,c⟩:=h;simp [Ty.size,Rd.len t x.1 d b,Rd.len r x.2 e c]
 | .slice t,xs,cs,h=>by obtain ⟨a,cap,rfl,_⟩:=h;rfl
theorem bd.rd {w:World} {R:Nat->Prop}:∀(t:Ty) (x:t.ai) (ft:FT) (cs:List Value),(∀b∈ft.ae,R b)->bd w t x ft cs->Rd w R t x cs
 | .int _,_,_,_,_,h=>⟨h.1,h.2.1,h.2.2.2⟩
 | .bool,_,_,_,_,h=>⟨h.1,h.2.1,h.2.2.2⟩
 | .bR,_,_,_,_,h=>⟨h.1,h.2.1,h.2.2.2⟩
 | .bG,_,_,_,_,h=>h
 | .unit,_,_,_,_,h=>⟨h.1,h.2.1,h.2.2.2⟩
 | .arr _ _,_,_,_,_,h=>⟨h.1,h.2.1,h.2.2.2⟩
 | .cons t r,x,ft,cs,e,h=>by
  obtain ⟨o,l,n,rfl,f,g⟩:=h;exact ⟨l,n,rfl,bd.rd t x.1 _ l (λb m=>e b (by simp [o,m])) f,bd.rd r x.2 _ n (λb m=>e b (by simp [o,m])) g⟩
 | .slice t,xs,ft,cs,e,h=>by
  obtain ⟨b,cap,d,rfl,rfl,f,g,y,h4⟩:=h;refine ⟨_,cap,rfl,⟨f,g⟩,λC=>?_⟩;cases b with
  |none=>
   subst h4
   grind
  |some b=>
   refine ⟨b,0,rfl,e b (by simp [FT.ae]),λi x u=>?_⟩;have hi:i<d.length:=by
    grind
   obtain ⟨c,z,q⟩:=h4.2 i x d[i] u (ba hi);refine ⟨c,by simp_all,bd.rd t x d[i] c (λv m=>e v ?_) q⟩;have j:d[i]∈d:=cZ hi;revert m j;generalize d[i]=k;clear u q z h4 y e hi;intro m j;simp only [FT.ae,bp];right
   induction d with
   |nil=>cases j
   |cons k' d D=>
    simp only [FT.bq,bp]
    grind
inductive adB where
 |f (n:Nat)
 |i (n:Nat)
 deriving DecidableEq
abbrev aM:=List adB
def aM.dC:aM->Bool
 |[]=>false
 | .i _::_=>true
 | .f _::p=>aM.dC p
def cD:Ty->aM->Option Ty
 |t,[]=>some t
 | .cons t _,.f 0::p=>cD t p
 | .cons _ r,.f (n+1)::p=>cD r (.f n::p)
 | .slice t,.i _::p=>cD t p
 | .arr _ t,[.i _]=>if t.agg then none else some t
 |_,_=>none
inductive TV where
 |un
 |ad (t:Ty) (x:t.ai)
 |ab (t:Ty) (x:t.ai)
 |nil
 |unit
 |cons (a r:TV)
 |tup (a:TV)
 |ref (b:Nat) (p:aM)
 |sl (b:Nat) (p:aM)
 |slw (b:Nat) (p:aM) (lo len:Nat)
 |bw (t:Ty) (x:t.ai)
 |bY (f:Nat) (c:TV)
 |mp (b:Nat)
structure bl where
 ty:Ty
 cn:Bool
 dD:Bool
 c:TV
structure St where
 tmps:List (Nat×TV)
 cg:List (Nat×bl)
 sv:List (List (Nat×TV)):=[]
def lk {α:Type} (l:List (Nat×α)) (n:Nat):Option α:=
 match l with
 |[]=>none
 |(k,v)::r=>if Nat.beq k n then some v else lk r n
def St.fZ (s:St) (i n:Nat):TV:=(lk (s.sv.getD i []) n).getD .un
def St.get (s:St) (n:Nat):TV:=(lk s.tmps n).getD .un
def St.put (s:St) (n:Nat) (v:TV):St:={s with tmps:=(n,v)::s.tmps}
def St.box (s:St) (n:Nat):Option bl:=lk s.cg n
def bD {α:Type} (l:List (Nat×α)) (n:Nat) (v:α):List (Nat×α):=
 match l with
 |[]=>[]
 |(k,x)::r=>if Nat.beq k n then (k,v)::r else (k,x)::bD r n v
def St.b4 (s:St) (n:Nat) (b:bl):St:={s with cg:=bD s.cg n b}
def cG (a b:Ty) (x:a.ai):Option b.ai:=
 match decEq a b with
 | .isTrue h=>some (h▸x)
 | .isFalse _=>none
def oM {α:Type} (l:List α) (i:Int):Option α:=
 match i with
 | .ofNat n=>l[n]?
 | .negSucc _=>none
def iG {α:Type} (l:List α) (n:Nat):Option α:=l[n]?
def lone:Ty->aM->Bool
 | .slice _,[]=>true
 | .cons t r,.f 0::p=>lone t p&&r.aW
 | .cons t r,.f (n+1)::p=>t.aW&&lone r (.f n::p)
 |_,_=>false
def agC:TV->Bool
 | .tup (.cons (.ab (.slice _) _) (.ab (.slice .bool) _))=>true
 |_=>false
section
variable {Z:Type}
def ch:(t:Ty)->t.ai->aM->((u:Ty)->u.ai->Option Z)->Option Z
 |t,x,[],k=>k t x
 | .cons t _,x,.f 0::p,k=>ch t x.1 p k
 | .cons _ r,x,.f (n+1)::p,k=>ch r x.2 (.f n::p) k
 | .slice t,xs,.i n::p,k=>match iG (α:=t.ai) xs n with
  |some x=>ch t x p k
  |none=>none
 | .arr _ t,xs,.i n::p,k=>if t.agg then none else match iG (α:=t.ai) xs n with
  |some x=>ch t x p k
  |none=>none
 |_,_,_,_=>none
def dM:(t:Ty)->t.ai->aM->(u:Ty)->u.ai->(t.ai->Option Z)->Option Z
 |t,_,[],u,y,k=>match cG u t y with
  |some z=>k z
  |none=>none
 | .cons t _,x,.f 0::p,u,y,k=>dM t x.1 p u y λa=>k (a,x.2)
 | .cons _ r,x,.f (n+1)::p,u,y,k=>dM r x.2 (.f n::p) u y λa=>k (x.1,a)
 | .slice t,xs,.i n::p,u,y,k=>match iG (α:=t.ai) xs n with
  |some x=>dM t x p u y λa=>k (List.set (α:=t.ai) xs n a)
  |none=>none
 | .arr _ t,xs,.i n::p,u,y,k=>if t.agg then none else match iG (α:=t.ai) xs n with
  |some x=>dM t x p u y λa=>k (List.set (α:=t.ai) xs n a)
  |none=>none
 |_,_,_,_,_,_=>none
def ql:TV->Nat->aM->(TV->Option Z)->Option Z
 | .cons (.ab (.slice t) xs) (.ab (.slice .bool) b),n,p,k=>match iG (α:=t.ai) xs n with
  |some x=>match iG (α:=Bool) b n with
   |some g=>ch t x p λu y=>cond (cond (aM.dC p|| !u.aW) g false) none (k (if u.aW then .ad u y else .ab u y))
   |none=>none
  |none=>none
 |_,_,_,_=>none
def nw:TV->Nat->aM->TV->(TV->Option Z)->Option Z
 | .cons (.ab (.slice t) xs) (.ab (.slice .bool) b),n,p,v,k=>match iG (α:=t.ai) xs n with
  |some x=>match iG (α:=Bool) b n with
   |some g=>cond g none (match v with
    | .un=>if lone t p then k (.tup (.cons (.ab (.slice t) xs) (.ab (.slice .bool) (List.set (α:=Bool) b n true)))) else none
    | .ab u y=>dM t x p u y λa=>k (.tup (.cons (.ab (.slice t) (List.set (α:=t.ai) xs n a)) (.ab (.slice .bool) b)))
    | .ad u y=>if u.aW then dM t x p u y λa=>k (.tup (.cons (.ab (.slice t) (List.set (α:=t.ai) xs n a)) (.ab (.slice .bool) b))) else none
    |_=>none)
   |none=>none
  |none=>none
 |_,_,_,_,_=>none
def Vw:TV->(Nat->Option Z)->Option Z
 | .cons (.ab (.slice t) xs) (.ab (.slice .bool) _),k=>k (List.length (α:=t.ai) xs)
 |_,_=>none
def c7:TV->aM->(TV->Option Z)->Option Z
 |c,[],k=>k c
 | .ab t x,p,k=>ch t x p λu y=>k (.ab u y)
 | .ad t x,p,k=>if aM.dC p then none else ch t x p λu y=>k (.ad u y)
 | .cons a _,.f 0::p,k=>c7 a p k
 | .cons _ r,.f (n+1)::p,k=>c7 r (.f n::p) k
 | .tup c,.i n::p,k=>ql c n p k
 |_,_,_=>none
def TV.c6:TV->TV
 | .ab (.cons t r) x=>.cons (.ab t x.1) (.ab r x.2)
 | .ab .unit _=>.unit
 | .ad (.cons t r) x=>.cons (.ad t x.1) (.ad r x.2)
 | .ad .unit _=>.unit
 |c=>c
def TV.du:(t:Ty)->TV->Option t.ai
 |t,.ab u x=>cG u t x
 | .int k,.ad u x=>cG u (.int k) x
 | .bool,.ad u x=>cG u .bool x
 | .bR,.ad u x=>cG u .bR x
 | .slice t,.nil=>some ([]:List t.ai)
 | .unit,.unit=>some ()
 | .unit,.ad .unit _=>some ()
 | .cons t r,.cons a d=>match du t a with
  |some x=>match du r d with
   |some y=>some (x,y)
   |none=>none
  |none=>none
 | .cons t r,.ad (.cons c b) x=>match du t (.ad c x.1) with
  |some a=>match du r (.ad b x.2) with
   |some y=>some (a,y)
   |none=>none
  |none=>none
 |_,_=>none
def dE (mk:(t:Ty)->t.ai->TV):(t:Ty)->t.ai->aM->TV->(TV->Option Z)->Option Z
 |_,_,[],v,k=>k v
 | .cons t r,x,.f 0::p,v,k=>dE mk t x.1 p v λa=>k (.cons a (mk r x.2))
 | .cons t r,x,.f (n+1)::p,v,k=>dE mk r x.2 (.f n::p) v λa=>k (.cons (mk t x.1) a)
 |_,_,_,_,_=>none
def bP:TV->aM->TV->(TV->Option Z)->Option Z
 |_,[],v,k=>k v
 | .ab t x,p,v,k=>match v with
  | .ab u y=>dM t x p u y λz=>k (.ab t z)
  | .ad u y=>if u.aW then dM t x p u y λz=>k (.ab t z) else dE .ab t x p (.ad u y) k
  |v=>dE .ab t x p v k
 | .ad t x,p,v,k=>dE .ad t x p v k
 | .cons a r,.f 0::p,v,k=>bP a p v λa=>k (.cons a r)
 | .cons a r,.f (n+1)::p,v,k=>bP r (.f n::p) v λr=>k (.cons a r)
 | .tup c,.i n::p,v,k=>nw c n p v k
 |_,_,_,_=>none
end
structure D where
 t:Ty
 x:t.ai
inductive PM where
 |ro (t:Ty)
 |bw (t:Ty)
 |ptr (t:Ty)
 |mut (t:Ty)
 |ab (t:Ty)
 |bY (f:Nat) (b:List PM)
structure aA where
 params:List PM
 results:List Ty
 h:{Z:Type}->List D->(List D->List D->Option Z)->Option Z
def aA.g (c:aA) (ds:List D):Option (List D×List D):=c.h ds λd b=>some (d,b)
def aA.bu (c:aA):Prop:=∀(Z:Type) (ds:List D) (k:List D->List D->Option Z),c.h ds k=match c.g ds with
 |none=>none
 |some (d,b)=>k d b
structure mL where
 ab:List (Nat×Ty)
 ah8:List Nat
 ts:List Nat
 bs:List Nat
structure dx where
 run:{Z:Type}->St->List TV->(St->TV->Option Z)->Option Z
 hW:Bool:=false
structure an where
 nt:Nat
 ty:List (Nat×Ty)
 fn:Nat->List Nat->Option aA
 dW:List (Nat×mL)
 fo:Nat:=1
 Nz:List Nat:=[]
 maps:List (Nat×Ty):=[]
 inl:Nat->List Nat->Option dx:=λ_ _=>none
def aM.fp:aM->aM->Option aM
 |[],q=>some q
 | .f m::p,.f n::q=>if Nat.beq m n then aM.fp p q else none
 | .i _::p,.i _::q=>aM.fp p q
 |_,_=>none
def TV.aw (b:Nat) (p:aM):TV->TV
 | .ref c q=>if Nat.beq b c then (match aM.fp p q with|some r=>if aM.dC r then .un else .ref c q|none=>.ref c q) else .ref c q
 | .sl c q=>if Nat.beq b c then (match aM.fp p q with|some _=>.un|none=>.sl c q) else .sl c q
 | .slw c q lo n=>if Nat.beq b c then (match aM.fp p q with|some _=>.un|none=>.slw c q lo n) else .slw c q lo n
 | .mp c=>if Nat.beq b c then (match aM.fp p [] with|some _=>.un|none=>.mp c) else .mp c
 | .cons a r=>.cons (a.aw b p) (r.aw b p)
 | .tup a=>.tup (a.aw b p)
 | .bY f d=>.bY f (d.aw b p)
 |v=>v
def bl.aw (b:Nat) (p:aM) (x:bl):bl:={x with c:=x.c.aw b p}
def St.aw (s:St) (b:Nat) (p:aM):St:=
 {tmps:=s.tmps.map λx=>(x.1,x.2.aw b p),cg:=s.cg.map λx=>(x.1,x.2.aw b p),sv:=s.sv.map λl=>l.map λx=>(x.1,x.2.aw b p)}
def Lk:Value->TV
 | .int k n=>.ad (.int k) n
 | .bool b=>.ad .bool b
 | .string s=>if Nat.ble s.data.toList.length eL then .ad .bR s.data.toList else .un
 | .slice none 0 0=>.nil
 |_=>.un
def St.ev (s:St):Operand->TV
 | .tmp t=>s.get t
 | .const v=>Lk v
 | .func f=>.bY f .unit
 | .global _=>.un
def nB (b:Nat):(t:Ty)->t.ai->aM->Nat->TV
 | .slice _,_,p,_=>.sl b p
 | .cons t r,x,p,n=>
  if (Ty.cons t r).aW then .ad (.cons t r) x
  else .cons (nB b t x.1 (p++[.f n]) 0) (nB b r x.2 p (n+1))
 | .unit,_,_,_=>.unit
 |t,x,_,_=>if t.aW then .ad t x else .un
def uK (b:Nat):TV->aM->Nat->TV
 | .ab (.cons t r) x,p,n=>nB b (.cons t r) x p n
 | .ab t x,p,_=>nB b t x p 0
 | .cons a r,p,n=>.cons (uK b a (p++[.f n]) 0) (uK b r p (n+1))
 | .tup _,_,_=>.un
 |c,_,_=>c
section
variable {Z:Type}
def b5 (s:St) (b:Nat) (k:bl->Option Z):Option Z:=
 match s.box b with
 |some x=>k x
 |none=>none
def gY (s:St) (t:Ty):TV->(List t.ai->Option Z)->Option Z
 | .nil,k=>k []
 | .ad u x,k=>match cG u (.slice t) x with
  |some xs=>k xs
  |none=>none
 | .sl b p,k=>b5 s b λx=>c7 x.c p λc=>match c with
  | .ab u y=>match cG u (.slice t) y with
   |some xs=>k xs
   |none=>none
  | .tup (.ad u y)=>match cG u (.slice t) y with
   |some xs=>k xs
   |none=>none
  |_=>none
 | .slw b p lo n,k=>b5 s b λx=>c7 x.c p λc=>match c with
  | .ab u y=>match cG u (.slice t) y with
   |some xs=>k ((List.drop (α:=t.ai) lo xs).take n)
   |none=>none
  |_=>none
 |_,_=>none
def dL (s:St):(t:Ty)->TV->(t.ai->Option Z)->Option Z
 | .slice t,v,k=>gY s t v k
 | .cons t r,.cons a d,k=>dL s t a λx=>dL s r d λy=>k (x,y)
 | .unit,.unit,k=>k ()
 |t,.ad u x,k=>match cG u t x with
  |some y=>k y
  |none=>none
 |_,_,_=>none
def eu (K:Ty):Ty:=.cons K (.cons (.int .i64) .unit)
def k7:(K:Ty)->K.ai->K.ai->Bool
 | .int _,x,y=>(show Int from x)==(show Int from y)
 | .arr _ (.int _),x,y=>(show List Int from x)==(show List Int from y)
 |_,_,_=>false
def cX (K:Ty) (key:K.ai):List (K.ai×Int×Unit)->Int
 |[]=>0
 |e::r=>if k7 K key e.1 then e.2.1 else cX K key r
def dz (K:Ty) (key:K.ai) (v:Int):List (K.ai×Int×Unit)->List (K.ai×Int×Unit)
 |[]=>[(key,v,())]
 |e::r=>if k7 K key e.1 then (key,v,())::r else e::dz K key v r
def h0 (K:Ty) (c:TV) (k:List (K.ai×Int×Unit)->Option Z):Option Z:=
 match c with
 | .tup (.ab u xs)=>match cG u (.slice (eu K)) xs with
  |some y=>k y
  |none=>none
 |_=>none
def jV (K:Ty) (v:TV) (k:K.ai->Option Z):Option Z:=
 match v with
 | .ad u x=>match cG u K x with
  |some y=>k y
  |none=>none
 |_=>none
def eK:(t:Ty)->TV->(t.ai->Option Z)->Option Z
 |t,.ab u x,k=>match cG u t x with
  |some y=>k y
  |none=>none
 |t,.ad u x,k=>match cG u t x with
  |some y=>k y
  |none=>none
 | .slice _,.nil,k=>k []
 | .cons t r,.cons a d,k=>eK t a λx=>eK r d λy=>k (x,y)
 | .unit,.unit,k=>k ()
 |_,_,_=>none
def asInt (v:TV) (k:IntKind->Int->Option Z):Option Z:=
 match v with
 | .ad (.int b) n=>k b n
 |_=>none
def xW:List TV->Bool
 |[]=>true
 | .ad u _::r=>u.aW&&xW r
 |_=>false
def TV.LP:TV->Bool
 | .ref _ _=>true
 | .bw _ _=>true
 |_=>false
def TV.oD:TV->Option (List TV)
 | .unit=>some []
 | .cons a r=>if a.LP then (match r.oD with
  |some l=>some (a::l)
  |none=>none) else none
 |_=>none
def lX:TV->Nat
 | .bY f _=>f+1
 |_=>0
def TV.bX (p:Nat->Bool):TV->TV
 | .ref c q=>if p c then .ref c q else .un
 | .sl c q=>if p c then .sl c q else .un
 | .slw c q lo n=>if p c then .slw c q lo n else .un
 | .mp c=>if p c then .mp c else .un
 | .cons a r=>.cons (a.bX p) (r.bX p)
 | .tup a=>.tup (a.bX p)
 | .bY f b=>.bY f (b.bX p)
 |v=>v
def TV.drop (b:Nat) (v:TV):TV:=v.bX λc=> !Nat.beq b c
def oG {α:Type} (l:List (Nat×α)) (n:Nat):List (Nat×α):=
 match l with
 |[]=>[]
 |(k,x)::r=>if Nat.beq k n then oG r n else (k,x)::oG r n
def bl.bX (p:Nat->Bool) (x:bl):bl:={x with c:=x.c.bX p}
def St.drop (s:St) (b:Nat):St:=
 {tmps:=s.tmps.map λx=>(x.1,x.2.drop b),cg:=(oG s.cg b).map λx=>(x.1,x.2.bX λc=> !Nat.beq b c),sv:=s.sv.map λl=>l.map λx=>(x.1,x.2.drop b)}
def mem (l:List Nat) (n:Nat):Bool:=
 match l with
 |[]=>false
 |k::r=>if Nat.beq k n then true else mem r n
end
inductive Ex where
 |normal
 |exit (n:Nat)
 |ret
def hM:(t:Ty)->t.ai
 | .int _=>(0:Int)
 | .bool=>false
 | .bR=>([]:List UInt8)
 | .bG=>()
 | .slice t=>([]:List t.ai)
 | .unit=>()
 | .cons t r=>(hM t,hM r)
 | .arr n t=>List.replicate n (hM t)
def mz (t:Ty):TV:=match t with
 | .slice _=>.nil
 | .cons t r=>.cons (mz t) (mz r)
 | .unit=>.unit
 | .bG=>.un
 |t=>.ad t (hM t)
def Ty.fE:Ty->Bool
 | .bG=>false
 | .slice t=>t.fE
 | .cons t r=>t.fE&&r.fE
 | .arr _ t=>t.fE
 |_=>true
def bi:Nat:=4294967296
def an.iN (E:an) (t:Nat):Option Ty:=lk E.ty t
def TV.E6:TV->Bool
 | .ref _ _=>true
 |_=>false
section
variable {Z:Type}
def St.gq (s:St) (b:Nat):Bool:=match s.box b with
 |some x=>x.cn&& !x.dD&&agC x.c
 |none=>false
def ck (s:St):(t:Ty)->TV->(St->TV->(TV->TV)->Option Z)->Option Z
 | .slice t,.nil,k=>k s (.ab (.slice t) ([]:List t.ai)) id
 | .slice t,.sl b p,k=>if aM.dC p&& !s.gq b then k s (.sl b p) id else
  b5 s b λx=>c7 x.c p λc=>match c with
  | .ab u y=>if x.dD|| !decide (u=.slice t) then none else bP x.c p .un λc'=>k ((s.b4 b {x with c:=c'}).aw b p) (.ab u y) (λe=>e.aw b p)
  |_=>none
 | .slice t,.slw b p lo n,k=>if aM.dC p|| !Nat.beq lo 0 then none else
  b5 s b λx=>c7 x.c p λc=>match c with
  | .ab u y=>if x.dD then none else (match cG u (.slice t) y with
   |some z=>bP x.c p .un λc'=>k ((s.b4 b {x with c:=c'}).aw b p) (.ab (.slice t) (List.take (α:=t.ai) n z)) (λe=>e.aw b p)
   |none=>none)
  |_=>none
 | .cons t r,.cons a d,k=>ck s t a λs a' κ=>ck s r (κ d) λs h g=>k s (.cons (g a') h) (λe=>g (κ e))
 | .unit,.unit,k=>k s .unit id
 |t,.ad u x,k=>if decide (u=t) then k s (.ad u x) id else none
 | .bG,.ref b p,k=>k s (.ref b p) id
 | .bG,.bw t x,k=>k s (.bw t x) id
 | .bG,.bY f c,k=>k s (.bY f c) id
 | .bG,.mp b,k=>k s (.mp b) id
 |_,_,_=>none
def oY (t:Ty) (p:aM) (c:TV):TV:=
 match c with
 | .cons a d=>if aM.dC p then (match TV.du t (.cons a d) with
  |some y=>.ab t y
  |none=>.cons a d) else .cons a d
 | .ad (.arr n u) x=>if (Ty.arr n u).aW then .ab (.arr n u) x else .ad (.arr n u) x
 |c=>c
def lr (s:St) (t:Ty) (a v:TV) (k:St->Option Z):Option Z:=
 match a with
 | .ref d e=>ck s t v λs c κ=>match κ (.ref d e) with
  | .ref b p=>b5 s b λx=>if (x.cn&&p.isEmpty)|| !decide (cD x.ty p=some t) then none else bP x.c p (oY t p c) λc'=>
   match c with
   | .ad u _=>if u.aW then k (s.b4 b {x with c:=c'}) else k ((s.b4 b {x with c:=c'}).aw b p)
   |_=>k ((s.b4 b {x with c:=c'}).aw b p)
  |_=>none
 |_=>none
def gA:(t:Ty)->TV->Option TV
 | .slice t,.nil=>some (.ab (.slice t) ([]:List t.ai))
 | .slice _,.sl b p=>some (.sl b p)
 | .cons t r,.cons a d=>match gA t a with
  |some x=>match gA r d with
   |some y=>some (.cons x y)
   |none=>none
  |none=>none
 | .unit,.unit=>some .unit
 |t,.ad u x=>if decide (u=t) then some (.ad u x) else none
 |_,_=>none
def lq (s:St) (t:Ty) (a v:TV) (k:St->Option Z):Option Z:=
 match a with
 | .ref b p=>match gA t v with
  |some c=>b5 s b λx=>if (x.cn&&p.isEmpty)|| !decide (cD x.ty p=some t) then none else bP x.c p (oY t p c) λc'=>
   match c with
   | .ad u _=>if u.aW then k (s.b4 b {x with c:=c'}) else k ((s.b4 b {x with c:=c'}).aw b p)
   |_=>k ((s.b4 b {x with c:=c'}).aw b p)
  |none=>none
 |_=>none
def ku (s:St) (t:Ty) (a:TV) (k:TV->Option Z):Option Z:=
 match a with
 | .ref b p=>b5 s b λx=>if decide (cD x.ty p=some t) then c7 x.c p λc=>k (uK b c p 0) else none
 | .bw u x=>if decide (u=t) then k (.ad u x) else none
 |_=>none
def Lf (op:BinOp) (x y:Int):Option Bool:=
 match op with
 | .eql=>some (x==y)
 | .neq=>some (x !=y)
 | .lss=>some (decide (x<y))
 | .leq=>some (decide (x<=y))
 | .gtr=>some (decide (x>y))
 | .geq=>some (decide (x>=y))
 |_=>none
def Ty.qL:Ty->Nat
 | .cons t r=>max (t.qL+1) r.qL
 |_=>0
def Ty.plain:Ty->Bool
 | .int _| .bool| .bR| .unit=>true
 | .cons t r=>t.plain&&r.plain
 |_=>false
def iD:(t:Ty)->t.ai->t.ai->Bool
 | .int _,x,y=>(show Int from x)==(show Int from y)
 | .bool,x,y=>(show Bool from x)==(show Bool from y)
 | .bR,x,y=>(show List UInt8 from x)==(show List UInt8 from y)
 | .unit,_,_=>true
 | .cons t r,x,y=>iD t x.1 y.1&&iD r x.2 y.2
 |_,_,_=>false
def jS (op:BinOp) (c:IntKind) (x y:Int) (k:TV->Option Z):Option Z:=
 match op with
 | .shl=>match y with
  | .ofNat n=>k (.ad (.int c) (c.wrap (x*2^(min n c.bits))))
  | .negSucc _=>none
 | .shr=>match y with
  | .ofNat n=>k (.ad (.int c) (Int.fdiv x (2^(min n c.bits))))
  | .negSucc _=>none
 | .add=>k (.ad (.int c) (c.wrap (x+y)))
 | .sub=>k (.ad (.int c) (c.wrap (x-y)))
 | .mul=>k (.ad (.int c) (c.wrap (x*y)))
 | .quo=>match y with
  | .ofNat 0=>none
  | .ofNat (n+1)=>k (.ad (.int c) (c.wrap (Int.tdiv x (.ofNat (n+1)))))
  | .negSucc n=>k (.ad (.int c) (c.wrap (Int.tdiv x (.negSucc n))))
 | .rem=>match y with
  | .ofNat 0=>none
  | .ofNat (n+1)=>k (.ad (.int c) (Int.tmod x (.ofNat (n+1))))
  | .negSucc n=>k (.ad (.int c) (Int.tmod x (.negSucc n)))
 | .and=>k (.ad (.int c) (c.wrap ((BitVec.ofInt c.bits x&&&BitVec.ofInt c.bits y).toNat:Int)))
 | .or=>k (.ad (.int c) (c.wrap ((BitVec.ofInt c.bits x|||BitVec.ofInt c.bits y).toNat:Int)))
 | .xor=>k (.ad (.int c) (c.wrap ((BitVec.ofInt c.bits x^^^BitVec.ofInt c.bits y).toNat:Int)))
 |op=>match Lf op x y with
  |some b=>k (.ad .bool b)
  |none=>none
def NA:BinOp->Bool
 | .shl| .shr=>true
 |_=>false
def td (op:BinOp) (T:Option Ty) (a b:TV) (k:TV->Option Z):Option Z:=
 match a,b with
 | .ad (.int c) x,.ad (.int d) y=>if NA op||decide (c=d) then jS op c x y k else none
 | .ad .bR x,.ad .bR y=>
  match op with
  | .add=>if decide (List.length (α:=UInt8) x+List.length (α:=UInt8) y<=bi) then k (.ad .bR (List.append (α:=UInt8) x y)) else none
  | .eql=>k (.ad .bool ((show List UInt8 from x)==(show List UInt8 from y)))
  | .neq=>k (.ad .bool (!((show List UInt8 from x)==(show List UInt8 from y))))
  |_=>none
 | .ad .bool x,.ad .bool y=>if !decide (T=some .bool) then none else
  match op with
  | .eql=>k (.ad .bool ((show Bool from x)==(show Bool from y)))
  | .neq=>k (.ad .bool (!((show Bool from x)==(show Bool from y))))
  |_=>none
 | .ad (.cons t r) x,.ad u y=>
  if (Ty.cons t r).plain&&Nat.blt (Ty.cons t r).qL 9999&&decide (T=some (.cons t r)) then match cG u (.cons t r) y with
   |some y=>match op with
    | .eql=>k (.ad .bool (iD (.cons t r) x y))
    | .neq=>k (.ad .bool (!(iD (.cons t r) x y)))
    |_=>none
   |none=>none
  else none
 |_,_=>none
def jv (s:St):TV->(Nat->Option Z)->Option Z
 | .nil,k=>k 0
 | .ad (.slice t) x,k=>k (List.length (α:=t.ai) x)
 | .sl b p,k=>b5 s b λx=>c7 x.c p λc=>match c with
  | .ab (.slice t) y=>k (List.length (α:=t.ai) y)
  | .tup c=>Vw c k
  |_=>none
 | .slw _ _ _ n,k=>k n
 |_,_=>none
def eh (n:Nat) (i:Int) (k:Nat->Option Z):Option Z:=
 match i with
 | .ofNat m=>match Nat.blt m n with
  |true=>k m
  |false=>none
 | .negSucc _=>none
def m9 (s:St) (T:Ty) (x i:TV) (k:TV->Option Z):Option Z:=
 asInt i λ_ i=>match x with
 | .ad (.slice t) xs=>if decide (T=.slice t) then (match oM (α:=t.ai) xs i with
  |some a=>k (.bw t a)
  |none=>none) else none
 | .sl b p=>b5 s b λx=>if decide (cD x.ty p=some T) then (jv s (.sl b p) λn=>eh n i λm=>k (.ref b (p++[.i m]))) else none
 | .slw b p lo n=>b5 s b λx=>if decide (cD x.ty p=some T) then eh n i λm=>k (.ref b (p++[.i (lo+m)])) else none
 | .ref b p=>b5 s b λx=>if decide (cD x.ty p=some T) then (match T with
  | .arr n t=>if t.agg||Nat.ble n 1 then none else eh n i λm=>k (.ref b (p++[.i m]))
  |_=>none) else none
 |_=>none
def fV:TV->Nat->Option TV
 | .cons a _,0=>some a
 | .cons _ r,n+1=>fV r n
 | .ad (.cons t _) x,0=>some (.ad t x.1)
 | .ad (.cons _ r) x,n+1=>fV (.ad r x.2) n
 |_,_=>none
def TV.sz:TV->Nat
 | .ad t _=>t.size
 | .unit=>0
 | .cons a r=>a.sz+r.sz
 |_=>1
def TV.mn:TV->Bool
 | .un| .tup _| .ab _ _=>false
 |_=>true
def l4 {β:Type} (x:Nat×β):List (Nat×β)->List (Nat×β)
 |[]=>[x]
 |y::l=>match Nat.blt y.1 x.1 with
  |true=>y::l4 x l
  |false=>x::y::l
def o8 {β:Type}:List (Nat×β)->List (Nat×β)
 |[]=>[]
 |x::l=>l4 x (o8 l)
def g8 (s:St):(t:Ty)->Nat->List (Nat×Operand)->(TV->Option Z)->Option Z
 | .cons t r,n,(i,x)::b,k=>match Nat.beq i n with
  |true=>if (s.ev x).mn&&Nat.beq (s.ev x).sz t.size then g8 s r (n+1) b λd=>k (.cons (s.ev x) d) else none
  |false=>g8 s r (n+1) ((i,x)::b) λd=>k (.cons (mz t) d)
 | .cons t r,n,[],k=>g8 s r (n+1) [] λd=>k (.cons (mz t) d)
 | .unit,_,[],k=>k .unit
 |_,_,_,_=>none
def uu:Nat->List (Nat×Operand)->Bool
 |_,[]=>true
 |n,x::l=>Nat.beq x.1 n&&uu (n+1) l
def ob (s:St) (t:Ty) (kl:TV->TV):List TV->(St->List t.ai->Option Z)->Option Z
 |[],k=>k s []
 |v::vs,k=>ck s t (kl v) λs c κ=>match c.du t with
  |some x=>ob s t (λd=>κ (kl d)) vs λs xs=>k s (x::xs)
  |none=>none
def jY (s:St) (id:Nat) (x:bl) (k:St->Option Z):Option Z:=
 match Nat.beq (id%32) 0 with
 |true=>none
 |false=>match s.box id with
  |some _=>none
  |none=>k {s with cg:=(id,x)::s.cg}
def eg (o d:Nat):Nat:=d*32+o%32
def lf (s:St) (o d:Nat) (t:Ty) (xs:List t.ai) (k:St->Option Z):Option Z:=
 jY s (eg o d) ⟨.slice t,true,false,.ab (.slice t) xs⟩ λs=>k (s.put d (.sl (eg o d) []))
def qA (s:St) (o d:Nat) (t:Ty) (xs:List t.ai) (k:St->Option Z):Option Z:=
 jY s (eg o d) ⟨.slice t,true,false,.tup (.ad (.slice t) xs)⟩ λs=>k (s.put d (.sl (eg o d) []))
def x8 (t:Ty):List TV->Option (List t.ai)
 |[]=>some []
 | .ad u x::vs=>match cG u t x with
  |some y=>match x8 t vs with
   |some b=>some (y::b)
   |none=>none
  |none=>none
 |_=>none
def L7 (u:Ty) (vs:List TV):Option (List u.ai):=
 match u,vs with
 | .slice t,v::vs=>x8 (.slice t) (v::vs)
 |_,_=>none
def newVar (s:St) (o d:Nat) (t:Ty) (c:TV) (k:St->Option Z):Option Z:=
 jY s (eg o d) ⟨t,false,false,c⟩ λs=>k (s.put d (.ref (eg o d) []))
def ek (s:St):List PM->List TV->(St->List TV->(TV->TV)->Option Z)->Option Z
 |[],[],k=>k s [] id
 |m::b,v::vs,k=>match m with
  | .ab (.slice t)=>ck s (.slice t) v λs c κ=>match c.du (.slice t) with
   |some x=>ek s b (vs.map κ) λs vs d=>k s (.ab (.slice t) x::vs) (λe=>d (κ e))
   |none=>none
  | .ab _=>none
  |_=>ek s b vs λs vs κ=>k s (κ v::vs) κ
 |_,_,_=>none
def PM.fc:PM->Bool
 | .ptr _| .mut _=>true
 |_=>false
def cH (s:St):List PM->List TV->(St->List TV->(TV->TV)->Option Z)->Option Z
 |[],[],k=>k s [] id
 |m::d,v::vs,k=>match m,v with
  | .ptr t,.ref b []=>b5 s b λx=>if x.cn||d.any PM.fc|| !decide (x.ty=t) then none else match x.c.du t with
   |some y=>k (s.drop b) (.ab t y::vs.map (TV.drop b)) (TV.drop b)
   |none=>none
  | .ptr _,_=>none
  | .mut (.slice t),.nil=>if d.any PM.fc then none else k s (.ab (.slice t) ([]:List t.ai)::vs) id
  | .mut (.slice t),.sl b p=>if aM.dC p||d.any PM.fc then none else b5 s b λx=>c7 x.c p λc=>match c with
   | .ab u y=>if decide (u=.slice t) then bP x.c p .un λc'=>k (((s.b4 b {x with dD:=false}).b4 b {x with dD:=false,c:=c'}).aw b p) (.ab u y::vs.map (TV.aw b p)) (TV.aw b p) else none
   |_=>none
  | .mut _,_=>none
  |_,v=>cH s d vs λs vs κ=>k s (κ v::vs) κ
 |_,_,_=>none
def fU (s:St):PM->TV->(D->Option Z)->Option Z
 | .ro t,v,k=>dL s t v λx=>k ⟨t,x⟩
 | .bw t,.bw u x,k=>match cG u t x with
  |some y=>k ⟨t,y⟩
  |none=>none
 | .bw t,.ref b p,k=>b5 s b λx=>if decide (cD x.ty p=some t) then (c7 x.c p λc=>eK t c λy=>k ⟨t,y⟩) else none
 |_,_,_=>none
def tK (s:St):List PM->List TV->(List D->Option Z)->Option Z
 |[],[],k=>k []
 |m::b,v::vs,k=>fU s m v λd=>tK s b vs λds=>k (d::ds)
 |_,_,_=>none
def jx (s:St):PM->TV->(List D->Option Z)->Option Z
 | .ptr t,.ab u x,k=>if decide (u=t) then k [⟨u,x⟩] else none
 | .mut t,.ab u x,k=>if decide (u=t) then k [⟨u,x⟩] else none
 | .ab t,.ab u x,k=>if decide (u=t) then k [⟨u,x⟩] else none
 | .bY f c,.bY g b,k=>if Nat.beq f g then (match b.oD with
  |some l=>tK s c l k
  |none=>none) else none
 |m,v,k=>fU s m v λd=>k [d]
def iI (s:St):List PM->List TV->(List D->Option Z)->Option Z
 |[],[],k=>k []
 |m::b,v::vs,k=>jx s m v λd=>iI s b vs λds=>k (d++ds)
 |_,_,_=>none
def eA (s:St):PM->TV->List D->(St->List D->Option Z)->Option Z
 | .ptr t,.ref b [],d::ds,k=>if decide (d.t=t) then b5 s b λx=>k ((s.b4 b {x with c:=.ab d.t d.x}).aw b []) ds else none
 | .mut _,.nil,_::ds,k=>k s ds
 | .mut t,.sl b p,d::ds,k=>if decide (d.t=t) then b5 s b λx=>bP x.c p (.ab d.t d.x) λc=>
  match t with
  | .slice u=>if u.aW then k (s.b4 b {x with c:=c}) ds else k ((s.b4 b {x with c:=c}).aw b p) ds
  |_=>none
  else none
 | .ptr _,_,_,_=>none
 | .mut _,_,_,_=>none
 |_,_,ds,k=>k s ds
def gB (s:St):List PM->List TV->List D->(St->Option Z)->Option Z
 |[],[],[],k=>k s
 |m::b,v::vs,ds,k=>eA s m v ds λs ds=>gB s b vs ds k
 |_,_,_,_=>none
def fG (s:St) (id:Nat):(t:Ty)->t.ai->(St->Nat->TV->Option Z)->Option Z
 | .slice t,x,k=>jY s id ⟨.slice t,true,false,.ab (.slice t) x⟩ λs=>k s (id+1) (.sl id [])
 | .cons t r,x,k=>if (Ty.cons t r).aW then k s id (.ad (.cons t r) x) else fG s id t x.1 λs id a=>fG s id r x.2 λs id d=>k s id (.cons a d)
 | .unit,_,k=>k s id .unit
 |t,x,k=>if t.aW then k s id (.ad t x) else none
def nx (s:St) (id:Nat):List D->(St->TV->Option Z)->Option Z
 |[],k=>k s .unit
 |d::ds,k=>fG s id d.t d.x λs id a=>nx s id ds λs r=>k s (.cons a r)
def qM (s:St) (o:Nat) (dst:Option Nat) (b:List D) (k:St->Option Z):Option Z:=
 match dst with
 |none=>k s
 |some d=>nx s (eg o d) b λs v=>match b,v with
  |[_],.cons a .unit=>k (s.put d a)
  |_,v=>k (s.put d (.tup v))
def iZ (E:an) (s:St) (f:Nat) (vs:List TV) (dst:Option Nat) (k:St->Option Z):Option Z:=
 match E.fn f (vs.map lX) with
 |none=>match E.inl f (vs.map lX) with
  |none=>none
  |some I=>I.run s vs λs v=>match dst with
   |some d=>k (s.put d v)
   |none=>k s
 |some c=>ek s c.params vs λs vs _=>cH s c.params vs λs1 g _=>iI s1 c.params g λds=>c.h ds λe b=>gB s c.params vs b λs=>qM s E.fo dst e k
def nk (s:St) (t:Ty) (b:Ty) (v:TV) (k:St->List t.ai->(TV->TV)->Option Z):Option Z:=
 match b with
 | .bR=>match v with
  | .ad .bR x=>match cG (.slice (.int .u8)) (.slice t) (List.map (λc:UInt8=>(c.toNat:Int)) x) with
   |some xs=>k s xs id
   |none=>none
  |_=>none
 | .slice _=>if t.aW then gY s t v λxs=>k s xs id
  else ck s (.slice t) v λs c κ=>match c.du (.slice t) with
   |some xs=>k s xs κ
   |none=>none
 |_=>none
def p8 (s:St) (o d:Nat) (t e:Ty) (x y:TV) (k:St->Option Z):Option Z:=if !t.fE then none else
 nk s t e y λs b κ=>ck s (.slice t) (κ x) λs c _=>match c.du (.slice t) with
  |some xs=>match Nat.ble (List.length (α:=t.ai) xs+b.length) bi with
   |true=>lf s o d t (List.append (α:=t.ai) xs b) k
   |false=>none
  |none=>none
def r5 (xs:List Int) (lo:Nat) (b:List Int):List Int:=xs.take lo++b++xs.drop (lo+b.length)
def aqJ (s:St) (b:Nat) (p:aM) (lo:Nat) (f:List Int->List Int) (k:St->List Int->Option Z):Option Z:=b5 s b λbx=>match bx.c with
 | .ab T X=>ch T X p λu z=>match cG u (.slice (.int .i64)) z with
  |some xs=>dM T X p (.slice (.int .i64)) (r5 xs lo (f xs)) λd=>k (s.b4 b {bx with c:=.ab T d}) (f xs)
  |none=>none
 |_=>none
def aqK (s:St) (x:TV) (g:Nat->List Int) (k:St->List Int->Option Z):Option Z:=
 match x with
 | .sl b p=>aqJ s b p 0 (λxs=>g xs.length) k
 | .slw b p lo n=>aqJ s b p lo (λ_=>g n) k
 | .nil=>k s (g 0)
 |_=>none
def dm (o:Oper) (s:St) (k:St->Option Z) (v:TV):Option Z:=
 match o.dst with
 |some d=>k (s.put d v)
 |none=>k s
def jT (E:an) (o:Oper) (s:St) (b:Builtin) (ts:List Nat) (vs:List TV) (k:St->Option Z):Option Z:=
 match b,ts,vs with
 | .len,t::_,[v]=>match E.iN t with
  |some (.slice _)=>jv s v λn=>dm o s k (.ad (.int .i64) (n:Int))
  |some .bR=>match v with
   | .ad .bR x=>dm o s k (.ad (.int .i64) (List.length (α:=UInt8) x:Int))
   |_=>none
  |some .bG=>match lk E.maps t with
   |some K=>match v with
    | .mp b=>b5 s b λx=>h0 K x.c λxs=>dm o s k (.ad (.int .i64) (xs.length:Int))
    |_=>none
   |none=>none
  |_=>none
 | .append,[t,tx],[x,y]=>match E.iN t,E.iN tx,o.dst with
  |some (.slice t),some g,some d=>p8 s E.fo d t g x y k
  |_,_,_=>none
 | .min,_,[x,y]=>asInt x λe a=>asInt y λf b=>if decide (e=f) then dm o s k (.ad (.int e) (min (α:=Int) a b)) else none
 | .max,_,[x,y]=>asInt x λe a=>asInt y λf b=>if decide (e=f) then dm o s k (.ad (.int e) (max (α:=Int) a b)) else none
 | .copy,[t,_],[x,y]=>if decide (E.iN t=some (.slice (.int .i64))) then gY s (.int .i64) y λh=>aqK s x (λn=>List.take n h) λs zs=>dm o s k (.ad (.int .i64) ((List.length zs:Nat):Int)) else none
 | .clear,t::_,[x]=>if decide (E.iN t=some (.slice (.int .i64)))&&o.dst.isNone then aqK s x (λn=>List.replicate n (0:Int)) λs _=>k s else none
 |_,_,_=>none
def lV (n:Nat) (lo hi:Option TV) (k:Nat->Nat->Option Z):Option Z:=
 match hi with
 |none=>match lo with
  |none=>k 0 n
  |some v=>asInt v λ_ l=>eh (n+1) l λl=>k l n
 |some v=>asInt v λ_ h=>eh (n+1) h λh=>match lo with
  |none=>k 0 h
  |some v=>asInt v λ_ l=>eh (h+1) l λl=>k l h
def j2 (s:St) (T:Ty) (x:TV) (lo hi:Option TV) (k:TV->Option Z):Option Z:=
 match T with
 | .bR=>match x with
  | .ad .bR x=>lV (List.length (α:=UInt8) x) lo hi λl h=>k (.ad .bR ((List.take (α:=UInt8) h x).drop l))
  |_=>none
 | .slice t=>jv s x λn=>lV n lo hi λl h=>match x with
  | .ad (.slice u) x=>if decide (u=t) then k (.ad (.slice u) ((List.take (α:=u.ai) h x).drop l)) else none
  | .sl b p=>b5 s b λbx=>if decide (cD bx.ty p=some (.slice t)) then (match lo.isNone&&(Nat.beq l 0&&Nat.beq h n) with
   |true=>k (.sl b p)
   |false=>k (.slw b p l (h-l))) else none
  | .slw b p c _=>b5 s b λbx=>if decide (cD bx.ty p=some (.slice t)) then k (.slw b p (c+l) (h-l)) else none
  | .nil=>k .nil
  |_=>none
 |_=>none
def dT (E:an) (t:Nat) (k:Ty->Option Z):Option Z:=
 match E.iN t with
 |some T=>k T
 |none=>none
def arz (E:an):Operand->Bool
 | .tmp n=>mem E.Nz n
 |_=>false
def a8 (E:an) (o:Oper) (s:St) (k:St->Option Z):Option Z:=
 match o.op with
 | .move x| .assign x=>dm o s k (s.ev x)
 | .pick c a b=>match s.ev c with
  | .ad .bool t=>match t with
   |true=>dm o s k (s.ev a)
   |false=>dm o s k (s.ev b)
  |_=>none
 | .alloc t=>match o.dst with
  |some d=>dT E t λT=>if T.fE then newVar s E.fo d T (.ab T (hM T)) k else match T with
   | .bG=>newVar s E.fo d T .un k
   |_=>none
  |none=>none
 | .box t x=>match o.dst with
  |some d=>dT E t λT=>match mem E.Nz d with
   |true=>(match gA T (s.ev x) with
    |some c=>newVar s E.fo d T c k
    |none=>none)
   |false=>ck s T (s.ev x) λs c _=>newVar s E.fo d T c k
  |none=>none
 | .build t parts=>dT E t λT=>match T with
  | .cons a r=>if (Ty.cons a r).fE then g8 s (.cons a r) 0 (o8 parts.toList) λv=>if (Ty.cons a r).aW then dL s (.cons a r) v λx=>dm o s k (.ad (.cons a r) x) else dm o s k v else none
  | .arr n u=>match parts.toList with
   |[]=>dm o s k (.ad (.arr n u) (hM (.arr n u)))
   |[(0,x),(1,y)]=>if decide (Ty.arr n u=.arr 2 (.int .i64)) then (match s.ev x,s.ev y with
    | .ad (.int .i64) p,.ad (.int .i64) q=>dm o s k (.ad (.arr 2 (.int .i64)) (List.cons (α:=Int) p (List.cons (α:=Int) q [])))
    |_,_=>none) else none
   |_=>none
  |_=>none
 | .buildSlice t len parts=>match o.dst with
  |some d=>dT E t λT=>match T with
   | .slice u=>if Nat.beq parts.toList.length len&&uu 0 parts.toList&&u.fE&&Nat.ble (len*u.size) 16777216&&(Nat.blt 0 u.size) then (match L7 u (parts.toList.map λx=>s.ev x.2) with
    |some xs=>qA s E.fo d u xs k
    |none=>ob s u id (parts.toList.map λx=>s.ev x.2) λs xs=>lf s E.fo d u xs k) else none
   |_=>none
  |none=>none
 | .load t a=>dT E t λT=>ku s T (s.ev a) (dm o s k)
 | .store t a x=>dT E t λT=>match arz E x with
  |true=>lq s T (s.ev a) (s.ev x) k
  |false=>lr s T (s.ev a) (s.ev x) k
 | .nilCheck x=>match s.ev x with
  | .ref b p=>dm o s k (.ref b p)
  | .bw t y=>dm o s k (.bw t y)
  | .bY f c=>dm o s k (.bY f c)
  |_=>none
 | .binOp op t x y _=>td op (E.iN t) (s.ev x) (s.ev y) (dm o s k)
 | .unOp op _ x=>match op,s.ev x with
  | .not,.ad .bool b=>dm o s k (.ad .bool (!(show Bool from b)))
  | .neg,.ad (.int g) n=>jS .sub g 0 n (dm o s k)
  |_,_=>none
 | .convert u t x=>dT E u λU=>dT E t λT=>match U,T,s.ev x with
  | .int _,.int g,.ad (.int _) n=>dm o s k (.ad (.int g) (g.wrap n))
  | .slice (.int .u8),.bR,v=>gY s (.int .u8) v λxs=>dm o s k (.ad .bR (List.map (λn:Int=>UInt8.ofNat n.toNat) xs))
  |_,_,_=>none
 | .makeSlice t n c=>match o.dst with
  |some d=>dT E t λT=>match T with
   | .slice u=>asInt (s.ev n) λ_ n=>asInt (s.ev c) λ_ c=>match n,c with
    | .ofNat n,.ofNat c=>if Nat.beq n c&&Nat.ble n bi&&u.fE then lf s E.fo d u (List.replicate n (hM u)) k else none
    |_,_=>none
   |_=>none
  |none=>none
 | .makeMap t n=>match n,o.dst with
  |none,some d=>match lk E.maps t with
   |some K=>jY s (eg E.fo d) ⟨.slice (eu K),true,false,.tup (.ab (.slice (eu K)) (show List (K.ai×Int×Unit) from []))⟩ λs=>k (s.put d (.mp (eg E.fo d)))
   |none=>none
  |_,_=>none
 | .lookup t m x ok=>match ok,lk E.maps t,s.ev m with
  |false,some K,.mp b=>b5 s b λbx=>h0 K bx.c λxs=>jV K (s.ev x) λkey=>dm o s k (.ad (.int .i64) (cX K key xs))
  |_,_,_=>none
 | .mapUpdate t m x v=>match o.dst,lk E.maps t,s.ev m,s.ev v with
  |none,some K,.mp b,.ad (.int .i64) y=>b5 s b λbx=>if bx.cn then (h0 K bx.c λxs=>jV K (s.ev x) λkey=>k (s.b4 b {bx with c:=.tup (.ab (.slice (eu K)) (show List (K.ai×Int×Unit) from dz K key y xs))})) else none
  |_,_,_,_=>none
 | .slice h x lo hi max=>match max with
  |none=>dT E h λT=>j2 s T (s.ev x) (lo.map s.ev) (hi.map s.ev) (dm o s k)
  |some _=>none
 | .fieldAddr t x n=>dT E t λT=>match s.ev x with
  | .ref b p=>b5 s b λbx=>if decide (cD bx.ty p=some T) then (match cD T [.f n] with
   |some _=>dm o s k (.ref b (p++[.f n]))
   |none=>none) else none
  | .bw u y=>if decide (u=T) then ch u y [.f n] λu z=>dm o s k (.bw u z) else none
  |_=>none
 | .field t x n=>dT E t λT=>match s.ev x with
  | .ad u y=>if decide (u=T) then ch u y [.f n] λu z=>dm o s k (.ad u z) else none
  |_=>none
 | .indexAddr t x i=>dT E t λT=>m9 s T (s.ev x) (s.ev i) (dm o s k)
 | .index t x i=>dT E t λT=>asInt (s.ev i) λ_ i=>match T,s.ev x with
  | .bR,.ad .bR y=>match oM (α:=UInt8) y i with
   |some c=>dm o s k (.ad (.int .u8) (c.toNat:Int))
   |none=>none
  | .arr n t,.ad (.arr m u) y=>if decide (Ty.arr m u=Ty.arr n t) then (match oM (α:=u.ai) y i with
   |some c=>dm o s k (.ad u c)
   |none=>none) else none
  |_,_=>none
 | .extract x n=>match s.ev x with
  | .tup v=>match fV v n with
   |some v=>dm o s k v
   |none=>none
  |_=>none
 | .makeFunc fn first e=>match fn,first.toList with
  | .func f,[]=>if e.toList.all λx=>(s.ev x).E6 then dm o s k (.bY f (e.toList.foldr (λx r=>.cons (s.ev x) r) .unit)) else none
  |_,_=>none
 | .call c=>match c.callee with
  | .builtin b=>jT E o s b c.argTypes.toList (c.args.toList.map s.ev) k
  | .value f=>match s.ev f with
   | .bY f e=>match e.oD with
    |some l=>iZ E s f (c.args.toList.map s.ev++l) o.dst k
    |none=>none
   |_=>none
  |_=>none
 |_=>none
def c9 (E:an) (o:Oper) (s:St) (k:St->Option Z):Option Z:=
 match o.dst with
 |some d=>match Nat.blt d E.nt with
  |true=>match o.op with
   | .store _ _ _=>none
   |_=>a8 E o s k
  |false=>none
 |none=>a8 E o s k
def kA (E:an) (ops:Array Oper) (k:St->Option Z):List Oper->St->Option Z
 |[],s=>k s
 |o::bo,s=>match o.guard with
  |none=>c9 E o s (kA E ops k bo)
  |some (j,want)=>match (ops[j]?).bind (·.dst) with
   |none=>none
   |some d=>match s.get d with
    | .ad .bool b=>match b with
     |true=>if want then c9 E o (s.put d (.ad .bool true)) (kA E ops k bo) else kA E ops k bo (match o.dst with|some e=>(s.put d (.ad .bool true)).put e (.tup .unit)|none=>s.put d (.ad .bool true))
     |false=>if want then kA E ops k bo (match o.dst with|some e=>(s.put d (.ad .bool false)).put e (.tup .unit)|none=>s.put d (.ad .bool false)) else c9 E o (s.put d (.ad .bool false)) (kA E ops k bo)
    | .tup .unit=>kA E ops k bo (match o.dst with|some e=>s.put e (.tup .unit)|none=>s)
    |_=>none
def dP (o:Oper):List Nat:=(o.after.toList.filter λe=>Region.binds .any e).map (·.on)
def aon:Operand->Option Nat
 | .tmp t=>some t
 |_=>none
def eZ (ops:List Oper) (o:Oper):List Nat:=
 o.op.operands.toList.filterMap aon++(match o.guard with
 |some (j,_)=>((ops[j]?).bind (·.dst)).toList
 |none=>[])
def nc (t:Nat) (o:Oper):Bool:=match o.dst with
 |some d=>Nat.beq d t
 |none=>false
def g7:List Oper->List Nat->List Nat
 |[],acc=>acc
 |o::r,acc=>g7 r (acc++[(dP o).foldr (λj m=>(2^j|||acc.getD j 0)|||m) 0])
def KB (bs:List Nat) (i:Nat):Option (List Nat):=
 let un:=(List.range bs.length).filter λj=> !(Nat.beq j i||(if Nat.blt j i then (bs.getD i 0).testBit j else (bs.getD j 0).testBit i))
 if un.all λj=>Nat.blt j i then some un else none
def Ln (bs:List Nat) (ops:List Oper) (i:Nat) (o:Oper):Bool:=
 ((dP o).all λj=>Nat.blt j i)&&(match o.guard with
  |some (j,_)=>mem (dP o) j
  |none=>true)&&
 ((eZ ops o).all λt=>ops.zipIdx.all λx=> !nc t x.1||(mem (dP o) x.2||Nat.blt i x.2&&(bs.getD x.2 0).testBit i))&&
 (match o.dst with
  |some d=>ops.zipIdx.all λx=> !nc d x.1||Nat.beq x.2 i
  |none=>true)
def Lm (ops:List Oper):Bool:=ops.zipIdx.all λx=>Ln (g7 ops []) ops x.2 x.1
def jl (ops:List Oper):List (Option (List Nat)):=(List.range ops.length).map (KB (g7 ops []))
def qJ:Op->Bool
 | .move _| .assign _| .pick _ _ _| .load _ _| .nilCheck _| .binOp _ _ _ _ _| .unOp _ _ _| .convert _ _ _| .slice _ _ _ _ _
 | .fieldAddr _ _ _| .field _ _ _| .indexAddr _ _ _| .index _ _ _| .extract _ _| .build _ _| .alloc _| .makeSlice _ _ _| .makeMap _ _| .lookup _ _ _ _=>true
 | .call c=>match c.callee with
  | .builtin .len=>true
  |_=>false
 |_=>false
def PM.gv:PM->Bool
 | .ro _| .bw _=>true
 |_=>false
def TV.aI:TV->List Nat
 | .ref b _| .sl b _| .slw b _ _ _| .mp b=>[b]
 | .cons a r=>a.aI++r.aI
 | .tup a=>a.aI
 | .bY _ c=>c.aI
 |_=>[]
def aA.plain (c:aA):Bool:=c.params.all λm=>match m with
 | .bY _ _=>false
 |_=>true
def tk (E:an) (p:aA->Bool) (o:Oper) (s:St):Bool:=
 match o.op with
 | .call c=>match c.callee with
  | .value g=>match s.ev g with
   | .bY f .unit=>match E.fn f ((c.args.toList.map s.ev).map lX) with
    |some c'=>p c'
    |none=>false
   |_=>false
  |_=>false
 |_=>false
def L8 (o:Oper) (s:St):Bool:=
 match o.op with
 | .buildSlice _ _ b=>b.toList.all λx=>(s.ev x.2).aI.isEmpty
 |_=>false
def LQ (E:an) (o:Oper) (s:St):Bool:=qJ o.op||L8 o s||tk E (λc=>c.params.all PM.gv) o s
def E2 (E:an) (o:Oper) (s:St):Bool:=
 match o.op with
 | .call c=>match c.callee with
  | .value g=>match s.ev g with
   | .bY f .unit=>match E.fn f ((c.args.toList.map s.ev).map lX),E.inl f ((c.args.toList.map s.ev).map lX) with
    |none,some I=>I.hW
    |_,_=>false
   |_=>false
  |_=>false
 |_=>false
def qU (E:an) (o:Oper) (s:St):Bool:=
 match o.op with
 | .store _ _ _| .buildSlice _ _ _=>true
 | .call c=>match c.callee with
  | .builtin .append=>true
  |_=>tk E aA.plain o s||E2 E o s
 |_=>false
def EK (s:St) (B:List Nat) (b:Nat):Bool:= !mem B b&&(match s.box b with
 |some y=>y.c.aI.all λc=> !mem B c
 |none=>true)
def hh (o:Oper) (s:St):List Nat:=(o.op.operands.toList.map λx=>(s.ev x).aI).flatten
def lu:List PM->List TV->List Nat
 |m::b,v::vs=>(if m.gv then [] else v.aI)++lu b vs
 |_,_=>[]
def nq (E:an) (b:Bool) (o:Oper) (s:St) (k:St->Option Z):Option Z:=
 match b with
 |false=>c9 E o s k
 |true=>match o.dst,o.op with
  |none,.store t a x=>dT E t λT=>lq s T (s.ev a) (s.ev x) k
  |_,_=>none
def ib (E:an) (b:Bool) (o:Oper) (s:St):List Nat:=
 match o.op with
 | .store _ a _=>if b then (s.ev a).aI else hh o s
 | .call c=>match c.callee with
  | .builtin .append=>match c.argTypes.toList,c.args.toList with
   |[t,_],[x,_]=>match E.iN t with
    |some (.slice T)=>if T.aW then (s.ev x).aI else hh o s
    |_=>hh o s
   |_,_=>hh o s
  | .value g=>match s.ev g with
   | .bY f .unit=>match E.fn f ((c.args.toList.map s.ev).map lX) with
    |some c'=>lu c'.params (c.args.toList.map s.ev)
    |none=>match E.inl f ((c.args.toList.map s.ev).map lX) with
     |some I=>if I.hW then ((c.args.toList.map s.ev).headD .un).aI else hh o s
     |none=>hh o s
   |_=>hh o s
  |_=>hh o s
 |_=>hh o s
def k2 (ops:List Oper) (o:Oper):List Nat:=
 match o.op with
 | .extract _ _=>match o.guard with
  |some (j,_)=>((ops[j]?).bind (·.dst)).toList
  |none=>[]
 |_=>eZ ops o
def y3 (E:an) (c:Bool) (ops:List Oper) (U:List Nat) (o:Oper) (s:St):Bool:=
 (U.isEmpty&& !c)||(qU E o s&&U.all λj=>match ops[j]? with
  |none=>true
  |some p=>((eZ ops p).all λt=>ops.zipIdx.all λx=> !nc t x.1||(mem (dP p) x.2|| !mem U x.2))&&((k2 ops p++p.dst.toList).all λn=>(s.get n).aI.all λb=>EK s (ib E c o s) b)&&
   (match p.dst with
    |some d=>s.cg.all λx=> !Nat.beq (x.1/32) d||EK s (ib E c o s) x.1
    |none=>true))
def MV (any:Bool) (done:Nat):List (Nat×Bool×Nat)->Option (Nat×List (Nat×Bool×Nat))
 |[]=>none
 |x::l=>if (any||x.2.1)&&Nat.beq (Nat.land x.2.2 done) x.2.2 then some (x.1,l) else match MV any done l with
  |some (i,b)=>some (i,x::b)
  |none=>none
def yo:Nat->Nat->List (Nat×Bool×Nat)->List Nat
 |0,_,_=>[]
 |n+1,done,l=>match MV false done l with
  |some (i,b)=>i::yo n (Nat.lor (2^i) done) b
  |none=>match MV true done l with
   |some (i,b)=>i::yo n (Nat.lor (2^i) done) b
   |none=>[]
def mi:Nat->List Oper->List Nat->List (Nat×Bool×Nat)
 |i,o::os,b::bs=>(i,qJ o.op,b)::mi (i+1) os bs
 |_,_,_=>[]
def fF:List Nat->Nat->Nat
 |[],_=>0
 |k::r,n=>if Nat.beq k n then 0 else fF r n+1
def lm (p:List Nat) (o:Oper):Oper:={o with after:=o.after.map λe=>{e with on:=fF p e.on},guard:=o.guard.map λg=>(fF p g.1,g.2)}
def MU (p:List Nat) (n:Nat):Bool:=Nat.beq p.length n&&(p.all λj=>Nat.blt j n)&&(List.range n).all λi=>mem p i&&Nat.beq (fF p (p.getD i 0)) i
def ko (ops:List Oper):List Oper:=
 let p:=yo ops.length 0 (mi 0 ops (g7 ops []))
 if MU p ops.length then p.filterMap λi=>(ops[i]?).map (lm p) else ops
def o7 (E:an) (ops:List Oper) (bar:Option (List Nat)) (o:Oper) (s:St) (k:St->Option Z):Option Z:=
 if LQ E o s then c9 E o s k else
 match bar with
 |some U=>if y3 E false ops U o s then c9 E o s k else if y3 E true ops U o s then nq E true o s k else none
 |none=>none
def iC (E:an) (ops:List Oper) (k:St->Option Z):List (Oper×Option (List Nat))->St->Option Z
 |[],s=>k s
 |(o,bar)::bo,s=>match o.guard with
  |none=>o7 E ops bar o s (iC E ops k bo)
  |some (j,want)=>match (ops[j]?).bind (·.dst) with
   |none=>none
   |some d=>match s.get d with
    | .ad .bool b=>match b with
     |true=>if want then o7 E ops bar o s (iC E ops k bo) else iC E ops k bo (match o.dst with|some e=>s.put e (.tup .unit)|none=>s)
     |false=>if want then iC E ops k bo (match o.dst with|some e=>s.put e (.tup .unit)|none=>s) else o7 E ops bar o s (iC E ops k bo)
    | .tup .unit=>iC E ops k bo (match o.dst with|some e=>s.put e (.tup .unit)|none=>s)
    |_=>none
def St.ref (s:St) (d:Nat) (b:Bool):St:={s with tmps:=bD s.tmps d (.ad .bool b)}
def lZ (E:an) (ops:List Oper) (k:St->Option Z):List (Oper×Option (List Nat))->St->Option Z
 |[],s=>k s
 |(o,bar)::bo,s=>match o.guard with
  |none=>o7 E ops bar o s (lZ E ops k bo)
  |some (j,want)=>match (ops[j]?).bind (·.dst) with
   |none=>none
   |some d=>match s.get d with
    | .ad .bool b=>match b with
     |true=>if want then o7 E ops bar o (s.ref d true) (lZ E ops k bo) else lZ E ops k bo (match o.dst with|some e=>(s.ref d true).put e (.tup .unit)|none=>s.ref d true)
     |false=>if want then lZ E ops k bo (match o.dst with|some e=>(s.ref d false).put e (.tup .unit)|none=>s.ref d false) else o7 E ops bar o (s.ref d false) (lZ E ops k bo)
    | .tup .unit=>lZ E ops k bo (match o.dst with|some e=>s.put e (.tup .unit)|none=>s)
    |_=>none
theorem aoD {α:Type} {l:List (Nat×α)} {n:Nat} {v:α} (h:lk l n=some v):bD l n v=l:=by
 induction l with
 |nil=>rfl
 |cons x l b=>
  grind [lk,bD]
theorem akd {s:St} {d:Nat} {b:Bool} (h:s.get d=.ad .bool b):s.ref d b=s:=by
 unfold St.get at h;cases c:lk s.tmps d with
 |none=>simp_all
 |some v=>
  rw [c] at h;simp only [uV] at h;subst h;unfold St.ref;rw [aoD c]
theorem aft (E:an) (ops:List Oper) (k:St->Option Z):∀(bo:List (Oper×Option (List Nat))),lZ E ops k bo=iC E ops k bo:=by
 intro bo
 induction bo with
 |nil=>rfl
 |cons x bo b=>
  obtain ⟨o,bar⟩:=x;funext s;unfold lZ iC;rw [b];cases o.guard with
  |none=>rfl
  |some g=>
   obtain ⟨j,want⟩:=g;simp only;cases (ops[j]?).bind (·.dst) with
   |none=>rfl
   |some d=>
    grind [akd]
def Mu:Op->Bool
 | .alloc _| .makeSlice _ _ _| .makeMap _ _=>true
 |_=>false
def yt (E:an) (f:Nat->Bool) (k:St->Option Z):Nat->List Oper->St->Option Z
 |_,[],s=>k s
 |i,o::l,s=>if (f i||o.op.operands.toList.all λx=>(s.ev x).aI.all λc=>match s.box c with
  |some y=> !y.cn
  |none=>false)&&qJ o.op&& !Mu o.op&&o.dst.isSome then c9 E o s (yt E f k (i+1) l) else none
def LM (E:an) (ops:List Oper) (k:St->Option Z) (s:St):Option Z:=
 match ops with
 |[D,I,J,O,U,W,h,n,q,x,g]=>match h.op,n.dst,q.op,q.dst,x.op,x.dst,g.op,g.dst with
  | .lookup aa (.tmp l) (.tmp j) false,some f,.mapEntry r (.tmp m8) (.tmp u),some d,.extract (.tmp z) 1,some e,.entryStore X (.tmp C) (.tmp y) (.tmp ac),none=>
   if Nat.beq aa r&&Nat.beq X r&&Nat.beq l m8&&Nat.beq C m8&&Nat.beq j u&&Nat.beq z d&&Nat.beq y e&&Nat.beq ac f&&Nat.blt d E.nt&&Nat.blt e E.nt&& !(mem [f,d,e] l||mem [f,d,e] j||nc l h||nc j h)&&(mem (dP n) 6&&mem (dP g) 7)&&mem (dP g) 9&&Lm ops&&ops.all λo=>o.guard.isNone then
    yt E (λi=>mem (dP q) i||Nat.beq i 6) (λs=>match lk E.maps r,s.get m8,s.get f with
     |some K,.mp b,.ad (.int .i64) v=>b5 s b λbx=>if bx.cn then (h0 K bx.c λxs=>jV K (s.get u) λkey=>
      k (((s.put d .un).put e .un).b4 b {bx with c:=.tup (.ab (.slice (eu K)) (show List (K.ai×Int×Unit) from dz K key v xs))})) else none
     |_,_,_=>none) 0 [D,I,J,O,U,W,h,n] s
   else none
  |_,_,_,_,_,_,_,_=>none
 |_=>none
def agP (ops:List Oper):Bool:=ops.any λo=>match o.op with
 | .mapEntry _ _ _=>true
 |_=>false
def Xf (E:an) (ops:Array Oper) (b:Bool) (k:St->Option Z) (s:St):Option Z:=
 match b with
 |false=>kA E ops k ops.toList s
 |true=>if agP ops.toList then LM E ops.toList k s else match Lm (ko ops.toList) with
  |false=>none
  |true=>lZ E (ko ops.toList) k ((ko ops.toList).zip (jl (ko ops.toList))) s
def fS:Code->Nat
 | .region id _ _=>id
 | .seq a _=>fS a
 | .block _ c=>fS c
 | .loop c=>fS c
 |_=>0
def St.tJ (s:St) (ts bs:List Nat):St:=
 {tmps:=ts.map λn=>(n,(s.get n).bX (mem bs)),cg:=bs.filterMap λn=>(s.box n).map λb=>(n,b.bX (mem bs)),sv:=s.sv.map λl=>l.map λx=>(x.1,x.2.bX (mem bs))}
def F8 (s:St) (o:Nat):List (Nat×Ty)->(St->Option Z)->Option Z
 |[],k=>k s
 |(t,T)::l,k=>if T.iE then ck s (.slice T) (s.get t) λs c _=>match c.du (.slice T) with
  |some x=>jY (s.drop (eg o t)) (eg o t) ⟨.slice T,true,false,.ab (.slice T) x⟩ λs=>F8 (s.put t (.sl (eg o t) [])) o l k
  |none=>none
  else none
def LK:TV->Option TV
 | .ab (.slice t) xs=>some (.tup (.cons (.ab (.slice t) xs) (.ab (.slice .bool) (List.replicate (List.length (α:=t.ai) xs) false))))
 | .tup (.cons (.ab (.slice t) xs) (.ab (.slice .bool) b))=>some (.tup (.cons (.ab (.slice t) xs) (.ab (.slice .bool) b)))
 |_=>none
def ym (s:St):List Nat->(St->Option Z)->Option Z
 |[],k=>k s
 |b::l,k=>b5 s b λx=>if x.cn then (match LK x.c with
  |some c=>ym (s.b4 b {x with c:=c}) l k
  |none=>none) else match x.c.du x.ty with
  |some y=>ym ((s.b4 b {x with c:=.ab x.ty y}).aw b []) l k
  |none=>none
def ju (E:an) (id:Nat) (s:St) (k:St->Option Z):Option Z:=
 match lk E.dW id with
 |none=>k s
 |some K=>F8 s E.fo K.ab λs=>ym s K.ah8 λs=>k (s.tJ K.ts K.bs)
def m6 (E:an) (id:Nat) (k:Ex->St->Option Z):Ex->St->Option Z:=λe s=>ju E (id+1000000) s (k e)
def tN (f:(Ex->St->Option Z)->St->Option Z) (b:St->(St->Option Z)->Option Z) (k:Ex->St->Option Z):Nat->St->Option Z
 |0,_=>none
 |n+1,s=>f (λe c=>match e with
  | .normal=>b c (tN f b k n)
  |e=>k e c) s
def ha (E:an) (n:Nat):Code->(Ex->St->Option Z)->St->Option Z
 | .skip,k,s=>k .normal s
 | .region _ ops g,k,s=>Xf E ops g (k .normal) s
 | .seq a b,k,s=>ha E n a (λe f=>match e with
  | .normal=>ju E (fS b+2000000) f (ha E n b k)
  |e=>k e f) s
 | .cond c a b,k,s=>match s.ev c with
  | .ad .bool t=>match t with
   |true=>ha E n a k (match c with| .tmp d=>s.put d (.ad .bool true)|_=>s)
   |false=>ha E n b k (match c with| .tmp d=>s.put d (.ad .bool false)|_=>s)
  |_=>none
 | .block id c,k,s=>ha E n c (λe f=>match e with
  | .exit j=>if Nat.beq j id then k .normal f else k (.exit j) f
  |e=>k e f) s
 | .loop c,k,s=>ju E (fS c) s (tN (ha E n c) (ju E (fS c)) (m6 E (fS c) k) n)
 | .exit id,k,s=>k (.exit id) s
 | .ret,k,s=>k .ret s
 |_,_,_=>none
end
section
variable {Z:Type}
def x5:List PM->List D->(List TV->List D->Option Z)->Option Z
 |[],ds,k=>k [] ds
 |m::b,d::ds,k=>match m with
  | .ro t=>match cG d.t t d.x with
   |some x=>x5 b ds λvs ds=>k (.ad t x::vs) ds
   |none=>none
  | .bw t=>match cG d.t t d.x with
   |some x=>x5 b ds λvs ds=>k (.bw t x::vs) ds
   |none=>none
  |_=>none
 |_,_,_=>none
def na (i:Nat):PM->List D->(TV->List (Nat×bl)->List D->Option Z)->Option Z
 | .ro t,d::ds,k=>match cG d.t t d.x with
  |some x=>k (.ad t x) [] ds
  |none=>none
 | .bw t,d::ds,k=>match cG d.t t d.x with
  |some x=>k (.bw t x) [] ds
  |none=>none
 | .ptr t,d::ds,k=>match cG d.t t d.x with
  |some x=>k (.ref i []) [(i,⟨t,false,false,.ab t x⟩)] ds
  |none=>none
 | .mut (.slice t),d::ds,k=>match cG d.t (.slice t) d.x with
  |some x=>k (.sl i []) [(i,⟨.slice t,true,true,.ab (.slice t) x⟩)] ds
  |none=>none
 | .ab (.slice t),d::ds,k=>match cG d.t (.slice t) d.x with
  |some x=>k (.sl i []) [(i,⟨.slice t,true,false,.ab (.slice t) x⟩)] ds
  |none=>none
 | .bY f b,ds,k=>x5 b ds λvs ds=>k (.bY f (vs.foldr TV.cons .unit)) [] ds
 |_,_,_=>none
def x4 (i:Nat):List PM->List D->(List (Nat×TV)->List (Nat×bl)->Option Z)->Option Z
 |[],[],k=>k [] []
 |m::c,ds,k=>na (i*32) m ds λv b ds=>x4 (i+1) c ds λts bs=>k ((i,v)::ts) (b++bs)
 |_,_,_=>none
def xU (s:St) (kl:TV->TV):List (Ty×TV)->(St->List D->Option Z)->Option Z
 |[],k=>k s []
 |(t,v)::r,k=>if t.aW then dL s t (kl v) λx=>xU s kl r λs ds=>k s (⟨t,x⟩::ds)
  else ck s t (kl v) λs c κ=>match c.du t with
   |some x=>xU s (λe=>κ (kl e)) r λs ds=>k s (⟨t,x⟩::ds)
   |none=>none
def kq (s:St) (i:Nat):List PM->(List D->Option Z)->Option Z
 |[],k=>k []
 | .ptr t::d,k=>b5 s (i*32) λb=>if b.cn|| !decide (b.ty=t) then none else match b.c.du t with
  |some x=>kq s (i+1) d λds=>k (⟨t,x⟩::ds)
  |none=>none
 | .mut t::d,k=>b5 s (i*32) λb=>if !b.cn|| !b.dD|| !decide (b.ty=t) then none else match b.c with
  | .ab u x=>kq s (i+1) d λds=>k (⟨u,x⟩::ds)
  |_=>none
 |_::d,k=>kq s (i+1) d k
end
inductive Mv where
 |set (b:Nat) (x:bl)|aw (b:Nat) (p:aM)|drop (b:Nat)
def Mv.at:Mv->Nat
 | .set b _| .aw b _| .drop b=>b
def Mv.run (s:St):Mv->St
 | .set b x=>s.b4 b x
 | .aw b p=>s.aw b p
 | .drop b=>s.drop b
def bK (s:St) (l:List Mv):St:=l.foldl Mv.run s
def dx.ru (I:dx):Prop:=∀(Z:Type) (t:St) (vs:List TV) (k:St->TV->Option Z) (r:Z),I.run t vs k=some r->
 ∃(l:List Mv) (v:TV),k (bK t l) v=some r/\(∀m∈l,m.at∈(vs.headD .un).aI)/\
  ∀(s:St),(∀v∈vs,∀b∈v.aI,s.box b=t.box b)->∀{Y:Type} (k':St->TV->Option Y),I.run s vs k'=k' (bK s l) v
structure an.wV (E:an):Prop where
 fn:∀f ids c,E.fn f ids=some c->c.bu
 inl:∀f ids I,E.inl f ids=some I->I.hW=true->I.ru
theorem eO {a b:Ty} {x:a.ai} {y:b.ai} (h:cG a b x=some y):∃e:a=b,e▸x=y:=by
 unfold cG at h;split at h;simp_all;cases h
theorem mY {a:Ty} (x:a.ai):cG a a x=some x:=by
 unfold cG;split;rfl
 grind
def ak:Ty->FT->Option (Nat×Nat)->aM->Option (Ty×FT×Option (Nat×Nat))
 |t,ft,a,[]=>some (t,ft,a)
 | .cons t _,ft,a,.f 0::p=>ak t ft.fst a p
 | .cons t r,ft,a,.f (n+1)::p=>ak r ft.snd (a.map λx=>(x.1,x.2+t.size)) (.f n::p)
 | .slice t,.node (some b) _ c,_,.i n::p=>match c[n]? with
  |some k=>ak t k (some (b,n*t.size)) p
  |none=>none
 | .arr m t,_,a,[.i n]=>if t.agg||Nat.ble m n then none else some (t,.leaf,a.map λx=>(x.1,x.2+n*t.size))
 |_,_,_,_=>none
def bC:Ty->FT->aM->FT->FT
 |_,_,[],f=>f
 | .cons t _,ft,.f 0::p,f=>.eE (bC t ft.fst p f) ft.snd
 | .cons _ r,ft,.f (n+1)::p,f=>.eE ft.fst (bC r ft.snd (.f n::p) f)
 | .slice t,.node (some b) cap c,.i n::p,f=>match c[n]? with
  |some k=>.node (some b) cap (c.set n (bC t k p f))
  |none=>.node (some b) cap c
 |_,ft,_,_=>ft
theorem eW {b:Nat} {k:FT} {c:List FT} (d:k∈c) (e:b∈k.ae):b∈FT.bq c:=by
 induction c with
 |nil=>cases d
 |cons k' c f=>
  simp only [FT.bq,bp]
  grind
def ahG {b:Nat} {c:List FT} (h:b∈FT.bq c):∃k∈c,b∈k.ae:=by
 induction c with
 |nil=>simp [FT.bq] at h
 |cons k' c d=>
  simp only [FT.bq,bp] at h
  grind
theorem i2 {ft:FT} {b:Nat} (h:b∈ft.fst.ae):b∈ft.ae:=by
 cases ft<;>simp_all [FT.fst,FT.ae]
theorem jc {ft:FT} {b:Nat} (h:b∈ft.snd.ae):b∈ft.ae:=by
 cases ft<;>simp_all [FT.snd,FT.ae]
theorem fR:∀(t:Ty) (ft:FT) (a:Option (Nat×Nat)) (p:aM) {u:Ty} {g:FT} {a':Option (Nat×Nat)},ak t ft a p=some (u,g,a')->
 (∀b∈g.ae,b∈ft.ae)/\((∃b o,a'=some (b,o)/\b∈ft.ae/\aM.dC p=true)\/
  (∃d,a'=a.map (λx=>(x.1,x.2+d))/\d+u.size<=t.size)):=by
 intro t
 induction t with
 |cons t r z I=>
  intro ft a p u g a' h
  match p,h with
  |[],h=>simp only [ak,aX,bk] at h;obtain ⟨rfl,rfl,rfl⟩:=h;exact ⟨λ_ h=>h,.inr ⟨0,by simp,by simp⟩⟩
  | .f 0::p,h=>
   simp only [ak] at h;obtain ⟨j,l⟩:=z _ _ _ h;refine ⟨λb c=>i2 (j b c),?_⟩;rcases l with ⟨b,o,e,c,v⟩|⟨d,e,v⟩
   exact .inl ⟨b,o,e,i2 c,by simpa [aM.dC] using v⟩;exact .inr ⟨d,e,by simp only [Ty.size];omega⟩
  | .f (n+1)::p,h=>
   simp only [ak] at h;obtain ⟨j,l⟩:=I _ _ _ h;refine ⟨λb c=>jc (j b c),?_⟩;rcases l with ⟨b,o,e,c,v⟩|⟨d,e,v⟩
   exact .inl ⟨b,o,e,jc c,by simpa [aM.dC] using v⟩;refine .inr ⟨t.size+d,?_,by simp only [Ty.size];omega⟩;rw [e];cases a<;>simp;omega
  | .i n::p,h=>simp [ak] at h
 |slice t z=>
  intro ft a p u g a' h
  match p,h with
  |[],h=>simp only [ak,aX,bk] at h;obtain ⟨rfl,rfl,rfl⟩:=h;exact ⟨λ_ h=>h,.inr ⟨0,by simp,by simp⟩⟩
  | .f n::p,h=>simp [ak] at h
  | .i n::p,h=>
   match ft,h with
   | .node (some b) cap J,h=>
    simp only [ak] at h;split at h;rename_i k hk;obtain ⟨j,l⟩:=z _ _ _ h;have D:=cz hk;refine ⟨λy c=>by simp only [FT.ae,bp];exact .inr (eW D (j y c)),.inl ?_⟩;rcases l with ⟨y,o,e,c,_⟩|⟨d,e,_⟩
    exact ⟨y,o,e,by simp only [FT.ae,bp];exact .inr (eW D c),rfl⟩;exact ⟨b,_,by rw [e];rfl,by simp [FT.ae],rfl⟩;cases h
   | .leaf,h=>simp [ak] at h
   | .eE _ _,h=>simp [ak] at h
   | .node none _ _,h=>simp [ak] at h
 |arr m t _=>
  intro ft a p u g a' h
  match p,h with
  |[],h=>simp only [ak,aX,bk] at h;obtain ⟨rfl,rfl,rfl⟩:=h;exact ⟨λ_ h=>h,.inr ⟨0,by simp,by simp⟩⟩
  |[.i n],h=>
   simp only [ak] at h;split at h;cases h;rename_i C;simp only [aX,bk] at h;obtain ⟨rfl,rfl,rfl⟩:=h;refine ⟨λb c=>by simp [FT.ae] at c,.inr ⟨n*t.size,rfl,?_⟩⟩;simp only [fC,Nat.ble_eq,gN,Nat.not_le] at C;simp only [Ty.size];have:=jM t.size (uU C.2)
   grind
  | .f n::p,h=>simp [ak] at h
  | .i n::q::p,h=>simp [ak] at h
 |_=>
  intro ft a p u g a' h;cases p with
  |nil=>simp only [ak,aX,bk] at h;obtain ⟨rfl,rfl,rfl⟩:=h;exact ⟨λ_ h=>h,.inr ⟨0,by simp,by simp⟩⟩
  |cons q p=>simp [ak] at h
theorem At.sub {w:World} {b o n:Nat} {cs:List Value} (h:At w b o n cs) (i m:Nat) (hi:i+m<=n):At w b (o+i) m ((cs.drop i).take m):=by
 obtain ⟨row,e,fz,c,d,rfl⟩:=h;refine ⟨row,e,fz,c,by omega,?_⟩;rw [List.drop_take,List.take_take,jK];congr 1;omega
theorem At.oS {w:World} {b o n m:Nat} {c d:List Value} (h:At w b o n c) (j:At w b (o+n) m d):At w b o (n+m) (c++d):=by
 obtain ⟨row,e,fz,g,r,rfl⟩:=h;obtain ⟨nu,l,q,f,u,rfl⟩:=j;rw [g] at f;simp only [aX,Obj.cells.injEq] at f;obtain ⟨rfl,_,_⟩:=f;refine ⟨row,e,fz,g,by omega,?_⟩;rw [<-jK,List.take_add]
theorem At.fst {w:World} {b o n m:Nat} {c d:List Value} (h:At w b o (n+m) (c++d)) (e:c.length=n):At w b o n c:=by
 have:=h.sub 0 n (by omega);simp_all
theorem At.snd {w:World} {b o n m:Nat} {c d:List Value} (h:At w b o (n+m) (c++d)) (e:c.length=n):At w b (o+n) m d:=by
 have f:d.length=m:=by have:=h.len;simp at this;omega
 have:=h.sub n m (by omega)
 grind
theorem afT (n:Nat) (t:Ty) (l:List t.ai):bJ (.arr n t) l=(l.map (bJ t)).flatten:=rfl
theorem af8 {t:Ty} (c:t.aW=true):∀(l:List t.ai) (_:∀x∈l,dl t x) (i:Nat) (x:t.ai),l[i]?=some x->
 (((l.map (bJ t)).flatten.drop (i*t.size)).take t.size)=bJ t x:=by
 intro l
 induction l with
 |nil=>simp_all
 |cons a l f=>
  intro b i x h;have d:(bJ t a).length=t.size:=hb t a c (b a (by simp));cases i with
  |zero=>
   simp_all
  |succ i=>
   simp only [List.getElem?_cons_succ] at h;simp only [fJ,mA];rw [<-f (λx e=>b x (by simp [e])) i x h,nM,Nat.add_comm,<-jK,List.drop_left' d]
theorem bd.aW {w:World} {t:Ty} {x:t.ai} {ft:FT} {cs:List Value} (c:t.aW=true) (b:t.agg=false) (h:bd w t x ft cs):
 dl t x/\ft.ae=[]/\cs=bJ t x:=by
 cases t<;>first|exact ⟨h.2.1,h.2.2.1,h.2.2.2⟩|(exfalso;simp [Ty.agg] at b;done)|(exfalso;simp [Ty.aW] at c;done)
theorem x0 {ft:FT} (h:ft.ae=[]):ft.fst.ae=[]:=by
 cases ft<;>simp_all [FT.fst,FT.ae]
theorem yF {ft:FT} (h:ft.ae=[]):ft.snd.ae=[]:=by
 cases ft<;>simp_all [FT.snd,FT.ae]
theorem bd.fW {w:World}:∀{t:Ty} {x:t.ai} {ft:FT},t.aW=true->dl t x->ft.ae=[]->bd w t x ft (bJ t x)
 | .int _,_,_,b,hk,c=>⟨b,hk,c,rfl⟩
 | .bool,_,_,b,hk,c=>⟨b,hk,c,rfl⟩
 | .bR,_,_,b,hk,c=>⟨b,hk,c,rfl⟩
 | .unit,_,_,b,hk,c=>⟨b,hk,c,rfl⟩
 | .arr _ _,_,_,b,hk,c=>⟨b,hk,c,rfl⟩
 | .bG,_,_,b,_,_=>by simp [Ty.aW] at b
 | .slice _,_,_,b,_,_=>by simp [Ty.aW] at b
 | .cons t r,x,ft,b,hk,c=>by
  simp only [Ty.aW,bt] at b;exact ⟨by rw [c,x0 c,yF c];rfl,bJ t x.1,bJ r x.2,rfl,bd.fW b.1 hk.1 (x0 c),bd.fW b.2 hk.2 (yF c)⟩
theorem Rd.aW {w:World} {R:Nat->Prop}:∀{t:Ty} {x:t.ai} {cs:List Value},t.aW=true->Rd w R t x cs->dl t x/\cs=bJ t x
 | .int _,_,_,_,h=>⟨h.2.1,h.2.2⟩
 | .bool,_,_,_,h=>⟨h.2.1,h.2.2⟩
 | .bR,_,_,_,h=>⟨h.2.1,h.2.2⟩
 | .unit,_,_,_,h=>⟨h.2.1,h.2.2⟩
 | .arr _ _,_,_,_,h=>⟨h.2.1,h.2.2⟩
 | .bG,_,_,b,_=>by simp [Ty.aW] at b
 | .slice _,_,_,b,_=>by simp [Ty.aW] at b
 | .cons t r,x,cs,b,h=>by
  simp only [Ty.aW,bt] at b;obtain ⟨g,j,rfl,e,f⟩:=h;obtain ⟨c,rfl⟩:=Rd.aW b.1 e;obtain ⟨d,rfl⟩:=Rd.aW b.2 f;exact ⟨⟨c,d⟩,rfl⟩
theorem bd.l0 {w:World}:∀{t:Ty} {x:t.ai} {ft:FT} {cs:List Value},t.aW=true->bd w t x ft cs->dl t x/\cs=bJ t x/\ft.ae=[]
 | .int _,_,_,_,_,h=>⟨h.2.1,h.2.2.2,h.2.2.1⟩
 | .bool,_,_,_,_,h=>⟨h.2.1,h.2.2.2,h.2.2.1⟩
 | .bR,_,_,_,_,h=>⟨h.2.1,h.2.2.2,h.2.2.1⟩
 | .unit,_,_,_,_,h=>⟨h.2.1,h.2.2.2,h.2.2.1⟩
 | .arr _ _,_,_,_,_,h=>⟨h.2.1,h.2.2.2,h.2.2.1⟩
 | .bG,_,_,_,b,_=>by simp [Ty.aW] at b
 | .slice _,_,_,_,b,_=>by simp [Ty.aW] at b
 | .cons t r,x,ft,cs,b,h=>by
  simp only [Ty.aW,bt] at b;obtain ⟨g,n,o,rfl,j,l⟩:=h;obtain ⟨c,rfl,e⟩:=bd.l0 b.1 j;obtain ⟨d,rfl,f⟩:=bd.l0 b.2 l;exact ⟨⟨c,d⟩,rfl,by rw [g,e,f];rfl⟩
section
variable {Z:Type} {w:World}
theorem bd.get:∀(t:Ty) (x:t.ai) (ft:FT) (cs:List Value) (a:Option (Nat×Nat)) (p:aM) (k:(u:Ty)->u.ai->Option Z) (r:Z),
 bd w t x ft cs->(∀b o,a=some (b,o)->At w b o t.size cs)->ch t x p k=some r->
 ∃(u:Ty) (y:u.ai) (I:FT) (a':Option (Nat×Nat)) (D:List Value),k u y=some r/\ak t ft a p=some (u,I,a')/\bd w u y I D/\
  (∀b o,a'=some (b,o)->At w b o u.size D):=by
 intro t
 induction t with
 |cons t r K am=>
  intro x ft cs a p k dd h g d
  match p,d with
  |[],d=>exact ⟨_,x,ft,a,cs,by simpa [ch] using d,rfl,h,g⟩
  | .f 0::p,d=>
   simp only [ch] at d;obtain ⟨af,C,O,rfl,v,J⟩:=h;exact K x.1 ft.fst C a p k dd v (λb o e=>(g b o e).fst (bd.len t x.1 _ C v)) d
  | .f (n+1)::p,d=>
   simp only [ch] at d;obtain ⟨af,C,O,rfl,v,J⟩:=h;refine am x.2 ft.snd O (a.map λx=>(x.1,x.2+t.size)) (.f n::p) k dd J (λb o e=>?_) d;cases a with
   |none=>cases e
   |some a=>simp only [dn,aX,bk] at e;obtain ⟨rfl,rfl⟩:=e;exact (g _ _ rfl).snd (bd.len t x.1 _ C v)
  | .i n::p,d=>simp [ch] at d
 |slice t K=>
  intro x ft cs a p k dd h g d
  match p,d with
  |[],d=>exact ⟨_,x,ft,a,cs,by simpa [ch] using d,rfl,h,g⟩
  | .f n::p,d=>simp [ch] at d
  | .i n::p,d=>
   simp only [ch] at d;split at d;rename_i l j;unfold iG at j;obtain ⟨b,cap,aa,rfl,rfl,v,J,ao,h4⟩:=h;have W:n<List.length (α:=t.ai) x:=(b6.1 j).1;cases b with
   |none=>subst h4;omega
   |some b=>
    have hk:aa[n]?=some (aa[n]'(by omega)):=ba _;obtain ⟨c,aq,aj⟩:=h4.2 n l _ j hk;obtain ⟨u,y,I,a',D,ab,ac,ad,ae⟩:=K l _ c (some (b,n*t.size)) p k dd aj (λan ar e=>by simp_all) d;exact ⟨u,y,I,a',D,ab,by simp only [ak,hk];exact ac,ad,ae⟩
   cases d
 |arr m t _=>
  intro x ft cs a p k dd h g d
  match p,d with
  |[],d=>exact ⟨_,x,ft,a,cs,by simpa [ch] using d,rfl,h,g⟩
  | .f n::p,d=>simp [ch] at d
  | .i n::p,d=>
   simp only [ch] at d;split at d;cases d;rename_i ag;split at d
   ·rename_i l j;unfold iG at j;obtain ⟨z,⟨ah,X⟩,ap,rfl⟩:=h;have z:t.aW=true:=z;have W:n<List.length (α:=t.ai) x:=(b6.1 j).1;have U:t.agg=false:=by simpa using ag
    have al:dl t l:=X l (cz j)
    match p,d with
    |[],d=>
     refine ⟨t,l,.leaf,a.map λx=>(x.1,x.2+n*t.size),bJ t l,by simpa [ch] using d,?_,bd.fW z al rfl,?_⟩;simp only [ak,U,kH];simp_all;intro b o e;cases a with
     |none=>cases e
     |some a=>
      simp only [dn,aX,bk] at e;obtain ⟨rfl,rfl⟩:=e;have:=(g _ _ rfl).sub (n*t.size) t.size (by
       simp only [Ty.size];rw [<-ah];have:=jM t.size (uU W)
       grind)
      rw [show bJ (.arr m t) x=((show List t.ai from x).map (bJ t)).flatten from rfl,af8 z (show List t.ai from x) X n l j] at this;exact this
    |q::p,d=>cases t<;>first|(exfalso;simp [ch] at d;done)|(exfalso;simp [Ty.agg] at U;done)|(exfalso;simp [Ty.aW] at z;done)
   cases d
 |_=>
  intro x ft cs a p k dd h g d;cases p with
  |nil=>exact ⟨_,x,ft,a,cs,by simpa [ch] using d,rfl,h,g⟩
  |cons q p=>simp [ch] at d
theorem Rd.get {R:Nat->Prop}:∀(t:Ty) (x:t.ai) (cs:List Value) (a:Option (Nat×Nat)) (p:aM) (k:(u:Ty)->u.ai->Option Z) (r:Z),
 Rd w R t x cs->(∀b o,a=some (b,o)->At w b o t.size cs)->ch t x p k=some r->aM.dC p=false->
 ∃(u:Ty) (y:u.ai) (a':Option (Nat×Nat)) (g:List Value),k u y=some r/\(∀ft:FT,ft.ae=[]->∃O,O.ae=[]/\ak t ft a p=some (u,O,a'))/\Rd w R u y g/\
  (∀b o,a'=some (b,o)->At w b o u.size g):=by
 intro t
 induction t with
 |cons t r X W=>
  intro x cs a p k dd h j c z
  match p,c with
  |[],c=>exact ⟨_,x,a,cs,by simpa [ch] using c,λft d=>⟨ft,d,rfl⟩,h,j⟩
  | .f 0::p,c=>
   simp only [ch] at c;obtain ⟨l,K,rfl,v,U⟩:=h;obtain ⟨u,y,a',g,C,D,I,J⟩:=X x.1 l a p k dd v (λb o e=>(j b o e).fst (Rd.len t x.1 l v)) c (by simpa [aM.dC] using z);exact ⟨u,y,a',g,C,λft d=>D ft.fst (x0 d),I,J⟩
  | .f (n+1)::p,c=>
   simp only [ch] at c;obtain ⟨l,K,rfl,v,U⟩:=h;obtain ⟨u,y,a',g,C,D,I,J⟩:=W x.2 K (a.map λx=>(x.1,x.2+t.size)) (.f n::p) k dd U (λb o e=>by
    cases a with
    |none=>cases e
    |some a=>simp only [dn,aX,bk] at e;obtain ⟨rfl,rfl⟩:=e;exact (j _ _ rfl).snd (Rd.len t x.1 l v)) c (by simpa [aM.dC] using z)
   exact ⟨u,y,a',g,C,λft d=>D ft.snd (yF d),I,J⟩
  | .i n::p,c=>simp [ch] at c
 |_=>
  intro x cs a p k dd h j c z;cases p with
  |nil=>exact ⟨_,x,a,cs,by simpa [ch] using c,λft d=>⟨ft,d,rfl⟩,h,j⟩
  |cons q p=>cases q<;>simp [ch,aM.dC] at c z
end
structure Wr (w w2:World) (b o n:Nat) (cs:List Value):Prop where
 len:cs.length=n
 ex:∃row c e fz,w.heap[b]?=some (.cells row e fz)/\w2.heap[b]?=some (.cells c e fz)/\o+n<=row.size/\
  c.toList=row.toList.take o++cs++row.toList.drop (o+n)
theorem Wr.e3 {w w2:World} {b o n:Nat} {cs:List Value} (h:Wr w w2 b o n cs):At w2 b o n cs:=by
 obtain ⟨row,c,e,fz,g,d,j,h4⟩:=h.ex;have l:=h.len;have f:c.toList.length=row.toList.length:=by rw [h4];simp;omega
 refine ⟨c,e,fz,d,by simp at f;omega,?_⟩
 grind
theorem Wr.c6 {w w2:World} {b o n:Nat} {cs:List Value} (h:Wr w w2 b o n cs) {d m:Nat} {c:List Value} (r:At w b d m c) (g:d+m<=o\/o+n<=d):At w2 b d m c:=by
 obtain ⟨row,j,e,fz,l,q,z,h4⟩:=h.ex;obtain ⟨nu,v,x,f,y,rfl⟩:=r;rw [l] at f;simp only [aX,Obj.cells.injEq] at f;obtain ⟨rfl,rfl,rfl⟩:=f;have C:=h.len;have u:j.toList.length=row.toList.length:=by rw [h4];simp;omega
 refine ⟨j,e,fz,q,by simp at u;omega,?_⟩;rw [h4];rcases g with g|g
 rw [gb,List.drop_append_of_le_length (by simp;omega),List.take_append_of_le_length (by simp;omega),List.drop_take,List.take_take];congr 1;omega;rw [List.drop_append,List.drop_of_length_le (by simp;omega),dV,jK];congr 2;simp;omega
theorem Wr.bF {w w2:World} {b o n:Nat} {cs:List Value} (h:Wr w w2 b o n cs) {k:Nat} (f:∃row e,w.heap[b]?=some (.cells row e (0,0))/\k=row.size):
 ∃row e,w2.heap[b]?=some (.cells row e (0,0))/\k=row.size:=by
 obtain ⟨row,g,e,fz,d,l,q,h4⟩:=h.ex;obtain ⟨nu,j,c,rfl⟩:=f;rw [d] at c;simp only [aX,Obj.cells.injEq] at c;obtain ⟨rfl,rfl,rfl⟩:=c;have r:=h.len;have u:g.toList.length=row.toList.length:=by rw [h4];simp;omega
 grind
theorem Wr.agO {w w2:World} {b o n:Nat} {cs:List Value} (h:Wr w w2 b o n cs) {f m d:Nat} {c:List Value} (e:At w b f m c) (l:o=f+d) (r:d+n<=m):
 At w2 b f m (c.take d++cs++c.drop (d+n)):=by
 subst l;have g:=h.c6 (e.sub 0 d (by omega)) (.inl (by omega));have j:=h.c6 (e.sub (d+n) (m-(d+n)) (by omega)) (.inr (by omega));have q:=e.len;rw [q3,uP] at g;rw [List.take_of_length_le (by simp;omega)] at j;have:=(g.oS h.e3).oS (by omega);simp_all
def af9 {t:Ty} (e:t.aW=true) (y:t.ai):∀(l:List t.ai) (_:∀x∈l,dl t x) (n:Nat),n<l.length->
 ((l.set n y).map (bJ t)).flatten=((l.map (bJ t)).flatten.take (n*t.size))++bJ t y++((l.map (bJ t)).flatten.drop (n*t.size+t.size)):=by
 intro l
 induction l with
 |nil=>intro _ n h;simp at h
 |cons a l g=>
  intro b n h;have j:(bJ t a).length=t.size:=hb t a e (b a (by simp));cases n with
  |zero=>simp_all
  |succ n=>
   have:=g (λx f=>b x (by simp [f])) n (by simpa using h);simp only [List.set_cons_succ,fJ,mA,this];have c:(n+1)*t.size=(bJ t a).length+n*t.size:=by grind
   have d:(n+1)*t.size+t.size=(bJ t a).length+(n*t.size+t.size):=by omega
   rw [d,c,List.take_length_add_append,List.drop_length_add_append];simp_all
theorem qc {c:List FT} {n:Nat} {k:FT} (hk:c[n]?=some k) (h:(FT.bq c).Nodup):k.ae.Nodup/\
 (∀i k',i≠n->c[i]?=some k'->∀b∈k'.ae,b∉k.ae):=by
 induction c generalizing n with
 |nil=>simp at hk
 |cons q c o=>
  simp only [FT.bq,cv] at h;obtain ⟨j,l,g⟩:=h;cases n with
  |zero=>
   simp only [List.getElem?_cons_zero,aX] at hk;subst hk;refine ⟨j,λi k' hi d b e f=>?_⟩;cases i with
   |zero=>exact hi rfl
   |succ i=>exact g b f b (eW (cz (by simpa using d)) e) rfl
  |succ n=>
   obtain ⟨h4,h5⟩:=o (by simpa using hk) l;refine ⟨h4,λi k' hi d b e f=>?_⟩;cases i with
   |zero=>
    simp only [List.getElem?_cons_zero,aX] at d;subst d;exact g b e b (eW (cz (by simpa using hk)) f) rfl
   |succ i=>grind
section
variable {Z:Type} {w w2:World}
theorem bd.set {I aN:Nat} {ah:List Value} {u:Ty} {y:u.ai} {a0 ft2:FT} (D:Wr w w2 I aN u.size ah) (av:bd w2 u y ft2 ah):
 ∀(t:Ty) (x:t.ai) (ft:FT) (cs:List Value) (a:Option (Nat×Nat)) (p:aM) (v:Ty) (k:t.ai->Option Z) (r:Z),
 bd w t x ft cs->(∀b o,a=some (b,o)->At w b o t.size cs/\b∉ft.ae/\(b≠I->w2.heap[b]?=w.heap[b]?))->ft.ae.Nodup->
 ak t ft a p=some (v,a0,some (I,aN))->dM t x p u y k=some r->
 (∀b∈ft.ae,b∉a0.ae->b≠I->w2.heap[b]?=w.heap[b]?)->I∉a0.ae->
 v=u/\∃(x':t.ai) (a6:List Value),k x'=some r/\bd w2 t x' (bC t ft p ft2) a6/\a6.length=cs.length/\(∀b o,a=some (b,o)->At w2 b o t.size a6):=by
 intro t
 induction t with
 |cons t r aB bl=>
  intro x ft cs a p v k dd h C U j g K aj
  match p,j,g with
  |[],j,g=>
   simp only [ak,aX,bk] at j;obtain ⟨rfl,rfl,rfl⟩:=j;simp only [dM] at g;split at g;rename_i z ab;obtain ⟨rfl,rfl⟩:=eO ab;exact ⟨rfl,y,ah,g,av,by rw [bd.len _ _ _ _ h,D.len],λb o e=>by simp only [aX,bk] at e;obtain ⟨rfl,rfl⟩:=e;exact D.e3⟩;cases g
  | .f 0::p,j,g=>
   simp only [dM] at g;obtain ⟨aa,W,X,rfl,ad,af⟩:=h;simp only [ak] at j;have ap:=bd.len t x.1 _ W ad;have aY:=bd.len r x.2 _ X af;simp only [aa,cv] at U;obtain ⟨a2,a3,aA⟩:=U;obtain ⟨al,au⟩:=fR _ _ _ _ j;obtain ⟨rfl,x',aE,an,ay,az,ao⟩:=aB x.1 ft.fst W a p v _ dd ad (λb o e=>⟨(C b o e).1.fst ap,λl=>(C b o e).2.1 (by simp [aa,l]),(C b o e).2.2⟩) a2 j g (λb l=>K b (by simp [aa,l])) aj;have aT:bd w2 r x.2 ft.snd X:=bd.bT r x.2 _ X (λb l=>K b (by simp [aa,l]) (λar=>aA b (al b ar) b l rfl) (λe=>by
    subst e;rcases au with ⟨J,ax,e0,a1,_⟩|⟨d,e0,_⟩
    grind
    cases a with
    |none=>cases e0
    |some a=>grind)) af
   refine ⟨rfl,(x',x.2),aE++X,an,⟨by simp [bC,FT.ae,FT.fst,FT.snd],aE,X,rfl,ay,aT⟩,by simp [az],λb o e=>?_⟩;simp only [Ty.size];refine (ao b o e).oS ?_;have ac:At w b (o+t.size) r.size X:=(C b o e).1.snd ap;by_cases O:b=I;subst O;refine D.c6 ac (.inr ?_)
   grind
   exact ac.bT ((C b o e).2.2 O)
  | .f (n+1)::p,j,g=>
   simp only [dM] at g;obtain ⟨aa,W,X,rfl,ad,af⟩:=h;simp only [ak] at j;have ap:=bd.len t x.1 _ W ad;have aY:=bd.len r x.2 _ X af;simp only [aa,cv] at U;obtain ⟨a2,a3,aA⟩:=U;obtain ⟨al,au⟩:=fR _ _ _ _ j;obtain ⟨rfl,x',a5,an,ay,az,ao⟩:=bl x.2 ft.snd X (a.map λx=>(x.1,x.2+t.size)) (.f n::p) v _ dd af (λb o e=>by
    cases a with
    |none=>cases e
    |some a=>
     simp only [dn,aX,bk] at e;obtain ⟨rfl,rfl⟩:=e;exact ⟨(C _ _ rfl).1.snd ap,λl=>(C _ _ rfl).2.1 (by simp [aa,l]),(C _ _ rfl).2.2⟩) a3 j g (λb l=>K b (by simp [aa,l])) aj
   have aS:bd w2 t x.1 ft.fst W:=bd.bT t x.1 _ W (λb l=>K b (by simp [aa,l]) (λar=>aA b l b (al b ar) rfl) (λe=>by
    subst e;rcases au with ⟨J,ax,e0,a1,_⟩|⟨d,e0,_⟩
    grind
    cases a with
    |none=>cases e0
    |some a=>grind)) ad
   refine ⟨rfl,(x.1,x'),W++a5,an,⟨by simp [bC,FT.ae,FT.fst,FT.snd],W,a5,rfl,aS,ay⟩,by simp [az],λb o e=>?_⟩;simp only [Ty.size];have ac:At w b o t.size W:=(C b o e).1.fst ap;have aV:At w2 b (o+t.size) r.size a5:=ao b (o+t.size) (by subst e;rfl);refine At.oS ?_ aV;by_cases O:b=I;subst O;refine D.c6 ac (.inl ?_)
   grind
   exact ac.bT ((C b o e).2.2 O)
  | .i n::p,j,g=>simp [ak] at j
 |slice t aB=>
  intro x ft cs a p v k dd h C U j g K aj
  match p,j,g with
  |[],j,g=>
   simp only [ak,aX,bk] at j;obtain ⟨rfl,rfl,rfl⟩:=j;simp only [dM] at g;split at g;rename_i z ab;obtain ⟨rfl,rfl⟩:=eO ab;exact ⟨rfl,y,ah,g,av,by rw [bd.len _ _ _ _ h,D.len],λb o e=>by simp only [aX,bk] at e;obtain ⟨rfl,rfl⟩:=e;exact D.e3⟩;cases g
  | .f n::p,j,g=>simp [ak] at j
  | .i n::p,j,g=>
   simp only [dM] at g;split at g;rename_i aD am;unfold iG at am;obtain ⟨b,cap,aw,rfl,rfl,ad,af,bm,h4⟩:=h;have aJ:n<List.length (α:=t.ai) x:=(b6.1 am).1;cases b with
   |none=>subst h4;omega
   |some b=>
    have hk:aw[n]?=some (aw[n]'(by omega)):=ba _;generalize aw[n]'(by omega)=kn at hk;simp only [ak,hk] at j;obtain ⟨c,bp,bf⟩:=h4.2 n aD _ am hk;simp only [FT.ae,hs,gM,jh] at U;obtain ⟨a2,a3⟩:=qc hk U.2;have bb:=cz hk;obtain ⟨al,au⟩:=fR _ _ _ _ j;have aR:b∉kn.ae:=λl=>U.1 (eW bb l)
    have aQ:b∉a0.ae:=λl=>aR (al b l)
    have aP:b≠I->w2.heap[b]?=w.heap[b]?:=λbc=>K b (by simp [FT.ae]) aQ bc
    obtain ⟨rfl,x',c',an,ay,az,ao⟩:=aB aD kn c (some (b,n*t.size)) p v _ dd bf (λJ ax e=>by
     grind) a2 j g
     (λJ l=>K J (by grind [FT.ae,eW])) aj
    have bq:=ao b (n*t.size) rfl;have bn:I=b\/I∈kn.ae:=by
     grind
    refine ⟨rfl,List.set (α:=t.ai) x n x',[.slice (some ⟨b,0,none⟩) (List.length (α:=t.ai) x) cap],an,?_,rfl,?_⟩;have aq:List.length (α:=t.ai) (List.set (α:=t.ai) x n x')=List.length (α:=t.ai) x:=hr;refine ⟨some b,cap,aw.set n (bC t kn p ft2),by simp only [bC,hk],by rw [aq];rfl,by rw [aq];exact ad,by rw [aq];exact af,by grind,?_,?_⟩;by_cases O:b=I;subst O;exact D.bF h4.1
    grind
    intro i aC a4 bw bt;by_cases aH:i=n
    grind
    have bj:(show List t.ai from x)[i]?=some aC:=by
     grind
    have a9:aw[i]?=some a4:=by
     grind
    obtain ⟨aF,aG,bg⟩:=h4.2 i aC a4 bj a9;have bu:=cz a9;refine ⟨aF,?_,bd.bT t aC a4 aF (λJ a1=>K J (by grind [FT.ae,eW]) (λar=>a3 i a4 aH a9 J a1 (al J ar)) (λe=>?_)) bg⟩;by_cases O:b=I;subst O;refine D.c6 aG ?_;rcases au with ⟨J,ax,e0,a1,_⟩|⟨d,e0,br⟩
    grind
    simp only [dn,aX,bk] at e0;obtain ⟨_,rfl⟩:=e0;rcases Nat.lt_or_gt_of_ne aH with aZ|aU
    left;have:=jM t.size (uU aZ)
    grind
    right;have:=jM t.size (uU aU)
    grind
    exact aG.bT (aP O)
    grind [eW]
    intro J ax e;obtain ⟨ac,be,aO⟩:=C J ax e;refine ac.bT (aO λe=>be ?_)
    grind [FT.ae,eW]
   cases g
 |arr m t _=>
  intro x ft cs a p v k dd h C U j g K aj
  match p,j,g with
  |[],j,g=>
   simp only [ak,aX,bk] at j;obtain ⟨rfl,rfl,rfl⟩:=j;simp only [dM] at g;split at g;rename_i z ab;obtain ⟨rfl,rfl⟩:=eO ab;exact ⟨rfl,y,ah,g,av,by rw [bd.len _ _ _ _ h,D.len],λb o e=>by simp only [aX,bk] at e;obtain ⟨rfl,rfl⟩:=e;exact D.e3⟩;cases g
  | .f n::p,j,g=>simp [ak] at j
  | .i n::q::p,j,g=>simp [ak] at j
  |[.i n],j,g=>
   obtain ⟨ag,⟨aI,aK⟩,bo,rfl⟩:=h;have ag:t.aW=true:=ag;simp only [ak] at j;split at j;cases j;rename_i a8;simp only [fC,Nat.ble_eq,gN,jf,Nat.not_le] at a8;simp only [aX,bk] at j;obtain ⟨bi,_,a7⟩:=j;subst bi;cases a with
   |none=>cases a7
   |some a=>
    simp only [dn,aX,bk] at a7;obtain ⟨rfl,rfl⟩:=a7;simp only [dM] at g;split at g;cases g;split at g;rename_i aD am;unfold iG at am;split at g;rename_i z ab;obtain ⟨rfl,rfl⟩:=eO ab;obtain ⟨bx,_,rfl⟩:=bd.aW ag a8.1 av;have aJ:n<(show List u.ai from x).length:=(b6.1 am).1;have aq:List.length (α:=u.ai) (List.set (α:=u.ai) x n y)=List.length (α:=u.ai) x:=hr;have ac:=D.agO (d:=n*u.size) (C _ _ rfl).1 rfl (by
     simp only [Ty.size];have:=jM u.size (uU a8.2)
     grind)
    have bs:=af9 ag y (show List u.ai from x) aK n aJ;have aL:dl (.arr m u) (List.set (α:=u.ai) x n y):=⟨aq.trans aI,λbz bv=>by
     grind⟩
    have bh:dl (.arr m u) x:=⟨aI,aK⟩;refine ⟨rfl,List.set (α:=u.ai) x n y,bJ (.arr m u) (List.set (α:=u.ai) x n y),g,⟨ag,aL,by grind [bC],rfl⟩,(hb (.arr m u) _ ag aL).trans (hb (.arr m u) x ag bh).symm,?_⟩
    grind [bJ]
    cases g;cases g
 |_=>
  intro x ft cs a p v k dd h C U j g K aj;cases p with
  |cons q p=>simp [ak] at j
  |nil=>
   simp only [ak,aX,bk] at j;obtain ⟨rfl,rfl,rfl⟩:=j;simp only [dM] at g;split at g;rename_i z ab;obtain ⟨rfl,rfl⟩:=eO ab;exact ⟨rfl,y,ah,g,av,by rw [bd.len _ _ _ _ h,D.len],λb o e=>by simp only [aX,bk] at e;obtain ⟨rfl,rfl⟩:=e;exact D.e3⟩;cases g
end
abbrev b0:=Nat->aM->Option (Ty×FT×Option (Nat×Nat))
structure Gh where
 bj:Option Nat
 ft:FT
def Gh.ae (g:Gh):List Nat:=g.bj.toList++g.ft.ae
def ax (B:Nat->Option bl) (G:Nat->Gh):b0:=λb p=>
 match B b with
 |some x=>ak x.ty (G b).ft ((G b).bj.map (·,0)) p
 |none=>none
def bH (A:b0) (w:World) (R:Nat->Prop):TV->List Value->Prop
 | .ad t x,cs=>Rd w R t x cs
 | .nil,cs=>cs=[.slice none 0 0]
 | .unit,cs=>cs=[]
 | .cons a r,cs=>∃h j,cs=h++j/\bH A w R a h/\bH A w R r j
 | .ref b p,cs=>∃t ft e off,A b p=some (t,ft,some (e,off))/\cs=[.pointer (some ⟨e,off,none⟩)]
 | .sl b p,cs=>∃t d cap g a,A b p=some (.slice t,.node d cap g,a)/\cs=[.slice (d.map (⟨·,0,none⟩)) g.length cap]
 | .slw b p lo n,cs=>∃t d cap g a,A b p=some (.slice t,.node d cap g,a)/\(lo+n<=g.length/\n<=eL)/\
  ∃a' c,cs=[.slice a' n c]/\(n<=c/\(lo=0->c=cap/\a'=d.map (⟨·,0,none⟩)))/\(0<n->∃e,d=some e/\a'=some ⟨e,lo*t.size,none⟩)
 | .bw t x,cs=>∃e off c,cs=[.pointer (some ⟨e,off,none⟩)]/\R e/\At w e off t.size c/\Rd w R t x c
 | .bY f l,cs=>∃vs,bH A w R l vs/\cs=[.func (.func f) #[] vs.toArray]
 | .mp b,cs=>∃t d cap g a,A b []=some (.slice t,.node (some d) cap g,a)/\cs=[.map (some d)]
 | .un,cs=>∃v,cs=[v]
 | .tup _,_=>False
 | .ab _ _,_=>False
def TV.agg:TV->Bool
 | .ad t _=>t.agg
 | .unit| .cons _ _=>true
 |_=>false
def eI (A:b0) (w:World) (R:Nat->Prop) (v:TV) (x:Value):Prop:=
 v=.un\/∃cs,bH A w R v cs/\(if v.agg then x=.agg cs.toArray else cs=[x])
def fh (A:b0) (w:World) (R:Nat->Prop):TV->List Value->Prop
 | .cons a r,x::xs=>eI A w R a x/\fh A w R r xs
 | .unit,[]=>True
 |_,_=>False
def VR (A:b0) (w:World) (R:Nat->Prop) (v:TV) (x:Value):Prop:=
 match v with
 | .tup a=>∃xs,fh A w R a xs/\x=.tuple xs.toArray
 |v=>eI A w R v x
def ed:(t:Ty)->t.ai->FT->List Value->Prop
 | .slice _,_,ft,cs=>ft.ae=[]/\cs.length=1
 | .cons t r,x,ft,cs=>ft.ae=ft.fst.ae++ft.snd.ae/\∃b c,cs=b++c/\ed t x.1 ft.fst b/\ed r x.2 ft.snd c
 | .bG,_,_,_=>False
 |t,x,ft,cs=>t.aW=true/\dl t x/\ft.ae=[]/\cs=bJ t x
def mF (w:World) (t:Ty) (xs:List t.ai) (f:List Bool) (ft:FT) (cs:List Value):Prop:=
 ∃b cap d,ft=.node b cap d/\cs=[.slice (b.map (⟨·,0,none⟩)) xs.length cap]/\xs.length<=cap/\xs.length<=eL/\d.length=xs.length/\f.length=xs.length/\
  (match b with
   |none=>cap=0
   |some b=>(∃row e,w.heap[b]?=some (.cells row e (0,0))/\cap*t.size=row.size)/\
    ∀(i:Nat) (x:t.ai) (k:FT) (g:Bool),xs[i]?=some x->d[i]?=some k->f[i]?=some g->∃c,At w b (i*t.size) t.size c/\(g=false->bd w t x k c)/\(g=true->ed t x k c))
def fb:(K:Ty)->K.ai->Value
 | .int b,x=>.int b x
 |t,x=>.agg (bJ t x).toArray
def iH (K:Ty):Prop:=K=.int .i64\/K=.arr 2 (.int .i64)
def kT (w:World):(u:Ty)->List u.ai->FT->List Value->Prop
 | .cons K (.cons (.int .i64) .unit),xs,ft,cs=>iH K/\∃c b,ft=.node (some c) 0 []/\cs=[.map (some c)]/\w.heap[c]?=some (.map b b.size)/\b.size=List.length xs/\
  ∀(i:Nat) (x:K.ai×Int×Unit),xs[i]?=some x->dl K x.1/\∃e,b[i]?=some e/\e.key=fb K x.1/\e.val=.int .i64 x.2.1/\e.born=i
 |_,_,_,_=>False
def wW (w:World) (R:Nat->Prop) (u:Ty) (xs:List u.ai) (ft:FT) (cs:List Value):Prop:=
 ∃b cap d,ft=.node (some b) cap d/\FT.bq d=[]/\cs=[.slice (some ⟨b,0,none⟩) xs.length cap]/\xs.length<=cap/\xs.length<=eL/\d.length=xs.length/\
  (∃row e,w.heap[b]?=some (.cells row e (0,0))/\cap*u.size=row.size)/\∀(i:Nat) (x:u.ai),xs[i]?=some x->∃c,At w b (i*u.size) u.size c/\Rd w R u x c
def fN (w:World) (R:Nat->Prop) (t:Ty):TV->FT->List Value->Prop
 | .cons (.ab (.slice u) xs) (.ab (.slice .bool) b),ft,cs=>u=t/\mF w u xs b ft cs
 | .ab (.slice u) xs,ft,cs=>u=t/\kT w u xs ft cs
 | .ad (.slice u) xs,ft,cs=>u=t/\wW w R u xs ft cs
 |_,_,_=>False
def a1 (A:b0) (w:World) (R:Nat->Prop):TV->Ty->FT->List Value->Prop
 | .ab u x,t,ft,cs=>u=t/\bd w u x ft cs
 | .ad u x,t,ft,cs=>u=t/\ft.ae=[]/\Rd w R u x cs
 | .cons a d,.cons t r,ft,cs=>ft.ae=ft.fst.ae++ft.snd.ae/\∃b e,cs=b++e/\b.length=t.size/\a1 A w R a t ft.fst b/\a1 A w R d r ft.snd e
 | .cons _ _,_,_,_=>False
 | .unit,t,ft,cs=>t=.unit/\ft.ae=[]/\cs=[]
 | .un,t,ft,cs=>ft.ae=[]/\t.size=1/\t.agg=false/\cs.length=1
 | .tup c,.slice t,ft,cs=>fN w R t c ft cs
 | .tup _,_,_,_=>False
 |v,t,ft,cs=>t.size=1/\t.agg=false/\ft.ae=[]/\bH A w R v cs
def dw (A:b0) (w:World) (R:Nat->Prop) (g:Gh) (x:bl):Prop:=
 if x.cn then g.bj=none/\(∃t,x.ty=.slice t)/\∃cs,a1 A w R x.c x.ty g.ft cs
 else ∃b row e,g.bj=some b/\w.heap[b]?=some (.cells row e (0,0))/\row.size=x.ty.size/\a1 A w R x.c x.ty g.ft row.toList
structure Fr where
 R:Nat->Prop
 M:List Nat
 w0:World
 nt:Nat
 bj:Nat->Option Nat
 dy:Nat->Option (Option Nat×Nat×Nat)
 sv:List (Array Value):=[]
def Fr.fZ (F:Fr) (i n:Nat):Value:=(F.sv.getD i #[]).getD n undef
def FT.dy:FT->Option (Option Nat×Nat×Nat)
 | .node b cap c=>some (b,cap,c.length)
 |_=>none
structure fM (w w2:World):Prop where
 size:w.heap.size<=w2.heap.size
 os:w2.os=w.os
 output:w2.output=w.output
theorem fM.refl (w:World):fM w w:=⟨cV _,rfl,rfl⟩
theorem fM.trans {a b c:World} (h:fM a b) (k:fM b c):fM a c:=⟨Nat.le_trans h.size k.size,k.os.trans h.os,k.output.trans h.output⟩
structure aC (F:Fr) (G:Nat->Gh) (s:St) (a:Act) (w:World):Prop where
 box:∀i x,s.box i=some x->dw (ax s.box G) w F.R (G i) x
 cC:∀i x,s.box i=some x->x.ty.cC
 c6:∀i j x y,s.box i=some x->s.box j=some y->i≠j->∀b∈(G i).ae,b∉(G j).ae
 b7:∀i x,s.box i=some x->(G i).ae.Nodup
 bQ:∀i x,s.box i=some x->∀b∈(G i).ae,¬F.R b/\b<w.heap.size/\(b∈F.M\/F.w0.heap.size<=b)
 R:∀b,F.R b->b<F.w0.heap.size/\b∉F.M
 tmps:∀n,VR (ax s.box G) w F.R (s.get n) (a.tmps.getD n undef)
 bT:∀b,b<F.w0.heap.size->b∉F.M->w.heap[b]?=F.w0.heap[b]?
 fT:fM F.w0 w
 defers:a.defers=[]
 nt:a.tmps.size=F.nt
 cU:∀i x,s.box i=some x->(i%32=0->(G i).bj=F.bj i)/\(x.dD=true->x.cn=true/\(G i).ft.dy=F.dy i)
 sv:∀i n,VR (ax s.box G) w F.R (s.fZ i n) (F.fZ i n)
 jF:s.sv.length=F.sv.length
theorem aC.size {F:Fr} {G:Nat->Gh} {s:St} {a:Act} {w:World} (h:aC F G s a w):F.w0.heap.size<=w.heap.size:=h.fT.size
def fj:Ty->FT->Option (Option Nat×Nat×Nat)
 | .slice _,ft=>ft.dy
 |_,_=>none
def hP (A A':b0):Prop:=∀b p t ft a,A b p=some (t,ft,a)->∃c,A' b p=some (t,c,a)/\fj t c=fj t ft
def mC (b:Nat) (p:aM) (A A':b0):Prop:=∀c q t ft a,A c q=some (t,ft,a)->
 (b≠c\/aM.fp p q=none->∃d,A' c q=some (t,d,a)/\fj t d=fj t ft)/\
 (∀r,b=c->aM.fp p q=some r->aM.dC r=false->∃d,A' c q=some (t,d,a))
def m7 {ft:FT} {b:Option Nat} {cap:Nat} {c:List FT} (h:ft.dy=(FT.node b cap c).dy):∃d,ft=.node b cap d/\d.length=c.length:=by
 cases ft<;>simp [FT.dy] at h
 simp_all
section
variable {A A':b0} {w w':World} {R:Nat->Prop}
theorem bH.mono (j:hP A A') (l:∀b,R b->w'.heap[b]?=w.heap[b]?):∀(v:TV) (cs:List Value),bH A w R v cs->bH A' w' R v cs
 | .ad t x,cs,h=>Rd.bT (λ_ h=>h) l t x cs h
 | .nil,_,h=>h
 | .unit,_,h=>h
 | .un,_,h=>h
 | .tup _,_,h=>h
 | .ab _ _,_,h=>h
 | .cons a r,cs,h=>by
  obtain ⟨z,C,rfl,d,e⟩:=h;exact ⟨z,C,rfl,bH.mono j l a z d,bH.mono j l r C e⟩
 | .ref b p,cs,h=>by
  obtain ⟨t,ft,y,off,d,rfl⟩:=h;obtain ⟨u,e,_⟩:=j _ _ _ _ _ d;exact ⟨t,u,y,off,e,rfl⟩
 | .sl b p,cs,h=>by
  obtain ⟨t,o,cap,D,a,d,rfl⟩:=h;obtain ⟨u,e,g⟩:=j _ _ _ _ _ d;obtain ⟨q,rfl,h4⟩:=m7 g;exact ⟨t,o,cap,q,a,e,by rw [h4]⟩
 | .slw b p lo n,cs,h=>by
  obtain ⟨t,o,cap,D,a,d,J,h5⟩:=h;obtain ⟨u,e,g⟩:=j _ _ _ _ _ d;obtain ⟨q,rfl,h4⟩:=m7 g;exact ⟨t,o,cap,q,a,e,⟨by omega,J.2⟩,h5⟩
 | .bw t x,cs,h=>by
  obtain ⟨y,off,c,rfl,d,e,g⟩:=h;exact ⟨y,off,c,rfl,d,e.bT (l _ d),Rd.bT (λ_ h=>h) l t x c g⟩
 | .bY f I,cs,h=>by
  obtain ⟨vs,d,rfl⟩:=h;exact ⟨vs,bH.mono j l I vs d,rfl⟩
 | .mp b,cs,h=>by
  obtain ⟨t,o,cap,D,a,d,rfl⟩:=h;obtain ⟨u,e,g⟩:=j _ _ _ _ _ d;obtain ⟨q,rfl,_⟩:=m7 g;exact ⟨t,o,cap,q,a,e,rfl⟩
theorem agY (b:Nat) (p:aM) (v:TV):(v.aw b p).agg=v.agg:=by
 cases v
 case ref=>simp only [TV.aw];split<;>(try split)<;>(try split)<;>rfl
 case sl=>simp only [TV.aw];split<;>(try split)<;>(try split)<;>rfl
 case slw=>simp only [TV.aw];split<;>(try split)<;>(try split)<;>rfl
 case mp=>simp only [TV.aw];split<;>(try split)<;>(try split)<;>rfl
 all_goals rfl
theorem bH.aw {b:Nat} {p:aM} (z:mC b p A A') (D:∀b,R b->w'.heap[b]?=w.heap[b]?):∀(v:TV) (cs:List Value),bH A w R v cs->bH A' w' R (v.aw b p) cs
 | .ad t x,cs,h=>Rd.bT (λ_ h=>h) D t x cs h
 | .nil,_,h=>h
 | .unit,_,h=>h
 | .un,_,h=>h
 | .tup _,_,h=>h.elim
 | .ab _ _,_,h=>h.elim
 | .cons a r,cs,h=>by
  obtain ⟨J,K,rfl,g,d⟩:=h;exact ⟨J,K,rfl,bH.aw z D a J g,bH.aw z D r K d⟩
 | .ref c q,cs,h=>by
  obtain ⟨t,ft,I,off,g,rfl⟩:=h;obtain ⟨d,C⟩:=z _ _ _ _ _ g;simp only [TV.aw];split;rename_i e;split;rename_i r o;split;exact ⟨_,rfl⟩;rename_i aa;obtain ⟨j,h4⟩:=C r (gj e) o (by simpa using aa);exact ⟨t,j,I,off,h4,rfl⟩;rename_i o;obtain ⟨j,h4,_⟩:=d (.inr o);exact ⟨t,j,I,off,h4,rfl⟩;rename_i e;obtain ⟨j,h4,_⟩:=d (.inl (λy=>e (by rw [y,nK])));exact ⟨t,j,I,off,h4,rfl⟩
 | .sl c q,cs,h=>by
  obtain ⟨t,u,cap,W,a,g,rfl⟩:=h;obtain ⟨d,C⟩:=z _ _ _ _ _ g;simp only [TV.aw];split;rename_i e;split;exact ⟨_,rfl⟩;rename_i o;obtain ⟨j,h4,h5⟩:=d (.inr o);obtain ⟨l,rfl,h6⟩:=m7 h5;exact ⟨t,u,cap,l,a,h4,by rw [h6]⟩;rename_i e;obtain ⟨j,h4,h5⟩:=d (.inl (λy=>e (by rw [y,nK])));obtain ⟨l,rfl,h6⟩:=m7 h5;exact ⟨t,u,cap,l,a,h4,by rw [h6]⟩
 | .slw c q lo n,cs,h=>by
  obtain ⟨t,u,cap,W,a,g,U,a',c',rfl,O⟩:=h;obtain ⟨d,C⟩:=z _ _ _ _ _ g;simp only [TV.aw];split;rename_i e;split;exact ⟨_,rfl⟩;rename_i o;obtain ⟨j,h4,h5⟩:=d (.inr o);obtain ⟨l,rfl,h6⟩:=m7 h5;exact ⟨t,u,cap,l,a,h4,⟨by omega,U.2⟩,a',c',rfl,O⟩;rename_i e;obtain ⟨j,h4,h5⟩:=d (.inl (λy=>e (by rw [y,nK])));obtain ⟨l,rfl,h6⟩:=m7 h5;exact ⟨t,u,cap,l,a,h4,⟨by omega,U.2⟩,a',c',rfl,O⟩
 | .bw t x,cs,h=>by
  obtain ⟨I,off,c,rfl,g,d,C⟩:=h;exact ⟨I,off,c,rfl,g,d.bT (D _ g),Rd.bT (λ_ h=>h) D t x c C⟩
 | .bY f X,cs,h=>by
  obtain ⟨vs,g,rfl⟩:=h;exact ⟨vs,bH.aw z D X vs g,rfl⟩
 | .mp c,cs,h=>by
  obtain ⟨t,u,cap,W,a,g,rfl⟩:=h;obtain ⟨d,C⟩:=z _ _ _ _ _ g;simp only [TV.aw];split;rename_i e;split;exact ⟨_,rfl⟩;rename_i o;obtain ⟨j,h4,h5⟩:=d (.inr o);obtain ⟨l,rfl,h6⟩:=m7 h5;exact ⟨t,u,cap,l,a,h4,rfl⟩;rename_i e;obtain ⟨j,h4,h5⟩:=d (.inl (λy=>e (by rw [y,nK])));obtain ⟨l,rfl,h6⟩:=m7 h5;exact ⟨t,u,cap,l,a,h4,rfl⟩
theorem eI.mono (e:hP A A') (f:∀b,R b->w'.heap[b]?=w.heap[b]?) {v:TV} {x:Value} (h:eI A w R v x):eI A' w' R v x:=
 h.imp id λ⟨cs,c,d⟩=>⟨cs,bH.mono e f v cs c,d⟩
theorem fh.mono (c:hP A A') (d:∀b,R b->w'.heap[b]?=w.heap[b]?):∀(v:TV) (xs:List Value),fh A w R v xs->fh A' w' R v xs
 | .cons _ r,_::xs,h=>⟨eI.mono c d h.1,fh.mono c d r xs h.2⟩
 | .unit,[],_=>trivial
 | .cons _ _,[],h=>h.elim
 | .unit,_::_,h=>h.elim
 | .un,_,h=>h.elim
 | .ad _ _,_,h=>h.elim
 | .ab _ _,_,h=>h.elim
 | .nil,_,h=>h.elim
 | .tup _,_,h=>h.elim
 | .ref _ _,_,h=>h.elim
 | .sl _ _,_,h=>h.elim
 | .slw _ _ _ _,_,h=>h.elim
 | .bw _ _,_,h=>h.elim
 | .bY _ _,_,h=>h.elim
 | .mp _,_,h=>h.elim
theorem VR.mono (c:hP A A') (d:∀b,R b->w'.heap[b]?=w.heap[b]?) {v:TV} {x:Value} (h:VR A w R v x):VR A' w' R v x:=by
 unfold VR at*
 grind [fh.mono,eI.mono]
theorem eI.aw {b:Nat} {p:aM} (e:mC b p A A') (f:∀b,R b->w'.heap[b]?=w.heap[b]?) {v:TV} {x:Value} (h:eI A w R v x):eI A' w' R (v.aw b p) x:=by
 rcases h with rfl|⟨cs,c,d⟩
 exact .inl rfl;exact .inr ⟨cs,bH.aw e f v cs c,by rw [agY];exact d⟩
theorem fh.aw {b:Nat} {p:aM} (c:mC b p A A') (d:∀b,R b->w'.heap[b]?=w.heap[b]?):∀(v:TV) (xs:List Value),fh A w R v xs->fh A' w' R (v.aw b p) xs
 | .cons _ r,_::xs,h=>⟨eI.aw c d h.1,fh.aw c d r xs h.2⟩
 | .unit,[],_=>trivial
 | .cons _ _,[],h=>h.elim
 | .unit,_::_,h=>h.elim
 | .un,_,h=>h.elim
 | .ad _ _,_,h=>h.elim
 | .ab _ _,_,h=>h.elim
 | .nil,_,h=>h.elim
 | .tup _,_,h=>h.elim
 | .ref _ _,_,h=>h.elim
 | .sl _ _,_,h=>h.elim
 | .slw _ _ _ _,_,h=>h.elim
 | .bw _ _,_,h=>h.elim
 | .bY _ _,_,h=>h.elim
 | .mp _,_,h=>h.elim
theorem mV {v:TV} {x:Value} (h:∀a,v≠ .tup a):VR A w R v x=eI A w R v x:=by
 cases v<;>first|rfl|exact absurd rfl (h _)
theorem ag1 (b:Nat) (p:aM) {v:TV} (h:∀a,v≠ .tup a):∀a,v.aw b p≠ .tup a:=by
 intro a;cases v
 case tup a=>exact absurd rfl (h a)
 case ref=>simp only [TV.aw];grind
 case sl=>simp only [TV.aw];grind
 case slw=>simp only [TV.aw];grind
 case mp=>simp only [TV.aw];grind
 all_goals simp [TV.aw]
theorem VR.aw {b:Nat} {p:aM} (e:mC b p A A') (g:∀b,R b->w'.heap[b]?=w.heap[b]?) {v:TV} {x:Value} (h:VR A w R v x):VR A' w' R (v.aw b p) x:=by
 by_cases f:∃a,v=.tup a
 obtain ⟨a,rfl⟩:=f;obtain ⟨xs,c,d⟩:=h;exact ⟨xs,fh.aw e g a xs c,d⟩
 grind [mV,ag1,eI.aw]
end
def Ei:∀(t:Ty) (ft:FT) (a:Option (Nat×Nat)) (q:aM) {v:Ty} {d:FT} {b:Option (Nat×Nat)},ak t ft a q=some (v,d,b)->aM.dC q=false->
 ∀ft2,∃e,ak t ft2 a q=some (v,e,b):=by
 intro t
 induction t with
 |cons t r j g=>
  intro ft a q v d b h c ft2
  match q,h with
  |[],h=>simp only [ak,aX,bk] at h;obtain ⟨rfl,rfl,rfl⟩:=h;exact ⟨ft2,rfl⟩
  | .f 0::q,h=>exact j _ _ _ h (by simpa [aM.dC] using c) _
  | .f (n+1)::q,h=>exact g _ _ _ h (by simpa [aM.dC] using c) _
  | .i n::q,h=>simp [ak] at h
 |_=>
  intro ft a q v d b h c ft2;cases q with
  |nil=>simp only [ak,aX,bk] at h;obtain ⟨rfl,rfl,rfl⟩:=h;exact ⟨ft2,rfl⟩
  |cons s q=>cases s<;>simp [ak,aM.dC] at h c
def ael:∀(t:Ty) (ft:FT) (a:Option (Nat×Nat)) (p q:aM) (f:FT) {u v:Ty} {o j:FT} {l e:Option (Nat×Nat)},
 ak t ft a p=some (u,o,l)->ak t ft a q=some (v,j,e)->
 (aM.fp p q=none->∃x,ak t (bC t ft p f) a q=some (v,x,e)/\fj v x=fj v j)/\
 (∀r,aM.fp p q=some r->aM.dC r=false->∃x,ak t (bC t ft p f) a q=some (v,x,e)):=by
 intro t
 induction t with
 |cons t r y I=>
  intro ft a p q f u v o j l e c d
  match p,c with
  |[],c=>exact ⟨λh=>by simp [aM.fp] at h,λs h g=>by simp only [aM.fp,aX] at h;subst h;exact Ei _ _ _ _ d g _⟩
  | .i n::p,c=>simp [ak] at c
  | .f 0::p,c=>
   match q,d with
   |[],d=>
    simp only [ak,aX,bk] at d;obtain ⟨rfl,rfl,rfl⟩:=d;exact ⟨λ_=>⟨_,rfl,rfl⟩,λs h=>by simp [aM.fp] at h⟩
   | .i n::q,d=>simp [ak] at d
   | .f 0::q,d=>
    simp only [ak] at c d;have:=y _ _ p q f c d;simpa [aM.fp,ak,bC,FT.fst] using this
   | .f (n+1)::q,d=>
    grind [ak,bC,FT.snd]
  | .f (m+1)::p,c=>
   match q,d with
   |[],d=>
    simp only [ak,aX,bk] at d;obtain ⟨rfl,rfl,rfl⟩:=d;exact ⟨λ_=>⟨_,rfl,rfl⟩,λs h=>by simp [aM.fp] at h⟩
   | .i n::q,d=>simp [ak] at d
   | .f 0::q,d=>
    grind [ak,bC,FT.fst]
   | .f (n+1)::q,d=>
    simp only [ak] at c d;have:=I _ _ (.f m::p) (.f n::q) f c d;simp only [aM.fp] at this|-;simp only [ak,bC,FT.snd];exact this
 |slice t y=>
  intro ft a p q f u v o j l e c d
  match p,c with
  |[],c=>exact ⟨λh=>by simp [aM.fp] at h,λs h g=>by simp only [aM.fp,aX] at h;subst h;exact Ei _ _ _ _ d g _⟩
  | .f n::p,c=>simp [ak] at c
  | .i n::p,c=>
   match ft,c,d with
   | .leaf,c,_=>simp [ak] at c
   | .eE _ _,c,_=>simp [ak] at c
   | .node none _ _,c,_=>simp [ak] at c
   | .node (some b) cap J,c,d=>
    simp only [ak] at c;split at c;rename_i kn hk
    match q,d with
    |[],d=>
     grind [ak,fj,FT.dy,bC]
    | .f n::q,d=>simp [ak] at d
    | .i m::q,d=>
     simp only [ak] at d;split at d;rename_i K z;by_cases C:m=n;subst C;rw [hk] at z;obtain rfl:=b2 z;have D:(J.set m (bC t kn p f))[m]?=some (bC t kn p f):=by
      grind
     have:=y _ _ p q f c d;simpa [aM.fp,ak,bC,hk,D] using this
     grind [bC,ak]
     cases d
    cases c
 |arr m t _=>
  intro ft a p q f u v o j l e c d
  match p,c with
  |[],c=>exact ⟨λh=>by simp [aM.fp] at h,λs h g=>by simp only [aM.fp,aX] at h;subst h;exact Ei _ _ _ _ d g _⟩
  | .f n::p,c=>simp [ak] at c
  | .i n::s::p,c=>simp [ak] at c
  |[.i n],c=>
   grind [bC]
 |_=>
  intro ft a p q f u v o j l e c d;cases p with
  |nil=>exact ⟨λh=>by simp [aM.fp] at h,λs h g=>by simp only [aM.fp,aX] at h;subst h;exact Ei _ _ _ _ d g _⟩
  |cons s p=>simp [ak] at c
theorem fN.out {w:World} {R:Nat->Prop} {t:Ty} {c:TV} {ft:FT} {cs:List Value} (h:fN w R t c ft cs):
 (∃(xs:List t.ai) (b:List Bool),c=.cons (.ab (.slice t) xs) (.ab (.slice .bool) b)/\mF w t xs b ft cs)\/
 (∃(xs:List t.ai),c=.ab (.slice t) xs/\kT w t xs ft cs)\/∃(xs:List t.ai),c=.ad (.slice t) xs/\wW w R t xs ft cs:=by
 unfold fN at h;split at h;obtain ⟨rfl,h⟩:=h;grind;obtain ⟨rfl,h⟩:=h;grind;obtain ⟨rfl,h⟩:=h;grind;exact h.elim
theorem kT.out {w:World} {u:Ty} {xs:List u.ai} {ft:FT} {cs:List Value} (h:kT w u xs ft cs):∃b c,ft=.node (some b) 0 []/\cs=[.map (some b)]/\w.heap[b]?=some (.map c c.size):=by
 unfold kT at h
 grind
theorem kT.bT {w w':World} {u:Ty} {xs:List u.ai} {ft:FT} {cs:List Value} (c:∀b∈ft.ae,w'.heap[b]?=w.heap[b]?) (h:kT w u xs ft cs):kT w' u xs ft cs:=by
 unfold kT at h|-
 grind [FT.ae]
theorem wW.bT {w w':World} {R:Nat->Prop} {u:Ty} {xs:List u.ai} {ft:FT} {cs:List Value} (r:∀b,R b->w'.heap[b]?=w.heap[b]?) (n:∀b∈ft.ae,w'.heap[b]?=w.heap[b]?) (h:wW w R u xs ft cs):wW w' R u xs ft cs:=by
 obtain ⟨b,cap,y,rfl,d,f,g,j,h4,⟨row,e,h5,h6⟩,l⟩:=h;have e0:w'.heap[b]?=w.heap[b]?:=n b (by simp [FT.ae]);refine ⟨b,cap,y,rfl,d,f,g,j,h4,⟨row,e,by rw [e0];exact h5,h6⟩,λi x v=>?_⟩;obtain ⟨c,o,q⟩:=l i x v;exact ⟨c,o.bT e0,Rd.bT (λ_ h=>h) r _ _ _ q⟩
theorem mF.bT {w w':World} {t:Ty} {xs:List t.ai} {d:List Bool} {ft:FT} {cs:List Value} (f:∀b∈ft.ae,w'.heap[b]?=w.heap[b]?) (h:mF w t xs d ft cs):mF w' t xs d ft cs:=by
 obtain ⟨b,cap,C,rfl,rfl,l,n,o,h4,h5⟩:=h;refine ⟨b,cap,C,rfl,rfl,l,n,o,h4,?_⟩;cases b with
 |none=>exact h5
 |some b=>
  obtain ⟨⟨row,e,h5,h6⟩,q⟩:=h5;have e0:w'.heap[b]?=w.heap[b]?:=f b (by simp [FT.ae]);refine ⟨⟨row,e,by rw [e0];exact h5,h6⟩,λi x k g z hk u=>?_⟩;obtain ⟨c,r,y,v⟩:=q i x k g z hk u;refine ⟨c,r.bT e0,λe=>bd.bT t x k c (λj m=>f j ?_) (y e),v⟩;simp only [FT.ae,bp];exact .inr (eW (cz hk) m)
section
variable {A A':b0} {w w':World} {R:Nat->Prop}
theorem a1.len:∀(c:TV) (t:Ty) (ft:FT) (cs:List Value),a1 A w R c t ft cs->cs.length=t.size:=by
 intro c
 induction c with
 |ab u x=>intro t ft cs h;obtain ⟨rfl,h⟩:=h;exact bd.len _ _ _ _ h
 |ad u x=>intro t ft cs h;obtain ⟨rfl,_,h⟩:=h;exact Rd.len _ _ _ h
 |cons a d q j=>
  intro t ft cs h;cases t<;>try exact h.elim
  obtain ⟨_,l,o,rfl,e,_,g⟩:=h;simp [Ty.size,e,j _ _ _ g]
 |unit=>intro t ft cs h;obtain ⟨rfl,_,rfl⟩:=h;rfl
 |un=>intro t ft cs h;rw [h.2.1];exact h.2.2.2
 |tup a _=>
  intro t ft cs h;cases t<;>try exact h.elim
  rcases fN.out h with ⟨_,_,_,_,_,_,_,rfl,_⟩|⟨_,_,h⟩|⟨_,_,_,_,_,_,_,rfl,_⟩
  rfl;obtain ⟨_,_,_,rfl,_⟩:=h.out;rfl;rfl
 |nil=>intro t ft cs h;obtain ⟨e,_,_,rfl⟩:=h;rw [e];rfl
 |ref b p=>intro t ft cs h;obtain ⟨e,_,_,_,_,_,_,_,rfl⟩:=h;rw [e];rfl
 |sl b p=>intro t ft cs h;obtain ⟨e,_,_,_,_,_,_,_,_,rfl⟩:=h;rw [e];rfl
 |slw b p lo n=>intro t ft cs h;obtain ⟨e,_,_,_,_,_,_,_,_,_,_,_,rfl,_⟩:=h;rw [e];rfl
 |bw u x=>intro t ft cs h;obtain ⟨e,_,_,_,_,_,rfl,_⟩:=h;rw [e];rfl
 |bY f c _=>intro t ft cs h;obtain ⟨e,_,_,_,_,rfl⟩:=h;rw [e];rfl
 |mp b=>intro t ft cs h;obtain ⟨e,_,_,_,_,_,_,_,_,rfl⟩:=h;rw [e];rfl
theorem a1.mono (l:hP A A') (g:∀b,R b->w'.heap[b]?=w.heap[b]?):∀(c:TV) (t:Ty) (ft:FT) (cs:List Value),(∀b∈ft.ae,w'.heap[b]?=w.heap[b]?)->a1 A w R c t ft cs->a1 A' w' R c t ft cs:=by
 intro c
 induction c with
 |ab u x=>intro t ft cs e h;exact ⟨h.1,bd.bT _ _ _ _ e h.2⟩
 |ad u x=>intro t ft cs e h;exact ⟨h.1,h.2.1,Rd.bT (λ_ h=>h) g _ _ _ h.2.2⟩
 |cons a d C D=>
  intro t ft cs e h;cases t<;>try exact h.elim
  obtain ⟨v,q,r,rfl,j,y,z⟩:=h;exact ⟨v,q,r,rfl,j,C _ _ _ (λb o=>e b (i2 o)) y,D _ _ _ (λb o=>e b (jc o)) z⟩
 |unit=>intro t ft cs _ h;exact h
 |un=>intro t ft cs _ h;exact h
 |tup a _=>
  intro t ft cs e h;cases t<;>try exact h.elim
  rcases fN.out h with ⟨xs,I,rfl,j⟩|⟨xs,rfl,j⟩|⟨xs,rfl,j⟩
  exact ⟨rfl,j.bT e⟩;exact ⟨rfl,j.bT e⟩;exact ⟨rfl,j.bT g e⟩
 |nil=>intro t ft cs _ h;exact h
 |ref b p=>intro t ft cs _ h;exact ⟨h.1,h.2.1,h.2.2.1,bH.mono l g _ _ h.2.2.2⟩
 |sl b p=>intro t ft cs _ h;exact ⟨h.1,h.2.1,h.2.2.1,bH.mono l g _ _ h.2.2.2⟩
 |slw b p lo n=>intro t ft cs _ h;exact ⟨h.1,h.2.1,h.2.2.1,bH.mono l g _ _ h.2.2.2⟩
 |bw u x=>intro t ft cs _ h;exact ⟨h.1,h.2.1,h.2.2.1,bH.mono l g _ _ h.2.2.2⟩
 |bY f c _=>intro t ft cs _ h;exact ⟨h.1,h.2.1,h.2.2.1,bH.mono l g _ _ h.2.2.2⟩
 |mp b=>intro t ft cs _ h;exact ⟨h.1,h.2.1,h.2.2.1,bH.mono l g _ _ h.2.2.2⟩
def Gs {v:TV} {b:Nat} {p:aM} {t:Ty} {ft:FT} {cs:List Value} (c:t.size=1) (d:t.agg=false) (f:ft.ae=[]) (g:v.aw b p=.un\/v.aw b p=v)
 (j:∀(A:b0) (w:World) (R:Nat->Prop),(t.size=1/\t.agg=false/\ft.ae=[]/\bH A w R v cs)->a1 A w R v t ft cs) (h:bH A w R (v.aw b p) cs):a1 A w R (v.aw b p) t ft cs:=by
 rcases g with e|e
 rw [e] at h|-;obtain ⟨x,rfl⟩:=h;exact ⟨f,c,d,rfl⟩;simp_all
def kill_cases (b:Nat) (p:aM) (c:Nat) (q:aM) (lo n:Nat):
 ((TV.ref c q).aw b p=.un\/(TV.ref c q).aw b p=.ref c q)/\((TV.sl c q).aw b p=.un\/(TV.sl c q).aw b p=.sl c q)/\((TV.slw c q lo n).aw b p=.un\/(TV.slw c q lo n).aw b p=.slw c q lo n)/\((TV.mp c).aw b p=.un\/(TV.mp c).aw b p=.mp c):=by
 grind [TV.aw]
theorem a1.aw {b:Nat} {p:aM} (l:mC b p A A') (g:∀b,R b->w'.heap[b]?=w.heap[b]?):∀(c:TV) (t:Ty) (ft:FT) (cs:List Value),(∀b∈ft.ae,w'.heap[b]?=w.heap[b]?)->a1 A w R c t ft cs->a1 A' w' R (c.aw b p) t ft cs:=by
 intro c
 induction c with
 |ab u x=>intro t ft cs e h;exact ⟨h.1,bd.bT _ _ _ _ e h.2⟩
 |ad u x=>intro t ft cs e h;exact ⟨h.1,h.2.1,Rd.bT (λ_ h=>h) g _ _ _ h.2.2⟩
 |cons a d D I=>
  intro t ft cs e h;cases t<;>try exact h.elim
  obtain ⟨y,r,v,rfl,j,z,C⟩:=h;exact ⟨y,r,v,rfl,j,D _ _ _ (λb o=>e b (i2 o)) z,I _ _ _ (λb o=>e b (jc o)) C⟩
 |unit=>intro t ft cs _ h;exact h
 |un=>intro t ft cs _ h;exact h
 |tup a _=>
  intro t ft cs e h;cases t<;>try exact h.elim
  rcases fN.out h with ⟨xs,J,rfl,j⟩|⟨xs,rfl,j⟩|⟨xs,rfl,j⟩
  exact ⟨rfl,j.bT e⟩;exact ⟨rfl,j.bT e⟩;exact ⟨rfl,j.bT g e⟩
 |nil=>intro t ft cs _ h;exact h
 |ref c q=>intro t ft cs _ h;exact Gs h.1 h.2.1 h.2.2.1 (kill_cases b p c q 0 0).1 (λ_ _ _ h=>h) (bH.aw l g _ _ h.2.2.2)
 |sl c q=>intro t ft cs _ h;exact Gs h.1 h.2.1 h.2.2.1 (kill_cases b p c q 0 0).2.1 (λ_ _ _ h=>h) (bH.aw l g _ _ h.2.2.2)
 |slw c q lo n=>intro t ft cs _ h;exact Gs h.1 h.2.1 h.2.2.1 (kill_cases b p c q lo n).2.2.1 (λ_ _ _ h=>h) (bH.aw l g _ _ h.2.2.2)
 |bw u x=>intro t ft cs _ h;exact ⟨h.1,h.2.1,h.2.2.1,bH.aw l g _ _ h.2.2.2⟩
 |bY f c _=>intro t ft cs _ h;exact ⟨h.1,h.2.1,h.2.2.1,bH.aw l g _ _ h.2.2.2⟩
 |mp c=>intro t ft cs _ h;exact Gs h.1 h.2.1 h.2.2.1 (kill_cases b p c [] 0 0).2.2.2 (λ_ _ _ h=>h) (bH.aw l g _ _ h.2.2.2)
end
theorem Rd.fW {w:World} {R:Nat->Prop}:∀{t:Ty} {x:t.ai},t.aW=true->dl t x->Rd w R t x (bJ t x)
 | .int _,_,b,hk=>⟨b,hk,rfl⟩
 | .bool,_,b,hk=>⟨b,hk,rfl⟩
 | .bR,_,b,hk=>⟨b,hk,rfl⟩
 | .unit,_,b,hk=>⟨b,hk,rfl⟩
 | .arr _ _,_,b,hk=>⟨b,hk,rfl⟩
 | .bG,_,b,_=>by simp [Ty.aW] at b
 | .slice _,_,b,_=>by simp [Ty.aW] at b
 | .cons t r,x,b,hk=>by
  simp only [Ty.aW,bt] at b;exact ⟨_,_,rfl,Rd.fW b.1 hk.1,Rd.fW b.2 hk.2⟩
def Sn:∀(t:Ty) (ft:FT) (a:Option (Nat×Nat)) (p:aM) {u:Ty} {f:FT} {a':Option (Nat×Nat)},ak t ft a p=some (u,f,a')->cD t p=some u:=by
 intro t
 induction t with
 |cons t r c d=>
  intro ft a p u f a' h
  match p,h with
  |[],h=>simp only [ak,aX,bk] at h;obtain ⟨rfl,_,_⟩:=h;rfl
  | .f 0::p,h=>exact c _ _ _ h
  | .f (n+1)::p,h=>exact d _ _ _ h
  | .i n::p,h=>simp [ak] at h
 |slice t c=>
  intro ft a p u f a' h
  match p,h with
  |[],h=>simp only [ak,aX,bk] at h;obtain ⟨rfl,_,_⟩:=h;rfl
  | .f n::p,h=>simp [ak] at h
  | .i n::p,h=>
   match ft,h with
   | .leaf,h=>simp [ak] at h
   | .eE _ _,h=>simp [ak] at h
   | .node none _ _,h=>simp [ak] at h
   | .node (some b) cap e,h=>
    simp only [ak] at h;split at h;exact c _ _ _ h;cases h
 |arr m t _=>
  intro ft a p u f a' h
  match p,h with
  |[],h=>simp only [ak,aX,bk] at h;obtain ⟨rfl,_,_⟩:=h;rfl
  | .f n::p,h=>simp [ak] at h
  | .i n::s::p,h=>simp [ak] at h
  |[.i n],h=>
   grind [ak,cD]
 |_=>
  intro ft a p u f a' h;cases p with
  |nil=>simp only [ak,aX,bk] at h;obtain ⟨rfl,_,_⟩:=h;rfl
  |cons s p=>simp [ak] at h
def lN (w:World) (b o n:Nat):Prop:=∃row e,w.heap[b]?=some (.cells row e (0,0))/\o+n<=row.size
def aek:∀(t:Ty) (ft:FT) (a:Option (Nat×Nat)) (p:aM) {u:Ty} {j:FT} {h off:Nat},ak t ft a p=some (u,j,some (h,off))->ft.ae.Nodup->(∀b o,a=some (b,o)->b∉ft.ae)->h∉j.ae:=by
 intro t
 induction t with
 |cons t r x y=>
  intro ft a p u j h off c g v;have h4:ft.fst.ae.Nodup/\ft.snd.ae.Nodup:=by
   cases ft with
   |eE a d=>simp only [FT.ae,cv] at g;exact ⟨g.1,g.2.1⟩
   |_=>simp [FT.fst,FT.snd,FT.ae]
  match p,c with
  |[],c=>grind [ak]
  | .f 0::p,c=>exact x _ _ _ c h4.1 (λb o e l=>v b o e (i2 l))
  | .f (n+1)::p,c=>
   refine y _ _ _ c h4.2 (λb o e l=>?_);cases a with
   |none=>cases e
   |some a=>grind [jc]
  | .i n::p,c=>simp [ak] at c
 |slice t x=>
  intro ft a p u j h off c g v
  match p,c with
  |[],c=>grind [ak]
  | .f n::p,c=>simp [ak] at c
  | .i n::p,c=>
   match ft,c,g with
   | .leaf,c,_=>simp [ak] at c
   | .eE _ _,c,_=>simp [ak] at c
   | .node none _ _,c,_=>simp [ak] at c
   | .node (some b) cap C,c,g=>
    simp only [ak] at c;split at c;rename_i kn hk;simp only [FT.ae,hs,gM,jh] at g;refine x _ _ _ c (qc hk g.2).1 (λz D e l=>?_);simp only [aX,bk] at e;obtain ⟨rfl,rfl⟩:=e;exact g.1 (eW (cz hk) l);cases c
 |arr m t _=>
  intro ft a p u j h off c g v
  match p,c with
  |[],c=>grind [ak]
  | .f n::p,c=>simp [ak] at c
  | .i n::q::p,c=>simp [ak] at c
  |[.i n],c=>
   grind [ak,FT.ae]
 |_=>
  grind [ak]
def aej:∀(t:Ty) (ft:FT) (a:Option (Nat×Nat)) (p:aM) {u:Ty} {g:FT} {h:Option (Nat×Nat)},ak t ft a p=some (u,g,h)->ft.ae.Nodup->g.ae.Nodup:=by
 intro t
 induction t with
 |cons t r j l=>
  intro ft a p u g h c e;have h4:ft.fst.ae.Nodup/\ft.snd.ae.Nodup:=by
   cases ft with
   |eE a d=>simp only [FT.ae,cv] at e;exact ⟨e.1,e.2.1⟩
   |_=>simp [FT.fst,FT.snd,FT.ae]
  match p,c with
  |[],c=>grind [ak]
  | .f 0::p,c=>exact j _ _ _ c h4.1
  | .f (n+1)::p,c=>exact l _ _ _ c h4.2
  | .i n::p,c=>simp [ak] at c
 |slice t j=>
  intro ft a p u g h c e
  match p,c with
  |[],c=>grind [ak]
  | .f n::p,c=>simp [ak] at c
  | .i n::p,c=>
   match ft,c,e with
   | .leaf,c,_=>simp [ak] at c
   | .eE _ _,c,_=>simp [ak] at c
   | .node none _ _,c,_=>simp [ak] at c
   | .node (some b) cap o,c,e=>
    grind [ak,FT.ae,qc]
 |arr m t _=>
  intro ft a p u g h c e
  match p,c with
  |[],c=>grind [ak]
  | .f n::p,c=>simp [ak] at c
  | .i n::s::p,c=>simp [ak] at c
  |[.i n],c=>
   simp only [ak] at c;split at c;cases c;simp only [aX,bk] at c;obtain ⟨_,rfl,_⟩:=c;exact lB
 |_=>
  grind [ak]
section
variable {Z:Type} {w w2:World}
theorem tB:∀(t:Ty) (x:t.ai) (p:aM) (k:(u:Ty)->u.ai->Option Z) (r:Z),ch t x p k=some r->
 ∃u y,k u y=some r/\∀{Y:Type} (k':(u:Ty)->u.ai->Option Y),ch t x p k'=k' u y:=by
 have b:∀(t:Ty) (x:t.ai) (k:(u:Ty)->u.ai->Option Z) (r:Z),ch t x [] k=some r->∃u y,k u y=some r/\∀{Y:Type} (k':(u:Ty)->u.ai->Option Y),ch t x [] k'=k' u y:=by
  grind [ch]
 intro t
 induction t with
 |cons t r c d=>
  intro x p k q h
  match p,h with
  |[],h=>exact b _ _ _ _ h
  | .i n::p,h=>simp [ch] at h
  | .f 0::p,h=>
   grind [ch]
  | .f (n+1)::p,h=>
   grind [ch]
 |slice t c=>
  intro x p k q h
  match p,h with
  |[],h=>exact b _ _ _ _ h
  | .f n::p,h=>simp [ch] at h
  | .i n::p,h=>
   grind [ch]
 |arr m t c=>
  intro x p k q h
  match p,h with
  |[],h=>exact b _ _ _ _ h
  | .f n::p,h=>simp [ch] at h
  | .i n::p,h=>
   grind [ch]
 |_=>
  grind [ch]
theorem ed.len:∀(t:Ty) (x:t.ai) (ft:FT) (cs:List Value),ed t x ft cs->cs.length=t.size
 | .int _,_,_,_,h=>by rw [h.2.2.2];exact hb _ _ h.1 h.2.1
 | .bool,_,_,_,h=>by rw [h.2.2.2];exact hb _ _ h.1 h.2.1
 | .bR,_,_,_,h=>by rw [h.2.2.2];exact hb _ _ h.1 h.2.1
 | .unit,_,_,_,h=>by rw [h.2.2.2];exact hb _ _ h.1 h.2.1
 | .arr _ _,_,_,_,h=>by rw [h.2.2.2];exact hb _ _ h.1 h.2.1
 | .bG,_,_,_,h=>h.elim
 | .slice _,_,_,_,h=>h.2
 | .cons t r,x,ft,cs,h=>by
  obtain ⟨_,b,c,rfl,d,e⟩:=h;rw [ea,ed.len t x.1 _ b d,ed.len r x.2 _ c e];rfl
def ed.Fz:∀(t:Ty) (x:t.ai) (ft:FT) (cs:List Value),t.aW=true->bd w t x ft cs->ed t x ft cs
 | .int _,_,_,_,_,h=>h
 | .bool,_,_,_,_,h=>h
 | .bR,_,_,_,_,h=>h
 | .unit,_,_,_,_,h=>h
 | .arr _ _,_,_,_,_,h=>h
 | .bG,_,_,_,_,h=>h.elim
 | .slice _,_,_,_,b,_=>by simp [Ty.aW] at b
 | .cons t r,x,ft,cs,b,h=>by
  simp only [Ty.aW,bt] at b;obtain ⟨e,c,d,rfl,f,g⟩:=h;exact ⟨e,c,d,rfl,ed.Fz t x.1 _ c b.1 f,ed.Fz r x.2 _ d b.2 g⟩
theorem ed.nil:∀(t:Ty) (x:t.ai) (ft:FT) (cs:List Value),ed t x ft cs->ft.ae=[]
 | .int _,_,_,_,h=>h.2.2.1
 | .bool,_,_,_,h=>h.2.2.1
 | .bR,_,_,_,h=>h.2.2.1
 | .unit,_,_,_,h=>h.2.2.1
 | .arr _ _,_,_,_,h=>h.2.2.1
 | .bG,_,_,_,h=>h.elim
 | .slice _,_,_,_,h=>h.1
 | .cons t r,x,ft,cs,h=>by
  obtain ⟨d,b,c,rfl,e,f⟩:=h;rw [d,ed.nil t x.1 _ b e,ed.nil r x.2 _ c f];rfl
theorem ed.l0:∀{t:Ty} {x:t.ai} {ft:FT} {cs:List Value},t.aW=true->ed t x ft cs->dl t x/\cs=bJ t x/\ft.ae=[]
 | .int _,_,_,_,_,h=>⟨h.2.1,h.2.2.2,h.2.2.1⟩
 | .bool,_,_,_,_,h=>⟨h.2.1,h.2.2.2,h.2.2.1⟩
 | .bR,_,_,_,_,h=>⟨h.2.1,h.2.2.2,h.2.2.1⟩
 | .unit,_,_,_,_,h=>⟨h.2.1,h.2.2.2,h.2.2.1⟩
 | .arr _ _,_,_,_,_,h=>⟨h.2.1,h.2.2.2,h.2.2.1⟩
 | .bG,_,_,_,b,_=>by simp [Ty.aW] at b
 | .slice _,_,_,_,b,_=>by simp [Ty.aW] at b
 | .cons t r,x,ft,cs,b,h=>by
  simp only [Ty.aW,bt] at b;obtain ⟨g,n,o,rfl,j,l⟩:=h;obtain ⟨c,rfl,e⟩:=ed.l0 b.1 j;obtain ⟨d,rfl,f⟩:=ed.l0 b.2 l;exact ⟨⟨c,d⟩,rfl,by rw [g,e,f];rfl⟩
theorem ed.get:∀(t:Ty) (x:t.ai) (ft:FT) (cs:List Value) (a:Option (Nat×Nat)) (p:aM) (k:(u:Ty)->u.ai->Option Z) (r:Z),
 ed t x ft cs->(∀b o,a=some (b,o)->At w b o t.size cs)->aM.dC p=false->ch t x p k=some r->
 ∃(u:Ty) (y:u.ai) (z:FT) (a':Option (Nat×Nat)) (v:List Value),k u y=some r/\ak t ft a p=some (u,z,a')/\ed u y z v/\
  (∀b o,a'=some (b,o)->At w b o u.size v):=by
 intro t
 induction t with
 |cons t r I D=>
  intro x ft cs a p k dd h d j c
  match p,c with
  |[],c=>exact ⟨_,x,ft,a,cs,by simpa [ch] using c,rfl,h,d⟩
  | .f 0::p,c=>
   simp only [ch] at c;obtain ⟨_,l,q,rfl,g,C⟩:=h;exact I x.1 ft.fst l a p k dd g (λb o e=>(d b o e).fst (ed.len _ _ _ _ g)) (by simpa [aM.dC] using j) c
  | .f (n+1)::p,c=>
   simp only [ch] at c;obtain ⟨_,l,q,rfl,g,C⟩:=h;refine D x.2 ft.snd q (a.map λx=>(x.1,x.2+t.size)) (.f n::p) k dd C (λb o e=>?_) (by simpa [aM.dC] using j) c;cases a with
   |none=>cases e
   |some a=>simp only [dn,aX,bk] at e;obtain ⟨rfl,rfl⟩:=e;exact (d _ _ rfl).snd (ed.len _ _ _ _ g)
  | .i n::p,c=>simp [ch] at c
 |_=>
  intro x ft cs a p k dd h d j c
  match p,c with
  |[],c=>exact ⟨_,x,ft,a,cs,by simpa [ch] using c,by simp [ak],h,d⟩
  | .f n::p,c=>simp [ch] at c
  | .i n::p,c=>simp [aM.dC] at j
def VD:∀(t:Ty) (p:aM),lone t p=true->aM.dC p=false:=by
 intro t
 induction t with
 |cons t r c b=>
  intro p h
  match p,h with
  |[],h=>rfl
  | .i n::p,h=>simp [lone] at h
  | .f 0::p,h=>simp only [lone,bt] at h;exact c p h.1
  | .f (n+1)::p,h=>simp only [lone,bt] at h;exact b (.f n::p) h.2
 |_=>
  intro p h
  match p,h with
  |[],h=>rfl
  |q::p,h=>simp [lone] at h
theorem ed.set {aa af:Nat} {ad:List Value} {ft2:FT} (al:ft2.ae=[]) (l:Wr w w2 aa af 1 ad):∀(t:Ty) (x:t.ai) (ft:FT) (cs:List Value) (a:Option (Nat×Nat)) (p:aM) {u:Ty} {K:FT},
 u.size=1->bd w t x ft cs->(∀b o,a=some (b,o)->At w b o t.size cs)->lone t p=true->ak t ft a p=some (u,K,some (aa,af))->
 ∃C,ed t x (bC t ft p ft2) C/\C.length=cs.length/\(∀b o,a=some (b,o)->At w2 b o t.size C):=by
 intro t
 induction t with
 |cons t r ao an=>
  intro x ft cs a p u K X h q g c
  match p,c with
  |[],c=>simp [lone] at g
  | .i n::p,c=>simp [ak] at c
  | .f 0::p,c=>
   simp only [ak] at c;obtain ⟨ag,y,z,rfl,j,O⟩:=h;have v:=bd.len _ _ _ _ j;simp only [lone,bt] at g;obtain ⟨g,U⟩:=g;have dy:=VD _ _ g;obtain ⟨ab,D,I,J⟩:=ao x.1 ft.fst y a p X j (λb o e=>(q b o e).fst v) g c;refine ⟨ab++z,⟨by simp [bC,FT.ae,FT.fst,FT.snd],ab,z,rfl,D,ed.Fz _ _ _ _ U O⟩,by simp [I],λb o e=>?_⟩;simp only [Ty.size];refine (J b o e).oS ?_;obtain ⟨_,W⟩:=fR _ _ _ _ c;rcases W with ⟨_,_,_,_,ah⟩|⟨d,e0,aj⟩
   simp_all;subst e;simp only [dn,aX,bk] at e0;obtain ⟨rfl,rfl⟩:=e0;refine l.c6 ((q _ _ rfl).snd v) (.inr ?_);omega
  | .f (n+1)::p,c=>
   simp only [ak] at c;obtain ⟨ag,y,z,rfl,j,O⟩:=h;have v:=bd.len _ _ _ _ j;simp only [lone,bt] at g;obtain ⟨U,g⟩:=g;have dy:=VD _ _ g;obtain ⟨ac,D,I,J⟩:=an x.2 ft.snd z _ (.f n::p) X O (λb o e=>(by
    cases a with
    |none=>cases e
    |some a=>simp only [dn,aX,bk] at e;obtain ⟨rfl,rfl⟩:=e;exact (q _ _ rfl).snd v)) g c
   refine ⟨y++ac,⟨by simp [bC,FT.ae,FT.fst,FT.snd],y,ac,rfl,ed.Fz _ _ _ _ U j,D⟩,by simp [I],λb o e=>?_⟩;simp only [Ty.size];refine At.oS ?_ (J b (o+t.size) (by subst e;rfl));obtain ⟨_,W⟩:=fR _ _ _ _ c;rcases W with ⟨_,_,_,_,ah⟩|⟨d,e0,aj⟩
   simp_all;subst e;simp only [dn,aX,bk] at e0;obtain ⟨rfl,rfl⟩:=e0;exact l.c6 ((q _ _ rfl).fst v) (.inl (by omega))
 |slice t _=>
  intro x ft cs a p u K X h q g c
  match p,c with
  |[],c=>
   simp only [ak,aX,bk] at c;obtain ⟨_,rfl,rfl⟩:=c;have am:cs.length=1:=bd.len _ _ _ _ h;exact ⟨ad,⟨al,l.len⟩,by rw [l.len,am],λb o e=>by simp only [aX,bk] at e;obtain ⟨rfl,rfl⟩:=e;exact l.e3⟩
  | .f n::p,c=>simp [ak] at c
  | .i n::p,c=>simp [lone] at g
 |_=>
  grind [lone]
theorem mF.set {t:Ty} {xs:List t.ai} {v:List Bool} {b cap:Nat} {g:List FT} {cs:List Value} {n:Nat} {k:FT} {f U m:Nat} {X:List Value} {x:FT} {x':t.ai} {g':Bool} {k':FT} {c':List Value}
 (h:mF w t xs v (.node (some b) cap g) cs) (hk:g[n]?=some k) (q:(FT.node (some b) cap g).ae.Nodup) (y:Wr w w2 f U m X)
 (an:(f=b/\∃d,U=n*t.size+d/\d+m<=t.size)\/f∈k.ae) (K:∀c∈x.ae,c∈k.ae)
 (z:∀c∈(FT.node (some b) cap g).ae,c∉x.ae->c≠f->w2.heap[c]?=w.heap[c]?)
 (ar:At w2 b (n*t.size) t.size c') (a0:g'=false->bd w2 t x' k' c') (ay:g'=true->ed t x' k' c'):
 mF w2 t (xs.set n x') (v.set n g') (.node (some b) cap (g.set n k')) cs:=by
 obtain ⟨ao,ap,a1,e0,rfl,aa,ab,ac,h4,h5⟩:=h;simp only [FT.node.injEq] at e0;obtain ⟨rfl,rfl,rfl⟩:=e0;simp only at h5;simp only [FT.ae,hs,gM,jh] at q;obtain ⟨az,aj⟩:=qc hk q.2;have ah:=cz hk;have C:b∉k.ae:=λj=>q.1 (eW ah j)
 have ad:b≠f->w2.heap[b]?=w.heap[b]?:=λak=>z b (by simp [FT.ae]) (λj=>C (K b j)) ak
 have av:n<g.length:=(b6.1 hk).1;refine ⟨some b,cap,g.set n k',rfl,by simp,by simpa using aa,by simpa using ab,by simpa using ac,by simpa using h4,?_,λi W r gi O o I=>?_⟩;by_cases l:b=f;subst l;exact y.bF h5.1;simp_all;by_cases J:i=n
 grind
 rw [List.getElem?_set_ne (kM J)] at O o I;obtain ⟨u,D,am,al⟩:=h5.2 i W r gi O o I;have ax:=cz o;refine ⟨u,?_,λe=>bd.bT t W r u (λc ag=>z c (by grind [FT.ae,eW]) (λaf=>aj i r J o c ag (K c af)) (λaq=>?_)) (am e),al⟩;by_cases l:b=f;subst l;rcases an with ⟨_,d,rfl,au⟩|j
 refine y.c6 D ?_;by_cases aw:i<n;left;have:=jM t.size (show i+1<=n by omega)
 grind
 right;have:=jM t.size (show n+1<=i by omega)
 grind
 exact absurd j C;exact D.bT (ad l)
 grind [eW]
end
section
variable {Z:Type} {A:b0} {w w2:World} {R:Nat->Prop}
theorem fN.get {t:Ty} {c:TV} {ft:FT} {cs:List Value} {a:Option (Nat×Nat)} {n:Nat} {p:aM} {k:TV->Option Z} {r:Z} (h:fN w R t c ft cs) (d:ql c n p k=some r):
 ∃(c':TV) (u:Ty) (v:FT) (a':Option (Nat×Nat)) (l:List Value),k c'=some r/\ak (.slice t) ft a (.i n::p)=some (u,v,a')/\a1 A w R c' u v l/\
  (∀b o,a'=some (b,o)->At w b o u.size l):=by
 rcases fN.out h with ⟨xs,ag,rfl,b,cap,K,rfl,rfl,ah,ai,aj,h4,h5⟩|⟨_,rfl,_⟩|⟨_,rfl,_⟩
 rotate_left;cases d;cases d;simp only [ql] at d;split at d;rotate_left;cases d;rename_i x aa;split at d;rotate_left;cases d;rename_i g ad;unfold iG at aa ad;have am:n<xs.length:=(b6.1 aa).1;cases b with
 |none=>omega
 |some b=>
  have hk:K[n]?=some (K[n]'(by omega)):=ba _;generalize K[n]'(by omega)=kn at hk;obtain ⟨q,al,af,ae⟩:=h5.2 n x kn g aa hk ad;have ac:∀O ab,some (b,n*t.size)=some (O,ab)->At w O ab t.size q:=λO ab e=>by
   simp_all
  have X:∀{z},ak t kn (some (b,n*t.size)) p=z->ak (.slice t) (.node (some b) cap K) a (.i n::p)=z:=λe=>by simp only [ak,hk];exact e
  cases g with
  |false=>
   obtain ⟨u,y,v,a',l,f,C,D,I⟩:=bd.get t x kn q (some (b,n*t.size)) p _ r (af rfl) ac d;rw [show cond (aM.dC p|| !u.aW) false false=false by simp_all,cond_false] at f;by_cases j:u.aW=true;rw [ay j] at f;obtain ⟨U,W,f3⟩:=bd.l0 j D;exact ⟨_,u,v,a',l,f,X C,⟨rfl,f3,by rw [W];exact Rd.fW j U⟩,I⟩;rw [au j] at f;exact ⟨_,u,v,a',l,f,X C,⟨rfl,D⟩,I⟩
  |true=>
   by_cases J:aM.dC p=true
   grind [tB]
   have J:aM.dC p=false:=by simpa using J
   obtain ⟨u,y,v,a',l,f,C,D,I⟩:=ed.get t x kn q (some (b,n*t.size)) p _ r (ae rfl) ac J d;by_cases j:u.aW=true;rw [J,j] at f;obtain ⟨U,W,f3⟩:=ed.l0 j D;exact ⟨_,u,v,a',l,f,X C,⟨rfl,f3,by rw [W];exact Rd.fW j U⟩,I⟩;simp_all
theorem a1.get:∀(c:TV) (t:Ty) (ft:FT) (cs:List Value) (a:Option (Nat×Nat)) (p:aM) (k:TV->Option Z) (r:Z),
 a1 A w R c t ft cs->(∀b o,a=some (b,o)->At w b o t.size cs)->c7 c p k=some r->
 ∃(c':TV) (u:Ty) (q:FT) (a':Option (Nat×Nat)) (l:List Value),k c'=some r/\ak t ft a p=some (u,q,a')/\a1 A w R c' u q l/\
  (∀b o,a'=some (b,o)->At w b o u.size l):=by
 intro c
 induction c with
 |ab u x=>
  intro t ft cs a p k r h j g;cases p with
  |nil=>exact ⟨_,t,ft,a,cs,by simpa [c7] using g,by cases t<;>rfl,h,j⟩
  |cons s p=>
   obtain ⟨rfl,h⟩:=h;obtain ⟨v,y,q,a',l,C,z,D,I⟩:=bd.get u x ft cs a (s::p) _ r h j (by simpa [c7] using g);exact ⟨_,v,q,a',l,C,z,⟨rfl,D⟩,I⟩
 |ad u x=>
  intro t ft cs a p k r h j g;cases p with
  |nil=>exact ⟨_,t,ft,a,cs,by simpa [c7] using g,by cases t<;>rfl,h,j⟩
  |cons s p=>
   obtain ⟨rfl,X,h⟩:=h;simp only [c7] at g;split at g;cases g;rename_i ac;obtain ⟨v,y,a',l,C,z,D,I⟩:=Rd.get u x cs a (s::p) _ r h j g (by simpa using ac);obtain ⟨q,aa,z⟩:=z ft X;exact ⟨_,v,q,a',l,C,z,⟨rfl,aa,D⟩,I⟩
 |cons c d ae af=>
  intro t ft cs a p k r h j g
  match p,g with
  |[],g=>exact ⟨_,t,ft,a,cs,by simpa [c7] using g,by cases t<;>rfl,h,j⟩
  | .i n::p,g=>simp [c7] at g
  | .f 0::p,g=>
   cases t<;>try exact h.elim
   obtain ⟨_,K,O,rfl,J,U,W⟩:=h;exact ae _ _ K a p k r U (λb o e=>(j b o e).fst J) (by simpa [c7] using g)
  | .f (n+1)::p,g=>
   cases t<;>try exact h.elim
   rename_i t u;obtain ⟨_,K,O,rfl,J,U,W⟩:=h;refine af _ _ O (a.map λx=>(x.1,x.2+t.size)) (.f n::p) k r W (λb o e=>?_) (by simpa [c7] using g);cases a with
   |none=>cases e
   |some a=>simp only [dn,aX,bk] at e;obtain ⟨rfl,rfl⟩:=e;exact (j _ _ rfl).snd J
 |tup c _=>
  intro t ft cs a p k r h j g
  match p,g with
  |[],g=>exact ⟨_,t,ft,a,cs,by simpa [c7] using g,by cases t<;>rfl,h,j⟩
  | .f n::p,g=>cases n<;>simp [c7] at g
  | .i n::p,g=>
   cases t<;>try exact h.elim
   exact fN.get h (by simpa only [c7] using g)
 |_=>
  intro t ft cs a p k r h j g;cases p with
  |nil=>exact ⟨_,t,ft,a,cs,by simpa [c7] using g,by cases t<;>rfl,h,j⟩
  |cons s p=>simp [c7] at g
def q6 (w w2:World) (c:Nat) (a:Option (Nat×Nat)) (n:Nat) (ft:FT) (cs:List Value):Prop:=
 ∀b o,a=some (b,o)->At w b o n cs/\b∉ft.ae/\(b≠c->w2.heap[b]?=w.heap[b]?)
structure pC (w w2:World) (R:Nat->Prop) (c:Nat) (ft d:FT):Prop where
 ab:∀b∈ft.ae,b∉d.ae->b≠c->w2.heap[b]?=w.heap[b]?
 not:c∉d.ae
 ro:∀b,R b->w2.heap[b]?=w.heap[b]?
def UC {t r v:Ty} {ft x:FT} {q g:List Value} {a:Option (Nat×Nat)} {p:aM} {c O:Nat} {W:List Value} {d:TV}
 (X:ft.ae=ft.fst.ae++ft.snd.ae) (y:q.length=t.size) (D:a1 A w R d r ft.snd g)
 (j:q6 w w2 c a (t.size+r.size) ft (q++g)) (J:ft.ae.Nodup) (aa:ak t ft.fst a p=some (v,x,some (c,O)))
 (n:pC w w2 R c ft x) (ac:Wr w w2 c O v.size W):
 q6 w w2 c a t.size ft.fst q/\ft.fst.ae.Nodup/\pC w w2 R c ft.fst x/\
 (∀c' f u,a1 A w2 R c' t u f->f.length=q.length->(∀b o,a=some (b,o)->At w2 b o t.size f)->
  a1 A w2 R (.cons c' d) (.cons t r) (.eE u ft.snd) (f++g)/\(∀b o,a=some (b,o)->At w2 b o (t.size+r.size) (f++g))):=by
 rw [X,cv] at J;obtain ⟨ai,an,aj⟩:=J;obtain ⟨al,K⟩:=fR _ _ _ _ aa;refine ⟨λb o e=>⟨(j b o e).1.fst y,λl=>(j b o e).2.1 (i2 l),(j b o e).2.2⟩,ai,⟨λb l=>n.ab b (i2 l),n.not,n.ro⟩,λc' f u af ag ad=>⟨⟨by simp [FT.ae,FT.fst,FT.snd],f,g,rfl,by rw [ag,y],af,?_⟩,λb o e=>?_⟩⟩;refine a1.mono (λ_ _ _ ft _ h=>⟨ft,h,rfl⟩) n.ro d r ft.snd g (λb l=>n.ab b (jc l) (λah=>aj b (al b ah) b l rfl) (λe=>?_)) D;subst e;rcases K with ⟨U,am,e0,I,_⟩|⟨d,e0,_⟩
 grind
 cases a with
 |none=>cases e0
 |some a=>simp only [dn,aX,bk] at e0;obtain ⟨rfl,_⟩:=e0;exact (j _ _ rfl).2.1 (jc l)
 refine (ad b o e).oS ?_;have z:At w b (o+t.size) r.size g:=(j b o e).1.snd y;by_cases C:b=c;subst C;refine ac.c6 z (.inr ?_);rcases K with ⟨U,am,e0,I,_⟩|⟨d,e0,D⟩
 simp only [aX,bk] at e0;obtain ⟨rfl,rfl⟩:=e0;exact absurd (i2 I) (j _ _ e).2.1
 grind
 exact z.bT ((j b o e).2.2 C)
def UD {t r v:Ty} {ft y:FT} {c q:List Value} {a:Option (Nat×Nat)} {p:aM} {f U:Nat} {X:List Value} {d:TV}
 (aa:ft.ae=ft.fst.ae++ft.snd.ae) (z:c.length=t.size) (I:a1 A w R d t ft.fst c)
 (j:q6 w w2 f a (t.size+r.size) ft (c++q)) (K:ft.ae.Nodup) (ac:ak r ft.snd (a.map λx=>(x.1,x.2+t.size)) p=some (v,y,some (f,U)))
 (n:pC w w2 R f ft y) (ad:Wr w w2 f U v.size X):
 q6 w w2 f (a.map λx=>(x.1,x.2+t.size)) r.size ft.snd q/\ft.snd.ae.Nodup/\pC w w2 R f ft.snd y/\
 (∀c' g u,a1 A w2 R c' r u g->g.length=q.length->(∀b o,a.map (λx=>(x.1,x.2+t.size))=some (b,o)->At w2 b o r.size g)->
  a1 A w2 R (.cons d c') (.cons t r) (.eE ft.fst u) (c++g)/\(∀b o,a=some (b,o)->At w2 b o (t.size+r.size) (c++g))):=by
 rw [aa,cv] at K;obtain ⟨ao,ai,aj⟩:=K;obtain ⟨al,O⟩:=fR _ _ _ _ ac;refine ⟨λb o e=>?_,ai,⟨λb l=>n.ab b (jc l),n.not,n.ro⟩,λc' g u ag an af=>⟨⟨by simp [FT.ae,FT.fst,FT.snd],c,g,rfl,z,?_,ag⟩,λb o e=>?_⟩⟩;cases a with
 |none=>cases e
 |some a=>
  simp only [dn,aX,bk] at e;obtain ⟨rfl,rfl⟩:=e;exact ⟨(j _ _ rfl).1.snd z,λl=>(j _ _ rfl).2.1 (jc l),(j _ _ rfl).2.2⟩
 refine a1.mono (λ_ _ _ ft _ h=>⟨ft,h,rfl⟩) n.ro d t ft.fst c (λb l=>n.ab b (i2 l) (λah=>aj b l b (al b ah) rfl) (λe=>?_)) I;subst e;rcases O with ⟨W,am,e0,J,_⟩|⟨d,e0,_⟩
 simp_all;cases a with
 |none=>cases e0
 |some a=>simp only [dn,aX,bk] at e0;obtain ⟨rfl,_⟩:=e0;exact (j _ _ rfl).2.1 (i2 l)
 have C:At w b o t.size c:=(j b o e).1.fst z;refine At.oS ?_ (af b (o+t.size) (by subst e;rfl));by_cases D:b=f;subst D;refine ad.c6 C (.inl ?_);rcases O with ⟨W,am,e0,J,_⟩|⟨d,e0,I⟩
 simp only [aX,bk] at e0;obtain ⟨rfl,rfl⟩:=e0;exact absurd (jc J) (j _ _ e).2.1;simp_all;exact C.bT ((j b o e).2.2 D)
def JO (A:b0) (w:World) (R:Nat->Prop) (mk:(t:Ty)->t.ai->TV):Prop:=
 ∀t r x ft cs,a1 A w R (mk (.cons t r) x) (.cons t r) ft cs->ft.ae=ft.fst.ae++ft.snd.ae/\∃b c,cs=b++c/\b.length=t.size/\
  a1 A w R (mk t x.1) t ft.fst b/\a1 A w R (mk r x.2) r ft.snd c
def ajN:JO A w R .ab:=by
 intro t r x ft cs h;obtain ⟨_,e,c,d,rfl,b,f⟩:=h;exact ⟨e,c,d,rfl,bd.len _ _ _ _ b,⟨rfl,b⟩,⟨rfl,f⟩⟩
def ajM:JO A w R .ad:=by
 intro t r x ft cs h;obtain ⟨_,b,d,e,rfl,c,f⟩:=h;exact ⟨by rw [b,x0 b,yF b];rfl,d,e,rfl,Rd.len _ _ _ c,⟨rfl,x0 b,c⟩,⟨rfl,yF b,f⟩⟩
def Xz {mk:(t:Ty)->t.ai->TV} (am:JO A w R mk) {l ao:Nat} {q:List Value} {u:Ty} {v:TV} {al ft2:FT}
 (g:Wr w w2 l ao u.size q) (an:a1 A w2 R v u ft2 q):
 ∀(t:Ty) (x:t.ai) (ft:FT) (cs:List Value) (a:Option (Nat×Nat)) (p:aM) (k:TV->Option Z) (r:Z),
 a1 A w R (mk t x) t ft cs->q6 w w2 l a t.size ft cs->ft.ae.Nodup->ak t ft a p=some (u,al,some (l,ao))->dE mk t x p v k=some r->
 pC w w2 R l ft al->
 ∃(c':TV) (y:List Value),k c'=some r/\a1 A w2 R c' t (bC t ft p ft2) y/\y.length=cs.length/\(∀b o,a=some (b,o)->At w2 b o t.size y):=by
 intro t
 induction t with
 |cons t r au ar=>
  intro x ft cs a p k dd h ac ag c d ad
  match p,c,d with
  |[],c,d=>
   simp only [ak,aX,bk] at c;obtain ⟨rfl,rfl,rfl⟩:=c;exact ⟨v,q,by simpa [dE] using d,an,by rw [a1.len _ _ _ _ h,g.len],λb o e=>by simp only [aX,bk] at e;obtain ⟨rfl,rfl⟩:=e;exact g.e3⟩
  | .i n::p,c,d=>simp [ak] at c
  | .f 0::p,c,d=>
   obtain ⟨X,ah,aj,rfl,af,aa,ab⟩:=am t r x ft cs h;simp only [ak] at c;simp only [dE] at d;obtain ⟨K,O,U,W⟩:=UC X af ab ac ag c ad g;obtain ⟨c',ap,z,C,j,D⟩:=au x.1 ft.fst ah a p _ dd aa K O c d U;obtain ⟨I,J⟩:=W c' ap _ C j D;exact ⟨_,_,z,I,by simp [j],J⟩
  | .f (n+1)::p,c,d=>
   obtain ⟨X,ah,aj,rfl,af,aa,ab⟩:=am t r x ft cs h;simp only [ak] at c;simp only [dE] at d;obtain ⟨K,O,U,W⟩:=UD X af aa ac ag c ad g;obtain ⟨c',aq,z,C,j,D⟩:=ar x.2 ft.snd aj _ (.f n::p) _ dd ab K O c d U;obtain ⟨I,J⟩:=W c' aq _ C j D;exact ⟨_,_,z,I,by simp [j],J⟩
 |_=>
  intro x ft cs a p k dd h ac ag c d ad;cases p with
  |nil=>
   simp only [ak,aX,bk] at c;obtain ⟨rfl,rfl,rfl⟩:=c;exact ⟨v,q,by simpa [dE] using d,an,by rw [a1.len _ _ _ _ h,g.len],λb o e=>by simp only [aX,bk] at e;obtain ⟨rfl,rfl⟩:=e;exact g.e3⟩
  |cons s p=>simp [dE] at d
theorem fN.set {l al:Nat} {ad:List Value} {u:Ty} {v:TV} {ao ft2:FT} (D:Wr w w2 l al u.size ad) (J:a1 A w2 R v u ft2 ad) {t:Ty} {c:TV} {ft:FT} {cs:List Value} {a:Option (Nat×Nat)} {n:Nat} {p:aM} {k:TV->Option Z} {r:Z}
 (h:fN w R t c ft cs) (aa:ft.ae.Nodup) (U:ak (.slice t) ft a (.i n::p)=some (u,ao,some (l,al))) (f:nw c n p v k=some r) (C:pC w w2 R l ft ao):
 ∃(c':TV),k c'=some r/\a1 A w2 R c' (.slice t) (bC (.slice t) ft (.i n::p) ft2) cs:=by
 rcases fN.out h with ⟨xs,O,rfl,W⟩|⟨_,rfl,_⟩|⟨_,rfl,_⟩
 rotate_left;cases f;cases f;obtain ⟨b,cap,j,rfl,a5,a0,a2,a3,h4,h5⟩:=W;simp only [nw] at f;split at f;rotate_left;cases f;rename_i x aj;split at f;rotate_left;cases f;rename_i g aq;unfold iG at aj aq;have aK:n<xs.length:=(b6.1 aj).1;cases g with
 |true=>cases f
 |false=>
 rw [cond_false] at f;cases b with
 |none=>omega
 |some b=>
  have hk:j[n]?=some (j[n]'(by omega)):=ba _;generalize j[n]'(by omega)=kn at hk;obtain ⟨q,aH,ac,_⟩:=h5.2 n x kn false aj hk aq;have W:mF w t xs O (.node (some b) cap j) cs:=⟨some b,cap,j,rfl,a5,a0,a2,a3,h4,h5⟩;have ac:=ac rfl;simp only [ak,hk] at U;have au:=aa;simp only [FT.ae,hs,gM,jh] at aa;obtain ⟨aA,aJ⟩:=qc hk aa.2;have a9:=cz hk;have a4:b∉kn.ae:=λX=>aa.1 (eW a9 X)
  obtain ⟨ah,aC⟩:=fR _ _ _ _ U;have ag:(l=b/\∃d,al=n*t.size+d/\d+u.size<=t.size)\/l∈kn.ae:=by
   rcases aC with ⟨K,aw,e0,aI,_⟩|⟨d,e0,ap⟩
   simp_all;simp_all
  have aD:bC (.slice t) (.node (some b) cap j) (.i n::p) ft2=.node (some b) cap (j.set n (bC t kn p ft2)):=by simp only [bC,hk]
  rw [aD];have aG:b≠l->w2.heap[b]?=w.heap[b]?:=λaB=>C.ab b (by simp [FT.ae]) (λX=>a4 (ah b X)) aB
  have ax:∀(o:Ty) (y:o.ai) (_:bd w2 o y ft2 ad) (_:o=u),dM t x p o y (λz=>k (.tup (.cons (.ab (.slice t) (List.set (α:=t.ai) xs n z)) (.ab (.slice .bool) O))))=some r->
   ∃(c':TV),k c'=some r/\a1 A w2 R c' (.slice t) (.node (some b) cap (j.set n (bC t kn p ft2))) cs:=by
   intro o y aF e f;subst e;obtain ⟨_,x',ay,af,am,an,az⟩:=bd.set D aF t x kn q (some (b,n*t.size)) p o _ r ac (λK aw e=>by
    simp_all) aA U f
    (λK X=>C.ab K (by grind [FT.ae,eW])) C.not
   have I:=W.set (g':=false) hk au D ag ah C.ab (az b _ rfl) (λ_=>am) (λe=>by cases e);rw [show O.set n false=O from lz λi=>by
    rw [pk]
    grind] at I
   exact ⟨_,af,rfl,I⟩
  split at f;rename_i aL;split at f;rename_i ap;obtain ⟨a7,av,_,_⟩:=J;rw [av] at D ag;obtain ⟨ay,af,am,an⟩:=ed.set (ft2:=ft2) a7 D t x kn q (some (b,n*t.size)) p av ac (λK aw e=>by
   simp_all) ap U
  have I:=W.set (x':=x) (g':=true) hk au D ag ah C.ab (an b _ rfl) (λe=>by cases e) (λ_=>af);rw [show xs.set n x=xs from lz λi=>by
   grind] at I
  exact ⟨_,f,rfl,I⟩;cases f;obtain ⟨e,J⟩:=J;exact ax _ _ J e f;obtain ⟨e,a6,aE⟩:=J;split at f;rename_i ar;obtain ⟨a8,rfl⟩:=Rd.aW ar aE;exact ax _ _ (bd.fW ar a8 a6) e f;cases f;cases f
theorem a1.set {W au:Nat} {ah:List Value} {u:Ty} {v:TV} {am ft2:FT}
 (J:Wr w w2 W au u.size ah) (K:a1 A w2 R v u ft2 ah):
 ∀(c:TV) (t:Ty) (ft:FT) (cs:List Value) (a:Option (Nat×Nat)) (p:aM) (k:TV->Option Z) (r:Z),
 a1 A w R c t ft cs->q6 w w2 W a t.size ft cs->ft.ae.Nodup->ak t ft a p=some (u,am,some (W,au))->bP c p v k=some r->
 pC w w2 R W ft am->
 ∃(c':TV) (l:List Value),k c'=some r/\a1 A w2 R c' t (bC t ft p ft2) l/\l.length=cs.length/\(∀b o,a=some (b,o)->At w2 b o t.size l):=by
 have aN:∀(c:TV) (t:Ty) (ft:FT) (cs:List Value) (a:Option (Nat×Nat)) (k:TV->Option Z) (r:Z),
  a1 A w R c t ft cs->ak t ft a []=some (u,am,some (W,au))->bP c [] v k=some r->
  ∃(c':TV) (l:List Value),k c'=some r/\a1 A w2 R c' t (bC t ft [] ft2) l/\l.length=cs.length/\(∀b o,a=some (b,o)->At w2 b o t.size l):=by
  intro c t ft cs a k r h j g;have e:ak t ft a []=some (t,ft,a):=by cases t<;>rfl
  have a7:bC t ft [] ft2=ft2:=by cases t<;>rfl
  have a8:bP c [] v k=k v:=by cases c<;>rfl
  rw [e] at j;simp only [aX,bk] at j;obtain ⟨rfl,rfl,rfl⟩:=j;rw [a7];exact ⟨v,ah,by rw [<-a8];exact g,K,by rw [a1.len _ _ _ _ h,J.len],λb o e=>by simp only [aX,bk] at e;obtain ⟨rfl,rfl⟩:=e;exact J.e3⟩
 intro c
 induction c with
 |ab t0 x=>
  intro t ft cs a p k r h D I j g C;cases p with
  |nil=>grind
  |cons s p=>
   obtain ⟨rfl,h⟩:=h;have a2:∀(X:Ty) (y:X.ai) (az:bd w2 X y ft2 ah) (_:X=u),dM t0 x (s::p) X y (λz=>k (.ab t0 z))=some r->
    ∃(c':TV) (l:List Value),k c'=some r/\a1 A w2 R c' t0 (bC t0 ft (s::p) ft2) l/\l.length=cs.length/\(∀b o,a=some (b,o)->At w2 b o t0.size l):=by
    intro X y az e g;subst e;obtain ⟨_,x',l,q,O,U,aa⟩:=bd.set J az t0 x ft cs a (s::p) X _ r h D I j g C.ab C.not;exact ⟨_,l,q,⟨rfl,O⟩,U,aa⟩
   have a0:dE .ab t0 x (s::p) v k=some r->
    ∃(c':TV) (l:List Value),k c'=some r/\a1 A w2 R c' t0 (bC t0 ft (s::p) ft2) l/\l.length=cs.length/\(∀b o,a=some (b,o)->At w2 b o t0.size l):=
    λg=>Xz ajN J K t0 x ft cs a (s::p) k r ⟨rfl,h⟩ D I j g C
   simp only [bP] at g;split at g;obtain ⟨e,K⟩:=K;exact a2 _ _ K e g;obtain ⟨e,a9,aE⟩:=K;split at g;rename_i ay;obtain ⟨hk,rfl⟩:=Rd.aW ay aE;exact a2 _ _ (bd.fW ay hk a9) e g;exact a0 g;exact a0 g
 |ad t0 x=>
  intro t ft cs a p k r h D I j g C;cases p with
  |nil=>grind
  |cons s p=>
   have aD:t0=t:=h.1;subst aD;exact Xz ajM J K t0 x ft cs a (s::p) k r h D I j (by simpa [bP] using g) C
 |cons c d aF aG=>
  intro t ft cs a p k r h D I j g C
  match p,j,g with
  |[],j,g=>grind
  | .i n::p,j,g=>simp [bP] at g
  | .f 0::p,j,g=>
   cases t<;>try exact h.elim
   obtain ⟨ao,av,aw,rfl,ar,ap,aq⟩:=h;simp only [ak] at j;simp only [bP] at g;obtain ⟨ac,af,ag,an⟩:=UC ao ar aq D I j C J;obtain ⟨c',a5,q,O,U,aa⟩:=aF _ _ av a p _ r ap ac af j g ag;obtain ⟨aj,al⟩:=an c' a5 _ O U aa;exact ⟨_,_,q,aj,by simp [U],al⟩
  | .f (n+1)::p,j,g=>
   cases t<;>try exact h.elim
   obtain ⟨ao,av,aw,rfl,ar,ap,aq⟩:=h;simp only [ak] at j;simp only [bP] at g;obtain ⟨ac,af,ag,an⟩:=UD ao ar ap D I j C J;obtain ⟨c',a6,q,O,U,aa⟩:=aG _ _ aw _ (.f n::p) _ r aq ac af j g ag;obtain ⟨aj,al⟩:=an c' a6 _ O U aa;exact ⟨_,_,q,aj,by simp [U],al⟩
 |tup c _=>
  intro t ft cs a p k r h D I j g C
  match p,j,g with
  |[],j,g=>grind
  | .f n::p,j,g=>cases n<;>simp [bP] at g
  | .i n::p,j,g=>
   simp only [bP] at g;cases t<;>try exact h.elim
   rcases fN.out h with ⟨_,_,rfl,b,cap,aL,rfl,rfl,_⟩|⟨_,rfl,_⟩|⟨_,rfl,_⟩
   rotate_left;cases g;cases g;obtain ⟨c',q,O⟩:=fN.set J K h I j g C;refine ⟨c',_,q,O,rfl,λa3 aO e=>?_⟩;subst e;obtain ⟨ac,af,ag⟩:=D _ _ rfl;by_cases ax:a3=W;subst ax;exact absurd (by
    obtain ⟨_,aB⟩:=fR _ _ _ _ j;rcases aB with ⟨a4,aH,e0,aK,_⟩|⟨d,e0,aJ⟩
    simp_all;cases b with
    |none=>simp [ak] at j
    |some b=>
     simp only [ak] at j;split at j;rename_i kn hk;obtain ⟨_,aC⟩:=fR _ _ _ _ j;rcases aC with ⟨a4,aH,q,aA,_⟩|⟨aI,q,_⟩
     simp only [aX,bk] at q;obtain ⟨rfl,rfl⟩:=q;simp only [FT.ae,bp];exact .inr (eW (cz hk) aA)
     grind [FT.ae]
     cases j) af
   exact ac.bT (ag ax)
 |_=>
  grind [bP]
end
def UT:∀(t:Ty) (ft:FT) (a:Option (Nat×Nat)) (q:aM) {v:Ty} {d:FT} {c:Option (Nat×Nat)},t.aW=true->ak t ft a q=some (v,d,c)->
 v.aW=true/\∀ft2,∃j,ak t ft2 a q=some (v,j,c):=by
 intro t
 induction t with
 |cons t r u o=>
  intro ft a q v d c b h;simp only [Ty.aW,bt] at b
  match q,h with
  |[],h=>grind [ak,Ty.aW]
  | .f 0::q,h=>obtain ⟨e,g⟩:=u _ _ _ b.1 h;exact ⟨e,λft2=>g ft2.fst⟩
  | .f (n+1)::q,h=>obtain ⟨e,g⟩:=o _ _ _ b.2 h;exact ⟨e,λft2=>g ft2.snd⟩
  | .i n::q,h=>simp [ak] at h
 |slice t _=>intro ft a q v d c b h;simp [Ty.aW] at b
 |bG=>intro ft a q v d c b h;simp [Ty.aW] at b
 |arr m t _=>
  intro ft a q v d c b h
  match q,h with
  |[],h=>grind [ak]
  | .f n::q,h=>simp [ak] at h
  | .i n::s::q,h=>simp [ak] at h
  |[.i n],h=>
   simp only [ak] at h;split at h;cases h;rename_i l;simp only [aX,bk] at h;obtain ⟨rfl,rfl,rfl⟩:=h;exact ⟨b,λft2=>⟨.leaf,by simp only [ak];rw [au l]⟩⟩
 |_=>
  grind [ak]
def Va {t:Ty} (h:t.aW=true) (f g:FT):fj t f=fj t g:=by
 cases t<;>first|rfl|simp [Ty.aW] at h
def aem:∀(t:Ty) (ft:FT) (a:Option (Nat×Nat)) (p q:aM) (f:FT) {u v:Ty} {o j:FT} {l h:Option (Nat×Nat)},
 u.aW=true->ak t ft a p=some (u,o,l)->ak t ft a q=some (v,j,h)->
 ∃x,ak t (bC t ft p f) a q=some (v,x,h)/\fj v x=fj v j:=by
 intro t;have y:∀(t:Ty) (ft:FT) (a:Option (Nat×Nat)) (q:aM) (f:FT) {u v:Ty} {o j:FT} {l h:Option (Nat×Nat)},
  u.aW=true->ak t ft a []=some (u,o,l)->ak t ft a q=some (v,j,h)->∃x,ak t f a q=some (v,x,h)/\fj v x=fj v j:=by
  intro t ft a q f u v o j l h g c d;have e:ak t ft a []=some (t,ft,a):=by cases t<;>rfl
  rw [e] at c;simp only [aX,bk] at c;obtain ⟨rfl,rfl,rfl⟩:=c;obtain ⟨I,J⟩:=UT _ _ _ _ g d;obtain ⟨D,K⟩:=J f;exact ⟨D,K,Va I _ _⟩
 induction t with
 |cons t r z W=>
  intro ft a p q f u v o j l h g c d
  match p,c with
  |[],c=>exact y _ _ _ _ _ g c d
  | .i n::p,c=>simp [ak] at c
  | .f 0::p,c=>
   match q,d with
   |[],d=>simp only [ak,aX,bk] at d;obtain ⟨rfl,rfl,rfl⟩:=d;exact ⟨_,rfl,rfl⟩
   | .i n::q,d=>simp [ak] at d
   | .f 0::q,d=>
    simp only [ak] at c d;simpa [ak,bC,FT.fst] using z _ _ p q f g c d
   | .f (n+1)::q,d=>grind [ak,bC,FT.snd]
  | .f (m+1)::p,c=>
   match q,d with
   |[],d=>simp only [ak,aX,bk] at d;obtain ⟨rfl,rfl,rfl⟩:=d;exact ⟨_,rfl,rfl⟩
   | .i n::q,d=>simp [ak] at d
   | .f 0::q,d=>grind [ak,bC,FT.fst]
   | .f (n+1)::q,d=>
    simp only [ak] at c d;have:=W _ _ (.f m::p) (.f n::q) f g c d;simp only [ak,bC,FT.snd];exact this
 |slice t z=>
  intro ft a p q f u v o j l h g c d
  match p,c with
  |[],c=>exact y _ _ _ _ _ g c d
  | .f n::p,c=>simp [ak] at c
  | .i n::p,c=>
   match ft,c,d with
   | .leaf,c,_=>simp [ak] at c
   | .eE _ _,c,_=>simp [ak] at c
   | .node none _ _,c,_=>simp [ak] at c
   | .node (some b) cap X,c,d=>
    simp only [ak] at c;split at c;rename_i kn hk
    match q,d with
    |[],d=>
     grind [ak,fj,FT.dy,bC]
    | .f n::q,d=>simp [ak] at d
    | .i m::q,d=>
     simp only [ak] at d;split at d;rename_i aa C;by_cases O:m=n;subst O;rw [hk] at C;obtain rfl:=b2 C;have U:(X.set m (bC t kn p f))[m]?=some (bC t kn p f):=by
      grind
     simpa [ak,bC,hk,U] using z _ _ p q f g c d
     grind [bC,ak]
     cases d
    cases c
 |arr m t _=>
  intro ft a p q f u v o j l h g c d
  match p,c with
  |[],c=>exact y _ _ _ _ _ g c d
  | .f n::p,c=>simp [ak] at c
  | .i n::s::p,c=>simp [ak] at c
  |[.i n],c=>
   grind [bC]
 |_=>
  intro ft a p q f u v o j l h g c d;cases p with
  |nil=>exact y _ _ _ _ _ g c d
  |cons s p=>simp [ak] at c
def KF {c:List FT} {n:Nat} {k k':FT} (hk:c[n]?=some k) {b:Nat} (h:b∈FT.bq (c.set n k')):b∈k'.ae\/∃i d,i≠n/\c[i]?=some d/\b∈d.ae:=by
 obtain ⟨x,e,f⟩:=ahG h;obtain ⟨i,hi⟩:=nI.1 e
 grind
def ah7 {d:List FT} {n:Nat} {k k':FT} (hk:d[n]?=some k) (h:(FT.bq d).Nodup) (x:k'.ae.Nodup)
 (j:∀b∈k'.ae,b∈k.ae\/b∉FT.bq d):(FT.bq (d.set n k')).Nodup:=by
 induction d generalizing n with
 |nil=>simp at hk
 |cons y d v=>
  simp only [FT.bq,cv] at h;obtain ⟨o,q,g⟩:=h;cases n with
  |zero=>
   grind [FT.bq]
  |succ n=>
   simp only [List.getElem?_cons_succ] at hk;simp only [List.set_cons_succ,FT.bq,cv];refine ⟨o,v hk q (λb f=>(j b f).imp id λh l=>h (by simp [FT.bq,l])),λb f c u e=>?_⟩;subst e;rcases KF hk u with h|⟨i,z,_,hi,r⟩
   rcases j b h with h|h
   exact g b f b (eW (cz hk) h) rfl;exact h (by simp [FT.bq,f]);exact g b f b (eW (cz hi) r) rfl
def Ge:∀(t:Ty) (ft:FT) (a:Option (Nat×Nat)) (p:aM) (f:FT) {u:Ty} {v:FT} {x:Option (Nat×Nat)},
 ak t ft a p=some (u,v,x)->ft.ae.Nodup->f.ae.Nodup->(∀b∈f.ae,b∈v.ae\/b∉ft.ae)->
 (bC t ft p f).ae.Nodup/\∀b∈(bC t ft p f).ae,b∈f.ae\/(b∈ft.ae/\b∉v.ae):=by
 intro t;have O:∀ft:FT,ft.ae.Nodup->(ft.fst.ae++ft.snd.ae).Nodup:=by
  intro ft h;cases ft with
  |eE a d=>simpa [FT.ae,FT.fst,FT.snd] using h
  |_=>simp [FT.ae,FT.fst,FT.snd]
 induction t with
 |cons t r I ad=>
  intro ft a p f u v x g l o q
  match p,g with
  |[],g=>simp only [ak,aX,bk] at g;obtain ⟨rfl,rfl,rfl⟩:=g;exact ⟨o,λb h=>.inl h⟩
  | .i n::p,g=>simp [ak] at g
  | .f 0::p,g=>
   have C:=O ft l;rw [cv] at C;obtain ⟨J,K,W⟩:=C;simp only [ak] at g;obtain ⟨s1,_⟩:=fR _ _ _ _ g;obtain ⟨y,z⟩:=I ft.fst a p f g J o (λb j=>(q b j).imp id λh D=>h (i2 D));simp only [bC,FT.ae,cv,bp];refine ⟨⟨y,K,λb j c X e=>?_⟩,λb j=>?_⟩
   grind [jc]
   rcases j with j|j
   exact (z b j).imp id λh=>⟨i2 h.1,h.2⟩
   grind [jc]
  | .f (n+1)::p,g=>
   have C:=O ft l;rw [cv] at C;obtain ⟨J,K,W⟩:=C;simp only [ak] at g;obtain ⟨s1,_⟩:=fR _ _ _ _ g;obtain ⟨y,z⟩:=ad ft.snd _ (.f n::p) f g K o (λb j=>(q b j).imp id λh D=>h (jc D));simp only [bC,FT.ae,cv,bp];refine ⟨⟨J,y,λb j c X e=>?_⟩,λb j=>?_⟩
   grind [i2]
   rcases j with j|j
   exact .inr ⟨i2 j,λh=>W b j b (s1 b h) rfl⟩;exact (z b j).imp id λh=>⟨jc h.1,h.2⟩
 |slice t I=>
  intro ft a p f u v x g l o q
  match p,g with
  |[],g=>simp only [ak,aX,bk] at g;obtain ⟨rfl,rfl,rfl⟩:=g;exact ⟨o,λb h=>.inl h⟩
  | .f n::p,g=>simp [ak] at g
  | .i n::p,g=>
   match ft,g,l,q with
   | .leaf,g,_,_=>simp [ak] at g
   | .eE _ _,g,_,_=>simp [ak] at g
   | .node none _ _,g,_,_=>simp [ak] at g
   | .node (some ai) cap af,g,l,q=>
    simp only [ak] at g;split at g;rename_i kn hk;simp only [FT.ae,hs,gM,jh] at l;obtain ⟨ag,ah⟩:=qc hk l.2;have ac:=cz hk;obtain ⟨s1,_⟩:=fR _ _ _ _ g;obtain ⟨y,z⟩:=I kn _ p f g ag o (λb j=>(q b j).imp id λh D=>h (by grind [FT.ae,eW]));have aa:∀b∈(bC t kn p f).ae,b∈kn.ae\/b∉FT.bq af:=λb j=>by
     grind [FT.ae]
    simp only [bC,hk,FT.ae,hs,gM,jh,el];refine ⟨⟨λh=>?_,ah7 hk l.2 y aa⟩,λb j=>?_⟩;rcases KF hk h with h|⟨i,U,_,hi,j⟩
    rcases z _ h with h|h
    grind [eW,FT.ae]
    exact l.1 (eW ac h.1);exact l.1 (eW (cz hi) j);rcases j with rfl|j
    grind [eW]
    rcases KF hk j with h|⟨i,U,ab,hi,j⟩
    grind [eW]
    exact .inr ⟨.inr (eW (cz hi) j),λh=>ah i U ab hi b j (s1 b h)⟩;cases g
 |arr m t _=>
  intro ft a p f u v x g l o q
  match p,g with
  |[],g=>simp only [ak,aX,bk] at g;obtain ⟨rfl,rfl,rfl⟩:=g;exact ⟨o,λb h=>.inl h⟩
  | .f n::p,g=>simp [ak] at g
  | .i n::s::p,g=>simp [ak] at g
  |[.i n],g=>
   have e:bC (.arr m t) ft [.i n] f=ft:=by cases ft<;>rfl
   rw [e];simp only [ak] at g;split at g;cases g
   grind [FT.ae]
 |_=>
  intro ft a p f u v x g l o q;cases p with
  |nil=>simp only [ak,aX,bk] at g;obtain ⟨rfl,rfl,rfl⟩:=g;exact ⟨o,λb h=>.inl h⟩
  |cons s p=>simp [ak] at g
theorem jR {m n:Nat} (h:m≠n):Nat.beq m n=false:=by
 cases e:Nat.beq m n;rfl;simp_all
section
variable {α:Type}
theorem gr (k:Nat) (v:α) (l:List (Nat×α)) (n:Nat):lk ((k,v)::l) n=if k=n then some v else lk l n:=by
 simp only [lk];simp_all
theorem VC (l:List (Nat×α)) (n:Nat) (v:α) (m:Nat):lk (bD l n v) m=if n=m then (lk l m).map (λ_=>v) else lk l m:=by
 induction l with
 |nil=>simp [bD,lk]
 |cons a l b=>
  obtain ⟨k,x⟩:=a;simp only [bD];by_cases hk:k=n;subst hk;simp only [nK,cu,gr];simp_all
  grind [jR,gr]
theorem l7 {β:Type} (f:α->β) (l:List (Nat×α)) (n:Nat):lk (l.map λx=>(x.1,f x.2)) n=(lk l n).map f:=by
 induction l with
 |nil=>rfl
 |cons a l b=>
  grind [gr]
end
theorem i3 (s:St) (d n:Nat) (v:TV):(s.put d v).get n=if d=n then v else s.get n:=by
 simp only [St.get,St.put,gr]
 grind
theorem xy (s:St) (d:Nat) (v:TV):(s.put d v).box=s.box:=rfl
def x2 (s:St) (b:Nat) (p:aM) (n:Nat):(s.aw b p).get n=(s.get n).aw b p:=by
 simp only [St.get,St.aw,l7];cases lk s.tmps n<;>rfl
theorem SG (s:St) (b:Nat) (p:aM) (n:Nat):(s.aw b p).box n=(s.box n).map (bl.aw b p):=by
 simp only [St.box,St.aw,l7]
def NU (f:TV->TV) (b:f .un=.un) (l:List (List (Nat×TV))) (i n:Nat):(lk ((l.map λl=>l.map λx=>(x.1,f x.2)).getD i []) n).getD .un=f ((lk (l.getD i []) n).getD .un):=by
 simp only [List.getD_eq_getElem?_getD,uR];cases l[i]? with
 |none=>exact b.symm
 |some l=>
  simp only [dn,uV,l7];cases lk l n with
  |none=>exact b.symm
  |some v=>rfl
def yL (s:St) (b:Nat) (p:aM) (i n:Nat):(s.aw b p).fZ i n=(s.fZ i n).aw b p:=NU (λv=>v.aw b p) rfl s.sv i n
def yM (s:St) (b:Nat) (p:aM):(s.aw b p).sv.length=s.sv.length:=dU _
theorem kk (s:St) (b:Nat) (x y:bl) (h:s.box b=some y) (n:Nat):(s.b4 b x).box n=if b=n then some x else s.box n:=by
 simp only [St.box,St.b4,VC] at*
 grind
section
variable {Z:Type}
theorem ux:∀(t:Ty) (x:t.ai) (p:aM) (u:Ty) (y:u.ai) (k:t.ai->Option Z) (r:Z),dM t x p u y k=some r->
 ∃x':t.ai,k x'=some r/\∀{Y:Type} (k':t.ai->Option Y),dM t x p u y k'=k' x':=by
 intro t;have d:∀(t:Ty) (x:t.ai) (u:Ty) (y:u.ai) (k:t.ai->Option Z) (r:Z),dM t x [] u y k=some r->
  ∃x':t.ai,k x'=some r/\∀{Y:Type} (k':t.ai->Option Y),dM t x [] u y k'=k' x':=by
  grind [dM]
 induction t with
 |cons t r b c=>
  intro x p u y k dd h
  match p,h with
  |[],h=>simp_all
  | .f 0::p,h=>
   grind [dM]
  | .f (n+1)::p,h=>
   grind [dM]
  | .i n::p,h=>simp [dM] at h
 |slice t b=>
  intro x p u y k dd h
  match p,h with
  |[],h=>simp_all
  | .f n::p,h=>simp [dM] at h
  | .i n::p,h=>
   grind [dM]
 |arr m t b=>
  intro x p u y k dd h
  match p,h with
  |[],h=>simp_all
  | .f n::p,h=>simp [dM] at h
  | .i n::p,h=>
   grind [dM]
 |_=>
  grind [dM]
def Xy {mk:(t:Ty)->t.ai->TV} (b:Nat) (q:aM) (c:∀t x,(mk t x).aw b q=mk t x):∀(t:Ty) (x:t.ai) (p:aM) (v:TV) (k:TV->Option Z) (r:Z),dE mk t x p v k=some r->
 ∃c',k c'=some r/\∀{Y:Type} (k':TV->Option Y),dE mk t x p (v.aw b q) k'=k' (c'.aw b q):=by
 intro t
 induction t with
 |cons t r e d=>
  intro x p v k dd h
  match p,h with
  |[],h=>grind [dE]
  | .f 0::p,h=>
   grind [dE,TV.aw]
  | .f (n+1)::p,h=>
   grind [dE,TV.aw]
  | .i n::p,h=>simp [dE] at h
 |_=>
  grind [dE]
theorem Vs {b:Nat} {q:aM} {t:Ty} {x:t.ai}:(TV.ab t x).aw b q=.ab t x:=rfl
def agZ {b:Nat} {q:aM} {t:Ty} {x:t.ai}:(TV.ad t x).aw b q=.ad t x:=rfl
theorem Xx {c:TV} {n:Nat} {p:aM} {v:TV} {k:TV->Option Z} {r:Z} (h:nw c n p v k=some r):
 ∃c',k c'=some r/\(∀{Y:Type} (k':TV->Option Y),nw c n p v k'=k' c')/\∀b q,c.aw b q=c/\v.aw b q=v/\c'.aw b q=c':=by
 unfold nw at h;split at h;rotate_left;cases h;rename_i t xs u;split at h;rotate_left;cases h;rename_i x j;split at h;rotate_left;cases h;rename_i g f;cases g with
 |true=>cases h
 |false=>
  rw [cond_false] at h;split at h;split at h;rename_i l;exact ⟨_,h,λk'=>by simp only [nw,j,f,cond_false];rw [ay l],λb q=>⟨rfl,rfl,rfl⟩⟩;cases h;obtain ⟨x',d,e⟩:=ux t x p _ _ _ r h;exact ⟨_,d,λk'=>by simp only [nw,j,f,cond_false];rw [e],λb q=>⟨rfl,rfl,rfl⟩⟩;split at h;rename_i o;obtain ⟨x',d,e⟩:=ux t x p _ _ _ r h;exact ⟨_,d,λk'=>by simp only [nw,j,f,cond_false];rw [ay o,e],λb q=>⟨rfl,rfl,rfl⟩⟩;cases h;cases h
def Nm (b:Nat) (q:aM):∀(c:TV) (p:aM) (v:TV) (k:TV->Option Z) (r:Z),bP c p v k=some r->
 ∃c',k c'=some r/\∀{Y:Type} (k':TV->Option Y),bP (c.aw b q) p (v.aw b q) k'=k' (c'.aw b q):=by
 have l:∀(c:TV) (v:TV) (k:TV->Option Z) (r:Z),bP c [] v k=some r->
  ∃c',k c'=some r/\∀{Y:Type} (k':TV->Option Y),bP (c.aw b q) [] (v.aw b q) k'=k' (c'.aw b q):=by
  grind [bP]
 intro c
 induction c with
 |ab t x=>
  intro p v k r h;cases p with
  |nil=>exact l _ _ _ _ h
  |cons s p=>
   have o:∀v:TV,(∀{Y:Type} (k':TV->Option Y),bP (.ab t x) (s::p) (v.aw b q) k'=dE .ab t x (s::p) (v.aw b q) k')->dE .ab t x (s::p) v k=some r->
    ∃c',k c'=some r/\∀{Y:Type} (k':TV->Option Y),bP ((TV.ab t x).aw b q) (s::p) (v.aw b q) k'=k' (c'.aw b q):=by
    intro v e D;obtain ⟨c',z,C⟩:=Xy b q (λ_ _=>Vs) t x (s::p) v k r D;exact ⟨c',z,λk'=>by rw [Vs,e,C]⟩
   cases v with
   |ab u y=>
    grind [ux,bP,TV.aw]
   |ad u y=>
    grind [bP,ux,TV.aw]
   |ref g j=>
    refine o _ (λk'=>?_) (by simpa [bP] using h);rcases (kill_cases b q g j 0 0).1 with e|e<;>rw [e]<;>simp [bP]
   |sl g j=>
    refine o _ (λk'=>?_) (by simpa [bP] using h);rcases (kill_cases b q g j 0 0).2.1 with e|e<;>rw [e]<;>simp [bP]
   |slw g j lo n=>
    refine o _ (λk'=>?_) (by simpa [bP] using h);rcases (kill_cases b q g j lo n).2.2.1 with e|e<;>rw [e]<;>simp [bP]
   |mp g=>
    refine o _ (λk'=>?_) (by simpa [bP] using h);rcases (kill_cases b q g [] 0 0).2.2.2 with e|e<;>rw [e]<;>simp [bP]
   |_=>grind [TV.aw,bP]
 |ad t x=>
  intro p v k r h;cases p with
  |nil=>exact l _ _ _ _ h
  |cons s p=>
   obtain ⟨c',z,C⟩:=Xy b q (λ_ _=>agZ) t x (s::p) v k r (by simpa [bP] using h)
   grind [TV.aw,bP]
 |cons a d I J=>
  intro p v k r h
  match p,h with
  |[],h=>exact l _ _ _ _ h
  | .i n::p,h=>simp [bP] at h
  | .f 0::p,h=>
   grind [bP,TV.aw]
  | .f (n+1)::p,h=>
   grind [bP,TV.aw]
 |tup c _=>
  intro p v k r h
  match p,h with
  |[],h=>exact l _ _ _ _ h
  | .f n::p,h=>cases n<;>simp [bP] at h
  | .i n::p,h=>
   grind [Xx,bP,TV.aw]
 |_=>
  grind [bP]
def Nn (c:TV) (p:aM) (v:TV) (k:TV->Option Z) (r:Z) (h:bP c p v k=some r):
 ∃c',k c'=some r/\∀{Y:Type} (k':TV->Option Y),bP c p v k'=k' c':=by
 have l:∀(mk:(t:Ty)->t.ai->TV) (t:Ty) (x:t.ai) (p:aM) (k:TV->Option Z) (r:Z),dE mk t x p v k=some r->∃c',k c'=some r/\∀{Y:Type} (k':TV->Option Y),dE mk t x p v k'=k' c':=by
  intro mk t
  induction t with
  |cons t r j g=>
   intro x p k dd h
   match p,h with
   |[],h=>grind [dE]
   | .f 0::p,h=>
    grind [dE]
   | .f (n+1)::p,h=>
    grind [dE]
   | .i n::p,h=>simp [dE] at h
  |_=>
   grind [dE]
 have key:∀(c:TV) (p:aM) (k:TV->Option Z) (r:Z),bP c p v k=some r->∃c',k c'=some r/\∀{Y:Type} (k':TV->Option Y),bP c p v k'=k' c':=by
  intro c
  induction c with
  |ab t x=>
   intro p k r h;cases p with
   |nil=>exact ⟨v,h,λk'=>rfl⟩
   |cons s p=>
    cases v with
    |ab u y=>
     grind [ux,bP]
    |ad u y=>
     grind [bP,ux]
    |_=>
     grind [bP]
  |ad t x=>
   intro p k r h;cases p with
   |nil=>exact ⟨v,h,λk'=>rfl⟩
   |cons s p=>
    grind [bP]
  |cons a d b e=>
   intro p k r h
   match p,h with
   |[],h=>exact ⟨v,h,λk'=>rfl⟩
   | .i n::p,h=>simp [bP] at h
   | .f 0::p,h=>
    grind [bP]
   | .f (n+1)::p,h=>
    grind [bP]
  |tup c _=>
   intro p k r h
   match p,h with
   |[],h=>exact ⟨v,h,λk'=>rfl⟩
   | .f n::p,h=>cases n<;>simp [bP] at h
   | .i n::p,h=>
    grind [Xx,bP]
  |_=>
   grind [bP]
 exact key c p k r h
end
def bl.with (x:bl) (c:TV):bl:={x with c:=c}
section
variable {F:Fr} {G:Nat->Gh} {s:St} {a:Act} {w:World}
theorem aC.ro (h:aC F G s a w) {i:Nat} {x:bl} (e:s.box i=some x) {b:Nat} (c:F.R b):b∉(G i).ae:=λd=>(h.bQ i x e b d).1 c
def aC.o6 (h:aC F G s a w) {b:Nat} (c:F.R b):b<w.heap.size:=kJ (h.R b c).1 h.size
theorem dw.fa {A:b0} {R:Nat->Prop} {g:Gh} {x:bl} (h:dw A w R g x):
 ∃cs,a1 A w R x.c x.ty g.ft cs/\∀b o,g.bj.map (·,0)=some (b,o)->At w b o x.ty.size cs/\∃row e,w.heap[b]?=some (.cells row e (0,0))/\row.toList=cs/\o=0:=by
 unfold dw at h;split at h;simp_all;obtain ⟨j,row,e,f,d,l,h4⟩:=h;refine ⟨row.toList,h4,λb o eq=>?_⟩;rw [f] at eq;simp only [dn,aX,bk] at eq;obtain ⟨rfl,rfl⟩:=eq;exact ⟨⟨row,e,(0,0),d,by omega,by rw [uP,List.take_of_length_le (by simp;omega)]⟩,row,e,d,rfl,rfl⟩
theorem aC.xR (h:aC F G s a w) {i:Nat} {x:bl} (C:s.box i=some x) {p:aM} {u:Ty} {W:FT} {ac:Option (Nat×Nat)}
 (aw:ax s.box G i p=some (u,W,ac)) {w2:World} {c':TV} {f:FT} {s2:St} {D:Nat->Gh} (kl:TV->TV)
 (a0:D=λj=>if j=i then ⟨(G i).bj,bC x.ty (G i).ft p f⟩ else G j)
 (a6:∀n,s2.get n=kl (s.get n)) (aA:∀i n,s2.fZ i n=kl (s.fZ i n)) (a7:s2.sv.length=s.sv.length) (I:∀j,s2.box j=if j=i then some (x.with c') else (s.box j).map λy=>y.with (kl y.c))
 (ah:∀v y,VR (ax s.box G) w F.R v y->VR (ax s2.box D) w2 F.R (kl v) y)
 (ag:∀c t ft cs,(∀b∈ft.ae,w2.heap[b]?=w.heap[b]?)->a1 (ax s.box G) w F.R c t ft cs->a1 (ax s2.box D) w2 F.R (kl c) t ft cs)
 (aN:dw (ax s2.box D) w2 F.R (D i) (x.with c'))
 (am:fM w w2) (az:∀j y,j≠i->s.box j=some y->∀b∈(G j).ae,w2.heap[b]?=w.heap[b]?) (a2:∀b,b<F.w0.heap.size->b∉F.M->w2.heap[b]?=w.heap[b]?)
 (a3:f.ae.Nodup) (ai:∀b∈f.ae,b∈W.ae\/∀j y,s.box j=some y->b∉(G j).ae)
 (a5:∀b∈f.ae,¬F.R b/\b<w2.heap.size/\(b∈F.M\/F.w0.heap.size<=b))
 (a4:x.dD=true->x.cn=true->(bC x.ty (G i).ft p f).dy=(G i).ft.dy):aC F D s2 a w2:=by
 subst a0;have af:ak x.ty (G i).ft ((G i).bj.map (·,0)) p=some (u,W,ac):=by simpa [ax,C] using aw
 have al:=h.b7 i x C;simp only [Gh.ae,cv] at al;obtain ⟨aO,aE,aP⟩:=al;obtain ⟨s1,_⟩:=fR _ _ _ _ af;obtain ⟨aK,aL⟩:=Ge x.ty (G i).ft _ p f af aE a3 (λb I=>(ai b I).imp id λav ar=>av i x C (by simp [Gh.ae,ar]));have cm:∀j y,s2.box j=some y->∃g,s.box j=some g:=by
  intro j y d;rw [I] at d;by_cases e:j=i;simp_all;simp only [e,c2] at d;cases q:s.box j with
  |none=>rw [q] at d;cases d
  |some g=>exact ⟨g,rfl⟩
 have sub:∀b,b∈(Gh.mk (G i).bj (bC x.ty (G i).ft p f)).ae->b∈f.ae\/(b∈(G i).ae):=by
  grind [Gh.ae]
 have aJ:∀j y,j≠i->s.box j=some y->∀b∈(G j).ae,b∉f.ae/\b∉(G i).ae:=by
  intro j y q d b l;refine ⟨λa8=>?_,λK=>h.c6 j i y x d C q b l K⟩;rcases ai b a8 with o|o
  exact h.c6 j i y x d C q b l (by simp [Gh.ae,s1 b o]);exact o j y d l
 refine ⟨?_,?_,?_,?_,?_,h.R,?_,?_,h.fT.trans am,h.defers,h.nt,?hpar,λi n=>(by rw [aA];exact ah _ _ (h.sv i n)),a7.trans h.jF⟩
 case hpar=>
  intro j y d;rw [I] at d;by_cases e:j=i;subst e;simp only [cu,aX] at d;subst d;simp only [cu];obtain ⟨aF,aG⟩:=h.cU j x C;refine ⟨aF,λan=>?_⟩;obtain ⟨aq,aH⟩:=aG an;exact ⟨aq,(a4 an aq).trans aH⟩;simp only [e,c2] at d|-;cases q:s.box j with
  |none=>rw [q] at d;cases d
  |some g=>
   rw [q] at d;simp only [dn,aX] at d;subst d;exact h.cU j g q
 rotate_left;intro j y d;rw [I] at d;by_cases e:j=i;subst e;simp only [cu,aX] at d;subst d;exact h.cC j x C;simp only [e,c2] at d;cases q:s.box j with
 |none=>rw [q] at d;cases d
 |some g=>
  rw [q] at d;simp only [dn,aX] at d;subst d;exact h.cC j g q
 rotate_right
 intro j y d;by_cases e:j=i;simp_all;obtain ⟨g,r⟩:=cm j y d;rw [I] at d;simp only [e,c2,r,dn,aX] at d;subst d;have J:=h.box j g r;have ab:∀b∈(G j).ae,w2.heap[b]?=w.heap[b]?:=λb l=>az j g e r b l
 unfold dw at J|-;by_cases O:g.cn=true;rw [ay O] at J;rw [au e,ay (show (g.with (kl g.c)).cn=true from O)];obtain ⟨o,X,cs,aa⟩:=J;exact ⟨o,X,cs,ag _ _ _ _ (λb l=>ab b (by simp [Gh.ae,l])) aa⟩;rw [au O] at J;rw [au e,au (show ¬(g.with (kl g.c)).cn=true from O)];obtain ⟨ad,row,U,o,X,aa,h4⟩:=J;exact ⟨ad,row,U,o,by rw [ab ad (by simp [Gh.ae,o])];exact X,aa,ag _ _ _ _ (λb l=>ab b (by simp [Gh.ae,l])) h4⟩;intro j k y z d aB a9 b l K;obtain ⟨g,r⟩:=cm j y d;obtain ⟨aI,aD⟩:=cm k z aB;by_cases e:j=i
 grind
 by_cases U:k=i
 grind
 simp only [e,U,c2] at l K;exact h.c6 j k g aI r aD a9 b l K;intro j y d;obtain ⟨g,r⟩:=cm j y d;by_cases e:j=i
 grind [Gh.ae]
 simp only [e,c2];exact h.b7 j g r;intro j y d b l;obtain ⟨g,r⟩:=cm j y d;by_cases e:j=i;subst e;simp only [cu] at l;rcases sub b l with o|o
 exact a5 b o;obtain ⟨ao,ap,m3⟩:=h.bQ j x C b o;exact ⟨ao,kJ ap am.size,m3⟩;simp only [e,c2] at l;obtain ⟨ao,ap,m3⟩:=h.bQ j g r b l
 grind
 intro n;rw [a6];exact ah _ _ (h.tmps n);intro b aj l;rw [a2 b aj l];exact h.bT b aj l
def aC.core (h:aC F G s a w) {i:Nat} {x:bl} (g:s.box i=some x) {p:aM} {u:Ty} {l:FT} {z:Option (Nat×Nat)}
 (C:ax s.box G i p=some (u,l,z)) {w2:World} {c':TV} {f:FT} {s2:St} {d:Nat->Gh} (kl:TV->TV)
 (I:d=λj=>if j=i then ⟨(G i).bj,bC x.ty (G i).ft p f⟩ else G j)
 (ab:∀n,s2.get n=kl (s.get n)) (ai:∀i n,s2.fZ i n=kl (s.fZ i n)) (af:s2.sv.length=s.sv.length) (K:∀j,s2.box j=if j=i then some (x.with c') else (s.box j).map λy=>y.with (kl y.c))
 (J:∀v y,VR (ax s.box G) w F.R v y->VR (ax s2.box d) w2 F.R (kl v) y)
 (D:∀c t ft cs,(∀b∈ft.ae,w2.heap[b]?=w.heap[b]?)->a1 (ax s.box G) w F.R c t ft cs->a1 (ax s2.box d) w2 F.R (kl c) t ft cs)
 (O:dw (ax s2.box d) w2 F.R (d i) (x.with c'))
 (aj:fM w w2) (q:∀b,b<w.heap.size->b∉(G i).ae->w2.heap[b]?=w.heap[b]?)
 (U:f.ae.Nodup) (W:∀b∈f.ae,b∈l.ae\/∀j y,s.box j=some y->b∉(G j).ae)
 (aa:∀b∈f.ae,¬F.R b/\b<w2.heap.size/\(b∈F.M\/F.w0.heap.size<=b))
 (X:x.dD=true->x.cn=true->(bC x.ty (G i).ft p f).dy=(G i).ft.dy):aC F d s2 a w2:=by
 refine h.xR g C kl I ab ai af K J D O aj (λj y ad r b e=>q b (h.bQ j y r b e).2.1 (λah=>h.c6 j i y x r g ad b e ah)) (λb ag e=>q b (kJ ag h.size) (λac=>?_)) U W aa X;rcases (h.bQ i x g b ac).2.2 with o|o
 exact e o;omega
theorem aC.put (h:aC F G s a w) {d:Nat} {v:TV} {x:Value} (b:d<F.nt) (c:VR (ax s.box G) w F.R v x):aC F G (s.put d v) (a.put (some d) x) w:=by
 refine ⟨h.box,h.cC,h.c6,h.b7,h.bQ,h.R,λn=>?_,h.bT,h.fT,h.defers,by simpa [Act.put] using h.nt,h.cU,h.sv,h.jF⟩;rw [i3,xy];by_cases e:d=n;subst e;have:(a.put (some d) x).tmps.getD d undef=x:=by simp [Act.put,h.nt,b]
 simp_all;have:(a.put (some d) x).tmps.getD n undef=a.tmps.getD n undef:=by
  simp [Act.put,jI,Array.getElem?_setIfInBounds_ne e]
 rw [this,au e];exact h.tmps n
def aC.MY (h:aC F G s a w) (d:Nat):aC F G (s.put d (.tup .unit)) (a.put (some d) undef) w:=by
 refine ⟨h.box,h.cC,h.c6,h.b7,h.bQ,h.R,λn=>?_,h.bT,h.fT,h.defers,by simpa [Act.put] using h.nt,h.cU,h.sv,h.jF⟩;rw [i3,xy];by_cases e:d=n;subst e;have:(a.put (some d) undef).tmps.getD d undef=undef:=by
  simp only [Act.put,jI];simp_all
 rw [this,ay rfl];exact ⟨[],trivial,rfl⟩;have:(a.put (some d) undef).tmps.getD n undef=a.tmps.getD n undef:=by
  simp [Act.put,jI,Array.getElem?_setIfInBounds_ne e]
 rw [this,au e];exact h.tmps n
def U6 (h:aC F G s a w) {ops:Array Oper} {j d:Nat} (g:(ops[j]?).bind (·.dst)=some d) (f:s.get d=.tup .unit):yielded ops a.tmps j=none:=by
 have b:=h.tmps d;rw [f] at b;obtain ⟨xs,c,e⟩:=b;cases xs with
 |cons _ _=>exact c.elim
 |nil=>
  rw [jI] at e;unfold yielded
  grind
def aC.F9 (h:aC F G s a w) {d:Nat} {v:TV} (b:VR (ax s.box G) w F.R v (a.tmps.getD d undef)):aC F G (s.put d v) a w:=by
 refine ⟨h.box,h.cC,h.c6,h.b7,h.bQ,h.R,λn=>?_,h.bT,h.fT,h.defers,h.nt,h.cU,h.sv,h.jF⟩;rw [i3,xy];by_cases e:d=n;simp_all;rw [au e];exact h.tmps n
theorem aC.grow (h:aC F G s a w) {w2:World} (z:fM w w2) (o:∀b,b<w.heap.size->w2.heap[b]?=w.heap[b]?):aC F G s a w2:=by
 have g:∀b,F.R b->w2.heap[b]?=w.heap[b]?:=λb j=>o b (h.o6 j)
 have f:hP (ax s.box G) (ax s.box G):=λ_ _ _ ft _ e=>⟨ft,e,rfl⟩
 refine ⟨λi x d=>?_,h.cC,h.c6,h.b7,λi x d b j=>?_,h.R,λn=>VR.mono f g (h.tmps n),λb q c=>?_,h.fT.trans z,h.defers,h.nt,h.cU,λi n=>VR.mono f g (h.sv i n),h.jF⟩;have y:∀b∈(G i).ae,w2.heap[b]?=w.heap[b]?:=λb c=>o b (h.bQ i x d b c).2.1
 have l:=h.box i x d;unfold dw at l|-;split;rename_i C;rw [ay C] at l;obtain ⟨r,u,cs,v⟩:=l;exact ⟨r,u,cs,a1.mono f g _ _ _ _ (λb c=>y b (by simp [Gh.ae,c])) v⟩
 grind [a1.mono,Gh.ae]
 obtain ⟨D,I,m3⟩:=h.bQ i x d b j
 grind
 rw [o b (kJ q h.size)];exact h.bT b q c
end
theorem Wr.refl {w:World} {b o n:Nat} {cs:List Value} (h:At w b o n cs):Wr w w b o n cs:=by
 obtain ⟨row,e,fz,c,d,rfl⟩:=h;refine ⟨by simp;omega,row,row,e,fz,c,c,d,?_⟩;rw [gb,<-jK,iR,iR]
theorem fu {B:Nat->Option bl} {G:Nat->Gh} {i:Nat} {x:bl} (h:B i=some x) (p:aM):ax B G i p=ak x.ty (G i).ft ((G i).bj.map (·,0)) p:=by
 simp [ax,h]
section
variable {Z:Type} {F:Fr} {G:Nat->Gh} {s:St} {a:Act} {w:World}
def tf {i:Nat} {x:bl} (n:s.box i=some x) {p:aM} {u:Ty} {g:FT} {d:Option (Nat×Nat)}
 (r:ax s.box G i p=some (u,g,d)) {f:FT} {s2:St} {b:Nat->Gh} {c':TV} {kl:TV->TV}
 (z:b=λj=>if j=i then ⟨(G i).bj,bC x.ty (G i).ft p f⟩ else G j)
 (l:∀j,s2.box j=if j=i then some (x.with c') else (s.box j).map λy=>y.with (kl y.c)):mC i p (ax s.box G) (ax s2.box b):=by
 subst z;intro c q t ft aP h;have v:ak x.ty (G i).ft ((G i).bj.map (·,0)) p=some (u,g,d):=by rw [<-fu n];exact r
 by_cases e:i=c;subst e;rw [fu n] at h;have C:∀q,ax s2.box (λj=>if j=i then ⟨(G i).bj,bC x.ty (G i).ft p f⟩ else G j) i q=ak x.ty (bC x.ty (G i).ft p f) ((G i).bj.map (·,0)) q:=by
  intro q;simp [ax,l,bl.with]
 obtain ⟨D,I⟩:=ael x.ty (G i).ft _ p q f v h;simp_all;have C:ax s2.box (λj=>if j=i then ⟨(G i).bj,bC x.ty (G i).ft p f⟩ else G j) c q=ax s.box G c q:=by
  have o:¬c=i:=λh=>e h.symm
  simp only [ax,l,o,c2];cases s.box c<;>rfl
 simp_all
def ag6 {i:Nat} {x:bl} (o:s.box i=some x) {p:aM} {u:Ty} {g:FT} {d:Option (Nat×Nat)}
 (v:ax s.box G i p=some (u,g,d)) (D:u.aW=true) {f:FT} {s2:St} {b:Nat->Gh} {c':TV} {kl:TV->TV}
 (C:b=λj=>if j=i then ⟨(G i).bj,bC x.ty (G i).ft p f⟩ else G j)
 (l:∀j,s2.box j=if j=i then some (x.with c') else (s.box j).map λy=>y.with (kl y.c)):hP (ax s.box G) (ax s2.box b):=by
 subst C;intro c q t ft aP h;have z:ak x.ty (G i).ft ((G i).bj.map (·,0)) p=some (u,g,d):=by rw [<-fu o];exact v
 by_cases e:i=c;subst e;rw [fu o] at h;have n:ax s2.box (λj=>if j=i then ⟨(G i).bj,bC x.ty (G i).ft p f⟩ else G j) i q=ak x.ty (bC x.ty (G i).ft p f) ((G i).bj.map (·,0)) q:=by
  simp [ax,l,bl.with]
 rw [n];exact aem x.ty (G i).ft _ p q f D z h;have n:ax s2.box (λj=>if j=i then ⟨(G i).bj,bC x.ty (G i).ft p f⟩ else G j) c q=ax s.box G c q:=by
  have r:¬c=i:=λh=>e h.symm
  simp only [ax,l,r,c2];cases s.box c<;>rfl
 simp_all
structure hv (F:Fr) (G:Nat->Gh) (s:St) (w:World) (f:FT):Prop where
 b7:f.ae.Nodup
 out:∀b∈f.ae,∀j y,s.box j=some y->b∉(G j).ae
 bQ:∀b∈f.ae,¬F.R b/\b<w.heap.size/\(b∈F.M\/F.w0.heap.size<=b)
structure ik (G:Nat->Gh) (s:St) (c:Nat->Gh) (d:St):Prop where
 sub:∀j y,d.box j=some y->∀b∈(c j).ae,∃i x,s.box i=some x/\b∈(G i).ae
theorem ik.refl:ik G s G s:=⟨λj y h b c=>⟨j,y,h,c⟩⟩
theorem ik.trans {G1 c:Nat->Gh} {s1 s2:St} (h:ik G s G1 s1) (d:ik G1 s1 c s2):ik G s c s2:=
 ⟨λj y l b e=>let ⟨i,x,g,f⟩:=d.sub j y l b e;h.sub i x g b f⟩
def ps (G:Nat->Gh) (s:St) (f:FT):Prop:=∀b∈f.ae,∃i x,s.box i=some x/\b∈(G i).ae
theorem ps.eY {c:Nat->Gh} {d:St} {f:FT} (h:ik G s c d) (l:ps c d f):ps G s f:=λb e=>
 let ⟨j,y,n,g⟩:=l b e;h.sub j y n b g
theorem hv.eY {d:Nat->Gh} {e:St} {f:FT} (h:ik G s d e) (c:hv F G s w f):hv F d e w f:=
 ⟨c.b7,λb g j y q l=>let ⟨i,x,o,n⟩:=h.sub j y q b l;c.out b g i x o n,c.bQ⟩
theorem hv.c6 {f g:FT} (e:hv F G s w f) (h:ps G s g):∀b∈g.ae,b∉f.ae:=λb c d=>
 let ⟨i,x,l,j⟩:=h b c;e.out b d i x l j
theorem hv.nil {f:FT} (h:f.ae=[]):hv F G s w f:=⟨by simp_all,λb c=>(by rw [h] at c;cases c),λb c=>(by rw [h] at c;cases c)⟩
theorem k1 {i:Nat} {x:bl} (b:s.box i=some x) (c:TV) (p:aM) (j:Nat):
 ((s.b4 i {x with c:=c}).aw i p).box j=if j=i then some (x.with (c.aw i p)) else (s.box j).map λy=>y.with (y.c.aw i p):=by
 rw [SG,kk s i _ x b];by_cases e:j=i;subst e;simp [bl.aw,bl.with];simp only [kM e,c2,e];cases s.box j<;>rfl
def aC.move (h:aC F G s a w) {b:Nat} {p:aM} {x:bl} (q:s.box b=some x) (bh:x.dD=false) (a6:aM.dC p=false\/x.cn=true) {u:Ty} {I:FT} {aa:Option (Nat×Nat)} {cs:List Value} {t:Ty} {y:t.ai} (an:t.size=1) (aA:t.agg=false)
 (aq:ax s.box G b p=some (u,I,aa)) (aR:a1 (ax s.box G) w F.R (.ab t y) u I cs) (aj:∀b o,aa=some (b,o)->At w b o u.size cs) {k:TV->Option Z} {r:Z} (aK:bP x.c p .un k=some r):
 ∃c' ah,k c'=some r/\aC F ah ((s.b4 b {x with c:=c'}).aw b p) a w/\hv F ah ((s.b4 b {x with c:=c'}).aw b p) w I/\
  mC b p (ax s.box G) (ax ((s.b4 b {x with c:=c'}).aw b p).box ah)/\bd w t y I cs/\t=u/\
  ik G s ah ((s.b4 b {x with c:=c'}).aw b p)/\ps G s I:=by
 obtain ⟨c',hk,a2⟩:=Nm b p x.c p .un k r aK
 let s2:=(s.b4 b {x with c:=c'}).aw b p
 let l:Nat->Gh:=λj=>if j=b then ⟨(G b).bj,bC x.ty (G b).ft p .leaf⟩ else G j
 have g:ak x.ty (G b).ft ((G b).bj.map (·,0)) p=some (u,I,aa):=by rw [<-fu q];exact aq
 have al:mC b p (ax s.box G) (ax s2.box l):=tf (kl:=λv=>v.aw b p) q aq rfl (k1 q c' p);obtain ⟨rfl,aV⟩:=aR;obtain ⟨s1,bn⟩:=fR _ _ _ _ g;have a8:=h.b7 b x q;have aU:=h.bQ b x q;simp only [Gh.ae,cv] at a8;obtain ⟨bm,X,aX⟩:=a8;obtain ⟨ac,a4,bg⟩:=(h.box b x q).fa;have a5:a1 (ax s2.box l) w F.R (x.c.aw b p) x.ty (G b).ft ac:=a1.aw al (λ_ _=>rfl) _ _ _ _ (λ_ _=>rfl) a4;refine ⟨c',l,hk,?_,?_,al,aV,rfl,⟨λj y D z U=>?_⟩,λz U=>⟨b,x,q,by grind [Gh.ae]⟩⟩;rotate_left 2;obtain ⟨_,aB⟩:=Ge x.ty (G b).ft _ p .leaf g X (by simp [FT.ae]) (λb J=>by simp [FT.ae] at J);rw [k1 q] at D;by_cases e:j=b
 grind [Gh.ae,FT.ae]
 simp only [e,c2] at D;simp only [l,e,c2] at U;cases am:s.box j with
 |none=>rw [am] at D;cases D
 |some aD=>grind
 refine h.core q aq (λv=>v.aw b p) rfl (x2 _ b p) (yL _ b p) (yM _ b p) (k1 q c' p) (λv y K=>VR.aw al (λ_ _=>rfl) K) (λc t ft cs aL aS=>a1.aw al (λ_ _=>rfl) c t ft cs aL aS) ?_ (fM.refl _) (λ_ _ _=>rfl) (by simp [FT.ae]) (λb J=>by simp [FT.ae] at J) (λb J=>by simp [FT.ae] at J) (λbe=>by simp_all);unfold dw;by_cases K:x.cn=true
 ·have C:=h.box b x q;unfold dw at C;rw [ay K] at C;have a0:=C.1;by_cases a9:p=[];rotate_left;rw [ay (show (x.with (c'.aw b p)).cn=true from K)];obtain ⟨ba,af⟩:=C.2.1;have av:∃d o,aa=some (d,o):=by
   rw [af] at g
   match p,g with
   |[],_=>exact absurd rfl a9
   | .f n::p,g=>simp [ak] at g
   | .i n::p,g=>
    generalize (G b).ft=aH at g
    match aH,g with
    | .leaf,O=>simp [ak] at O
    | .eE _ _,O=>simp [ak] at O
    | .node none _ _,O=>simp [ak] at O
    | .node (some bb) cap bk,O=>
     grind [ak,fR]
  obtain ⟨d,o,rfl⟩:=av;have ar:Wr w w d o t.size cs:=Wr.refl (aj d o rfl);have ag:a1 (ax s2.box l) w F.R .un t .leaf cs:=⟨rfl,an,aA,by rw [(aj d o rfl).len,an]⟩;rw [a0] at g;obtain ⟨aE,ad,ap,aI,aJ,a3⟩:=a1.set ar ag (x.c.aw b p) x.ty (G b).ft ac none p (λc=>some c) (c'.aw b p) a5
   (λz aY ao=>by cases ao) X g (a2 some) ⟨λ_ _ _ _=>rfl,aek _ _ _ _ g X (λb o e=>by cases e),λ_ _=>rfl⟩
  obtain rfl:=b2 ap;exact ⟨by simpa [l] using a0,C.2.1,ad,by
   change a1 _ w F.R (c'.aw b p) x.ty (l b).ft ad
   grind⟩
  subst a9;rw [ay (show (x.with (c'.aw b [])).cn=true from K)];refine ⟨by simpa [l] using a0,C.2.1,ac,?_⟩;have aF:∀{Y:Type} (c v:TV) (k:TV->Option Y),bP c [] v k=k v:=by intro Y c v k;cases c<;>rfl
  have:=a2 some;rw [aF] at this;have ag:c'.aw b []=.un:=(b2 this).symm;have aG:bC x.ty (G b).ft [] .leaf=.leaf:=by cases x.ty<;>rfl
  change a1 _ w F.R (c'.aw b []) x.ty (l b).ft ac;rw [ag];simp only [l,cu,aG];have bi:x.ty=t:=by
   grind [ak]
  obtain ⟨ba,af⟩:=C.2.1;exact ⟨rfl,by rw [af];rfl,by rw [af];rfl,by rw [a1.len _ _ _ _ a4,af];rfl⟩
 have a6:aM.dC p=false:=a6.resolve_right K;rw [au (show ¬(x.with (c'.aw b p)).cn=true from K)];have C:=h.box b x q;unfold dw at C;rw [au K] at C;obtain ⟨d,row,e,az,aO,aP,bf⟩:=C;have av:∃o,aa=some (d,o):=by
  grind
 obtain ⟨o,rfl⟩:=av;have ar:Wr w w d o t.size cs:=Wr.refl (aj d o rfl);have aQ:d∉(G b).ft.ae:=λW=>aX d (by simp [az]) d W rfl
 have ag:a1 (ax s2.box l) w F.R .un t .leaf cs:=⟨rfl,an,aA,by rw [(aj d o rfl).len,an]⟩;obtain ⟨aE,ad,ap,aI,aJ,a3⟩:=a1.set ar ag (x.c.aw b p) x.ty (G b).ft ac ((G b).bj.map (·,0)) p (λc=>some c) (c'.aw b p) a5
  (λz aY ao=>by
   simp_all) X g (a2 some) ⟨λ_ _ _ _=>rfl,λW=>aQ (s1 d W),λ_ _=>rfl⟩
 obtain rfl:=b2 ap;refine ⟨d,row,e,by simp [l,az],aO,aP,?_⟩;have aN:=a3 d 0 (by rw [az];rfl);have aW:ad=row.toList:=by
  obtain ⟨nu,ao,bc,aZ,aB,rfl⟩:=aN
  grind
 rw [<-aW];change a1 _ w F.R (c'.aw b p) x.ty (l b).ft ad
 grind
 have a7:∀z∈I.ae,z∈(G b).ae:=λz J=>by grind [Gh.ae]
 have aT:I.ae.Nodup:=aej _ _ _ _ g X;obtain ⟨aZ,aB⟩:=Ge x.ty (G b).ft _ p .leaf g X (by simp [FT.ae]) (λb J=>by simp [FT.ae] at J);refine ⟨aT,λz U j y D W=>?_,λz U=>aU z (a7 z U)⟩;rw [k1 q] at D;by_cases e:j=b
 grind [Gh.ae,FT.ae]
 simp only [e,c2] at D;cases am:s.box j with
 |none=>rw [am] at D;cases D
 |some aD=>
  simp only [l,e,c2] at W;exact h.c6 b j x aD q am (kM e) z (a7 z U) W
end
def ej (cs:List Value):Prop:=∀v∈cs,v.oneCell'=true
def ub {a b:List Value} (c:ej a) (d:ej b):ej (a++b):=λv e=>(bp.1 e).elim (c v) (d v)
def jB:∀(t:Ty) (x:t.ai),ej (bJ t x)
 | .int _,_=>by intro v b;simp [bJ] at b;subst b;rfl
 | .bool,_=>by intro v b;simp [bJ] at b;subst b;rfl
 | .bR,_=>by intro v b;simp [bJ] at b;subst b;rfl
 | .bG,_=>by intro v b;simp [bJ] at b
 | .slice _,_=>by intro v b;simp [bJ] at b
 | .unit,_=>by intro v b;simp [bJ] at b
 | .cons t r,x=>ub (jB t x.1) (jB r x.2)
 | .arr _ t,xs=>by
  intro v b;have b:v∈((show List t.ai from xs).map (bJ t)).flatten:=b;rw [List.mem_flatten] at b;obtain ⟨l,c,d⟩:=b;obtain ⟨y,_,e⟩:=cQ.1 c;subst e;exact jB t y v d
theorem Rd.ej {w:World} {R:Nat->Prop}:∀(t:Ty) (x:t.ai) (cs:List Value),Rd w R t x cs->ej cs
 | .int _,_,_,h=>by rw [h.2.2];exact jB _ _
 | .bool,_,_,h=>by rw [h.2.2];exact jB _ _
 | .bR,_,_,h=>by rw [h.2.2];exact jB _ _
 | .bG,_,_,h=>h.elim
 | .unit,_,_,h=>by rw [h.2.2];exact jB _ _
 | .arr _ _,_,_,h=>by rw [h.2.2];exact jB _ _
 | .cons t r,x,cs,h=>by
  obtain ⟨c,d,rfl,e,f⟩:=h;exact ub (Rd.ej t x.1 c e) (Rd.ej r x.2 d f)
 | .slice t,xs,cs,h=>by
  obtain ⟨a,cap,rfl,_⟩:=h;intro v b;simp at b;subst b;rfl
theorem bd.ej {w:World}:∀(t:Ty) (x:t.ai) (ft:FT) (cs:List Value),bd w t x ft cs->ej cs
 | .int _,_,_,_,h=>by rw [h.2.2.2];exact jB _ _
 | .bool,_,_,_,h=>by rw [h.2.2.2];exact jB _ _
 | .bR,_,_,_,h=>by rw [h.2.2.2];exact jB _ _
 | .bG,_,_,_,h=>h.elim
 | .unit,_,_,_,h=>by rw [h.2.2.2];exact jB _ _
 | .arr _ _,_,_,_,h=>by rw [h.2.2.2];exact jB _ _
 | .cons t r,x,ft,cs,h=>by
  obtain ⟨_,d,e,rfl,f,g⟩:=h;exact ub (bd.ej t x.1 _ d f) (bd.ej r x.2 _ e g)
 | .slice t,xs,ft,cs,h=>by
  obtain ⟨b,cap,j,_,rfl,_⟩:=h;intro v c;simp at c;subst c;rfl
def me {v:Value} (h:v.oneCell'=true):ej [v]:=λx b=>by simp_all
section
variable {Z:Type} {F:Fr} {a:Act} {w:World}
def Vq {A A':b0} {R:Nat->Prop} {b:Nat} {p:aM} (h:mC b p A A'):
 (∀d e,bH A w R d e->bH A' w R (d.aw b p) e)/\(∀c t f cs,a1 A w R c t f cs->a1 A' w R (c.aw b p) t f cs):=
 ⟨λd e j=>bH.aw h (λ_ _=>rfl) d e j,λc t f cs g=>a1.aw h (λ_ _=>rfl) c t f cs (λ_ _=>rfl) g⟩
theorem aeO:∀(b:List FT) (n:Nat),List.Sublist (FT.bq (b.take n)) (FT.bq b):=by
 intro b
 induction b with
 |nil=>simp_all
 |cons f b c=>
  intro n;cases n with
  |zero=>simp [FT.bq]
  |succ n=>
   simp only [List.take_succ_cons,FT.bq];simp_all
def Wa (b:Option Nat) (cap:Nat) (c:List FT) (n:Nat):List.Sublist (FT.node b cap (c.take n)).ae (FT.node b cap c).ae:=by
 grind [FT.ae,aeO]
structure s5 (F:Fr) (G:Nat->Gh) (s:St) (a:Act) (w:World) (κ:TV->TV) (t:Ty) (cs:List Value) (b:Nat->Gh) (e:St) (c:TV) (f:FT):Prop where
 rel:aC F b e a w
 fa:a1 (ax e.box b) w F.R c t f cs
 er:hv F b e w f
 js:ps G s f
 eY:ik G s b e
 GR:∀d g,bH (ax s.box G) w F.R d g->bH (ax e.box b) w F.R (κ d) g
 cons:∀d t f cs,a1 (ax s.box G) w F.R d t f cs->a1 (ax e.box b) w F.R (κ d) t f cs
 vr:∀d y,VR (ax s.box G) w F.R d y->VR (ax e.box b) w F.R (κ d) y
 ej:ej cs
def s5.still {G:Nat->Gh} {s:St} (h:aC F G s a w) {t:Ty} {cs:List Value} {c:TV} {f:FT} (j:a1 (ax s.box G) w F.R c t f cs) (g:f.ae=[]) (l:TM.ej cs):
 s5 F G s a w id t cs G s c f:=
 ⟨h,j,.nil g,λb e=>(by rw [g] at e;cases e),.refl,λ_ _ d=>d,λ_ _ _ _ d=>d,λ_ _ d=>d,l⟩
def ow:∀(t:Ty) (v:TV) (G:Nat->Gh) (s:St) (cs:List Value) (k:St->TV->(TV->TV)->Option Z) (r:Z),aC F G s a w->bH (ax s.box G) w F.R v cs->ck s t v k=some r->
 ∃aa an c f κ,k an c κ=some r/\s5 F G s a w κ t cs aa an c f:=by
 intro t;have ak:∀(t u:Ty) (x:u.ai) (G:Nat->Gh) (s:St) (cs:List Value) (k:St->TV->(TV->TV)->Option Z) (r:Z),aC F G s a w->bH (ax s.box G) w F.R (.ad u x) cs->(if decide (u=t) then k s (.ad u x) id else none)=some r->
  ∃aa an c f κ,k an c κ=some r/\s5 F G s a w κ t cs aa an c f:=by
  intro t u x G s cs k r h j g;split at g;rename_i e;have e:u=t:=e7 e;exact ⟨G,s,_,.leaf,id,g,.still h ⟨e,rfl,j⟩ rfl (Rd.ej _ _ _ j)⟩;cases g
 induction t with
 |cons t u bb bc=>
  intro v G s cs k r h j g;cases v with
  |cons x d=>
   simp only [ck] at g;obtain ⟨aF,aj,rfl,aS,aT⟩:=j;obtain ⟨G1,s1,bm,a2,bi,aU,D⟩:=bb x G s aF _ r h aS g;obtain ⟨aE,s2,bl,aH,bs,aV,C⟩:=bc (bi d) G1 s1 aj _ r D.rel (D.GR d aj aT) aU;have a4:hv F aE s2 w a2:=D.er.eY C.eY;have aN:∀b∈aH.ae,b∉a2.ae:=D.er.c6 C.js
   refine ⟨aE,s2,_,.eE a2 aH,_,aV,C.rel,⟨rfl,aF,aj,rfl,a1.len _ _ _ _ D.fa,C.cons _ _ _ _ D.fa,C.fa⟩,⟨?_,?_,?_⟩,?_,D.eY.trans C.eY,λe av am=>C.GR _ _ (D.GR e av am),λe bg aQ av am=>C.cons _ _ _ _ (D.cons e bg aQ av am),λd y J=>C.vr _ _ (D.vr d y J),ub D.ej C.ej⟩;simp only [FT.ae,cv];exact ⟨a4.b7,C.er.b7,λb l c aI e=>aN c aI (e▸l)⟩;intro b l;rcases bp.1 l with l|l
   exact a4.out b l;exact C.er.out b l;intro b l;rcases bp.1 l with l|l
   exact a4.bQ b l;exact C.er.bQ b l;intro b l;rcases bp.1 l with l|l
   exact D.js b l;exact (ps.eY D.eY C.js) b l
  |ad W x=>exact ak _ W x G s cs k r h j (by simpa [ck] using g)
  |_=>simp [ck] at g
 |slice t _=>
  intro v G s cs k r h j g;cases v with
  |nil=>
   simp only [ck] at g;obtain rfl:=j;exact ⟨G,s,_,.node none 0 [],id,g,.still h ⟨rfl,none,0,[],rfl,rfl,cV _,by simp [eL],rfl,rfl⟩ rfl (me rfl)⟩
  |ad W x=>exact ak _ W x G s cs k r h j (by simpa [ck] using g)
  |sl b p=>
   simp only [ck] at g;split at g;rename_i J;refine ⟨G,s,.sl b p,.leaf,id,g,.still h ⟨rfl,rfl,rfl,j⟩ rfl ?_⟩;obtain ⟨aK,K,cap,U,a',_,rfl⟩:=j;exact me rfl;rename_i J;unfold b5 at g;split at g;rename_i x O;have J:aM.dC p=false\/x.cn=true:=by
    grind [St.gq]
   obtain ⟨ay,a6,a5⟩:=(h.box b x O).fa;obtain ⟨c',u,aR,a',aG,I,al,az,a0⟩:=a1.get x.c x.ty (G b).ft ay ((G b).bj.map (·,0)) p _ r a6 (λq o e=>(a5 q o e).1) g;split at I;rename_i bh y;split at I;cases I;rename_i X;simp only [fC,hp,pq,gN,uO,jf] at X;obtain ⟨X,rfl⟩:=X;obtain ⟨aj,aa,aB,au,ag,af,ah,rfl,ar,ao⟩:=h.move O X J rfl rfl (by rw [fu O];exact al) az a0 I;obtain ⟨aK,K,cap,U,aL,ab,rfl⟩:=j;rw [fu O,al] at ab;simp only [aX,bk] at ab;obtain ⟨_,rfl,_⟩:=ab;have aW:aG=[.slice (K.map (⟨·,0,none⟩)) U.length cap]:=by
    obtain ⟨aO,aP,bd,aD,be,_,_,bf,_⟩:=ah;simp_all
   rw [aW] at ah;obtain ⟨ap,aq⟩:=Vq (w:=w) (R:=F.R) af;exact ⟨aa,_,_,_,_,aB,au,⟨rfl,ah⟩,ag,ao,ar,ap,aq,λd y J=>VR.aw af (λ_ _=>rfl) J,me rfl⟩;cases I;cases g
  |slw b p lo n=>
   simp only [ck] at g;split at g;cases g;rename_i aJ;simp only [fC,gN,jf,Bool.not_eq_false'] at aJ;obtain ⟨J,a8⟩:=aJ;have a8:lo=0:=gj (by simpa using a8);subst a8;unfold b5 at g;split at g;rename_i x O;obtain ⟨ay,a6,a5⟩:=(h.box b x O).fa;obtain ⟨c',u,aR,a',aG,I,al,az,a0⟩:=a1.get x.c x.ty (G b).ft ay ((G b).bj.map (·,0)) p _ r a6 (λq o e=>(a5 q o e).1) g;split at I;rename_i bh y;split at I;cases I;rename_i X;have X:x.dD=false:=by simpa using X
   split at I;rename_i z aZ;obtain ⟨am,aA⟩:=eO aZ;subst am;have aA:y=z:=aA;subst aA;obtain ⟨aj,aa,aB,au,ag,af,ah,rfl,ar,ao⟩:=h.move O X (.inl J) rfl rfl (by rw [fu O];exact al) az a0 I;obtain ⟨aK,K,cap,U,aL,ab,bn,a3,c3,rfl,⟨aI,ba⟩,_⟩:=j;rw [fu O,al] at ab;simp only [aX,bk] at ab;obtain ⟨_,rfl,_⟩:=ab;obtain ⟨rfl,rfl⟩:=ba rfl;obtain ⟨aO,aP,bd,aD,be,bf,bo,bq,br⟩:=ah;simp only [FT.node.injEq] at aD;obtain ⟨rfl,rfl,rfl⟩:=aD;have a9:∀q∈(FT.node K c3 (U.take n)).ae,q∈(FT.node K c3 U).ae:=λq ac=>(Wa K c3 U n).subset ac
   have a7:List.length (α:=t.ai) (List.take (α:=t.ai) n y)=n:=by
    grind
   obtain ⟨ap,aq⟩:=Vq (w:=w) (R:=F.R) af;refine ⟨aa,_,_,.node K c3 (U.take n),_,aB,au,⟨rfl,K,c3,U.take n,rfl,?_,?_,?_,?_,?_⟩,⟨?_,λq ac=>ag.out q (a9 q ac),λq ac=>ag.bQ q (a9 q ac)⟩,λq ac=>ao q (a9 q ac),ar,ap,aq,λd y J=>VR.aw af (λ_ _=>rfl) J,me rfl⟩;rw [a7];rw [a7];omega;rw [a7];omega;simp_all
   grind
   have aY:=ag.b7;exact List.Nodup.sublist (Wa K c3 U n) aY;cases I;cases I;cases g
  |_=>simp [ck] at g
 |unit=>
  intro v G s cs k r h j g;cases v with
  |unit=>exact ⟨G,s,.unit,.leaf,id,by simpa [ck] using g,.still h ⟨rfl,rfl,j⟩ rfl (by rw [show cs=[] from j];intro v j;cases j)⟩
  |ad W x=>exact ak _ W x G s cs k r h j (by simpa [ck] using g)
  |_=>simp [ck] at g
 |bG=>
  intro v G s cs k r h j g;cases v with
  |ad W x=>exact ak _ W x G s cs k r h j (by simpa [ck] using g)
  |ref b p=>
   refine ⟨G,s,.ref b p,.leaf,id,by simpa [ck] using g,.still h ⟨rfl,rfl,rfl,j⟩ rfl ?_⟩;obtain ⟨_,_,_,_,_,rfl⟩:=j;exact me rfl
  |bw u x=>
   refine ⟨G,s,.bw u x,.leaf,id,by simpa [ck] using g,.still h ⟨rfl,rfl,rfl,j⟩ rfl ?_⟩;obtain ⟨_,_,_,rfl,_⟩:=j;exact me rfl
  |bY f c=>
   refine ⟨G,s,.bY f c,.leaf,id,by simpa [ck] using g,.still h ⟨rfl,rfl,rfl,j⟩ rfl ?_⟩;obtain ⟨_,_,rfl⟩:=j;exact me rfl
  |mp b=>
   refine ⟨G,s,.mp b,.leaf,id,by simpa [ck] using g,.still h ⟨rfl,rfl,rfl,j⟩ rfl ?_⟩;obtain ⟨_,_,_,_,_,_,rfl⟩:=j;exact me rfl
  |_=>simp [ck] at g
 |_=>
  intro v G s cs k r h j g;cases v with
  |ad W x=>exact ak _ W x G s cs k r h j (by simpa [ck] using g)
  |_=>simp [ck] at g
end
theorem Xw (w:World) (b o:Nat) (v:Value) (c:Nat):(w.setCell ⟨b,o,none⟩ v).heap[c]?=if b=c then (w.heap[c]?).map (λx=>match x with
 | .cells cs elem fz=>.cells (cs.setIfInBounds o v) elem fz
 |x=>x) else w.heap[c]?:=by
 simp only [World.setCell,Array.getElem?_modify]
 grind
theorem Ns (b:Nat):∀(vs:List Value) (o:Nat) (w:World),(w.setCells b o vs).heap.size=w.heap.size
 |[],_,_=>rfl
 |v::r,o,w=>by rw [World.setCells,Ns b r (o+1)];simp
theorem No (b:Nat):∀(vs:List Value) (o:Nat) (w:World),(w.setCells b o vs).os=w.os
 |[],_,_=>rfl
 |v::vs,o,w=>by
  show ((w.setCell ⟨b,o,none⟩ v).setCells b (o+1) vs).os=w.os;rw [No b vs (o+1)];rfl
theorem Nq (b:Nat):∀(vs:List Value) (o:Nat) (w:World),(w.setCells b o vs).output=w.output
 |[],_,_=>rfl
 |v::vs,o,w=>by
  show ((w.setCell ⟨b,o,none⟩ v).setCells b (o+1) vs).output=w.output;rw [Nq b vs (o+1)];rfl
theorem Np (b:Nat):∀(vs:List Value) (o:Nat) (w:World) (c:Nat),c≠b->(w.setCells b o vs).heap[c]?=w.heap[c]?
 |[],_,_,_,_=>rfl
 |v::r,o,w,c,h=>by rw [World.setCells,Np b r (o+1) _ c h,Xw,au (kM h)]
def Nr (b:Nat):∀(vs:List Value) (o:Nat) (w:World) (row:Array Value) (e:TypeId) (fz:Nat×Nat),w.heap[b]?=some (.cells row e fz)->o+vs.length<=row.size->
 ∃c,(w.setCells b o vs).heap[b]?=some (.cells c e fz)/\c.toList=row.toList.take o++vs++row.toList.drop (o+vs.length)
 |[],o,w,row,e,fz,h,d=>⟨row,h,by simp⟩
 |v::r,o,w,row,e,fz,h,d=>by
  have f:(w.setCell ⟨b,o,none⟩ v).heap[b]?=some (.cells (row.setIfInBounds o v) e fz):=by
   rw [Xw,ay rfl,h];rfl
  have q:o+(r.length+1)<=row.toList.length:=by simpa using d
  have u:o+(r.length+1)<=row.size:=by simpa using d
  obtain ⟨c,g,j⟩:=Nr b r (o+1) _ _ e fz f (by simp;omega);refine ⟨c,g,?_⟩;rw [j];simp only [Array.toList_setIfInBounds,jg];have l:o<row.toList.length:=by omega
  rw [List.take_set,List.drop_set];rw [ay (by omega)];have x:(row.toList.take (o+1)).set o v=row.toList.take o++[v]:=by
   rw [List.take_succ_eq_append_getElem l];have n:(row.toList.take o).length=o:=by grind
   simp_all
  grind
def aqb {w:World} {b o n:Nat} {row:Array Value} {e:TypeId} {cs:List Value} (h:w.heap[b]?=some (.cells row e (0,0))) (c:o+n<=row.size) (g:cs.length=n):
 Wr w (w.setCells b o cs) b o n cs:=by
 subst g;obtain ⟨j,d,f⟩:=Nr b cs o w row e (0,0) h c;exact ⟨rfl,row,j,e,(0,0),h,d,c,f⟩
def aom {w:World} {b o n:Nat} {row:Array Value} {e:TypeId} (h:w.heap[b]?=some (.cells row e (0,0))) (d:o+n<=row.size):w.there b o n:=by
 intro j c
 grind [World.cell?,World.frozen?]
theorem Xb {w:World} {b o n:Nat} {cs:List Value} (h:At w b o n cs):w.rangeAt b o cs:=by
 intro j v f;obtain ⟨row,e,fz,c,d,rfl⟩:=h
 grind [World.cell?]
theorem bd.qy {w:World}:∀(t:Ty) (x:t.ai) (ft:FT) (cs:List Value) (a:Option (Nat×Nat)) (p:aM) {u:Ty} {v:FT} {j off:Nat},
 bd w t x ft cs->(∀b o,a=some (b,o)->lN w b o t.size)->ak t ft a p=some (u,v,some (j,off))->lN w j off u.size:=by
 intro t;have am:∀(t:Ty) (ft:FT) (a:Option (Nat×Nat)) {u:Ty} {v:FT} {j off:Nat},(∀b o,a=some (b,o)->lN w b o t.size)->ak t ft a []=some (u,v,some (j,off))->lN w j off u.size:=by
  grind [ak]
 induction t with
 |cons t r K aa=>
  intro x ft cs a p u v j off h z g
  match p,g with
  |[],g=>grind
  | .i n::p,g=>simp [ak] at g
  | .f 0::p,g=>
   obtain ⟨_,O,U,rfl,D,I⟩:=h;exact K x.1 _ O a p D (λb o e=>let ⟨row,y,l,C⟩:=z b o e;⟨row,y,l,by simp only [Ty.size] at C;omega⟩) g
  | .f (n+1)::p,g=>
   obtain ⟨_,O,U,rfl,D,I⟩:=h;refine aa x.2 _ U (a.map λ(x:Nat×Nat)=>(x.1,x.2+t.size)) (.f n::p) I (λb o e=>?_) (by simpa only [ak] using g);cases a with
   |none=>cases e
   |some a=>
    simp only [dn,aX,bk] at e;obtain ⟨rfl,rfl⟩:=e;obtain ⟨row,y,l,C⟩:=z _ _ rfl;exact ⟨row,y,l,by simp only [Ty.size] at C;omega⟩
 |slice t K=>
  intro x ft cs a p u v j off h z g
  match p,g with
  |[],g=>grind
  | .f n::p,g=>simp [ak] at g
  | .i n::p,g=>
   obtain ⟨b,cap,al,rfl,rfl,D,I,ae,h4⟩:=h;cases b with
   |none=>simp [ak] at g
   |some b=>
    simp only [ak] at g;split at g;rename_i kn hk;have J:n<List.length (α:=t.ai) x:=by grind
    have X:(show List t.ai from x)[n]?=some ((show List t.ai from x)[n]'J):=ba J;obtain ⟨c,ag,W⟩:=h4.2 n _ kn X hk;refine K _ kn c (some (b,n*t.size)) p W (λac an e=>?_) g;simp only [aX,bk] at e;obtain ⟨rfl,rfl⟩:=e;obtain ⟨⟨row,e,l,C⟩,_⟩:=h4;refine ⟨row,e,l,?_⟩;have:=jM t.size (Nat.le_trans (uU J) D)
    grind
    cases g
 |arr m t _=>
  intro x ft cs a p u v j off h z g
  match p,g with
  |[],g=>grind
  | .f n::p,g=>simp [ak] at g
  | .i n::q::p,g=>simp [ak] at g
  |[.i n],g=>
   obtain ⟨_,ab⟩:=fR _ _ _ _ g;rcases ab with ⟨ad,ao,e0,aj,_⟩|⟨d,e0,ah⟩
   have af:=h.2.2.1;simp_all;cases a with
   |none=>cases e0
   |some a=>
    simp only [dn,aX,bk] at e0;obtain ⟨rfl,rfl⟩:=e0;obtain ⟨row,y,l,C⟩:=z _ _ rfl;exact ⟨row,y,l,by omega⟩
 |_=>
  grind [ak]
theorem a1.qy {A:b0} {w:World} {R:Nat->Prop}:∀(c:TV) (t:Ty) (ft:FT) (cs:List Value) (a:Option (Nat×Nat)) (p:aM) {u:Ty} {z:FT} {l off:Nat},
 a1 A w R c t ft cs->(∀b o,a=some (b,o)->lN w b o t.size)->ak t ft a p=some (u,z,some (l,off))->lN w l off u.size:=by
 have nb:∀(t:Ty) (ft:FT) (a:Option (Nat×Nat)) (p:aM) {u:Ty} {z:FT} {l off:Nat},ft.ae=[]->(∀b o,a=some (b,o)->lN w b o t.size)->ak t ft a p=some (u,z,some (l,off))->lN w l off u.size:=by
  intro t ft a p u z l off ac j g;obtain ⟨_,aw⟩:=fR _ _ _ _ g;rcases aw with ⟨C,K,e0,J,_⟩|⟨d,e0,a2⟩
  rw [ac] at J;cases J;cases a with
  |none=>cases e0
  |some a=>
   simp only [dn,aX,bk] at e0;obtain ⟨rfl,rfl⟩:=e0;obtain ⟨row,D,O,U⟩:=j _ _ rfl;exact ⟨row,D,O,by omega⟩
 intro c
 induction c with
 |ab u x=>intro t ft cs a p u z l off h j g;obtain ⟨rfl,h⟩:=h;exact bd.qy _ _ _ _ _ _ h j g
 |cons c d ar au=>
  intro t ft cs a p u z l off h j g;cases t<;>try exact h.elim
  rename_i t r;obtain ⟨_,ah,ai,rfl,a3,I,af⟩:=h
  match p,g with
  |[],g=>
   grind [ak]
  | .i n::p,g=>simp [ak] at g
  | .f 0::p,g=>exact ar _ _ ah a p I (λb o e=>let ⟨row,D,O,U⟩:=j b o e;⟨row,D,O,by simp only [Ty.size] at U;omega⟩) g
  | .f (n+1)::p,g=>
   refine au _ _ ai (a.map λ(x:Nat×Nat)=>(x.1,x.2+t.size)) (.f n::p) af (λb o e=>?_) (by simpa only [ak] using g);cases a with
   |none=>cases e
   |some a=>
    simp only [dn,aX,bk] at e;obtain ⟨rfl,rfl⟩:=e;obtain ⟨row,D,O,U⟩:=j _ _ rfl;exact ⟨row,D,O,by simp only [Ty.size] at U;omega⟩
 |ad v y=>intro t ft cs a p u z l off h j g;exact nb _ _ _ _ h.2.1 j g
 |unit=>intro t ft cs a p u z l off h j g;exact nb _ _ _ _ h.2.1 j g
 |un=>intro t ft cs a p u z l off h j g;exact nb _ _ _ _ h.1 j g
 |tup c _=>
  intro t ft cs a p u z l off h j g;cases t<;>try exact h.elim
  rename_i t;rcases fN.out h with ⟨xs,aa,rfl,b,cap,av,rfl,rfl,I,af,al,h4,h5⟩|⟨_,rfl,I⟩|⟨_,rfl,b,cap,av,rfl,ac,_,I,_,al,⟨row,e,W,X⟩,_⟩
  rotate_left;obtain ⟨ay,az,rfl,_⟩:=I.out
  match p,g with
  |[],g=>
   grind [ak]
  | .f n::p,g=>simp [ak] at g
  | .i n::p,g=>simp [ak] at g
  match p,g with
  |[],g=>
   grind [ak]
  | .f n::p,g=>simp [ak] at g
  | .i n::p,g=>
   simp only [ak] at g;split at g;rename_i kn hk;have an:kn.ae=[]:=y8.2 λax am=>by
    have:=eW (cz hk) am;simp_all
   have ao:=(b6.1 hk).1;refine nb _ _ _ _ an (λC K e0=>?_) g;simp only [aX,bk] at e0;obtain ⟨rfl,rfl⟩:=e0;refine ⟨row,e,W,?_⟩;rw [<-X];have:=jM t.size (show n+1<=cap by omega)
   grind
   cases g
  match p,g with
  |[],g=>
   grind [ak]
  | .f n::p,g=>simp [ak] at g
  | .i n::p,g=>
   cases b with
   |none=>simp [ak] at g
   |some b=>
    simp only [ak] at g;split at g;rename_i kn hk;have ao:=(b6.1 hk).1;obtain ⟨⟨row,e,W,X⟩,aj⟩:=h5;obtain ⟨q,a0,aq,ap⟩:=aj n _ kn _ (ba (show n<xs.length by omega)) hk (ba (show n<aa.length by omega));have J:∀C K,some (b,n*t.size)=some (C,K)->lN w C K t.size:=λC K e0=>by
     simp only [aX,bk] at e0;obtain ⟨rfl,rfl⟩:=e0;refine ⟨row,e,W,?_⟩;rw [<-X];have:=jM t.size (show n+1<=cap by omega)
     grind
    cases ag:aa[n]'(by omega);exact bd.qy _ _ _ _ _ _ (aq ag) J g;exact nb _ _ _ _ (ed.nil _ _ _ _ (ap ag)) J g;cases g
 |nil=>intro t ft cs a p u z l off h j g;exact nb _ _ _ _ h.2.2.1 j g
 |ref _ _=>intro t ft cs a p u z l off h j g;exact nb _ _ _ _ h.2.2.1 j g
 |sl _ _=>intro t ft cs a p u z l off h j g;exact nb _ _ _ _ h.2.2.1 j g
 |slw _ _ _ _=>intro t ft cs a p u z l off h j g;exact nb _ _ _ _ h.2.2.1 j g
 |bw _ _=>intro t ft cs a p u z l off h j g;exact nb _ _ _ _ h.2.2.1 j g
 |bY _ _ _=>intro t ft cs a p u z l off h j g;exact nb _ _ _ _ h.2.2.1 j g
 |mp _=>intro t ft cs a p u z l off h j g;exact nb _ _ _ _ h.2.2.1 j g
section
variable {Z:Type} {F:Fr} {G:Nat->Gh} {s:St} {a:Act} {w:World}
theorem Eo {i:Nat} {x:bl} (b:s.box i=some x) (c:TV) (j:Nat):
 (s.b4 i {x with c:=c}).box j=if j=i then some (x.with c) else (s.box j).map λy=>y.with y.c:=by
 rw [kk s i _ x b];by_cases e:j=i;subst e;simp [bl.with];simp only [kM e,c2,e];cases s.box j<;>rfl
theorem aC.qy (h:aC F G s a w) {b:Nat} {p:aM} {u:Ty} {j:FT} {d off:Nat} (c:ax s.box G b p=some (u,j,some (d,off))):lN w d off u.size:=by
 unfold ax at c;split at c;rename_i x r;have n:=h.box b x r;obtain ⟨z,q,o⟩:=n.fa;refine a1.qy _ _ _ _ _ _ q (λf v e=>?_) c;obtain ⟨l,row,g,y,C,rfl⟩:=o f v e;exact ⟨row,g,y,by have:=l.len;grind⟩;cases c
def aC.ZS (h:aC F G s a w) {b:Nat} {p:aM} {x:bl} (O:s.box b=some x) {u:Ty} {K f:FT} {l off:Nat} {cs:List Value} {c:TV}
 (ai:ax s.box G b p=some (u,K,some (l,off))) (z:a1 (ax s.box G) w F.R c u f cs) (ad:hv F G s w f)
 (kl:TV->TV) (s2:St) (c':TV)
 (ba:∀n,s2.get n=kl (s.get n)) (bf:∀i n,s2.fZ i n=kl (s.fZ i n)) (bb:s2.sv.length=s.sv.length) (al:∀j,s2.box j=if j=b then some (x.with (kl c')) else (s.box j).map λy=>y.with (kl y.c))
 (aK:∀(A':b0) (w':World),(A'=ax s2.box (λj=>if j=b then ⟨(G b).bj,bC x.ty (G b).ft p f⟩ else G j))->(∀b,F.R b->w'.heap[b]?=w.heap[b]?)->∀v y,VR (ax s.box G) w F.R v y->VR A' w' F.R (kl v) y)
 (aj:∀(A':b0) (w':World),(A'=ax s2.box (λj=>if j=b then ⟨(G b).bj,bC x.ty (G b).ft p f⟩ else G j))->(∀b,F.R b->w'.heap[b]?=w.heap[b]?)->
  ∀c t ft cs,(∀b∈ft.ae,w'.heap[b]?=w.heap[b]?)->a1 (ax s.box G) w F.R c t ft cs->a1 A' w' F.R (kl c) t ft cs)
 (aJ:∀{Y:Type} (k':TV->Option Y),bP (kl x.c) p (kl c) k'=k' (kl c')):
 aC F (λj=>if j=b then ⟨(G b).bj,bC x.ty (G b).ft p f⟩ else G j) s2 a (w.setCells l off cs):=by
 have C:ak x.ty (G b).ft ((G b).bj.map (·,0)) p=some (u,K,some (l,off)):=by rw [<-fu O];exact ai
 obtain ⟨s1,aF⟩:=fR _ _ _ _ C;have a8:=h.b7 b x O;have bt:=h.bQ b x O;simp only [Gh.ae,cv] at a8;obtain ⟨bu,aD,bv⟩:=a8;obtain ⟨a4,aW,aR⟩:=(h.box b x O).fa;have an:l∈(G b).ae:=by
  simp only [Gh.ae,bp];rcases aF with ⟨a0,bi,e0,I,_⟩|⟨d,e0,_⟩
  simp_all;cases al:(G b).bj with
  |none=>rw [al] at e0;cases e0
  |some a0=>simp_all
 obtain ⟨row,e,bm,bn⟩:=h.qy ai;have bc:=a1.len _ _ _ _ z;have a6:Wr w (w.setCells l off cs) l off u.size cs:=aqb bm bn bc;have W:∀c,c≠l->(w.setCells l off cs).heap[c]?=w.heap[c]?:=λc z=>Np l cs off w c z
 have af:∀c,F.R c->(w.setCells l off cs).heap[c]?=w.heap[c]?:=λc z=>W c (λe=>h.ro O z (e▸an))
 have bd:l∉f.ae:=λI=>ad.out l I b x O an
 have a9:(w.setCells l off cs).heap.size=w.heap.size:=Ns _ _ _ _;have be:l∉K.ae:=by
  rcases aF with ⟨a0,bi,e0,I,_⟩|⟨d,e0,_⟩
  simp only [aX,bk] at e0;obtain ⟨rfl,rfl⟩:=e0;have:∀(t:Ty) (ft:FT) (a:Option (Nat×Nat)) (p:aM) {u:Ty} {K:FT} {l off:Nat},ak t ft a p=some (u,K,some (l,off))->ft.ae.Nodup->(∀b o,a=some (b,o)->b∉ft.ae)->l∉K.ae:=by
   intro t
   induction t with
   |cons t r aq bg=>
    intro ft a p u K l off g D ah;have h4:ft.fst.ae.Nodup/\ft.snd.ae.Nodup:=by
     cases ft with
     |eE a d=>simp only [FT.ae,cv] at D;exact ⟨D.1,D.2.1⟩
     |_=>simp [FT.fst,FT.snd,FT.ae]
    match p,g with
    |[],g=>grind [ak]
    | .f 0::p,g=>exact aq _ _ _ g h4.1 (λb o e I=>ah b o e (i2 I))
    | .f (n+1)::p,g=>
     refine bg _ _ _ g h4.2 (λb o e I=>?_);cases a with
     |none=>cases e
     |some a=>grind [jc]
    | .i n::p,g=>simp [ak] at g
   |slice t aq=>
    intro ft a p u K l off g D ah
    match p,g with
    |[],g=>grind [ak]
    | .f n::p,g=>simp [ak] at g
    | .i n::p,g=>
     match ft,g,D with
     | .leaf,g,_=>simp [ak] at g
     | .eE _ _,g,_=>simp [ak] at g
     | .node none _ _,g,_=>simp [ak] at g
     | .node (some b) cap bh,g,D=>
      simp only [ak] at g;split at g;rename_i kn hk;simp only [FT.ae,hs,gM,jh] at D;refine aq _ _ _ g (qc hk D.2).1 (λaa av e I=>?_);simp only [aX,bk] at e;obtain ⟨rfl,rfl⟩:=e;exact D.1 (eW (cz hk) I);cases g
   |arr m t _=>
    intro ft a p u K l off g D ah
    match p,g with
    |[],g=>grind [ak]
    | .f n::p,g=>simp [ak] at g
    | .i n::q::p,g=>simp [ak] at g
    |[.i n],g=>
     grind [ak,FT.ae]
   |_=>
    grind [ak]
  exact this _ _ _ _ C aD (λaa av e I=>by
   cases am:(G b).bj with
   |none=>rw [am] at e;cases e
   |some a2=>grind)
  cases am:(G b).bj with
  |none=>simp_all
  |some a2=>
   grind
 let az:Nat->Gh:=λj=>if j=b then ⟨(G b).bj,bC x.ty (G b).ft p f⟩ else G j
 have aY:a1 (ax s2.box az) w F.R (kl x.c) x.ty (G b).ft a4:=aj _ w rfl (λ_ _=>rfl) _ _ _ _ (λ_ _=>rfl) aW;have aU:a1 (ax s2.box az) (w.setCells l off cs) F.R (kl c) u f cs:=aj _ _ rfl af _ _ _ _ (λc z=>W c (λe=>bd (e▸z))) z;obtain ⟨bo,aG,aH,ag,br,aI⟩:=a1.set a6 aU (kl x.c) x.ty (G b).ft a4 ((G b).bj.map (·,0)) p (λc=>some c) (kl c') aY
  (λaa av a5=>by
   obtain ⟨aN,_⟩:=aR aa av a5;refine ⟨aN,λI=>?_,λap=>W aa ap⟩;cases am:(G b).bj with
   |none=>simp_all
   |some a2=>grind)
  aD C (aJ _) ⟨λc _ _ ap=>W c ap,be,af⟩
 obtain rfl:=b2 aH;refine h.core O ai kl rfl ba bf bb al (λv y U=>aK _ _ rfl af v y U) (λc t ft cs aL aV=>aj _ _ rfl af c t ft cs aL aV) ?_ ⟨Nat.le_of_eq a9.symm,No _ _ _ _,Nq _ _ _ _⟩ (λc _ z=>W c (λe=>z (e▸an))) ad.b7 (λc z=>.inr (ad.out c z)) (λc z=>by rw [a9];exact ad.bQ c z) (λ_ U=>by
  have J:=h.box b x O;unfold dw at J;rw [ay U] at J;obtain ⟨aT,⟨bw,aA⟩,_⟩:=J;rw [aT,aA] at C;rw [aA];cases p with
  |nil=>simp [ak] at C
  |cons q p=>
   cases q with
   |f n=>simp [ak] at C
   |i n=>
    cases ao:(G b).ft with
    |leaf=>rw [ao] at C;simp [ak] at C
    |eE _ _=>rw [ao] at C;simp [ak] at C
    |node a3 cap bh=>
     cases a3 with
     |none=>rw [ao] at C;simp [ak] at C
     |some a3=>
      simp only [bC];split<;>simp [FT.dy])
 unfold dw;have J:=h.box b x O;unfold dw at J;by_cases U:x.cn=true;rw [ay (show (x.with (kl c')).cn=true from U)];rw [ay U] at J;exact ⟨by simpa using J.1,J.2.1,aG,by simp only [cu];exact ag⟩;rw [au (show ¬(x.with (kl c')).cn=true from U)];rw [au U] at J;obtain ⟨ab,aE,e0,a7,aP,aQ,bs⟩:=J;have aO:=aI ab 0 (by rw [a7];rfl);obtain ⟨nu,a5,bq,aw,w2,rfl⟩:=aO;have aZ:∃X ac,(w.setCells l off cs).heap[ab]?=some (.cells X ac (0,0))/\X.size=aE.size:=by
  by_cases aS:ab=l;subst aS;obtain ⟨X,ac,ar,aB⟩:=a6.bF ⟨aE,e0,aP,rfl⟩
  grind
  grind
 obtain ⟨X,ac,ar,aB⟩:=aZ;rw [ar] at aw;simp only [aX,Obj.cells.injEq] at aw;obtain ⟨rfl,rfl,rfl⟩:=aw;refine ⟨ab,X,ac,by simp [a7],ar,by rw [aB];exact aQ,?_⟩;simp only [cu];rw [uP,List.take_of_length_le (by simp;omega)] at ag;exact ag
end
def eS:Ty->List Value
 | .int k=>[.int k 0]
 | .bool=>[.bool false]
 | .bR=>[.string ⟨#[]⟩]
 | .bG=>[.pointer none]
 | .slice _=>[.slice none 0 0]
 | .unit=>[]
 | .cons t r=>eS t++eS r
 | .arr n t=>(List.replicate n (eS t)).flatten
def Ld:Value->Value->Bool
 | .int k n,.int k' d=>decide (k=k')&&decide (n=d)
 | .bool b,.bool c=>b==c
 | .string s,.string e=>decide (s.data.toList=e.data.toList)
 | .slice none 0 0,.slice none 0 0=>true
 |_,_=>false
def to:List Value->List Value->Bool
 |[],[]=>true
 |a::l,b::r=>Ld a b&&to l r
 |_,_=>false
theorem ae0:∀{a b:Value},Ld a b=true->a=b:=by
 intro a b h;unfold Ld at h;split at h;simp_all;simp at h;rw [h];rename_i s c;have:s.data.toList=c.data.toList:=by simpa using h
 obtain ⟨⟨l⟩⟩:=s;simp_all;rfl;cases h
theorem Ut:∀{a b:List Value},to a b=true->a=b
 |[],[],_=>rfl
 |a::l,b::r,h=>by
  simp only [to,bt] at h;rw [ae0 h.1,Ut h.2]
 |[],_::_,h=>by simp [to] at h
 |_::_,[],h=>by simp [to] at h
def aqF:Value->Bool
 | .agg _=>true
 |_=>false
def ks (P:Program) (T:Ty) (t:TypeId):Bool:=
 match P.info? t with
 |some i=>i.size==T.size&&decide (i.bytes<=4096/\(T.size=0\/1<=i.bytes))&&(!T.fE||(match i.zero with
  |some z=>to z.cells.toList (eS T)&&(aqF z==T.agg)
  |none=>false))&&(!decide (T=.bG)||(match i.zero with
  |some z=>z.cells.toList.length==1
  |none=>false))
 |none=>false
mutual
def dH (P:Program):Ty->TypeId->Bool
 | .int k,t=>ks P (.int k) t&&(match P.underlying t with
  |some (.int k')=>decide (k=k')
  |_=>false)
 | .bool,t=>ks P .bool t&&(match P.underlying t with
  |some .bool=>true
  |_=>false)
 | .bR,t=>ks P .bR t&&(match P.underlying t with
  |some .string=>true
  |_=>false)
 | .bG,t=>ks P .bG t&&(match P.underlying t with
  |some (.pointer _)=>true
  |some (.func _ _ _)=>true
  |some (.map _ _)=>true
  |_=>false)
 | .slice T,t=>ks P (.slice T) t&&(match P.underlying t with
  |some (.slice e)=>dH P T e
  |_=>false)
 | .unit,t=>ks P .unit t&&(match P.underlying t with
  |some (.struct b)=>b.toList.isEmpty
  |_=>false)
 | .cons a r,t=>ks P (.cons a r) t&& !P.stoodInHeld t&& !P.eqGuardType P.depth t&&(match P.underlying t with
  |some (.struct b)=>match b.toList with
   |f::l=>f.offset==0&& !(a.size==0)&&(f.name != "_")&&dH P a f.type&&cK P r l a.size
   |[]=>false
  |_=>false)
 | .arr n T,t=>ks P (.arr n T) t&&T.aW&&(match P.underlying t with
  |some (.array m e)=>m==n&&dH P T e
  |_=>false)
def cK (P:Program):Ty->List Field->Nat->Bool
 | .unit,[],_=>true
 | .cons a r,f::l,o=>f.offset==o&& !(a.size==0)&&(f.name != "_")&&dH P a f.type&&cK P r l (o+a.size)
 |_,_,_=>false
end
abbrev bE (P:Program) (T:Ty) (t:TypeId):Prop:=dH P T t=true
def bE.head {P:Program} {T:Ty} {t:TypeId} (h:bE P T t):ks P T t=true:=by
 unfold bE at h;cases T<;>simp only [dH,bt] at h
 case cons=>exact h.1.1.1
 case arr=>exact h.1.1
 all_goals exact h.1
theorem bE.gT {P:Program} {T:Ty} {t:TypeId} (h:bE P T t):∃i,P.info? t=some i/\i.size=T.size/\i.bytes<=4096/\
 (T.fE=true->∃z,i.zero=some z/\z.cells.toList=eS T/\aqF z=T.agg):=by
 have:=h.head;unfold ks at this;split at this;rename_i i hi;simp only [bt,iS,nO,fC,hp] at this;obtain ⟨⟨⟨c,d⟩,b⟩,_⟩:=this;refine ⟨i,hi,c,d.1,λe=>?_⟩;rcases b with b|b
 rw [e] at b;cases b;split at b;rename_i z f;simp only [bt,iS] at b;exact ⟨z,f,Ut b.1,b.2⟩;cases b;cases this
theorem bE.bytes {P:Program} {T:Ty} {t:TypeId} (h:bE P T t) (b:T.size≠0):∃i,P.info? t=some i/\i.size=T.size/\1<=i.bytes:=by
 have:=h.head;unfold ks at this
 grind
def bE.bG {P:Program} {t:TypeId} (h:bE P .bG t):∃i z,P.info? t=some i/\i.zero=some z/\z.cells.toList.length=1:=by
 have:=h.head;unfold ks at this;split at this;rename_i i hi;simp only [bt] at this;obtain ⟨_,b⟩:=this;simp only [decide_true,Bool.not_true,kH] at b;split at b;simp_all;cases b;cases this
theorem bE.slice {P:Program} {T:Ty} {t:TypeId} (h:bE P (.slice T) t):∃e,P.underlying t=some (.slice e)/\bE P T e:=by
 unfold bE at h;simp only [dH,bt] at h
 grind
theorem bE.arr {P:Program} {n:Nat} {T:Ty} {t:TypeId} (h:bE P (.arr n T) t):∃e,P.underlying t=some (.array n e)/\bE P T e/\T.aW=true:=by
 unfold bE at h;simp only [dH,bt] at h
 grind
def ew:Ty->Nat->Nat
 | .cons t r,n+1=>t.size+ew r n
 |_,_=>0
def afW {P:Program}:∀(T:Ty) (l:List Field) (o n:Nat) (u:Ty),cK P T l o=true->cD T [.f n]=some u->
 ∃f,l[n]?=some f/\f.offset=o+ew T n/\u.size≠0/\bE P u f.type:=by
 intro T
 induction T with
 |cons a r _ y=>
  intro l o n u h b;cases l with
  |nil=>simp [cK] at h
  |cons f l=>
   simp only [cK,bt,iS,hp,nN] at h;obtain ⟨⟨⟨⟨q,v⟩,_⟩,x⟩,h4⟩:=h;cases n with
   |zero=>
    simp only [cD,aX] at b;have b:a=u:=by omega
    subst b;exact ⟨f,rfl,by simp [ew,q],v,x⟩
   |succ n=>
    obtain ⟨g,c,d,e,j⟩:=y l _ n u h4 (by simpa [cD] using b);exact ⟨g,by simpa using c,by simp [ew,d];omega,e,j⟩
 |_=>intro l o n u h b;simp [cD] at b
theorem bE.struct {P:Program} {T:Ty} {t:TypeId} (h:bE P T t) {n:Nat} {u:Ty} (c:cD T [.f n]=some u):
 ∃b f,P.underlying t=some (.struct b)/\b[n]?=some f/\f.offset=ew T n/\u.size≠0/\bE P u f.type:=by
 cases T with
 |cons a r=>
  unfold bE at h;simp only [dH,bt] at h;obtain ⟨_,h⟩:=h;split at h;rename_i b d;split at h;rename_i f l e;simp only [bt,iS,hp,nN] at h;obtain ⟨⟨⟨⟨x,y⟩,_⟩,z⟩,h4⟩:=h;cases n with
  |zero=>
   have c:a=u:=by cases a<;>simpa [cD] using c
   subst c;exact ⟨b,f,d,by rw [<-qX,e];rfl,by simp [ew,x],y,z⟩
  |succ n=>
   obtain ⟨g,j,o,q,v⟩:=afW r l _ n u h4 (by simpa [cD] using c);exact ⟨b,g,d,by rw [<-qX,e];simpa using j,by simp [ew,o],q,v⟩
  cases h;cases h
 |_=>simp [cD] at c
theorem bE.row {P:Program} {T:Ty} {t:TypeId} (h:bE P T t):∃d,P.underlying t=some d/\d.isRow=T.agg:=by
 unfold bE at h;cases T<;>simp only [dH,bt] at h<;>obtain ⟨_,h⟩:=h<;>(split at h<;>first|exact ⟨_,by assumption,rfl⟩|cases h)
theorem aeh:∀(t:Ty) (ft:FT) (a:Option (Nat×Nat)) (p q:aM) {u:Ty} {f:FT} {a':Option (Nat×Nat)},ak t ft a p=some (u,f,a')->ak t ft a (p++q)=ak u f a' q:=by
 intro t
 induction t with
 |cons t r d l=>
  intro ft a p q u f a' h
  match p,h with
  |[],h=>simp only [ak,aX,bk] at h;simp_all
  | .f 0::p,h=>simp only [ak] at h;simp only [jJ,ak];exact d _ _ _ _ h
  | .f (n+1)::p,h=>simp only [ak] at h;simp only [jJ,ak];grind
  | .i n::p,h=>simp [ak] at h
 |slice t d=>
  intro ft a p q u f a' h
  match p,h with
  |[],h=>simp only [ak,aX,bk] at h;simp_all
  | .f n::p,h=>simp [ak] at h
  | .i n::p,h=>
   cases ft with
   |leaf=>simp [ak] at h
   |eE _ _=>simp [ak] at h
   |node j cap g=>
    cases j with
    |none=>simp [ak] at h
    |some b=>
     simp only [ak] at h;simp only [jJ,ak];cases hk:g[n]? with
     |none=>rw [hk] at h;cases h
     |some k=>grind
 |arr m t _=>
  intro ft a p q u f a' h
  match p,h with
  |[],h=>simp only [ak,aX,bk] at h;simp_all
  | .f n::p,h=>simp [ak] at h
  | .i n::s::p,h=>simp [ak] at h
  |[.i n],h=>
   cases q with
   |nil=>rw [gg,h];cases u<;>rfl
   |cons s q=>
    simp only [ak] at h;split at h;cases h
    ·rename_i c;simp only [aX,bk] at h;obtain ⟨rfl,rfl,rfl⟩:=h;simp only [fC,gN,jf] at c;have e:=c.1;simp only [jJ,dV,ak];cases t<;>first|(simp [Ty.agg] at e;done)|(cases s<;>simp [ak])
 |_=>
  intro ft a p q u f a' h;cases p with
  |nil=>simp only [ak,aX,bk] at h;simp_all
  |cons s p=>simp [ak] at h
theorem s9 {B:Nat->Option bl} {G:Nat->Gh} {b:Nat} {p q:aM} {u:Ty} {f:FT} {a:Option (Nat×Nat)} (h:ax B G b p=some (u,f,a)):ax B G b (p++q)=ak u f a q:=by
 unfold ax at*;split at h;exact aeh _ _ _ _ _ h;cases h
theorem mX {B:Nat->Option bl} {G:Nat->Gh} {b:Nat} {p:aM} {u:Ty} {f:FT} {a:Option (Nat×Nat)} {x:bl} (c:B b=some x) (h:ax B G b p=some (u,f,a)):cD x.ty p=some u:=by
 rw [fu c] at h;exact Sn _ _ _ _ h
section
variable {A:b0} {w:World} {R:Nat->Prop}
def im (A:b0) (b:Nat) (t:Ty) (ft:FT) (a:Option (Nat×Nat)) (p:aM) (n:Nat):Prop:=
 match t with
 | .cons t r=>∀m q,A b (p++.f (n+m)::q)=ak (.cons t r) ft a (.f m::q)
 | .unit=>True
 |t=>∀q,A b (p++q)=ak t ft a q
def im.head {b:Nat} {t r:Ty} {ft:FT} {a:Option (Nat×Nat)} {p:aM} {n:Nat} (h:im A b (.cons t r) ft a p n):im A b t ft.fst a (p++[.f n]) 0:=by
 unfold im;split;intro m q;have:=h 0 (.f m::q);simp only [q3,ak] at this;simpa using this;trivial;intro q;have:=h 0 q;simp only [q3,ak] at this;simpa using this
def im.tail {b:Nat} {t:Ty} {r:Ty} {ft:FT} {a:Option (Nat×Nat)} {p:aM} {n:Nat} (h:im A b (.cons t r) ft a p n) (e:r=.unit\/∃c d,r=.cons c d):
 im A b r ft.snd (a.map λx=>(x.1,x.2+t.size)) p (n+1):=by
 rcases e with rfl|⟨c,d,rfl⟩
 trivial;intro m q;have:=h (m+1) q;simp only [ak] at this
 grind
theorem im.Vb {b:Nat} {t:Ty} {ft:FT} {a:Option (Nat×Nat)} {p:aM} (h:∀q,A b (p++q)=ak t ft a q):im A b t ft a p 0:=by
 unfold im
 grind
theorem Z6:∀(t:Ty) (p:aM) (u:Ty),t.cC->cD t p=some u->u.cC:=by
 intro t
 induction t with
 |cons t r c d=>
  intro p u h b
  match p,b with
  |[],b=>simp only [cD,aX] at b;subst b;exact h
  | .f 0::p,b=>exact c p u h.1 b
  | .f (n+1)::p,b=>exact d (.f n::p) u h.2.1 b
  | .i n::p,b=>simp [cD] at b
 |slice t c=>
  intro p u h b
  match p,b with
  |[],b=>simp only [cD,aX] at b;subst b;exact h
  | .f n::p,b=>simp [cD] at b
  | .i n::p,b=>exact c p u h b
 |arr m t c=>
  intro p u h b
  match p,b with
  |[],b=>simp only [cD,aX] at b;subst b;exact h
  | .f n::p,b=>simp [cD] at b
  | .i n::s::p,b=>simp [cD] at b
  |[.i n],b=>
   simp only [cD] at b;split at b;cases b;simp only [aX] at b;subst b;exact h
 |_=>
  intro p u h b;cases p with
  |nil=>simp only [cD,aX] at b;subst b;exact h
  |cons s p=>simp [cD] at b
def y1:∀(t:Ty) (x:t.ai) (ft:FT) (cs:List Value) (b:Nat) (a:Option (Nat×Nat)) (p:aM) (n:Nat),t.cC->bd w t x ft cs->im A b t ft a p n->(t.aW=false->t.agg=false->n=0)->
 bH A w R (nB b t x p n) cs/\(nB b t x p n).agg=t.agg:=by
 intro t
 induction t with
 |cons t r C z=>
  intro x ft cs b a p n e h g _;simp only [nB];split;rename_i u;obtain ⟨f,rfl,_⟩:=bd.l0 u h;exact ⟨Rd.fW u f,rfl⟩;obtain ⟨_,j,l,rfl,f,o⟩:=h;refine ⟨⟨j,l,rfl,(C x.1 _ j b a _ 0 e.1 f g.head (λ_ _=>rfl)).1,(z x.2 _ l b _ p (n+1) e.2.1 o (g.tail e.2.2) (λq h4=>?_)).1⟩,rfl⟩;rcases e.2.2 with rfl|⟨c,d,rfl⟩
  simp [Ty.agg] at h4;simp [Ty.agg] at h4
 |slice t _=>
  intro x ft cs b a p n e h g y;obtain rfl:=y rfl rfl;obtain ⟨v,cap,D,rfl,rfl,f,o,q,h4⟩:=h;refine ⟨⟨t,v,cap,D,a,?_,by rw [q]⟩,rfl⟩;have:=g [];rw [gg] at this;exact this
 |unit=>intro x ft cs b a p n _ h _ _;exact ⟨h.2.2.2,rfl⟩
 |bG=>intro x ft cs b a p n _ h _ _;exact h.elim
 |int k=>intro x ft cs b a p n _ h _ _;exact ⟨⟨rfl,h.2.1,h.2.2.2⟩,rfl⟩
 |bool=>intro x ft cs b a p n _ h _ _;exact ⟨⟨rfl,h.2.1,h.2.2.2⟩,rfl⟩
 |bR=>intro x ft cs b a p n _ h _ _;exact ⟨⟨rfl,h.2.1,h.2.2.2⟩,rfl⟩
 |arr m t _=>
  intro x ft cs b a p n _ h _ _;simp only [nB];rw [ay h.1];exact ⟨⟨h.1,h.2.1,h.2.2.2⟩,rfl⟩
theorem aas:∀(c:TV) (t:Ty) (ft:FT) (cs:List Value) (b:Nat) (a:Option (Nat×Nat)) (p:aM) (n:Nat),t.cC->a1 A w R c t ft cs->im A b t ft a p n->(t.agg=false->n=0)->
 bH A w R (uK b c p n) cs/\(uK b c p n).agg=t.agg:=by
 intro c
 induction c with
 |ab u x=>
  intro t ft cs b a p n f h g l;obtain ⟨rfl,h⟩:=h;cases u with
  |cons u v=>exact y1 _ _ _ _ _ _ _ _ f h g (λ_ h=>(by simp [Ty.agg] at h))
  |unit=>exact ⟨h.2.2.2,rfl⟩
  |arr m u=>
   simp only [uK,nB];rw [ay h.1];exact ⟨⟨h.1,h.2.1,h.2.2.2⟩,rfl⟩
  |bG=>exact h.elim
  |slice u=>obtain rfl:=l rfl;exact y1 _ _ _ _ _ _ _ _ f h g (λ_ _=>rfl)
  |int _=>obtain rfl:=l rfl;exact y1 _ _ _ _ _ _ _ _ f h g (λ_ _=>rfl)
  |bool=>obtain rfl:=l rfl;exact y1 _ _ _ _ _ _ _ _ f h g (λ_ _=>rfl)
  |bR=>obtain rfl:=l rfl;exact y1 _ _ _ _ _ _ _ _ f h g (λ_ _=>rfl)
 |cons c d y z=>
  intro t ft cs b a p n f h g l;cases t<;>try exact h.elim
  obtain ⟨_,q,r,rfl,C,j,o⟩:=h;refine ⟨⟨q,r,rfl,(y _ _ q b a _ 0 f.1 j g.head (λ_=>rfl)).1,(z _ _ r b _ p (n+1) f.2.1 o (g.tail f.2.2) (λh4=>?_)).1⟩,rfl⟩;rcases f.2.2 with e|⟨_,_,e⟩<;>rw [e] at h4<;>simp [Ty.agg] at h4
 |ad u x=>intro t ft cs b a p n _ h _ _;obtain ⟨rfl,_,h⟩:=h;exact ⟨h,rfl⟩
 |unit=>intro t ft cs b a p n _ h _ _;obtain ⟨rfl,_,h⟩:=h;exact ⟨h,rfl⟩
 |un=>
  intro t ft cs b a p n _ h _ _;obtain ⟨_,_,j,o⟩:=h
  match cs,o with
  |[v],_=>exact ⟨⟨v,rfl⟩,j.symm⟩
 |tup c _=>
  intro t ft cs b a p n _ h _ _;cases t<;>try exact h.elim
  rcases fN.out h with ⟨_,_,rfl,_,_,_,_,rfl,_⟩|⟨_,rfl,j⟩|⟨_,rfl,_,_,_,_,_,rfl,_⟩
  exact ⟨⟨_,rfl⟩,rfl⟩;obtain ⟨_,_,_,rfl,_⟩:=j.out;exact ⟨⟨_,rfl⟩,rfl⟩;exact ⟨⟨_,rfl⟩,rfl⟩
 |nil=>intro t ft cs b a p n _ h _ _;exact ⟨h.2.2.2,h.2.1.symm⟩
 |ref _ _=>intro t ft cs b a p n _ h _ _;exact ⟨h.2.2.2,h.2.1.symm⟩
 |sl _ _=>intro t ft cs b a p n _ h _ _;exact ⟨h.2.2.2,h.2.1.symm⟩
 |slw _ _ _ _=>intro t ft cs b a p n _ h _ _;exact ⟨h.2.2.2,h.2.1.symm⟩
 |bw _ _=>intro t ft cs b a p n _ h _ _;exact ⟨h.2.2.2,h.2.1.symm⟩
 |bY _ _ _=>intro t ft cs b a p n _ h _ _;exact ⟨h.2.2.2,h.2.1.symm⟩
 |mp _=>intro t ft cs b a p n _ h _ _;exact ⟨h.2.2.2,h.2.1.symm⟩
end
section
variable {Z:Type} {P:Program} {E:an} {F:Fr} {G:Nat->Gh} {s:St} {a:Act} {w:World}
def cf (F:Fr) (k:St->Option Z) (r:Z) (a:Act) (w:World):Prop:=∃G s,aC F G s a w/\k s=some r
def oW (P:Program) (K:Ty) (t:TypeId):Bool:=match P.underlying t with
 |some (.map c b)=>dH P K c&&dH P (.int .i64) b&&(decide (K=.int .i64)||decide (K=.arr 2 (.int .i64)))
 |_=>false
structure lS (P:Program) (E:an):Prop where
 ty:∀t T,E.iN t=some T->bE P T t
 maps:∀t K,lk E.maps t=some K->oW P K t=true
structure dk (P:Program) (E:an) (F:Fr):Prop extends lS P E where
 nt:E.nt=F.nt
theorem bE.cC {P:Program}:∀(T:Ty) (t:TypeId),bE P T t->T.cC:=by
 have bo:∀(r:Ty) (l:List Field) (o:Nat),cK P r l o=true->r=.unit\/∃c d,r=.cons c d:=by
  intro r l o h;cases r<;>cases l<;>simp [cK] at h|-
 have q:∀(T:Ty),(∀(t:TypeId),bE P T t->T.cC)/\(∀l o,cK P T l o=true->T.cC):=by
  intro T
  induction T with
  |cons a r g j=>
   refine ⟨λt h=>?_,λl o h=>?_⟩;unfold bE at h;simp only [dH,bt] at h;obtain ⟨_,h⟩:=h;split at h;split at h;simp only [bt] at h;exact ⟨g.1 _ h.1.2,j.2 _ _ h.2,bo _ _ _ h.2⟩;cases h;cases h;cases l with
   |nil=>simp [cK] at h
   |cons f l=>
    simp only [cK,bt] at h;exact ⟨g.1 _ h.1.2,j.2 _ _ h.2,bo _ _ _ h.2⟩
  |slice T b=>
   refine ⟨λt h=>?_,λl o h=>by grind⟩;obtain ⟨e,_,h⟩:=bE.slice h;exact b.1 _ h
  |arr n T b=>
   refine ⟨λt h=>?_,λl o h=>by grind⟩;obtain ⟨e,_,h,_⟩:=bE.arr h;exact b.1 _ h
  |_=>exact ⟨λt _=>trivial,λl o _=>trivial⟩
 grind
theorem cw (h:aC F G s a w) (x:Operand):VR (ax s.box G) w F.R (s.ev x) (a.eval x):=by
 cases x with
 |tmp t=>exact h.tmps t
 |global g=>exact .inl rfl
 |func f=>exact .inr ⟨_,⟨[],rfl,rfl⟩,rfl⟩
 |const v=>
  simp only [St.ev,Act.eval];unfold Lk;split;exact .inr ⟨_,⟨rfl,trivial,rfl⟩,rfl⟩;exact .inr ⟨_,⟨rfl,trivial,rfl⟩,rfl⟩;rename_i b;split;rename_i c;exact .inr ⟨_,⟨rfl,po c,rfl⟩,rfl⟩;exact .inl rfl;exact .inr ⟨_,rfl,rfl⟩;exact .inl rfl
theorem VR.cells {A:b0} {R:Nat->Prop} {v:TV} {x:Value} (h:VR A w R v x) (b:v≠ .un) (c:∀a,v≠ .tup a):∃cs,bH A w R v cs/\(if v.agg then x=.agg cs.toArray else cs=[x]):=by
 rw [mV c] at h;rcases h with h|h
 exact absurd h b;exact h
theorem dS {G:Nat->Gh} {s:St} {w:World} (h:aC F G s a w) (b:dk P E F) {o:Oper} {tv:TV} {v:Value} (f:VR (ax s.box G) w F.R tv v) (c:∀d,o.dst=some d->d<E.nt) {k:St->Option Z} {r:Z}
 (hk:dm o s k tv=some r):cf F k r (a.put o.dst v) w:=by
 unfold dm at hk;cases e:o.dst with
 |none=>rw [e] at hk;exact ⟨G,s,h,hk⟩
 |some d=>rw [e] at hk;exact ⟨G,_,h.put (by rw [<-b.nt];exact c d e) f,hk⟩
theorem c1 {o:Oper} {K:Act->World->Prop} {Q:Exit->Act->World->Prop} {v:Value} {w':World} (h:(execOp a.eval o).run P w=.ok (.value v) w') (b:K (a.put o.dst v) w'):o.wp P a w K Q:=by
 unfold Oper.wp;rw [h];exact b
def OC {o:Oper} {K:Act->World->Prop} {Q:Exit->Act->World->Prop} {w':World} (h:(execOp a.eval o).run P w=.ok .skip w') (b:K (a.put o.dst undef) w'):o.wp P a w K Q:=by
 unfold Oper.wp;rw [h];exact b
theorem VR.bool {A:b0} {R:Nat->Prop} {b:Bool} {x:Value} (h:VR A w R (.ad .bool b) x):x=.bool b:=by
 rcases h with h|⟨cs,c,d⟩
 cases h;have c:cs=bJ .bool b:=c.2.2;subst c;simpa [TV.agg,Ty.agg,bJ] using d.symm
theorem VR.int {A:b0} {R:Nat->Prop} {c:IntKind} {n:Int} {x:Value} (h:VR A w R (.ad (.int c) n) x):x=.int c n:=by
 rcases h with h|⟨cs,b,d⟩
 cases h;have b:cs=bJ (.int c) n:=b.2.2;subst b;simpa [TV.agg,Ty.agg,bJ] using d.symm
theorem VR.bR {A:b0} {R:Nat->Prop} {l:List UInt8} {x:Value} (h:VR A w R (.ad .bR l) x):x=.string ⟨l.toArray⟩/\l.length<=eL:=by
 rcases h with h|⟨cs,b,c⟩
 cases h;have d:cs=bJ .bR l:=b.2.2;subst d;exact ⟨by simpa [TV.agg,Ty.agg,bJ] using c.symm,b.2.1⟩
theorem pd {A:b0} {R:Nat->Prop} (b:Bool):VR A w R (.ad .bool b) (.bool b):=.inr ⟨_,⟨rfl,trivial,rfl⟩,rfl⟩
theorem gJ {A:b0} {R:Nat->Prop} (b:IntKind) (n:Int):VR A w R (.ad (.int b) n) (.int b n):=.inr ⟨_,⟨rfl,trivial,rfl⟩,rfl⟩
theorem Ox {A:b0} {R:Nat->Prop} {l:List UInt8} (h:l.length<=eL):VR A w R (.ad .bR l) (.string ⟨l.toArray⟩):=.inr ⟨_,⟨rfl,h,rfl⟩,rfl⟩
theorem dF {A:b0} {R:Nat->Prop} {v:TV} {cs:List Value} {x:Value} (h:bH A w R v cs) (d:if v.agg then x=.agg cs.toArray else cs=[x]):VR A w R v x:=by
 have c:∀b,v≠ .tup b:=by intro b e;subst e;exact h
 rw [mV c];exact .inr ⟨cs,h,d⟩
theorem VR.b3 {A:b0} {R:Nat->Prop} {v:TV} {x:Value} (h:VR A w R v x) (b:v≠ .un) (c:∀a,v≠ .tup a) (d:v.agg=false):bH A w R v [x]:=by
 obtain ⟨cs,h4,h5⟩:=h.cells b c;simp_all
variable {Q:Exit->Act->World->Prop}
def V0 (h:aC F G s a w) (c:dk P E F) {o:Oper} {x:Operand} (b:o.op=.move x\/o.op=.assign x) (e:∀d,o.dst=some d->d<E.nt) {k:St->Option Z} {r:Z} (hk:a8 E o s k=some r):
 o.wp P a w (cf F k r) Q:=by
 refine c1 (v:=a.eval x) (w':=w) (by unfold execOp;rcases b with b|b<;>rw [b]<;>rfl) (dS h c (cw h x) e ?_);unfold a8 at hk
 grind
def ajV (h:aC F G s a w) (g:dk P E F) {o:Oper} {c x y:Operand} (f:o.op=.pick c x y) (j:∀d,o.dst=some d->d<E.nt) {k:St->Option Z} {r:Z} (hk:a8 E o s k=some r):
 o.wp P a w (cf F k r) Q:=by
 unfold a8 at hk;rw [f] at hk;simp only at hk;have b:=cw h c;split at hk;rename_i t e;rw [e] at b;have b:=b.bool;cases t;refine c1 (v:=a.eval y) (w':=w) (by unfold execOp;rw [f];simp [b,asBool]) (dS h g (cw h y) j hk);refine c1 (v:=a.eval x) (w':=w) (by unfold execOp;rw [f];simp [b,asBool]) (dS h g (cw h x) j hk);cases hk
def aky {t:TypeId} {T:Ty} (j:bE P T t) (c:T.agg=false) {b o:Nat} {v:Value} (f:At w b o 1 [v]):
 (Instr.loadAt t (.pointer (some ⟨b,o,none⟩))).run P w=.ok v w:=by
 obtain ⟨d,l,h⟩:=j.row;rw [c] at h;have e:(isAgg t).run P w=.ok false w:=by
  unfold isAgg;rw [Sem.run_bind,run_underlying l w];cases d<;>simp_all
 have g:w.cell? ⟨b,o,none⟩=some v:=by simpa using Xb f 0 v rfl
 simp [Instr.loadAt,Instr.sureAddr,loadVar,e,g]
theorem Gc {t:TypeId} {T:Ty} (g:bE P T t) {b o:Nat} {cs:List Value} (c:At w b o T.size cs) (j:T.agg=false->T.size=1):
 ∃v,(Instr.loadAt t (.pointer (some ⟨b,o,none⟩))).run P w=.ok v w/\(if T.agg then v=.agg cs.toArray else cs=[v]):=by
 obtain ⟨d,n,h⟩:=g.row;obtain ⟨i,hi,l,_⟩:=g.gT;have f:=c.len;cases e:T.agg with
 |true=>exact ⟨_,run_loadAt_mid w b o t cs d (Xb c) n (by rw [h,e]) (by simp [hi,l,f]),rfl⟩
 |false=>
  rw [j e] at f c
  match cs,f with
  |[v],_=>exact ⟨v,aky g e c,rfl⟩
theorem ml:∀(T:Ty),T.agg=false->T.size=1:=by
 intro T h;cases T<;>first|rfl|(simp [Ty.agg] at h)
def ahp (h:aC F G s a w) (D:dk P E F) {o:Oper} {t:TypeId} {x:Operand} (J:o.op=.load t x) (X:∀d,o.dst=some d->d<E.nt) {k:St->Option Z} {r:Z} (hk:a8 E o s k=some r):
 o.wp P a w (cf F k r) Q:=by
 unfold a8 at hk;rw [J] at hk;simp only [dT] at hk;have f:=cw h x;split at hk;rename_i T ai;have aa:=D.ty t T ai;unfold ku at hk;split at hk;rename_i b p e;rw [e] at f;have f:=f.b3 (by simp) (by simp) rfl;obtain ⟨u,ft,C,off,n,l⟩:=f;simp only [gh,fK] at l;unfold b5 at hk;split at hk;rename_i bx j;dsimp only at hk;split at hk;rename_i z;have z:cD bx.ty p=some T:=e7 z;have g:=mX j n;rw [z] at g;obtain rfl:=b2 g;obtain ⟨ae,ak,aj⟩:=(h.box b bx j).fa;obtain ⟨c',u,W,a',ac,af,U,ag,ah⟩:=a1.get bx.c bx.ty (G b).ft ae ((G b).bj.map (·,0)) p _ r ak (λab o e=>(aj ab o e).1) hk;rw [fu j,U] at n;simp only [aX,bk] at n;obtain ⟨rfl,rfl,rfl⟩:=n;have I:=ah C off rfl;have al:=Z6 _ _ _ (h.cC b bx j) z;obtain ⟨v,K,O⟩:=Gc aa I (ml u);have am:im (ax s.box G) b u W (some (C,off)) p 0:=im.Vb (λq=>s9 (by rw [fu j];exact U));obtain ⟨ao,ap⟩:=aas c' u W ac b _ p 0 al ag am (λ_=>rfl);refine c1 (v:=v) (w':=w) (by unfold execOp;rw [J];simp [l,K]) (dS h D (dF ao (by rw [ap];exact O)) X af);cases hk;cases hk;rename_i u y e;rw [e] at f;have f:=f.b3 (by simp) (by simp) rfl;obtain ⟨C,off,c,l,aq,I,an⟩:=f;simp only [gh,fK] at l;split at hk;rename_i g;have g:u=T:=e7 g;subst g;obtain ⟨v,K,O⟩:=Gc aa I (ml u);exact c1 (v:=v) (w':=w) (by unfold execOp;rw [J];simp [l,K]) (dS h D (dF (v:=.ad u y) an O) X hk);cases hk;cases hk;cases hk
end
section
variable {Z:Type} {P:Program} {E:an} {F:Fr} {G:Nat->Gh} {s:St} {a:Act} {w w2:World} {Q:Exit->Act->World->Prop}
theorem lU {A:b0} {R:Nat->Prop}:∀(t:Ty) (c:TV) (f:FT) (cs:List Value) (x:t.ai),a1 A w R c t f cs->c.du t=some x->∃j:FT,j.ae=f.ae/\bd w t x j cs:=by
 have I:∀(t u:Ty) (y:u.ai) (f:FT) (cs:List Value) (x:t.ai),t.aW=true->a1 A w R (.ad u y) t f cs->cG u t y=some x->∃j:FT,j.ae=f.ae/\bd w t x j cs:=by
  intro t u y f cs x af g b;obtain ⟨rfl,rfl⟩:=eO b;obtain ⟨_,h,W⟩:=g;obtain ⟨aj,ak⟩:=Rd.aW af W;exact ⟨f,rfl,by rw [ak];exact bd.fW af aj h⟩
 have l:∀(t u:Ty) (y:u.ai) (f:FT) (cs:List Value) (x:t.ai),a1 A w R (.ab u y) t f cs->cG u t y=some x->∃j:FT,j.ae=f.ae/\bd w t x j cs:=by
  intro t u y f cs x g b;obtain ⟨rfl,rfl⟩:=eO b;exact ⟨f,rfl,g.2⟩
 intro t
 induction t with
 |int aq=>
  intro c f cs x g b;cases c with
  |ab u y=>exact l _ u y f cs x g (by simpa [TV.du] using b)
  |ad u y=>exact I _ u y f cs x rfl g (by simpa [TV.du] using b)
  |_=>simp [TV.du] at b
 |bool=>
  intro c f cs x g b;cases c with
  |ab u y=>exact l _ u y f cs x g (by simpa [TV.du] using b)
  |ad u y=>exact I _ u y f cs x rfl g (by simpa [TV.du] using b)
  |_=>simp [TV.du] at b
 |bR=>
  intro c f cs x g b;cases c with
  |ab u y=>exact l _ u y f cs x g (by simpa [TV.du] using b)
  |ad u y=>exact I _ u y f cs x rfl g (by simpa [TV.du] using b)
  |_=>simp [TV.du] at b
 |bG=>
  intro c f cs x g b;cases c with
  |ab u y=>exact l _ u y f cs x g (by simpa [TV.du] using b)
  |_=>simp [TV.du] at b
 |arr n t _=>
  intro c f cs x g b;cases c with
  |ab u y=>exact l _ u y f cs x g (by simpa [TV.du] using b)
  |_=>simp [TV.du] at b
 |slice t _=>
  intro c f cs x g b;cases c with
  |ab u y=>exact l _ u y f cs x g (by simpa [TV.du] using b)
  |nil=>
   simp only [TV.du] at b;obtain rfl:=b2 b;obtain ⟨_,_,h,X⟩:=g;exact ⟨.node none 0 [],by rw [h];rfl,none,0,[],rfl,X,cV _,bL _,rfl,rfl⟩
  |_=>simp [TV.du] at b
 |unit=>
  intro c f cs x g b;cases c with
  |ab u y=>exact l _ u y f cs x g (by simpa [TV.du] using b)
  |unit=>
   obtain ⟨_,h,X⟩:=g;exact ⟨f,rfl,rfl,trivial,h,X⟩
  |ad u y=>
   cases u with
   |unit=>
    obtain ⟨_,h,W⟩:=g;exact ⟨f,rfl,rfl,trivial,h,W.2.2⟩
   |_=>simp [TV.du] at b
  |_=>simp [TV.du] at b
 |cons t r ah ag=>
  intro c f cs x g b;cases c with
  |ab u y=>exact l _ u y f cs x g (by simpa [TV.du] using b)
  |cons a d=>
   simp only [TV.du] at b;split at b;rename_i ao J;split at b;rename_i ap K;obtain rfl:=b2 b;obtain ⟨al,o,q,rfl,_,O,U⟩:=g;obtain ⟨v,C,aa⟩:=ah a _ o _ O J;obtain ⟨z,D,ac⟩:=ag d _ q _ U K;exact ⟨.eE v z,by rw [al,<-C,<-D];rfl,rfl,o,q,rfl,aa,ac⟩;cases b;cases b
  |ad u y=>
   cases u with
   |cons an am=>
    simp only [TV.du] at b;split at b;rename_i ao J;split at b;rename_i ap K;obtain rfl:=b2 b;obtain ⟨e,h,o,q,rfl,O,U⟩:=g;simp only [Ty.cons.injEq] at e;obtain ⟨rfl,rfl⟩:=e;obtain ⟨v,C,aa⟩:=ah (.ad an y.1) .leaf o _ ⟨rfl,rfl,O⟩ J;obtain ⟨z,D,ac⟩:=ag (.ad am y.2) .leaf q _ ⟨rfl,rfl,U⟩ K;refine ⟨.eE v z,?_,rfl,o,q,rfl,aa,ac⟩;rw [h];show v.ae++z.ae=[];rw [C,D];rfl;cases b;cases b
   |_=>simp [TV.du] at b
  |_=>simp [TV.du] at b
def hv.cast {f b:FT} (h:hv F G s w f) (e:b.ae=f.ae):hv F G s w b:=
 ⟨by rw [e];exact h.b7,by rw [e];exact h.out,by rw [e];exact h.bQ⟩
def aim {A:b0} {R:Nat->Prop} (t:Ty) (p:aM) {c:TV} {f:FT} {cs:List Value} (h:a1 A w R c t f cs):∃d:FT,d.ae=f.ae/\a1 A w R (oY t p c) t d cs:=by
 unfold oY;split;split;split;rename_i y q;obtain ⟨d,b,o⟩:=lU t _ f cs y h q;exact ⟨d,b,rfl,o⟩
 grind
 grind
 split;rename_i e;obtain ⟨rfl,l,n⟩:=h;obtain ⟨g,j⟩:=Rd.aW e n;exact ⟨f,rfl,rfl,by rw [j];exact bd.fW e g l⟩
 grind
 grind
end
section
variable {Z:Type} {P:Program} {E:an} {F:Fr} {G:Nat->Gh} {s:St} {a:Act} {w:World} {Q:Exit->Act->World->Prop}
def akB {t:TypeId} {T:Ty} (h:bE P T t) {b o:Nat} {v:Value} {cs:List Value} (d:w.there b o T.size) (n:cs.length=T.size) (l:v.cells.toList=cs) (g:ej cs):
 (Instr.storeAt t (.pointer (some ⟨b,o,none⟩)) v).run P w=.ok () (w.setCells b o cs):=by
 obtain ⟨i,hi,q,_⟩:=h.gT;have c:=run_storeCells_cells (P:=P) b o cs 0 w (λj f=>by simpa using (d j (by omega)).1) (λj f=>by simpa using (d j (by omega)).2) g;have e:v.cells.size=i.size:=by grind
 simp only [q3] at c;simp [Instr.storeAt,Instr.sureAddr,storeVar,sizeOf,typeInfo,hi,e,l,c]
def xL {v:TV} {x:Value} {cs:List Value} (b:if v.agg then x=.agg cs.toArray else cs=[x]) (c:v.agg=false->x.oneCell'=true):x.cells.toList=cs:=by
 split at b;subst b;rfl;rename_i d;subst b;have:=c (by simpa using d);cases x<;>first|rfl|simp [Value.oneCell'] at this
def ZT (a4:dk P E F) {o:Oper} {t:TypeId} {x y:Operand} (a5:o.op=.store t x y) (ap:o.dst=none) {T:Ty} (au:bE P T t) {X:Nat} {aj:aM} (ay:bH (ax s.box G) w F.R (.ref X aj) [a.eval x]) {cs:List Value}
 (J:if (s.ev y).agg then a.eval y=.agg cs.toArray else cs=[a.eval y]) {ak:Nat->Gh} {j:St} {c:TV} {f:FT} {κ:TV->TV} {k:St->Option Z} {r:Z}
 (h:(match κ (.ref X aj) with
  | .ref b p=>b5 j b λx=>if (x.cn&&p.isEmpty)|| !decide (cD x.ty p=some T) then none else bP x.c p (oY T p c) λc'=>
   match c with
   | .ad u _=>if u.aW then k (j.b4 b {x with c:=c'}) else k ((j.b4 b {x with c:=c'}).aw b p)
   |_=>k ((j.b4 b {x with c:=c'}).aw b p)
  |_=>none)=some r) (g:s5 F G s a w κ T cs ak j c f):o.wp P a w (cf F k r) Q:=by
 have ao:(a.eval y).cells.toList=cs:=xL J (λI=>by
  rw [I] at J;simp only [ie,c2] at J;exact g.ej _ (by rw [J];simp))
 have ai:=g.GR _ _ ay
 try dsimp only at h
 split at h;rename_i b p al;rw [al] at ai;obtain ⟨u,a3,aa,off,l,az⟩:=ai;simp only [gh,fK] at az;unfold b5 at h;split at h;rename_i bx d
 try dsimp only at h
 split at h;cases h;rename_i ae;simp only [fC,hp,pq,gN,uO,jf] at ae;obtain ⟨a7,av⟩:=ae;have ah:=mX d l;rw [av] at ah;obtain rfl:=b2 ah;obtain ⟨row,e,a0,a2⟩:=g.rel.qy l;have a6:=akB au (v:=a.eval y) (aom a0 a2) (a1.len _ _ _ _ g.fa) ao g.ej;refine OC (w':=w.setCells aa off cs) (by unfold execOp;simp_all) ?_;have ar:a.put o.dst undef=a:=by rw [ap];rfl
 rw [ar];obtain ⟨K,am,ab⟩:=aim T p g.fa;have ac:=g.er.cast am;have a8:∀c',bP bx.c p (oY T p c) (λc'=>some c')=some c'->∀(ag:k ((j.b4 b {bx with c:=c'}).aw b p)=some r),cf F k r a (w.setCells aa off cs):=by
  intro c' an ag;obtain ⟨C,D,O⟩:=Nm b p bx.c p (oY T p c) _ _ an;obtain rfl:=b2 D;exact ⟨_,_,g.rel.ZS d l ab ac (λv=>v.aw b p) ((j.b4 b {bx with c:=C}).aw b p) C (λn=>x2 _ b p n) (yL _ b p) (yM _ b p) (k1 d C p)
   (λA' w' q z v y W=>by subst q;exact VR.aw (tf (f:=K) (kl:=λv=>v.aw b p) d l rfl (k1 d C p)) z W)
   (λA' w' q z c t ft cs I U=>by subst q;exact a1.aw (tf (f:=K) (kl:=λv=>v.aw b p) d l rfl (k1 d C p)) z c t ft cs I U) O,ag⟩
 obtain ⟨c',D,O⟩:=Nn bx.c p (oY T p c) _ r h;split at D;rename_i a9 aA;split at D;rename_i aq;obtain ⟨rfl,_,_⟩:=g.fa;have af:=ag6 (kl:=λv=>v) (f:=K) d l aq rfl (Eo d c');exact ⟨_,_,g.rel.ZS d l ab ac (λv=>v) (j.b4 b {bx with c:=c'}) c' (λn=>rfl) (λ_ _=>rfl) rfl (Eo d c')
  (λA' w' q z v y W=>by subst q;exact VR.mono af z W)
  (λA' w' q z c t ft cs I U=>by subst q;exact a1.mono af z c t ft cs I U) O,D⟩
 simp_all;simp_all;cases h;cases h
def Sp {A:b0} {R:Nat->Prop}:∀(t:Ty) (v:TV) (c:TV) (cs:List Value),bH A w R v cs->gA t v=some c->∃f:FT,f.ae=[]/\a1 A w R c t f cs/\ej cs:=by
 have ad:∀(t u:Ty) (x:u.ai) (c:TV) (cs:List Value),bH A w R (.ad u x) cs->(if decide (u=t) then some (TV.ad u x) else none)=some c->∃f:FT,f.ae=[]/\a1 A w R c t f cs/\ej cs:=by
  intro t u x c cs h g;split at g;rename_i e;have e:u=t:=e7 e;obtain rfl:=b2 g;exact ⟨.leaf,rfl,⟨e,rfl,h⟩,Rd.ej _ _ _ h⟩;cases g
 intro t
 induction t with
 |cons t u X aa=>
  intro v c cs h g;cases v with
  |cons x d=>
   simp only [gA] at g;obtain ⟨n,o,rfl,J,K⟩:=h;split at g;rotate_left;cases g;rename_i x' W;split at g;rotate_left;cases g;rename_i C O;obtain rfl:=b2 g;obtain ⟨D,q,l,a3⟩:=X x x' n J W;obtain ⟨I,r,y,z⟩:=aa d C o K O;exact ⟨.eE D I,by simp [FT.ae,q,r],⟨rfl,n,o,rfl,a1.len _ _ _ _ l,l,y⟩,ub a3 z⟩
  |ad j x=>exact ad _ j x c cs h (by simpa [gA] using g)
  |_=>simp [gA] at g
 |slice t _=>
  intro v c cs h g;cases v with
  |nil=>
   simp only [gA,aX] at g;subst g;obtain rfl:=h;exact ⟨.node none 0 [],rfl,⟨rfl,none,0,[],rfl,rfl,cV _,by simp [eL],rfl,rfl⟩,me rfl⟩
  |sl b p=>
   simp only [gA,aX] at g;subst g;refine ⟨.leaf,rfl,⟨rfl,rfl,rfl,h⟩,?_⟩;obtain ⟨af,ab,cap,ac,a',_,rfl⟩:=h;exact me rfl
  |ad j x=>exact ad _ j x c cs h (by simpa [gA] using g)
  |_=>simp [gA] at g
 |unit=>
  intro v c cs h g;cases v with
  |unit=>
   simp only [gA,aX] at g;subst g;exact ⟨.leaf,rfl,⟨rfl,rfl,h⟩,by rw [show cs=[] from h];intro v U;cases U⟩
  |ad j x=>exact ad _ j x c cs h (by simpa [gA] using g)
  |_=>simp [gA] at g
 |_=>
  intro v c cs h g;cases v with
  |ad j x=>exact ad _ j x c cs h (by simpa [gA] using g)
  |_=>simp [gA] at g
theorem an3 (h:aC F G s a w) (g:dk P E F) {o:Oper} {t:TypeId} {x y:Operand} (u:o.op=.store t x y) (n:o.dst=none) {k:St->Option Z} {r:Z} {T:Ty} (j:E.iN t=some T) (hk:lq s T (s.ev x) (s.ev y) k=some r):
 o.wp P a w (cf F k r) Q:=by
 have d:=cw h x;have z:=cw h y;unfold lq at hk;split at hk;rotate_left;cases hk;rename_i K O e0;rw [e0] at d;have d:=d.b3 (by simp) (by simp) rfl;split at hk;rotate_left;cases hk;rename_i c b;have I:s.ev y≠ .un:=by intro e;rw [e] at b;cases T<;>simp [gA] at b
 have D:∀c,s.ev y≠ .tup c:=by intro c e;rw [e] at b;cases T<;>simp [gA] at b
 obtain ⟨cs,C,J⟩:=z.cells I D;obtain ⟨f,q,l,v⟩:=Sp T _ c cs C b;exact ZT (κ:=id) g u n (g.ty t T j) d J hk (s5.still h l q v)
def an5 (h:aC F G s a w) (d:dk P E F) {o:Oper} {t:TypeId} {x y:Operand} (g:o.op=.store t x y) (l:o.dst=none) {k:St->Option Z} {r:Z} (hk:a8 E o s k=some r):
 o.wp P a w (cf F k r) Q:=by
 unfold a8 at hk;rw [g] at hk;simp only [dT] at hk;have b:=cw h x;have v:=cw h y;split at hk;rename_i T j;have u:=d.ty t T j;split at hk;exact an3 h d g l j hk;unfold lr at hk;split at hk;rename_i K O e0;rw [e0] at b;have b:=b.b3 (by simp) (by simp) rfl;have D:s.ev y≠ .un:=by intro e;rw [e] at hk;cases T<;>simp [ck] at hk
 have C:∀c,s.ev y≠ .tup c:=by intro c e;rw [e] at hk;cases T<;>simp [ck] at hk
 obtain ⟨cs,z,I⟩:=v.cells D C;obtain ⟨J,U,c,f,κ,q,n⟩:=ow T (s.ev y) G s cs _ r h z hk;exact ZT d g l u b I q n;cases hk;cases hk
def ah5 (h:aC F G s a w) (q:dk P E F) {o:Oper} {x:Operand} (n:o.op=.nilCheck x) (z:∀d,o.dst=some d->d<E.nt) {k:St->Option Z} {r:Z} (hk:a8 E o s k=some r):
 o.wp P a w (cf F k r) Q:=by
 unfold a8 at hk;rw [n] at hk;simp only at hk;have g:=cw h x;split at hk;rename_i b p e;rw [e] at g;have l:=g.b3 (by simp) (by simp) rfl;obtain ⟨u,D,C,off,I,j⟩:=l;simp only [gh,fK] at j;exact c1 (v:=a.eval x) (w':=w) (by unfold execOp;rw [n];simp [j]) (dS h q g z hk);rename_i u y e;rw [e] at g;have l:=g.b3 (by simp) (by simp) rfl;obtain ⟨C,off,c,j,_⟩:=l;simp only [gh,fK] at j;exact c1 (v:=a.eval x) (w':=w) (by unfold execOp;rw [n];simp [j]) (dS h q g z hk);rename_i f c e;rw [e] at g;have l:=g.b3 (by simp) (by simp) rfl;obtain ⟨vs,_,j⟩:=l;simp only [gh,fK] at j;exact c1 (v:=a.eval x) (w':=w) (by unfold execOp;rw [n];simp [j]) (dS h q g z hk);cases hk
theorem Xp {t:TypeId} {T u:Ty} (q:bE P T t) {n:Nat} (r:cD T [.f n]=some u) (b o:Nat):
 (Instr.fieldAt t (.pointer (some ⟨b,o,none⟩)) n).run P w=.ok (.pointer (some ⟨b,o+ew T n,none⟩)) w:=by
 obtain ⟨v,f,c,d,e,h4,h5⟩:=q.struct r;obtain ⟨i,hi,l,_⟩:=h5.gT;have h:¬i.size=0:=by rw [l];exact h4
 have g:(⟨b,o,none⟩:Addr).add f.offset=⟨b,o+ew T n,none⟩:=by rw [Addr.add_mid,e]
 have j:(fieldPlace ⟨b,o,none⟩ f).run P w=.ok ⟨b,o+ew T n,none⟩ w:=by
  unfold fieldPlace;simp [sizeOf,typeInfo,hi,h,g]
 unfold Instr.fieldAt;simp [run_underlying c,d,Instr.sureAddr,j]
def aei:∀(T:Ty) (ft:FT) (a:Option (Nat×Nat)) (n:Nat) (u:Ty),cD T [.f n]=some u->∃c,ak T ft a [.f n]=some (u,c,a.map λx=>(x.1,x.2+ew T n)):=by
 intro T
 induction T with
 |cons t r _ d=>
  intro ft a n u b;cases n with
  |zero=>
   have b:t=u:=by cases t<;>simpa [cD] using b
   subst b;refine ⟨ft.fst,?_⟩;have:ak t ft.fst a []=some (t,ft.fst,a):=by cases t<;>rfl
   simp only [ak,ew,this];cases a<;>simp
  |succ n=>
   obtain ⟨c,h⟩:=d ft.snd (a.map λx=>(x.1,x.2+t.size)) n u (by simpa [cD] using b);refine ⟨c,?_⟩;simp only [ak,h,ew];cases a<;>simp;omega
 |_=>intro ft a n u b;simp [cD] at b
theorem Rd.field {R:Nat->Prop}:∀(T:Ty) (x:T.ai) (cs:List Value) (n:Nat) (k:(u:Ty)->u.ai->Option Z) (r:Z),Rd w R T x cs->ch T x [.f n] k=some r->
 ∃(u:Ty) (y:u.ai),k u y=some r/\cD T [.f n]=some u/\Rd w R u y (sub cs (ew T n) u.size)/\ew T n+u.size<=T.size:=by
 intro T
 induction T with
 |cons t b _ C=>
  intro x cs n k r h d;obtain ⟨e,c,rfl,g,v⟩:=h;have j:=Rd.len _ _ _ g;cases n with
  |zero=>
   have z:k t x.1=some r:=by
    grind [ch]
   refine ⟨t,x.1,z,by cases t<;>rfl,?_,by simp [ew,Ty.size]⟩;simpa [sub,ew,List.take_left' j] using g
  |succ n=>
   obtain ⟨u,y,l,o,q,D⟩:=C x.2 c n k r v (by simpa [ch] using d);refine ⟨u,y,l,by simpa [cD] using o,?_,by simp [ew,Ty.size];omega⟩;have:sub (e++c) (ew (.cons t b) (n+1)) u.size=sub c (ew b n) u.size:=by
    unfold sub;rw [show ew (.cons t b) (n+1)=e.length+ew b n by rw [j];rfl,List.drop_length_add_append]
   rw [this];exact q
 |_=>intro x cs n k r h d;simp [ch] at d
def afU (h:aC F G s a w) (C:dk P E F) {o:Oper} {t:TypeId} {x:Operand} {n:Nat} (D:o.op=.fieldAddr t x n) (U:∀d,o.dst=some d->d<E.nt) {k:St->Option Z} {r:Z} (hk:a8 E o s k=some r):
 o.wp P a w (cf F k r) Q:=by
 unfold a8 at hk;rw [D] at hk;simp only [dT] at hk;have q:=cw h x;split at hk;rename_i T ah;have W:=C.ty t T ah;split at hk;rename_i b p e;rw [e] at q;have J:=q.b3 (by simp) (by simp) rfl;obtain ⟨u,ae,j,off,O,l⟩:=J;simp only [gh,fK] at l;unfold b5 at hk;split at hk;rename_i bx aj
 try dsimp only at hk
 split at hk;rename_i I;have I:cD bx.ty p=some T:=e7 I;have g:=mX aj O;rw [I] at g;obtain rfl:=b2 g;split at hk;rename_i v X;obtain ⟨K,ak⟩:=aei T ae (some (j,off)) n v X;have af:ax s.box G b (p++[.f n])=some (v,K,some (j,off+ew T n)):=by rw [s9 O];exact ak
 refine c1 (w':=w) (by unfold execOp;rw [D];simp [l,Xp W X];rfl) (dS h C ?_ U hk);exact dF (v:=.ref b (p++[.f n])) (cs:=[_]) ⟨v,K,j,off+ew T n,af,rfl⟩ rfl;cases hk;cases hk;cases hk;rename_i u y e;rw [e] at q;have J:=q.b3 (by simp) (by simp) rfl;obtain ⟨j,off,c,l,ag,ai,al⟩:=J;simp only [gh,fK] at l;split at hk;rename_i g;have g:u=T:=e7 g;subst g;obtain ⟨v,z,aa,ab,ac,ad⟩:=Rd.field u y c n _ r al hk;refine c1 (w':=w) (by unfold execOp;rw [D];simp [l,Xp W ab];rfl) (dS h C ?_ U aa);exact dF (v:=.bw v z) (cs:=[_]) ⟨j,off+ew u n,_,rfl,ag,ai.sub _ _ ad,ac⟩ rfl;cases hk;cases hk;cases hk
end
def RR (F:Fr) (G:Nat->Gh) (s:St):Nat->Prop:=λb=>F.R b\/∃i bx,s.box i=some bx/\b∈(G i).ae
section
variable {Z:Type} {P:Program} {E:an} {F:Fr} {G:Nat->Gh} {s:St} {a:Act} {w:World} {Q:Exit->Act->World->Prop}
theorem aC.Gk (h:aC F G s a w) {b:Nat} {bx:bl} (n:s.box b=some bx) {p:aM} {k:TV->Option Z} {r:Z} (hk:c7 bx.c p k=some r) {t:Ty} {d:Option Nat} {cap:Nat} {j:List FT} {q:Option (Nat×Nat)}
 (g:ax s.box G b p=some (.slice t,.node d cap j,q)):
 ∃c' f,k c'=some r/\a1 (ax s.box G) w F.R c' (.slice t) (.node d cap j) f/\(∀x∈(FT.node d cap j).ae,x∈(G b).ae):=by
 obtain ⟨y,I,D⟩:=(h.box b bx n).fa;obtain ⟨c',u,O,a',f,z,l,C,K⟩:=a1.get bx.c bx.ty (G b).ft y ((G b).bj.map (·,0)) p _ r I (λv o e=>(D v o e).1) hk;rw [fu n,l] at g;simp only [aX,bk] at g;obtain ⟨rfl,rfl,rfl⟩:=g;exact ⟨c',f,z,C,λx J=>by simp only [Gh.ae,bp];exact .inr ((fR _ _ _ _ l).1 x J)⟩
theorem Vu (h:aC F G s a w) {b:Nat} {bx:bl} (l:s.box b=some bx) {p:aM} {k:Nat->Option Z} {r:Z} (hk:jv s (.sl b p) k=some r) {t:Ty} {g:Option Nat} {cap:Nat} {f:List FT} {n:Option (Nat×Nat)}
 (v:ax s.box G b p=some (.slice t,.node g cap f,n)):k f.length=some r/\(g=none->f.length=0):=by
 simp only [jv,b5,l] at hk;obtain ⟨c',C,c,j,_⟩:=h.Gk l hk v;split at c;rename_i u y;obtain ⟨e,o⟩:=j;simp only [Ty.slice.injEq] at e;subst e;obtain ⟨_,_,_,d,_,h6,h4,h5,q⟩:=o
 grind
 ·rcases fN.out j with ⟨xs,_,rfl,x,z,D,d,_,h6,h4,h5,_,q⟩|⟨_,rfl,_⟩|⟨_,rfl,_⟩
  rotate_left;cases c;cases c;simp only [FT.node.injEq] at d;obtain ⟨rfl,rfl,rfl⟩:=d;refine ⟨by rw [h5];exact c,λe=>?_⟩;simp_all
 cases c
def Vv (h:aC F G s a w) {v:TV} {x:Value} (g:VR (ax s.box G) w F.R v x) {k:Nat->Option Z} {r:Z} (hk:jv s v k=some r):
 ∃n f cap,k n=some r/\x=.slice f n cap/\n<=eL/\n<=cap:=by
 unfold jv at hk;split at hk;have:=g.b3 (by simp) (by simp) rfl;have:[x]=[Value.slice none 0 0]:=this
 grind
 have:=g.b3 (by simp) (by simp) rfl;obtain ⟨f,cap,K,q,_⟩:=this
 grind
 rename_i b p;obtain ⟨t,C,cap,I,f,z,l⟩:=g.b3 (by simp) (by simp) rfl;simp only [gh,fK] at l;unfold b5 at hk;split at hk;rename_i bx D;obtain ⟨c',J,d,o,_⟩:=h.Gk D hk z;split at d;rename_i u y;obtain ⟨e,q⟩:=o;simp only [Ty.slice.injEq] at e;subst e;obtain ⟨_,_,_,j,_,h6,h4,h5,_⟩:=q
 grind
 ·rcases fN.out o with ⟨xs,_,rfl,_,_,_,j,_,h6,h4,h5,_,_⟩|⟨_,rfl,_⟩|⟨_,rfl,_⟩
  rotate_left;cases d;cases d;simp only [FT.node.injEq] at j;obtain ⟨rfl,rfl,rfl⟩:=j;exact ⟨_,_,_,d,by rw [l,h5],h4,h6⟩
 cases d;cases hk;obtain ⟨t,C,cap,I,f,z,U,a',c,l,O,_⟩:=g.b3 (by simp) (by simp) rfl
 grind
 cases hk
theorem tE {n:Nat} {i:Int} {k:Nat->Option Z} {r:Z} (h:eh n i k=some r):∃m:Nat,i=m/\m<n/\k m=some r:=by
 unfold eh at h;split at h;rename_i m;split at h;rename_i b;exact ⟨m,rfl,Nat.lt_of_succ_le (po b),h⟩;cases h;cases h
theorem LC {α:Type} {l:List α} {i:Int} {y:α} (h:oM l i=some y):∃m:Nat,i=m/\l[m]?=some y:=by
 unfold oM at h;split at h
 grind
 cases h
theorem k0 {A:b0} {R:Nat->Prop} {v:TV} {x:Value} (c:VR A w R v x) {k:IntKind->Int->Option Z} {r:Z} (h:asInt v k=some r):∃b n,x=.int b n/\k b n=some r:=by
 unfold asInt at h;split at h;exact ⟨_,_,c.int,h⟩;cases h
theorem run_indexAt_slice {t:TypeId} {T:Ty} (h:bE P (.slice T) t) {b o len cap:Nat} {l:IntKind} {m:Nat} (f:m<len):
 (Instr.indexAt t (.slice (some ⟨b,o,none⟩) len cap) (.int l m)).run P w=.ok (.pointer (some ⟨b,o+m*T.size,none⟩)) w:=by
 obtain ⟨e,j,d⟩:=h.slice;obtain ⟨i,hi,g,_⟩:=d.gT;have c:(⟨b,o,none⟩:Addr).add (m*T.size)=⟨b,o+m*T.size,none⟩:=Addr.add_mid _ _ _;unfold Instr.indexAt;simp [asIntOf,run_underlying j,f,sizeOf,typeInfo,hi,g,c]
theorem akx {t:TypeId} {T:Ty} {n:Nat} (h:bE P (.arr n T) t) {b o:Nat} {l:IntKind} {m:Nat} (f:m<n):
 (Instr.indexAt t (.pointer (some ⟨b,o,none⟩)) (.int l m)).run P w=.ok (.pointer (some ⟨b,o+m*T.size,none⟩)) w:=by
 obtain ⟨e,j,d,_⟩:=h.arr;obtain ⟨i,hi,g,_⟩:=d.gT;have c:(⟨b,o,none⟩:Addr).add (m*T.size)=⟨b,o+m*T.size,none⟩:=Addr.add_mid _ _ _;unfold Instr.indexAt;simp [asIntOf,run_underlying j,f,sizeOf,typeInfo,hi,g,c,Instr.sureAddr]
def agI (h:aC F G s a w) (W:dk P E F) {o:Oper} {t:TypeId} {x y:Operand} (aa:o.op=.indexAddr t x y) (ac:∀d,o.dst=some d->d<E.nt) {k:St->Option Z} {r:Z} (hk:a8 E o s k=some r):
 o.wp P a w (cf F k r) Q:=by
 unfold a8 at hk;rw [aa] at hk;simp only [dT] at hk;have q:=cw h x;have aq:=cw h y;split at hk;rename_i T am;have ad:=W.ty t T am;unfold m9 at hk;obtain ⟨ay,i,ae,an⟩:=k0 aq hk;clear hk;revert an;intro hk;split at hk;rename_i u xs e;rw [e] at q;split at hk;rename_i f;have f:T=.slice u:=e7 f;subst f;cases ag:oM (α:=u.ai) xs i with
 |some z=>
  rw [ag] at hk;obtain ⟨m,rfl,g⟩:=LC ag;obtain ⟨ah,cap,I,au,aj⟩:=q.b3 (by simp) (by simp) rfl;simp only [gh,fK] at I;have X:m<List.length (α:=u.ai) xs:=(b6.1 g).1;obtain ⟨b,ar,rfl,al,h4⟩:=aj (by grind);obtain ⟨c,ab,ao⟩:=h4 m z g;refine c1 (w':=w) (by unfold execOp;rw [aa];simp [I,ae,run_indexAt_slice ad X];rfl) (dS h W ?_ ac hk);exact dF (v:=.bw u z) (cs:=[_]) ⟨b,ar+m*u.size,c,rfl,al,ab,ao⟩ rfl
 |none=>rw [ag] at hk;cases hk
 cases hk;rename_i b p e;rw [e] at q;unfold b5 at hk;split at hk;rename_i bx J
 try dsimp only at hk
 split at hk;rename_i j;have j:cD bx.ty p=some T:=e7 j;obtain ⟨u,K,cap,D,ah,l,C⟩:=q.b3 (by simp) (by simp) rfl;simp only [gh,fK] at C;have f:=mX J l;rw [j] at f;obtain rfl:=b2 f;obtain ⟨hk,aw⟩:=Vu h J hk l;obtain ⟨m,rfl,g,hk⟩:=tE hk;have af:D[m]?=some (D[m]'g):=ba g;cases K with
 |none=>
  simp_all
 |some K=>
  have U:ax s.box G b (p++[.i m])=some (u,D[m]'g,some (K,m*u.size)):=by
   rw [s9 l];simp only [ak,af]
  refine c1 (w':=w) (by unfold execOp;rw [aa];simp [C,ae,run_indexAt_slice ad g];rfl) (dS h W ?_ ac hk);exact dF (v:=.ref b (p++[.i m])) (cs:=[_]) ⟨u,_,K,m*u.size,U,rfl⟩ rfl
 cases hk;cases hk;rename_i b p lo n e;rw [e] at q;unfold b5 at hk;split at hk;rename_i bx J
 try dsimp only at hk
 split at hk;rename_i j;have j:cD bx.ty p=some T:=e7 j;obtain ⟨u,K,cap,D,ah,l,av,a',c',C,ap⟩:=q.b3 (by simp) (by simp) rfl;simp only [gh,fK] at C;have f:=mX J l;rw [j] at f;obtain rfl:=b2 f;obtain ⟨m,rfl,g,hk⟩:=tE hk;obtain ⟨O,rfl,rfl⟩:=ap.2 (by omega);have X:lo+m<D.length:=by omega
 have af:D[lo+m]?=some (D[lo+m]'X):=ba X;have U:ax s.box G b (p++[.i (lo+m)])=some (u,D[lo+m]'X,some (O,(lo+m)*u.size)):=by
  rw [s9 l];simp only [ak,af]
 refine c1 (w':=w) (by unfold execOp;rw [aa];simp [C,ae,run_indexAt_slice ad g];rfl) (dS h W ?_ ac hk);exact dF (v:=.ref b (p++[.i (lo+m)])) (cs:=[_]) ⟨u,_,O,lo*u.size+m*u.size,by rw [<-Nat.add_mul];exact U,rfl⟩ rfl;cases hk;cases hk;rename_i b p e;rw [e] at q;unfold b5 at hk;split at hk;rename_i bx J
 try dsimp only at hk
 split at hk;rename_i j;have j:cD bx.ty p=some T:=e7 j;obtain ⟨u,ft,O,off,l,C⟩:=q.b3 (by simp) (by simp) rfl;simp only [gh,fK] at C;have f:=mX J l;rw [j] at f;obtain rfl:=b2 f;cases T with
 |arr n v=>
  try dsimp only at hk
  split at hk;cases hk;rename_i ab;simp only [fC,gN,jf] at ab;obtain ⟨m,rfl,g,hk⟩:=tE hk;have I:1<n:=by
   rcases Nat.lt_or_ge 1 n with I|I
   exact I;have:=zb I;simp_all
  have U:ax s.box G b (p++[.i m])=some (v,.leaf,some (O,off+m*v.size)):=by
   rw [s9 l];simp only [ak,ab.1,kH];simp_all
  refine c1 (w':=w) (by unfold execOp;rw [aa];simp [C,ae,akx ad g];rfl) (dS h W ?_ ac hk);exact dF (v:=.ref b (p++[.i m])) (cs:=[_]) ⟨v,_,O,off+m*v.size,U,rfl⟩ rfl
 |_=>cases hk
 cases hk;cases hk;cases hk;cases hk
end
section
variable {Z:Type} {P:Program} {E:an} {F:Fr} {G:Nat->Gh} {s:St} {a:Act} {w:World} {Q:Exit->Act->World->Prop}
theorem NC (h:aC F G s a w) {t:Ty} {v:TV} {x:Value} (I:VR (ax s.box G) w F.R v x) {k:List t.ai->Option Z} {r:Z} (hk:gY s t v k=some r):
 ∃xs:List t.ai,k xs=some r/\Rd w (RR F G s) (.slice t) xs [x]:=by
 unfold gY at hk;split at hk;have:[x]=[Value.slice none 0 0]:=I.b3 (by simp) (by simp) rfl;simp only [gh,fK] at this;subst this;exact ⟨[],hk,none,0,rfl,⟨cV _,by simp [eL]⟩,λh=>absurd rfl h⟩;rename_i u y;split at hk;rename_i xs f;obtain ⟨rfl,rfl⟩:=eO f;exact ⟨_,hk,Rd.bT (λb W=>.inl W) (λ_ _=>rfl) _ _ _ (I.b3 (by simp) (by simp) rfl)⟩;cases hk;rename_i b p;obtain ⟨a1,aj,cap,ay,ah,U,J⟩:=I.b3 (by simp) (by simp) rfl;simp only [gh,fK] at J;unfold b5 at hk;split at hk;rename_i bx j;obtain ⟨c',am,d,C,D⟩:=h.Gk j hk U;split at d;rename_i u y;split at d;rename_i xs f;obtain ⟨rfl,rfl⟩:=eO f;obtain ⟨e,l⟩:=C;simp only [Ty.slice.injEq] at e;subst e;have ac:=bd.rd (R:=RR F G s) _ _ _ _ (λK X=>.inr ⟨b,bx,j,D K X⟩) l;refine ⟨_,d,?_⟩;obtain ⟨_,_,_,g,h5,_,_,h6,_⟩:=l;simp_all;cases d;rename_i u y;split at d;rename_i xs f;obtain ⟨rfl,rfl⟩:=eO f;rcases fN.out C with ⟨_,_,q,_⟩|⟨_,q,_⟩|⟨zs,q,ao⟩
 cases q;cases q;obtain ⟨aa,ar⟩:=TV.ad.inj q;simp only [Ty.slice.injEq] at aa;subst aa;obtain rfl:=eq_of_heq ar;obtain ⟨O,al,a5,g,_,_,h5,h6,o,_,h8⟩:=ao;simp only [FT.node.injEq] at g;obtain ⟨rfl,rfl,rfl⟩:=g;refine ⟨_,d,some ⟨O,0,none⟩,cap,by rw [J,o];rfl,⟨h5,h6⟩,λ_=>⟨O,0,rfl,.inr ⟨b,bx,j,D O (by simp [FT.ae])⟩,λi z af=>?_⟩⟩;obtain ⟨c,a3,ap⟩:=h8 i z af;exact ⟨c,by simp_all,Rd.bT (λb W=>.inl W) (λ_ _=>rfl) _ _ _ ap⟩;cases d;cases d;cases hk;rename_i b p lo n;obtain ⟨a1,aj,cap,ay,ah,U,au,a',c,J,aq,av⟩:=I.b3 (by simp) (by simp) rfl;simp only [gh,fK] at J;unfold b5 at hk;split at hk;rename_i bx j;obtain ⟨c',am,d,C,D⟩:=h.Gk j hk U;split at d;rename_i u y;split at d;rename_i xs f;obtain ⟨rfl,rfl⟩:=eO f;obtain ⟨e,l⟩:=C;simp only [Ty.slice.injEq] at e;subst e;have ac:=bd.rd (R:=RR F G s) _ _ _ _ (λK X=>.inr ⟨b,bx,j,D K X⟩) l;refine ⟨_,d,?_⟩;obtain ⟨_,_,_,g,h5,_,_,h6,_⟩:=l;simp only [FT.node.injEq] at g;obtain ⟨rfl,rfl,rfl⟩:=g;obtain ⟨a0,al,o,h8,h9⟩:=ac;rw [h5] at o;simp only [gh,Value.slice.injEq,fK] at o;obtain ⟨rfl,_,rfl⟩:=o;have ab:((List.drop (α:=t.ai) lo y).take n).length=n:=by
  grind
 refine ⟨a',c,by simp_all,⟨by rw [ab];exact aq.1,by rw [ab];exact au.2⟩,λa4=>?_⟩;have an:0<n:=by
  grind
 obtain ⟨ak,rfl,rfl⟩:=av an;have aw:(show List t.ai from y)≠[]:=by
  grind
 obtain ⟨a2,a6,ag,az,a7⟩:=h9 aw;simp only [dn,aX,Addr.mk.injEq,fK] at ag;obtain ⟨rfl,rfl⟩:=ag;refine ⟨ak,lo*t.size,rfl,az,λi z af=>?_⟩
 grind
 cases d;cases d;cases hk;cases hk
def F6 (h:aC F G s a w):∀(t:Ty) (v:TV) (cs:List Value) (k:t.ai->Option Z) (r:Z),bH (ax s.box G) w F.R v cs->dL s t v k=some r->
 ∃x:t.ai,k x=some r/\Rd w (RR F G s) t x cs:=by
 intro t;have g:∀(t u:Ty) (x:u.ai) (cs:List Value) (k:t.ai->Option Z) (r:Z),bH (ax s.box G) w F.R (.ad u x) cs->(∃y,cG u t x=some y/\k y=some r)->∃y:t.ai,k y=some r/\Rd w (RR F G s) t y cs:=by
  intro t u x cs k r e ⟨y,l,hk⟩;obtain ⟨rfl,rfl⟩:=eO l;exact ⟨_,hk,Rd.bT (λb J=>.inl J) (λ_ _=>rfl) _ _ _ e⟩
 induction t with
 |slice t _=>
  intro v cs k r e hk;have hk:gY s t v k=some r:=by cases v<;>simpa [dL] using hk
  have j:∃x,cs=[x]/\v.agg=false:=by
   cases v with
   |ad u x=>
    simp only [gY] at hk;split at hk;rename_i xs l;obtain ⟨rfl,rfl⟩:=eO l;obtain ⟨X,cap,rfl,_⟩:=e;exact ⟨_,rfl,rfl⟩;cases hk
   |nil=>exact ⟨_,e,rfl⟩
   |sl b p=>obtain ⟨_,_,_,_,_,_,rfl⟩:=e;exact ⟨_,rfl,rfl⟩
   |slw b p lo n=>obtain ⟨_,_,_,_,_,_,_,_,_,rfl,_⟩:=e;exact ⟨_,rfl,rfl⟩
   |_=>simp [gY] at hk
  obtain ⟨x,rfl,I⟩:=j;exact NC h (dF e (by rw [I];rfl)) hk
 |cons t u K O=>
  intro v cs k r e hk;cases v with
  |cons c d=>
   obtain ⟨o,q,rfl,j,D⟩:=e;simp only [dL] at hk;obtain ⟨x,z,U⟩:=K c o _ r j hk;obtain ⟨y,C,W⟩:=O d q _ r D z;exact ⟨(x,y),C,o,q,rfl,U,W⟩
  |ad f x=>exact g _ f x cs k r e (by simp only [dL] at hk;grind)
  |_=>simp [dL] at hk
 |unit=>
  intro v cs k r e hk;cases v with
  |unit=>exact ⟨(),by simpa [dL] using hk,⟨rfl,trivial,e⟩⟩
  |ad f x=>exact g _ f x cs k r e (by simp only [dL] at hk;grind)
  |_=>simp [dL] at hk
 |_=>
  intro v cs k r e hk;cases v with
  |ad f x=>exact g _ f x cs k r e (by simp only [dL] at hk;grind)
  |_=>simp [dL] at hk
end
section
variable {Z:Type} {P:Program} {E:an} {F:Fr} {G:Nat->Gh} {s:St} {a:Act} {w:World} {Q:Exit->Act->World->Prop}
theorem aeK {op:BinOp} {c d:IntKind} {x y:Int} {k:TV->Option Z} {r:Z} (b:NA op=true\/c=d) (h:jS op c x y k=some r) (t:TypeId):
 ∃tv v,k tv=some r/\(binOp op t (.int c x) (.int d y)).run P w=.ok v w/\∀(A:b0) (R:Nat->Prop),VR A w R tv v:=by
 cases op
 case shl=>
  simp only [jS] at h;split at h;rename_i n;refine ⟨_,_,h,?_,λA R=>gJ _ _⟩;simp [binOp,Op.shift];intro h;omega;cases h
 case shr=>
  simp only [jS] at h;split at h;rename_i n;refine ⟨_,_,h,?_,λA R=>gJ _ _⟩;simp [binOp,Op.shift];intro h;omega;cases h
 all_goals (rcases b with b|rfl;· simp [NA] at b)
 case quo=>
  simp only [jS] at h;split at h;cases h;exact ⟨_,_,h,(by simp [binOp,Op.intDiv];intro h;omega),λA R=>gJ _ _⟩;exact ⟨_,_,h,by simp [binOp,Op.intDiv],λA R=>gJ _ _⟩
 case rem=>
  simp only [jS] at h;split at h;cases h;exact ⟨_,_,h,(by simp [binOp,Op.intDiv];intro h;omega),λA R=>gJ _ _⟩;exact ⟨_,_,h,by simp [binOp,Op.intDiv],λA R=>gJ _ _⟩
 case add=>exact ⟨_,_,h,by simp [binOp,Op.intArith],λA R=>gJ _ _⟩
 case sub=>exact ⟨_,_,h,by simp [binOp,Op.intArith],λA R=>gJ _ _⟩
 case mul=>exact ⟨_,_,h,by simp [binOp,Op.intArith],λA R=>gJ _ _⟩
 case and=>exact ⟨_,_,h,by simp [binOp,Op.intBits],λA R=>gJ _ _⟩
 case or=>exact ⟨_,_,h,by simp [binOp,Op.intBits],λA R=>gJ _ _⟩
 case xor=>exact ⟨_,_,h,by simp [binOp,Op.intBits],λA R=>gJ _ _⟩
 case andNot=>simp [jS,Lf] at h
 all_goals
  simp only [jS,Lf] at h;exact ⟨_,_,h,by simp [binOp,Op.intCmp],λA R=>pd _⟩
theorem afG (op:BinOp) (t:TypeId) (x y:Operand) (k k':IntKind) (m n:Int):(eqGuard op t x y (.int k m) (.int k' n)).run P w=.ok () w:=by
 cases op<;>simp [eqGuard]
theorem Ls (op:BinOp) (t:TypeId) (x y:Operand) (m n:ByteArray):(eqGuard op t x y (.string m) (.string n)).run P w=.ok () w:=by
 cases op<;>simp [eqGuard]
def UK (op:BinOp) (t:TypeId) (x y:Operand) (m n:Bool):(eqGuard op t x y (.bool m) (.bool n)).run P w=.ok () w:=by
 cases op<;>simp [eqGuard]
theorem toList_mk (l:List UInt8):(ByteArray.mk l.toArray).toList=l:=by
 simp_all
theorem aks (t:TypeId) (l b:List UInt8) (d:l.length+b.length<=bi):(binOp .add t (.string ⟨l.toArray⟩) (.string ⟨b.toArray⟩)).run P w=.ok (.string ⟨(l++b).toArray⟩) w:=by
 have c:∀m:List UInt8,(ByteArray.mk m.toArray).size=m.length:=λm=>by simp [ByteArray.size]
 rw [binOp_string_add];simp only [Op.stringOp];rw [c,c,au (by grind [IntKind.max,IntKind.bits,bi])];simp only [Sem.run_pure];congr 2
def akC (t:TypeId) (l b:List UInt8):(binOp .eql t (.string ⟨l.toArray⟩) (.string ⟨b.toArray⟩)).run P w=.ok (.bool (l==b)) w:=by
 simp [binOp_string_eql]
def akD (t:TypeId) (l b:List UInt8):(binOp .neq t (.string ⟨l.toArray⟩) (.string ⟨b.toArray⟩)).run P w=.ok (.bool (!(l==b))) w:=by
 simp [binOp_string_neq]
theorem FR:∀{T:Ty},T.plain=true->T.aW=true
 | .int _,_=>rfl
 | .bool,_=>rfl
 | .bR,_=>rfl
 | .unit,_=>rfl
 | .cons _ _,h=>by simp only [Ty.plain,bt] at h;simp only [Ty.aW,bt];exact ⟨FR h.1,FR h.2⟩
 | .bG,h=>by simp [Ty.plain] at h
 | .slice _,h=>by simp [Ty.plain] at h
 | .arr _ _,h=>by simp [Ty.plain] at h
theorem tt:∀(T:Ty) (x:T.ai),T.plain=true->(bJ T x).length=T.size
 | .int _,_,_=>rfl
 | .bool,_,_=>rfl
 | .bR,_,_=>rfl
 | .unit,_,_=>rfl
 | .cons t r,x,h=>by
  simp only [Ty.plain,bt] at h;simp [bJ,Ty.size,tt t x.1 h.1,tt r x.2 h.2]
 | .bG,_,h=>by simp [Ty.plain] at h
 | .slice _,_,h=>by simp [Ty.plain] at h
 | .arr _ _,_,h=>by simp [Ty.plain] at h
def jX (T:Ty) (cs:List Value):Value:=if T.agg then .agg cs.toArray else cs.headD undef
def Gd {T:Ty} {t:TypeId} (g:bE P T t) {pre cs post:List Value} (f:cs.length=T.size) (j:T.agg=false->T.size=1):
 (part t (pre++cs++post).toArray pre.length).run P w=.ok (jX T cs) w:=by
 obtain ⟨d,h,e⟩:=g.row;obtain ⟨i,hi,l,_⟩:=g.gT;unfold part;cases b:T.agg with
 |true=>
  have c:(isAgg t).run P w=.ok true w:=by
   unfold isAgg;rw [Sem.run_bind,run_underlying h w];rw [b] at e;cases d<;>simp_all
  simp only [Sem.run_bind,c,Result.andThen_ok,cu,sizeOf,typeInfo,Sem.run_pure,hi,run_program,l];congr 1;simp only [jX,b,cu];simp_all
 |false=>
  have c:(isAgg t).run P w=.ok false w:=by
   unfold isAgg;rw [Sem.run_bind,run_underlying h w];rw [b] at e;cases d<;>simp_all
  rw [j b] at f
  match cs,f with
  |[v],_=>
   simp only [Sem.run_bind,c,Result.andThen_ok,ie,c2];simp [jX,b]
theorem afH:∀(T:Ty),(∀(d:Nat) (t:TypeId) (x y:T.ai),T.plain=true->T≠ .unit->T.qL<d->bE P T t->∀w,(Op.equalIn d t (jX T (bJ T x)) (jX T (bJ T y))).run P w=.ok (iD T x y) w)/\
 (∀(d o:Nat) (l:List Field) (x y:T.ai) (pre c:List Value),T.plain=true->T.qL<=d->cK P T l o=true->pre.length=o->c.length=o->∀w,(Op.eqFields d (pre++bJ T x).toArray (c++bJ T y).toArray l).run P w=.ok (iD T x y) w):=by
 intro T
 induction T with
 |cons t r ah ag=>
  have step:∀(d o:Nat) (f:Field) (l:List Field) (x y:(Ty.cons t r).ai) (pre c:List Value),(Ty.cons t r).plain=true->(Ty.cons t r).qL<=d->f.offset=o->t.size≠0->f.name≠ "_" ->bE P t f.type->cK P r l (o+t.size)=true->pre.length=o->c.length=o->
   ∀w,(Op.eqFields d (pre++bJ (.cons t r) x).toArray (c++bJ (.cons t r) y).toArray (f::l)).run P w=.ok (iD (.cons t r) x y) w:=by
   intro d o f l x y pre c g u z ad ae h4 h5 q C w;simp only [Ty.plain,bt] at g;simp only [Ty.qL] at u;have af:t≠ .unit:=by intro e;subst e;exact ad rfl
   have I:d=(d-1)+1:=by omega
   have ak:=Gd (w:=w) h4 (pre:=pre) (post:=bJ r x.2) (tt t x.1 g.1) (ml t);have al:=Gd (w:=w) h4 (pre:=c) (post:=bJ r y.2) (tt t y.1 g.1) (ml t);have v:=(ah.1) d f.type x.1 y.1 g.1 af (by omega) h4 w;have D:=(ag.2) d (o+t.size) l x.2 y.2 (pre++bJ t x.1) (c++bJ t y.1) g.2 (by omega) h5 (by simp [q,tt t x.1 g.1]) (by simp [C,tt t y.1 g.1]) w;simp only [bJ];rw [<-gb,<-gb];simp only [Op.eqFields,ae,ne_eq,not_false_eq_true,cu,Sem.run_bind];rw [z,<-q,ak];simp only [Result.andThen_ok];rw [q,<-C,al];simp only [Result.andThen_ok,v,Sem.run_ite];simp only [iD];cases iD t x.1 y.1 with
   |false=>simp
   |true=>
    grind
  refine ⟨λd O x y g _ u b w=>?_,λd o l x y pre c g u j q C w=>?_⟩;have am:=b;unfold bE at b;simp only [dH,bt] at b;obtain ⟨⟨⟨_,z⟩,_⟩,h⟩:=b;split at h;rename_i U K;split at h;rename_i f l q;simp only [bt,iS,hp,nN,bne_iff_ne] at h;obtain ⟨⟨⟨⟨W,X⟩,aa⟩,ab⟩,ac⟩:=h;have J:P.fieldsOf O=U:=by simp [Program.fieldsOf,K]
  have I:d=(d-1)+1:=by omega
  rw [I];simp only [jX,Ty.agg,cu];rw [run_equalIn_struct w (d-1) O _ _ (by rw [J];exact K) (by simpa using z),J,q];exact step (d-1) 0 f l x y [] [] g (by omega) W X aa ab (by simpa using ac) rfl rfl w;cases h;cases h;cases l with
  |nil=>simp [cK] at j
  |cons f l=>
   grind [cK]
 |unit=>
  refine ⟨λd t x y _ h=>absurd rfl h,λd o l x y pre c _ _ j _ _ w=>?_⟩;cases l with
  |nil=>rfl
  |cons f l=>simp [cK] at j
 |int aj=>
  refine ⟨λd t x y _ _ u b w=>?_,λd o l x y pre c _ _ j=>by cases l<;>simp [cK] at j⟩;unfold bE at b;simp only [dH,bt] at b;obtain ⟨_,h⟩:=b;split at h;rename_i k' hk;rw [show d=(d-1)+1 by omega];exact run_equalIn_int w (d-1) t aj k' x y hk;cases h
 |bool=>
  refine ⟨λd t x y _ _ u b w=>?_,λd o l x y pre c _ _ j=>by cases l<;>simp [cK] at j⟩;unfold bE at b;simp only [dH,bt] at b;obtain ⟨_,h⟩:=b;split at h;rename_i hk;rw [show d=(d-1)+1 by omega];exact run_equalIn_bool' w (d-1) t x y hk;cases h
 |bR=>
  refine ⟨λd t x y _ _ u b w=>?_,λd o l x y pre c _ _ j=>by cases l<;>simp [cK] at j⟩;unfold bE at b;simp only [dH,bt] at b;obtain ⟨_,h⟩:=b;split at h;rename_i hk;rw [show d=(d-1)+1 by omega];have:=run_equalIn_string w (d-1) t ⟨List.toArray (α:=UInt8) x⟩ ⟨List.toArray (α:=UInt8) y⟩ hk;have v:(ByteArray.mk (List.toArray (α:=UInt8) x)).toList=x:=toList_mk x;have D:(ByteArray.mk (List.toArray (α:=UInt8) y)).toList=y:=toList_mk y;rw [v,D] at this;exact this;cases h
 |bG=>grind [Ty.plain]
 |slice t _=>grind [Ty.plain]
 |arr n t _=>grind [Ty.plain]
theorem aeM {A:b0} {R:Nat->Prop} (W:∀t T,E.iN t=some T->bE P T t) {op:BinOp} {t:TypeId} {u v:TV} {x y:Value} {ox oy:Operand} (j:VR A w R u x) (o:VR A w R v y) {k:TV->Option Z} {r:Z} (h:td op (E.iN t) u v k=some r):
 ∃tv z,k tv=some r/\(eqGuard op t ox oy x y).run P w=.ok () w/\(binOp op t x y).run P w=.ok z w/\VR A w R tv z:=by
 unfold td at h;split at h;rename_i am m an n;obtain rfl:=j.int;obtain rfl:=o.int;split at h;rename_i d;obtain ⟨tv,z,ab,ac,ad⟩:=aeK (by simpa using d) h t;exact ⟨tv,z,ab,afG _ _ _ _ _ _ _ _,ac,ad A R⟩;cases h;rename_i l c;obtain ⟨rfl,aj⟩:=j.bR;obtain ⟨rfl,ak⟩:=o.bR;split at h;split at h;rename_i g;have g:List.length (α:=UInt8) l+List.length (α:=UInt8) c<=bi:=e7 g;exact ⟨_,_,h,Ls _ _ _ _ _ _,aks t l c g,Ox (l:=List.append (α:=UInt8) l c) (by
  have e:(List.append (α:=UInt8) l c).length=List.length (α:=UInt8) l+List.length (α:=UInt8) c:=ea;rw [e];unfold eL;unfold bi at g;omega)⟩
 cases h;exact ⟨_,_,h,Ls _ _ _ _ _ _,akC t l c,pd _⟩;exact ⟨_,_,h,Ls _ _ _ _ _ _,akD t l c,pd _⟩;cases h;rename_i b U;obtain rfl:=j.bool;obtain rfl:=o.bool;split at h;cases h;rename_i d;have q:E.iN t=some .bool:=by simpa using d
 have f:=W t _ q;have aa:P.underlying t=some .bool:=by
  unfold bE at f;simp only [dH,bt] at f
  grind
 split at h;exact ⟨_,_,h,UK _ _ _ _ _ _,run_eql_bool w t b U aa,pd _⟩;exact ⟨_,_,h,UK _ _ _ _ _ _,run_neq_bool w t b U aa,pd _⟩;cases h;rename_i K O m ao n;split at h;rename_i d;simp only [bt,nO] at d;obtain ⟨⟨D,al⟩,q⟩:=d;split at h;rename_i ap af;obtain ⟨rfl,rfl⟩:=eO af;have f:=W t _ q;have X:P.eqGuardType P.depth t=false:=by
  have ae:=f;unfold bE at ae
  grind [dH]
 obtain ⟨cs,ag,I⟩:=j.cells (by simp) (by simp);obtain ⟨ai,ah,J⟩:=o.cells (by simp) (by simp);obtain ⟨_,rfl⟩:=Rd.aW (FR D) ag;obtain ⟨_,rfl⟩:=Rd.aW (FR D) ah;have I:x=.agg (bJ (.cons K O) m).toArray:=I;have J:y=.agg (bJ (.cons K O) n).toArray:=J;subst I J;have C:=((afH (P:=P) (.cons K O)).1 10000 t m n D (by simp) (by simp_all<;>omega) f) w;simp only [jX,Ty.agg,cu] at C;split at h;refine ⟨_,_,h,run_eqGuard_agg w _ t ox oy _ _ X,?_,pd _⟩;rw [run_eql_struct,C];rfl;refine ⟨_,_,h,run_eqGuard_agg w _ t ox oy _ _ X,?_,pd _⟩;rw [run_neq_struct,C];rfl;cases h;cases h;cases h;cases h
def aeN (h:aC F G s a w) (b:dk P E F) {o:Oper} {op:BinOp} {t n:TypeId} {x y:Operand} (c:o.op=.binOp op t x y n) (l:∀d,o.dst=some d->d<E.nt) {k:St->Option Z} {r:Z} (hk:a8 E o s k=some r):
 o.wp P a w (cf F k r) Q:=by
 unfold a8 at hk;rw [c] at hk;simp only at hk;obtain ⟨tv,z,e,f,g,j⟩:=aeM b.ty (ox:=x) (oy:=y) (cw h x) (cw h y) hk;exact c1 (v:=z) (w':=w) (by unfold execOp;rw [c];simp [f,g]) (dS h b j l e)
def aoz (h:aC F G s a w) (g:dk P E F) {o:Oper} {op:UnOp} {t:TypeId} {x:Operand} (f:o.op=.unOp op t x) (j:∀d,o.dst=some d->d<E.nt) {k:St->Option Z} {r:Z} (hk:a8 E o s k=some r):
 o.wp P a w (cf F k r) Q:=by
 unfold a8 at hk;rw [f] at hk;simp only at hk;have c:=cw h x;split at hk;rename_i b e;rw [e] at c;have:=c.bool;exact c1 (v:=.bool (!b)) (w':=w) (by unfold execOp;rw [f];simp [this,Op.unary]) (dS h g (pd _) j hk);rename_i l n e;rw [e] at c;have:=c.int;simp only [jS] at hk;exact c1 (v:=.int l (l.wrap ((0:Int)-(show Int from n)))) (w':=w) (by unfold execOp;rw [f];simp [this,Op.unary,Op.intArith]) (dS h g (gJ _ _) j hk);cases hk
end
section
variable {Z:Type} {P:Program} {E:an} {F:Fr} {G:Nat->Gh} {s:St} {a:Act} {w w2:World} {Q:Exit->Act->World->Prop}
theorem qx {K:Ty} {t:TypeId} (h:oW P K t=true):∃c b,P.underlying t=some (.map c b)/\bE P K c/\bE P (.int .i64) b/\iH K:=by
 unfold oW at h;split at h;rename_i c b d;simp only [bt,fC,nO] at h;exact ⟨c,b,d,h.1.1,h.1.2,h.2⟩;cases h
theorem bE.i64 {t:TypeId} (h:bE P (.int .i64) t):P.underlying t=some (.int .i64):=by
 simp only [bE,dH,bt] at h
 grind
theorem Xq {e:TypeId} (b:P.underlying e=some (.int .i64)) (cs:Array Value) (n:Nat) (v:Value) (d:cs[n]?=some v) (w:World):(part e cs n).run P w=.ok v w:=by
 unfold part;have c:(isAgg e).run P w=.ok false w:=by
  unfold isAgg;rw [Sem.run_bind,run_underlying b w];rfl
 simp_all
def Xo {b:TypeId} (h:P.underlying b=some (.int .i64)) (em:Bool) (n:Nat) (x:Int) (w:World):(Instr.checkKey em (n+1) b (.int .i64 x)).run P w=.ok () w:=by
 unfold Instr.checkKey;simp [run_underlying h]
theorem yy {K:Ty} {e:TypeId} (hk:iH K) (d:bE P K e) (x:K.ai) (l:dl K x) (em:Bool) (w:World):(Instr.checkKey em 10000 e (fb K x)).run P w=.ok () w:=by
 rcases hk with rfl|rfl
 exact Xo d.i64 em 9999 x w;obtain ⟨e0,j,b,n⟩:=d.arr;obtain ⟨o,f,h,_,_⟩:=b.gT;have g:List.length (α:=Int) x=2:=l.1
 match x,g with
 |[p,q],_=>
  rw [show (10000:Nat)=9999+1 from rfl,Instr.checkKey];simp only [Sem.run_bind,run_underlying j,Result.andThen_ok,fb,bJ,fJ,nG,mA,List.flatten_nil,gg,gM];simp only [Std.Legacy.Range.forIn_eq_forIn_range',Std.Legacy.Range.size,Nat.sub_zero,Nat.add_sub_cancel,Nat.div_one,List.range'_succ,List.range'_zero,List.forIn_cons,List.forIn_nil];have c:∀x,(Instr.checkKey em 9999 e0 (.int .i64 x)).run P w=.ok () w:=λx=>Xo b.i64 em 9998 x w
  simp [sizeOf,typeInfo,f,h,Ty.size,Xq b.i64];rw [c p,Result.andThen_ok,c q,Result.andThen_ok]
theorem aku {K:Ty} {c:TypeId} (hk:iH K) (g:bE P K c) (x y:K.ai) (v:dl K x) (z:dl K y) (w:World):(Op.equal c (fb K x) (fb K y)).run P w=.ok (k7 K x y) w:=by
 rcases hk with rfl|rfl
 exact run_equalIn_int w 9999 c .i64 .i64 x y g.i64;obtain ⟨e0,u,b,C⟩:=g.arr;obtain ⟨D,l,r,_,_⟩:=b.gT;have n:List.length (α:=Int) x=2:=v.1;have o:List.length (α:=Int) y=2:=z.1
 match x,n,y,o with
 |[p,q],_,[d,e],_=>
  unfold Op.equal Op.maxDepth;rw [show (10000:Nat)=9999+1 from rfl,Op.equalIn];simp only [Sem.run_bind,run_underlying u,Result.andThen_ok,fb,bJ,fJ,nG,mA,List.flatten_nil,gg,gM];simp only [Std.Legacy.Range.forIn_eq_forIn_range',Std.Legacy.Range.size,Nat.sub_zero,Nat.add_sub_cancel,Nat.div_one,List.range'_succ,List.range'_zero,List.forIn_cons,List.forIn_nil];have f:∀x y,(Op.equalIn 9999 e0 (.int .i64 x) (.int .i64 y)).run P w=.ok (x==y) w:=λx y=>run_equalIn_int w 9998 e0 .i64 .i64 x y b.i64
  simp [sizeOf,typeInfo,l,r,Ty.size,Xq b.i64,k7];rw [f p d,Result.andThen_ok,f q e,Result.andThen_ok];change _=Result.ok (((show Int from p)==d)&&(((show Int from q)==e)&&true)) w;generalize ((show Int from p)==d)=h;generalize ((show Int from q)==e)=j;cases h<;>cases j<;>rfl
def hC (K:Ty) (key:K.ai):Nat->List (K.ai×Int×Unit)->Option (Nat×Int)
 |_,[]=>none
 |i,e::r=>if k7 K key e.1 then some (i,e.2.1) else hC K key (i+1) r
def sF (K:Ty) (xs:List (K.ai×Int×Unit)) (b:Array MapEntry):Prop:=
 b.size=xs.length/\∀(i:Nat) (x:K.ai×Int×Unit),xs[i]?=some x->dl K x.1/\∃e,b[i]?=some e/\e.key=fb K x.1/\e.val=.int .i64 x.2.1/\e.born=i
def af4 {K:Ty} {d:TypeId} (hk:iH K) (o:bE P K d) (key:K.ai) (q:dl K key) (w:World):∀(xs:List (K.ai×Int×Unit)) (b:List MapEntry) (i:Nat),b.length=xs.length->
 (∀(i:Nat) (x:K.ai×Int×Unit),xs[i]?=some x->dl K x.1/\∃e,b[i]?=some e/\e.key=fb K x.1/\e.val=.int .i64 x.2.1)->
 (Instr.findAsking d (fb K key) b i).run P w=.ok ((hC K key i xs).map λx=>(x.1,.int .i64 x.2)) w:=by
 intro xs
 induction xs with
 |nil=>
  intro b i c _;obtain rfl:=hO.1 c;rfl
 |cons x xs u=>
  intro b i c h;cases b with
  |nil=>cases c
  |cons e b=>
   obtain ⟨f,v,n,g,l⟩:=h 0 x rfl;obtain rfl:=b2 n;rw [Instr.findAsking,Sem.run_bind,g,aku hk o key x.1 q f,Result.andThen_ok,hC];cases k7 K key x.1 with
   |true=>simp [l]
   |false=>
    simp only [ie,c2];exact u b (i+1) (by simpa using c) λj y r=>h (j+1) y r
def af3 (key:Int):∀(xs:List (Int×Int×Unit)) (b:List MapEntry) (i:Nat),b.length=xs.length->
 (∀(i:Nat) (x:Int×Int×Unit),xs[i]?=some x->∃e,b[i]?=some e/\e.key=.int .i64 x.1/\e.val=.int .i64 x.2.1)->
 Instr.findNow (.int .i64) (.int .i64 key) b i=some ((hC (.int .i64) key i xs).map λx=>(x.1,.int .i64 x.2)):=by
 intro xs
 induction xs with
 |nil=>
  intro b i c _;obtain rfl:=hO.1 c;rfl
 |cons x xs n=>
  intro b i c h;cases b with
  |nil=>cases c
  |cons e b=>
   obtain ⟨o,g,d,f⟩:=h 0 x rfl;obtain rfl:=b2 g;rw [Instr.findNow,d];simp only [Instr.sameNow,cu];change _=some (Option.map _ (if (key==x.1) then some (i,x.2.1) else hC (.int .i64) key (i+1) xs));cases key==x.1 with
   |true=>simp [f]
   |false=>
    simp only [ie,c2];exact n b (i+1) (by simpa using c) λj y l=>h (j+1) y l
theorem xV {K:Ty} {n:TypeId} (hk:iH K) (g:bE P K n) (key:K.ai) (d:dl K key) (w:World) {xs:List (K.ai×Int×Unit)} {b:Array MapEntry} (h:sF K xs b):
 (Instr.findKey n (fb K key) b.toList).run P w=.ok ((hC K key 0 xs).map λx=>(x.1,.int .i64 x.2)) w:=by
 obtain ⟨c,q⟩:=h;have c:b.toList.length=xs.length:=by simpa using c
 have j:∀(i:Nat) (x:K.ai×Int×Unit),xs[i]?=some x->dl K x.1/\∃e,b.toList[i]?=some e/\e.key=fb K x.1/\e.val=.int .i64 x.2.1:=λi x d=>by
  grind
 unfold Instr.findKey;rcases hk with rfl|rfl
 rw [Sem.run_bind,run_underlying g.i64,Result.andThen_ok];have:=af3 key xs b.toList 0 c λi x d=>(j i x d).2
 rw [show Instr.findNow (.int .i64) (fb (.int .i64) key) b.toList 0=_ from this];rfl;obtain ⟨e0,o,_⟩:=g.arr;rw [Sem.run_bind,run_underlying o,Result.andThen_ok];cases f:b.toList with
 |nil=>
  rw [f] at c;obtain rfl:=hO.1 c.symm;rfl
 |cons e l=>
  rw [<-f];have:Instr.findNow (.array 2 e0) (fb (.arr 2 (.int .i64)) key) b.toList 0=none:=by rw [f];rfl
  rw [this];exact af4 (.inr rfl) g key d w xs b.toList 0 c j
theorem Ft {K:Ty} (key:K.ai):∀(xs:List (K.ai×Int×Unit)) (i:Nat),((hC K key i xs).map Prod.snd).getD 0=cX K key xs
 |[],_=>rfl
 |x::xs,i=>by
  rw [hC,cX];split;rfl;exact Ft key xs (i+1)
theorem kT.row {w:World} {K:Ty} {xs:List (K.ai×Int×Unit)} {ft:FT} {cs:List Value} (h:kT w (eu K) xs ft cs):iH K/\∃b c,ft=.node (some b) 0 []/\cs=[.map (some b)]/\w.heap[b]?=some (.map c c.size)/\sF K xs c:=by
 obtain ⟨d,b,c,e,f,h4,h5,h6⟩:=h;exact ⟨d,b,c,e,f,h4,h5,h6⟩
theorem yj (h:aC F G s a w) {b:Nat} {x:Value} (z:VR (ax s.box G) w F.R (.mp b) x) {K:Ty} {bx:bl} (l:s.box b=some bx) {k:List (K.ai×Int×Unit)->Option Z} {r:Z} (hk:h0 K bx.c k=some r):
 ∃(xs:List (K.ai×Int×Unit)) (d:Nat) (f:Array MapEntry),k xs=some r/\bx.c=.tup (.ab (.slice (eu K)) xs)/\bx.ty=.slice (eu K)/\x=.map (some d)/\(G b).ft=.node (some d) 0 []/\w.heap[d]?=some (.map f f.size)/\iH K/\sF K xs f:=by
 unfold h0 at hk;split at hk;rotate_left;cases hk;rename_i u xs q;split at hk;rotate_left;cases hk;rename_i y D;obtain ⟨rfl,rfl⟩:=eO D;obtain ⟨cs,j,_⟩:=(h.box b bx l).fa;rw [q] at j;obtain ⟨t,J,cap,aa,I,g,C⟩:=z.b3 (by simp) (by simp) rfl;simp only [gh,fK] at C;have n:ax s.box G b []=some (bx.ty,(G b).ft,(G b).bj.map (·,0)):=by
  simp only [ax,l];cases bx.ty<;>simp [ak]
 rw [n] at g;simp only [aX,bk] at g;obtain ⟨v,X,_⟩:=g;rw [v] at j;obtain ⟨e,o⟩:=(show _/\_ from j);subst e;obtain ⟨W,d,f,O,_,U,h4⟩:=o.row
 grind
theorem LU {A:b0} {R:Nat->Prop} {K:Ty} (f:iH K) {v:TV} {x:Value} (d:VR A w R v x) {k:K.ai->Option Z} {r:Z} (hk:jV K v k=some r):∃key,k key=some r/\x=fb K key/\dl K key:=by
 unfold jV at hk;split at hk;rotate_left;cases hk;split at hk;rotate_left;cases hk;rename_i y g;obtain ⟨rfl,rfl⟩:=eO g;refine ⟨_,hk,?_⟩;rcases d with d|⟨cs,e,b⟩
 cases d;rcases f with rfl|rfl
 obtain ⟨_,c,rfl⟩:=e;simp only [TV.agg,Ty.agg,ie,c2,bJ,gh,fK] at b;exact ⟨b.symm,c⟩;obtain ⟨_,c,rfl⟩:=e;simp only [TV.agg,Ty.agg,cu] at b;exact ⟨b,c⟩
def ahr (h:aC F G s a w) (f:dk P E F) {o:Oper} {t:TypeId} {m x:Operand} {ok:Bool} (j:o.op=.lookup t m x ok) (I:∀d,o.dst=some d->d<E.nt) {k:St->Option Z} {r:Z} (hk:a8 E o s k=some r):
 o.wp P a w (cf F k r) Q:=by
 unfold a8 at hk;rw [j] at hk;simp only at hk;split at hk;rotate_left;cases hk;rename_i K b y aa;obtain ⟨aj,ai,ad,l,ac,c⟩:=qx (f.maps t K y);have n:=cw h m;rw [aa] at n;unfold b5 at hk;split at hk;rotate_left;cases hk;rename_i bx D;obtain ⟨xs,u,e,U,_,_,ae,_,O,_,C⟩:=yj h n D hk;obtain ⟨key,W,X,g⟩:=LU c (cw h x) U;refine c1 (v:=.int .i64 (cX K key xs)) (w':=w) ?_ (dS h f (gJ _ _) I W);obtain ⟨i,hi,_,_,af⟩:=ac.gT;obtain ⟨z,ah,ak,z3⟩:=af rfl;have ag:z=.int .i64 0:=by
  cases z<;>simp_all [Value.cells,eS,aqF,Ty.agg]
 unfold execOp;rw [j];simp only [Sem.run_bind];have ab:(Instr.lookup t (a.eval m) (a.eval x) false).run P w=.ok (.int .i64 (cX K key xs)) w:=by
  unfold Instr.lookup;rw [ae,X];simp only [Sem.run_bind,run_underlying ad,Result.andThen_ok];have J:(getObj u).run P w=.ok (.map e e.size) w:=by
   simp [getObj,Sem.run,O]
  rw [J];simp only [Result.andThen_ok,Sem.run_bind,Sem.run_pure,yy c l key g,xV c l key g w C];rw [<-Ft key xs 0];cases hC K key 0 xs with
  |none=>simp [zeroValue,typeInfo,hi,ah,ag]
  |some q=>simp
 rw [ab];rfl
theorem LV {K:Ty} (b:iH K) {x y:K.ai} (h:k7 K x y=true):x=y:=by
 rcases b with rfl|rfl
 exact eq_of_beq (α:=Int) h;exact eq_of_beq (α:=List Int) h
theorem tY {K:Ty} (f:iH K) (key:K.ai) (v:Int):∀(xs:List (K.ai×Int×Unit)) (n:Nat),
 (hC K key n xs=none/\dz K key v xs=xs++[(key,v,())])\/∃i y,i<xs.length/\hC K key n xs=some (n+i,y)/\dz K key v xs=xs.set i (key,v,())/\∀x,xs[i]?=some x->x.1=key
 |[],n=>.inl ⟨rfl,rfl⟩
 |e::r,n=>by
  rw [hC,dz];cases hk:k7 K key e.1 with
  |true=>
   refine .inr ⟨0,e.2.1,by simp,by simp,by simp,λx b=>?_⟩;obtain rfl:=b2 b;exact (LV f hk).symm
  |false=>
   simp only [ie,c2];rcases tY f key v r (n+1) with ⟨c,d⟩|⟨i,y,c,d,g,h4⟩
   simp_all;exact .inr ⟨i+1,y,by simpa using c,by rw [d];simp;omega,by rw [g];rfl,λx b=>h4 x (by simpa using b)⟩
def Xu {K:Ty} (b:iH K) (x:K.ai) (d:dl K x):Instr.sameBits 10000 (fb K x) (fb K x)=true:=by
 rcases b with rfl|rfl
 simp only [fb,Instr.sameBits,bt]
 grind
 have c:List.length (α:=Int) x=2:=d.1
 match x,c with
 |[p,q],_=>
  simp only [fb,bJ,fJ,nG,mA,List.flatten_nil,gg,gM];rw [show (10000:Nat)=9999+1 from rfl,Instr.sameBits];simp [Instr.sameBits]
  grind
def aC.Ml (h:aC F G s a w) {b:Nat} {x:bl} (l:s.box b=some x) (u:x.cn=true) {f:Nat} (C:(G b).ft=.node (some f) 0 []) (o:Obj) {c:TV}
 (X:∀A:b0,a1 A {w with heap:=w.heap.setIfInBounds f o} F.R c x.ty (G b).ft [.map (some f)]):aC F G (s.b4 b {x with c:=c}) a {w with heap:=w.heap.setIfInBounds f o}:=by
 have K:ax s.box G b []=some (x.ty,(G b).ft,(G b).bj.map (·,0)):=by
  simp only [ax,l];cases x.ty<;>simp [ak]
 have I:f∈(G b).ae:=by simp [Gh.ae,C,FT.ae]
 obtain ⟨ad,ah,m3⟩:=h.bQ b x l f I;have J:∀d,d≠f->({w with heap:=w.heap.setIfInBounds f o}:World).heap[d]?=w.heap[d]?:=λd g=>by
  grind
 have O:G=λj=>if j=b then ⟨(G b).bj,bC x.ty (G b).ft [] (G b).ft⟩ else G j:=by
  funext j;have:bC x.ty (G b).ft [] (G b).ft=(G b).ft:=by cases x.ty<;>rfl
  rw [this];split;rename_i e;rw [e];rfl
 have W:=Eo l c;have D:hP (ax s.box G) (ax (s.b4 b {x with c:=c}).box G):=by
  intro ag q t ft af e
  grind [ax,bl.with]
 have z:∀d,F.R d->({w with heap:=w.heap.setIfInBounds f o}:World).heap[d]?=w.heap[d]?:=λd g=>J d λe=>ad (e▸g)
 have r:=h.box b x l;unfold dw at r;rw [ay u] at r;refine h.xR l K (λv=>v) O (λn=>rfl) (λi n=>rfl) rfl W (λv y u=>VR.mono D z u) (λc t ft cs U aa=>a1.mono D z c t ft cs U aa) ?_ ⟨by simp,rfl,rfl⟩ ?_ ?_ ?_ (λd g=>.inl g) ?_ (λ_ _=>by cases x.ty<;>rfl);unfold dw;rw [ay (show (x.with c).cn=true from u)];exact ⟨r.1,r.2.1,_,X _⟩;intro j y ab ac d g;exact J d λe=>h.c6 b j x y l ac (kM ab) f I (e▸g)
 grind
 rw [C];simp [FT.ae,FT.bq];intro d g;have:=h.bQ b x l d (by simp only [Gh.ae,bp];exact .inr g)
 grind
def ahA (h:aC F G s a w) (ag:dk P E F) {o:Oper} {t:TypeId} {m x v:Operand} (ar:o.op=.mapUpdate t m x v) {k:St->Option Z} {r:Z} (hk:a8 E o s k=some r):
 o.wp P a w (cf F k r) Q:=by
 unfold a8 at hk;rw [ar] at hk;simp only at hk;split at hk;rotate_left;cases hk;rename_i K b y al ah aq ax;obtain ⟨a2,az,ac,I,a1,d⟩:=qx (ag.maps t K ah);have ad:=cw h m;rw [aq] at ad;have u:=cw h v;rw [ax] at u;have u:=u.int;unfold b5 at hk;split at hk;rotate_left;cases hk;rename_i bx W
 try dsimp only at hk
 split at hk;rotate_left;cases hk;rename_i aw;obtain ⟨xs,U,C,an,_,av,f,X,D,_,aj⟩:=yj h ad W hk;obtain ⟨key,ao,aa,l⟩:=LU d (cw h x) an;have au:=Xu d key l;obtain ⟨n,O⟩:=aj;have ae:∀g,sF K (dz K key y xs) g->(Instr.mapUpdate t (a.eval m) (a.eval x) (a.eval v)).run P w=.ok () {w with heap:=w.heap.setIfInBounds U (.map g g.size)}->o.wp P a w (cf F k r) Q:=by
  intro g ak a0;have hrel:=h.Ml W aw X (.map g g.size) (c:=.tup (.ab (.slice (eu K)) (show List (K.ai×Int×Unit) from dz K key y xs))) λA=>by
   rw [av,X];refine ⟨rfl,d,U,g,rfl,rfl,?_,ak⟩
   grind
  refine OC ?_ ⟨G,_,(by rw [al];exact hrel),ao⟩;unfold execOp;simp_all
 rcases tY d key y xs 0 with ⟨J,q⟩|⟨i,z,J,q,af,h4⟩
 refine ae (C.push {key:=fb K key,val:=.int .i64 y,born:=C.size}) ⟨by rw [q];simp [n],λi x f=>?_⟩ ?_;rw [q] at f;by_cases hi:i<xs.length
 grind
 rw [List.getElem?_append_right (by omega)] at f;have am:i=xs.length:=by
  grind
 subst am;simp at f;subst f;exact ⟨l,{key:=fb K key,val:=.int .i64 y,born:=C.size},by rw [<-n];simp,rfl,rfl,n⟩;unfold Instr.mapUpdate;rw [f,aa,u];simp only [Sem.run_bind,run_underlying ac,Result.andThen_ok,Go.MapKept.run_getObj_map D,yy d I key l,xV d I key l w ⟨n,O⟩,J,uW];rw [Go.MapKept.run_setObj_map _ D];simp;refine ae (C.modify i λe=>{e with key:=fb K key,val:=.int .i64 y}) ⟨by rw [af];simp [n],λj x f=>?_⟩ ?_
 grind
 unfold Instr.mapUpdate;rw [f,aa,u];rw [ka] at q;obtain ⟨a3,e,ay,a4,a5,a6⟩:=O i _ (ba J);have ap:e.key=fb K key:=by simp_all
 simp only [Sem.run_bind,run_underlying ac,Result.andThen_ok,Go.MapKept.run_getObj_map D,yy d I key l,xV d I key l w ⟨n,O⟩,q,dn,ay,uV,ap,Instr.keyThatStays,au,cu,Sem.run_pure];rw [Go.MapKept.run_setObj_map _ D];simp
def ahz (h:aC F G s a w) {t:TypeId} {K:Ty} (q:oW P K t=true) {b:Nat} {x:Value} (v:VR (ax s.box G) w F.R (.mp b) x) {k:List (K.ai×Int×Unit)->Option Z} {r:Z}
 (hk:(b5 s b λx=>h0 K x.c k)=some r):∃(xs:List (K.ai×Int×Unit)) (e:Nat) (d:Array MapEntry),k xs=some r/\x=.map (some e)/\w.heap[e]?=some (.map d d.size)/\d.size=xs.length/\∃g f,P.underlying t=some (.map g f):=by
 obtain ⟨g,f,u,_⟩:=qx q;unfold b5 at hk;split at hk;rotate_left;cases hk;rename_i bx o;obtain ⟨xs,e,d,j,_,_,l,_,n,_,h4⟩:=yj h v o hk;exact ⟨xs,e,d,j,l,n,h4.1,g,f,u⟩
end
section
variable {Z:Type} {P:Program} {E:an} {F:Fr} {G:Nat->Gh} {s:St} {a:Act} {w:World} {Q:Exit->Act->World->Prop}
theorem aid {A:b0} {R:Nat->Prop}:∀(v:TV) (xs:List Value) (n:Nat) (u:TV),fh A w R v xs->fV v n=some u->∃x,xs[n]?=some x/\eI A w R u x:=by
 intro v
 induction v with
 |cons a r f d=>
  intro xs n u h b;cases xs with
  |nil=>exact h.elim
  |cons x xs=>
   cases n with
   |zero=>
    simp only [fV,aX] at b;subst b;exact ⟨x,rfl,h.1⟩
   |succ n=>
    simp only [fV] at b;obtain ⟨y,e,c⟩:=d xs n u h.2 b;exact ⟨y,e,c⟩
 |unit=>
  intro xs n u h b;cases n<;>simp [fV] at b
 |_=>intro xs n u h b;exact h.elim
theorem eI.vr {A:b0} {R:Nat->Prop} {v:TV} {x:Value} (h:eI A w R v x):VR A w R v x:=by
 rcases h with rfl|⟨cs,b,c⟩
 exact .inl rfl;exact dF b c
def UR (h:aC F G s a w) (j:dk P E F) {o:Oper} {x:Operand} {n:Nat} (b:o.op=.extract x n) (l:∀d,o.dst=some d->d<E.nt) {k:St->Option Z} {r:Z} (hk:a8 E o s k=some r):
 o.wp P a w (cf F k r) Q:=by
 unfold a8 at hk;rw [b] at hk;simp only at hk;have c:=cw h x;split at hk;rename_i v e;rw [e] at c;obtain ⟨xs,z,C⟩:=c;split at hk;rename_i u q;obtain ⟨y,f,g⟩:=aid v xs n u z q;refine c1 (v:=y) (w':=w) (by unfold execOp;rw [b];simp [C,Instr.extract,f]) (dS h j g.vr l hk);cases hk;cases hk
def af7 {t:Ty} (f:t.aW=true) {xs:List t.ai} (hk:∀x∈xs,dl t x) {m:Nat} {c:t.ai} (d:xs[m]?=some c):
 ∃pre post,(xs.map (bJ t)).flatten=pre++bJ t c++post/\pre.length=m*t.size:=by
 have j:=(b6.1 d).1;have e:=(b6.1 d).2;refine ⟨((xs.take m).map (bJ t)).flatten,((xs.drop (m+1)).map (bJ t)).flatten,?_,?_⟩;have:xs=xs.take m++c::xs.drop (m+1):=by
  rw [<-e,List.getElem_cons_drop,iR]
 grind
 have key:∀l:List t.ai,(∀x∈l,dl t x)->((l.map (bJ t)).flatten).length=l.length*t.size:=by
  intro l
  induction l with
  |nil=>intro _;simp
  |cons a l h=>
   intro b;simp only [fJ,mA,ea,jg];rw [hb t a f (b a (by simp)),h (λx g=>b x (by simp [g])),nM];omega
 grind
theorem ahL {A:b0} {R:Nat->Prop} {t:Ty} (b:t.aW=true) {c:t.ai} (hk:dl t c):VR A w R (.ad t c) (jX t (bJ t c)):=by
 refine dF (cs:=bJ t c) (Rd.fW b hk) ?_;unfold jX;simp only [TV.agg];split;rfl;rename_i d;have:=hb t c b hk;rw [ml t (by simpa using d)] at this
 match h:bJ t c,this with
 |[v],_=>rfl
theorem bE.bR {t:TypeId} (h:bE P .bR t):P.underlying t=some .string:=by
 simp only [bE,dH,bt] at h
 grind
theorem bE.int {t:TypeId} {k:IntKind} (h:bE P (.int k) t):P.underlying t=some (.int k):=by
 simp only [bE,dH,bt] at h
 grind
theorem akw {t:TypeId} (h:P.underlying t=some .string) {l:List UInt8} {m:Nat} {c:UInt8} (b:l[m]?=some c) (d:IntKind):
 (Instr.index t (.string ⟨l.toArray⟩) (.int d m)).run P w=.ok (.int .u8 (c.toNat:Int)) w:=by
 have f:=(b6.1 b).1;have e:=(b6.1 b).2;rw [run_index_string (P:=P) w t ⟨l.toArray⟩ d m h];have g:m<(ByteArray.mk l.toArray).size:=by simpa [ByteArray.size] using f
 rw [dif_pos ⟨by omega,by omega⟩];have j:(ByteArray.mk l.toArray)[m]'g=c:=by rw [<-e];rfl
 simp_all
theorem Xr {T:Ty} {t:TypeId} (h:bE P T t):(sizeOf t).run P w=.ok T.size w:=by
 obtain ⟨d,b,c,_⟩:=h.gT;simp [sizeOf,typeInfo,b,c]
theorem akv {n:Nat} {T:Ty} {t:TypeId} (h:bE P (.arr n T) t) {l:List T.ai} (v:l.length=n) (hk:∀x∈l,dl T x) {m:Nat} {c:T.ai} (b:l[m]?=some c) (o:IntKind):
 (Instr.index t (.agg ((l.map (bJ T)).flatten).toArray) (.int o m)).run P w=.ok (jX T (bJ T c)) w:=by
 obtain ⟨e0,j,f,d⟩:=h.arr;obtain ⟨pre,post,q,r⟩:=af7 d hk b;have u:=(b6.1 b).1;have e:=Gd (w:=w) f (pre:=pre) (cs:=bJ T c) (post:=post) (hb T c d (hk c (cz b))) (ml T);rw [r,<-q] at e;have g:(0:Int)<=(m:Int)/\(m:Int)<(n:Int):=by omega
 unfold Instr.index;simp only [asIntOf,Sem.run_bind,Sem.run_pure,Result.andThen_ok,run_underlying j,ay g,Xr f,fg];exact e
def agJ (h:aC F G s a w) (C:dk P E F) {o:Oper} {t:TypeId} {x y:Operand} (X:o.op=.index t x y) 
 (U:∀d,o.dst=some d->d<E.nt) {k:St->Option Z} {r:Z} (hk:a8 E o s k=some r):
 o.wp P a w (cf F k r) Q:=by
 unfold a8 at hk;rw [X] at hk;simp only [dT] at hk;have b:=cw h x;have al:=cw h y;split at hk;rename_i T ad;have J:=C.ty t T ad;obtain ⟨aa,i,ab,hk⟩:=k0 al hk;split at hk;rename_i _T _v l e _hk;rw [e] at b;have aj:=J.bR;obtain ⟨b,_⟩:=VR.bR b;split at hk;rename_i c D;obtain ⟨m,rfl,W⟩:=LC D;have ah:=(b6.1 W).1;refine c1 (v:=.int .u8 (c.toNat:Int)) (w':=w) ?_ (dS h C (gJ _ _) U hk);unfold execOp;rw [X];have:=akw (w:=w) aj W aa;simp [b,ab,this];cases hk;rename_i _T _v n u m f z e _hk;rw [e] at b;split at hk;rename_i g;have g:Ty.arr m f=Ty.arr n u:=e7 g;simp only [Ty.arr.injEq] at g;obtain ⟨rfl,rfl⟩:=g;obtain ⟨e0,ap,ao,af⟩:=J.arr;split at hk;rename_i c D;obtain ⟨q,rfl,I⟩:=LC D;have ah:=(b6.1 I).1;obtain ⟨cs,ae,ak⟩:=b.cells (by simp) (by simp);simp only [TV.agg,Ty.agg,cu] at ak;obtain ⟨am,ac,K⟩:=ae;obtain ⟨j,O⟩:=ac;have j:z.length=m:=j;have K:cs=((show List f.ai from z).map (bJ f)).flatten:=K;have ag:dl f c:=O c (cz I);have an:=akv (w:=w) J (l:=z) j O I aa;refine c1 (v:=jX f (bJ f c)) (w':=w) ?_ (dS h C (ahL af ag) U hk);unfold execOp;simp_all;cases hk;cases hk;cases hk;cases hk
theorem akt {R:Nat->Prop} {t u:TypeId} (X:bE P (.slice (.int .u8)) t) (U:bE P .bR u) (xs:List Int) {x:Value} (O:Rd w R (.slice (.int .u8)) xs [x]):
 (convert t u x).run P w=.ok (.string ⟨(xs.map λn:Int=>UInt8.ofNat n.toNat).toArray⟩) w/\(xs.map λn:Int=>UInt8.ofNat n.toNat).length<=eL:=by
 obtain ⟨e0,r,W⟩:=X.slice;have o:=W.int;have q:=U.bR;obtain ⟨d,cap,e,⟨j,l⟩,J⟩:=O;have j:xs.length<=cap:=j;have l:xs.length<=eL:=l;have e:x=.slice d xs.length cap:=(hq e).1;subst e;refine ⟨?_,by simp_all⟩;by_cases v:xs=[]
 ·subst v;have aa:(convert t u (.slice d 0 cap)).run P w=.ok (.string ByteArray.empty) w:=by
   rw [run_convert_bytes_string w t u e0 _ 0 cap r o q];cases d<;>simp [Conv.bytesToString,loadCells]
   all_goals rfl
  exact aa
 obtain ⟨b,f,rfl,_,C⟩:=J v;exact run_convert_bytes_arg (P:=P) w t e0 r o b f xs.length cap xs rfl (λi hi=>by
  have I:xs[i]?=some (xs.getD i 0):=by simp_all
  obtain ⟨c,D,K⟩:=C i (xs.getD i 0) I;obtain ⟨_,_,rfl⟩:=K;obtain ⟨row,ab,fz,g,y,h⟩:=D;simp only [Ty.size,Nat.mul_one] at g y h;have ac:f+i<row.size:=by omega
  have z:(List.take 1 (List.drop (f+i) row.toList))[0]?=some (.int .u8 (xs.getD i 0)):=by rw [h];rfl
  simp only [World.cell?,g];simpa using z) u q
def afh (h:aC F G s a w) (b:dk P E F) {o:Oper} {t u:TypeId} {x:Operand} (g:o.op=.convert t u x) (f:∀d,o.dst=some d->d<E.nt) {k:St->Option Z} {r:Z} (hk:a8 E o s k=some r):
 o.wp P a w (cf F k r) Q:=by
 unfold a8 at hk;rw [g] at hk;simp only [dT] at hk;have c:=cw h x;split at hk;rename_i U C;have l:=b.ty t U C;split at hk;rename_i T z;have j:=b.ty u T z;split at hk;rename_i W q X n e;rw [e] at c;have I:=c.int;refine c1 (v:=.int q (q.wrap n)) (w':=w) ?_ (dS h b (gJ _ _) f hk);unfold execOp;rw [g];simp [I,convert,run_underlying l.int,run_underlying j.int,Conv.intToInt];rename_i K J aa;obtain ⟨xs,hk,D⟩:=NC h c hk;obtain ⟨O,y⟩:=akt l j xs D;refine c1 (w':=w) ?_ (dS h b (Ox y) f hk);unfold execOp;simp_all;cases hk;cases hk;cases hk
def aht (h:aC F G s a w) (z:dk P E F) {o:Oper} {fn:Fn} {first b:Array Operand} (n:o.op=.makeFunc fn first b) (C:∀d,o.dst=some d->d<E.nt) {k:St->Option Z} {r:Z} (hk:a8 E o s k=some r):
 o.wp P a w (cf F k r) Q:=by
 unfold a8 at hk;rw [n] at hk;simp only at hk;split at hk;rotate_left;cases hk;rename_i f g;have g:first= #[]:=by simpa using g
 subst g;split at hk;rename_i c;have c:∀x∈b.toList,(s.ev x).E6=true:=eT.1 c
 have key:∀l:List Operand,(∀x∈l,(s.ev x).E6=true)->bH (ax s.box G) w F.R (l.foldr (λx r=>.cons (s.ev x) r) .unit) (l.map a.eval):=by
  intro l
  induction l with
  |nil=>intro _;rfl
  |cons x l I=>
   intro j;have e:=j x (by simp);have u:=cw h x;refine ⟨[a.eval x],l.map a.eval,rfl,?_,I (λy D=>j y (by simp [D]))⟩;cases q:s.ev x<;>rw [q] at e<;>simp [TV.E6] at e
   rw [q] at u;exact u.b3 (by simp) (by simp) rfl
 refine c1 (v:=.func (.func f) #[] (b.map a.eval)) (w':=w) (by unfold execOp;rw [n];simp [Instr.makeFunc]) (dS h z ?_ C hk);refine dF (cs:=[_]) ⟨_,key b.toList c,rfl⟩ ?_;cases b;simp [TV.agg];cases hk
end
end Go.TM
