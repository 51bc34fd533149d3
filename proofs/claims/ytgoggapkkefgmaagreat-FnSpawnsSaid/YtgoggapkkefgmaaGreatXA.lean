/- PROVED HERE: the row FnSpawnsSaid as it is given: FnSpawns answers true for all codes; it asks for nothing more. Part 1 of 8 (the theorem stands in the last one; here: the machine over typed data, sound against the model). Own names are shortened. -/
import Derived.Deep.AppendSrc
import Derived.Deep.MidRow
import Derived.Great.BuildSlice
import Derived.Laws.Build
import Derived.Laws.MakeOwn
import Derived.Laws.Slices
import Derived.Laws.StructEq
import Derived.MapKept
import Derived.Orders
import Derived.Tactics
set_option autoImplicit false
set_option linter.unusedVariables false
set_option linter.unusedSimpArgs false
set_option linter.constructorNameAsVariable false
set_option linter.defProp false
namespace Go.TM
def aj:=@if_neg
def av:=@cond_true
def ak:=@if_pos
def az:=@Option.some.injEq
def aT:=@List.getElem?_eq_getElem
def aO:=@Prod.mk.injEq
def aZ:=@List.mem_append
def ba:=@decide_eq_true
def bp:=@Bool.and_eq_true
def bM:=@Nat.zero_le
def bm:=@decide_eq_false
def bk:=@Option.some.inj
def bR:=@List.getElem?_eq_some_iff
def b5:=@if_true
def cn:=@List.nodup_append
def cS:=@List.mem_of_getElem?
def b9:=@List.mem_map
def cf:=@Nat.le_refl
def cY:=@List.getElem_mem
def cL:=@if_false
def cx:=@Option.map_some
def dx:=@congrArg
def dJ:=@List.nil_append
def ed:=@Bool.not_false
def cy:=@List.mem_cons
def cw:=@List.length_append
def dE:=@List.all_eq_true
def eU:=@of_decide_eq_true
def er:=@Int.toNat_natCast
def c2:=@List.length_map
def gB:=@List.mem_singleton
def fc:=@Bool.or_eq_true
def dh:=@List.map_cons
def eM:=@and_true
def c6:=@List.append_assoc
def eK:=@List.cons.injEq
def e2:=@List.map_append
def fe:=@Nat.eq_of_beq_eq_true
def gP:=@Iff.rfl
def eF:=@List.append_nil
def dB:=@List.mem_filter
def g5:=@List.singleton_append
def gQ:=@not_or
def hp:=@Int.eq_ofNat_of_zero_le
def dI:=@List.length_set
def gD:=@List.range_succ
def hn:=@Bool.not_eq_true'
def hq:=@List.cons.inj
def et:=@List.mem_range
def fW:=@Option.toList_some
def hI:=@List.length_eq_zero_iff
def hl:=@Bool.false_eq_true
def ho:=@Classical.byContradiction
def fD:=@List.take_length
def hJ:=@List.take_append_drop
def ff:=@beq_iff_eq
def jF:=@Bool.not_eq_true
def hG:=@List.filter_append
def jJ:=@List.nodup_cons
def iD:=@List.take_add_one
def iB:=@Array.getD_eq_getD_getElem?
def jl:=@Int.tmod_eq_emod_of_nonneg
def jG:=@List.cons_append
def kb:=@List.drop_drop
def hH:=@List.length_cons
def ke:=@Nat.mul_le_mul_right
def iE:=@beq_false
def kc:=@List.drop_eq_getElem_cons
def ld:=@List.pairwise_iff_getElem
def eL:=@Nat.zero_add
def kf:=@bne_self_eq_false
def k7:=@Bool.false_or
def g2:=@List.getElem?_eq_none
def gA:=@List.length_filter_le
def jL:=@Nat.lt_of_lt_of_le
def kE:=@Nat.pow_le_pow_right
def fV:=@Ne.symm
def lW:=@List.ext_getElem?
def h3:=@List.nodup_nil
def lX:=@List.pairwise_append
def iC:=@List.pairwise_map
def k8:=@List.flatten_cons
def m1:=@List.mem_flatMap
def pR:=@List.mem_iff_getElem
def kF:=@Nat.two_pow_pos
def pM:=@Int.tdiv_eq_ediv_of_nonneg
def ol:=@List.Pairwise.filter
def gC:=@List.map_nil
def g4:=@List.mem_cons_self
def m2:=@List.mem_or_eq_of_mem_set
def lY:=@Nat.beq_refl
def lZ:=@Nat.lt_succ_self
def fP:=@Nat.succ_mul
def kG:=@decide_eq_true_eq
def g3:=@List.getElem?_set
def oo:=@List.mem_iff_getElem?
def pT:=@List.pairwise_cons
def pV:=@Nat.le_of_ble_eq_true
def pB:=@Option.ne_none_iff_exists'
def hF:=@Array.getElem?_toList
def gO:=@Bool.eq_iff_iff
def mZ:=@Bool.true_and
def rC:=@List.eq_of_mem_replicate
def kC:=@List.getElem?_set_self
def rF:=@List.map_congr_left
def pS:=@List.not_mem_nil
def rG:=@List.pairwise_singleton
def jK:=@Nat.add_zero
def h7:=@beq_eq_false_iff_ne
def l0:=@beq_self_eq_true
def rK:=@decide_eq_false_iff_not
def gE:=@decide_eq_true_iff
def u1:=@Array.toList_map
def pL:=@Bool.eq_false_iff
def rA:=@Classical.not_not
def jH:=@List.drop_zero
def rD:=@List.filter_congr
def u4:=@List.mem_filterMap
def u5:=@List.nodup_range
def u7:=@Nat.succ_le_of_lt
def rJ:=@Option.map_none
def pK:=@Array.getElem?_eq_some_iff
def zb:=@List.append_eq_nil_iff
def om:=@List.countP_append
def zc:=@List.eq_nil_iff_forall_not_mem
def jI:=@List.getElem?_map
def pU:=@List.size_toArray
def u6:=@Nat.ble_eq_true_of_le
def rI:=@Option.getD_some
def ou:=@Option.isSome_iff_exists
def zh:=@Option.toList_none
def Ga:=@Array.getElem?_replicate
def zf:=@List.perm_ext_iff_of_nodup
def oq:=@List.sum_append
inductive Ty where
 |int (k:IntKind)|bool|bP|bG
 |slice (t:Ty)
 |unit|cons (t r:Ty)
 |arr (n:Nat) (t:Ty)
 deriving DecidableEq
def Ty.ai:Ty→Type
 | .int _=>Int
 | .bool=>Bool
 | .bP=>List UInt8
 | .bG=>Unit
 | .slice t=>List t.ai
 | .unit=>Unit
 | .cons t r=>t.ai×r.ai
 | .arr _ t=>List t.ai
def Ty.size:Ty→Nat
 | .unit=>0
 | .cons t r=>t.size+r.size
 | .arr n t=>n*t.size
 |_=>1
def Ty.aQ:Ty→Bool
 | .slice _=>false
 | .bG=>false
 | .cons t r=>t.aQ&&r.aQ
 | .arr _ t=>t.aQ
 |_=>true
def Ty.agg:Ty→Bool
 | .unit| .cons _ _| .arr _ _=>true
 |_=>false
def Ty.cF:Ty→Prop
 | .cons t r=>t.cF∧r.cF∧(r=.unit∨∃c d,r=.cons c d)
 | .slice t=>t.cF
 | .arr _ t=>t.cF
 |_=>True
def Ty.iU:Ty→Bool
 | .cons t r=>t.iU&&r.iU&&(match r with
  | .unit=>true
  | .cons _ _=>true
  |_=>false)
 | .slice t=>t.iU
 | .arr _ t=>t.iU
 |_=>true
theorem Ty.o8 {t:Ty} (h:t.iU=true):t.cF:=by
 induction t with
 |slice t b=>exact b h
 |arr n t b=>exact b h
 |cons t r d c=>
  simp only [Ty.iU,bp] at h;refine ⟨d h.1.1,c h.1.2,?_⟩
  grind
 |_=>trivial
inductive FT where
 |leaf
 |node (b:Option Nat) (cap:Nat) (eh:List FT)
 |eQ (a r:FT)
def FT.fst:FT→FT
 | .eQ a _=>a
 |_=>.leaf
def FT.snd:FT→FT
 | .eQ _ r=>r
 |_=>.leaf
mutual
def FT.ae:FT→List Nat
 | .leaf=>[]
 | .node b _ c=>b.toList++FT.bq c
 | .eQ a r=>a.ae++r.ae
def FT.bq:List FT→List Nat
 |[]=>[]
 |k::b=>k.ae++FT.bq b
end
def At (w:World) (b o n:Nat) (cs:List Value):Prop:=
 ∃row e fz,w.heap[b]?=some (.cells row e fz)∧o+n≤row.size∧(row.toList.drop o).take n=cs
def eZ:Nat:=140737488355328
def sub (cs:List Value) (o n:Nat):List Value:=(cs.drop o).take n
def bE:(t:Ty)→t.ai→List Value
 | .int k,x=>[.int k x]
 | .bool,x=>[.bool x]
 | .bP,x=>[.string ⟨List.toArray (α:=UInt8) x⟩]
 | .cons t r,x=>bE t x.1++bE r x.2
 | .arr _ t,xs=>(List.map (bE t) xs).flatten
 |_,_=>[]
def dm:(t:Ty)→t.ai→Prop
 | .bP,x=>List.length (α:=UInt8) x≤eZ
 | .cons t r,x=>dm t x.1∧dm r x.2
 | .arr n t,xs=>List.length (α:=t.ai) xs=n∧∀x∈(show List t.ai from xs),dm t x
 | .slice _,_=>False
 | .bG,_=>False
 |_,_=>True
def bb (w:World):(t:Ty)→t.ai→FT→List Value→Prop
 | .slice t,xs,ft,cs=>∃b cap d,ft=.node b cap d∧cs=[.slice (b.map (⟨·,0,none⟩)) (List.length (α:=t.ai) xs) cap]∧
  List.length (α:=t.ai) xs≤cap∧List.length (α:=t.ai) xs≤eZ∧d.length=List.length (α:=t.ai) xs∧
  (match b with
   |none=>cap=0
   |some b=>(∃row e,w.heap[b]?=some (.cells row e (0,0))∧cap*t.size=row.size)∧
    ∀(i:Nat) (x:t.ai) (k:FT),(show List t.ai from xs)[i]?=some x→d[i]?=some k→∃c,At w b (i*t.size) t.size c∧bb w t x k c)
 | .cons t r,x,ft,cs=>ft.ae=ft.fst.ae++ft.snd.ae∧∃f g,cs=f++g∧bb w t x.1 ft.fst f∧bb w r x.2 ft.snd g
 | .bG,_,_,_=>False
 |t,x,ft,cs=>t.aQ=true∧dm t x∧ft.ae=[]∧cs=bE t x
def Rd (w:World) (R:Nat→Prop):(t:Ty)→t.ai→List Value→Prop
 | .slice t,xs,cs=>∃a cap,cs=[.slice a (List.length (α:=t.ai) xs) cap]∧(List.length (α:=t.ai) xs≤cap∧List.length (α:=t.ai) xs≤eZ)∧
  ((show List t.ai from xs)≠[]→∃b o,a=some ⟨b,o,none⟩∧R b∧
    ∀(i:Nat) (x:t.ai),(show List t.ai from xs)[i]?=some x→∃c,At w b (o+i*t.size) t.size c∧Rd w R t x c)
 | .cons t r,x,cs=>∃d e,cs=d++e∧Rd w R t x.1 d∧Rd w R r x.2 e
 | .bG,_,_=>False
 |t,x,cs=>t.aQ=true∧dm t x∧cs=bE t x
theorem At.len {w:World} {b o n:Nat} {cs:List Value} (h:At w b o n cs):cs.length=n:=by
 obtain ⟨row,e,fz,_,c,rfl⟩:=h;simp;omega
theorem At.bQ {w w':World} {b o n:Nat} {cs:List Value} (c:w'.heap[b]?=w.heap[b]?) (h:At w b o n cs):At w' b o n cs:=by
 unfold At at*;rw [c];exact h
theorem hy:∀(t:Ty) (x:t.ai),t.aQ=true→dm t x→(bE t x).length=t.size
 | .int _,_,_,_=>rfl
 | .bool,_,_,_=>rfl
 | .bP,_,_,_=>rfl
 | .bG,_,h,_=>by simp [Ty.aQ] at h
 | .slice _,_,h,_=>by simp [Ty.aQ] at h
 | .unit,_,_,_=>rfl
 | .cons t r,x,h,hk=>by
  simp only [Ty.aQ,bp] at h;simp only [bE,cw,Ty.size];rw [hy t x.1 h.1 hk.1,hy r x.2 h.2 hk.2]
 | .arr n t,xs,h,hk=>by
  have d:List.length (α:=t.ai) xs=n:=hk.1;have c:=hk.2;simp only [bE,Ty.size];rw [←d];clear hk d;revert c;generalize b:(show List t.ai from xs)=l;change (∀x∈l,dm t x)→_;have:xs=l:=b;subst this;intro c;have key:∀l:List t.ai,(∀x∈l,dm t x)→((l.map (bE t)).flatten).length=l.length*t.size:=by
   intro l
   induction l with
   |nil=>intro _;simp
   |cons a l f=>
    intro b;simp only [dh,k8,cw,hH];rw [hy t a h (b a (by simp)),f (fun x e=>b x (by simp [e]))]
    grind
  exact key _ c
theorem bb.bQ {w w':World}:∀(t:Ty) (x:t.ai) (ft:FT) (cs:List Value),(∀b∈ft.ae,w'.heap[b]?=w.heap[b]?)→bb w t x ft cs→bb w' t x ft cs
 | .int _,_,_,_,_,h=>h
 | .bool,_,_,_,_,h=>h
 | .bP,_,_,_,_,h=>h
 | .bG,_,_,_,_,h=>h
 | .unit,_,_,_,_,h=>h
 | .arr _ _,_,_,_,_,h=>h
 | .cons t r,x,ft,cs,d,h=>by
  obtain ⟨g,n,o,rfl,j,l⟩:=h;exact ⟨g,n,o,rfl,bb.bQ t x.1 ft.fst n (fun b m=>d b (by simp [g,m])) j,bb.bQ r x.2 ft.snd o (fun b m=>d b (by simp [g,m])) l⟩
 | .slice t,xs,ft,cs,d,h=>by
  obtain ⟨b,cap,f,rfl,rfl,j,l,q,h4⟩:=h;refine ⟨b,cap,f,rfl,rfl,j,l,q,?_⟩;cases b with
  |none=>exact h4
  |some b=>
   obtain ⟨⟨row,e,h5,h6⟩,u⟩:=h4;have e0:w'.heap[b]?=w.heap[b]?:=d b (by simp [FT.ae]);refine ⟨⟨row,e,by rw [e0];exact h5,h6⟩,fun i x k z hk=>?_⟩;obtain ⟨c,v,y⟩:=u i x k z hk;refine ⟨c,v.bQ e0,bb.bQ t x k c (fun C m=>d C ?_) y⟩;have D:k∈f:=cS hk;clear hk z y v u q d h5 h6 e0;simp only [FT.ae,aZ];right
   induction f with
   |nil=>cases D
   |cons k' f I=>
    simp only [FT.bq,aZ]
    grind
theorem Rd.bQ {w w':World} {R j:Nat→Prop} (d:∀b,R b→j b) (e:∀b,R b→w'.heap[b]?=w.heap[b]?):∀(t:Ty) (x:t.ai) (cs:List Value),Rd w R t x cs→Rd w' j t x cs
 | .int _,_,_,h=>h
 | .bool,_,_,h=>h
 | .bP,_,_,h=>h
 | .bG,_,_,h=>h
 | .unit,_,_,h=>h
 | .arr _ _,_,_,h=>h
 | .cons t r,x,cs,h=>by
  obtain ⟨l,n,rfl,f,g⟩:=h;exact ⟨l,n,rfl,Rd.bQ d e t x.1 l f,Rd.bQ d e r x.2 n g⟩
 | .slice t,xs,cs,h=>by
  obtain ⟨a,cap,rfl,f,g⟩:=h;refine ⟨a,cap,rfl,f,fun y=>?_⟩;obtain ⟨b,o,rfl,q,u⟩:=g y;refine ⟨b,o,rfl,d b q,fun i x C=>?_⟩;obtain ⟨c,v,z⟩:=u i x C;exact ⟨c,v.bQ (e b q),Rd.bQ d e t x c z⟩
theorem bb.len {w:World}:∀(t:Ty) (x:t.ai) (ft:FT) (cs:List Value),bb w t x ft cs→cs.length=t.size
 | .int _,_,_,_,h=>by obtain ⟨_,_,_,rfl⟩:=h;rfl
 | .bool,_,_,_,h=>by obtain ⟨_,_,_,rfl⟩:=h;rfl
 | .bP,_,_,_,h=>by obtain ⟨_,_,_,rfl⟩:=h;rfl
 | .bG,_,_,_,h=>h.elim
 | .unit,_,_,_,h=>by obtain ⟨_,_,_,rfl⟩:=h;rfl
 | .arr _ _,_,_,_,h=>by obtain ⟨c,d,_,rfl⟩:=h;exact hy _ _ c d
 | .cons t r,x,_,_,h=>by
  obtain ⟨_,e,f,rfl,c,d⟩:=h;simp [Ty.size,bb.len t x.1 _ e c,bb.len r x.2 _ f d]
 | .slice t,xs,ft,cs,h=>by obtain ⟨b,cap,g,_,rfl,_⟩:=h;rfl
theorem Rd.len {w:World} {R:Nat→Prop}:∀(t:Ty) (x:t.ai) (cs:List Value),Rd w R t x cs→cs.length=t.size
 | .int _,_,_,h=>by obtain ⟨_,_,rfl⟩:=h;rfl
 | .bool,_,_,h=>by obtain ⟨_,_,rfl⟩:=h;rfl
 | .bP,_,_,h=>by obtain ⟨_,_,rfl⟩:=h;rfl
 | .bG,_,_,h=>h.elim
 | .unit,_,_,h=>by obtain ⟨_,_,rfl⟩:=h;rfl
 | .arr _ _,_,_,h=>by obtain ⟨b,c,rfl⟩:=h;exact hy _ _ b c
 | .cons t r,x,_,h=>by
  obtain ⟨d,e,rfl,b,c⟩:=h;simp [Ty.size,Rd.len t x.1 d b,Rd.len r x.2 e c]
 | .slice t,xs,cs,h=>by obtain ⟨a,cap,rfl,_⟩:=h;rfl
theorem bb.rd {w:World} {R:Nat→Prop}:∀(t:Ty) (x:t.ai) (ft:FT) (cs:List Value),(∀b∈ft.ae,R b)→bb w t x ft cs→Rd w R t x cs
 | .int _,_,_,_,_,h=>⟨h.1,h.2.1,h.2.2.2⟩
 | .bool,_,_,_,_,h=>⟨h.1,h.2.1,h.2.2.2⟩
 | .bP,_,_,_,_,h=>⟨h.1,h.2.1,h.2.2.2⟩
 | .bG,_,_,_,_,h=>h
 | .unit,_,_,_,_,h=>⟨h.1,h.2.1,h.2.2.2⟩
 | .arr _ _,_,_,_,_,h=>⟨h.1,h.2.1,h.2.2.2⟩
 | .cons t r,x,ft,cs,e,h=>by
  obtain ⟨o,l,n,rfl,f,g⟩:=h;exact ⟨l,n,rfl,bb.rd t x.1 _ l (fun b m=>e b (by simp [o,m])) f,bb.rd r x.2 _ n (fun b m=>e b (by simp [o,m])) g⟩
 | .slice t,xs,ft,cs,e,h=>by
  obtain ⟨b,cap,d,rfl,rfl,f,g,y,h4⟩:=h;refine ⟨_,cap,rfl,⟨f,g⟩,fun C=>?_⟩;cases b with
  |none=>
   subst h4
   grind
  |some b=>
   refine ⟨b,0,rfl,e b (by simp [FT.ae]),fun i x u=>?_⟩;have hi:i<d.length:=by
    grind
   obtain ⟨c,z,q⟩:=h4.2 i x d[i] u (aT hi);refine ⟨c,by simp_all,bb.rd t x d[i] c (fun v m=>e v ?_) q⟩;have j:d[i]∈d:=cY hi;revert m j;generalize d[i]=k;clear u q z h4 y e hi;intro m j;simp only [FT.ae,aZ];right
   induction d with
   |nil=>cases j
   |cons k' d D=>
    simp only [FT.bq,aZ]
    grind
inductive abz where
 |f (n:Nat)
 |i (n:Nat)
 deriving DecidableEq
abbrev aI:=List abz
def aI.dG:aI→Bool
 |[]=>false
 | .i _::_=>true
 | .f _::p=>aI.dG p
def cE:Ty→aI→Option Ty
 |t,[]=>some t
 | .cons t _,.f 0::p=>cE t p
 | .cons _ r,.f (n+1)::p=>cE r (.f n::p)
 | .slice t,.i _::p=>cE t p
 | .arr _ t,[.i _]=>if t.agg then none else some t
 |_,_=>none
inductive TV where
 |un
 |ad (t:Ty) (x:t.ai)
 |ab (t:Ty) (x:t.ai)
 |nil
 |unit
 |cons (a r:TV)
 |tup (a:TV)
 |ref (b:Nat) (p:aI)
 |sl (b:Nat) (p:aI)
 |slw (b:Nat) (p:aI) (lo len:Nat)
 |bw (t:Ty) (x:t.ai)
 |bV (f:Nat) (c:TV)
 |mp (b:Nat)
structure bl where
 ty:Ty
 cm:Bool
 dN:Bool
 c:TV
structure St where
 tmps:List (Nat×TV)
 cj:List (Nat×bl)
 sv:List (List (Nat×TV)):=[]
def lk {α:Type} (l:List (Nat×α)) (n:Nat):Option α:=
 match l with
 |[]=>none
 |(k,v)::r=>if Nat.beq k n then some v else lk r n
def St.gy (s:St) (i n:Nat):TV:=(lk (s.sv.getD i []) n).getD .un
def St.get (s:St) (n:Nat):TV:=(lk s.tmps n).getD .un
def St.put (s:St) (n:Nat) (v:TV):St:={s with tmps:=(n,v)::s.tmps}
def St.box (s:St) (n:Nat):Option bl:=lk s.cj n
def bD {α:Type} (l:List (Nat×α)) (n:Nat) (v:α):List (Nat×α):=
 match l with
 |[]=>[]
 |(k,x)::r=>if Nat.beq k n then (k,v)::r else (k,x)::bD r n v
def St.b4 (s:St) (n:Nat) (b:bl):St:={s with cj:=bD s.cj n b}
def cM (a b:Ty) (x:a.ai):Option b.ai:=
 match decEq a b with
 | .isTrue h=>some (h▸x)
 | .isFalse _=>none
def pb {α:Type} (l:List α) (i:Int):Option α:=
 match i with
 | .ofNat n=>l[n]?
 | .negSucc _=>none
def iV {α:Type} (l:List α) (n:Nat):Option α:=l[n]?
def lone:Ty→aI→Bool
 | .slice _,[]=>true
 | .cons t r,.f 0::p=>lone t p&&r.aQ
 | .cons t r,.f (n+1)::p=>t.aQ&&lone r (.f n::p)
 |_,_=>false
def aeC:TV→Bool
 | .tup (.cons (.ab (.slice _) _) (.ab (.slice .bool) _))=>true
 |_=>false
section
variable {ρ:Type}
def cq:(t:Ty)→t.ai→aI→((u:Ty)→u.ai→Option ρ)→Option ρ
 |t,x,[],k=>k t x
 | .cons t _,x,.f 0::p,k=>cq t x.1 p k
 | .cons _ r,x,.f (n+1)::p,k=>cq r x.2 (.f n::p) k
 | .slice t,xs,.i n::p,k=>match iV (α:=t.ai) xs n with
  |some x=>cq t x p k
  |none=>none
 | .arr _ t,xs,.i n::p,k=>if t.agg then none else match iV (α:=t.ai) xs n with
  |some x=>cq t x p k
  |none=>none
 |_,_,_,_=>none
def dU:(t:Ty)→t.ai→aI→(u:Ty)→u.ai→(t.ai→Option ρ)→Option ρ
 |t,_,[],u,y,k=>match cM u t y with
  |some z=>k z
  |none=>none
 | .cons t _,x,.f 0::p,u,y,k=>dU t x.1 p u y fun a=>k (a,x.2)
 | .cons _ r,x,.f (n+1)::p,u,y,k=>dU r x.2 (.f n::p) u y fun a=>k (x.1,a)
 | .slice t,xs,.i n::p,u,y,k=>match iV (α:=t.ai) xs n with
  |some x=>dU t x p u y fun a=>k (List.set (α:=t.ai) xs n a)
  |none=>none
 | .arr _ t,xs,.i n::p,u,y,k=>if t.agg then none else match iV (α:=t.ai) xs n with
  |some x=>dU t x p u y fun a=>k (List.set (α:=t.ai) xs n a)
  |none=>none
 |_,_,_,_,_,_=>none
def qN:TV→Nat→aI→(TV→Option ρ)→Option ρ
 | .cons (.ab (.slice t) xs) (.ab (.slice .bool) b),n,p,k=>match iV (α:=t.ai) xs n with
  |some x=>match iV (α:=Bool) b n with
   |some g=>cq t x p fun u y=>cond (cond (aI.dG p|| !u.aQ) g false) none (k (if u.aQ then .ad u y else .ab u y))
   |none=>none
  |none=>none
 |_,_,_,_=>none
def n3:TV→Nat→aI→TV→(TV→Option ρ)→Option ρ
 | .cons (.ab (.slice t) xs) (.ab (.slice .bool) b),n,p,v,k=>match iV (α:=t.ai) xs n with
  |some x=>match iV (α:=Bool) b n with
   |some g=>cond g none (match v with
    | .un=>if lone t p then k (.tup (.cons (.ab (.slice t) xs) (.ab (.slice .bool) (List.set (α:=Bool) b n true)))) else none
    | .ab u y=>dU t x p u y fun a=>k (.tup (.cons (.ab (.slice t) (List.set (α:=t.ai) xs n a)) (.ab (.slice .bool) b)))
    | .ad u y=>if u.aQ then dU t x p u y fun a=>k (.tup (.cons (.ab (.slice t) (List.set (α:=t.ai) xs n a)) (.ab (.slice .bool) b))) else none
    |_=>none)
   |none=>none
  |none=>none
 |_,_,_,_,_=>none
def T0:TV→(Nat→Option ρ)→Option ρ
 | .cons (.ab (.slice t) xs) (.ab (.slice .bool) _),k=>k (List.length (α:=t.ai) xs)
 |_,_=>none
def dd:TV→aI→(TV→Option ρ)→Option ρ
 |c,[],k=>k c
 | .ab t x,p,k=>cq t x p fun u y=>k (.ab u y)
 | .ad t x,p,k=>if aI.dG p then none else cq t x p fun u y=>k (.ad u y)
 | .cons a _,.f 0::p,k=>dd a p k
 | .cons _ r,.f (n+1)::p,k=>dd r (.f n::p) k
 | .tup c,.i n::p,k=>qN c n p k
 |_,_,_=>none
def TV.dc:TV→TV
 | .ab (.cons t r) x=>.cons (.ab t x.1) (.ab r x.2)
 | .ab .unit _=>.unit
 | .ad (.cons t r) x=>.cons (.ad t x.1) (.ad r x.2)
 | .ad .unit _=>.unit
 |c=>c
def TV.dy:(t:Ty)→TV→Option t.ai
 |t,.ab u x=>cM u t x
 | .int k,.ad u x=>cM u (.int k) x
 | .bool,.ad u x=>cM u .bool x
 | .bP,.ad u x=>cM u .bP x
 | .slice t,.nil=>some ([]:List t.ai)
 | .unit,.unit=>some ()
 | .unit,.ad .unit _=>some ()
 | .cons t r,.cons a d=>match dy t a with
  |some x=>match dy r d with
   |some y=>some (x,y)
   |none=>none
  |none=>none
 | .cons t r,.ad (.cons c b) x=>match dy t (.ad c x.1) with
  |some a=>match dy r (.ad b x.2) with
   |some y=>some (a,y)
   |none=>none
  |none=>none
 |_,_=>none
def dO (mk:(t:Ty)→t.ai→TV):(t:Ty)→t.ai→aI→TV→(TV→Option ρ)→Option ρ
 |_,_,[],v,k=>k v
 | .cons t r,x,.f 0::p,v,k=>dO mk t x.1 p v fun a=>k (.cons a (mk r x.2))
 | .cons t r,x,.f (n+1)::p,v,k=>dO mk r x.2 (.f n::p) v fun a=>k (.cons (mk t x.1) a)
 |_,_,_,_,_=>none
def bO:TV→aI→TV→(TV→Option ρ)→Option ρ
 |_,[],v,k=>k v
 | .ab t x,p,v,k=>match v with
  | .ab u y=>dU t x p u y fun z=>k (.ab t z)
  | .ad u y=>if u.aQ then dU t x p u y fun z=>k (.ab t z) else dO .ab t x p (.ad u y) k
  |v=>dO .ab t x p v k
 | .ad t x,p,v,k=>dO .ad t x p v k
 | .cons a r,.f 0::p,v,k=>bO a p v fun a=>k (.cons a r)
 | .cons a r,.f (n+1)::p,v,k=>bO r (.f n::p) v fun r=>k (.cons a r)
 | .tup c,.i n::p,v,k=>n3 c n p v k
 |_,_,_,_=>none
end
structure D where
 t:Ty
 x:t.ai
inductive PM where
 |ro (t:Ty)
 |bw (t:Ty)
 |ptr (t:Ty)
 |mut (t:Ty)
 |ab (t:Ty)
 |bV (f:Nat) (b:List PM)
structure aB where
 params:List PM
 results:List Ty
 h:{ρ:Type}→List D→(List D→List D→Option ρ)→Option ρ
def aB.g (c:aB) (ds:List D):Option (List D×List D):=c.h ds fun d b=>some (d,b)
def aB.bz (c:aB):Prop:=∀(ρ:Type) (ds:List D) (k:List D→List D→Option ρ),c.h ds k=match c.g ds with
 |none=>none
 |some (d,b)=>k d b
structure nj where
 ab:List (Nat×Ty)
 agb:List Nat
 ts:List Nat
 bs:List Nat
structure dK where
 run:{ρ:Type}→St→List TV→(St→TV→Option ρ)→Option ρ
 im:Bool:=false
structure ao where
 nt:Nat
 ty:List (Nat×Ty)
 fn:Nat→List Nat→Option aB
 eg:List (Nat×nj)
 fL:Nat:=1
 yN:List Nat:=[]
 bC:List (Nat×Ty):=[]
 inl:Nat→List Nat→Option dK:=fun _ _=>none
def aI.fM:aI→aI→Option aI
 |[],q=>some q
 | .f m::p,.f n::q=>if Nat.beq m n then aI.fM p q else none
 | .i _::p,.i _::q=>aI.fM p q
 |_,_=>none
def TV.aw (b:Nat) (p:aI):TV→TV
 | .ref c q=>if Nat.beq b c then (match aI.fM p q with|some r=>if aI.dG r then .un else .ref c q|none=>.ref c q) else .ref c q
 | .sl c q=>if Nat.beq b c then (match aI.fM p q with|some _=>.un|none=>.sl c q) else .sl c q
 | .slw c q lo n=>if Nat.beq b c then (match aI.fM p q with|some _=>.un|none=>.slw c q lo n) else .slw c q lo n
 | .mp c=>if Nat.beq b c then (match aI.fM p [] with|some _=>.un|none=>.mp c) else .mp c
 | .cons a r=>.cons (a.aw b p) (r.aw b p)
 | .tup a=>.tup (a.aw b p)
 | .bV f d=>.bV f (d.aw b p)
 |v=>v
def bl.aw (b:Nat) (p:aI) (x:bl):bl:={x with c:=x.c.aw b p}
def St.aw (s:St) (b:Nat) (p:aI):St:=
 {tmps:=s.tmps.map fun x=>(x.1,x.2.aw b p),cj:=s.cj.map fun x=>(x.1,x.2.aw b p),sv:=s.sv.map fun l=>l.map fun x=>(x.1,x.2.aw b p)}
def Kp:Value→TV
 | .int k n=>.ad (.int k) n
 | .bool b=>.ad .bool b
 | .string s=>if Nat.ble s.data.toList.length eZ then .ad .bP s.data.toList else .un
 | .slice none 0 0=>.nil
 |_=>.un
def St.ev (s:St):Operand→TV
 | .tmp t=>s.get t
 | .const v=>Kp v
 | .func f=>.bV f .unit
 | .global _=>.un
def oh (b:Nat):(t:Ty)→t.ai→aI→Nat→TV
 | .slice _,_,p,_=>.sl b p
 | .cons t r,x,p,n=>
  if (Ty.cons t r).aQ then .ad (.cons t r) x
  else .cons (oh b t x.1 (p++[.f n]) 0) (oh b r x.2 p (n+1))
 | .unit,_,_,_=>.unit
 |t,x,_,_=>if t.aQ then .ad t x else .un
def uY (b:Nat):TV→aI→Nat→TV
 | .ab (.cons t r) x,p,n=>oh b (.cons t r) x p n
 | .ab t x,p,_=>oh b t x p 0
 | .cons a r,p,n=>.cons (uY b a (p++[.f n]) 0) (uY b r p (n+1))
 | .tup _,_,_=>.un
 |c,_,_=>c
section
variable {ρ:Type}
def b6 (s:St) (b:Nat) (k:bl→Option ρ):Option ρ:=
 match s.box b with
 |some x=>k x
 |none=>none
def hj (s:St) (t:Ty):TV→(List t.ai→Option ρ)→Option ρ
 | .nil,k=>k []
 | .ad u x,k=>match cM u (.slice t) x with
  |some xs=>k xs
  |none=>none
 | .sl b p,k=>b6 s b fun x=>dd x.c p fun c=>match c with
  | .ab u y=>match cM u (.slice t) y with
   |some xs=>k xs
   |none=>none
  | .tup (.ad u y)=>match cM u (.slice t) y with
   |some xs=>k xs
   |none=>none
  |_=>none
 | .slw b p lo n,k=>b6 s b fun x=>dd x.c p fun c=>match c with
  | .ab u y=>match cM u (.slice t) y with
   |some xs=>k ((List.drop (α:=t.ai) lo xs).take n)
   |none=>none
  |_=>none
 |_,_=>none
def dT (s:St):(t:Ty)→TV→(t.ai→Option ρ)→Option ρ
 | .slice t,v,k=>hj s t v k
 | .cons t r,.cons a d,k=>dT s t a fun x=>dT s r d fun y=>k (x,y)
 | .unit,.unit,k=>k ()
 |t,.ad u x,k=>match cM u t x with
  |some y=>k y
  |none=>none
 |_,_,_=>none
def eI (K:Ty):Ty:=.cons K (.cons (.int .i64) .unit)
def lD:(K:Ty)→K.ai→K.ai→Bool
 | .int _,x,y=>(show Int from x)==(show Int from y)
 | .arr _ (.int _),x,y=>(show List Int from x)==(show List Int from y)
 |_,_,_=>false
def c0 (K:Ty) (key:K.ai):List (K.ai×Int×Unit)→Int
 |[]=>0
 |e::r=>if lD K key e.1 then e.2.1 else c0 K key r
def dC (K:Ty) (key:K.ai) (v:Int):List (K.ai×Int×Unit)→List (K.ai×Int×Unit)
 |[]=>[(key,v,())]
 |e::r=>if lD K key e.1 then (key,v,())::r else e::dC K key v r
def iv (K:Ty) (c:TV) (k:List (K.ai×Int×Unit)→Option ρ):Option ρ:=
 match c with
 | .tup (.ab u xs)=>match cM u (.slice (eI K)) xs with
  |some y=>k y
  |none=>none
 |_=>none
def kq (K:Ty) (v:TV) (k:K.ai→Option ρ):Option ρ:=
 match v with
 | .ad u x=>match cM u K x with
  |some y=>k y
  |none=>none
 |_=>none
def eX:(t:Ty)→TV→(t.ai→Option ρ)→Option ρ
 |t,.ab u x,k=>match cM u t x with
  |some y=>k y
  |none=>none
 |t,.ad u x,k=>match cM u t x with
  |some y=>k y
  |none=>none
 | .slice _,.nil,k=>k []
 | .cons t r,.cons a d,k=>eX t a fun x=>eX r d fun y=>k (x,y)
 | .unit,.unit,k=>k ()
 |_,_,_=>none
def asInt (v:TV) (k:IntKind→Int→Option ρ):Option ρ:=
 match v with
 | .ad (.int b) n=>k b n
 |_=>none
def xY:List TV→Bool
 |[]=>true
 | .ad u _::r=>u.aQ&&xY r
 |_=>false
def TV.KQ:TV→Bool
 | .ref _ _=>true
 | .bw _ _=>true
 |_=>false
def TV.o4:TV→Option (List TV)
 | .unit=>some []
 | .cons a r=>if a.KQ then (match r.o4 with
  |some l=>some (a::l)
  |none=>none) else none
 |_=>none
def mi:TV→Nat
 | .bV f _=>f+1
 |_=>0
def TV.bU (p:Nat→Bool):TV→TV
 | .ref c q=>if p c then .ref c q else .un
 | .sl c q=>if p c then .sl c q else .un
 | .slw c q lo n=>if p c then .slw c q lo n else .un
 | .mp c=>if p c then .mp c else .un
 | .cons a r=>.cons (a.bU p) (r.bU p)
 | .tup a=>.tup (a.bU p)
 | .bV f b=>.bV f (b.bU p)
 |v=>v
def TV.drop (b:Nat) (v:TV):TV:=v.bU fun c=> !Nat.beq b c
def o6 {α:Type} (l:List (Nat×α)) (n:Nat):List (Nat×α):=
 match l with
 |[]=>[]
 |(k,x)::r=>if Nat.beq k n then o6 r n else (k,x)::o6 r n
def bl.bU (p:Nat→Bool) (x:bl):bl:={x with c:=x.c.bU p}
def St.drop (s:St) (b:Nat):St:=
 {tmps:=s.tmps.map fun x=>(x.1,x.2.drop b),cj:=(o6 s.cj b).map fun x=>(x.1,x.2.bU fun c=> !Nat.beq b c),sv:=s.sv.map fun l=>l.map fun x=>(x.1,x.2.drop b)}
def mem (l:List Nat) (n:Nat):Bool:=
 match l with
 |[]=>false
 |k::r=>if Nat.beq k n then true else mem r n
end
inductive Ex where
 |normal
 |exit (n:Nat)
 |ret
def h2:(t:Ty)→t.ai
 | .int _=>(0:Int)
 | .bool=>false
 | .bP=>([]:List UInt8)
 | .bG=>()
 | .slice t=>([]:List t.ai)
 | .unit=>()
 | .cons t r=>(h2 t,h2 r)
 | .arr n t=>List.replicate n (h2 t)
def mY (t:Ty):TV:=match t with
 | .slice _=>.nil
 | .cons t r=>.cons (mY t) (mY r)
 | .unit=>.unit
 | .bG=>.un
 |t=>.ad t (h2 t)
def Ty.fY:Ty→Bool
 | .bG=>false
 | .slice t=>t.fY
 | .cons t r=>t.fY&&r.fY
 | .arr _ t=>t.fY
 |_=>true
def bu:Nat:=4294967296
def ao.jh (E:ao) (t:Nat):Option Ty:=lk E.ty t
def TV.EB:TV→Bool
 | .ref _ _=>true
 |_=>false
section
variable {ρ:Type}
def St.ha (s:St) (b:Nat):Bool:=match s.box b with
 |some x=>x.cm&& !x.dN&&aeC x.c
 |none=>false
def ct (s:St):(t:Ty)→TV→(St→TV→(TV→TV)→Option ρ)→Option ρ
 | .slice t,.nil,k=>k s (.ab (.slice t) ([]:List t.ai)) id
 | .slice t,.sl b p,k=>if aI.dG p&& !s.ha b then k s (.sl b p) id else
  b6 s b fun x=>dd x.c p fun c=>match c with
  | .ab u y=>if x.dN|| !decide (u=.slice t) then none else bO x.c p .un fun c'=>k ((s.b4 b {x with c:=c'}).aw b p) (.ab u y) (fun e=>e.aw b p)
  |_=>none
 | .slice t,.slw b p lo n,k=>if aI.dG p|| !Nat.beq lo 0 then none else
  b6 s b fun x=>dd x.c p fun c=>match c with
  | .ab u y=>if x.dN then none else (match cM u (.slice t) y with
   |some z=>bO x.c p .un fun c'=>k ((s.b4 b {x with c:=c'}).aw b p) (.ab (.slice t) (List.take (α:=t.ai) n z)) (fun e=>e.aw b p)
   |none=>none)
  |_=>none
 | .cons t r,.cons a d,k=>ct s t a fun s a' κ=>ct s r (κ d) fun s h g=>k s (.cons (g a') h) (fun e=>g (κ e))
 | .unit,.unit,k=>k s .unit id
 |t,.ad u x,k=>if decide (u=t) then k s (.ad u x) id else none
 | .bG,.ref b p,k=>k s (.ref b p) id
 | .bG,.bw t x,k=>k s (.bw t x) id
 | .bG,.bV f c,k=>k s (.bV f c) id
 | .bG,.mp b,k=>k s (.mp b) id
 |_,_,_=>none
def pp (t:Ty) (p:aI) (c:TV):TV:=
 match c with
 | .cons a d=>if aI.dG p then (match TV.dy t (.cons a d) with
  |some y=>.ab t y
  |none=>.cons a d) else .cons a d
 | .ad (.arr n u) x=>if (Ty.arr n u).aQ then .ab (.arr n u) x else .ad (.arr n u) x
 |c=>c
def lQ (s:St) (t:Ty) (a v:TV) (k:St→Option ρ):Option ρ:=
 match a with
 | .ref d e=>ct s t v fun s c κ=>match κ (.ref d e) with
  | .ref b p=>b6 s b fun x=>if (x.cm&&p.isEmpty)|| !decide (cE x.ty p=some t) then none else bO x.c p (pp t p c) fun c'=>
   match c with
   | .ad u _=>if u.aQ then k (s.b4 b {x with c:=c'}) else k ((s.b4 b {x with c:=c'}).aw b p)
   |_=>k ((s.b4 b {x with c:=c'}).aw b p)
  |_=>none
 |_=>none
def gS:(t:Ty)→TV→Option TV
 | .slice t,.nil=>some (.ab (.slice t) ([]:List t.ai))
 | .slice _,.sl b p=>some (.sl b p)
 | .cons t r,.cons a d=>match gS t a with
  |some x=>match gS r d with
   |some y=>some (.cons x y)
   |none=>none
  |none=>none
 | .unit,.unit=>some .unit
 |t,.ad u x=>if decide (u=t) then some (.ad u x) else none
 |_,_=>none
def lP (s:St) (t:Ty) (a v:TV) (k:St→Option ρ):Option ρ:=
 match a with
 | .ref b p=>match gS t v with
  |some c=>b6 s b fun x=>if (x.cm&&p.isEmpty)|| !decide (cE x.ty p=some t) then none else bO x.c p (pp t p c) fun c'=>
   match c with
   | .ad u _=>if u.aQ then k (s.b4 b {x with c:=c'}) else k ((s.b4 b {x with c:=c'}).aw b p)
   |_=>k ((s.b4 b {x with c:=c'}).aw b p)
  |none=>none
 |_=>none
def kV (s:St) (t:Ty) (a:TV) (k:TV→Option ρ):Option ρ:=
 match a with
 | .ref b p=>b6 s b fun x=>if decide (cE x.ty p=some t) then dd x.c p fun c=>k (uY b c p 0) else none
 | .bw u x=>if decide (u=t) then k (.ad u x) else none
 |_=>none
def Kk (op:BinOp) (x y:Int):Option Bool:=
 match op with
 | .eql=>some (x==y)
 | .neq=>some (x !=y)
 | .lss=>some (decide (x<y))
 | .leq=>some (decide (x≤y))
 | .gtr=>some (decide (x>y))
 | .geq=>some (decide (x≥y))
 |_=>none
def Ty.mN:Ty→Nat
 | .cons t r=>max (t.mN+1) r.mN
 |_=>0
def Ty.plain:Ty→Bool
 | .int _| .bool| .bP| .unit=>true
 | .cons t r=>t.plain&&r.plain
 |_=>false
def iS:(t:Ty)→t.ai→t.ai→Bool
 | .int _,x,y=>(show Int from x)==(show Int from y)
 | .bool,x,y=>(show Bool from x)==(show Bool from y)
 | .bP,x,y=>(show List UInt8 from x)==(show List UInt8 from y)
 | .unit,_,_=>true
 | .cons t r,x,y=>iS t x.1 y.1&&iS r x.2 y.2
 |_,_,_=>false
def ki (op:BinOp) (c:IntKind) (x y:Int) (k:TV→Option ρ):Option ρ:=
 match op with
 | .shl=>match y with
  | .ofNat n=>k (.ad (.int c) (c.wrap (x*2^(min n c.bits))))
  | .negSucc _=>none
 | .shr=>match y with
  | .ofNat n=>k (.ad (.int c) (Int.fdiv x (2^(min n c.bits))))
  | .negSucc _=>none
 | .add=>k (.ad (.int c) (c.wrap (x+y)))
 | .sub=>k (.ad (.int c) (c.wrap (x-y)))
 | .mul=>k (.ad (.int c) (c.wrap (x*y)))
 | .quo=>match y with
  | .ofNat 0=>none
  | .ofNat (n+1)=>k (.ad (.int c) (c.wrap (Int.tdiv x (.ofNat (n+1)))))
  | .negSucc n=>k (.ad (.int c) (c.wrap (Int.tdiv x (.negSucc n))))
 | .rem=>match y with
  | .ofNat 0=>none
  | .ofNat (n+1)=>k (.ad (.int c) (Int.tmod x (.ofNat (n+1))))
  | .negSucc n=>k (.ad (.int c) (Int.tmod x (.negSucc n)))
 | .and=>k (.ad (.int c) (c.wrap ((BitVec.ofInt c.bits x&&&BitVec.ofInt c.bits y).toNat:Int)))
 | .or=>k (.ad (.int c) (c.wrap ((BitVec.ofInt c.bits x|||BitVec.ofInt c.bits y).toNat:Int)))
 | .xor=>k (.ad (.int c) (c.wrap ((BitVec.ofInt c.bits x^^^BitVec.ofInt c.bits y).toNat:Int)))
 |op=>match Kk op x y with
  |some b=>k (.ad .bool b)
  |none=>none
def MA:BinOp→Bool
 | .shl| .shr=>true
 |_=>false
def tD (op:BinOp) (T:Option Ty) (a b:TV) (k:TV→Option ρ):Option ρ:=
 match a,b with
 | .ad (.int c) x,.ad (.int d) y=>if MA op||decide (c=d) then ki op c x y k else none
 | .ad .bP x,.ad .bP y=>
  match op with
  | .add=>if decide (List.length (α:=UInt8) x+List.length (α:=UInt8) y≤bu) then k (.ad .bP (List.append (α:=UInt8) x y)) else none
  | .eql=>k (.ad .bool ((show List UInt8 from x)==(show List UInt8 from y)))
  | .neq=>k (.ad .bool (!((show List UInt8 from x)==(show List UInt8 from y))))
  |_=>none
 | .ad .bool x,.ad .bool y=>if !decide (T=some .bool) then none else
  match op with
  | .eql=>k (.ad .bool ((show Bool from x)==(show Bool from y)))
  | .neq=>k (.ad .bool (!((show Bool from x)==(show Bool from y))))
  |_=>none
 | .ad (.cons t r) x,.ad u y=>
  if (Ty.cons t r).plain&&Nat.blt (Ty.cons t r).mN 9999&&decide (T=some (.cons t r)) then match cM u (.cons t r) y with
   |some y=>match op with
    | .eql=>k (.ad .bool (iS (.cons t r) x y))
    | .neq=>k (.ad .bool (!(iS (.cons t r) x y)))
    |_=>none
   |none=>none
  else none
 |_,_=>none
def jX (s:St):TV→(Nat→Option ρ)→Option ρ
 | .nil,k=>k 0
 | .ad (.slice t) x,k=>k (List.length (α:=t.ai) x)
 | .sl b p,k=>b6 s b fun x=>dd x.c p fun c=>match c with
  | .ab (.slice t) y=>k (List.length (α:=t.ai) y)
  | .tup c=>T0 c k
  |_=>none
 | .slw _ _ _ n,k=>k n
 |_,_=>none
def gJ (n:Nat) (i:Int) (k:Nat→Option ρ):Option ρ:=
 match i with
 | .ofNat m=>match Nat.blt m n with
  |true=>k m
  |false=>none
 | .negSucc _=>none
def nK (s:St) (T:Ty) (x i:TV) (k:TV→Option ρ):Option ρ:=
 asInt i fun _ i=>match x with
 | .ad (.slice t) xs=>if decide (T=.slice t) then (match pb (α:=t.ai) xs i with
  |some a=>k (.bw t a)
  |none=>none) else none
 | .sl b p=>b6 s b fun x=>if decide (cE x.ty p=some T) then (jX s (.sl b p) fun n=>gJ n i fun m=>k (.ref b (p++[.i m]))) else none
 | .slw b p lo n=>b6 s b fun x=>if decide (cE x.ty p=some T) then gJ n i fun m=>k (.ref b (p++[.i (lo+m)])) else none
 | .ref b p=>b6 s b fun x=>if decide (cE x.ty p=some T) then (match T with
  | .arr n t=>if t.agg||Nat.ble n 1 then none else gJ n i fun m=>k (.ref b (p++[.i m]))
  |_=>none) else none
 |_=>none
def gu:TV→Nat→Option TV
 | .cons a _,0=>some a
 | .cons _ r,n+1=>gu r n
 | .ad (.cons t _) x,0=>some (.ad t x.1)
 | .ad (.cons _ r) x,n+1=>gu (.ad r x.2) n
 |_,_=>none
def TV.sz:TV→Nat
 | .ad t _=>t.size
 | .unit=>0
 | .cons a r=>a.sz+r.sz
 |_=>1
def TV.mT:TV→Bool
 | .un| .tup _| .ab _ _=>false
 |_=>true
def my {β:Type} (x:Nat×β):List (Nat×β)→List (Nat×β)
 |[]=>[x]
 |y::l=>match Nat.blt y.1 x.1 with
  |true=>y::my x l
  |false=>x::y::l
def px {β:Type}:List (Nat×β)→List (Nat×β)
 |[]=>[]
 |x::l=>my x (px l)
def ht (s:St):(t:Ty)→Nat→List (Nat×Operand)→(TV→Option ρ)→Option ρ
 | .cons t r,n,(i,x)::b,k=>match Nat.beq i n with
  |true=>if (s.ev x).mT&&Nat.beq (s.ev x).sz t.size then ht s r (n+1) b fun d=>k (.cons (s.ev x) d) else none
  |false=>ht s r (n+1) ((i,x)::b) fun d=>k (.cons (mY t) d)
 | .cons t r,n,[],k=>ht s r (n+1) [] fun d=>k (.cons (mY t) d)
 | .unit,_,[],k=>k .unit
 |_,_,_,_=>none
def uJ:Nat→List (Nat×Operand)→Bool
 |_,[]=>true
 |n,x::l=>Nat.beq x.1 n&&uJ (n+1) l
def nD (s:St) (t:Ty) (kl:TV→TV):List TV→(St→List t.ai→Option ρ)→Option ρ
 |[],k=>k s []
 |v::vs,k=>ct s t (kl v) fun s c κ=>match c.dy t with
  |some x=>nD s t (fun d=>κ (kl d)) vs fun s xs=>k s (x::xs)
  |none=>none
def kv (s:St) (id:Nat) (x:bl) (k:St→Option ρ):Option ρ:=
 match Nat.beq (id%32) 0 with
 |true=>none
 |false=>match s.box id with
  |some _=>none
  |none=>k {s with cj:=(id,x)::s.cj}
def ey (o d:Nat):Nat:=d*32+o%32
def lH (s:St) (o d:Nat) (t:Ty) (xs:List t.ai) (k:St→Option ρ):Option ρ:=
 kv s (ey o d) ⟨.slice t,true,false,.ab (.slice t) xs⟩ fun s=>k (s.put d (.sl (ey o d) []))
def q5 (s:St) (o d:Nat) (t:Ty) (xs:List t.ai) (k:St→Option ρ):Option ρ:=
 kv s (ey o d) ⟨.slice t,true,false,.tup (.ad (.slice t) xs)⟩ fun s=>k (s.put d (.sl (ey o d) []))
def ya (t:Ty):List TV→Option (List t.ai)
 |[]=>some []
 | .ad u x::vs=>match cM u t x with
  |some y=>match ya t vs with
   |some b=>some (y::b)
   |none=>none
  |none=>none
 |_=>none
def K7 (u:Ty) (vs:List TV):Option (List u.ai):=
 match u,vs with
 | .slice t,v::vs=>ya (.slice t) (v::vs)
 |_,_=>none
def newVar (s:St) (o d:Nat) (t:Ty) (c:TV) (k:St→Option ρ):Option ρ:=
 kv s (ey o d) ⟨t,false,false,c⟩ fun s=>k (s.put d (.ref (ey o d) []))
def eB (s:St):List PM→List TV→(St→List TV→(TV→TV)→Option ρ)→Option ρ
 |[],[],k=>k s [] id
 |m::b,v::vs,k=>match m with
  | .ab (.slice t)=>ct s (.slice t) v fun s c κ=>match c.dy (.slice t) with
   |some x=>eB s b (vs.map κ) fun s vs d=>k s (.ab (.slice t) x::vs) (fun e=>d (κ e))
   |none=>none
  | .ab _=>none
  |_=>eB s b vs fun s vs κ=>k s (κ v::vs) κ
 |_,_,_=>none
def PM.fy:PM→Bool
 | .ptr _| .mut _=>true
 |_=>false
def cO (s:St):List PM→List TV→(St→List TV→(TV→TV)→Option ρ)→Option ρ
 |[],[],k=>k s [] id
 |m::d,v::vs,k=>match m,v with
  | .ptr t,.ref b []=>b6 s b fun x=>if x.cm||d.any PM.fy|| !decide (x.ty=t) then none else match x.c.dy t with
   |some y=>k (s.drop b) (.ab t y::vs.map (TV.drop b)) (TV.drop b)
   |none=>none
  | .ptr _,_=>none
  | .mut (.slice t),.nil=>if d.any PM.fy then none else k s (.ab (.slice t) ([]:List t.ai)::vs) id
  | .mut (.slice t),.sl b p=>if aI.dG p||d.any PM.fy then none else b6 s b fun x=>dd x.c p fun c=>match c with
   | .ab u y=>if decide (u=.slice t) then bO x.c p .un fun c'=>k (((s.b4 b {x with dN:=false}).b4 b {x with dN:=false,c:=c'}).aw b p) (.ab u y::vs.map (TV.aw b p)) (TV.aw b p) else none
   |_=>none
  | .mut _,_=>none
  |_,v=>cO s d vs fun s vs κ=>k s (κ v::vs) κ
 |_,_,_=>none
def gr (s:St):PM→TV→(D→Option ρ)→Option ρ
 | .ro t,v,k=>dT s t v fun x=>k ⟨t,x⟩
 | .bw t,.bw u x,k=>match cM u t x with
  |some y=>k ⟨t,y⟩
  |none=>none
 | .bw t,.ref b p,k=>b6 s b fun x=>if decide (cE x.ty p=some t) then (dd x.c p fun c=>eX t c fun y=>k ⟨t,y⟩) else none
 |_,_,_=>none
def uj (s:St):List PM→List TV→(List D→Option ρ)→Option ρ
 |[],[],k=>k []
 |m::b,v::vs,k=>gr s m v fun d=>uj s b vs fun ds=>k (d::ds)
 |_,_,_=>none
def jY (s:St):PM→TV→(List D→Option ρ)→Option ρ
 | .ptr t,.ab u x,k=>if decide (u=t) then k [⟨u,x⟩] else none
 | .mut t,.ab u x,k=>if decide (u=t) then k [⟨u,x⟩] else none
 | .ab t,.ab u x,k=>if decide (u=t) then k [⟨u,x⟩] else none
 | .bV f c,.bV g b,k=>if Nat.beq f g then (match b.o4 with
  |some l=>uj s c l k
  |none=>none) else none
 |m,v,k=>gr s m v fun d=>k [d]
def ja (s:St):List PM→List TV→(List D→Option ρ)→Option ρ
 |[],[],k=>k []
 |m::b,v::vs,k=>jY s m v fun d=>ja s b vs fun ds=>k (d++ds)
 |_,_,_=>none
def eN (s:St):PM→TV→List D→(St→List D→Option ρ)→Option ρ
 | .ptr t,.ref b [],d::ds,k=>if decide (d.t=t) then b6 s b fun x=>k ((s.b4 b {x with c:=.ab d.t d.x}).aw b []) ds else none
 | .mut _,.nil,_::ds,k=>k s ds
 | .mut t,.sl b p,d::ds,k=>if decide (d.t=t) then b6 s b fun x=>bO x.c p (.ab d.t d.x) fun c=>
  match t with
  | .slice u=>if u.aQ then k (s.b4 b {x with c:=c}) ds else k ((s.b4 b {x with c:=c}).aw b p) ds
  |_=>none
  else none
 | .ptr _,_,_,_=>none
 | .mut _,_,_,_=>none
 |_,_,ds,k=>k s ds
def gT (s:St):List PM→List TV→List D→(St→Option ρ)→Option ρ
 |[],[],[],k=>k s
 |m::b,v::vs,ds,k=>eN s m v ds fun s ds=>gT s b vs ds k
 |_,_,_,_=>none
def gg (s:St) (id:Nat):(t:Ty)→t.ai→(St→Nat→TV→Option ρ)→Option ρ
 | .slice t,x,k=>kv s id ⟨.slice t,true,false,.ab (.slice t) x⟩ fun s=>k s (id+1) (.sl id [])
 | .cons t r,x,k=>if (Ty.cons t r).aQ then k s id (.ad (.cons t r) x) else gg s id t x.1 fun s id a=>gg s id r x.2 fun s id d=>k s id (.cons a d)
 | .unit,_,k=>k s id .unit
 |t,x,k=>if t.aQ then k s id (.ad t x) else none
def oa (s:St) (id:Nat):List D→(St→TV→Option ρ)→Option ρ
 |[],k=>k s .unit
 |d::ds,k=>gg s id d.t d.x fun s id a=>oa s id ds fun s r=>k s (.cons a r)
def rc (s:St) (o:Nat) (dst:Option Nat) (b:List D) (k:St→Option ρ):Option ρ:=
 match dst with
 |none=>k s
 |some d=>oa s (ey o d) b fun s v=>match b,v with
  |[_],.cons a .unit=>k (s.put d a)
  |_,v=>k (s.put d (.tup v))
def jt (E:ao) (s:St) (f:Nat) (vs:List TV) (dst:Option Nat) (k:St→Option ρ):Option ρ:=
 match E.fn f (vs.map mi) with
 |none=>match E.inl f (vs.map mi) with
  |none=>none
  |some I=>I.run s vs fun s v=>match dst with
   |some d=>k (s.put d v)
   |none=>k s
 |some c=>eB s c.params vs fun s vs _=>cO s c.params vs fun s1 g _=>ja s1 c.params g fun ds=>c.h ds fun e b=>gT s c.params vs b fun s=>rc s E.fL dst e k
def nU (s:St) (t:Ty) (b:Ty) (v:TV) (k:St→List t.ai→(TV→TV)→Option ρ):Option ρ:=
 match b with
 | .bP=>match v with
  | .ad .bP x=>match cM (.slice (.int .u8)) (.slice t) (List.map (fun c:UInt8=>(c.toNat:Int)) x) with
   |some xs=>k s xs id
   |none=>none
  |_=>none
 | .slice _=>if t.aQ then hj s t v fun xs=>k s xs id
  else ct s (.slice t) v fun s c κ=>match c.dy (.slice t) with
   |some xs=>k s xs κ
   |none=>none
 |_=>none
def qB (s:St) (o d:Nat) (t e:Ty) (x y:TV) (k:St→Option ρ):Option ρ:=if !t.fY then none else
 nU s t e y fun s b κ=>ct s (.slice t) (κ x) fun s c _=>match c.dy (.slice t) with
  |some xs=>match Nat.ble (List.length (α:=t.ai) xs+b.length) bu with
   |true=>lH s o d t (List.append (α:=t.ai) xs b) k
   |false=>none
  |none=>none
def dp (o:Oper) (s:St) (k:St→Option ρ) (v:TV):Option ρ:=
 match o.dst with
 |some d=>k (s.put d v)
 |none=>k s
def kj (E:ao) (o:Oper) (s:St) (b:Builtin) (ts:List Nat) (vs:List TV) (k:St→Option ρ):Option ρ:=
 match b,ts,vs with
 | .len,t::_,[v]=>match E.jh t with
  |some (.slice _)=>jX s v fun n=>dp o s k (.ad (.int .i64) (n:Int))
  |some .bP=>match v with
   | .ad .bP x=>dp o s k (.ad (.int .i64) (List.length (α:=UInt8) x:Int))
   |_=>none
  |some .bG=>match lk E.bC t with
   |some K=>match v with
    | .mp b=>b6 s b fun x=>iv K x.c fun xs=>dp o s k (.ad (.int .i64) (xs.length:Int))
    |_=>none
   |none=>none
  |_=>none
 | .append,[t,tx],[x,y]=>match E.jh t,E.jh tx,o.dst with
  |some (.slice t),some g,some d=>qB s E.fL d t g x y k
  |_,_,_=>none
 | .min,_,[x,y]=>asInt x fun e a=>asInt y fun f b=>if decide (e=f) then dp o s k (.ad (.int e) (min (α:=Int) a b)) else none
 | .max,_,[x,y]=>asInt x fun e a=>asInt y fun f b=>if decide (e=f) then dp o s k (.ad (.int e) (max (α:=Int) a b)) else none
 |_,_,_=>none
def mg (n:Nat) (lo hi:Option TV) (k:Nat→Nat→Option ρ):Option ρ:=
 match hi with
 |none=>match lo with
  |none=>k 0 n
  |some v=>asInt v fun _ l=>gJ (n+1) l fun l=>k l n
 |some v=>asInt v fun _ h=>gJ (n+1) h fun h=>match lo with
  |none=>k 0 h
  |some v=>asInt v fun _ l=>gJ (h+1) l fun l=>k l h
def ky (s:St) (T:Ty) (x:TV) (lo hi:Option TV) (k:TV→Option ρ):Option ρ:=
 match T with
 | .bP=>match x with
  | .ad .bP x=>mg (List.length (α:=UInt8) x) lo hi fun l h=>k (.ad .bP ((List.take (α:=UInt8) h x).drop l))
  |_=>none
 | .slice t=>jX s x fun n=>mg n lo hi fun l h=>match x with
  | .ad (.slice u) x=>if decide (u=t) then k (.ad (.slice u) ((List.take (α:=u.ai) h x).drop l)) else none
  | .sl b p=>b6 s b fun bx=>if decide (cE bx.ty p=some (.slice t)) then (match lo.isNone&&(Nat.beq l 0&&Nat.beq h n) with
   |true=>k (.sl b p)
   |false=>k (.slw b p l (h-l))) else none
  | .slw b p c _=>b6 s b fun bx=>if decide (cE bx.ty p=some (.slice t)) then k (.slw b p (c+l) (h-l)) else none
  | .nil=>k .nil
  |_=>none
 |_=>none
def ea (E:ao) (t:Nat) (k:Ty→Option ρ):Option ρ:=
 match E.jh t with
 |some T=>k T
 |none=>none
def a2 (E:ao) (o:Oper) (s:St) (k:St→Option ρ):Option ρ:=
 match o.op with
 | .move x| .assign x=>dp o s k (s.ev x)
 | .pick c a b=>match s.ev c with
  | .ad .bool t=>match t with
   |true=>dp o s k (s.ev a)
   |false=>dp o s k (s.ev b)
  |_=>none
 | .alloc t=>match o.dst with
  |some d=>ea E t fun T=>if T.fY then newVar s E.fL d T (.ab T (h2 T)) k else match T with
   | .bG=>newVar s E.fL d T .un k
   |_=>none
  |none=>none
 | .box t x=>match o.dst with
  |some d=>ea E t fun T=>match mem E.yN d with
   |true=>(match gS T (s.ev x) with
    |some c=>newVar s E.fL d T c k
    |none=>none)
   |false=>ct s T (s.ev x) fun s c _=>newVar s E.fL d T c k
  |none=>none
 | .build t parts=>ea E t fun T=>match T with
  | .cons a r=>if (Ty.cons a r).fY then ht s (.cons a r) 0 (px parts.toList) fun v=>if (Ty.cons a r).aQ then dT s (.cons a r) v fun x=>dp o s k (.ad (.cons a r) x) else dp o s k v else none
  | .arr n u=>match parts.toList with
   |[]=>dp o s k (.ad (.arr n u) (h2 (.arr n u)))
   |[(0,x),(1,y)]=>if decide (Ty.arr n u=.arr 2 (.int .i64)) then (match s.ev x,s.ev y with
    | .ad (.int .i64) p,.ad (.int .i64) q=>dp o s k (.ad (.arr 2 (.int .i64)) (List.cons (α:=Int) p (List.cons (α:=Int) q [])))
    |_,_=>none) else none
   |_=>none
  |_=>none
 | .buildSlice t len parts=>match o.dst with
  |some d=>ea E t fun T=>match T with
   | .slice u=>if Nat.beq parts.toList.length len&&uJ 0 parts.toList&&u.fY&&Nat.ble (len*u.size) 16777216&&(Nat.blt 0 u.size) then (match K7 u (parts.toList.map fun x=>s.ev x.2) with
    |some xs=>q5 s E.fL d u xs k
    |none=>nD s u id (parts.toList.map fun x=>s.ev x.2) fun s xs=>lH s E.fL d u xs k) else none
   |_=>none
  |none=>none
 | .load t a=>ea E t fun T=>kV s T (s.ev a) (dp o s k)
 | .store t a x=>ea E t fun T=>lQ s T (s.ev a) (s.ev x) k
 | .nilCheck x=>match s.ev x with
  | .ref b p=>dp o s k (.ref b p)
  | .bw t y=>dp o s k (.bw t y)
  | .bV f c=>dp o s k (.bV f c)
  |_=>none
 | .binOp op t x y _=>tD op (E.jh t) (s.ev x) (s.ev y) (dp o s k)
 | .unOp op _ x=>match op,s.ev x with
  | .not,.ad .bool b=>dp o s k (.ad .bool (!(show Bool from b)))
  | .neg,.ad (.int g) n=>ki .sub g 0 n (dp o s k)
  |_,_=>none
 | .convert u t x=>ea E u fun U=>ea E t fun T=>match U,T,s.ev x with
  | .int _,.int g,.ad (.int _) n=>dp o s k (.ad (.int g) (g.wrap n))
  | .slice (.int .u8),.bP,v=>hj s (.int .u8) v fun xs=>dp o s k (.ad .bP (List.map (fun n:Int=>UInt8.ofNat n.toNat) xs))
  |_,_,_=>none
 | .makeSlice t n c=>match o.dst with
  |some d=>ea E t fun T=>match T with
   | .slice u=>asInt (s.ev n) fun _ n=>asInt (s.ev c) fun _ c=>match n,c with
    | .ofNat n,.ofNat c=>if Nat.beq n c&&Nat.ble n bu&&u.fY then lH s E.fL d u (List.replicate n (h2 u)) k else none
    |_,_=>none
   |_=>none
  |none=>none
 | .makeMap t n=>match n,o.dst with
  |none,some d=>match lk E.bC t with
   |some K=>kv s (ey E.fL d) ⟨.slice (eI K),true,false,.tup (.ab (.slice (eI K)) (show List (K.ai×Int×Unit) from []))⟩ fun s=>k (s.put d (.mp (ey E.fL d)))
   |none=>none
  |_,_=>none
 | .lookup t m x ok=>match ok,lk E.bC t,s.ev m with
  |false,some K,.mp b=>b6 s b fun bx=>iv K bx.c fun xs=>kq K (s.ev x) fun key=>dp o s k (.ad (.int .i64) (c0 K key xs))
  |_,_,_=>none
 | .mapUpdate t m x v=>match o.dst,lk E.bC t,s.ev m,s.ev v with
  |none,some K,.mp b,.ad (.int .i64) y=>b6 s b fun bx=>if bx.cm then (iv K bx.c fun xs=>kq K (s.ev x) fun key=>k (s.b4 b {bx with c:=.tup (.ab (.slice (eI K)) (show List (K.ai×Int×Unit) from dC K key y xs))})) else none
  |_,_,_,_=>none
 | .slice h x lo hi max=>match max with
  |none=>ea E h fun T=>ky s T (s.ev x) (lo.map s.ev) (hi.map s.ev) (dp o s k)
  |some _=>none
 | .fieldAddr t x n=>ea E t fun T=>match s.ev x with
  | .ref b p=>b6 s b fun bx=>if decide (cE bx.ty p=some T) then (match cE T [.f n] with
   |some _=>dp o s k (.ref b (p++[.f n]))
   |none=>none) else none
  | .bw u y=>if decide (u=T) then cq u y [.f n] fun u z=>dp o s k (.bw u z) else none
  |_=>none
 | .field t x n=>ea E t fun T=>match s.ev x with
  | .ad u y=>if decide (u=T) then cq u y [.f n] fun u z=>dp o s k (.ad u z) else none
  |_=>none
 | .indexAddr t x i=>ea E t fun T=>nK s T (s.ev x) (s.ev i) (dp o s k)
 | .index t x i=>ea E t fun T=>asInt (s.ev i) fun _ i=>match T,s.ev x with
  | .bP,.ad .bP y=>match pb (α:=UInt8) y i with
   |some c=>dp o s k (.ad (.int .u8) (c.toNat:Int))
   |none=>none
  | .arr n t,.ad (.arr m u) y=>if decide (Ty.arr m u=Ty.arr n t) then (match pb (α:=u.ai) y i with
   |some c=>dp o s k (.ad u c)
   |none=>none) else none
  |_,_=>none
 | .extract x n=>match s.ev x with
  | .tup v=>match gu v n with
   |some v=>dp o s k v
   |none=>none
  |_=>none
 | .makeFunc fn first e=>match fn,first.toList with
  | .func f,[]=>if e.toList.all fun x=>(s.ev x).EB then dp o s k (.bV f (e.toList.foldr (fun x r=>.cons (s.ev x) r) .unit)) else none
  |_,_=>none
 | .call c=>match c.callee with
  | .builtin b=>kj E o s b c.argTypes.toList (c.args.toList.map s.ev) k
  | .value f=>match s.ev f with
   | .bV f e=>match e.o4 with
    |some l=>jt E s f (c.args.toList.map s.ev++l) o.dst k
    |none=>none
   |_=>none
  |_=>none
 |_=>none
def de (E:ao) (o:Oper) (s:St) (k:St→Option ρ):Option ρ:=
 match o.dst with
 |some d=>match Nat.blt d E.nt with
  |true=>match o.op with
   | .store _ _ _=>none
   |_=>a2 E o s k
  |false=>none
 |none=>a2 E o s k
def kY (E:ao) (ops:Array Oper) (k:St→Option ρ):List Oper→St→Option ρ
 |[],s=>k s
 |o::bo,s=>match o.guard with
  |none=>de E o s (kY E ops k bo)
  |some (j,want)=>match (ops[j]?).bind (·.dst) with
   |none=>none
   |some d=>match s.get d with
    | .ad .bool b=>match b with
     |true=>if want then de E o (s.put d (.ad .bool true)) (kY E ops k bo) else kY E ops k bo (match o.dst with|some e=>(s.put d (.ad .bool true)).put e (.tup .unit)|none=>s.put d (.ad .bool true))
     |false=>if want then kY E ops k bo (match o.dst with|some e=>(s.put d (.ad .bool false)).put e (.tup .unit)|none=>s.put d (.ad .bool false)) else de E o (s.put d (.ad .bool false)) (kY E ops k bo)
    | .tup .unit=>kY E ops k bo (match o.dst with|some e=>s.put e (.tup .unit)|none=>s)
    |_=>none
def dW (o:Oper):List Nat:=(o.after.toList.filter fun e=>Region.binds .any e).map (·.on)
def al3:Operand→Option Nat
 | .tmp t=>some t
 |_=>none
def fk (ops:List Oper) (o:Oper):List Nat:=
 o.op.operands.toList.filterMap al3++(match o.guard with
 |some (j,_)=>((ops[j]?).bind (·.dst)).toList
 |none=>[])
def nM (t:Nat) (o:Oper):Bool:=match o.dst with
 |some d=>Nat.beq d t
 |none=>false
def gU:List Oper→List Nat→List Nat
 |[],acc=>acc
 |o::r,acc=>gU r (acc++[(dW o).foldr (fun j m=>(2^j|||acc.getD j 0)|||m) 0])
def JH (bs:List Nat) (i:Nat):Option (List Nat):=
 let un:=(List.range bs.length).filter fun j=> !(Nat.beq j i||(if Nat.blt j i then (bs.getD i 0).testBit j else (bs.getD j 0).testBit i))
 if un.all fun j=>Nat.blt j i then some un else none
def Ks (bs:List Nat) (ops:List Oper) (i:Nat) (o:Oper):Bool:=
 ((dW o).all fun j=>Nat.blt j i)&&(match o.guard with
  |some (j,_)=>mem (dW o) j
  |none=>true)&&
 ((fk ops o).all fun t=>ops.zipIdx.all fun x=> !nM t x.1||(mem (dW o) x.2||Nat.blt i x.2&&(bs.getD x.2 0).testBit i))&&
 (match o.dst with
  |some d=>ops.zipIdx.all fun x=> !nM d x.1||Nat.beq x.2 i
  |none=>true)
def Kr (ops:List Oper):Bool:=ops.zipIdx.all fun x=>Ks (gU ops []) ops x.2 x.1
def jP (ops:List Oper):List (Option (List Nat)):=(List.range ops.length).map (JH (gU ops []))
def ra:Op→Bool
 | .move _| .assign _| .pick _ _ _| .load _ _| .nilCheck _| .binOp _ _ _ _ _| .unOp _ _ _| .convert _ _ _| .slice _ _ _ _ _
 | .fieldAddr _ _ _| .field _ _ _| .indexAddr _ _ _| .index _ _ _| .extract _ _| .build _ _| .alloc _| .makeSlice _ _ _| .makeMap _ _| .lookup _ _ _ _=>true
 | .call c=>match c.callee with
  | .builtin .len=>true
  |_=>false
 |_=>false
def PM.gM:PM→Bool
 | .ro _| .bw _=>true
 |_=>false
def TV.aF:TV→List Nat
 | .ref b _| .sl b _| .slw b _ _ _| .mp b=>[b]
 | .cons a r=>a.aF++r.aF
 | .tup a=>a.aF
 | .bV _ c=>c.aF
 |_=>[]
def aB.plain (c:aB):Bool:=c.params.all fun m=>match m with
 | .bV _ _=>false
 |_=>true
def tM (E:ao) (p:aB→Bool) (o:Oper) (s:St):Bool:=
 match o.op with
 | .call c=>match c.callee with
  | .value g=>match s.ev g with
   | .bV f .unit=>match E.fn f ((c.args.toList.map s.ev).map mi) with
    |some c'=>p c'
    |none=>false
   |_=>false
  |_=>false
 |_=>false
def K8 (o:Oper) (s:St):Bool:=
 match o.op with
 | .buildSlice _ _ b=>b.toList.all fun x=>(s.ev x.2).aF.isEmpty
 |_=>false
def KR (E:ao) (o:Oper) (s:St):Bool:=ra o.op||K8 o s||tM E (fun c=>c.params.all PM.gM) o s
def Ez (E:ao) (o:Oper) (s:St):Bool:=
 match o.op with
 | .call c=>match c.callee with
  | .value g=>match s.ev g with
   | .bV f .unit=>match E.fn f ((c.args.toList.map s.ev).map mi),E.inl f ((c.args.toList.map s.ev).map mi) with
    |none,some I=>I.im
    |_,_=>false
   |_=>false
  |_=>false
 |_=>false
def ru (E:ao) (o:Oper) (s:St):Bool:=
 match o.op with
 | .store _ _ _| .buildSlice _ _ _=>true
 | .call c=>match c.callee with
  | .builtin .append=>true
  |_=>tM E aB.plain o s||Ez E o s
 |_=>false
def Ej (s:St) (B:List Nat) (b:Nat):Bool:= !mem B b&&(match s.box b with
 |some y=>y.c.aF.all fun c=> !mem B c
 |none=>true)
def hB (o:Oper) (s:St):List Nat:=(o.op.operands.toList.map fun x=>(s.ev x).aF).flatten
def lR:List PM→List TV→List Nat
 |m::b,v::vs=>(if m.gM then [] else v.aF)++lR b vs
 |_,_=>[]
def nY (E:ao) (al:Bool) (o:Oper) (s:St) (k:St→Option ρ):Option ρ:=
 match al with
 |false=>de E o s k
 |true=>match o.dst,o.op with
  |none,.store t a x=>ea E t fun T=>lP s T (s.ev a) (s.ev x) k
  |_,_=>none
def iA (E:ao) (al:Bool) (o:Oper) (s:St):List Nat:=
 match o.op with
 | .store _ a _=>if al then (s.ev a).aF else hB o s
 | .call c=>match c.callee with
  | .builtin .append=>match c.argTypes.toList,c.args.toList with
   |[t,_],[x,_]=>match E.jh t with
    |some (.slice T)=>if T.aQ then (s.ev x).aF else hB o s
    |_=>hB o s
   |_,_=>hB o s
  | .value g=>match s.ev g with
   | .bV f .unit=>match E.fn f ((c.args.toList.map s.ev).map mi) with
    |some c'=>lR c'.params (c.args.toList.map s.ev)
    |none=>match E.inl f ((c.args.toList.map s.ev).map mi) with
     |some I=>if I.im then ((c.args.toList.map s.ev).headD .un).aF else hB o s
     |none=>hB o s
   |_=>hB o s
  |_=>hB o s
 |_=>hB o s
def ly (ops:List Oper) (o:Oper):List Nat:=
 match o.op with
 | .extract _ _=>match o.guard with
  |some (j,_)=>((ops[j]?).bind (·.dst)).toList
  |none=>[]
 |_=>fk ops o
def y7 (E:ao) (al:Bool) (ops:List Oper) (U:List Nat) (o:Oper) (s:St):Bool:=
 (U.isEmpty&& !al)||(ru E o s&&U.all fun j=>match ops[j]? with
  |none=>true
  |some p=>((fk ops p).all fun t=>ops.zipIdx.all fun x=> !nM t x.1||(mem (dW p) x.2|| !mem U x.2))&&((ly ops p++p.dst.toList).all fun n=>(s.get n).aF.all fun b=>Ej s (iA E al o s) b)&&
   (match p.dst with
    |some d=>s.cj.all fun x=> !Nat.beq (x.1/32) d||Ej s (iA E al o s) x.1
    |none=>true))
def LV (any:Bool) (done:Nat):List (Nat×Bool×Nat)→Option (Nat×List (Nat×Bool×Nat))
 |[]=>none
 |x::l=>if (any||x.2.1)&&Nat.beq (Nat.land x.2.2 done) x.2.2 then some (x.1,l) else match LV any done l with
  |some (i,b)=>some (i,x::b)
  |none=>none
def yt:Nat→Nat→List (Nat×Bool×Nat)→List Nat
 |0,_,_=>[]
 |n+1,done,l=>match LV false done l with
  |some (i,b)=>i::yt n (Nat.lor (2^i) done) b
  |none=>match LV true done l with
   |some (i,b)=>i::yt n (Nat.lor (2^i) done) b
   |none=>[]
def mQ:Nat→List Oper→List Nat→List (Nat×Bool×Nat)
 |i,o::os,b::bs=>(i,ra o.op,b)::mQ (i+1) os bs
 |_,_,_=>[]
def ga:List Nat→Nat→Nat
 |[],_=>0
 |k::r,n=>if Nat.beq k n then 0 else ga r n+1
def lN (p:List Nat) (o:Oper):Oper:={o with after:=o.after.map fun e=>{e with on:=ga p e.on},guard:=o.guard.map fun g=>(ga p g.1,g.2)}
def LU (p:List Nat) (n:Nat):Bool:=Nat.beq p.length n&&(p.all fun j=>Nat.blt j n)&&(List.range n).all fun i=>mem p i&&Nat.beq (ga p (p.getD i 0)) i
def kR (ops:List Oper):List Oper:=
 let p:=yt ops.length 0 (mQ 0 ops (gU ops []))
 if LU p ops.length then p.filterMap fun i=>(ops[i]?).map (lN p) else ops
def pw (E:ao) (ops:List Oper) (bar:Option (List Nat)) (o:Oper) (s:St) (k:St→Option ρ):Option ρ:=
 if KR E o s then de E o s k else
 match bar with
 |some U=>if y7 E false ops U o s then de E o s k else if y7 E true ops U o s then nY E true o s k else none
 |none=>none
def iR (E:ao) (ops:List Oper) (k:St→Option ρ):List (Oper×Option (List Nat))→St→Option ρ
 |[],s=>k s
 |(o,bar)::bo,s=>match o.guard with
  |none=>pw E ops bar o s (iR E ops k bo)
  |some (j,want)=>match (ops[j]?).bind (·.dst) with
   |none=>none
   |some d=>match s.get d with
    | .ad .bool b=>match b with
     |true=>if want then pw E ops bar o s (iR E ops k bo) else iR E ops k bo (match o.dst with|some e=>s.put e (.tup .unit)|none=>s)
     |false=>if want then iR E ops k bo (match o.dst with|some e=>s.put e (.tup .unit)|none=>s) else pw E ops bar o s (iR E ops k bo)
    | .tup .unit=>iR E ops k bo (match o.dst with|some e=>s.put e (.tup .unit)|none=>s)
    |_=>none
def St.ref (s:St) (d:Nat) (b:Bool):St:={s with tmps:=bD s.tmps d (.ad .bool b)}
def mn (E:ao) (ops:List Oper) (k:St→Option ρ):List (Oper×Option (List Nat))→St→Option ρ
 |[],s=>k s
 |(o,bar)::bo,s=>match o.guard with
  |none=>pw E ops bar o s (mn E ops k bo)
  |some (j,want)=>match (ops[j]?).bind (·.dst) with
   |none=>none
   |some d=>match s.get d with
    | .ad .bool b=>match b with
     |true=>if want then pw E ops bar o (s.ref d true) (mn E ops k bo) else mn E ops k bo (match o.dst with|some e=>(s.ref d true).put e (.tup .unit)|none=>s.ref d true)
     |false=>if want then mn E ops k bo (match o.dst with|some e=>(s.ref d false).put e (.tup .unit)|none=>s.ref d false) else pw E ops bar o (s.ref d false) (mn E ops k bo)
    | .tup .unit=>mn E ops k bo (match o.dst with|some e=>s.put e (.tup .unit)|none=>s)
    |_=>none
theorem amh {α:Type} {l:List (Nat×α)} {n:Nat} {v:α} (h:lk l n=some v):bD l n v=l:=by
 induction l with
 |nil=>rfl
 |cons x l b=>
  obtain ⟨k,y⟩:=x;unfold lk at h;unfold bD
  grind
theorem ah8 {s:St} {d:Nat} {b:Bool} (h:s.get d=.ad .bool b):s.ref d b=s:=by
 unfold St.get at h;cases c:lk s.tmps d with
 |none=>simp_all
 |some v=>
  rw [c] at h;simp only [rI] at h;subst h;unfold St.ref;rw [amh c]
theorem adv (E:ao) (ops:List Oper) (k:St→Option ρ):∀(bo:List (Oper×Option (List Nat))),mn E ops k bo=iR E ops k bo:=by
 intro bo
 induction bo with
 |nil=>rfl
 |cons x bo f=>
  obtain ⟨o,bar⟩:=x;funext s;unfold mn iR;rw [f];cases o.guard with
  |none=>rfl
  |some g=>
   obtain ⟨j,want⟩:=g;simp only;cases (ops[j]?).bind (·.dst) with
   |none=>rfl
   |some d=>
    simp only;cases e:s.get d with
    |ad t b=>
     cases t with
     |bool=>
      cases b
      all_goals
       simp only;rw [ah8 e]
     |_=>rfl
    |tup c=>cases c<;>rfl
    |_=>rfl
def Lv:Op→Bool
 | .alloc _| .makeSlice _ _ _| .makeMap _ _=>true
 |_=>false
def yC (E:ao) (f:Nat→Bool) (k:St→Option ρ):Nat→List Oper→St→Option ρ
 |_,[],s=>k s
 |i,o::l,s=>if (f i||o.op.operands.toList.all fun x=>(s.ev x).aF.all fun c=>match s.box c with
  |some y=> !y.cm
  |none=>false)&&ra o.op&& !Lv o.op&&o.dst.isSome then de E o s (yC E f k (i+1) l) else none
def KO (E:ao) (ops:List Oper) (k:St→Option ρ) (s:St):Option ρ:=
 match ops with
 |[C,D,I,J,O,U,h,n,q,x,g]=>match h.op,n.dst,q.op,q.dst,x.op,x.dst,g.op,g.dst with
  | .lookup X (.tmp l) (.tmp j) false,some f,.mapEntry r (.tmp m8) (.tmp u),some d,.extract (.tmp z) 1,some e,.entryStore W (.tmp iq) (.tmp y) (.tmp bW),none=>
   if Nat.beq X r&&Nat.beq W r&&Nat.beq l m8&&Nat.beq iq m8&&Nat.beq j u&&Nat.beq z d&&Nat.beq y e&&Nat.beq bW f&&Nat.blt d E.nt&&Nat.blt e E.nt&& !(mem [f,d,e] l||mem [f,d,e] j||nM l h||nM j h)&&(mem (dW n) 6&&mem (dW g) 7)&&mem (dW g) 9&&Kr ops&&ops.all fun o=>o.guard.isNone then
    yC E (fun i=>mem (dW q) i||Nat.beq i 6) (fun s=>match lk E.bC r,s.get m8,s.get f with
     |some K,.mp b,.ad (.int .i64) v=>b6 s b fun bx=>if bx.cm then (iv K bx.c fun xs=>kq K (s.get u) fun key=>
      k (((s.put d .un).put e .un).b4 b {bx with c:=.tup (.ab (.slice (eI K)) (show List (K.ai×Int×Unit) from dC K key v xs))})) else none
     |_,_,_=>none) 0 [C,D,I,J,O,U,h,n] s
   else none
  |_,_,_,_,_,_,_,_=>none
 |_=>none
def aeQ (ops:List Oper):Bool:=ops.any fun o=>match o.op with
 | .mapEntry _ _ _=>true
 |_=>false
def Vy (E:ao) (ops:Array Oper) (b:Bool) (k:St→Option ρ) (s:St):Option ρ:=
 match b with
 |false=>kY E ops k ops.toList s
 |true=>if aeQ ops.toList then KO E ops.toList k s else match Kr (kR ops.toList) with
  |false=>none
  |true=>mn E (kR ops.toList) k ((kR ops.toList).zip (jP (kR ops.toList))) s
def gp:Code→Nat
 | .region id _ _=>id
 | .seq a _=>gp a
 | .block _ c=>gp c
 | .loop c=>gp c
 |_=>0
def St.ui (s:St) (ts bs:List Nat):St:=
 {tmps:=ts.map fun n=>(n,(s.get n).bU (mem bs)),cj:=bs.filterMap fun n=>(s.box n).map fun b=>(n,b.bU (mem bs)),sv:=s.sv.map fun l=>l.map fun x=>(x.1,x.2.bU (mem bs))}
def Fx (s:St) (o:Nat):List (Nat×Ty)→(St→Option ρ)→Option ρ
 |[],k=>k s
 |(t,T)::l,k=>if T.iU then ct s (.slice T) (s.get t) fun s c _=>match c.dy (.slice T) with
  |some x=>kv (s.drop (ey o t)) (ey o t) ⟨.slice T,true,false,.ab (.slice T) x⟩ fun s=>Fx (s.put t (.sl (ey o t) [])) o l k
  |none=>none
  else none
def KM:TV→Option TV
 | .ab (.slice t) xs=>some (.tup (.cons (.ab (.slice t) xs) (.ab (.slice .bool) (List.replicate (List.length (α:=t.ai) xs) false))))
 | .tup (.cons (.ab (.slice t) xs) (.ab (.slice .bool) b))=>some (.tup (.cons (.ab (.slice t) xs) (.ab (.slice .bool) b)))
 |_=>none
def yq (s:St):List Nat→(St→Option ρ)→Option ρ
 |[],k=>k s
 |b::l,k=>b6 s b fun x=>if x.cm then (match KM x.c with
  |some c=>yq (s.b4 b {x with c:=c}) l k
  |none=>none) else match x.c.dy x.ty with
  |some y=>yq ((s.b4 b {x with c:=.ab x.ty y}).aw b []) l k
  |none=>none
def jW (E:ao) (id:Nat) (s:St) (k:St→Option ρ):Option ρ:=
 match lk E.eg id with
 |none=>k s
 |some K=>Fx s E.fL K.ab fun s=>yq s K.agb fun s=>k (s.ui K.ts K.bs)
def nH (E:ao) (id:Nat) (k:Ex→St→Option ρ):Ex→St→Option ρ:=fun e s=>jW E (id+1000000) s (k e)
def um (f:(Ex→St→Option ρ)→St→Option ρ) (b:St→(St→Option ρ)→Option ρ) (k:Ex→St→Option ρ):Nat→St→Option ρ
 |0,_=>none
 |n+1,s=>f (fun e c=>match e with
  | .normal=>b c (um f b k n)
  |e=>k e c) s
def hx (E:ao) (n:Nat):Code→(Ex→St→Option ρ)→St→Option ρ
 | .skip,k,s=>k .normal s
 | .region _ ops g,k,s=>Vy E ops g (k .normal) s
 | .seq a b,k,s=>hx E n a (fun e f=>match e with
  | .normal=>jW E (gp b+2000000) f (hx E n b k)
  |e=>k e f) s
 | .cond c a b,k,s=>match s.ev c with
  | .ad .bool t=>match t with
   |true=>hx E n a k (match c with| .tmp d=>s.put d (.ad .bool true)|_=>s)
   |false=>hx E n b k (match c with| .tmp d=>s.put d (.ad .bool false)|_=>s)
  |_=>none
 | .block id c,k,s=>hx E n c (fun e f=>match e with
  | .exit j=>if Nat.beq j id then k .normal f else k (.exit j) f
  |e=>k e f) s
 | .loop c,k,s=>jW E (gp c) s (um (hx E n c) (jW E (gp c)) (nH E (gp c) k) n)
 | .exit id,k,s=>k (.exit id) s
 | .ret,k,s=>k .ret s
 |_,_,_=>none
end
section
variable {ρ:Type}
def x6:List PM→List D→(List TV→List D→Option ρ)→Option ρ
 |[],ds,k=>k [] ds
 |m::b,d::ds,k=>match m with
  | .ro t=>match cM d.t t d.x with
   |some x=>x6 b ds fun vs ds=>k (.ad t x::vs) ds
   |none=>none
  | .bw t=>match cM d.t t d.x with
   |some x=>x6 b ds fun vs ds=>k (.bw t x::vs) ds
   |none=>none
  |_=>none
 |_,_,_=>none
def nL (i:Nat):PM→List D→(TV→List (Nat×bl)→List D→Option ρ)→Option ρ
 | .ro t,d::ds,k=>match cM d.t t d.x with
  |some x=>k (.ad t x) [] ds
  |none=>none
 | .bw t,d::ds,k=>match cM d.t t d.x with
  |some x=>k (.bw t x) [] ds
  |none=>none
 | .ptr t,d::ds,k=>match cM d.t t d.x with
  |some x=>k (.ref i []) [(i,⟨t,false,false,.ab t x⟩)] ds
  |none=>none
 | .mut (.slice t),d::ds,k=>match cM d.t (.slice t) d.x with
  |some x=>k (.sl i []) [(i,⟨.slice t,true,true,.ab (.slice t) x⟩)] ds
  |none=>none
 | .ab (.slice t),d::ds,k=>match cM d.t (.slice t) d.x with
  |some x=>k (.sl i []) [(i,⟨.slice t,true,false,.ab (.slice t) x⟩)] ds
  |none=>none
 | .bV f b,ds,k=>x6 b ds fun vs ds=>k (.bV f (vs.foldr TV.cons .unit)) [] ds
 |_,_,_=>none
def x5 (i:Nat):List PM→List D→(List (Nat×TV)→List (Nat×bl)→Option ρ)→Option ρ
 |[],[],k=>k [] []
 |m::c,ds,k=>nL (i*32) m ds fun v b ds=>x5 (i+1) c ds fun ts bs=>k ((i,v)::ts) (b++bs)
 |_,_,_=>none
def xV (s:St) (kl:TV→TV):List (Ty×TV)→(St→List D→Option ρ)→Option ρ
 |[],k=>k s []
 |(t,v)::r,k=>if t.aQ then dT s t (kl v) fun x=>xV s kl r fun s ds=>k s (⟨t,x⟩::ds)
  else ct s t (kl v) fun s c κ=>match c.dy t with
   |some x=>xV s (fun e=>κ (kl e)) r fun s ds=>k s (⟨t,x⟩::ds)
   |none=>none
def kS (s:St) (i:Nat):List PM→(List D→Option ρ)→Option ρ
 |[],k=>k []
 | .ptr t::d,k=>b6 s (i*32) fun b=>if b.cm|| !decide (b.ty=t) then none else match b.c.dy t with
  |some x=>kS s (i+1) d fun ds=>k (⟨t,x⟩::ds)
  |none=>none
 | .mut t::d,k=>b6 s (i*32) fun b=>if !b.cm|| !b.dN|| !decide (b.ty=t) then none else match b.c with
  | .ab u x=>kS s (i+1) d fun ds=>k (⟨u,x⟩::ds)
  |_=>none
 |_::d,k=>kS s (i+1) d k
end
inductive Mv where
 |set (b:Nat) (x:bl)|aw (b:Nat) (p:aI)|drop (b:Nat)
def Mv.at:Mv→Nat
 | .set b _| .aw b _| .drop b=>b
def Mv.run (s:St):Mv→St
 | .set b x=>s.b4 b x
 | .aw b p=>s.aw b p
 | .drop b=>s.drop b
def bJ (s:St) (l:List Mv):St:=l.foldl Mv.run s
def dK.r1 (I:dK):Prop:=∀(ρ:Type) (t:St) (vs:List TV) (k:St→TV→Option ρ) (r:ρ),I.run t vs k=some r→
 ∃(l:List Mv) (v:TV),k (bJ t l) v=some r∧(∀m∈l,m.at∈(vs.headD .un).aF)∧
  ∀(s:St),(∀v∈vs,∀b∈v.aF,s.box b=t.box b)→∀{σ:Type} (k':St→TV→Option σ),I.run s vs k'=k' (bJ s l) v
structure ao.w1 (E:ao):Prop where
 fn:∀f ids c,E.fn f ids=some c→c.bz
 inl:∀f ids I,E.inl f ids=some I→I.im=true→I.r1
theorem e4 {a b:Ty} {x:a.ai} {y:b.ai} (h:cM a b x=some y):∃e:a=b,e▸x=y:=by
 unfold cM at h;split at h;simp_all;cases h
theorem nx {a:Ty} (x:a.ai):cM a a x=some x:=by
 unfold cM;split;rfl
 grind
def bL:Ty→FT→Option (Nat×Nat)→aI→Option (Ty×FT×Option (Nat×Nat))
 |t,ft,a,[]=>some (t,ft,a)
 | .cons t _,ft,a,.f 0::p=>bL t ft.fst a p
 | .cons t r,ft,a,.f (n+1)::p=>bL r ft.snd (a.map fun x=>(x.1,x.2+t.size)) (.f n::p)
 | .slice t,.node (some b) _ c,_,.i n::p=>match c[n]? with
  |some k=>bL t k (some (b,n*t.size)) p
  |none=>none
 | .arr m t,_,a,[.i n]=>if t.agg||Nat.ble m n then none else some (t,.leaf,a.map fun x=>(x.1,x.2+n*t.size))
 |_,_,_,_=>none
def bt:Ty→FT→aI→FT→FT
 |_,_,[],f=>f
 | .cons t _,ft,.f 0::p,f=>.eQ (bt t ft.fst p f) ft.snd
 | .cons _ r,ft,.f (n+1)::p,f=>.eQ ft.fst (bt r ft.snd (.f n::p) f)
 | .slice t,.node (some b) cap c,.i n::p,f=>match c[n]? with
  |some k=>.node (some b) cap (c.set n (bt t k p f))
  |none=>.node (some b) cap c
 |_,ft,_,_=>ft
theorem fi {b:Nat} {k:FT} {c:List FT} (d:k∈c) (e:b∈k.ae):b∈FT.bq c:=by
 induction c with
 |nil=>cases d
 |cons k' c f=>
  simp only [FT.bq,aZ]
  grind
theorem afI {b:Nat} {c:List FT} (h:b∈FT.bq c):∃k∈c,b∈k.ae:=by
 induction c with
 |nil=>simp [FT.bq] at h
 |cons k' c d=>
  simp only [FT.bq,aZ] at h
  grind
theorem jv {ft:FT} {b:Nat} (h:b∈ft.fst.ae):b∈ft.ae:=by
 cases ft<;>simp_all [FT.fst,FT.ae]
theorem jD {ft:FT} {b:Nat} (h:b∈ft.snd.ae):b∈ft.ae:=by
 cases ft<;>simp_all [FT.snd,FT.ae]
theorem gm:∀(t:Ty) (ft:FT) (a:Option (Nat×Nat)) (p:aI) {u:Ty} {g:FT} {a':Option (Nat×Nat)},bL t ft a p=some (u,g,a')→
 (∀b∈g.ae,b∈ft.ae)∧((∃b o,a'=some (b,o)∧b∈ft.ae∧aI.dG p=true)∨
  (∃d,a'=a.map (fun x=>(x.1,x.2+d))∧d+u.size≤t.size)):=by
 intro t
 induction t with
 |cons t r z I=>
  intro ft a p u g a' h
  match p,h with
  |[],h=>simp only [bL,az,aO] at h;obtain ⟨rfl,rfl,rfl⟩:=h;exact ⟨fun _ h=>h,.inr ⟨0,by simp,by simp⟩⟩
  | .f 0::p,h=>
   simp only [bL] at h;obtain ⟨j,l⟩:=z _ _ _ h;refine ⟨fun b c=>jv (j b c),?_⟩;rcases l with ⟨b,o,e,c,v⟩|⟨d,e,v⟩
   exact .inl ⟨b,o,e,jv c,by simpa [aI.dG] using v⟩;exact .inr ⟨d,e,by simp only [Ty.size];omega⟩
  | .f (n+1)::p,h=>
   simp only [bL] at h;obtain ⟨j,l⟩:=I _ _ _ h;refine ⟨fun b c=>jD (j b c),?_⟩;rcases l with ⟨b,o,e,c,v⟩|⟨d,e,v⟩
   exact .inl ⟨b,o,e,jD c,by simpa [aI.dG] using v⟩;refine .inr ⟨t.size+d,?_,by simp only [Ty.size];omega⟩;rw [e];cases a<;>simp;omega
  | .i n::p,h=>simp [bL] at h
 |slice t z=>
  intro ft a p u g a' h
  match p,h with
  |[],h=>simp only [bL,az,aO] at h;obtain ⟨rfl,rfl,rfl⟩:=h;exact ⟨fun _ h=>h,.inr ⟨0,by simp,by simp⟩⟩
  | .f n::p,h=>simp [bL] at h
  | .i n::p,h=>
   match ft,h with
   | .node (some b) cap J,h=>
    simp only [bL] at h;split at h;rename_i k hk;obtain ⟨j,l⟩:=z _ _ _ h;have D:=cS hk;refine ⟨fun y c=>by simp only [FT.ae,aZ];exact .inr (fi D (j y c)),.inl ?_⟩;rcases l with ⟨y,o,e,c,_⟩|⟨d,e,_⟩
    exact ⟨y,o,e,by simp only [FT.ae,aZ];exact .inr (fi D c),rfl⟩;exact ⟨b,_,by rw [e];rfl,by simp [FT.ae],rfl⟩;cases h
   | .leaf,h=>simp [bL] at h
   | .eQ _ _,h=>simp [bL] at h
   | .node none _ _,h=>simp [bL] at h
 |arr m t _=>
  intro ft a p u g a' h
  match p,h with
  |[],h=>simp only [bL,az,aO] at h;obtain ⟨rfl,rfl,rfl⟩:=h;exact ⟨fun _ h=>h,.inr ⟨0,by simp,by simp⟩⟩
  |[.i n],h=>
   simp only [bL] at h;split at h;cases h;rename_i C;simp only [az,aO] at h;obtain ⟨rfl,rfl,rfl⟩:=h;refine ⟨fun b c=>by simp [FT.ae] at c,.inr ⟨n*t.size,rfl,?_⟩⟩;simp only [fc,Nat.ble_eq,gQ,Nat.not_le] at C;simp only [Ty.size];have:=ke t.size (u7 C.2)
   grind
  | .f n::p,h=>simp [bL] at h
  | .i n::q::p,h=>simp [bL] at h
 |_=>
  intro ft a p u g a' h;cases p with
  |nil=>simp only [bL,az,aO] at h;obtain ⟨rfl,rfl,rfl⟩:=h;exact ⟨fun _ h=>h,.inr ⟨0,by simp,by simp⟩⟩
  |cons q p=>simp [bL] at h
theorem At.sub {w:World} {b o n:Nat} {cs:List Value} (h:At w b o n cs) (i m:Nat) (hi:i+m≤n):At w b (o+i) m ((cs.drop i).take m):=by
 obtain ⟨row,e,fz,c,d,rfl⟩:=h;refine ⟨row,e,fz,c,by omega,?_⟩;rw [List.drop_take,List.take_take,kb];congr 1;omega
theorem At.pf {w:World} {b o n m:Nat} {c d:List Value} (h:At w b o n c) (j:At w b (o+n) m d):At w b o (n+m) (c++d):=by
 obtain ⟨row,e,fz,g,r,rfl⟩:=h;obtain ⟨mP,l,q,f,u,rfl⟩:=j;rw [g] at f;simp only [az,Obj.cells.injEq] at f;obtain ⟨rfl,_,_⟩:=f;refine ⟨row,e,fz,g,by omega,?_⟩;rw [←kb,List.take_add]
theorem At.fst {w:World} {b o n m:Nat} {c d:List Value} (h:At w b o (n+m) (c++d)) (e:c.length=n):At w b o n c:=by
 have:=h.sub 0 n (by omega);simp_all
theorem At.snd {w:World} {b o n m:Nat} {c d:List Value} (h:At w b o (n+m) (c++d)) (e:c.length=n):At w b (o+n) m d:=by
 have f:d.length=m:=by have:=h.len;simp at this;omega
 have:=h.sub n m (by omega)
 grind
theorem adT (n:Nat) (t:Ty) (l:List t.ai):bE (.arr n t) l=(l.map (bE t)).flatten:=rfl
theorem ad8 {t:Ty} (c:t.aQ=true):∀(l:List t.ai) (_:∀x∈l,dm t x) (i:Nat) (x:t.ai),l[i]?=some x→
 (((l.map (bE t)).flatten.drop (i*t.size)).take t.size)=bE t x:=by
 intro l
 induction l with
 |nil=>simp_all
 |cons a l f=>
  intro b i x h;have d:(bE t a).length=t.size:=hy t a c (b a (by simp));cases i with
  |zero=>
   simp_all
  |succ i=>
   simp only [List.getElem?_cons_succ] at h;simp only [dh,k8];rw [←f (fun x e=>b x (by simp [e])) i x h,fP,Nat.add_comm,←kb,List.drop_left' d]
theorem bb.aQ {w:World} {t:Ty} {x:t.ai} {ft:FT} {cs:List Value} (c:t.aQ=true) (b:t.agg=false) (h:bb w t x ft cs):
 dm t x∧ft.ae=[]∧cs=bE t x:=by
 cases t<;>first|exact ⟨h.2.1,h.2.2.1,h.2.2.2⟩|(exfalso;simp [Ty.agg] at b;done)|(exfalso;simp [Ty.aQ] at c;done)
theorem x1 {ft:FT} (h:ft.ae=[]):ft.fst.ae=[]:=by
 cases ft<;>simp_all [FT.fst,FT.ae]
theorem yP {ft:FT} (h:ft.ae=[]):ft.snd.ae=[]:=by
 cases ft<;>simp_all [FT.snd,FT.ae]
theorem bb.gv {w:World}:∀{t:Ty} {x:t.ai} {ft:FT},t.aQ=true→dm t x→ft.ae=[]→bb w t x ft (bE t x)
 | .int _,_,_,b,hk,c=>⟨b,hk,c,rfl⟩
 | .bool,_,_,b,hk,c=>⟨b,hk,c,rfl⟩
 | .bP,_,_,b,hk,c=>⟨b,hk,c,rfl⟩
 | .unit,_,_,b,hk,c=>⟨b,hk,c,rfl⟩
 | .arr _ _,_,_,b,hk,c=>⟨b,hk,c,rfl⟩
 | .bG,_,_,b,_,_=>by simp [Ty.aQ] at b
 | .slice _,_,_,b,_,_=>by simp [Ty.aQ] at b
 | .cons t r,x,ft,b,hk,c=>by
  simp only [Ty.aQ,bp] at b;exact ⟨by rw [c,x1 c,yP c];rfl,bE t x.1,bE r x.2,rfl,bb.gv b.1 hk.1 (x1 c),bb.gv b.2 hk.2 (yP c)⟩
theorem Rd.aQ {w:World} {R:Nat→Prop}:∀{t:Ty} {x:t.ai} {cs:List Value},t.aQ=true→Rd w R t x cs→dm t x∧cs=bE t x
 | .int _,_,_,_,h=>⟨h.2.1,h.2.2⟩
 | .bool,_,_,_,h=>⟨h.2.1,h.2.2⟩
 | .bP,_,_,_,h=>⟨h.2.1,h.2.2⟩
 | .unit,_,_,_,h=>⟨h.2.1,h.2.2⟩
 | .arr _ _,_,_,_,h=>⟨h.2.1,h.2.2⟩
 | .bG,_,_,b,_=>by simp [Ty.aQ] at b
 | .slice _,_,_,b,_=>by simp [Ty.aQ] at b
 | .cons t r,x,cs,b,h=>by
  simp only [Ty.aQ,bp] at b;obtain ⟨g,j,rfl,e,f⟩:=h;obtain ⟨c,rfl⟩:=Rd.aQ b.1 e;obtain ⟨d,rfl⟩:=Rd.aQ b.2 f;exact ⟨⟨c,d⟩,rfl⟩
theorem bb.ms {w:World}:∀{t:Ty} {x:t.ai} {ft:FT} {cs:List Value},t.aQ=true→bb w t x ft cs→dm t x∧cs=bE t x∧ft.ae=[]
 | .int _,_,_,_,_,h=>⟨h.2.1,h.2.2.2,h.2.2.1⟩
 | .bool,_,_,_,_,h=>⟨h.2.1,h.2.2.2,h.2.2.1⟩
 | .bP,_,_,_,_,h=>⟨h.2.1,h.2.2.2,h.2.2.1⟩
 | .unit,_,_,_,_,h=>⟨h.2.1,h.2.2.2,h.2.2.1⟩
 | .arr _ _,_,_,_,_,h=>⟨h.2.1,h.2.2.2,h.2.2.1⟩
 | .bG,_,_,_,b,_=>by simp [Ty.aQ] at b
 | .slice _,_,_,_,b,_=>by simp [Ty.aQ] at b
 | .cons t r,x,ft,cs,b,h=>by
  simp only [Ty.aQ,bp] at b;obtain ⟨g,n,o,rfl,j,l⟩:=h;obtain ⟨c,rfl,e⟩:=bb.ms b.1 j;obtain ⟨d,rfl,f⟩:=bb.ms b.2 l;exact ⟨⟨c,d⟩,rfl,by rw [g,e,f];rfl⟩
section
variable {ρ:Type} {w:World}
theorem bb.get:∀(t:Ty) (x:t.ai) (ft:FT) (cs:List Value) (a:Option (Nat×Nat)) (p:aI) (k:(u:Ty)→u.ai→Option ρ) (r:ρ),
 bb w t x ft cs→(∀b o,a=some (b,o)→At w b o t.size cs)→cq t x p k=some r→
 ∃(u:Ty) (y:u.ai) (I:FT) (a':Option (Nat×Nat)) (D:List Value),k u y=some r∧bL t ft a p=some (u,I,a')∧bb w u y I D∧
  (∀b o,a'=some (b,o)→At w b o u.size D):=by
 intro t
 induction t with
 |cons t r K aj=>
  intro x ft cs a p k dg h g d
  match p,d with
  |[],d=>exact ⟨_,x,ft,a,cs,by simpa [cq] using d,rfl,h,g⟩
  | .f 0::p,d=>
   simp only [cq] at d;obtain ⟨ad,C,O,rfl,v,J⟩:=h;exact K x.1 ft.fst C a p k dg v (fun b o e=>(g b o e).fst (bb.len t x.1 _ C v)) d
  | .f (n+1)::p,d=>
   simp only [cq] at d;obtain ⟨ad,C,O,rfl,v,J⟩:=h;refine aj x.2 ft.snd O (a.map fun x=>(x.1,x.2+t.size)) (.f n::p) k dg J (fun b o e=>?_) d;cases a with
   |none=>cases e
   |some a=>simp only [cx,az,aO] at e;obtain ⟨rfl,rfl⟩:=e;exact (g _ _ rfl).snd (bb.len t x.1 _ C v)
  | .i n::p,d=>simp [cq] at d
 |slice t K=>
  intro x ft cs a p k dg h g d
  match p,d with
  |[],d=>exact ⟨_,x,ft,a,cs,by simpa [cq] using d,rfl,h,g⟩
  | .f n::p,d=>simp [cq] at d
  | .i n::p,d=>
   simp only [cq] at d;split at d;rename_i l j;unfold iV at j;obtain ⟨b,cap,Y,rfl,rfl,v,J,al,h4⟩:=h;have W:n<List.length (α:=t.ai) x:=(bR.1 j).1;cases b with
   |none=>subst h4;omega
   |some b=>
    have hk:Y[n]?=some (Y[n]'(by omega)):=aT _;obtain ⟨c,an,ag⟩:=h4.2 n l _ j hk;obtain ⟨u,y,I,a',D,Z,aa,ab,ac⟩:=K l _ c (some (b,n*t.size)) p k dg ag (fun ak ao e=>by simp_all) d;exact ⟨u,y,I,a',D,Z,by simp only [bL,hk];exact aa,ab,ac⟩
   cases d
 |arr m t _=>
  intro x ft cs a p k dg h g d
  match p,d with
  |[],d=>exact ⟨_,x,ft,a,cs,by simpa [cq] using d,rfl,h,g⟩
  | .f n::p,d=>simp [cq] at d
  | .i n::p,d=>
   simp only [cq] at d;split at d;cases d;rename_i ae;split at d
   ·rename_i l j;unfold iV at j;obtain ⟨z,⟨af,X⟩,am,rfl⟩:=h;have z:t.aQ=true:=z;have W:n<List.length (α:=t.ai) x:=(bR.1 j).1;have U:t.agg=false:=by simpa using ae
    have ah:dm t l:=X l (cS j)
    match p,d with
    |[],d=>
     refine ⟨t,l,.leaf,a.map fun x=>(x.1,x.2+n*t.size),bE t l,by simpa [cq] using d,?_,bb.gv z ah rfl,?_⟩;simp only [bL,U,k7];simp_all;intro b o e;cases a with
     |none=>cases e
     |some a=>
      simp only [cx,az,aO] at e;obtain ⟨rfl,rfl⟩:=e;have:=(g _ _ rfl).sub (n*t.size) t.size (by
       simp only [Ty.size];rw [←af];have:=ke t.size (u7 W)
       grind)
      rw [show bE (.arr m t) x=((show List t.ai from x).map (bE t)).flatten from rfl,ad8 z (show List t.ai from x) X n l j] at this;exact this
    |q::p,d=>cases t<;>first|(exfalso;simp [cq] at d;done)|(exfalso;simp [Ty.agg] at U;done)|(exfalso;simp [Ty.aQ] at z;done)
   cases d
 |_=>
  intro x ft cs a p k dg h g d;cases p with
  |nil=>exact ⟨_,x,ft,a,cs,by simpa [cq] using d,rfl,h,g⟩
  |cons q p=>simp [cq] at d
theorem Rd.get {R:Nat→Prop}:∀(t:Ty) (x:t.ai) (cs:List Value) (a:Option (Nat×Nat)) (p:aI) (k:(u:Ty)→u.ai→Option ρ) (r:ρ),
 Rd w R t x cs→(∀b o,a=some (b,o)→At w b o t.size cs)→cq t x p k=some r→aI.dG p=false→
 ∃(u:Ty) (y:u.ai) (a':Option (Nat×Nat)) (g:List Value),k u y=some r∧(∀ft:FT,ft.ae=[]→∃O,O.ae=[]∧bL t ft a p=some (u,O,a'))∧Rd w R u y g∧
  (∀b o,a'=some (b,o)→At w b o u.size g):=by
 intro t
 induction t with
 |cons t r X W=>
  intro x cs a p k dg h j c z
  match p,c with
  |[],c=>exact ⟨_,x,a,cs,by simpa [cq] using c,fun ft d=>⟨ft,d,rfl⟩,h,j⟩
  | .f 0::p,c=>
   simp only [cq] at c;obtain ⟨l,K,rfl,v,U⟩:=h;obtain ⟨u,y,a',g,C,D,I,J⟩:=X x.1 l a p k dg v (fun b o e=>(j b o e).fst (Rd.len t x.1 l v)) c (by simpa [aI.dG] using z);exact ⟨u,y,a',g,C,fun ft d=>D ft.fst (x1 d),I,J⟩
  | .f (n+1)::p,c=>
   simp only [cq] at c;obtain ⟨l,K,rfl,v,U⟩:=h;obtain ⟨u,y,a',g,C,D,I,J⟩:=W x.2 K (a.map fun x=>(x.1,x.2+t.size)) (.f n::p) k dg U (fun b o e=>by
    cases a with
    |none=>cases e
    |some a=>simp only [cx,az,aO] at e;obtain ⟨rfl,rfl⟩:=e;exact (j _ _ rfl).snd (Rd.len t x.1 l v)) c (by simpa [aI.dG] using z)
   exact ⟨u,y,a',g,C,fun ft d=>D ft.snd (yP d),I,J⟩
  | .i n::p,c=>simp [cq] at c
 |_=>
  intro x cs a p k dg h j c z;cases p with
  |nil=>exact ⟨_,x,a,cs,by simpa [cq] using c,fun ft d=>⟨ft,d,rfl⟩,h,j⟩
  |cons q p=>cases q<;>simp [cq,aI.dG] at c z
end
structure Wr (w w2:World) (b o n:Nat) (cs:List Value):Prop where
 len:cs.length=n
 ex:∃row c e fz,w.heap[b]?=some (.cells row e fz)∧w2.heap[b]?=some (.cells c e fz)∧o+n≤row.size∧
  c.toList=row.toList.take o++cs++row.toList.drop (o+n)
theorem Wr.eS {w w2:World} {b o n:Nat} {cs:List Value} (h:Wr w w2 b o n cs):At w2 b o n cs:=by
 obtain ⟨row,c,e,fz,g,d,j,h4⟩:=h.ex;have l:=h.len;have f:c.toList.length=row.toList.length:=by rw [h4];simp;omega
 refine ⟨c,e,fz,d,by simp at f;omega,?_⟩
 grind
theorem Wr.dc {w w2:World} {b o n:Nat} {cs:List Value} (h:Wr w w2 b o n cs) {d m:Nat} {c:List Value} (r:At w b d m c) (g:d+m≤o∨o+n≤d):At w2 b d m c:=by
 obtain ⟨row,j,e,fz,l,q,z,h4⟩:=h.ex;obtain ⟨mP,v,x,f,y,rfl⟩:=r;rw [l] at f;simp only [az,Obj.cells.injEq] at f;obtain ⟨rfl,rfl,rfl⟩:=f;have C:=h.len;have u:j.toList.length=row.toList.length:=by rw [h4];simp;omega
 refine ⟨j,e,fz,q,by simp at u;omega,?_⟩;rw [h4];rcases g with g|g
 rw [c6,List.drop_append_of_le_length (by simp;omega),List.take_append_of_le_length (by simp;omega),List.drop_take,List.take_take];congr 1;omega;rw [List.drop_append,List.drop_of_length_le (by simp;omega),dJ,kb];congr 2;simp;omega
theorem Wr.bI {w w2:World} {b o n:Nat} {cs:List Value} (h:Wr w w2 b o n cs) {k:Nat} (f:∃row e,w.heap[b]?=some (.cells row e (0,0))∧k=row.size):
 ∃row e,w2.heap[b]?=some (.cells row e (0,0))∧k=row.size:=by
 obtain ⟨row,g,e,fz,d,l,q,h4⟩:=h.ex;obtain ⟨mP,j,c,rfl⟩:=f;rw [d] at c;simp only [az,Obj.cells.injEq] at c;obtain ⟨rfl,rfl,rfl⟩:=c;have r:=h.len;have u:g.toList.length=row.toList.length:=by rw [h4];simp;omega
 grind
theorem Wr.aeP {w w2:World} {b o n:Nat} {cs:List Value} (h:Wr w w2 b o n cs) {f m d:Nat} {c:List Value} (e:At w b f m c) (l:o=f+d) (r:d+n≤m):
 At w2 b f m (c.take d++cs++c.drop (d+n)):=by
 subst l;have g:=h.dc (e.sub 0 d (by omega)) (.inl (by omega));have j:=h.dc (e.sub (d+n) (m-(d+n)) (by omega)) (.inr (by omega));have q:=e.len;rw [jK,jH] at g;rw [List.take_of_length_le (by simp;omega)] at j;have:=(g.pf h.eS).pf (by omega);simp_all
theorem ad9 {t:Ty} (e:t.aQ=true) (y:t.ai):∀(l:List t.ai) (_:∀x∈l,dm t x) (n:Nat),n<l.length→
 ((l.set n y).map (bE t)).flatten=((l.map (bE t)).flatten.take (n*t.size))++bE t y++((l.map (bE t)).flatten.drop (n*t.size+t.size)):=by
 intro l
 induction l with
 |nil=>intro _ n h;simp at h
 |cons a l g=>
  intro b n h;have j:(bE t a).length=t.size:=hy t a e (b a (by simp));cases n with
  |zero=>simp_all
  |succ n=>
   have:=g (fun x f=>b x (by simp [f])) n (by simpa using h);simp only [List.set_cons_succ,dh,k8,this];have c:(n+1)*t.size=(bE t a).length+n*t.size:=by grind
   have d:(n+1)*t.size+t.size=(bE t a).length+(n*t.size+t.size):=by omega
   rw [d,c,List.take_length_add_append,List.drop_length_add_append];simp_all
theorem qF {c:List FT} {n:Nat} {k:FT} (hk:c[n]?=some k) (h:(FT.bq c).Nodup):k.ae.Nodup∧
 (∀i k',i≠n→c[i]?=some k'→∀b∈k'.ae,b∉k.ae):=by
 induction c generalizing n with
 |nil=>simp at hk
 |cons q c o=>
  simp only [FT.bq,cn] at h;obtain ⟨j,l,g⟩:=h;cases n with
  |zero=>
   simp only [List.getElem?_cons_zero,az] at hk;subst hk;refine ⟨j,fun i k' hi d b e f=>?_⟩;cases i with
   |zero=>exact hi rfl
   |succ i=>exact g b f b (fi (cS (by simpa using d)) e) rfl
  |succ n=>
   obtain ⟨h4,h5⟩:=o (by simpa using hk) l;refine ⟨h4,fun i k' hi d b e f=>?_⟩;cases i with
   |zero=>
    simp only [List.getElem?_cons_zero,az] at d;subst d;exact g b e b (fi (cS (by simpa using hk)) f) rfl
   |succ i=>grind
section
variable {ρ:Type} {w w2:World}
theorem bb.set {I aP:Nat} {af:List Value} {u:Ty} {y:u.ai} {ay ft2:FT} (D:Wr w w2 I aP u.size af) (ar:bb w2 u y ft2 af):
 ∀(t:Ty) (x:t.ai) (ft:FT) (cs:List Value) (a:Option (Nat×Nat)) (p:aI) (v:Ty) (k:t.ai→Option ρ) (r:ρ),
 bb w t x ft cs→(∀b o,a=some (b,o)→At w b o t.size cs∧b∉ft.ae∧(b≠I→w2.heap[b]?=w.heap[b]?))→ft.ae.Nodup→
 bL t ft a p=some (v,ay,some (I,aP))→dU t x p u y k=some r→
 (∀b∈ft.ae,b∉ay.ae→b≠I→w2.heap[b]?=w.heap[b]?)→I∉ay.ae→
 v=u∧∃(x':t.ai) (a4:List Value),k x'=some r∧bb w2 t x' (bt t ft p ft2) a4∧a4.length=cs.length∧(∀b o,a=some (b,o)→At w2 b o t.size a4):=by
 intro t
 induction t with
 |cons t r aA bn=>
  intro x ft cs a p v k dg h C K j g O ag
  match p,j,g with
  |[],j,g=>
   simp only [bL,az,aO] at j;obtain ⟨rfl,rfl,rfl⟩:=j;simp only [dU] at g;split at g;rename_i z aa;obtain ⟨rfl,rfl⟩:=e4 aa;exact ⟨rfl,y,af,g,ar,by rw [bb.len _ _ _ _ h,D.len],fun b o e=>by simp only [az,aO] at e;obtain ⟨rfl,rfl⟩:=e;exact D.eS⟩;cases g
  | .f 0::p,j,g=>
   simp only [dU] at g;obtain ⟨Y,W,X,rfl,ab,ac⟩:=h;simp only [bL] at j;have an:=bb.len t x.1 _ W ab;have be:=bb.len r x.2 _ X ac;simp only [Y,cn] at K;obtain ⟨a0,a1,a9⟩:=K;obtain ⟨aj,aq⟩:=gm _ _ _ _ j;obtain ⟨rfl,x',aD,al,aw,ax,am⟩:=aA x.1 ft.fst W a p v _ dg ab (fun b o e=>⟨(C b o e).1.fst an,fun l=>(C b o e).2.1 (by simp [Y,l]),(C b o e).2.2⟩) a0 j g (fun b l=>O b (by simp [Y,l])) ag;have aY:bb w2 r x.2 ft.snd X:=bb.bQ r x.2 _ X (fun b l=>O b (by simp [Y,l]) (fun ap=>a9 b (aj b ap) b l rfl) (fun e=>by
    subst e;rcases aq with ⟨J,av,e0,ah,_⟩|⟨d,e0,_⟩
    grind
    cases a with
    |none=>cases e0
    |some a=>grind)) ac
   refine ⟨rfl,(x',x.2),aD++X,al,⟨by simp [bt,FT.ae,FT.fst,FT.snd],aD,X,rfl,aw,aY⟩,by simp [ax],fun b o e=>?_⟩;simp only [Ty.size];refine (am b o e).pf ?_;have Z:At w b (o+t.size) r.size X:=(C b o e).1.snd an;by_cases U:b=I;subst U;refine D.dc Z (.inr ?_)
   grind
   exact Z.bQ ((C b o e).2.2 U)
  | .f (n+1)::p,j,g=>
   simp only [dU] at g;obtain ⟨Y,W,X,rfl,ab,ac⟩:=h;simp only [bL] at j;have an:=bb.len t x.1 _ W ab;have be:=bb.len r x.2 _ X ac;simp only [Y,cn] at K;obtain ⟨a0,a1,a9⟩:=K;obtain ⟨aj,aq⟩:=gm _ _ _ _ j;obtain ⟨rfl,x',a3,al,aw,ax,am⟩:=bn x.2 ft.snd X (a.map fun x=>(x.1,x.2+t.size)) (.f n::p) v _ dg ac (fun b o e=>by
    cases a with
    |none=>cases e
    |some a=>
     simp only [cx,az,aO] at e;obtain ⟨rfl,rfl⟩:=e;exact ⟨(C _ _ rfl).1.snd an,fun l=>(C _ _ rfl).2.1 (by simp [Y,l]),(C _ _ rfl).2.2⟩) a1 j g (fun b l=>O b (by simp [Y,l])) ag
   have aX:bb w2 t x.1 ft.fst W:=bb.bQ t x.1 _ W (fun b l=>O b (by simp [Y,l]) (fun ap=>a9 b l b (aj b ap) rfl) (fun e=>by
    subst e;rcases aq with ⟨J,av,e0,ah,_⟩|⟨d,e0,_⟩
    grind
    cases a with
    |none=>cases e0
    |some a=>grind)) ab
   refine ⟨rfl,(x.1,x'),W++a3,al,⟨by simp [bt,FT.ae,FT.fst,FT.snd],W,a3,rfl,aX,aw⟩,by simp [ax],fun b o e=>?_⟩;simp only [Ty.size];have Z:At w b o t.size W:=(C b o e).1.fst an;have bd:At w2 b (o+t.size) r.size a3:=am b (o+t.size) (by subst e;rfl);refine At.pf ?_ bd;by_cases U:b=I;subst U;refine D.dc Z (.inl ?_)
   grind
   exact Z.bQ ((C b o e).2.2 U)
  | .i n::p,j,g=>simp [bL] at j
 |slice t aA=>
  intro x ft cs a p v k dg h C K j g O ag
  match p,j,g with
  |[],j,g=>
   simp only [bL,az,aO] at j;obtain ⟨rfl,rfl,rfl⟩:=j;simp only [dU] at g;split at g;rename_i z aa;obtain ⟨rfl,rfl⟩:=e4 aa;exact ⟨rfl,y,af,g,ar,by rw [bb.len _ _ _ _ h,D.len],fun b o e=>by simp only [az,aO] at e;obtain ⟨rfl,rfl⟩:=e;exact D.eS⟩;cases g
  | .f n::p,j,g=>simp [bL] at j
  | .i n::p,j,g=>
   simp only [dU] at g;split at g;rename_i aC ak;unfold iV at ak;obtain ⟨b,cap,au,rfl,rfl,ab,ac,bo,h4⟩:=h;have aL:n<List.length (α:=t.ai) x:=(bR.1 ak).1;cases b with
   |none=>subst h4;omega
   |some b=>
    have hk:au[n]?=some (au[n]'(by omega)):=aT _;generalize au[n]'(by omega)=kn at hk;simp only [bL,hk] at j;obtain ⟨c,bp,bi⟩:=h4.2 n aC _ ak hk;simp only [FT.ae,fW,g5,jJ] at K;obtain ⟨a0,a1⟩:=qF hk K.2;have a8:=cS hk;obtain ⟨aj,aq⟩:=gm _ _ _ _ j;have aV:b∉kn.ae:=fun l=>K.1 (fi a8 l)
    have aU:b∉ay.ae:=fun l=>aV (aj b l)
    have aS:b≠I→w2.heap[b]?=w.heap[b]?:=fun bg=>O b (by simp [FT.ae]) aU bg
    obtain ⟨rfl,x',c',al,aw,ax,am⟩:=aA aC kn c (some (b,n*t.size)) p v _ dg bi (fun J av e=>by
     grind) a0 j g
     (fun J l=>O J (by simp only [FT.ae,aZ];exact .inr (fi a8 l))) ag
    have bq:=am b (n*t.size) rfl;have aF:I=b∨I∈kn.ae:=by
     grind
    refine ⟨rfl,List.set (α:=t.ai) x n x',[.slice (some ⟨b,0,none⟩) (List.length (α:=t.ai) x) cap],al,?_,rfl,?_⟩;have ao:List.length (α:=t.ai) (List.set (α:=t.ai) x n x')=List.length (α:=t.ai) x:=dI;refine ⟨some b,cap,au.set n (bt t kn p ft2),by simp only [bt,hk],by rw [ao];rfl,by rw [ao];exact ab,by rw [ao];exact ac,by grind,?_,?_⟩;by_cases U:b=I;subst U;exact D.bI h4.1
    grind
    intro i aB a2 bv bs;by_cases aH:i=n
    grind
    have bm:(show List t.ai from x)[i]?=some aB:=by
     grind
    have a7:au[i]?=some a2:=by
     grind
    obtain ⟨aE,aG,bj⟩:=h4.2 i aB a2 bm a7;have aK:=cS a7;refine ⟨aE,?_,bb.bQ t aB a2 aE (fun J ah=>O J (by simp only [FT.ae,aZ];exact .inr (fi aK ah)) (fun ap=>a1 i a2 aH a7 J ah (aj J ap)) (fun e=>?_)) bj⟩;by_cases U:b=I;subst U;refine D.dc aG ?_;rcases aq with ⟨J,av,e0,ah,_⟩|⟨d,e0,br⟩
    grind
    simp only [cx,az,aO] at e0;obtain ⟨_,rfl⟩:=e0;rcases Nat.lt_or_gt_of_ne aH with bf|bc
    left;have:=ke t.size (u7 bf)
    grind
    right;have:=ke t.size (u7 bc)
    grind
    exact aG.bQ (aS U);subst e;rcases aF with rfl|l
    exact K.1 (fi aK ah)
    grind
    intro J av e;obtain ⟨Z,bh,aR⟩:=C J av e;refine Z.bQ (aR fun e=>bh ?_);subst e;simp only [FT.ae,fW,g5,cy];rcases aF with rfl|l
    exact .inl rfl;exact .inr (fi a8 l)
   cases g
 |arr m t _=>
  intro x ft cs a p v k dg h C K j g O ag
  match p,j,g with
  |[],j,g=>
   simp only [bL,az,aO] at j;obtain ⟨rfl,rfl,rfl⟩:=j;simp only [dU] at g;split at g;rename_i z aa;obtain ⟨rfl,rfl⟩:=e4 aa;exact ⟨rfl,y,af,g,ar,by rw [bb.len _ _ _ _ h,D.len],fun b o e=>by simp only [az,aO] at e;obtain ⟨rfl,rfl⟩:=e;exact D.eS⟩;cases g
  | .f n::p,j,g=>simp [bL] at j
  | .i n::q::p,j,g=>simp [bL] at j
  |[.i n],j,g=>
   obtain ⟨ad,⟨aJ,aM⟩,aW,rfl⟩:=h;have ad:t.aQ=true:=ad;simp only [bL] at j;split at j;cases j;rename_i a6;simp only [fc,Nat.ble_eq,gQ,jF,Nat.not_le] at a6;simp only [az,aO] at j;obtain ⟨bl,_,a5⟩:=j;subst bl;cases a with
   |none=>cases a5
   |some a=>
    simp only [cx,az,aO] at a5;obtain ⟨rfl,rfl⟩:=a5;simp only [dU] at g;split at g;cases g;split at g;rename_i aC ak;unfold iV at ak;split at g;rename_i z aa;obtain ⟨rfl,rfl⟩:=e4 aa;obtain ⟨bw,_,rfl⟩:=bb.aQ ad a6.1 ar;have aL:n<(show List u.ai from x).length:=(bR.1 ak).1;have ao:List.length (α:=u.ai) (List.set (α:=u.ai) x n y)=List.length (α:=u.ai) x:=dI;have Z:=D.aeP (d:=n*u.size) (C _ _ rfl).1 rfl (by
     simp only [Ty.size];have:=ke u.size (u7 a6.2)
     grind)
    have ba:=ad9 ad y (show List u.ai from x) aM n aL;have aN:dm (.arr m u) (List.set (α:=u.ai) x n y):=⟨ao.trans aJ,fun bx bu=>by
     grind⟩
    have bk:dm (.arr m u) x:=⟨aJ,aM⟩;refine ⟨rfl,List.set (α:=u.ai) x n y,bE (.arr m u) (List.set (α:=u.ai) x n y),g,⟨ad,aN,by rw [show bt (.arr m u) ft [.i n] ft2=ft by cases ft<;>rfl];exact aW,rfl⟩,(hy (.arr m u) _ ad aN).trans (hy (.arr m u) x ad bk).symm,?_⟩;intro b o e;simp only [az] at e;subst e;rw [show bE (.arr m u) (List.set (α:=u.ai) x n y)=(((show List u.ai from x).set n y).map (bE u)).flatten from rfl,ba];exact Z;cases g;cases g
 |_=>
  intro x ft cs a p v k dg h C K j g O ag;cases p with
  |cons q p=>simp [bL] at j
  |nil=>
   simp only [bL,az,aO] at j;obtain ⟨rfl,rfl,rfl⟩:=j;simp only [dU] at g;split at g;rename_i z aa;obtain ⟨rfl,rfl⟩:=e4 aa;exact ⟨rfl,y,af,g,ar,by rw [bb.len _ _ _ _ h,D.len],fun b o e=>by simp only [az,aO] at e;obtain ⟨rfl,rfl⟩:=e;exact D.eS⟩;cases g
end
abbrev bY:=Nat→aI→Option (Ty×FT×Option (Nat×Nat))
structure Gh where
 bg:Option Nat
 ft:FT
def Gh.ae (g:Gh):List Nat:=g.bg.toList++g.ft.ae
def ax (B:Nat→Option bl) (G:Nat→Gh):bY:=fun b p=>
 match B b with
 |some x=>bL x.ty (G b).ft ((G b).bg.map (·,0)) p
 |none=>none
def bH (A:bY) (w:World) (R:Nat→Prop):TV→List Value→Prop
 | .ad t x,cs=>Rd w R t x cs
 | .nil,cs=>cs=[.slice none 0 0]
 | .unit,cs=>cs=[]
 | .cons a r,cs=>∃h j,cs=h++j∧bH A w R a h∧bH A w R r j
 | .ref b p,cs=>∃t ft e off,A b p=some (t,ft,some (e,off))∧cs=[.pointer (some ⟨e,off,none⟩)]
 | .sl b p,cs=>∃t d cap g a,A b p=some (.slice t,.node d cap g,a)∧cs=[.slice (d.map (⟨·,0,none⟩)) g.length cap]
 | .slw b p lo n,cs=>∃t d cap g a,A b p=some (.slice t,.node d cap g,a)∧(lo+n≤g.length∧n≤eZ)∧
  ∃a' c,cs=[.slice a' n c]∧(n≤c∧(lo=0→c=cap∧a'=d.map (⟨·,0,none⟩)))∧(0<n→∃e,d=some e∧a'=some ⟨e,lo*t.size,none⟩)
 | .bw t x,cs=>∃e off c,cs=[.pointer (some ⟨e,off,none⟩)]∧R e∧At w e off t.size c∧Rd w R t x c
 | .bV f l,cs=>∃vs,bH A w R l vs∧cs=[.func (.func f) #[] vs.toArray]
 | .mp b,cs=>∃t d cap g a,A b []=some (.slice t,.node (some d) cap g,a)∧cs=[.map (some d)]
 | .un,cs=>∃v,cs=[v]
 | .tup _,_=>False
 | .ab _ _,_=>False
def TV.agg:TV→Bool
 | .ad t _=>t.agg
 | .unit| .cons _ _=>true
 |_=>false
def eV (A:bY) (w:World) (R:Nat→Prop) (v:TV) (x:Value):Prop:=
 v=.un∨∃cs,bH A w R v cs∧(if v.agg then x=.agg cs.toArray else cs=[x])
def fH (A:bY) (w:World) (R:Nat→Prop):TV→List Value→Prop
 | .cons a r,x::xs=>eV A w R a x∧fH A w R r xs
 | .unit,[]=>True
 |_,_=>False
def VR (A:bY) (w:World) (R:Nat→Prop) (v:TV) (x:Value):Prop:=
 match v with
 | .tup a=>∃xs,fH A w R a xs∧x=.tuple xs.toArray
 |v=>eV A w R v x
def ew:(t:Ty)→t.ai→FT→List Value→Prop
 | .slice _,_,ft,cs=>ft.ae=[]∧cs.length=1
 | .cons t r,x,ft,cs=>ft.ae=ft.fst.ae++ft.snd.ae∧∃b c,cs=b++c∧ew t x.1 ft.fst b∧ew r x.2 ft.snd c
 | .bG,_,_,_=>False
 |t,x,ft,cs=>t.aQ=true∧dm t x∧ft.ae=[]∧cs=bE t x
def m9 (w:World) (t:Ty) (xs:List t.ai) (f:List Bool) (ft:FT) (cs:List Value):Prop:=
 ∃b cap d,ft=.node b cap d∧cs=[.slice (b.map (⟨·,0,none⟩)) xs.length cap]∧xs.length≤cap∧xs.length≤eZ∧d.length=xs.length∧f.length=xs.length∧
  (match b with
   |none=>cap=0
   |some b=>(∃row e,w.heap[b]?=some (.cells row e (0,0))∧cap*t.size=row.size)∧
    ∀(i:Nat) (x:t.ai) (k:FT) (g:Bool),xs[i]?=some x→d[i]?=some k→f[i]?=some g→∃c,At w b (i*t.size) t.size c∧(g=false→bb w t x k c)∧(g=true→ew t x k c))
def e8:(K:Ty)→K.ai→Value
 | .int b,x=>.int b x
 |t,x=>.agg (bE t x).toArray
def iY (K:Ty):Prop:=K=.int .i64∨K=.arr 2 (.int .i64)
def lj (w:World):(u:Ty)→List u.ai→FT→List Value→Prop
 | .cons K (.cons (.int .i64) .unit),xs,ft,cs=>iY K∧∃c b,ft=.node (some c) 0 []∧cs=[.map (some c)]∧w.heap[c]?=some (.map b b.size)∧b.size=List.length xs∧
  ∀(i:Nat) (x:K.ai×Int×Unit),xs[i]?=some x→dm K x.1∧∃e,b[i]?=some e∧e.key=e8 K x.1∧e.val=.int .i64 x.2.1∧e.born=i
 |_,_,_,_=>False
def w3 (w:World) (R:Nat→Prop) (u:Ty) (xs:List u.ai) (ft:FT) (cs:List Value):Prop:=
 ∃b cap d,ft=.node (some b) cap d∧FT.bq d=[]∧cs=[.slice (some ⟨b,0,none⟩) xs.length cap]∧xs.length≤cap∧xs.length≤eZ∧d.length=xs.length∧
  (∃row e,w.heap[b]?=some (.cells row e (0,0))∧cap*u.size=row.size)∧∀(i:Nat) (x:u.ai),xs[i]?=some x→∃c,At w b (i*u.size) u.size c∧Rd w R u x c
def gk (w:World) (R:Nat→Prop) (t:Ty):TV→FT→List Value→Prop
 | .cons (.ab (.slice u) xs) (.ab (.slice .bool) b),ft,cs=>u=t∧m9 w u xs b ft cs
 | .ab (.slice u) xs,ft,cs=>u=t∧lj w u xs ft cs
 | .ad (.slice u) xs,ft,cs=>u=t∧w3 w R u xs ft cs
 |_,_,_=>False
def aW (A:bY) (w:World) (R:Nat→Prop):TV→Ty→FT→List Value→Prop
 | .ab u x,t,ft,cs=>u=t∧bb w u x ft cs
 | .ad u x,t,ft,cs=>u=t∧ft.ae=[]∧Rd w R u x cs
 | .cons a d,.cons t r,ft,cs=>ft.ae=ft.fst.ae++ft.snd.ae∧∃b e,cs=b++e∧b.length=t.size∧aW A w R a t ft.fst b∧aW A w R d r ft.snd e
 | .cons _ _,_,_,_=>False
 | .unit,t,ft,cs=>t=.unit∧ft.ae=[]∧cs=[]
 | .un,t,ft,cs=>ft.ae=[]∧t.size=1∧t.agg=false∧cs.length=1
 | .tup c,.slice t,ft,cs=>gk w R t c ft cs
 | .tup _,_,_,_=>False
 |v,t,ft,cs=>t.size=1∧t.agg=false∧ft.ae=[]∧bH A w R v cs
def dF (A:bY) (w:World) (R:Nat→Prop) (g:Gh) (x:bl):Prop:=
 if x.cm then g.bg=none∧(∃t,x.ty=.slice t)∧∃cs,aW A w R x.c x.ty g.ft cs
 else ∃b row e,g.bg=some b∧w.heap[b]?=some (.cells row e (0,0))∧row.size=x.ty.size∧aW A w R x.c x.ty g.ft row.toList
structure Fr where
 R:Nat→Prop
 M:List Nat
 w0:World
 nt:Nat
 bg:Nat→Option Nat
 dz:Nat→Option (Option Nat×Nat×Nat)
 sv:List (Array Value):=[]
def Fr.gy (F:Fr) (i n:Nat):Value:=(F.sv.getD i #[]).getD n undef
def FT.dz:FT→Option (Option Nat×Nat×Nat)
 | .node b cap c=>some (b,cap,c.length)
 |_=>none
structure gj (w w2:World):Prop where
 size:w.heap.size≤w2.heap.size
 os:w2.os=w.os
 output:w2.output=w.output
theorem gj.refl (w:World):gj w w:=⟨cf _,rfl,rfl⟩
theorem gj.trans {a b c:World} (h:gj a b) (k:gj b c):gj a c:=⟨Nat.le_trans h.size k.size,k.os.trans h.os,k.output.trans h.output⟩
structure aA (F:Fr) (G:Nat→Gh) (s:St) (a:Act) (w:World):Prop where
 box:∀i x,s.box i=some x→dF (ax s.box G) w F.R (G i) x
 cF:∀i x,s.box i=some x→x.ty.cF
 dc:∀i j x y,s.box i=some x→s.box j=some y→i≠j→∀b∈(G i).ae,b∉(G j).ae
 b7:∀i x,s.box i=some x→(G i).ae.Nodup
 bK:∀i x,s.box i=some x→∀b∈(G i).ae,¬F.R b∧b<w.heap.size∧(b∈F.M∨F.w0.heap.size≤b)
 R:∀b,F.R b→b<F.w0.heap.size∧b∉F.M
 tmps:∀n,VR (ax s.box G) w F.R (s.get n) (a.tmps.getD n undef)
 bQ:∀b,b<F.w0.heap.size→b∉F.M→w.heap[b]?=F.w0.heap[b]?
 gq:gj F.w0 w
 defers:a.defers=[]
 nt:a.tmps.size=F.nt
 c1:∀i x,s.box i=some x→(i%32=0→(G i).bg=F.bg i)∧(x.dN=true→x.cm=true∧(G i).ft.dz=F.dz i)
 sv:∀i n,VR (ax s.box G) w F.R (s.gy i n) (F.gy i n)
 j9:s.sv.length=F.sv.length
theorem aA.size {F:Fr} {G:Nat→Gh} {s:St} {a:Act} {w:World} (h:aA F G s a w):F.w0.heap.size≤w.heap.size:=h.gq.size
def fJ:Ty→FT→Option (Option Nat×Nat×Nat)
 | .slice _,ft=>ft.dz
 |_,_=>none
def ia (A A':bY):Prop:=∀b p t ft a,A b p=some (t,ft,a)→∃c,A' b p=some (t,c,a)∧fJ t c=fJ t ft
def m5 (b:Nat) (p:aI) (A A':bY):Prop:=∀c q t ft a,A c q=some (t,ft,a)→
 (b≠c∨aI.fM p q=none→∃d,A' c q=some (t,d,a)∧fJ t d=fJ t ft)∧
 (∀r,b=c→aI.fM p q=some r→aI.dG r=false→∃d,A' c q=some (t,d,a))
theorem nJ {ft:FT} {b:Option Nat} {cap:Nat} {c:List FT} (h:ft.dz=(FT.node b cap c).dz):∃d,ft=.node b cap d∧d.length=c.length:=by
 cases ft<;>simp [FT.dz] at h
 simp_all
section
variable {A A':bY} {w w':World} {R:Nat→Prop}
theorem bH.mono (j:ia A A') (l:∀b,R b→w'.heap[b]?=w.heap[b]?):∀(v:TV) (cs:List Value),bH A w R v cs→bH A' w' R v cs
 | .ad t x,cs,h=>Rd.bQ (fun _ h=>h) l t x cs h
 | .nil,_,h=>h
 | .unit,_,h=>h
 | .un,_,h=>h
 | .tup _,_,h=>h
 | .ab _ _,_,h=>h
 | .cons a r,cs,h=>by
  obtain ⟨z,C,rfl,d,e⟩:=h;exact ⟨z,C,rfl,bH.mono j l a z d,bH.mono j l r C e⟩
 | .ref b p,cs,h=>by
  obtain ⟨t,ft,y,off,d,rfl⟩:=h;obtain ⟨u,e,_⟩:=j _ _ _ _ _ d;exact ⟨t,u,y,off,e,rfl⟩
 | .sl b p,cs,h=>by
  obtain ⟨t,o,cap,D,a,d,rfl⟩:=h;obtain ⟨u,e,g⟩:=j _ _ _ _ _ d;obtain ⟨q,rfl,h4⟩:=nJ g;exact ⟨t,o,cap,q,a,e,by rw [h4]⟩
 | .slw b p lo n,cs,h=>by
  obtain ⟨t,o,cap,D,a,d,J,h5⟩:=h;obtain ⟨u,e,g⟩:=j _ _ _ _ _ d;obtain ⟨q,rfl,h4⟩:=nJ g;exact ⟨t,o,cap,q,a,e,⟨by omega,J.2⟩,h5⟩
 | .bw t x,cs,h=>by
  obtain ⟨y,off,c,rfl,d,e,g⟩:=h;exact ⟨y,off,c,rfl,d,e.bQ (l _ d),Rd.bQ (fun _ h=>h) l t x c g⟩
 | .bV f I,cs,h=>by
  obtain ⟨vs,d,rfl⟩:=h;exact ⟨vs,bH.mono j l I vs d,rfl⟩
 | .mp b,cs,h=>by
  obtain ⟨t,o,cap,D,a,d,rfl⟩:=h;obtain ⟨u,e,g⟩:=j _ _ _ _ _ d;obtain ⟨q,rfl,_⟩:=nJ g;exact ⟨t,o,cap,q,a,e,rfl⟩
theorem aeZ (b:Nat) (p:aI) (v:TV):(v.aw b p).agg=v.agg:=by
 cases v
 case ref=>simp only [TV.aw];split<;>(try split)<;>(try split)<;>rfl
 case sl=>simp only [TV.aw];split<;>(try split)<;>(try split)<;>rfl
 case slw=>simp only [TV.aw];split<;>(try split)<;>(try split)<;>rfl
 case mp=>simp only [TV.aw];split<;>(try split)<;>(try split)<;>rfl
 all_goals rfl
theorem bH.aw {b:Nat} {p:aI} (z:m5 b p A A') (D:∀b,R b→w'.heap[b]?=w.heap[b]?):∀(v:TV) (cs:List Value),bH A w R v cs→bH A' w' R (v.aw b p) cs
 | .ad t x,cs,h=>Rd.bQ (fun _ h=>h) D t x cs h
 | .nil,_,h=>h
 | .unit,_,h=>h
 | .un,_,h=>h
 | .tup _,_,h=>h.elim
 | .ab _ _,_,h=>h.elim
 | .cons a r,cs,h=>by
  obtain ⟨J,K,rfl,g,d⟩:=h;exact ⟨J,K,rfl,bH.aw z D a J g,bH.aw z D r K d⟩
 | .ref c q,cs,h=>by
  obtain ⟨t,ft,I,off,g,rfl⟩:=h;obtain ⟨d,C⟩:=z _ _ _ _ _ g;simp only [TV.aw];split;rename_i e;split;rename_i r o;split;exact ⟨_,rfl⟩;rename_i Y;obtain ⟨j,h4⟩:=C r (fe e) o (by simpa using Y);exact ⟨t,j,I,off,h4,rfl⟩;rename_i o;obtain ⟨j,h4,_⟩:=d (.inr o);exact ⟨t,j,I,off,h4,rfl⟩;rename_i e;obtain ⟨j,h4,_⟩:=d (.inl (fun y=>e (by rw [y,lY])));exact ⟨t,j,I,off,h4,rfl⟩
 | .sl c q,cs,h=>by
  obtain ⟨t,u,cap,W,a,g,rfl⟩:=h;obtain ⟨d,C⟩:=z _ _ _ _ _ g;simp only [TV.aw];split;rename_i e;split;exact ⟨_,rfl⟩;rename_i o;obtain ⟨j,h4,h5⟩:=d (.inr o);obtain ⟨l,rfl,h6⟩:=nJ h5;exact ⟨t,u,cap,l,a,h4,by rw [h6]⟩;rename_i e;obtain ⟨j,h4,h5⟩:=d (.inl (fun y=>e (by rw [y,lY])));obtain ⟨l,rfl,h6⟩:=nJ h5;exact ⟨t,u,cap,l,a,h4,by rw [h6]⟩
 | .slw c q lo n,cs,h=>by
  obtain ⟨t,u,cap,W,a,g,U,a',c',rfl,O⟩:=h;obtain ⟨d,C⟩:=z _ _ _ _ _ g;simp only [TV.aw];split;rename_i e;split;exact ⟨_,rfl⟩;rename_i o;obtain ⟨j,h4,h5⟩:=d (.inr o);obtain ⟨l,rfl,h6⟩:=nJ h5;exact ⟨t,u,cap,l,a,h4,⟨by omega,U.2⟩,a',c',rfl,O⟩;rename_i e;obtain ⟨j,h4,h5⟩:=d (.inl (fun y=>e (by rw [y,lY])));obtain ⟨l,rfl,h6⟩:=nJ h5;exact ⟨t,u,cap,l,a,h4,⟨by omega,U.2⟩,a',c',rfl,O⟩
 | .bw t x,cs,h=>by
  obtain ⟨I,off,c,rfl,g,d,C⟩:=h;exact ⟨I,off,c,rfl,g,d.bQ (D _ g),Rd.bQ (fun _ h=>h) D t x c C⟩
 | .bV f X,cs,h=>by
  obtain ⟨vs,g,rfl⟩:=h;exact ⟨vs,bH.aw z D X vs g,rfl⟩
 | .mp c,cs,h=>by
  obtain ⟨t,u,cap,W,a,g,rfl⟩:=h;obtain ⟨d,C⟩:=z _ _ _ _ _ g;simp only [TV.aw];split;rename_i e;split;exact ⟨_,rfl⟩;rename_i o;obtain ⟨j,h4,h5⟩:=d (.inr o);obtain ⟨l,rfl,h6⟩:=nJ h5;exact ⟨t,u,cap,l,a,h4,rfl⟩;rename_i e;obtain ⟨j,h4,h5⟩:=d (.inl (fun y=>e (by rw [y,lY])));obtain ⟨l,rfl,h6⟩:=nJ h5;exact ⟨t,u,cap,l,a,h4,rfl⟩
theorem eV.mono (e:ia A A') (f:∀b,R b→w'.heap[b]?=w.heap[b]?) {v:TV} {x:Value} (h:eV A w R v x):eV A' w' R v x:=
 h.imp id fun ⟨cs,c,d⟩=>⟨cs,bH.mono e f v cs c,d⟩
theorem fH.mono (c:ia A A') (d:∀b,R b→w'.heap[b]?=w.heap[b]?):∀(v:TV) (xs:List Value),fH A w R v xs→fH A' w' R v xs
 | .cons _ r,_::xs,h=>⟨eV.mono c d h.1,fH.mono c d r xs h.2⟩
 | .unit,[],_=>trivial
 | .cons _ _,[],h=>h.elim
 | .unit,_::_,h=>h.elim
 | .un,_,h=>h.elim
 | .ad _ _,_,h=>h.elim
 | .ab _ _,_,h=>h.elim
 | .nil,_,h=>h.elim
 | .tup _,_,h=>h.elim
 | .ref _ _,_,h=>h.elim
 | .sl _ _,_,h=>h.elim
 | .slw _ _ _ _,_,h=>h.elim
 | .bw _ _,_,h=>h.elim
 | .bV _ _,_,h=>h.elim
 | .mp _,_,h=>h.elim
theorem VR.mono (c:ia A A') (d:∀b,R b→w'.heap[b]?=w.heap[b]?) {v:TV} {x:Value} (h:VR A w R v x):VR A' w' R v x:=by
 unfold VR at*;split;rename_i a;obtain ⟨xs,e,f⟩:=h;exact ⟨xs,fH.mono c d a xs e,f⟩;rename_i g;split at h;simp_all;exact eV.mono c d h
theorem eV.aw {b:Nat} {p:aI} (e:m5 b p A A') (f:∀b,R b→w'.heap[b]?=w.heap[b]?) {v:TV} {x:Value} (h:eV A w R v x):eV A' w' R (v.aw b p) x:=by
 rcases h with rfl|⟨cs,c,d⟩
 exact .inl rfl;exact .inr ⟨cs,bH.aw e f v cs c,by rw [aeZ];exact d⟩
theorem fH.aw {b:Nat} {p:aI} (c:m5 b p A A') (d:∀b,R b→w'.heap[b]?=w.heap[b]?):∀(v:TV) (xs:List Value),fH A w R v xs→fH A' w' R (v.aw b p) xs
 | .cons _ r,_::xs,h=>⟨eV.aw c d h.1,fH.aw c d r xs h.2⟩
 | .unit,[],_=>trivial
 | .cons _ _,[],h=>h.elim
 | .unit,_::_,h=>h.elim
 | .un,_,h=>h.elim
 | .ad _ _,_,h=>h.elim
 | .ab _ _,_,h=>h.elim
 | .nil,_,h=>h.elim
 | .tup _,_,h=>h.elim
 | .ref _ _,_,h=>h.elim
 | .sl _ _,_,h=>h.elim
 | .slw _ _ _ _,_,h=>h.elim
 | .bw _ _,_,h=>h.elim
 | .bV _ _,_,h=>h.elim
 | .mp _,_,h=>h.elim
theorem nu {v:TV} {x:Value} (h:∀a,v≠ .tup a):VR A w R v x=eV A w R v x:=by
 cases v<;>first|rfl|exact absurd rfl (h _)
theorem ae2 (b:Nat) (p:aI) {v:TV} (h:∀a,v≠ .tup a):∀a,v.aw b p≠ .tup a:=by
 intro a;cases v
 case tup a=>exact absurd rfl (h a)
 case ref=>simp only [TV.aw];grind
 case sl=>simp only [TV.aw];grind
 case slw=>simp only [TV.aw];grind
 case mp=>simp only [TV.aw];grind
 all_goals simp [TV.aw]
theorem VR.aw {b:Nat} {p:aI} (c:m5 b p A A') (g:∀b,R b→w'.heap[b]?=w.heap[b]?) {v:TV} {x:Value} (h:VR A w R v x):VR A' w' R (v.aw b p) x:=by
 by_cases f:∃a,v=.tup a
 obtain ⟨a,rfl⟩:=f;obtain ⟨xs,j,l⟩:=h;exact ⟨xs,fH.aw c g a xs j,l⟩;have d:∀a,v≠ .tup a:=fun a e=>f ⟨a,e⟩
 rw [nu d] at h;rw [nu (ae2 b p d)];exact eV.aw c g h
end
theorem DT:∀(t:Ty) (ft:FT) (a:Option (Nat×Nat)) (q:aI) {v:Ty} {d:FT} {b:Option (Nat×Nat)},bL t ft a q=some (v,d,b)→aI.dG q=false→
 ∀ft2,∃e,bL t ft2 a q=some (v,e,b):=by
 intro t
 induction t with
 |cons t r j g=>
  intro ft a q v d b h c ft2
  match q,h with
  |[],h=>simp only [bL,az,aO] at h;obtain ⟨rfl,rfl,rfl⟩:=h;exact ⟨ft2,rfl⟩
  | .f 0::q,h=>exact j _ _ _ h (by simpa [aI.dG] using c) _
  | .f (n+1)::q,h=>exact g _ _ _ h (by simpa [aI.dG] using c) _
  | .i n::q,h=>simp [bL] at h
 |_=>
  intro ft a q v d b h c ft2;cases q with
  |nil=>simp only [bL,az,aO] at h;obtain ⟨rfl,rfl,rfl⟩:=h;exact ⟨ft2,rfl⟩
  |cons s q=>cases s<;>simp [bL,aI.dG] at h c
theorem ack:∀(t:Ty) (ft:FT) (a:Option (Nat×Nat)) (p q:aI) (f:FT) {u v:Ty} {x g:FT} {o j:Option (Nat×Nat)},
 bL t ft a p=some (u,x,o)→bL t ft a q=some (v,g,j)→
 (aI.fM p q=none→∃y,bL t (bt t ft p f) a q=some (v,y,j)∧fJ v y=fJ v g)∧
 (∀r,aI.fM p q=some r→aI.dG r=false→∃y,bL t (bt t ft p f) a q=some (v,y,j)):=by
 intro t
 induction t with
 |cons t r C K=>
  intro ft a p q f u v x g o j d c
  match p,d with
  |[],d=>exact ⟨fun h=>by simp [aI.fM] at h,fun s h l=>by simp only [aI.fM,az] at h;subst h;exact DT _ _ _ _ c l _⟩
  | .i n::p,d=>simp [bL] at d
  | .f 0::p,d=>
   match q,c with
   |[],c=>
    simp only [bL,az,aO] at c;obtain ⟨rfl,rfl,rfl⟩:=c;exact ⟨fun _=>⟨_,rfl,rfl⟩,fun s h=>by simp [aI.fM] at h⟩
   | .i n::q,c=>simp [bL] at c
   | .f 0::q,c=>
    simp only [bL] at d c;have:=C _ _ p q f d c;simpa [aI.fM,bL,bt,FT.fst] using this
   | .f (n+1)::q,c=>
    simp only [bL] at c;exact ⟨fun _=>⟨g,by simpa [bL,bt,FT.snd] using c,rfl⟩,fun s h=>by simp [aI.fM] at h⟩
  | .f (m+1)::p,d=>
   match q,c with
   |[],c=>
    simp only [bL,az,aO] at c;obtain ⟨rfl,rfl,rfl⟩:=c;exact ⟨fun _=>⟨_,rfl,rfl⟩,fun s h=>by simp [aI.fM] at h⟩
   | .i n::q,c=>simp [bL] at c
   | .f 0::q,c=>
    simp only [bL] at c;exact ⟨fun _=>⟨g,by simpa [bL,bt,FT.fst] using c,rfl⟩,fun s h=>by simp [aI.fM] at h⟩
   | .f (n+1)::q,c=>
    simp only [bL] at d c;have:=K _ _ (.f m::p) (.f n::q) f d c;simp only [aI.fM] at this⊢;simp only [bL,bt,FT.snd];exact this
 |slice t C=>
  intro ft a p q f u v x g o j d c
  match p,d with
  |[],d=>exact ⟨fun h=>by simp [aI.fM] at h,fun s h l=>by simp only [aI.fM,az] at h;subst h;exact DT _ _ _ _ c l _⟩
  | .f n::p,d=>simp [bL] at d
  | .i n::p,d=>
   match ft,d,c with
   | .leaf,d,_=>simp [bL] at d
   | .eQ _ _,d,_=>simp [bL] at d
   | .node none _ _,d,_=>simp [bL] at d
   | .node (some b) cap I,d,c=>
    simp only [bL] at d;split at d;rename_i kn hk
    match q,c with
    |[],c=>
     simp only [bL,az,aO] at c;obtain ⟨rfl,rfl,rfl⟩:=c;refine ⟨fun _=>⟨_,rfl,?_⟩,fun s h=>by simp [aI.fM] at h⟩;simp [fJ,FT.dz,bt,hk]
    | .f n::q,c=>simp [bL] at c
    | .i m::q,c=>
     simp only [bL] at c;split at c;rename_i O D;by_cases J:m=n;subst J;rw [hk] at D;obtain rfl:=bk D;have z:(I.set m (bt t kn p f))[m]?=some (bt t kn p f):=by
      grind
     have:=C _ _ p q f d c;simpa [aI.fM,bL,bt,hk,z] using this;have z:(I.set n (bt t kn p f))[m]?=some O:=by grind
     refine ⟨fun _=>⟨g,by simp only [bt,hk,bL,z];exact c,rfl⟩,fun s _ _=>⟨g,by simp only [bt,hk,bL,z];exact c⟩⟩;cases c
    cases d
 |arr m t _=>
  intro ft a p q f u v x g o j d c
  match p,d with
  |[],d=>exact ⟨fun h=>by simp [aI.fM] at h,fun s h l=>by simp only [aI.fM,az] at h;subst h;exact DT _ _ _ _ c l _⟩
  | .f n::p,d=>simp [bL] at d
  | .i n::s::p,d=>simp [bL] at d
  |[.i n],d=>
   have e:bt (.arr m t) ft [.i n] f=ft:=by cases ft<;>rfl
   simp_all
 |_=>
  intro ft a p q f u v x g o j d c;cases p with
  |nil=>exact ⟨fun h=>by simp [aI.fM] at h,fun s h l=>by simp only [aI.fM,az] at h;subst h;exact DT _ _ _ _ c l _⟩
  |cons s p=>simp [bL] at d
theorem gk.out {w:World} {R:Nat→Prop} {t:Ty} {c:TV} {ft:FT} {cs:List Value} (h:gk w R t c ft cs):
 (∃(xs:List t.ai) (b:List Bool),c=.cons (.ab (.slice t) xs) (.ab (.slice .bool) b)∧m9 w t xs b ft cs)∨
 (∃(xs:List t.ai),c=.ab (.slice t) xs∧lj w t xs ft cs)∨∃(xs:List t.ai),c=.ad (.slice t) xs∧w3 w R t xs ft cs:=by
 unfold gk at h;split at h;obtain ⟨rfl,h⟩:=h;grind;obtain ⟨rfl,h⟩:=h;grind;obtain ⟨rfl,h⟩:=h;grind;exact h.elim
theorem lj.out {w:World} {u:Ty} {xs:List u.ai} {ft:FT} {cs:List Value} (h:lj w u xs ft cs):∃b c,ft=.node (some b) 0 []∧cs=[.map (some b)]∧w.heap[b]?=some (.map c c.size):=by
 unfold lj at h
 grind
theorem lj.bQ {w w':World} {u:Ty} {xs:List u.ai} {ft:FT} {cs:List Value} (g:∀b∈ft.ae,w'.heap[b]?=w.heap[b]?) (h:lj w u xs ft cs):lj w' u xs ft cs:=by
 unfold lj at h⊢;split at h;obtain ⟨hk,c,d,rfl,e,f,h4⟩:=h;exact ⟨hk,c,d,rfl,e,by rw [g c (by simp [FT.ae])];exact f,h4⟩;exact h.elim
theorem w3.bQ {w w':World} {R:Nat→Prop} {u:Ty} {xs:List u.ai} {ft:FT} {cs:List Value} (r:∀b,R b→w'.heap[b]?=w.heap[b]?) (n:∀b∈ft.ae,w'.heap[b]?=w.heap[b]?) (h:w3 w R u xs ft cs):w3 w' R u xs ft cs:=by
 obtain ⟨b,cap,y,rfl,d,f,g,j,h4,⟨row,e,h5,h6⟩,l⟩:=h;have e0:w'.heap[b]?=w.heap[b]?:=n b (by simp [FT.ae]);refine ⟨b,cap,y,rfl,d,f,g,j,h4,⟨row,e,by rw [e0];exact h5,h6⟩,fun i x v=>?_⟩;obtain ⟨c,o,q⟩:=l i x v;exact ⟨c,o.bQ e0,Rd.bQ (fun _ h=>h) r _ _ _ q⟩
theorem m9.bQ {w w':World} {t:Ty} {xs:List t.ai} {d:List Bool} {ft:FT} {cs:List Value} (f:∀b∈ft.ae,w'.heap[b]?=w.heap[b]?) (h:m9 w t xs d ft cs):m9 w' t xs d ft cs:=by
 obtain ⟨b,cap,C,rfl,rfl,l,n,o,h4,h5⟩:=h;refine ⟨b,cap,C,rfl,rfl,l,n,o,h4,?_⟩;cases b with
 |none=>exact h5
 |some b=>
  obtain ⟨⟨row,e,h5,h6⟩,q⟩:=h5;have e0:w'.heap[b]?=w.heap[b]?:=f b (by simp [FT.ae]);refine ⟨⟨row,e,by rw [e0];exact h5,h6⟩,fun i x k g z hk u=>?_⟩;obtain ⟨c,r,y,v⟩:=q i x k g z hk u;refine ⟨c,r.bQ e0,fun e=>bb.bQ t x k c (fun j m=>f j ?_) (y e),v⟩;simp only [FT.ae,aZ];exact .inr (fi (cS hk) m)
section
variable {A A':bY} {w w':World} {R:Nat→Prop}
theorem aW.len:∀(c:TV) (t:Ty) (ft:FT) (cs:List Value),aW A w R c t ft cs→cs.length=t.size:=by
 intro c
 induction c with
 |ab u x=>intro t ft cs h;obtain ⟨rfl,h⟩:=h;exact bb.len _ _ _ _ h
 |ad u x=>intro t ft cs h;obtain ⟨rfl,_,h⟩:=h;exact Rd.len _ _ _ h
 |cons a d q j=>
  intro t ft cs h;cases t<;>try exact h.elim
  obtain ⟨_,l,o,rfl,e,_,g⟩:=h;simp [Ty.size,e,j _ _ _ g]
 |unit=>intro t ft cs h;obtain ⟨rfl,_,rfl⟩:=h;rfl
 |un=>intro t ft cs h;rw [h.2.1];exact h.2.2.2
 |tup a _=>
  intro t ft cs h;cases t<;>try exact h.elim
  rcases gk.out h with ⟨_,_,_,_,_,_,_,rfl,_⟩|⟨_,_,h⟩|⟨_,_,_,_,_,_,_,rfl,_⟩
  rfl;obtain ⟨_,_,_,rfl,_⟩:=h.out;rfl;rfl
 |nil=>intro t ft cs h;obtain ⟨e,_,_,rfl⟩:=h;rw [e];rfl
 |ref b p=>intro t ft cs h;obtain ⟨e,_,_,_,_,_,_,_,rfl⟩:=h;rw [e];rfl
 |sl b p=>intro t ft cs h;obtain ⟨e,_,_,_,_,_,_,_,_,rfl⟩:=h;rw [e];rfl
 |slw b p lo n=>intro t ft cs h;obtain ⟨e,_,_,_,_,_,_,_,_,_,_,_,rfl,_⟩:=h;rw [e];rfl
 |bw u x=>intro t ft cs h;obtain ⟨e,_,_,_,_,_,rfl,_⟩:=h;rw [e];rfl
 |bV f c _=>intro t ft cs h;obtain ⟨e,_,_,_,_,rfl⟩:=h;rw [e];rfl
 |mp b=>intro t ft cs h;obtain ⟨e,_,_,_,_,_,_,_,_,rfl⟩:=h;rw [e];rfl
theorem aW.mono (l:ia A A') (g:∀b,R b→w'.heap[b]?=w.heap[b]?):∀(c:TV) (t:Ty) (ft:FT) (cs:List Value),(∀b∈ft.ae,w'.heap[b]?=w.heap[b]?)→aW A w R c t ft cs→aW A' w' R c t ft cs:=by
 intro c
 induction c with
 |ab u x=>intro t ft cs e h;exact ⟨h.1,bb.bQ _ _ _ _ e h.2⟩
 |ad u x=>intro t ft cs e h;exact ⟨h.1,h.2.1,Rd.bQ (fun _ h=>h) g _ _ _ h.2.2⟩
 |cons a d C D=>
  intro t ft cs e h;cases t<;>try exact h.elim
  obtain ⟨v,q,r,rfl,j,y,z⟩:=h;exact ⟨v,q,r,rfl,j,C _ _ _ (fun b o=>e b (jv o)) y,D _ _ _ (fun b o=>e b (jD o)) z⟩
 |unit=>intro t ft cs _ h;exact h
 |un=>intro t ft cs _ h;exact h
 |tup a _=>
  intro t ft cs e h;cases t<;>try exact h.elim
  rcases gk.out h with ⟨xs,I,rfl,j⟩|⟨xs,rfl,j⟩|⟨xs,rfl,j⟩
  exact ⟨rfl,j.bQ e⟩;exact ⟨rfl,j.bQ e⟩;exact ⟨rfl,j.bQ g e⟩
 |nil=>intro t ft cs _ h;exact h
 |ref b p=>intro t ft cs _ h;exact ⟨h.1,h.2.1,h.2.2.1,bH.mono l g _ _ h.2.2.2⟩
 |sl b p=>intro t ft cs _ h;exact ⟨h.1,h.2.1,h.2.2.1,bH.mono l g _ _ h.2.2.2⟩
 |slw b p lo n=>intro t ft cs _ h;exact ⟨h.1,h.2.1,h.2.2.1,bH.mono l g _ _ h.2.2.2⟩
 |bw u x=>intro t ft cs _ h;exact ⟨h.1,h.2.1,h.2.2.1,bH.mono l g _ _ h.2.2.2⟩
 |bV f c _=>intro t ft cs _ h;exact ⟨h.1,h.2.1,h.2.2.1,bH.mono l g _ _ h.2.2.2⟩
 |mp b=>intro t ft cs _ h;exact ⟨h.1,h.2.1,h.2.2.1,bH.mono l g _ _ h.2.2.2⟩
theorem FO {v:TV} {b:Nat} {p:aI} {t:Ty} {ft:FT} {cs:List Value} (c:t.size=1) (d:t.agg=false) (f:ft.ae=[]) (g:v.aw b p=.un∨v.aw b p=v)
 (j:∀(A:bY) (w:World) (R:Nat→Prop),(t.size=1∧t.agg=false∧ft.ae=[]∧bH A w R v cs)→aW A w R v t ft cs) (h:bH A w R (v.aw b p) cs):aW A w R (v.aw b p) t ft cs:=by
 rcases g with e|e
 rw [e] at h⊢;obtain ⟨x,rfl⟩:=h;exact ⟨f,c,d,rfl⟩;simp_all
theorem kill_cases (b:Nat) (p:aI) (c:Nat) (q:aI) (lo n:Nat):
 ((TV.ref c q).aw b p=.un∨(TV.ref c q).aw b p=.ref c q)∧((TV.sl c q).aw b p=.un∨(TV.sl c q).aw b p=.sl c q)∧((TV.slw c q lo n).aw b p=.un∨(TV.slw c q lo n).aw b p=.slw c q lo n)∧((TV.mp c).aw b p=.un∨(TV.mp c).aw b p=.mp c):=by
 refine ⟨?_,?_,?_,?_⟩<;>simp only [TV.aw]<;>split<;>(try split)<;>(try split)<;>simp
theorem aW.aw {b:Nat} {p:aI} (l:m5 b p A A') (g:∀b,R b→w'.heap[b]?=w.heap[b]?):∀(c:TV) (t:Ty) (ft:FT) (cs:List Value),(∀b∈ft.ae,w'.heap[b]?=w.heap[b]?)→aW A w R c t ft cs→aW A' w' R (c.aw b p) t ft cs:=by
 intro c
 induction c with
 |ab u x=>intro t ft cs e h;exact ⟨h.1,bb.bQ _ _ _ _ e h.2⟩
 |ad u x=>intro t ft cs e h;exact ⟨h.1,h.2.1,Rd.bQ (fun _ h=>h) g _ _ _ h.2.2⟩
 |cons a d D I=>
  intro t ft cs e h;cases t<;>try exact h.elim
  obtain ⟨y,r,v,rfl,j,z,C⟩:=h;exact ⟨y,r,v,rfl,j,D _ _ _ (fun b o=>e b (jv o)) z,I _ _ _ (fun b o=>e b (jD o)) C⟩
 |unit=>intro t ft cs _ h;exact h
 |un=>intro t ft cs _ h;exact h
 |tup a _=>
  intro t ft cs e h;cases t<;>try exact h.elim
  rcases gk.out h with ⟨xs,J,rfl,j⟩|⟨xs,rfl,j⟩|⟨xs,rfl,j⟩
  exact ⟨rfl,j.bQ e⟩;exact ⟨rfl,j.bQ e⟩;exact ⟨rfl,j.bQ g e⟩
 |nil=>intro t ft cs _ h;exact h
 |ref c q=>intro t ft cs _ h;exact FO h.1 h.2.1 h.2.2.1 (kill_cases b p c q 0 0).1 (fun _ _ _ h=>h) (bH.aw l g _ _ h.2.2.2)
 |sl c q=>intro t ft cs _ h;exact FO h.1 h.2.1 h.2.2.1 (kill_cases b p c q 0 0).2.1 (fun _ _ _ h=>h) (bH.aw l g _ _ h.2.2.2)
 |slw c q lo n=>intro t ft cs _ h;exact FO h.1 h.2.1 h.2.2.1 (kill_cases b p c q lo n).2.2.1 (fun _ _ _ h=>h) (bH.aw l g _ _ h.2.2.2)
 |bw u x=>intro t ft cs _ h;exact ⟨h.1,h.2.1,h.2.2.1,bH.aw l g _ _ h.2.2.2⟩
 |bV f c _=>intro t ft cs _ h;exact ⟨h.1,h.2.1,h.2.2.1,bH.aw l g _ _ h.2.2.2⟩
 |mp c=>intro t ft cs _ h;exact FO h.1 h.2.1 h.2.2.1 (kill_cases b p c [] 0 0).2.2.2 (fun _ _ _ h=>h) (bH.aw l g _ _ h.2.2.2)
end
theorem Rd.gv {w:World} {R:Nat→Prop}:∀{t:Ty} {x:t.ai},t.aQ=true→dm t x→Rd w R t x (bE t x)
 | .int _,_,b,hk=>⟨b,hk,rfl⟩
 | .bool,_,b,hk=>⟨b,hk,rfl⟩
 | .bP,_,b,hk=>⟨b,hk,rfl⟩
 | .unit,_,b,hk=>⟨b,hk,rfl⟩
 | .arr _ _,_,b,hk=>⟨b,hk,rfl⟩
 | .bG,_,b,_=>by simp [Ty.aQ] at b
 | .slice _,_,b,_=>by simp [Ty.aQ] at b
 | .cons t r,x,b,hk=>by
  simp only [Ty.aQ,bp] at b;exact ⟨_,_,rfl,Rd.gv b.1 hk.1,Rd.gv b.2 hk.2⟩
theorem Q4:∀(t:Ty) (ft:FT) (a:Option (Nat×Nat)) (p:aI) {u:Ty} {f:FT} {a':Option (Nat×Nat)},bL t ft a p=some (u,f,a')→cE t p=some u:=by
 intro t
 induction t with
 |cons t r c e=>
  intro ft a p u f a' h
  match p,h with
  |[],h=>simp only [bL,az,aO] at h;obtain ⟨rfl,_,_⟩:=h;rfl
  | .f 0::p,h=>exact c _ _ _ h
  | .f (n+1)::p,h=>exact e _ _ _ h
  | .i n::p,h=>simp [bL] at h
 |slice t c=>
  intro ft a p u f a' h
  match p,h with
  |[],h=>simp only [bL,az,aO] at h;obtain ⟨rfl,_,_⟩:=h;rfl
  | .f n::p,h=>simp [bL] at h
  | .i n::p,h=>
   match ft,h with
   | .leaf,h=>simp [bL] at h
   | .eQ _ _,h=>simp [bL] at h
   | .node none _ _,h=>simp [bL] at h
   | .node (some b) cap g,h=>
    simp only [bL] at h;split at h;exact c _ _ _ h;cases h
 |arr m t _=>
  intro ft a p u f a' h
  match p,h with
  |[],h=>simp only [bL,az,aO] at h;obtain ⟨rfl,_,_⟩:=h;rfl
  | .f n::p,h=>simp [bL] at h
  | .i n::s::p,h=>simp [bL] at h
  |[.i n],h=>
   simp only [bL] at h;split at h;cases h;rename_i d;simp only [fc,gQ,jF] at d;simp only [az,aO] at h;obtain ⟨rfl,_,_⟩:=h;simp [cE,d.1]
 |_=>
  intro ft a p u f a' h;cases p with
  |nil=>simp only [bL,az,aO] at h;obtain ⟨rfl,_,_⟩:=h;rfl
  |cons s p=>simp [bL] at h
def l7 (w:World) (b o n:Nat):Prop:=∃row e,w.heap[b]?=some (.cells row e (0,0))∧o+n≤row.size
theorem acj:∀(t:Ty) (ft:FT) (a:Option (Nat×Nat)) (p:aI) {u:Ty} {j:FT} {h off:Nat},bL t ft a p=some (u,j,some (h,off))→ft.ae.Nodup→(∀b o,a=some (b,o)→b∉ft.ae)→h∉j.ae:=by
 intro t
 induction t with
 |cons t r x y=>
  intro ft a p u j h off c g l;have h4:ft.fst.ae.Nodup∧ft.snd.ae.Nodup:=by
   cases ft with
   |eQ a d=>simp only [FT.ae,cn] at g;exact ⟨g.1,g.2.1⟩
   |_=>simp [FT.fst,FT.snd,FT.ae]
  match p,c with
  |[],c=>simp only [bL,az,aO] at c;simp_all
  | .f 0::p,c=>exact x _ _ _ c h4.1 (fun b o e v=>l b o e (jv v))
  | .f (n+1)::p,c=>
   refine y _ _ _ c h4.2 (fun b o e v=>?_);cases a with
   |none=>cases e
   |some a=>simp only [cx,az,aO] at e;obtain ⟨rfl,rfl⟩:=e;exact l _ _ rfl (jD v)
  | .i n::p,c=>simp [bL] at c
 |slice t x=>
  intro ft a p u j h off c g l
  match p,c with
  |[],c=>simp only [bL,az,aO] at c;simp_all
  | .f n::p,c=>simp [bL] at c
  | .i n::p,c=>
   match ft,c,g with
   | .leaf,c,_=>simp [bL] at c
   | .eQ _ _,c,_=>simp [bL] at c
   | .node none _ _,c,_=>simp [bL] at c
   | .node (some b) cap C,c,g=>
    simp only [bL] at c;split at c;rename_i kn hk;simp only [FT.ae,fW,g5,jJ] at g;refine x _ _ _ c (qF hk g.2).1 (fun z D e v=>?_);simp only [az,aO] at e;obtain ⟨rfl,rfl⟩:=e;exact g.1 (fi (cS hk) v);cases c
 |arr m t _=>
  intro ft a p u j h off c g l
  match p,c with
  |[],c=>simp only [bL,az,aO] at c;simp_all
  | .f n::p,c=>simp [bL] at c
  | .i n::q::p,c=>simp [bL] at c
  |[.i n],c=>
   simp only [bL] at c;split at c;cases c;simp only [az,aO] at c;obtain ⟨_,rfl,_⟩:=c;simp [FT.ae]
 |_=>
  intro ft a p u j h off c g l;cases p with
  |nil=>simp only [bL,az,aO] at c;simp_all
  |cons q p=>simp [bL] at c
theorem aci:∀(t:Ty) (ft:FT) (a:Option (Nat×Nat)) (p:aI) {u:Ty} {g:FT} {h:Option (Nat×Nat)},bL t ft a p=some (u,g,h)→ft.ae.Nodup→g.ae.Nodup:=by
 intro t
 induction t with
 |cons t r j l=>
  intro ft a p u g h c e;have h4:ft.fst.ae.Nodup∧ft.snd.ae.Nodup:=by
   cases ft with
   |eQ a d=>simp only [FT.ae,cn] at e;exact ⟨e.1,e.2.1⟩
   |_=>simp [FT.fst,FT.snd,FT.ae]
  match p,c with
  |[],c=>simp only [bL,az,aO] at c;simp_all
  | .f 0::p,c=>exact j _ _ _ c h4.1
  | .f (n+1)::p,c=>exact l _ _ _ c h4.2
  | .i n::p,c=>simp [bL] at c
 |slice t j=>
  intro ft a p u g h c e
  match p,c with
  |[],c=>simp only [bL,az,aO] at c;simp_all
  | .f n::p,c=>simp [bL] at c
  | .i n::p,c=>
   match ft,c,e with
   | .leaf,c,_=>simp [bL] at c
   | .eQ _ _,c,_=>simp [bL] at c
   | .node none _ _,c,_=>simp [bL] at c
   | .node (some b) cap o,c,e=>
    simp only [bL] at c;split at c;rename_i kn hk;simp only [FT.ae,fW,g5,jJ] at e;exact j _ _ _ c (qF hk e.2).1;cases c
 |arr m t _=>
  intro ft a p u g h c e
  match p,c with
  |[],c=>simp only [bL,az,aO] at c;simp_all
  | .f n::p,c=>simp [bL] at c
  | .i n::s::p,c=>simp [bL] at c
  |[.i n],c=>
   simp only [bL] at c;split at c;cases c;simp only [az,aO] at c;obtain ⟨_,rfl,_⟩:=c;exact h3
 |_=>
  intro ft a p u g h c e;cases p with
  |nil=>simp only [bL,az,aO] at c;simp_all
  |cons q p=>simp [bL] at c
section
variable {ρ:Type} {w w2:World}
theorem ua:∀(t:Ty) (x:t.ai) (p:aI) (k:(u:Ty)→u.ai→Option ρ) (r:ρ),cq t x p k=some r→
 ∃u y,k u y=some r∧∀{σ:Type} (k':(u:Ty)→u.ai→Option σ),cq t x p k'=k' u y:=by
 have g:∀(t:Ty) (x:t.ai) (k:(u:Ty)→u.ai→Option ρ) (r:ρ),cq t x [] k=some r→∃u y,k u y=some r∧∀{σ:Type} (k':(u:Ty)→u.ai→Option σ),cq t x [] k'=k' u y:=by
  intro t x k r h;have e:∀{σ:Type} (k':(u:Ty)→u.ai→Option σ),cq t x [] k'=k' t x:=by intro σ k';cases t<;>rfl
  grind
 intro t
 induction t with
 |cons t r d o=>
  intro x p k q h
  match p,h with
  |[],h=>exact g _ _ _ _ h
  | .i n::p,h=>simp [cq] at h
  | .f 0::p,h=>
   obtain ⟨u,y,b,c⟩:=d x.1 p k q (by simpa only [cq] using h);exact ⟨u,y,b,fun k'=>by simp only [cq];exact c k'⟩
  | .f (n+1)::p,h=>
   obtain ⟨u,y,b,c⟩:=o x.2 (.f n::p) k q (by simpa only [cq] using h);exact ⟨u,y,b,fun k'=>by simp only [cq];exact c k'⟩
 |slice t d=>
  intro x p k q h
  match p,h with
  |[],h=>exact g _ _ _ _ h
  | .f n::p,h=>simp [cq] at h
  | .i n::p,h=>
   simp only [cq] at h;split at h;rename_i z j;obtain ⟨u,y,b,c⟩:=d z p k q h;exact ⟨u,y,b,fun k'=>by simp only [cq,j];exact c k'⟩;cases h
 |arr m t d=>
  intro x p k q h
  match p,h with
  |[],h=>exact g _ _ _ _ h
  | .f n::p,h=>simp [cq] at h
  | .i n::p,h=>
   simp only [cq] at h;split at h;cases h;rename_i l;split at h;rename_i z j;obtain ⟨u,y,b,c⟩:=d z p k q h;exact ⟨u,y,b,fun k'=>by simp only [cq,j,l];exact c k'⟩;cases h
 |_=>
  intro x p k q h;cases p with
  |nil=>exact g _ _ _ _ h
  |cons s p=>simp [cq] at h
theorem ew.len:∀(t:Ty) (x:t.ai) (ft:FT) (cs:List Value),ew t x ft cs→cs.length=t.size
 | .int _,_,_,_,h=>by rw [h.2.2.2];exact hy _ _ h.1 h.2.1
 | .bool,_,_,_,h=>by rw [h.2.2.2];exact hy _ _ h.1 h.2.1
 | .bP,_,_,_,h=>by rw [h.2.2.2];exact hy _ _ h.1 h.2.1
 | .unit,_,_,_,h=>by rw [h.2.2.2];exact hy _ _ h.1 h.2.1
 | .arr _ _,_,_,_,h=>by rw [h.2.2.2];exact hy _ _ h.1 h.2.1
 | .bG,_,_,_,h=>h.elim
 | .slice _,_,_,_,h=>h.2
 | .cons t r,x,ft,cs,h=>by
  obtain ⟨_,b,c,rfl,d,e⟩:=h;rw [cw,ew.len t x.1 _ b d,ew.len r x.2 _ c e];rfl
theorem ew.EZ:∀(t:Ty) (x:t.ai) (ft:FT) (cs:List Value),t.aQ=true→bb w t x ft cs→ew t x ft cs
 | .int _,_,_,_,_,h=>h
 | .bool,_,_,_,_,h=>h
 | .bP,_,_,_,_,h=>h
 | .unit,_,_,_,_,h=>h
 | .arr _ _,_,_,_,_,h=>h
 | .bG,_,_,_,_,h=>h.elim
 | .slice _,_,_,_,b,_=>by simp [Ty.aQ] at b
 | .cons t r,x,ft,cs,b,h=>by
  simp only [Ty.aQ,bp] at b;obtain ⟨e,c,d,rfl,f,g⟩:=h;exact ⟨e,c,d,rfl,ew.EZ t x.1 _ c b.1 f,ew.EZ r x.2 _ d b.2 g⟩
theorem ew.nil:∀(t:Ty) (x:t.ai) (ft:FT) (cs:List Value),ew t x ft cs→ft.ae=[]
 | .int _,_,_,_,h=>h.2.2.1
 | .bool,_,_,_,h=>h.2.2.1
 | .bP,_,_,_,h=>h.2.2.1
 | .unit,_,_,_,h=>h.2.2.1
 | .arr _ _,_,_,_,h=>h.2.2.1
 | .bG,_,_,_,h=>h.elim
 | .slice _,_,_,_,h=>h.1
 | .cons t r,x,ft,cs,h=>by
  obtain ⟨d,b,c,rfl,e,f⟩:=h;rw [d,ew.nil t x.1 _ b e,ew.nil r x.2 _ c f];rfl
theorem ew.ms:∀{t:Ty} {x:t.ai} {ft:FT} {cs:List Value},t.aQ=true→ew t x ft cs→dm t x∧cs=bE t x∧ft.ae=[]
 | .int _,_,_,_,_,h=>⟨h.2.1,h.2.2.2,h.2.2.1⟩
 | .bool,_,_,_,_,h=>⟨h.2.1,h.2.2.2,h.2.2.1⟩
 | .bP,_,_,_,_,h=>⟨h.2.1,h.2.2.2,h.2.2.1⟩
 | .unit,_,_,_,_,h=>⟨h.2.1,h.2.2.2,h.2.2.1⟩
 | .arr _ _,_,_,_,_,h=>⟨h.2.1,h.2.2.2,h.2.2.1⟩
 | .bG,_,_,_,b,_=>by simp [Ty.aQ] at b
 | .slice _,_,_,_,b,_=>by simp [Ty.aQ] at b
 | .cons t r,x,ft,cs,b,h=>by
  simp only [Ty.aQ,bp] at b;obtain ⟨g,n,o,rfl,j,l⟩:=h;obtain ⟨c,rfl,e⟩:=ew.ms b.1 j;obtain ⟨d,rfl,f⟩:=ew.ms b.2 l;exact ⟨⟨c,d⟩,rfl,by rw [g,e,f];rfl⟩
theorem ew.get:∀(t:Ty) (x:t.ai) (ft:FT) (cs:List Value) (a:Option (Nat×Nat)) (p:aI) (k:(u:Ty)→u.ai→Option ρ) (r:ρ),
 ew t x ft cs→(∀b o,a=some (b,o)→At w b o t.size cs)→aI.dG p=false→cq t x p k=some r→
 ∃(u:Ty) (y:u.ai) (z:FT) (a':Option (Nat×Nat)) (v:List Value),k u y=some r∧bL t ft a p=some (u,z,a')∧ew u y z v∧
  (∀b o,a'=some (b,o)→At w b o u.size v):=by
 intro t
 induction t with
 |cons t r I D=>
  intro x ft cs a p k dg h d j c
  match p,c with
  |[],c=>exact ⟨_,x,ft,a,cs,by simpa [cq] using c,rfl,h,d⟩
  | .f 0::p,c=>
   simp only [cq] at c;obtain ⟨_,l,q,rfl,g,C⟩:=h;exact I x.1 ft.fst l a p k dg g (fun b o e=>(d b o e).fst (ew.len _ _ _ _ g)) (by simpa [aI.dG] using j) c
  | .f (n+1)::p,c=>
   simp only [cq] at c;obtain ⟨_,l,q,rfl,g,C⟩:=h;refine D x.2 ft.snd q (a.map fun x=>(x.1,x.2+t.size)) (.f n::p) k dg C (fun b o e=>?_) (by simpa [aI.dG] using j) c;cases a with
   |none=>cases e
   |some a=>simp only [cx,az,aO] at e;obtain ⟨rfl,rfl⟩:=e;exact (d _ _ rfl).snd (ew.len _ _ _ _ g)
  | .i n::p,c=>simp [cq] at c
 |_=>
  intro x ft cs a p k dg h d j c
  match p,c with
  |[],c=>exact ⟨_,x,ft,a,cs,by simpa [cq] using c,by simp [bL],h,d⟩
  | .f n::p,c=>simp [cq] at c
  | .i n::p,c=>simp [aI.dG] at j
theorem T7:∀(t:Ty) (p:aI),lone t p=true→aI.dG p=false:=by
 intro t
 induction t with
 |cons t r c b=>
  intro p h
  match p,h with
  |[],h=>rfl
  | .i n::p,h=>simp [lone] at h
  | .f 0::p,h=>simp only [lone,bp] at h;exact c p h.1
  | .f (n+1)::p,h=>simp only [lone,bp] at h;exact b (.f n::p) h.2
 |_=>
  intro p h
  match p,h with
  |[],h=>rfl
  |q::p,h=>simp [lone] at h
theorem ew.set {Y ac:Nat} {ab:List Value} {ft2:FT} (ah:ft2.ae=[]) (q:Wr w w2 Y ac 1 ab):∀(t:Ty) (x:t.ai) (ft:FT) (cs:List Value) (a:Option (Nat×Nat)) (p:aI) {u:Ty} {C:FT},
 u.size=1→bb w t x ft cs→(∀b o,a=some (b,o)→At w b o t.size cs)→lone t p=true→bL t ft a p=some (u,C,some (Y,ac))→
 ∃I,ew t x (bt t ft p ft2) I∧I.length=cs.length∧(∀b o,a=some (b,o)→At w2 b o t.size I):=by
 intro t
 induction t with
 |cons t r al ak=>
  intro x ft cs a p u C D h j g c
  match p,c with
  |[],c=>simp [lone] at g
  | .i n::p,c=>simp [bL] at c
  | .f 0::p,c=>
   simp only [bL] at c;obtain ⟨ad,y,z,rfl,l,U⟩:=h;have v:=bb.len _ _ _ _ l;simp only [lone,bp] at g;obtain ⟨g,W⟩:=g;have dz:=T7 _ _ g;obtain ⟨Z,J,K,O⟩:=al x.1 ft.fst y a p D l (fun b o e=>(j b o e).fst v) g c;refine ⟨Z++z,⟨by simp [bt,FT.ae,FT.fst,FT.snd],Z,z,rfl,J,ew.EZ _ _ _ _ W U⟩,by simp [K],fun b o e=>?_⟩;simp only [Ty.size];refine (O b o e).pf ?_;obtain ⟨_,X⟩:=gm _ _ _ _ c;rcases X with ⟨_,_,_,_,af⟩|⟨d,e0,ag⟩
   simp_all;subst e;simp only [cx,az,aO] at e0;obtain ⟨rfl,rfl⟩:=e0;refine q.dc ((j _ _ rfl).snd v) (.inr ?_);omega
  | .f (n+1)::p,c=>
   simp only [bL] at c;obtain ⟨ad,y,z,rfl,l,U⟩:=h;have v:=bb.len _ _ _ _ l;simp only [lone,bp] at g;obtain ⟨W,g⟩:=g;have dz:=T7 _ _ g;obtain ⟨aa,J,K,O⟩:=ak x.2 ft.snd z _ (.f n::p) D U (fun b o e=>(by
    cases a with
    |none=>cases e
    |some a=>simp only [cx,az,aO] at e;obtain ⟨rfl,rfl⟩:=e;exact (j _ _ rfl).snd v)) g c
   refine ⟨y++aa,⟨by simp [bt,FT.ae,FT.fst,FT.snd],y,aa,rfl,ew.EZ _ _ _ _ W l,J⟩,by simp [K],fun b o e=>?_⟩;simp only [Ty.size];refine At.pf ?_ (O b (o+t.size) (by subst e;rfl));obtain ⟨_,X⟩:=gm _ _ _ _ c;rcases X with ⟨_,_,_,_,af⟩|⟨d,e0,ag⟩
   simp_all;subst e;simp only [cx,az,aO] at e0;obtain ⟨rfl,rfl⟩:=e0;exact q.dc ((j _ _ rfl).fst v) (.inl (by omega))
 |slice t _=>
  intro x ft cs a p u C D h j g c
  match p,c with
  |[],c=>
   simp only [bL,az,aO] at c;obtain ⟨_,rfl,rfl⟩:=c;have aj:cs.length=1:=bb.len _ _ _ _ h;exact ⟨ab,⟨ah,q.len⟩,by rw [q.len,aj],fun b o e=>by simp only [az,aO] at e;obtain ⟨rfl,rfl⟩:=e;exact q.eS⟩
  | .f n::p,c=>simp [bL] at c
  | .i n::p,c=>simp [lone] at g
 |_=>
  intro x ft cs a p u C D h j g c;cases p<;>simp [lone] at g
theorem m9.set {t:Ty} {xs:List t.ai} {x:List Bool} {b cap:Nat} {g:List FT} {cs:List Value} {n:Nat} {k:FT} {f Y m:Nat} {aa:List Value} {y:FT} {x':t.ai} {g':Bool} {k':FT} {c':List Value}
 (h:m9 w t xs x (.node (some b) cap g) cs) (hk:g[n]?=some k) (q:(FT.node (some b) cap g).ae.Nodup) (z:Wr w w2 f Y m aa)
 (U:(f=b∧∃d,Y=n*t.size+d∧d+m≤t.size)∨f∈k.ae) (W:∀c∈y.ae,c∈k.ae)
 (C:∀c∈(FT.node (some b) cap g).ae,c∉y.ae→c≠f→w2.heap[c]?=w.heap[c]?)
 (aq:At w2 b (n*t.size) t.size c') (ay:g'=false→bb w2 t x' k' c') (aw:g'=true→ew t x' k' c'):
 m9 w2 t (xs.set n x') (x.set n g') (.node (some b) cap (g.set n k')) cs:=by
 obtain ⟨ao,ap,az,e0,rfl,ac,ad,af,h4,h5⟩:=h;simp only [FT.node.injEq] at e0;obtain ⟨rfl,rfl,rfl⟩:=e0;simp only at h5;simp only [FT.ae,fW,g5,jJ] at q;obtain ⟨ax,ak⟩:=qF hk q.2;have aj:=cS hk;have D:b∉k.ae:=fun j=>q.1 (fi aj j)
 have ag:b≠f→w2.heap[b]?=w.heap[b]?:=fun al=>C b (by simp [FT.ae]) (fun j=>D (W b j)) al
 have au:n<g.length:=(bR.1 hk).1;refine ⟨some b,cap,g.set n k',rfl,by simp,by simpa using ac,by simpa using ad,by simpa using af,by simpa using h4,?_,fun i Z u gi X o J=>?_⟩;by_cases l:b=f;subst l;exact z.bI h5.1;simp_all;by_cases K:i=n
 grind
 rw [List.getElem?_set_ne (fV K)] at X o J;obtain ⟨v,I,an,am⟩:=h5.2 i Z u gi X o J;have O:=cS o;refine ⟨v,?_,fun e=>bb.bQ t Z u v (fun c r=>C c (by simp only [FT.ae,aZ];exact .inr (fi O r)) (fun ah=>ak i u K o c r (W c ah)) (fun ab=>?_)) (an e),am⟩;by_cases l:b=f;subst l;rcases U with ⟨_,d,rfl,ar⟩|j
 refine z.dc I ?_;by_cases av:i<n;left;have:=ke t.size (show i+1≤n by omega)
 grind
 right;have:=ke t.size (show n+1≤i by omega)
 grind
 exact absurd j D;exact I.bQ (ag l);subst ab;rcases U with ⟨rfl,_⟩|j
 exact q.1 (fi O r)
 grind
end
section
variable {ρ:Type} {A:bY} {w w2:World} {R:Nat→Prop}
theorem gk.get {t:Ty} {c:TV} {ft:FT} {cs:List Value} {a:Option (Nat×Nat)} {n:Nat} {p:aI} {k:TV→Option ρ} {r:ρ} (h:gk w R t c ft cs) (d:qN c n p k=some r):
 ∃(c':TV) (u:Ty) (v:FT) (a':Option (Nat×Nat)) (l:List Value),k c'=some r∧bL (.slice t) ft a (.i n::p)=some (u,v,a')∧aW A w R c' u v l∧
  (∀b o,a'=some (b,o)→At w b o u.size l):=by
 rcases gk.out h with ⟨xs,af,rfl,b,cap,K,rfl,rfl,ag,ah,ai,h4,h5⟩|⟨_,rfl,_⟩|⟨_,rfl,_⟩
 rotate_left;cases d;cases d;simp only [qN] at d;split at d;rotate_left;cases d;rename_i x Z;split at d;rotate_left;cases d;rename_i g ac;unfold iV at Z ac;have am:n<xs.length:=(bR.1 Z).1;cases b with
 |none=>omega
 |some b=>
  have hk:K[n]?=some (K[n]'(by omega)):=aT _;generalize K[n]'(by omega)=kn at hk;obtain ⟨q,al,ae,ad⟩:=h5.2 n x kn g Z hk ac;have ab:∀O aa,some (b,n*t.size)=some (O,aa)→At w O aa t.size q:=fun O aa e=>by
   simp_all
  have Y:∀{z},bL t kn (some (b,n*t.size)) p=z→bL (.slice t) (.node (some b) cap K) a (.i n::p)=z:=fun e=>by simp only [bL,hk];exact e
  cases g with
  |false=>
   obtain ⟨u,y,v,a',l,f,C,D,I⟩:=bb.get t x kn q (some (b,n*t.size)) p _ r (ae rfl) ab d;rw [show cond (aI.dG p|| !u.aQ) false false=false by simp_all,cond_false] at f;by_cases j:u.aQ=true;rw [ak j] at f;obtain ⟨U,W,X⟩:=bb.ms j D;exact ⟨_,u,v,a',l,f,Y C,⟨rfl,X,by rw [W];exact Rd.gv j U⟩,I⟩;rw [aj j] at f;exact ⟨_,u,v,a',l,f,Y C,⟨rfl,D⟩,I⟩
  |true=>
   by_cases J:aI.dG p=true;obtain ⟨u,y,f,_⟩:=ua _ _ _ _ _ d;simp_all;have J:aI.dG p=false:=by simpa using J
   obtain ⟨u,y,v,a',l,f,C,D,I⟩:=ew.get t x kn q (some (b,n*t.size)) p _ r (ad rfl) ab J d;by_cases j:u.aQ=true;rw [J,j] at f;obtain ⟨U,W,X⟩:=ew.ms j D;exact ⟨_,u,v,a',l,f,Y C,⟨rfl,X,by rw [W];exact Rd.gv j U⟩,I⟩;simp_all
theorem aW.get:∀(c:TV) (t:Ty) (ft:FT) (cs:List Value) (a:Option (Nat×Nat)) (p:aI) (k:TV→Option ρ) (r:ρ),
 aW A w R c t ft cs→(∀b o,a=some (b,o)→At w b o t.size cs)→dd c p k=some r→
 ∃(c':TV) (u:Ty) (q:FT) (a':Option (Nat×Nat)) (l:List Value),k c'=some r∧bL t ft a p=some (u,q,a')∧aW A w R c' u q l∧
  (∀b o,a'=some (b,o)→At w b o u.size l):=by
 intro c
 induction c with
 |ab u x=>
  intro t ft cs a p k r h j g;cases p with
  |nil=>exact ⟨_,t,ft,a,cs,by simpa [dd] using g,by cases t<;>rfl,h,j⟩
  |cons s p=>
   obtain ⟨rfl,h⟩:=h;obtain ⟨v,y,q,a',l,C,z,D,I⟩:=bb.get u x ft cs a (s::p) _ r h j (by simpa [dd] using g);exact ⟨_,v,q,a',l,C,z,⟨rfl,D⟩,I⟩
 |ad u x=>
  intro t ft cs a p k r h j g;cases p with
  |nil=>exact ⟨_,t,ft,a,cs,by simpa [dd] using g,by cases t<;>rfl,h,j⟩
  |cons s p=>
   obtain ⟨rfl,X,h⟩:=h;simp only [dd] at g;split at g;cases g;rename_i Z;obtain ⟨v,y,a',l,C,z,D,I⟩:=Rd.get u x cs a (s::p) _ r h j g (by simpa using Z);obtain ⟨q,Y,z⟩:=z ft X;exact ⟨_,v,q,a',l,C,z,⟨rfl,Y,D⟩,I⟩
 |cons c d aa ac=>
  intro t ft cs a p k r h j g
  match p,g with
  |[],g=>exact ⟨_,t,ft,a,cs,by simpa [dd] using g,by cases t<;>rfl,h,j⟩
  | .i n::p,g=>simp [dd] at g
  | .f 0::p,g=>
   cases t<;>try exact h.elim
   obtain ⟨_,K,O,rfl,J,U,W⟩:=h;exact aa _ _ K a p k r U (fun b o e=>(j b o e).fst J) (by simpa [dd] using g)
  | .f (n+1)::p,g=>
   cases t<;>try exact h.elim
   rename_i t u;obtain ⟨_,K,O,rfl,J,U,W⟩:=h;refine ac _ _ O (a.map fun x=>(x.1,x.2+t.size)) (.f n::p) k r W (fun b o e=>?_) (by simpa [dd] using g);cases a with
   |none=>cases e
   |some a=>simp only [cx,az,aO] at e;obtain ⟨rfl,rfl⟩:=e;exact (j _ _ rfl).snd J
 |tup c _=>
  intro t ft cs a p k r h j g
  match p,g with
  |[],g=>exact ⟨_,t,ft,a,cs,by simpa [dd] using g,by cases t<;>rfl,h,j⟩
  | .f n::p,g=>cases n<;>simp [dd] at g
  | .i n::p,g=>
   cases t<;>try exact h.elim
   exact gk.get h (by simpa only [dd] using g)
 |_=>
  intro t ft cs a p k r h j g;cases p with
  |nil=>exact ⟨_,t,ft,a,cs,by simpa [dd] using g,by cases t<;>rfl,h,j⟩
  |cons s p=>simp [dd] at g
def rL (w w2:World) (c:Nat) (a:Option (Nat×Nat)) (n:Nat) (ft:FT) (cs:List Value):Prop:=
 ∀b o,a=some (b,o)→At w b o n cs∧b∉ft.ae∧(b≠c→w2.heap[b]?=w.heap[b]?)
structure qa (w w2:World) (R:Nat→Prop) (c:Nat) (ft d:FT):Prop where
 ab:∀b∈ft.ae,b∉d.ae→b≠c→w2.heap[b]?=w.heap[b]?
 not:c∉d.ae
 ro:∀b,R b→w2.heap[b]?=w.heap[b]?
theorem S8 {t r v:Ty} {ft x:FT} {q g:List Value} {a:Option (Nat×Nat)} {p:aI} {c O:Nat} {W:List Value} {d:TV}
 (X:ft.ae=ft.fst.ae++ft.snd.ae) (y:q.length=t.size) (D:aW A w R d r ft.snd g)
 (j:rL w w2 c a (t.size+r.size) ft (q++g)) (J:ft.ae.Nodup) (Y:bL t ft.fst a p=some (v,x,some (c,O)))
 (n:qa w w2 R c ft x) (Z:Wr w w2 c O v.size W):
 rL w w2 c a t.size ft.fst q∧ft.fst.ae.Nodup∧qa w w2 R c ft.fst x∧
 (∀c' f u,aW A w2 R c' t u f→f.length=q.length→(∀b o,a=some (b,o)→At w2 b o t.size f)→
  aW A w2 R (.cons c' d) (.cons t r) (.eQ u ft.snd) (f++g)∧(∀b o,a=some (b,o)→At w2 b o (t.size+r.size) (f++g))):=by
 rw [X,cn] at J;obtain ⟨ag,ak,ah⟩:=J;obtain ⟨ai,K⟩:=gm _ _ _ _ Y;refine ⟨fun b o e=>⟨(j b o e).1.fst y,fun l=>(j b o e).2.1 (jv l),(j b o e).2.2⟩,ag,⟨fun b l=>n.ab b (jv l),n.not,n.ro⟩,fun c' f u ac ad aa=>⟨⟨by simp [FT.ae,FT.fst,FT.snd],f,g,rfl,by rw [ad,y],ac,?_⟩,fun b o e=>?_⟩⟩;refine aW.mono (fun _ _ _ ft _ h=>⟨ft,h,rfl⟩) n.ro d r ft.snd g (fun b l=>n.ab b (jD l) (fun af=>ah b (ai b af) b l rfl) (fun e=>?_)) D;subst e;rcases K with ⟨U,aj,e0,I,_⟩|⟨d,e0,_⟩
 grind
 cases a with
 |none=>cases e0
 |some a=>simp only [cx,az,aO] at e0;obtain ⟨rfl,_⟩:=e0;exact (j _ _ rfl).2.1 (jD l)
 refine (aa b o e).pf ?_;have z:At w b (o+t.size) r.size g:=(j b o e).1.snd y;by_cases C:b=c;subst C;refine Z.dc z (.inr ?_);rcases K with ⟨U,aj,e0,I,_⟩|⟨d,e0,D⟩
 simp only [az,aO] at e0;obtain ⟨rfl,rfl⟩:=e0;exact absurd (jv I) (j _ _ e).2.1
 grind
 exact z.bQ ((j b o e).2.2 C)
theorem S9 {t r v:Ty} {ft y:FT} {c q:List Value} {a:Option (Nat×Nat)} {p:aI} {f U:Nat} {X:List Value} {d:TV}
 (Y:ft.ae=ft.fst.ae++ft.snd.ae) (z:c.length=t.size) (I:aW A w R d t ft.fst c)
 (j:rL w w2 f a (t.size+r.size) ft (c++q)) (K:ft.ae.Nodup) (Z:bL r ft.snd (a.map fun x=>(x.1,x.2+t.size)) p=some (v,y,some (f,U)))
 (n:qa w w2 R f ft y) (aa:Wr w w2 f U v.size X):
 rL w w2 f (a.map fun x=>(x.1,x.2+t.size)) r.size ft.snd q∧ft.snd.ae.Nodup∧qa w w2 R f ft.snd y∧
 (∀c' g u,aW A w2 R c' r u g→g.length=q.length→(∀b o,a.map (fun x=>(x.1,x.2+t.size))=some (b,o)→At w2 b o r.size g)→
  aW A w2 R (.cons d c') (.cons t r) (.eQ ft.fst u) (c++g)∧(∀b o,a=some (b,o)→At w2 b o (t.size+r.size) (c++g))):=by
 rw [Y,cn] at K;obtain ⟨al,ag,ah⟩:=K;obtain ⟨ai,O⟩:=gm _ _ _ _ Z;refine ⟨fun b o e=>?_,ag,⟨fun b l=>n.ab b (jD l),n.not,n.ro⟩,fun c' g u ad ak ac=>⟨⟨by simp [FT.ae,FT.fst,FT.snd],c,g,rfl,z,?_,ad⟩,fun b o e=>?_⟩⟩;cases a with
 |none=>cases e
 |some a=>
  simp only [cx,az,aO] at e;obtain ⟨rfl,rfl⟩:=e;exact ⟨(j _ _ rfl).1.snd z,fun l=>(j _ _ rfl).2.1 (jD l),(j _ _ rfl).2.2⟩
 refine aW.mono (fun _ _ _ ft _ h=>⟨ft,h,rfl⟩) n.ro d t ft.fst c (fun b l=>n.ab b (jv l) (fun af=>ah b l b (ai b af) rfl) (fun e=>?_)) I;subst e;rcases O with ⟨W,aj,e0,J,_⟩|⟨d,e0,_⟩
 simp_all;cases a with
 |none=>cases e0
 |some a=>simp only [cx,az,aO] at e0;obtain ⟨rfl,_⟩:=e0;exact (j _ _ rfl).2.1 (jv l)
 have C:At w b o t.size c:=(j b o e).1.fst z;refine At.pf ?_ (ac b (o+t.size) (by subst e;rfl));by_cases D:b=f;subst D;refine aa.dc C (.inl ?_);rcases O with ⟨W,aj,e0,J,_⟩|⟨d,e0,I⟩
 simp only [az,aO] at e0;obtain ⟨rfl,rfl⟩:=e0;exact absurd (jD J) (j _ _ e).2.1;simp_all;exact C.bQ ((j b o e).2.2 D)
def I1 (A:bY) (w:World) (R:Nat→Prop) (mk:(t:Ty)→t.ai→TV):Prop:=
 ∀t r x ft cs,aW A w R (mk (.cons t r) x) (.cons t r) ft cs→ft.ae=ft.fst.ae++ft.snd.ae∧∃b c,cs=b++c∧b.length=t.size∧
  aW A w R (mk t x.1) t ft.fst b∧aW A w R (mk r x.2) r ft.snd c
theorem ahP:I1 A w R .ab:=by
 intro t r x ft cs h;obtain ⟨_,e,c,d,rfl,b,f⟩:=h;exact ⟨e,c,d,rfl,bb.len _ _ _ _ b,⟨rfl,b⟩,⟨rfl,f⟩⟩
theorem ahO:I1 A w R .ad:=by
 intro t r x ft cs h;obtain ⟨_,b,d,e,rfl,c,f⟩:=h;exact ⟨by rw [b,x1 b,yP b];rfl,d,e,rfl,Rd.len _ _ _ c,⟨rfl,x1 b,c⟩,⟨rfl,yP b,f⟩⟩
theorem VT {mk:(t:Ty)→t.ai→TV} (aj:I1 A w R mk) {l al:Nat} {q:List Value} {u:Ty} {v:TV} {ah ft2:FT}
 (g:Wr w w2 l al u.size q) (ak:aW A w2 R v u ft2 q):
 ∀(t:Ty) (x:t.ai) (ft:FT) (cs:List Value) (a:Option (Nat×Nat)) (p:aI) (k:TV→Option ρ) (r:ρ),
 aW A w R (mk t x) t ft cs→rL w w2 l a t.size ft cs→ft.ae.Nodup→bL t ft a p=some (u,ah,some (l,al))→dO mk t x p v k=some r→
 qa w w2 R l ft ah→
 ∃(c':TV) (y:List Value),k c'=some r∧aW A w2 R c' t (bt t ft p ft2) y∧y.length=cs.length∧(∀b o,a=some (b,o)→At w2 b o t.size y):=by
 intro t
 induction t with
 |cons t r ap ao=>
  intro x ft cs a p k dg h aa ad c d ab
  match p,c,d with
  |[],c,d=>
   simp only [bL,az,aO] at c;obtain ⟨rfl,rfl,rfl⟩:=c;exact ⟨v,q,by simpa [dO] using d,ak,by rw [aW.len _ _ _ _ h,g.len],fun b o e=>by simp only [az,aO] at e;obtain ⟨rfl,rfl⟩:=e;exact g.eS⟩
  | .i n::p,c,d=>simp [bL] at c
  | .f 0::p,c,d=>
   obtain ⟨X,af,ag,rfl,ac,Y,Z⟩:=aj t r x ft cs h;simp only [bL] at c;simp only [dO] at d;obtain ⟨K,O,U,W⟩:=S8 X ac Z aa ad c ab g;obtain ⟨c',am,z,C,j,D⟩:=ap x.1 ft.fst af a p _ dg Y K O c d U;obtain ⟨I,J⟩:=W c' am _ C j D;exact ⟨_,_,z,I,by simp [j],J⟩
  | .f (n+1)::p,c,d=>
   obtain ⟨X,af,ag,rfl,ac,Y,Z⟩:=aj t r x ft cs h;simp only [bL] at c;simp only [dO] at d;obtain ⟨K,O,U,W⟩:=S9 X ac Y aa ad c ab g;obtain ⟨c',an,z,C,j,D⟩:=ao x.2 ft.snd ag _ (.f n::p) _ dg Z K O c d U;obtain ⟨I,J⟩:=W c' an _ C j D;exact ⟨_,_,z,I,by simp [j],J⟩
 |_=>
  intro x ft cs a p k dg h aa ad c d ab;cases p with
  |nil=>
   simp only [bL,az,aO] at c;obtain ⟨rfl,rfl,rfl⟩:=c;exact ⟨v,q,by simpa [dO] using d,ak,by rw [aW.len _ _ _ _ h,g.len],fun b o e=>by simp only [az,aO] at e;obtain ⟨rfl,rfl⟩:=e;exact g.eS⟩
  |cons s p=>simp [dO] at d
theorem gk.set {l ah:Nat} {aa:List Value} {u:Ty} {v:TV} {al ft2:FT} (D:Wr w w2 l ah u.size aa) (K:aW A w2 R v u ft2 aa) {t:Ty} {c:TV} {ft:FT} {cs:List Value} {a:Option (Nat×Nat)} {n:Nat} {p:aI} {k:TV→Option ρ} {r:ρ}
 (h:gk w R t c ft cs) (Y:ft.ae.Nodup) (W:bL (.slice t) ft a (.i n::p)=some (u,al,some (l,ah))) (f:n3 c n p v k=some r) (C:qa w w2 R l ft al):
 ∃(c':TV),k c'=some r∧aW A w2 R c' (.slice t) (bt (.slice t) ft (.i n::p) ft2) cs:=by
 rcases gk.out h with ⟨xs,U,rfl,X⟩|⟨_,rfl,_⟩|⟨_,rfl,_⟩
 rotate_left;cases f;cases f;obtain ⟨b,cap,j,rfl,a2,ay,az,a0,h4,h5⟩:=X;simp only [n3] at f;split at f;rotate_left;cases f;rename_i x ag;split at f;rotate_left;cases f;rename_i g an;unfold iV at ag an;have aG:n<xs.length:=(bR.1 ag).1;cases g with
 |true=>cases f
 |false=>
 rw [cond_false] at f;cases b with
 |none=>omega
 |some b=>
  have hk:j[n]?=some (j[n]'(by omega)):=aT _;generalize j[n]'(by omega)=kn at hk;obtain ⟨q,aD,Z,_⟩:=h5.2 n x kn false ag hk an;have X:m9 w t xs U (.node (some b) cap j) cs:=⟨some b,cap,j,rfl,a2,ay,az,a0,h4,h5⟩;have Z:=Z rfl;simp only [bL,hk] at W;have aq:=Y;simp only [FT.ae,fW,g5,jJ] at Y;obtain ⟨a6,aF⟩:=qF hk Y.2;have ap:=cS hk;have a1:b∉kn.ae:=fun I=>Y.1 (fi ap I)
  obtain ⟨af,a8⟩:=gm _ _ _ _ W;have ad:(l=b∧∃d,ah=n*t.size+d∧d+u.size≤t.size)∨l∈kn.ae:=by
   rcases a8 with ⟨O,au,e0,aE,_⟩|⟨d,e0,am⟩
   simp_all;simp_all
  have a9:bt (.slice t) (.node (some b) cap j) (.i n::p) ft2=.node (some b) cap (j.set n (bt t kn p ft2)):=by simp only [bt,hk]
  rw [a9];have aC:b≠l→w2.heap[b]?=w.heap[b]?:=fun a7=>C.ab b (by simp [FT.ae]) (fun I=>a1 (af b I)) a7
  have av:∀(o:Ty) (y:o.ai) (_:bb w2 o y ft2 aa) (_:o=u),dU t x p o y (fun z=>k (.tup (.cons (.ab (.slice t) (List.set (α:=t.ai) xs n z)) (.ab (.slice .bool) U))))=some r→
   ∃(c':TV),k c'=some r∧aW A w2 R c' (.slice t) (.node (some b) cap (j.set n (bt t kn p ft2))) cs:=by
   intro o y aB e f;subst e;obtain ⟨_,x',aw,ac,aj,ak,ax⟩:=bb.set D aB t x kn q (some (b,n*t.size)) p o _ r Z (fun O au e=>by
    simp_all) a6 W f
    (fun O I=>C.ab O (by simp only [FT.ae,aZ];exact .inr (fi ap I))) C.not
   have J:=X.set (g':=false) hk aq D ad af C.ab (ax b _ rfl) (fun _=>aj) (fun e=>by cases e);rw [show U.set n false=U from lW fun i=>by
    rw [g3]
    grind] at J
   exact ⟨_,ac,rfl,J⟩
  split at f;rename_i aH;split at f;rename_i am;obtain ⟨a4,ar,_,_⟩:=K;rw [ar] at D ad;obtain ⟨aw,ac,aj,ak⟩:=ew.set (ft2:=ft2) a4 D t x kn q (some (b,n*t.size)) p ar Z (fun O au e=>by
   simp_all) am W
  have J:=X.set (x':=x) (g':=true) hk aq D ad af C.ab (ak b _ rfl) (fun e=>by cases e) (fun _=>ac);rw [show xs.set n x=xs from lW fun i=>by
   grind] at J
  exact ⟨_,f,rfl,J⟩;cases f;obtain ⟨e,K⟩:=K;exact av _ _ K e f;obtain ⟨e,a3,aA⟩:=K;split at f;rename_i ao;obtain ⟨a5,rfl⟩:=Rd.aQ ao aA;exact av _ _ (bb.gv ao a5 a3) e f;cases f;cases f
theorem aW.set {W ap:Nat} {af:List Value} {u:Ty} {v:TV} {aj ft2:FT}
 (J:Wr w w2 W ap u.size af) (K:aW A w2 R v u ft2 af):
 ∀(c:TV) (t:Ty) (ft:FT) (cs:List Value) (a:Option (Nat×Nat)) (p:aI) (k:TV→Option ρ) (r:ρ),
 aW A w R c t ft cs→rL w w2 W a t.size ft cs→ft.ae.Nodup→bL t ft a p=some (u,aj,some (W,ap))→bO c p v k=some r→
 qa w w2 R W ft aj→
 ∃(c':TV) (l:List Value),k c'=some r∧aW A w2 R c' t (bt t ft p ft2) l∧l.length=cs.length∧(∀b o,a=some (b,o)→At w2 b o t.size l):=by
 have aK:∀(c:TV) (t:Ty) (ft:FT) (cs:List Value) (a:Option (Nat×Nat)) (k:TV→Option ρ) (r:ρ),
  aW A w R c t ft cs→bL t ft a []=some (u,aj,some (W,ap))→bO c [] v k=some r→
  ∃(c':TV) (l:List Value),k c'=some r∧aW A w2 R c' t (bt t ft [] ft2) l∧l.length=cs.length∧(∀b o,a=some (b,o)→At w2 b o t.size l):=by
  intro c t ft cs a k r h j g;have e:bL t ft a []=some (t,ft,a):=by cases t<;>rfl
  have a4:bt t ft [] ft2=ft2:=by cases t<;>rfl
  have a5:bO c [] v k=k v:=by cases c<;>rfl
  rw [e] at j;simp only [az,aO] at j;obtain ⟨rfl,rfl,rfl⟩:=j;rw [a4];exact ⟨v,af,by rw [←a5];exact g,K,by rw [aW.len _ _ _ _ h,J.len],fun b o e=>by simp only [az,aO] at e;obtain ⟨rfl,rfl⟩:=e;exact J.eS⟩
 intro c
 induction c with
 |ab t0 x=>
  intro t ft cs a p k r h D I j g C;cases p with
  |nil=>grind
  |cons s p=>
   obtain ⟨rfl,h⟩:=h;have ay:∀(X:Ty) (y:X.ai) (aw:bb w2 X y ft2 af) (_:X=u),dU t0 x (s::p) X y (fun z=>k (.ab t0 z))=some r→
    ∃(c':TV) (l:List Value),k c'=some r∧aW A w2 R c' t0 (bt t0 ft (s::p) ft2) l∧l.length=cs.length∧(∀b o,a=some (b,o)→At w2 b o t0.size l):=by
    intro X y aw e g;subst e;obtain ⟨_,x',l,q,O,U,Y⟩:=bb.set J aw t0 x ft cs a (s::p) X _ r h D I j g C.ab C.not;exact ⟨_,l,q,⟨rfl,O⟩,U,Y⟩
   have ax:dO .ab t0 x (s::p) v k=some r→
    ∃(c':TV) (l:List Value),k c'=some r∧aW A w2 R c' t0 (bt t0 ft (s::p) ft2) l∧l.length=cs.length∧(∀b o,a=some (b,o)→At w2 b o t0.size l):=
    fun g=>VT ahP J K t0 x ft cs a (s::p) k r ⟨rfl,h⟩ D I j g C
   simp only [bO] at g;split at g;obtain ⟨e,K⟩:=K;exact ay _ _ K e g;obtain ⟨e,a6,aB⟩:=K;split at g;rename_i av;obtain ⟨hk,rfl⟩:=Rd.aQ av aB;exact ay _ _ (bb.gv av hk a6) e g;exact ax g;exact ax g
 |ad t0 x=>
  intro t ft cs a p k r h D I j g C;cases p with
  |nil=>grind
  |cons s p=>
   have aA:t0=t:=h.1;subst aA;exact VT ahO J K t0 x ft cs a (s::p) k r h D I j (by simpa [bO] using g) C
 |cons c d aC aD=>
  intro t ft cs a p k r h D I j g C
  match p,j,g with
  |[],j,g=>grind
  | .i n::p,j,g=>simp [bO] at g
  | .f 0::p,j,g=>
   cases t<;>try exact h.elim
   obtain ⟨al,aq,ar,rfl,ao,am,an⟩:=h;simp only [bL] at j;simp only [bO] at g;obtain ⟨Z,aa,ac,ak⟩:=S8 al ao an D I j C J;obtain ⟨c',a2,q,O,U,Y⟩:=aC _ _ aq a p _ r am Z aa j g ac;obtain ⟨ag,ah⟩:=ak c' a2 _ O U Y;exact ⟨_,_,q,ag,by simp [U],ah⟩
  | .f (n+1)::p,j,g=>
   cases t<;>try exact h.elim
   obtain ⟨al,aq,ar,rfl,ao,am,an⟩:=h;simp only [bL] at j;simp only [bO] at g;obtain ⟨Z,aa,ac,ak⟩:=S9 al ao am D I j C J;obtain ⟨c',a3,q,O,U,Y⟩:=aD _ _ ar _ (.f n::p) _ r an Z aa j g ac;obtain ⟨ag,ah⟩:=ak c' a3 _ O U Y;exact ⟨_,_,q,ag,by simp [U],ah⟩
 |tup c _=>
  intro t ft cs a p k r h D I j g C
  match p,j,g with
  |[],j,g=>grind
  | .f n::p,j,g=>cases n<;>simp [bO] at g
  | .i n::p,j,g=>
   simp only [bO] at g;cases t<;>try exact h.elim
   rcases gk.out h with ⟨_,_,rfl,b,cap,aJ,rfl,rfl,_⟩|⟨_,rfl,_⟩|⟨_,rfl,_⟩
   rotate_left;cases g;cases g;obtain ⟨c',q,O⟩:=gk.set J K h I j g C;refine ⟨c',_,q,O,rfl,fun a0 aL e=>?_⟩;subst e;obtain ⟨Z,aa,ac⟩:=D _ _ rfl;by_cases au:a0=W;subst au;exact absurd (by
    obtain ⟨_,a8⟩:=gm _ _ _ _ j;rcases a8 with ⟨a1,aE,e0,aH,_⟩|⟨d,e0,aG⟩
    simp_all;cases b with
    |none=>simp [bL] at j
    |some b=>
     simp only [bL] at j;split at j;rename_i kn hk;obtain ⟨_,a9⟩:=gm _ _ _ _ j;rcases a9 with ⟨a1,aE,q,a7,_⟩|⟨aF,q,_⟩
     simp only [az,aO] at q;obtain ⟨rfl,rfl⟩:=q;simp only [FT.ae,aZ];exact .inr (fi (cS hk) a7);simp only [cx,az,aO] at q;rw [q.1];simp [FT.ae];cases j) aa
   exact Z.bQ (ac au)
 |_=>
  intro t ft cs a p k r h D I j g C;cases p with
  |nil=>grind
  |cons s p=>simp [bO] at g
end
theorem To:∀(t:Ty) (ft:FT) (a:Option (Nat×Nat)) (q:aI) {v:Ty} {d:FT} {c:Option (Nat×Nat)},t.aQ=true→bL t ft a q=some (v,d,c)→
 v.aQ=true∧∀ft2,∃j,bL t ft2 a q=some (v,j,c):=by
 intro t
 induction t with
 |cons t r u o=>
  intro ft a q v d c b h;simp only [Ty.aQ,bp] at b
  match q,h with
  |[],h=>simp only [bL,az,aO] at h;obtain ⟨rfl,rfl,rfl⟩:=h;exact ⟨by simp [Ty.aQ,b],fun ft2=>⟨ft2,rfl⟩⟩
  | .f 0::q,h=>obtain ⟨e,g⟩:=u _ _ _ b.1 h;exact ⟨e,fun ft2=>g ft2.fst⟩
  | .f (n+1)::q,h=>obtain ⟨e,g⟩:=o _ _ _ b.2 h;exact ⟨e,fun ft2=>g ft2.snd⟩
  | .i n::q,h=>simp [bL] at h
 |slice t _=>intro ft a q v d c b h;simp [Ty.aQ] at b
 |bG=>intro ft a q v d c b h;simp [Ty.aQ] at b
 |arr m t _=>
  intro ft a q v d c b h
  match q,h with
  |[],h=>simp only [bL,az,aO] at h;obtain ⟨rfl,rfl,rfl⟩:=h;exact ⟨b,fun ft2=>⟨ft2,rfl⟩⟩
  | .f n::q,h=>simp [bL] at h
  | .i n::s::q,h=>simp [bL] at h
  |[.i n],h=>
   simp only [bL] at h;split at h;cases h;rename_i l;simp only [az,aO] at h;obtain ⟨rfl,rfl,rfl⟩:=h;exact ⟨b,fun ft2=>⟨.leaf,by simp only [bL];rw [aj l]⟩⟩
 |_=>
  intro ft a q v d c b h;cases q with
  |nil=>simp only [bL,az,aO] at h;obtain ⟨rfl,rfl,rfl⟩:=h;exact ⟨b,fun ft2=>⟨ft2,rfl⟩⟩
  |cons s q=>cases s<;>simp [bL] at h
theorem TE {t:Ty} (h:t.aQ=true) (f g:FT):fJ t f=fJ t g:=by
 cases t<;>first|rfl|simp [Ty.aQ] at h
theorem acm:∀(t:Ty) (ft:FT) (a:Option (Nat×Nat)) (p q:aI) (f:FT) {u v:Ty} {o g:FT} {l j:Option (Nat×Nat)},
 u.aQ=true→bL t ft a p=some (u,o,l)→bL t ft a q=some (v,g,j)→
 ∃x,bL t (bt t ft p f) a q=some (v,x,j)∧fJ v x=fJ v g:=by
 intro t;have y:∀(t:Ty) (ft:FT) (a:Option (Nat×Nat)) (q:aI) (f:FT) {u v:Ty} {o g:FT} {l j:Option (Nat×Nat)},
  u.aQ=true→bL t ft a []=some (u,o,l)→bL t ft a q=some (v,g,j)→∃x,bL t f a q=some (v,x,j)∧fJ v x=fJ v g:=by
  intro t ft a q f u v o g l j h d c;have e:bL t ft a []=some (t,ft,a):=by cases t<;>rfl
  rw [e] at d;simp only [az,aO] at d;obtain ⟨rfl,rfl,rfl⟩:=d;obtain ⟨K,O⟩:=To _ _ _ _ h c;obtain ⟨J,U⟩:=O f;exact ⟨J,U,TE K _ _⟩
 induction t with
 |cons t r C X=>
  intro ft a p q f u v o g l j h d c
  match p,d with
  |[],d=>exact y _ _ _ _ _ h d c
  | .i n::p,d=>simp [bL] at d
  | .f 0::p,d=>
   match q,c with
   |[],c=>simp only [bL,az,aO] at c;obtain ⟨rfl,rfl,rfl⟩:=c;exact ⟨_,rfl,rfl⟩
   | .i n::q,c=>simp [bL] at c
   | .f 0::q,c=>
    simp only [bL] at d c;simpa [bL,bt,FT.fst] using C _ _ p q f h d c
   | .f (n+1)::q,c=>simp only [bL] at c;exact ⟨g,by simpa [bL,bt,FT.snd] using c,rfl⟩
  | .f (m+1)::p,d=>
   match q,c with
   |[],c=>simp only [bL,az,aO] at c;obtain ⟨rfl,rfl,rfl⟩:=c;exact ⟨_,rfl,rfl⟩
   | .i n::q,c=>simp [bL] at c
   | .f 0::q,c=>simp only [bL] at c;exact ⟨g,by simpa [bL,bt,FT.fst] using c,rfl⟩
   | .f (n+1)::q,c=>
    simp only [bL] at d c;have:=X _ _ (.f m::p) (.f n::q) f h d c;simp only [bL,bt,FT.snd];exact this
 |slice t C=>
  intro ft a p q f u v o g l j h d c
  match p,d with
  |[],d=>exact y _ _ _ _ _ h d c
  | .f n::p,d=>simp [bL] at d
  | .i n::p,d=>
   match ft,d,c with
   | .leaf,d,_=>simp [bL] at d
   | .eQ _ _,d,_=>simp [bL] at d
   | .node none _ _,d,_=>simp [bL] at d
   | .node (some b) cap I,d,c=>
    simp only [bL] at d;split at d;rename_i kn hk
    match q,c with
    |[],c=>
     simp only [bL,az,aO] at c;obtain ⟨rfl,rfl,rfl⟩:=c;exact ⟨_,rfl,by simp [fJ,FT.dz,bt,hk]⟩
    | .f n::q,c=>simp [bL] at c
    | .i m::q,c=>
     simp only [bL] at c;split at c;rename_i Y D;by_cases W:m=n;subst W;rw [hk] at D;obtain rfl:=bk D;have z:(I.set m (bt t kn p f))[m]?=some (bt t kn p f):=by
      grind
     simpa [bL,bt,hk,z] using C _ _ p q f h d c;have z:(I.set n (bt t kn p f))[m]?=some Y:=by grind
     exact ⟨g,by simp only [bt,hk,bL,z];exact c,rfl⟩;cases c
    cases d
 |arr m t _=>
  intro ft a p q f u v o g l j h d c
  match p,d with
  |[],d=>exact y _ _ _ _ _ h d c
  | .f n::p,d=>simp [bL] at d
  | .i n::s::p,d=>simp [bL] at d
  |[.i n],d=>
   have e:bt (.arr m t) ft [.i n] f=ft:=by cases ft<;>rfl
   simp_all
 |_=>
  intro ft a p q f u v o g l j h d c;cases p with
  |nil=>exact y _ _ _ _ _ h d c
  |cons s p=>simp [bL] at d
theorem JL {c:List FT} {n:Nat} {k k':FT} (hk:c[n]?=some k) {b:Nat} (h:b∈FT.bq (c.set n k')):b∈k'.ae∨∃i d,i≠n∧c[i]?=some d∧b∈d.ae:=by
 obtain ⟨x,e,f⟩:=afI h;obtain ⟨i,hi⟩:=oo.1 e
 grind
theorem aga {f:List FT} {n:Nat} {k k':FT} (hk:f[n]?=some k) (h:(FT.bq f).Nodup) (v:k'.ae.Nodup)
 (l:∀b∈k'.ae,b∈k.ae∨b∉FT.bq f):(FT.bq (f.set n k')).Nodup:=by
 induction f generalizing n with
 |nil=>simp at hk
 |cons y f x=>
  simp only [FT.bq,cn] at h;obtain ⟨r,o,j⟩:=h;cases n with
  |zero=>
   simp only [List.getElem?_cons_zero,az] at hk;subst hk;simp only [List.set_cons_zero,FT.bq,cn];refine ⟨v,o,fun b d c g e=>?_⟩;subst e;rcases l b d with h|h
   exact j b h b g rfl;exact h (by simp [FT.bq,g])
  |succ n=>
   simp only [List.getElem?_cons_succ] at hk;simp only [List.set_cons_succ,FT.bq,cn];refine ⟨r,x hk o (fun b d=>(l b d).imp id fun h q=>h (by simp [FT.bq,q])),fun b d c g e=>?_⟩;subst e;rcases JL hk g with h|⟨i,z,_,hi,u⟩
   rcases l b h with h|h
   exact j b d b (fi (cS hk) h) rfl;exact h (by simp [FT.bq,d]);exact j b d b (fi (cS hi) u) rfl
theorem FE:∀(t:Ty) (ft:FT) (a:Option (Nat×Nat)) (p:aI) (f:FT) {u:Ty} {x:FT} {z:Option (Nat×Nat)},
 bL t ft a p=some (u,x,z)→ft.ae.Nodup→f.ae.Nodup→(∀b∈f.ae,b∈x.ae∨b∉ft.ae)→
 (bt t ft p f).ae.Nodup∧∀b∈(bt t ft p f).ae,b∈f.ae∨(b∈ft.ae∧b∉x.ae):=by
 intro t;have X:∀ft:FT,ft.ae.Nodup→(ft.fst.ae++ft.snd.ae).Nodup:=by
  intro ft h;cases ft with
  |eQ a d=>simpa [FT.ae,FT.fst,FT.snd] using h
  |_=>simp [FT.ae,FT.fst,FT.snd]
 induction t with
 |cons t r K ab=>
  intro ft a p f u x z g l q o
  match p,g with
  |[],g=>simp only [bL,az,aO] at g;obtain ⟨rfl,rfl,rfl⟩:=g;exact ⟨q,fun b h=>.inl h⟩
  | .i n::p,g=>simp [bL] at g
  | .f 0::p,g=>
   have I:=X ft l;rw [cn] at I;obtain ⟨O,U,W⟩:=I;simp only [bL] at g;obtain ⟨s1,_⟩:=gm _ _ _ _ g;obtain ⟨C,v⟩:=K ft.fst a p f g O q (fun b j=>(o b j).imp id fun h y=>h (jv y));simp only [bt,FT.ae,cn,aZ];refine ⟨⟨C,U,fun b j c J e=>?_⟩,fun b j=>?_⟩;subst e;rcases v b j with h|h
   rcases o b h with h|h
   grind
   exact h (jD J)
   grind
   rcases j with j|j
   exact (v b j).imp id fun h=>⟨jv h.1,h.2⟩
   exact .inr ⟨jD j,fun h=>W b (s1 b h) b j rfl⟩
  | .f (n+1)::p,g=>
   have I:=X ft l;rw [cn] at I;obtain ⟨O,U,W⟩:=I;simp only [bL] at g;obtain ⟨s1,_⟩:=gm _ _ _ _ g;obtain ⟨C,v⟩:=ab ft.snd _ (.f n::p) f g U q (fun b j=>(o b j).imp id fun h y=>h (jD y));simp only [bt,FT.ae,cn,aZ];refine ⟨⟨O,C,fun b j c J e=>?_⟩,fun b j=>?_⟩;subst e;rcases v b J with h|h
   rcases o b h with h|h
   grind
   exact h (jv j)
   grind
   rcases j with j|j
   exact .inr ⟨jv j,fun h=>W b j b (s1 b h) rfl⟩;exact (v b j).imp id fun h=>⟨jD h.1,h.2⟩
 |slice t K=>
  intro ft a p f u x z g l q o
  match p,g with
  |[],g=>simp only [bL,az,aO] at g;obtain ⟨rfl,rfl,rfl⟩:=g;exact ⟨q,fun b h=>.inl h⟩
  | .f n::p,g=>simp [bL] at g
  | .i n::p,g=>
   match ft,g,l,o with
   | .leaf,g,_,_=>simp [bL] at g
   | .eQ _ _,g,_,_=>simp [bL] at g
   | .node none _ _,g,_,_=>simp [bL] at g
   | .node (some ag) cap ac,g,l,o=>
    simp only [bL] at g;split at g;rename_i kn hk;simp only [FT.ae,fW,g5,jJ] at l;obtain ⟨ad,af⟩:=qF hk l.2;have D:=cS hk;obtain ⟨s1,_⟩:=gm _ _ _ _ g;obtain ⟨C,v⟩:=K kn _ p f g ad q (fun b j=>(o b j).imp id fun h y=>h (by simp only [FT.ae,aZ];exact .inr (fi D y)));have Z:∀b∈(bt t kn p f).ae,b∈kn.ae∨b∉FT.bq ac:=fun b j=>by
     rcases v b j with h|h
     rcases o b h with h|h
     exact .inl (s1 b h);exact .inr fun y=>h (by simp only [FT.ae,aZ];exact .inr y)
     exact .inl h.1
    simp only [bt,hk,FT.ae,fW,g5,jJ,cy];refine ⟨⟨fun h=>?_,aga hk l.2 C Z⟩,fun b j=>?_⟩;rcases JL hk h with h|⟨i,Y,_,hi,j⟩
    rcases v _ h with h|h
    rcases o _ h with h|h
    exact l.1 (fi D (s1 _ h));exact h (by simp [FT.ae]);exact l.1 (fi D h.1);exact l.1 (fi (cS hi) j);rcases j with rfl|j
    exact .inr ⟨.inl rfl,fun h=>l.1 (fi D (s1 _ h))⟩;rcases JL hk j with h|⟨i,Y,aa,hi,j⟩
    exact (v b h).imp id fun h=>⟨.inr (fi D h.1),h.2⟩
    exact .inr ⟨.inr (fi (cS hi) j),fun h=>af i Y aa hi b j (s1 b h)⟩;cases g
 |arr m t _=>
  intro ft a p f u x z g l q o
  match p,g with
  |[],g=>simp only [bL,az,aO] at g;obtain ⟨rfl,rfl,rfl⟩:=g;exact ⟨q,fun b h=>.inl h⟩
  | .f n::p,g=>simp [bL] at g
  | .i n::s::p,g=>simp [bL] at g
  |[.i n],g=>
   have e:bt (.arr m t) ft [.i n] f=ft:=by cases ft<;>rfl
   rw [e];simp only [bL] at g;split at g;cases g;simp only [az,aO] at g;obtain ⟨_,rfl,_⟩:=g;exact ⟨l,fun b h=>.inr ⟨h,by simp [FT.ae]⟩⟩
 |_=>
  intro ft a p f u x z g l q o;cases p with
  |nil=>simp only [bL,az,aO] at g;obtain ⟨rfl,rfl,rfl⟩:=g;exact ⟨q,fun b h=>.inl h⟩
  |cons s p=>simp [bL] at g
theorem iQ {m n:Nat} (h:m≠n):Nat.beq m n=false:=by
 cases e:Nat.beq m n;rfl;simp_all
section
variable {α:Type}
theorem gK (k:Nat) (v:α) (l:List (Nat×α)) (n:Nat):lk ((k,v)::l) n=if k=n then some v else lk l n:=by
 simp only [lk];simp_all
theorem T6 (l:List (Nat×α)) (n:Nat) (v:α) (m:Nat):lk (bD l n v) m=if n=m then (lk l m).map (fun _=>v) else lk l m:=by
 induction l with
 |nil=>simp [bD,lk]
 |cons a l b=>
  obtain ⟨k,x⟩:=a;simp only [bD];by_cases hk:k=n;subst hk;simp only [lY,b5,gK];simp_all;simp only [iQ hk,hl,cL,gK,b]
  grind
theorem mC {β:Type} (f:α→β) (l:List (Nat×α)) (n:Nat):lk (l.map fun x=>(x.1,f x.2)) n=(lk l n).map f:=by
 induction l with
 |nil=>rfl
 |cons a l b=>
  obtain ⟨k,x⟩:=a;simp only [dh,gK,b]
  grind
end
theorem jw (s:St) (d n:Nat) (v:TV):(s.put d v).get n=if d=n then v else s.get n:=by
 simp only [St.get,St.put,gK]
 grind
theorem xC (s:St) (d:Nat) (v:TV):(s.put d v).box=s.box:=rfl
theorem x3 (s:St) (b:Nat) (p:aI) (n:Nat):(s.aw b p).get n=(s.get n).aw b p:=by
 simp only [St.get,St.aw,mC];cases lk s.tmps n<;>rfl
theorem Rm (s:St) (b:Nat) (p:aI) (n:Nat):(s.aw b p).box n=(s.box n).map (bl.aw b p):=by
 simp only [St.box,St.aw,mC]
theorem MT (f:TV→TV) (b:f .un=.un) (l:List (List (Nat×TV))) (i n:Nat):(lk ((l.map fun l=>l.map fun x=>(x.1,f x.2)).getD i []) n).getD .un=f ((lk (l.getD i []) n).getD .un):=by
 simp only [List.getD_eq_getElem?_getD,jI];cases l[i]? with
 |none=>exact b.symm
 |some l=>
  simp only [cx,rI,mC];cases lk l n with
  |none=>exact b.symm
  |some v=>rfl
theorem yT (s:St) (b:Nat) (p:aI) (i n:Nat):(s.aw b p).gy i n=(s.gy i n).aw b p:=MT (fun v=>v.aw b p) rfl s.sv i n
theorem yU (s:St) (b:Nat) (p:aI):(s.aw b p).sv.length=s.sv.length:=c2 _
theorem kP (s:St) (b:Nat) (x y:bl) (h:s.box b=some y) (n:Nat):(s.b4 b x).box n=if b=n then some x else s.box n:=by
 simp only [St.box,St.b4,T6] at*
 grind
section
variable {ρ:Type}
theorem uM:∀(t:Ty) (x:t.ai) (p:aI) (u:Ty) (y:u.ai) (k:t.ai→Option ρ) (r:ρ),dU t x p u y k=some r→
 ∃x':t.ai,k x'=some r∧∀{σ:Type} (k':t.ai→Option σ),dU t x p u y k'=k' x':=by
 intro t;have q:∀(t:Ty) (x:t.ai) (u:Ty) (y:u.ai) (k:t.ai→Option ρ) (r:ρ),dU t x [] u y k=some r→
  ∃x':t.ai,k x'=some r∧∀{σ:Type} (k':t.ai→Option σ),dU t x [] u y k'=k' x':=by
  intro t x u y k r h;have e:∀{σ:Type} (k':t.ai→Option σ),dU t x [] u y k'=match cM u t y with|some z=>k' z|none=>none:=by cases t<;>intros<;>rfl
  grind
 induction t with
 |cons t r d o=>
  intro x p u y k dg h
  match p,h with
  |[],h=>simp_all
  | .f 0::p,h=>
   obtain ⟨a,b,c⟩:=d x.1 p u y _ dg (by simpa [dU] using h);exact ⟨_,b,fun k'=>by simp only [dU];rw [c]⟩
  | .f (n+1)::p,h=>
   obtain ⟨a,b,c⟩:=o x.2 (.f n::p) u y _ dg (by simpa [dU] using h);exact ⟨_,b,fun k'=>by simp only [dU];rw [c]⟩
  | .i n::p,h=>simp [dU] at h
 |slice t d=>
  intro x p u y k dg h
  match p,h with
  |[],h=>simp_all
  | .f n::p,h=>simp [dU] at h
  | .i n::p,h=>
   simp only [dU] at h;split at h;rename_i j g;obtain ⟨a,b,c⟩:=d j p u y _ dg h;exact ⟨_,b,fun k'=>by simp only [dU,g];rw [c]⟩;cases h
 |arr m t d=>
  intro x p u y k dg h
  match p,h with
  |[],h=>simp_all
  | .f n::p,h=>simp [dU] at h
  | .i n::p,h=>
   simp only [dU] at h;split at h;cases h;rename_i l;split at h;rename_i j g;obtain ⟨a,b,c⟩:=d j p u y _ dg h;exact ⟨_,b,fun k'=>by simp only [dU,g];rw [aj l,c]⟩;cases h
 |_=>
  intro x p u y k dg h;cases p with
  |nil=>simp_all
  |cons s p=>simp [dU] at h
theorem VS {mk:(t:Ty)→t.ai→TV} (b:Nat) (q:aI) (e:∀t x,(mk t x).aw b q=mk t x):∀(t:Ty) (x:t.ai) (p:aI) (v:TV) (k:TV→Option ρ) (r:ρ),dO mk t x p v k=some r→
 ∃c',k c'=some r∧∀{σ:Type} (k':TV→Option σ),dO mk t x p (v.aw b q) k'=k' (c'.aw b q):=by
 intro t
 induction t with
 |cons t r j g=>
  intro x p v k dg h
  match p,h with
  |[],h=>exact ⟨v,by simpa [dO] using h,fun k'=>by simp [dO]⟩
  | .f 0::p,h=>
   obtain ⟨a,c,d⟩:=j x.1 p v _ dg (by simpa [dO] using h);exact ⟨_,c,fun k'=>by simp only [dO];rw [d];simp only [TV.aw,e]⟩
  | .f (n+1)::p,h=>
   obtain ⟨a,c,d⟩:=g x.2 (.f n::p) v _ dg (by simpa [dO] using h);exact ⟨_,c,fun k'=>by simp only [dO];rw [d];simp only [TV.aw,e]⟩
  | .i n::p,h=>simp [dO] at h
 |_=>
  intro x p v k dg h;cases p with
  |nil=>exact ⟨v,by simpa [dO] using h,fun k'=>by simp [dO]⟩
  |cons s p=>simp [dO] at h
theorem TW {b:Nat} {q:aI} {t:Ty} {x:t.ai}:(TV.ab t x).aw b q=.ab t x:=rfl
theorem ae0 {b:Nat} {q:aI} {t:Ty} {x:t.ai}:(TV.ad t x).aw b q=.ad t x:=rfl
theorem VQ {c:TV} {n:Nat} {p:aI} {v:TV} {k:TV→Option ρ} {r:ρ} (h:n3 c n p v k=some r):
 ∃c',k c'=some r∧(∀{σ:Type} (k':TV→Option σ),n3 c n p v k'=k' c')∧∀b q,c.aw b q=c∧v.aw b q=v∧c'.aw b q=c':=by
 unfold n3 at h;split at h;rotate_left;cases h;rename_i t xs u;split at h;rotate_left;cases h;rename_i x j;split at h;rotate_left;cases h;rename_i g f;cases g with
 |true=>cases h
 |false=>
  rw [cond_false] at h;split at h;split at h;rename_i l;exact ⟨_,h,fun k'=>by simp only [n3,j,f,cond_false];rw [ak l],fun b q=>⟨rfl,rfl,rfl⟩⟩;cases h;obtain ⟨x',d,e⟩:=uM t x p _ _ _ r h;exact ⟨_,d,fun k'=>by simp only [n3,j,f,cond_false];rw [e],fun b q=>⟨rfl,rfl,rfl⟩⟩;split at h;rename_i o;obtain ⟨x',d,e⟩:=uM t x p _ _ _ r h;exact ⟨_,d,fun k'=>by simp only [n3,j,f,cond_false];rw [ak o,e],fun b q=>⟨rfl,rfl,rfl⟩⟩;cases h;cases h
theorem Mn (b:Nat) (q:aI):∀(c:TV) (p:aI) (v:TV) (k:TV→Option ρ) (r:ρ),bO c p v k=some r→
 ∃c',k c'=some r∧∀{σ:Type} (k':TV→Option σ),bO (c.aw b q) p (v.aw b q) k'=k' (c'.aw b q):=by
 have z:∀(c:TV) (v:TV) (k:TV→Option ρ) (r:ρ),bO c [] v k=some r→
  ∃c',k c'=some r∧∀{σ:Type} (k':TV→Option σ),bO (c.aw b q) [] (v.aw b q) k'=k' (c'.aw b q):=by
  intro c v k r h;have e:∀(c:TV) (v:TV) {σ:Type} (k':TV→Option σ),bO c [] v k'=k' v:=by intro c v σ k';cases c<;>rfl
  grind
 intro c
 induction c with
 |ab t x=>
  intro p v k r h;cases p with
  |nil=>exact z _ _ _ _ h
  |cons s p=>
   have o:∀v:TV,(∀{σ:Type} (k':TV→Option σ),bO (.ab t x) (s::p) (v.aw b q) k'=dO .ab t x (s::p) (v.aw b q) k')→dO .ab t x (s::p) v k=some r→
    ∃c',k c'=some r∧∀{σ:Type} (k':TV→Option σ),bO ((TV.ab t x).aw b q) (s::p) (v.aw b q) k'=k' (c'.aw b q):=by
    intro v e U;obtain ⟨c',g,j⟩:=VS b q (fun _ _=>TW) t x (s::p) v k r U;exact ⟨c',g,fun k'=>by rw [TW,e,j]⟩
   cases v with
   |ab u y=>
    obtain ⟨x',g,j⟩:=uM t x (s::p) u y _ r (by simpa [bO] using h);exact ⟨_,g,fun k'=>by simp only [TV.aw,bO];rw [j]⟩
   |ad u y=>
    simp only [bO] at h;split at h;rename_i D;obtain ⟨x',g,j⟩:=uM t x (s::p) u y _ r h;exact ⟨_,g,fun k'=>by simp only [TV.aw,bO,D,b5];rw [j]⟩;rename_i D;exact o _ (fun k'=>by simp only [TV.aw,bO];rw [aj D]) h
   |ref l C=>
    refine o _ (fun k'=>?_) (by simpa [bO] using h);rcases (kill_cases b q l C 0 0).1 with e|e<;>rw [e]<;>simp [bO]
   |sl l C=>
    refine o _ (fun k'=>?_) (by simpa [bO] using h);rcases (kill_cases b q l C 0 0).2.1 with e|e<;>rw [e]<;>simp [bO]
   |slw l C lo n=>
    refine o _ (fun k'=>?_) (by simpa [bO] using h);rcases (kill_cases b q l C lo n).2.2.1 with e|e<;>rw [e]<;>simp [bO]
   |mp l=>
    refine o _ (fun k'=>?_) (by simpa [bO] using h);rcases (kill_cases b q l [] 0 0).2.2.2 with e|e<;>rw [e]<;>simp [bO]
   |_=>exact o _ (fun k'=>by simp [TV.aw,bO]) (by simpa [bO] using h)
 |ad t x=>
  intro p v k r h;cases p with
  |nil=>exact z _ _ _ _ h
  |cons s p=>
   obtain ⟨c',g,j⟩:=VS b q (fun _ _=>ae0) t x (s::p) v k r (by simpa [bO] using h);exact ⟨c',g,fun k'=>by simp only [TV.aw,bO];rw [j]⟩
 |cons a d W X=>
  intro p v k r h
  match p,h with
  |[],h=>exact z _ _ _ _ h
  | .i n::p,h=>simp [bO] at h
  | .f 0::p,h=>
   obtain ⟨c',g,j⟩:=W p v _ r (by simpa [bO] using h);exact ⟨_,g,fun k'=>by simp only [TV.aw,bO];rw [j]⟩
  | .f (n+1)::p,h=>
   obtain ⟨c',g,j⟩:=X (.f n::p) v _ r (by simpa [bO] using h);exact ⟨_,g,fun k'=>by simp only [TV.aw,bO];rw [j]⟩
 |tup c _=>
  intro p v k r h
  match p,h with
  |[],h=>exact z _ _ _ _ h
  | .f n::p,h=>cases n<;>simp [bO] at h
  | .i n::p,h=>
   obtain ⟨c',g,j,O⟩:=VQ (by simpa only [bO] using h);obtain ⟨I,J,K⟩:=O b q;exact ⟨c',g,fun k'=>by simp only [TV.aw,bO];rw [I,J,K,j]⟩
 |_=>
  intro p v k r h;cases p with
  |nil=>exact z _ _ _ _ h
  |cons s p=>simp [bO] at h
theorem Mo (c:TV) (p:aI) (v:TV) (k:TV→Option ρ) (r:ρ) (h:bO c p v k=some r):
 ∃c',k c'=some r∧∀{σ:Type} (k':TV→Option σ),bO c p v k'=k' c':=by
 have j:∀(mk:(t:Ty)→t.ai→TV) (t:Ty) (x:t.ai) (p:aI) (k:TV→Option ρ) (r:ρ),dO mk t x p v k=some r→∃c',k c'=some r∧∀{σ:Type} (k':TV→Option σ),dO mk t x p v k'=k' c':=by
  intro mk t
  induction t with
  |cons t r z q=>
   intro x p k dg h
   match p,h with
   |[],h=>exact ⟨v,by simpa [dO] using h,fun k'=>by simp [dO]⟩
   | .f 0::p,h=>
    obtain ⟨a,b,e⟩:=z x.1 p _ dg (by simpa [dO] using h);exact ⟨_,b,fun k'=>by simp only [dO];rw [e]⟩
   | .f (n+1)::p,h=>
    obtain ⟨a,b,e⟩:=q x.2 (.f n::p) _ dg (by simpa [dO] using h);exact ⟨_,b,fun k'=>by simp only [dO];rw [e]⟩
   | .i n::p,h=>simp [dO] at h
  |_=>
   intro x p k dg h;cases p with
   |nil=>exact ⟨v,by simpa [dO] using h,fun k'=>by simp [dO]⟩
   |cons s p=>simp [dO] at h
 have key:∀(c:TV) (p:aI) (k:TV→Option ρ) (r:ρ),bO c p v k=some r→∃c',k c'=some r∧∀{σ:Type} (k':TV→Option σ),bO c p v k'=k' c':=by
  intro c
  induction c with
  |ab t x=>
   intro p k r h;cases p with
   |nil=>exact ⟨v,h,fun k'=>rfl⟩
   |cons s p=>
    cases v with
    |ab u y=>
     obtain ⟨x',b,e⟩:=uM t x (s::p) u y _ r (by simpa [bO] using h);exact ⟨_,b,fun k'=>by simp only [bO];rw [e]⟩
    |ad u y=>
     simp only [bO] at h;split at h;rename_i g;obtain ⟨x',b,e⟩:=uM t x (s::p) u y _ r h;exact ⟨_,b,fun k'=>by simp only [bO,g,b5];rw [e]⟩;rename_i g;obtain ⟨c',b,e⟩:=j .ab t x (s::p) k r h;exact ⟨c',b,fun k'=>by simp only [bO];rw [aj g,e]⟩
    |_=>
     obtain ⟨c',b,e⟩:=j .ab t x (s::p) k r (by simpa [bO] using h);exact ⟨c',b,fun k'=>by simp only [bO];rw [e]⟩
  |ad t x=>
   intro p k r h;cases p with
   |nil=>exact ⟨v,h,fun k'=>rfl⟩
   |cons s p=>
    obtain ⟨c',b,e⟩:=j .ad t x (s::p) k r (by simpa [bO] using h);exact ⟨c',b,fun k'=>by simp only [bO];rw [e]⟩
  |cons a d l o=>
   intro p k r h
   match p,h with
   |[],h=>exact ⟨v,h,fun k'=>rfl⟩
   | .i n::p,h=>simp [bO] at h
   | .f 0::p,h=>
    obtain ⟨c',b,e⟩:=l p _ r (by simpa [bO] using h);exact ⟨_,b,fun k'=>by simp only [bO];rw [e]⟩
   | .f (n+1)::p,h=>
    obtain ⟨c',b,e⟩:=o (.f n::p) _ r (by simpa [bO] using h);exact ⟨_,b,fun k'=>by simp only [bO];rw [e]⟩
  |tup c _=>
   intro p k r h
   match p,h with
   |[],h=>exact ⟨v,h,fun k'=>rfl⟩
   | .f n::p,h=>cases n<;>simp [bO] at h
   | .i n::p,h=>
    obtain ⟨c',b,e,_⟩:=VQ (by simpa only [bO] using h);exact ⟨c',b,fun k'=>by simp only [bO];rw [e]⟩
  |_=>
   intro p k r h;cases p with
   |nil=>exact ⟨v,h,fun k'=>rfl⟩
   |cons s p=>simp [bO] at h
 exact key c p k r h
end
def bl.with (x:bl) (c:TV):bl:={x with c:=c}
section
variable {F:Fr} {G:Nat→Gh} {s:St} {a:Act} {w:World}
theorem aA.ro (h:aA F G s a w) {i:Nat} {x:bl} (e:s.box i=some x) {b:Nat} (c:F.R b):b∉(G i).ae:=fun d=>(h.bK i x e b d).1 c
theorem aA.n1 (h:aA F G s a w) {b:Nat} (c:F.R b):b<w.heap.size:=jL (h.R b c).1 h.size
theorem dF.fv {A:bY} {R:Nat→Prop} {g:Gh} {x:bl} (h:dF A w R g x):
 ∃cs,aW A w R x.c x.ty g.ft cs∧∀b o,g.bg.map (·,0)=some (b,o)→At w b o x.ty.size cs∧∃row e,w.heap[b]?=some (.cells row e (0,0))∧row.toList=cs∧o=0:=by
 unfold dF at h;split at h;simp_all;obtain ⟨j,row,e,f,d,l,h4⟩:=h;refine ⟨row.toList,h4,fun b o eq=>?_⟩;rw [f] at eq;simp only [cx,az,aO] at eq;obtain ⟨rfl,rfl⟩:=eq;exact ⟨⟨row,e,(0,0),d,by omega,by rw [jH,List.take_of_length_le (by simp;omega)]⟩,row,e,d,rfl,rfl⟩
theorem aA.xS (h:aA F G s a w) {i:Nat} {x:bl} (r:s.box i=some x) {p:aI} {u:Ty} {X:FT} {ab:Option (Nat×Nat)}
 (ay:ax s.box G i p=some (u,X,ab)) {w2:World} {c':TV} {f:FT} {s2:St} {D:Nat→Gh} (kl:TV→TV)
 (a1:D=fun j=>if j=i then ⟨(G i).bg,bt x.ty (G i).ft p f⟩ else G j)
 (a7:∀n,s2.get n=kl (s.get n)) (aC:∀i n,s2.gy i n=kl (s.gy i n)) (a8:s2.sv.length=s.sv.length) (J:∀j,s2.box j=if j=i then some (x.with c') else (s.box j).map fun y=>y.with (kl y.c))
 (ag:∀v y,VR (ax s.box G) w F.R v y→VR (ax s2.box D) w2 F.R (kl v) y)
 (af:∀c t ft cs,(∀b∈ft.ae,w2.heap[b]?=w.heap[b]?)→aW (ax s.box G) w F.R c t ft cs→aW (ax s2.box D) w2 F.R (kl c) t ft cs)
 (aN:dF (ax s2.box D) w2 F.R (D i) (x.with c'))
 (al:gj w w2) (a0:∀j y,j≠i→s.box j=some y→∀b∈(G j).ae,w2.heap[b]?=w.heap[b]?) (a2:∀b,b<F.w0.heap.size→b∉F.M→w2.heap[b]?=w.heap[b]?)
 (a4:f.ae.Nodup) (aa:∀b∈f.ae,b∈X.ae∨∀j y,s.box j=some y→b∉(G j).ae)
 (a6:∀b∈f.ae,¬F.R b∧b<w2.heap.size∧(b∈F.M∨F.w0.heap.size≤b))
 (a5:x.dN=true→x.cm=true→(bt x.ty (G i).ft p f).dz=(G i).ft.dz):aA F D s2 a w2:=by
 subst a1;have ad:bL x.ty (G i).ft ((G i).bg.map (·,0)) p=some (u,X,ab):=by simpa [ax,r] using ay
 have ai:=h.b7 i x r;simp only [Gh.ae,cn] at ai;obtain ⟨aF,aG,aO⟩:=ai;obtain ⟨s1,_⟩:=gm _ _ _ _ ad;obtain ⟨ar,au⟩:=FE x.ty (G i).ft _ p f ad aG a4 (fun b J=>(aa b J).imp id fun aw av=>aw i x r (by simp [Gh.ae,av]));have ck:∀j y,s2.box j=some y→∃l,s.box j=some l:=by
  intro j y d;rw [J] at d;by_cases e:j=i;simp_all;simp only [e,cL] at d;cases q:s.box j with
  |none=>rw [q] at d;cases d
  |some l=>exact ⟨l,rfl⟩
 have sub:∀b,b∈(Gh.mk (G i).bg (bt x.ty (G i).ft p f)).ae→b∈f.ae∨(b∈(G i).ae):=by
  intro b g;simp only [Gh.ae,aZ] at g⊢
  grind
 have aM:∀j y,j≠i→s.box j=some y→∀b∈(G j).ae,b∉f.ae∧b∉(G i).ae:=by
  intro j y q d b g;refine ⟨fun a9=>?_,fun O=>h.dc j i y x d r q b g O⟩;rcases aa b a9 with o|o
  exact h.dc j i y x d r q b g (by simp [Gh.ae,s1 b o]);exact o j y d g
 refine ⟨?_,?_,?_,?_,?_,h.R,?_,?_,h.gq.trans al,h.defers,h.nt,?hpar,fun i n=>(by rw [aC];exact ag _ _ (h.sv i n)),a8.trans h.j9⟩
 case hpar=>
  intro j y d;rw [J] at d;by_cases e:j=i;subst e;simp only [b5,az] at d;subst d;simp only [b5];obtain ⟨aH,aJ⟩:=h.c1 j x r;refine ⟨aH,fun am=>?_⟩;obtain ⟨aq,aK⟩:=aJ am;exact ⟨aq,(a5 am aq).trans aK⟩;simp only [e,cL] at d⊢;cases q:s.box j with
  |none=>rw [q] at d;cases d
  |some l=>
   rw [q] at d;simp only [cx,az] at d;subst d;exact h.c1 j l q
 rotate_left;intro j y d;rw [J] at d;by_cases e:j=i;subst e;simp only [b5,az] at d;subst d;exact h.cF j x r;simp only [e,cL] at d;cases q:s.box j with
 |none=>rw [q] at d;cases d
 |some l=>
  rw [q] at d;simp only [cx,az] at d;subst d;exact h.cF j l q
 rotate_right
 intro j y d;by_cases e:j=i;simp_all;obtain ⟨l,C⟩:=ck j y d;rw [J] at d;simp only [e,cL,C,cx,az] at d;subst d;have K:=h.box j l C;have Z:∀b∈(G j).ae,w2.heap[b]?=w.heap[b]?:=fun b g=>a0 j l e C b g
 unfold dF at K⊢;by_cases U:l.cm=true;rw [ak U] at K;rw [aj e,ak (show (l.with (kl l.c)).cm=true from U)];obtain ⟨o,I,cs,Y⟩:=K;exact ⟨o,I,cs,af _ _ _ _ (fun b g=>Z b (by simp [Gh.ae,g])) Y⟩;rw [aj U] at K;rw [aj e,aj (show ¬(l.with (kl l.c)).cm=true from U)];obtain ⟨ac,row,W,o,I,Y,h4⟩:=K;exact ⟨ac,row,W,o,by rw [Z ac (by simp [Gh.ae,o])];exact I,Y,af _ _ _ _ (fun b g=>Z b (by simp [Gh.ae,g])) h4⟩;intro j k y z d aD aB b g O;obtain ⟨l,C⟩:=ck j y d;obtain ⟨aL,aE⟩:=ck k z aD;by_cases e:j=i
 grind
 by_cases W:k=i
 grind
 simp only [e,W,cL] at g O;exact h.dc j k l aL C aE aB b g O;intro j y d;obtain ⟨l,C⟩:=ck j y d;by_cases e:j=i;subst e;simp only [b5,Gh.ae,cn];refine ⟨aF,ar,fun b g c a3 e=>?_⟩;subst e;rcases au b a3 with o|o
 rcases aa b o with I|I
 grind
 exact I j x r (by simp only [Gh.ae,aZ];exact .inl g)
 grind
 simp only [e,cL];exact h.b7 j l C;intro j y d b g;obtain ⟨l,C⟩:=ck j y d;by_cases e:j=i;subst e;simp only [b5] at g;rcases sub b g with o|o
 exact a6 b o;obtain ⟨an,ao,ap⟩:=h.bK j x r b o;exact ⟨an,jL ao al.size,ap⟩;simp only [e,cL] at g;obtain ⟨an,ao,ap⟩:=h.bK j l C b g
 grind
 intro n;rw [a7];exact ag _ _ (h.tmps n);intro b ah g;rw [a2 b ah g];exact h.bQ b ah g
theorem aA.core (h:aA F G s a w) {i:Nat} {x:bl} (g:s.box i=some x) {p:aI} {u:Ty} {l:FT} {z:Option (Nat×Nat)}
 (C:ax s.box G i p=some (u,l,z)) {w2:World} {c':TV} {f:FT} {s2:St} {d:Nat→Gh} (kl:TV→TV)
 (I:d=fun j=>if j=i then ⟨(G i).bg,bt x.ty (G i).ft p f⟩ else G j)
 (Z:∀n,s2.get n=kl (s.get n)) (ag:∀i n,s2.gy i n=kl (s.gy i n)) (ac:s2.sv.length=s.sv.length) (K:∀j,s2.box j=if j=i then some (x.with c') else (s.box j).map fun y=>y.with (kl y.c))
 (J:∀v y,VR (ax s.box G) w F.R v y→VR (ax s2.box d) w2 F.R (kl v) y)
 (D:∀c t ft cs,(∀b∈ft.ae,w2.heap[b]?=w.heap[b]?)→aW (ax s.box G) w F.R c t ft cs→aW (ax s2.box d) w2 F.R (kl c) t ft cs)
 (O:dF (ax s2.box d) w2 F.R (d i) (x.with c'))
 (ah:gj w w2) (q:∀b,b<w.heap.size→b∉(G i).ae→w2.heap[b]?=w.heap[b]?)
 (U:f.ae.Nodup) (W:∀b∈f.ae,b∈l.ae∨∀j y,s.box j=some y→b∉(G j).ae)
 (Y:∀b∈f.ae,¬F.R b∧b<w2.heap.size∧(b∈F.M∨F.w0.heap.size≤b))
 (X:x.dN=true→x.cm=true→(bt x.ty (G i).ft p f).dz=(G i).ft.dz):aA F d s2 a w2:=by
 refine h.xS g C kl I Z ag ac K J D O ah (fun j y ab r b e=>q b (h.bK j y r b e).2.1 (fun af=>h.dc j i y x r g ab b e af)) (fun b ad e=>q b (jL ad h.size) (fun aa=>?_)) U W Y X;rcases (h.bK i x g b aa).2.2 with o|o
 exact e o;omega
theorem aA.put (h:aA F G s a w) {d:Nat} {v:TV} {x:Value} (b:d<F.nt) (c:VR (ax s.box G) w F.R v x):aA F G (s.put d v) (a.put (some d) x) w:=by
 refine ⟨h.box,h.cF,h.dc,h.b7,h.bK,h.R,fun n=>?_,h.bQ,h.gq,h.defers,by simpa [Act.put] using h.nt,h.c1,h.sv,h.j9⟩;rw [jw,xC];by_cases e:d=n;subst e;have:(a.put (some d) x).tmps.getD d undef=x:=by simp [Act.put,h.nt,b]
 simp_all;have:(a.put (some d) x).tmps.getD n undef=a.tmps.getD n undef:=by
  simp [Act.put,iB,Array.getElem?_setIfInBounds_ne e]
 rw [this,aj e];exact h.tmps n
theorem aA.LX (h:aA F G s a w) (d:Nat):aA F G (s.put d (.tup .unit)) (a.put (some d) undef) w:=by
 refine ⟨h.box,h.cF,h.dc,h.b7,h.bK,h.R,fun n=>?_,h.bQ,h.gq,h.defers,by simpa [Act.put] using h.nt,h.c1,h.sv,h.j9⟩;rw [jw,xC];by_cases e:d=n;subst e;have:(a.put (some d) undef).tmps.getD d undef=undef:=by
  simp only [Act.put,iB];simp_all
 rw [this,ak rfl];exact ⟨[],trivial,rfl⟩;have:(a.put (some d) undef).tmps.getD n undef=a.tmps.getD n undef:=by
  simp [Act.put,iB,Array.getElem?_setIfInBounds_ne e]
 rw [this,aj e];exact h.tmps n
theorem TB (h:aA F G s a w) {ops:Array Oper} {j d:Nat} (g:(ops[j]?).bind (·.dst)=some d) (f:s.get d=.tup .unit):yielded ops a.tmps j=none:=by
 have b:=h.tmps d;rw [f] at b;obtain ⟨xs,c,e⟩:=b;cases xs with
 |cons _ _=>exact c.elim
 |nil=>
  rw [iB] at e;unfold yielded
  grind
theorem aA.Fy (h:aA F G s a w) {d:Nat} {v:TV} (b:VR (ax s.box G) w F.R v (a.tmps.getD d undef)):aA F G (s.put d v) a w:=by
 refine ⟨h.box,h.cF,h.dc,h.b7,h.bK,h.R,fun n=>?_,h.bQ,h.gq,h.defers,h.nt,h.c1,h.sv,h.j9⟩;rw [jw,xC];by_cases e:d=n;simp_all;rw [aj e];exact h.tmps n
theorem aA.grow (h:aA F G s a w) {w2:World} (I:gj w w2) (u:∀b,b<w.heap.size→w2.heap[b]?=w.heap[b]?):aA F G s a w2:=by
 have g:∀b,F.R b→w2.heap[b]?=w.heap[b]?:=fun b q=>u b (h.n1 q)
 have f:ia (ax s.box G) (ax s.box G):=fun _ _ _ ft _ e=>⟨ft,e,rfl⟩
 refine ⟨fun i x j=>?_,h.cF,h.dc,h.b7,fun i x j b q=>?_,h.R,fun n=>VR.mono f g (h.tmps n),fun b z c=>?_,h.gq.trans I,h.defers,h.nt,h.c1,fun i n=>VR.mono f g (h.sv i n),h.j9⟩;have y:∀b∈(G i).ae,w2.heap[b]?=w.heap[b]?:=fun b c=>u b (h.bK i x j b c).2.1
 have d:=h.box i x j;unfold dF at d⊢;split;rename_i r;rw [ak r] at d;obtain ⟨l,v,cs,o⟩:=d;exact ⟨l,v,cs,aW.mono f g _ _ _ _ (fun b c=>y b (by simp [Gh.ae,c])) o⟩;rename_i r;rw [aj r] at d;obtain ⟨C,row,D,l,v,o,h4⟩:=d;exact ⟨C,row,D,l,by grind,o,aW.mono f g _ _ _ _ (fun b c=>y b (by simp [Gh.ae,c])) h4⟩;obtain ⟨J,K,O⟩:=h.bK i x j b q
 grind
 rw [u b (jL z h.size)];exact h.bQ b z c
end
theorem Wr.refl {w:World} {b o n:Nat} {cs:List Value} (h:At w b o n cs):Wr w w b o n cs:=by
 obtain ⟨row,e,fz,c,d,rfl⟩:=h;refine ⟨by simp;omega,row,row,e,fz,c,c,d,?_⟩;rw [c6,←kb,hJ,hJ]
theorem fR {B:Nat→Option bl} {G:Nat→Gh} {i:Nat} {x:bl} (h:B i=some x) (p:aI):ax B G i p=bL x.ty (G i).ft ((G i).bg.map (·,0)) p:=by
 simp [ax,h]
section
variable {ρ:Type} {F:Fr} {G:Nat→Gh} {s:St} {a:Act} {w:World}
theorem tF {i:Nat} {x:bl} (n:s.box i=some x) {p:aI} {u:Ty} {g:FT} {d:Option (Nat×Nat)}
 (r:ax s.box G i p=some (u,g,d)) {f:FT} {s2:St} {b:Nat→Gh} {c':TV} {kl:TV→TV}
 (z:b=fun j=>if j=i then ⟨(G i).bg,bt x.ty (G i).ft p f⟩ else G j)
 (l:∀j,s2.box j=if j=i then some (x.with c') else (s.box j).map fun y=>y.with (kl y.c)):m5 i p (ax s.box G) (ax s2.box b):=by
 subst z;intro c q t ft bd h;have v:bL x.ty (G i).ft ((G i).bg.map (·,0)) p=some (u,g,d):=by rw [←fR n];exact r
 by_cases e:i=c;subst e;rw [fR n] at h;have C:∀q,ax s2.box (fun j=>if j=i then ⟨(G i).bg,bt x.ty (G i).ft p f⟩ else G j) i q=bL x.ty (bt x.ty (G i).ft p f) ((G i).bg.map (·,0)) q:=by
  intro q;simp [ax,l,bl.with]
 obtain ⟨D,I⟩:=ack x.ty (G i).ft _ p q f v h;simp_all;have C:ax s2.box (fun j=>if j=i then ⟨(G i).bg,bt x.ty (G i).ft p f⟩ else G j) c q=ax s.box G c q:=by
  have o:¬c=i:=fun h=>e h.symm
  simp only [ax,l,o,cL];cases s.box c<;>rfl
 simp_all
theorem ae7 {i:Nat} {x:bl} (o:s.box i=some x) {p:aI} {u:Ty} {g:FT} {d:Option (Nat×Nat)}
 (v:ax s.box G i p=some (u,g,d)) (D:u.aQ=true) {f:FT} {s2:St} {b:Nat→Gh} {c':TV} {kl:TV→TV}
 (C:b=fun j=>if j=i then ⟨(G i).bg,bt x.ty (G i).ft p f⟩ else G j)
 (l:∀j,s2.box j=if j=i then some (x.with c') else (s.box j).map fun y=>y.with (kl y.c)):ia (ax s.box G) (ax s2.box b):=by
 subst C;intro c q t ft bd h;have z:bL x.ty (G i).ft ((G i).bg.map (·,0)) p=some (u,g,d):=by rw [←fR o];exact v
 by_cases e:i=c;subst e;rw [fR o] at h;have n:ax s2.box (fun j=>if j=i then ⟨(G i).bg,bt x.ty (G i).ft p f⟩ else G j) i q=bL x.ty (bt x.ty (G i).ft p f) ((G i).bg.map (·,0)) q:=by
  simp [ax,l,bl.with]
 rw [n];exact acm x.ty (G i).ft _ p q f D z h;have n:ax s2.box (fun j=>if j=i then ⟨(G i).bg,bt x.ty (G i).ft p f⟩ else G j) c q=ax s.box G c q:=by
  have r:¬c=i:=fun h=>e h.symm
  simp only [ax,l,r,cL];cases s.box c<;>rfl
 simp_all
structure hL (F:Fr) (G:Nat→Gh) (s:St) (w:World) (f:FT):Prop where
 b7:f.ae.Nodup
 out:∀b∈f.ae,∀j y,s.box j=some y→b∉(G j).ae
 bK:∀b∈f.ae,¬F.R b∧b<w.heap.size∧(b∈F.M∨F.w0.heap.size≤b)
structure iH (G:Nat→Gh) (s:St) (c:Nat→Gh) (d:St):Prop where
 sub:∀j y,d.box j=some y→∀b∈(c j).ae,∃i x,s.box i=some x∧b∈(G i).ae
theorem iH.refl:iH G s G s:=⟨fun j y h b c=>⟨j,y,h,c⟩⟩
theorem iH.trans {G1 c:Nat→Gh} {s1 s2:St} (h:iH G s G1 s1) (d:iH G1 s1 c s2):iH G s c s2:=
 ⟨fun j y l b e=>let ⟨i,x,g,f⟩:=d.sub j y l b e;h.sub i x g b f⟩
def pZ (G:Nat→Gh) (s:St) (f:FT):Prop:=∀b∈f.ae,∃i x,s.box i=some x∧b∈(G i).ae
theorem pZ.fj {c:Nat→Gh} {d:St} {f:FT} (h:iH G s c d) (l:pZ c d f):pZ G s f:=fun b e=>
 let ⟨j,y,n,g⟩:=l b e;h.sub j y n b g
theorem hL.fj {d:Nat→Gh} {e:St} {f:FT} (h:iH G s d e) (c:hL F G s w f):hL F d e w f:=
 ⟨c.b7,fun b g j y q l=>let ⟨i,x,o,n⟩:=h.sub j y q b l;c.out b g i x o n,c.bK⟩
theorem hL.dc {f g:FT} (e:hL F G s w f) (h:pZ G s g):∀b∈g.ae,b∉f.ae:=fun b c d=>
 let ⟨i,x,l,j⟩:=h b c;e.out b d i x l j
theorem hL.nil {f:FT} (h:f.ae=[]):hL F G s w f:=⟨by simp_all,fun b c=>(by rw [h] at c;cases c),fun b c=>(by rw [h] at c;cases c)⟩
theorem lv {i:Nat} {x:bl} (b:s.box i=some x) (c:TV) (p:aI) (j:Nat):
 ((s.b4 i {x with c:=c}).aw i p).box j=if j=i then some (x.with (c.aw i p)) else (s.box j).map fun y=>y.with (y.c.aw i p):=by
 rw [Rm,kP s i _ x b];by_cases e:j=i;subst e;simp [bl.aw,bl.with];simp only [fV e,cL,e];cases s.box j<;>rfl
theorem aA.move (h:aA F G s a w) {b:Nat} {p:aI} {x:bl} (D:s.box b=some x) (bh:x.dN=false) (a3:aI.dG p=false∨x.cm=true) {u:Ty} {U:FT} {Y:Option (Nat×Nat)} {cs:List Value} {t:Ty} {y:t.ai} (am:t.size=1) (a7:t.agg=false)
 (aq:ax s.box G b p=some (u,U,Y)) (aN:aW (ax s.box G) w F.R (.ab t y) u U cs) (ag:∀b o,Y=some (b,o)→At w b o u.size cs) {k:TV→Option ρ} {r:ρ} (aG:bO x.c p .un k=some r):
 ∃c' af,k c'=some r∧aA F af ((s.b4 b {x with c:=c'}).aw b p) a w∧hL F af ((s.b4 b {x with c:=c'}).aw b p) w U∧
  m5 b p (ax s.box G) (ax ((s.b4 b {x with c:=c'}).aw b p).box af)∧bb w t y U cs∧t=u∧
  iH G s af ((s.b4 b {x with c:=c'}).aw b p)∧pZ G s U:=by
 obtain ⟨c',hk,az⟩:=Mn b p x.c p .un k r aG
 let s2:=(s.b4 b {x with c:=c'}).aw b p
 let g:Nat→Gh:=fun j=>if j=b then ⟨(G b).bg,bt x.ty (G b).ft p .leaf⟩ else G j
 have z:bL x.ty (G b).ft ((G b).bg.map (·,0)) p=some (u,U,Y):=by rw [←fR D];exact aq
 have ah:m5 b p (ax s.box G) (ax s2.box g):=tF (kl:=fun v=>v.aw b p) D aq rfl (lv D c' p);obtain ⟨rfl,aR⟩:=aN;obtain ⟨s1,bn⟩:=gm _ _ _ _ z;have a5:=h.b7 b x D;have aQ:=h.bK b x D;simp only [Gh.ae,cn] at a5;obtain ⟨bm,X,aT⟩:=a5;obtain ⟨Z,a1,bf⟩:=(h.box b x D).fv;have a2:aW (ax s2.box g) w F.R (x.c.aw b p) x.ty (G b).ft Z:=aW.aw ah (fun _ _=>rfl) _ _ _ _ (fun _ _=>rfl) a1;refine ⟨c',g,hk,?_,?_,ah,aR,rfl,⟨fun j y O l J=>?_⟩,fun l J=>⟨b,x,D,by simp only [Gh.ae,aZ];exact .inr (s1 l J)⟩⟩;rotate_left 2;obtain ⟨_,an⟩:=FE x.ty (G b).ft _ p .leaf z X (by simp [FT.ae]) (fun b K=>by simp [FT.ae] at K);rw [lv D] at O;by_cases e:j=b;subst e;simp only [g,b5,Gh.ae,aZ] at J;refine ⟨j,x,D,?_⟩;simp only [Gh.ae,aZ];rcases J with C|C
 exact .inl C;rcases an l C with d|d
 simp [FT.ae] at d;exact .inr d.1;simp only [e,cL] at O;simp only [g,e,cL] at J;cases al:s.box j with
 |none=>rw [al] at O;cases O
 |some a8=>grind
 refine h.core D aq (fun v=>v.aw b p) rfl (x3 _ b p) (yT _ b p) (yU _ b p) (lv D c' p) (fun v y W=>VR.aw ah (fun _ _=>rfl) W) (fun c t ft cs aH aO=>aW.aw ah (fun _ _=>rfl) c t ft cs aH aO) ?_ (gj.refl _) (fun _ _ _=>rfl) (by simp [FT.ae]) (fun b K=>by simp [FT.ae] at K) (fun b K=>by simp [FT.ae] at K) (fun bd=>by simp_all);unfold dF;by_cases W:x.cm=true
 ·have I:=h.box b x D;unfold dF at I;rw [ak W] at I;have ay:=I.1;by_cases a6:p=[];rotate_left;rw [ak (show (x.with (c'.aw b p)).cm=true from W)];obtain ⟨aX,ac⟩:=I.2.1;have au:∃q o,Y=some (q,o):=by
   rw [ac] at z
   match p,z with
   |[],_=>exact absurd rfl a6
   | .f n::p,z=>simp [bL] at z
   | .i n::p,z=>
    generalize (G b).ft=aD at z
    match aD,z with
    | .leaf,d=>simp [bL] at d
    | .eQ _ _,d=>simp [bL] at d
    | .node none _ _,d=>simp [bL] at d
    | .node (some aY) cap bj,d=>
     simp only [bL] at d;split at d;obtain ⟨_,bo⟩:=gm _ _ _ _ d
     grind
     cases d
  obtain ⟨q,o,rfl⟩:=au;have ar:Wr w w q o t.size cs:=Wr.refl (ag q o rfl);have ad:aW (ax s2.box g) w F.R .un t .leaf cs:=⟨rfl,am,a7,by rw [(ag q o rfl).len,am]⟩;rw [ay] at z;obtain ⟨a9,aa,ap,aE,aF,a0⟩:=aW.set ar ad (x.c.aw b p) x.ty (G b).ft Z none p (fun c=>some c) (c'.aw b p) a2
   (fun l aU ao=>by cases ao) X z (az some) ⟨fun _ _ _ _=>rfl,acj _ _ _ _ z X (fun b o e=>by cases e),fun _ _=>rfl⟩
  obtain rfl:=bk ap;exact ⟨by simpa [g] using ay,I.2.1,aa,by
   change aW _ w F.R (c'.aw b p) x.ty (g b).ft aa
   grind⟩
  subst a6;rw [ak (show (x.with (c'.aw b [])).cm=true from W)];refine ⟨by simpa [g] using ay,I.2.1,Z,?_⟩;have aB:∀{σ:Type} (c v:TV) (k:TV→Option σ),bO c [] v k=k v:=by intro σ c v k;cases c<;>rfl
  have:=az some;rw [aB] at this;have ad:c'.aw b []=.un:=(bk this).symm;have aC:bt x.ty (G b).ft [] .leaf=.leaf:=by cases x.ty<;>rfl
  change aW _ w F.R (c'.aw b []) x.ty (g b).ft Z;rw [ad];simp only [g,b5,aC];have bi:x.ty=t:=by
   have ba:bL x.ty (G b).ft ((G b).bg.map (·,0)) []=some (x.ty,(G b).ft,(G b).bg.map (·,0)):=by cases x.ty<;>rfl
   simp_all
  obtain ⟨aX,ac⟩:=I.2.1;exact ⟨rfl,by rw [ac];rfl,by rw [ac];rfl,by rw [aW.len _ _ _ _ a1,ac];rfl⟩
 have a3:aI.dG p=false:=a3.resolve_right W;rw [aj (show ¬(x.with (c'.aw b p)).cm=true from W)];have I:=h.box b x D;unfold dF at I;rw [aj W] at I;obtain ⟨q,row,e,av,aK,aL,be⟩:=I;have au:∃o,Y=some (q,o):=by
  grind
 obtain ⟨o,rfl⟩:=au;have ar:Wr w w q o t.size cs:=Wr.refl (ag q o rfl);have aM:q∉(G b).ft.ae:=fun C=>aT q (by simp [av]) q C rfl
 have ad:aW (ax s2.box g) w F.R .un t .leaf cs:=⟨rfl,am,a7,by rw [(ag q o rfl).len,am]⟩;obtain ⟨a9,aa,ap,aE,aF,a0⟩:=aW.set ar ad (x.c.aw b p) x.ty (G b).ft Z ((G b).bg.map (·,0)) p (fun c=>some c) (c'.aw b p) a2
  (fun l aU ao=>by
   simp_all) X z (az some) ⟨fun _ _ _ _=>rfl,fun C=>aM (s1 q C),fun _ _=>rfl⟩
 obtain rfl:=bk ap;refine ⟨q,row,e,by simp [g,av],aK,aL,?_⟩;have aJ:=a0 q 0 (by rw [av];rfl);have aS:aa=row.toList:=by
  obtain ⟨mP,ao,bc,aV,an,rfl⟩:=aJ
  grind
 rw [←aS];change aW _ w F.R (c'.aw b p) x.ty (g b).ft aa
 grind
 have a4:∀l∈U.ae,l∈(G b).ae:=fun l K=>by simp only [Gh.ae,aZ];exact .inr (s1 l K)
 have aP:U.ae.Nodup:=aci _ _ _ _ z X;obtain ⟨aV,an⟩:=FE x.ty (G b).ft _ p .leaf z X (by simp [FT.ae]) (fun b K=>by simp [FT.ae] at K);refine ⟨aP,fun l J j y O C=>?_,fun l J=>aQ l (a4 l J)⟩;rw [lv D] at O;by_cases e:j=b;subst e;simp only [g,b5,Gh.ae,aZ] at C;rcases C with C|C
 grind
 rcases an l C with d|d
 simp [FT.ae] at d;exact d.2 J;simp only [e,cL] at O;cases al:s.box j with
 |none=>rw [al] at O;cases O
 |some a8=>
  simp only [g,e,cL] at C;exact h.dc b j x a8 D al (fV e) l (a4 l J) C
end
def eA (cs:List Value):Prop:=∀v∈cs,v.oneCell'=true
theorem uz {a b:List Value} (c:eA a) (d:eA b):eA (a++b):=fun v e=>(aZ.1 e).elim (c v) (d v)
theorem j4:∀(t:Ty) (x:t.ai),eA (bE t x)
 | .int _,_=>by intro v b;simp [bE] at b;subst b;rfl
 | .bool,_=>by intro v b;simp [bE] at b;subst b;rfl
 | .bP,_=>by intro v b;simp [bE] at b;subst b;rfl
 | .bG,_=>by intro v b;simp [bE] at b
 | .slice _,_=>by intro v b;simp [bE] at b
 | .unit,_=>by intro v b;simp [bE] at b
 | .cons t r,x=>uz (j4 t x.1) (j4 r x.2)
 | .arr _ t,xs=>by
  intro v b;have b:v∈((show List t.ai from xs).map (bE t)).flatten:=b;rw [List.mem_flatten] at b;obtain ⟨l,c,d⟩:=b;obtain ⟨y,_,e⟩:=b9.1 c;subst e;exact j4 t y v d
theorem Rd.eA {w:World} {R:Nat→Prop}:∀(t:Ty) (x:t.ai) (cs:List Value),Rd w R t x cs→eA cs
 | .int _,_,_,h=>by rw [h.2.2];exact j4 _ _
 | .bool,_,_,h=>by rw [h.2.2];exact j4 _ _
 | .bP,_,_,h=>by rw [h.2.2];exact j4 _ _
 | .bG,_,_,h=>h.elim
 | .unit,_,_,h=>by rw [h.2.2];exact j4 _ _
 | .arr _ _,_,_,h=>by rw [h.2.2];exact j4 _ _
 | .cons t r,x,cs,h=>by
  obtain ⟨c,d,rfl,e,f⟩:=h;exact uz (Rd.eA t x.1 c e) (Rd.eA r x.2 d f)
 | .slice t,xs,cs,h=>by
  obtain ⟨a,cap,rfl,_⟩:=h;intro v b;simp at b;subst b;rfl
theorem bb.eA {w:World}:∀(t:Ty) (x:t.ai) (ft:FT) (cs:List Value),bb w t x ft cs→eA cs
 | .int _,_,_,_,h=>by rw [h.2.2.2];exact j4 _ _
 | .bool,_,_,_,h=>by rw [h.2.2.2];exact j4 _ _
 | .bP,_,_,_,h=>by rw [h.2.2.2];exact j4 _ _
 | .bG,_,_,_,h=>h.elim
 | .unit,_,_,_,h=>by rw [h.2.2.2];exact j4 _ _
 | .arr _ _,_,_,_,h=>by rw [h.2.2.2];exact j4 _ _
 | .cons t r,x,ft,cs,h=>by
  obtain ⟨_,d,e,rfl,f,g⟩:=h;exact uz (bb.eA t x.1 _ d f) (bb.eA r x.2 _ e g)
 | .slice t,xs,ft,cs,h=>by
  obtain ⟨b,cap,j,_,rfl,_⟩:=h;intro v c;simp at c;subst c;rfl
theorem mH {v:Value} (h:v.oneCell'=true):eA [v]:=fun x b=>by simp_all
section
variable {ρ:Type} {F:Fr} {a:Act} {w:World}
theorem TT {A A':bY} {R:Nat→Prop} {b:Nat} {p:aI} (h:m5 b p A A'):
 (∀d e,bH A w R d e→bH A' w R (d.aw b p) e)∧(∀c t f cs,aW A w R c t f cs→aW A' w R (c.aw b p) t f cs):=
 ⟨fun d e j=>bH.aw h (fun _ _=>rfl) d e j,fun c t f cs g=>aW.aw h (fun _ _=>rfl) c t f cs (fun _ _=>rfl) g⟩
theorem acO:∀(b:List FT) (n:Nat),List.Sublist (FT.bq (b.take n)) (FT.bq b):=by
 intro b
 induction b with
 |nil=>simp_all
 |cons f b c=>
  intro n;cases n with
  |zero=>simp [FT.bq]
  |succ n=>
   simp only [List.take_succ_cons,FT.bq];simp_all
theorem UC (c:Option Nat) (cap:Nat) (b:List FT) (n:Nat):List.Sublist (FT.node c cap (b.take n)).ae (FT.node c cap b).ae:=by
 simp only [FT.ae];exact List.Sublist.append (List.Sublist.refl _) (acO b n)
structure tt (F:Fr) (G:Nat→Gh) (s:St) (a:Act) (w:World) (κ:TV→TV) (t:Ty) (cs:List Value) (b:Nat→Gh) (e:St) (c:TV) (f:FT):Prop where
 rel:aA F b e a w
 fv:aW (ax e.box b) w F.R c t f cs
 eH:hL F b e w f
 jU:pZ G s f
 fj:iH G s b e
 F4:∀d g,bH (ax s.box G) w F.R d g→bH (ax e.box b) w F.R (κ d) g
 cons:∀d t f cs,aW (ax s.box G) w F.R d t f cs→aW (ax e.box b) w F.R (κ d) t f cs
 vr:∀d y,VR (ax s.box G) w F.R d y→VR (ax e.box b) w F.R (κ d) y
 eA:eA cs
theorem tt.still {G:Nat→Gh} {s:St} (h:aA F G s a w) {t:Ty} {cs:List Value} {c:TV} {f:FT} (j:aW (ax s.box G) w F.R c t f cs) (g:f.ae=[]) (l:TM.eA cs):
 tt F G s a w id t cs G s c f:=
 ⟨h,j,.nil g,fun b e=>(by rw [g] at e;cases e),.refl,fun _ _ d=>d,fun _ _ _ _ d=>d,fun _ _ d=>d,l⟩
theorem oY:∀(t:Ty) (v:TV) (G:Nat→Gh) (s:St) (cs:List Value) (k:St→TV→(TV→TV)→Option ρ) (r:ρ),aA F G s a w→bH (ax s.box G) w F.R v cs→ct s t v k=some r→
 ∃Y am c f κ,k am c κ=some r∧tt F G s a w κ t cs Y am c f:=by
 intro t;have aj:∀(t u:Ty) (x:u.ai) (G:Nat→Gh) (s:St) (cs:List Value) (k:St→TV→(TV→TV)→Option ρ) (r:ρ),aA F G s a w→bH (ax s.box G) w F.R (.ad u x) cs→(if decide (u=t) then k s (.ad u x) id else none)=some r→
  ∃Y am c f κ,k am c κ=some r∧tt F G s a w κ t cs Y am c f:=by
  intro t u x G s cs k r h j g;split at g;rename_i e;have e:u=t:=eU e;exact ⟨G,s,_,.leaf,id,g,.still h ⟨e,rfl,j⟩ rfl (Rd.eA _ _ _ j)⟩;cases g
 induction t with
 |cons t u bd be=>
  intro v G s cs k r h j g;cases v with
  |cons x d=>
   simp only [ct] at g;obtain ⟨aE,ah,rfl,aS,aT⟩:=j;obtain ⟨G1,s1,bn,a1,bl,aU,D⟩:=bd x G s aE _ r h aS g;obtain ⟨aD,s2,bm,aG,bs,aV,C⟩:=be (bl d) G1 s1 ah _ r D.rel (D.F4 d ah aT) aU;have a2:hL F aD s2 w a1:=D.eH.fj C.fj;have aM:∀b∈aG.ae,b∉a1.ae:=D.eH.dc C.jU
   refine ⟨aD,s2,_,.eQ a1 aG,_,aV,C.rel,⟨rfl,aE,ah,rfl,aW.len _ _ _ _ D.fv,C.cons _ _ _ _ D.fv,C.fv⟩,⟨?_,?_,?_⟩,?_,D.fj.trans C.fj,fun e au al=>C.F4 _ _ (D.F4 e au al),fun e bj aQ au al=>C.cons _ _ _ _ (D.cons e bj aQ au al),fun d y J=>C.vr _ _ (D.vr d y J),uz D.eA C.eA⟩;simp only [FT.ae,cn];exact ⟨a2.b7,C.eH.b7,fun b l c aH e=>aM c aH (e▸l)⟩;intro b l;rcases aZ.1 l with l|l
   exact a2.out b l;exact C.eH.out b l;intro b l;rcases aZ.1 l with l|l
   exact a2.bK b l;exact C.eH.bK b l;intro b l;rcases aZ.1 l with l|l
   exact D.jU b l;exact (pZ.fj D.fj C.jU) b l
  |ad W x=>exact aj _ W x G s cs k r h j (by simpa [ct] using g)
  |_=>simp [ct] at g
 |slice t _=>
  intro v G s cs k r h j g;cases v with
  |nil=>
   simp only [ct] at g;obtain rfl:=j;exact ⟨G,s,_,.node none 0 [],id,g,.still h ⟨rfl,none,0,[],rfl,rfl,cf _,by simp [eZ],rfl,rfl⟩ rfl (mH rfl)⟩
  |ad W x=>exact aj _ W x G s cs k r h j (by simpa [ct] using g)
  |sl b p=>
   simp only [ct] at g;split at g;rename_i J;refine ⟨G,s,.sl b p,.leaf,id,g,.still h ⟨rfl,rfl,rfl,j⟩ rfl ?_⟩;obtain ⟨aK,K,cap,U,a',_,rfl⟩:=j;exact mH rfl;rename_i J;unfold b6 at g;split at g;rename_i x O;have J:aI.dG p=false∨x.cm=true:=by
    cases aY:aI.dG p;exact .inl rfl;right;simp only [aY,mZ,hn,Bool.not_eq_false] at J;unfold St.ha at J;simp_all
   obtain ⟨av,a5,a4⟩:=(h.box b x O).fv;obtain ⟨c',u,aR,a',aF,I,ak,ay,a0⟩:=aW.get x.c x.ty (G b).ft av ((G b).bg.map (·,0)) p _ r a5 (fun q o e=>(a4 q o e).1) g;split at I;rename_i bk y;split at I;cases I;rename_i X;simp only [fc,hn,rK,gQ,rA,jF] at X;obtain ⟨X,rfl⟩:=X;obtain ⟨ah,Y,aB,ar,af,ac,ag,rfl,aq,an⟩:=h.move O X J rfl rfl (by rw [fR O];exact ak) ay a0 I;obtain ⟨aK,K,cap,U,aL,Z,rfl⟩:=j;rw [fR O,ak] at Z;simp only [az,aO] at Z;obtain ⟨_,rfl,_⟩:=Z;have aX:aF=[.slice (K.map (⟨·,0,none⟩)) U.length cap]:=by
    obtain ⟨aN,aP,bf,aC,bh,_,_,bi,_⟩:=ag;simp_all
   rw [aX] at ag;obtain ⟨ao,ap⟩:=TT (w:=w) (R:=F.R) ac;exact ⟨Y,_,_,_,_,aB,ar,⟨rfl,ag⟩,af,an,aq,ao,ap,fun d y J=>VR.aw ac (fun _ _=>rfl) J,mH rfl⟩;cases I;cases g
  |slw b p lo n=>
   simp only [ct] at g;split at g;cases g;rename_i aJ;simp only [fc,gQ,jF,Bool.not_eq_false'] at aJ;obtain ⟨J,a7⟩:=aJ;have a7:lo=0:=fe (by simpa using a7);subst a7;unfold b6 at g;split at g;rename_i x O;obtain ⟨av,a5,a4⟩:=(h.box b x O).fv;obtain ⟨c',u,aR,a',aF,I,ak,ay,a0⟩:=aW.get x.c x.ty (G b).ft av ((G b).bg.map (·,0)) p _ r a5 (fun q o e=>(a4 q o e).1) g;split at I;rename_i bk y;split at I;cases I;rename_i X;have X:x.dN=false:=by simpa using X
   split at I;rename_i z bb;obtain ⟨al,a9⟩:=e4 bb;subst al;have a9:y=z:=a9;subst a9;obtain ⟨ah,Y,aB,ar,af,ac,ag,rfl,aq,an⟩:=h.move O X (.inl J) rfl rfl (by rw [fR O];exact ak) ay a0 I;obtain ⟨aK,K,cap,U,aL,Z,bo,a3,ab,rfl,⟨aH,bc⟩,_⟩:=j;rw [fR O,ak] at Z;simp only [az,aO] at Z;obtain ⟨_,rfl,_⟩:=Z;obtain ⟨rfl,rfl⟩:=bc rfl;obtain ⟨aN,aP,bf,aC,bh,bi,bp,bq,br⟩:=ag;simp only [FT.node.injEq] at aC;obtain ⟨rfl,rfl,rfl⟩:=aC;have a8:∀q∈(FT.node K ab (U.take n)).ae,q∈(FT.node K ab U).ae:=fun q aa=>(UC K ab U n).subset aa
   have a6:List.length (α:=t.ai) (List.take (α:=t.ai) n y)=n:=by
    grind
   obtain ⟨ao,ap⟩:=TT (w:=w) (R:=F.R) ac;refine ⟨Y,_,_,.node K ab (U.take n),_,aB,ar,⟨rfl,K,ab,U.take n,rfl,?_,?_,?_,?_,?_⟩,⟨?_,fun q aa=>af.out q (a8 q aa),fun q aa=>af.bK q (a8 q aa)⟩,fun q aa=>an q (a8 q aa),aq,ao,ap,fun d y J=>VR.aw ac (fun _ _=>rfl) J,mH rfl⟩;rw [a6];rw [a6];omega;rw [a6];omega;simp_all
   grind
   have ba:=af.b7;exact List.Nodup.sublist (UC K ab U n) ba;cases I;cases I;cases g
  |_=>simp [ct] at g
 |unit=>
  intro v G s cs k r h j g;cases v with
  |unit=>exact ⟨G,s,.unit,.leaf,id,by simpa [ct] using g,.still h ⟨rfl,rfl,j⟩ rfl (by rw [show cs=[] from j];intro v j;cases j)⟩
  |ad W x=>exact aj _ W x G s cs k r h j (by simpa [ct] using g)
  |_=>simp [ct] at g
 |bG=>
  intro v G s cs k r h j g;cases v with
  |ad W x=>exact aj _ W x G s cs k r h j (by simpa [ct] using g)
  |ref b p=>
   refine ⟨G,s,.ref b p,.leaf,id,by simpa [ct] using g,.still h ⟨rfl,rfl,rfl,j⟩ rfl ?_⟩;obtain ⟨_,_,_,_,_,rfl⟩:=j;exact mH rfl
  |bw u x=>
   refine ⟨G,s,.bw u x,.leaf,id,by simpa [ct] using g,.still h ⟨rfl,rfl,rfl,j⟩ rfl ?_⟩;obtain ⟨_,_,_,rfl,_⟩:=j;exact mH rfl
  |bV f c=>
   refine ⟨G,s,.bV f c,.leaf,id,by simpa [ct] using g,.still h ⟨rfl,rfl,rfl,j⟩ rfl ?_⟩;obtain ⟨_,_,rfl⟩:=j;exact mH rfl
  |mp b=>
   refine ⟨G,s,.mp b,.leaf,id,by simpa [ct] using g,.still h ⟨rfl,rfl,rfl,j⟩ rfl ?_⟩;obtain ⟨_,_,_,_,_,_,rfl⟩:=j;exact mH rfl
  |_=>simp [ct] at g
 |_=>
  intro v G s cs k r h j g;cases v with
  |ad W x=>exact aj _ W x G s cs k r h j (by simpa [ct] using g)
  |_=>simp [ct] at g
end
theorem VP (w:World) (b o:Nat) (v:Value) (c:Nat):(w.setCell ⟨b,o,none⟩ v).heap[c]?=if b=c then (w.heap[c]?).map (fun x=>match x with
 | .cells cs elem fz=>.cells (cs.setIfInBounds o v) elem fz
 |x=>x) else w.heap[c]?:=by
 simp only [World.setCell,Array.getElem?_modify]
 grind
theorem Mt (b:Nat):∀(vs:List Value) (o:Nat) (w:World),(w.setCells b o vs).heap.size=w.heap.size
 |[],_,_=>rfl
 |v::r,o,w=>by rw [World.setCells,Mt b r (o+1)];simp
theorem Mp (b:Nat):∀(vs:List Value) (o:Nat) (w:World),(w.setCells b o vs).os=w.os
 |[],_,_=>rfl
 |v::vs,o,w=>by
  show ((w.setCell ⟨b,o,none⟩ v).setCells b (o+1) vs).os=w.os;rw [Mp b vs (o+1)];rfl
theorem Mr (b:Nat):∀(vs:List Value) (o:Nat) (w:World),(w.setCells b o vs).output=w.output
 |[],_,_=>rfl
 |v::vs,o,w=>by
  show ((w.setCell ⟨b,o,none⟩ v).setCells b (o+1) vs).output=w.output;rw [Mr b vs (o+1)];rfl
theorem Mq (b:Nat):∀(vs:List Value) (o:Nat) (w:World) (c:Nat),c≠b→(w.setCells b o vs).heap[c]?=w.heap[c]?
 |[],_,_,_,_=>rfl
 |v::r,o,w,c,h=>by rw [World.setCells,Mq b r (o+1) _ c h,VP,aj (fV h)]
theorem Ms (b:Nat):∀(vs:List Value) (o:Nat) (w:World) (row:Array Value) (e:TypeId) (fz:Nat×Nat),w.heap[b]?=some (.cells row e fz)→o+vs.length≤row.size→
 ∃c,(w.setCells b o vs).heap[b]?=some (.cells c e fz)∧c.toList=row.toList.take o++vs++row.toList.drop (o+vs.length)
 |[],o,w,row,e,fz,h,d=>⟨row,h,by simp⟩
 |v::r,o,w,row,e,fz,h,d=>by
  have f:(w.setCell ⟨b,o,none⟩ v).heap[b]?=some (.cells (row.setIfInBounds o v) e fz):=by
   rw [VP,ak rfl,h];rfl
  have q:o+(r.length+1)≤row.toList.length:=by simpa using d
  have u:o+(r.length+1)≤row.size:=by simpa using d
  obtain ⟨c,g,j⟩:=Ms b r (o+1) _ _ e fz f (by simp;omega);refine ⟨c,g,?_⟩;rw [j];simp only [Array.toList_setIfInBounds,hH];have l:o<row.toList.length:=by omega
  rw [List.take_set,List.drop_set];rw [ak (by omega)];have x:(row.toList.take (o+1)).set o v=row.toList.take o++[v]:=by
   rw [List.take_succ_eq_append_getElem l];have n:(row.toList.take o).length=o:=by grind
   simp_all
  grind
theorem anD {w:World} {b o n:Nat} {row:Array Value} {e:TypeId} {cs:List Value} (h:w.heap[b]?=some (.cells row e (0,0))) (c:o+n≤row.size) (g:cs.length=n):
 Wr w (w.setCells b o cs) b o n cs:=by
 subst g;obtain ⟨j,d,f⟩:=Ms b cs o w row e (0,0) h c;exact ⟨rfl,row,j,e,(0,0),h,d,c,f⟩
theorem al2 {w:World} {b o n:Nat} {row:Array Value} {e:TypeId} (h:w.heap[b]?=some (.cells row e (0,0))) (d:o+n≤row.size):w.there b o n:=by
 intro j c;constructor;have:(w.cell? ⟨b,o+j,none⟩)=row[o+j]?:=by simp [World.cell?,h]
 grind
 simp [World.frozen?,h]
theorem Vu {w:World} {b o n:Nat} {cs:List Value} (h:At w b o n cs):w.rangeAt b o cs:=by
 intro j v d;obtain ⟨row,e,fz,c,g,rfl⟩:=h;have f:=(bR.1 d).1;simp at f;have:(w.cell? ⟨b,o+j,none⟩)=row[o+j]?:=by simp [World.cell?,c]
 grind
theorem bb.q3 {w:World}:∀(t:Ty) (x:t.ai) (ft:FT) (cs:List Value) (a:Option (Nat×Nat)) (p:aI) {u:Ty} {l:FT} {j off:Nat},
 bb w t x ft cs→(∀b o,a=some (b,o)→l7 w b o t.size)→bL t ft a p=some (u,l,some (j,off))→l7 w j off u.size:=by
 intro t;have aj:∀(t:Ty) (ft:FT) (a:Option (Nat×Nat)) {u:Ty} {l:FT} {j off:Nat},(∀b o,a=some (b,o)→l7 w b o t.size)→bL t ft a []=some (u,l,some (j,off))→l7 w j off u.size:=by
  intro t ft a u l j off v g;have e:bL t ft a []=some (t,ft,a):=by cases t<;>rfl
  simp_all
 induction t with
 |cons t r K Y=>
  intro x ft cs a p u l j off h v g
  match p,g with
  |[],g=>grind
  | .i n::p,g=>simp [bL] at g
  | .f 0::p,g=>
   obtain ⟨_,O,U,rfl,D,I⟩:=h;exact K x.1 _ O a p D (fun b o e=>let ⟨row,z,y,C⟩:=v b o e;⟨row,z,y,by simp only [Ty.size] at C;omega⟩) g
  | .f (n+1)::p,g=>
   obtain ⟨_,O,U,rfl,D,I⟩:=h;refine Y x.2 _ U (a.map fun (x:Nat×Nat)=>(x.1,x.2+t.size)) (.f n::p) I (fun b o e=>?_) (by simpa only [bL] using g);cases a with
   |none=>cases e
   |some a=>
    simp only [cx,az,aO] at e;obtain ⟨rfl,rfl⟩:=e;obtain ⟨row,z,y,C⟩:=v _ _ rfl;exact ⟨row,z,y,by simp only [Ty.size] at C;omega⟩
 |slice t K=>
  intro x ft cs a p u l j off h v g
  match p,g with
  |[],g=>grind
  | .f n::p,g=>simp [bL] at g
  | .i n::p,g=>
   obtain ⟨b,cap,ah,rfl,rfl,D,I,ac,h4⟩:=h;cases b with
   |none=>simp [bL] at g
   |some b=>
    simp only [bL] at g;split at g;rename_i kn hk;have J:n<List.length (α:=t.ai) x:=by grind
    have X:(show List t.ai from x)[n]?=some ((show List t.ai from x)[n]'J):=aT J;obtain ⟨c,ae,W⟩:=h4.2 n _ kn X hk;refine K _ kn c (some (b,n*t.size)) p W (fun aa ak e=>?_) g;simp only [az,aO] at e;obtain ⟨rfl,rfl⟩:=e;obtain ⟨⟨row,e,y,C⟩,_⟩:=h4;refine ⟨row,e,y,?_⟩;have:=ke t.size (Nat.le_trans (u7 J) D)
    grind
    cases g
 |arr m t _=>
  intro x ft cs a p u l j off h v g
  match p,g with
  |[],g=>grind
  | .f n::p,g=>simp [bL] at g
  | .i n::q::p,g=>simp [bL] at g
  |[.i n],g=>
   obtain ⟨_,Z⟩:=gm _ _ _ _ g;rcases Z with ⟨ab,al,e0,ag,_⟩|⟨d,e0,af⟩
   have ad:=h.2.2.1;simp_all;cases a with
   |none=>cases e0
   |some a=>
    simp only [cx,az,aO] at e0;obtain ⟨rfl,rfl⟩:=e0;obtain ⟨row,z,y,C⟩:=v _ _ rfl;exact ⟨row,z,y,by omega⟩
 |_=>
  intro x ft cs a p u l j off h v g;cases p with
  |nil=>grind
  |cons q p=>simp [bL] at g
theorem aW.q3 {A:bY} {w:World} {R:Nat→Prop}:∀(c:TV) (t:Ty) (ft:FT) (cs:List Value) (a:Option (Nat×Nat)) (p:aI) {u:Ty} {z:FT} {l off:Nat},
 aW A w R c t ft cs→(∀b o,a=some (b,o)→l7 w b o t.size)→bL t ft a p=some (u,z,some (l,off))→l7 w l off u.size:=by
 have nb:∀(t:Ty) (ft:FT) (a:Option (Nat×Nat)) (p:aI) {u:Ty} {z:FT} {l off:Nat},ft.ae=[]→(∀b o,a=some (b,o)→l7 w b o t.size)→bL t ft a p=some (u,z,some (l,off))→l7 w l off u.size:=by
  intro t ft a p u z l off Z j g;obtain ⟨_,ar⟩:=gm _ _ _ _ g;rcases ar with ⟨C,K,e0,J,_⟩|⟨d,e0,ay⟩
  rw [Z] at J;cases J;cases a with
  |none=>cases e0
  |some a=>
   simp only [cx,az,aO] at e0;obtain ⟨rfl,rfl⟩:=e0;obtain ⟨row,D,O,U⟩:=j _ _ rfl;exact ⟨row,D,O,by omega⟩
 intro c
 induction c with
 |ab u x=>intro t ft cs a p u z l off h j g;obtain ⟨rfl,h⟩:=h;exact bb.q3 _ _ _ _ _ _ h j g
 |cons c d ao ap=>
  intro t ft cs a p u z l off h j g;cases t<;>try exact h.elim
  rename_i t r;obtain ⟨_,af,ag,rfl,a0,I,aa⟩:=h
  match p,g with
  |[],g=>
   simp only [bL,az,aO] at g;simp_all
  | .i n::p,g=>simp [bL] at g
  | .f 0::p,g=>exact ao _ _ af a p I (fun b o e=>let ⟨row,D,O,U⟩:=j b o e;⟨row,D,O,by simp only [Ty.size] at U;omega⟩) g
  | .f (n+1)::p,g=>
   refine ap _ _ ag (a.map fun (x:Nat×Nat)=>(x.1,x.2+t.size)) (.f n::p) aa (fun b o e=>?_) (by simpa only [bL] using g);cases a with
   |none=>cases e
   |some a=>
    simp only [cx,az,aO] at e;obtain ⟨rfl,rfl⟩:=e;obtain ⟨row,D,O,U⟩:=j _ _ rfl;exact ⟨row,D,O,by simp only [Ty.size] at U;omega⟩
 |ad v y=>intro t ft cs a p u z l off h j g;exact nb _ _ _ _ h.2.1 j g
 |unit=>intro t ft cs a p u z l off h j g;exact nb _ _ _ _ h.2.1 j g
 |un=>intro t ft cs a p u z l off h j g;exact nb _ _ _ _ h.1 j g
 |tup c _=>
  intro t ft cs a p u z l off h j g;cases t<;>try exact h.elim
  rename_i t;rcases gk.out h with ⟨xs,Y,rfl,b,cap,aq,rfl,rfl,I,aa,ai,h4,h5⟩|⟨_,rfl,I⟩|⟨_,rfl,b,cap,aq,rfl,Z,_,I,_,ai,⟨row,e,W,X⟩,_⟩
  rotate_left;obtain ⟨av,aw,rfl,_⟩:=I.out
  match p,g with
  |[],g=>
   simp only [bL,az,aO] at g;simp_all
  | .f n::p,g=>simp [bL] at g
  | .i n::p,g=>simp [bL] at g
  match p,g with
  |[],g=>
   simp only [bL,az,aO] at g;simp_all
  | .f n::p,g=>simp [bL] at g
  | .i n::p,g=>
   simp only [bL] at g;split at g;rename_i kn hk;have ak:kn.ae=[]:=zc.2 fun au aj=>by
    have:=fi (cS hk) aj;simp_all
   have al:=(bR.1 hk).1;refine nb _ _ _ _ ak (fun C K e0=>?_) g;simp only [az,aO] at e0;obtain ⟨rfl,rfl⟩:=e0;refine ⟨row,e,W,?_⟩;rw [←X];have:=ke t.size (show n+1≤cap by omega)
   grind
   cases g
  match p,g with
  |[],g=>
   simp only [bL,az,aO] at g;simp_all
  | .f n::p,g=>simp [bL] at g
  | .i n::p,g=>
   cases b with
   |none=>simp [bL] at g
   |some b=>
    simp only [bL] at g;split at g;rename_i kn hk;have al:=(bR.1 hk).1;obtain ⟨⟨row,e,W,X⟩,ah⟩:=h5;obtain ⟨q,ax,an,am⟩:=ah n _ kn _ (aT (show n<xs.length by omega)) hk (aT (show n<Y.length by omega));have J:∀C K,some (b,n*t.size)=some (C,K)→l7 w C K t.size:=fun C K e0=>by
     simp only [az,aO] at e0;obtain ⟨rfl,rfl⟩:=e0;refine ⟨row,e,W,?_⟩;rw [←X];have:=ke t.size (show n+1≤cap by omega)
     grind
    cases ac:Y[n]'(by omega);exact bb.q3 _ _ _ _ _ _ (an ac) J g;exact nb _ _ _ _ (ew.nil _ _ _ _ (am ac)) J g;cases g
 |nil=>intro t ft cs a p u z l off h j g;exact nb _ _ _ _ h.2.2.1 j g
 |ref _ _=>intro t ft cs a p u z l off h j g;exact nb _ _ _ _ h.2.2.1 j g
 |sl _ _=>intro t ft cs a p u z l off h j g;exact nb _ _ _ _ h.2.2.1 j g
 |slw _ _ _ _=>intro t ft cs a p u z l off h j g;exact nb _ _ _ _ h.2.2.1 j g
 |bw _ _=>intro t ft cs a p u z l off h j g;exact nb _ _ _ _ h.2.2.1 j g
 |bV _ _ _=>intro t ft cs a p u z l off h j g;exact nb _ _ _ _ h.2.2.1 j g
 |mp _=>intro t ft cs a p u z l off h j g;exact nb _ _ _ _ h.2.2.1 j g
section
variable {ρ:Type} {F:Fr} {G:Nat→Gh} {s:St} {a:Act} {w:World}
theorem DZ {i:Nat} {x:bl} (b:s.box i=some x) (c:TV) (j:Nat):
 (s.b4 i {x with c:=c}).box j=if j=i then some (x.with c) else (s.box j).map fun y=>y.with y.c:=by
 rw [kP s i _ x b];by_cases e:j=i;subst e;simp [bl.with];simp only [fV e,cL,e];cases s.box j<;>rfl
theorem aA.q3 (h:aA F G s a w) {b:Nat} {p:aI} {u:Ty} {j:FT} {d off:Nat} (c:ax s.box G b p=some (u,j,some (d,off))):l7 w d off u.size:=by
 unfold ax at c;split at c;rename_i x r;have n:=h.box b x r;obtain ⟨z,q,o⟩:=n.fv;refine aW.q3 _ _ _ _ _ _ q (fun f v e=>?_) c;obtain ⟨l,row,g,y,C,rfl⟩:=o f v e;exact ⟨row,g,y,by have:=l.len;grind⟩;cases c
theorem aA.XW (h:aA F G s a w) {b:Nat} {p:aI} {x:bl} (O:s.box b=some x) {u:Ty} {J f:FT} {l off:Nat} {cs:List Value} {c:TV}
 (ag:ax s.box G b p=some (u,J,some (l,off))) (z:aW (ax s.box G) w F.R c u f cs) (ac:hL F G s w f)
 (kl:TV→TV) (s2:St) (c':TV)
 (aY:∀n,s2.get n=kl (s.get n)) (be:∀i n,s2.gy i n=kl (s.gy i n)) (ba:s2.sv.length=s.sv.length) (ai:∀j,s2.box j=if j=b then some (x.with (kl c')) else (s.box j).map fun y=>y.with (kl y.c))
 (aH:∀(A':bY) (w':World),(A'=ax s2.box (fun j=>if j=b then ⟨(G b).bg,bt x.ty (G b).ft p f⟩ else G j))→(∀b,F.R b→w'.heap[b]?=w.heap[b]?)→∀v y,VR (ax s.box G) w F.R v y→VR A' w' F.R (kl v) y)
 (ah:∀(A':bY) (w':World),(A'=ax s2.box (fun j=>if j=b then ⟨(G b).bg,bt x.ty (G b).ft p f⟩ else G j))→(∀b,F.R b→w'.heap[b]?=w.heap[b]?)→
  ∀c t ft cs,(∀b∈ft.ae,w'.heap[b]?=w.heap[b]?)→aW (ax s.box G) w F.R c t ft cs→aW A' w' F.R (kl c) t ft cs)
 (aG:∀{σ:Type} (k':TV→Option σ),bO (kl x.c) p (kl c) k'=k' (kl c')):
 aA F (fun j=>if j=b then ⟨(G b).bg,bt x.ty (G b).ft p f⟩ else G j) s2 a (w.setCells l off cs):=by
 have C:bL x.ty (G b).ft ((G b).bg.map (·,0)) p=some (u,J,some (l,off)):=by rw [←fR O];exact ag
 obtain ⟨s1,aC⟩:=gm _ _ _ _ C;have a5:=h.b7 b x O;have br:=h.bK b x O;simp only [Gh.ae,cn] at a5;obtain ⟨bs,a9,bu⟩:=a5;obtain ⟨a1,aU,aP⟩:=(h.box b x O).fv;have am:l∈(G b).ae:=by
  simp only [Gh.ae,aZ];rcases aC with ⟨aw,bi,e0,I,_⟩|⟨d,e0,_⟩
  simp_all;cases ai:(G b).bg with
  |none=>rw [ai] at e0;cases e0
  |some aw=>simp_all
 obtain ⟨row,e,bj,bm⟩:=h.q3 ag;have bb:=aW.len _ _ _ _ z;have a3:Wr w (w.setCells l off cs) l off u.size cs:=anD bj bm bb;have X:∀c,c≠l→(w.setCells l off cs).heap[c]?=w.heap[c]?:=fun c z=>Mq l cs off w c z
 have ad:∀c,F.R c→(w.setCells l off cs).heap[c]?=w.heap[c]?:=fun c z=>X c (fun e=>h.ro O z (e▸am))
 have bc:l∉f.ae:=fun I=>ac.out l I b x O am
 have a6:(w.setCells l off cs).heap.size=w.heap.size:=Mt _ _ _ _;have bd:l∉J.ae:=by
  rcases aC with ⟨aw,bi,e0,I,_⟩|⟨d,e0,_⟩
  simp only [az,aO] at e0;obtain ⟨rfl,rfl⟩:=e0;have:∀(t:Ty) (ft:FT) (a:Option (Nat×Nat)) (p:aI) {u:Ty} {J:FT} {l off:Nat},bL t ft a p=some (u,J,some (l,off))→ft.ae.Nodup→(∀b o,a=some (b,o)→b∉ft.ae)→l∉J.ae:=by
   intro t
   induction t with
   |cons t r ap bf=>
    intro ft a p u J l off g D W;have h4:ft.fst.ae.Nodup∧ft.snd.ae.Nodup:=by
     cases ft with
     |eQ a d=>simp only [FT.ae,cn] at D;exact ⟨D.1,D.2.1⟩
     |_=>simp [FT.fst,FT.snd,FT.ae]
    match p,g with
    |[],g=>simp only [bL,az,aO] at g;grind
    | .f 0::p,g=>exact ap _ _ _ g h4.1 (fun b o e I=>W b o e (jv I))
    | .f (n+1)::p,g=>
     refine bf _ _ _ g h4.2 (fun b o e I=>?_);cases a with
     |none=>cases e
     |some a=>simp only [cx,az,aO] at e;obtain ⟨rfl,rfl⟩:=e;exact W _ _ rfl (jD I)
    | .i n::p,g=>simp [bL] at g
   |slice t ap=>
    intro ft a p u J l off g D W
    match p,g with
    |[],g=>simp only [bL,az,aO] at g;grind
    | .f n::p,g=>simp [bL] at g
    | .i n::p,g=>
     match ft,g,D with
     | .leaf,g,_=>simp [bL] at g
     | .eQ _ _,g,_=>simp [bL] at g
     | .node none _ _,g,_=>simp [bL] at g
     | .node (some b) cap bh,g,D=>
      simp only [bL] at g;split at g;rename_i kn hk;simp only [FT.ae,fW,g5,jJ] at D;refine ap _ _ _ g (qF hk D.2).1 (fun Z ar e I=>?_);simp only [az,aO] at e;obtain ⟨rfl,rfl⟩:=e;exact D.1 (fi (cS hk) I);cases g
   |arr m t _=>
    intro ft a p u J l off g D W
    match p,g with
    |[],g=>simp only [bL,az,aO] at g;grind
    | .f n::p,g=>simp [bL] at g
    | .i n::q::p,g=>simp [bL] at g
    |[.i n],g=>
     simp only [bL] at g;split at g;cases g;simp only [az,aO] at g;obtain ⟨_,rfl,_⟩:=g;simp [FT.ae]
   |_=>
    intro ft a p u J l off g D W;cases p with
    |nil=>simp only [bL,az,aO] at g;grind
    |cons q p=>simp [bL] at g
  exact this _ _ _ _ C a9 (fun Z ar e I=>by
   cases al:(G b).bg with
   |none=>rw [al] at e;cases e
   |some ay=>grind)
  cases al:(G b).bg with
  |none=>simp_all
  |some ay=>
   grind
 let av:Nat→Gh:=fun j=>if j=b then ⟨(G b).bg,bt x.ty (G b).ft p f⟩ else G j
 have aV:aW (ax s2.box av) w F.R (kl x.c) x.ty (G b).ft a1:=ah _ w rfl (fun _ _=>rfl) _ _ _ _ (fun _ _=>rfl) aU;have aS:aW (ax s2.box av) (w.setCells l off cs) F.R (kl c) u f cs:=ah _ _ rfl ad _ _ _ _ (fun c z=>X c (fun e=>bc (e▸z))) z;obtain ⟨bn,aD,aE,af,bp,aF⟩:=aW.set a3 aS (kl x.c) x.ty (G b).ft a1 ((G b).bg.map (·,0)) p (fun c=>some c) (kl c') aV
  (fun Z ar a2=>by
   obtain ⟨aK,_⟩:=aP Z ar a2;refine ⟨aK,fun I=>?_,fun ao=>X Z ao⟩;cases al:(G b).bg with
   |none=>simp_all
   |some ay=>grind)
  a9 C (aG _) ⟨fun c _ _ ao=>X c ao,bd,ad⟩
 obtain rfl:=bk aE;refine h.core O ag kl rfl aY be ba ai (fun v y U=>aH _ _ rfl ad v y U) (fun c t ft cs aJ aT=>ah _ _ rfl ad c t ft cs aJ aT) ?_ ⟨Nat.le_of_eq a6.symm,Mp _ _ _ _,Mr _ _ _ _⟩ (fun c _ z=>X c (fun e=>z (e▸am))) ac.b7 (fun c z=>.inr (ac.out c z)) (fun c z=>by rw [a6];exact ac.bK c z) (fun _ U=>by
  have K:=h.box b x O;unfold dF at K;rw [ak U] at K;obtain ⟨aR,⟨bv,a7⟩,_⟩:=K;rw [aR,a7] at C;rw [a7];cases p with
  |nil=>simp [bL] at C
  |cons q p=>
   cases q with
   |f n=>simp [bL] at C
   |i n=>
    cases an:(G b).ft with
    |leaf=>rw [an] at C;simp [bL] at C
    |eQ _ _=>rw [an] at C;simp [bL] at C
    |node a0 cap bh=>
     cases a0 with
     |none=>rw [an] at C;simp [bL] at C
     |some a0=>
      simp only [bt];split<;>simp [FT.dz])
 unfold dF;have K:=h.box b x O;unfold dF at K;by_cases U:x.cm=true;rw [ak (show (x.with (kl c')).cm=true from U)];rw [ak U] at K;exact ⟨by simpa using K.1,K.2.1,aD,by simp only [b5];exact af⟩;rw [aj (show ¬(x.with (kl c')).cm=true from U)];rw [aj U] at K;obtain ⟨aa,aB,e0,a4,aM,aN,bq⟩:=K;have aL:=aF aa 0 (by rw [a4];rfl);obtain ⟨mP,a2,bo,au,w2,rfl⟩:=aL;have aX:∃Y ab,(w.setCells l off cs).heap[aa]?=some (.cells Y ab (0,0))∧Y.size=aB.size:=by
  by_cases aQ:aa=l;subst aQ;obtain ⟨Y,ab,aq,a8⟩:=a3.bI ⟨aB,e0,aM,rfl⟩
  grind
  grind
 obtain ⟨Y,ab,aq,a8⟩:=aX;rw [aq] at au;simp only [az,Obj.cells.injEq] at au;obtain ⟨rfl,rfl,rfl⟩:=au;refine ⟨aa,Y,ab,by simp [a4],aq,by rw [a8];exact aN,?_⟩;simp only [b5];rw [jH,List.take_of_length_le (by simp;omega)] at af;exact af
end
def fb:Ty→List Value
 | .int k=>[.int k 0]
 | .bool=>[.bool false]
 | .bP=>[.string ⟨#[]⟩]
 | .bG=>[.pointer none]
 | .slice _=>[.slice none 0 0]
 | .unit=>[]
 | .cons t r=>fb t++fb r
 | .arr n t=>(List.replicate n (fb t)).flatten
def Ki:Value→Value→Bool
 | .int k n,.int k' d=>decide (k=k')&&decide (n=d)
 | .bool b,.bool c=>b==c
 | .string s,.string e=>decide (s.data.toList=e.data.toList)
 | .slice none 0 0,.slice none 0 0=>true
 |_,_=>false
def tO:List Value→List Value→Bool
 |[],[]=>true
 |a::l,b::r=>Ki a b&&tO l r
 |_,_=>false
theorem ac0:∀{a b:Value},Ki a b=true→a=b:=by
 intro a b h;unfold Ki at h;split at h;simp_all;simp at h;rw [h];rename_i s c;have:s.data.toList=c.data.toList:=by simpa using h
 obtain ⟨⟨l⟩⟩:=s;simp_all;rfl;cases h
theorem SY:∀{a b:List Value},tO a b=true→a=b
 |[],[],_=>rfl
 |a::l,b::r,h=>by
  simp only [tO,bp] at h;rw [ac0 h.1,SY h.2]
 |[],_::_,h=>by simp [tO] at h
 |_::_,[],h=>by simp [tO] at h
def EA:Value→Bool
 | .agg _=>true
 |_=>false
def kT (P:Program) (T:Ty) (t:TypeId):Bool:=
 match P.info? t with
 |some i=>i.size==T.size&&decide (i.bytes≤4096∧(T.size=0∨1≤i.bytes))&&(!T.fY||(match i.zero with
  |some z=>tO z.cells.toList (fb T)&&(EA z==T.agg)
  |none=>false))&&(!decide (T=.bG)||(match i.zero with
  |some z=>z.cells.toList.length==1
  |none=>false))
 |none=>false
mutual
def dS (P:Program):Ty→TypeId→Bool
 | .int k,t=>kT P (.int k) t&&(match P.underlying t with
  |some (.int k')=>decide (k=k')
  |_=>false)
 | .bool,t=>kT P .bool t&&(match P.underlying t with
  |some .bool=>true
  |_=>false)
 | .bP,t=>kT P .bP t&&(match P.underlying t with
  |some .string=>true
  |_=>false)
 | .bG,t=>kT P .bG t&&(match P.underlying t with
  |some (.pointer _)=>true
  |some (.func _ _ _)=>true
  |some (.map _ _)=>true
  |_=>false)
 | .slice T,t=>kT P (.slice T) t&&(match P.underlying t with
  |some (.slice e)=>dS P T e
  |_=>false)
 | .unit,t=>kT P .unit t&&(match P.underlying t with
  |some (.struct b)=>b.toList.isEmpty
  |_=>false)
 | .cons a r,t=>kT P (.cons a r) t&& !P.stoodInHeld t&& !P.eqGuardType P.depth t&&(match P.underlying t with
  |some (.struct b)=>match b.toList with
   |f::l=>f.offset==0&& !(a.size==0)&&(f.name != "_")&&dS P a f.type&&cN P r l a.size
   |[]=>false
  |_=>false)
 | .arr n T,t=>kT P (.arr n T) t&&T.aQ&&(match P.underlying t with
  |some (.array m e)=>m==n&&dS P T e
  |_=>false)
def cN (P:Program):Ty→List Field→Nat→Bool
 | .unit,[],_=>true
 | .cons a r,f::l,o=>f.offset==o&& !(a.size==0)&&(f.name != "_")&&dS P a f.type&&cN P r l (o+a.size)
 |_,_,_=>false
end
abbrev bF (P:Program) (T:Ty) (t:TypeId):Prop:=dS P T t=true
theorem bF.head {P:Program} {T:Ty} {t:TypeId} (h:bF P T t):kT P T t=true:=by
 unfold bF at h;cases T<;>simp only [dS,bp] at h
 case cons=>exact h.1.1.1
 case arr=>exact h.1.1
 all_goals exact h.1
theorem bF.hb {P:Program} {T:Ty} {t:TypeId} (h:bF P T t):∃i,P.info? t=some i∧i.size=T.size∧i.bytes≤4096∧
 (T.fY=true→∃z,i.zero=some z∧z.cells.toList=fb T∧EA z=T.agg):=by
 have:=h.head;unfold kT at this;split at this;rename_i i hi;simp only [bp,ff,kG,fc,hn] at this;obtain ⟨⟨⟨c,d⟩,b⟩,_⟩:=this;refine ⟨i,hi,c,d.1,fun e=>?_⟩;rcases b with b|b
 rw [e] at b;cases b;split at b;rename_i z f;simp only [bp,ff] at b;exact ⟨z,f,SY b.1,b.2⟩;cases b;cases this
theorem bF.bytes {P:Program} {T:Ty} {t:TypeId} (h:bF P T t) (b:T.size≠0):∃i,P.info? t=some i∧i.size=T.size∧1≤i.bytes:=by
 have:=h.head;unfold kT at this
 grind
theorem bF.bG {P:Program} {t:TypeId} (h:bF P .bG t):∃i z,P.info? t=some i∧i.zero=some z∧z.cells.toList.length=1:=by
 have:=h.head;unfold kT at this;split at this;rename_i i hi;simp only [bp] at this;obtain ⟨_,b⟩:=this;simp only [decide_true,Bool.not_true,k7] at b;split at b;simp_all;cases b;cases this
theorem bF.slice {P:Program} {T:Ty} {t:TypeId} (h:bF P (.slice T) t):∃e,P.underlying t=some (.slice e)∧bF P T e:=by
 unfold bF at h;simp only [dS,bp] at h
 grind
theorem bF.arr {P:Program} {n:Nat} {T:Ty} {t:TypeId} (h:bF P (.arr n T) t):∃e,P.underlying t=some (.array n e)∧bF P T e∧T.aQ=true:=by
 unfold bF at h;simp only [dS,bp] at h
 grind
def eJ:Ty→Nat→Nat
 | .cons t r,n+1=>t.size+eJ r n
 |_,_=>0
theorem adW {P:Program}:∀(T:Ty) (l:List Field) (o n:Nat) (u:Ty),cN P T l o=true→cE T [.f n]=some u→
 ∃f,l[n]?=some f∧f.offset=o+eJ T n∧u.size≠0∧bF P u f.type:=by
 intro T
 induction T with
 |cons a r _ y=>
  intro l o n u h b;cases l with
  |nil=>simp [cN] at h
  |cons f l=>
   simp only [cN,bp,ff,hn,h7] at h;obtain ⟨⟨⟨⟨q,v⟩,_⟩,x⟩,h4⟩:=h;cases n with
   |zero=>
    simp only [cE,az] at b;have b:a=u:=by omega
    subst b;exact ⟨f,rfl,by simp [eJ,q],v,x⟩
   |succ n=>
    obtain ⟨g,c,d,e,j⟩:=y l _ n u h4 (by simpa [cE] using b);exact ⟨g,by simpa using c,by simp [eJ,d];omega,e,j⟩
 |_=>intro l o n u h b;simp [cE] at b
theorem bF.struct {P:Program} {T:Ty} {t:TypeId} (h:bF P T t) {n:Nat} {u:Ty} (c:cE T [.f n]=some u):
 ∃b f,P.underlying t=some (.struct b)∧b[n]?=some f∧f.offset=eJ T n∧u.size≠0∧bF P u f.type:=by
 cases T with
 |cons a r=>
  unfold bF at h;simp only [dS,bp] at h;obtain ⟨_,h⟩:=h;split at h;rename_i b d;split at h;rename_i f l e;simp only [bp,ff,hn,h7] at h;obtain ⟨⟨⟨⟨x,y⟩,_⟩,z⟩,h4⟩:=h;cases n with
  |zero=>
   have c:a=u:=by cases a<;>simpa [cE] using c
   subst c;exact ⟨b,f,d,by rw [←hF,e];rfl,by simp [eJ,x],y,z⟩
  |succ n=>
   obtain ⟨g,j,o,q,v⟩:=adW r l _ n u h4 (by simpa [cE] using c);exact ⟨b,g,d,by rw [←hF,e];simpa using j,by simp [eJ,o],q,v⟩
  cases h;cases h
 |_=>simp [cE] at c
theorem bF.row {P:Program} {T:Ty} {t:TypeId} (h:bF P T t):∃d,P.underlying t=some d∧d.isRow=T.agg:=by
 unfold bF at h;cases T<;>simp only [dS,bp] at h<;>obtain ⟨_,h⟩:=h<;>(split at h<;>first|exact ⟨_,by assumption,rfl⟩|cases h)
theorem acg:∀(t:Ty) (ft:FT) (a:Option (Nat×Nat)) (p q:aI) {u:Ty} {f:FT} {a':Option (Nat×Nat)},bL t ft a p=some (u,f,a')→bL t ft a (p++q)=bL u f a' q:=by
 intro t
 induction t with
 |cons t r d j=>
  intro ft a p q u f a' h
  match p,h with
  |[],h=>simp only [bL,az,aO] at h;simp_all
  | .f 0::p,h=>simp only [bL] at h;simp only [jG,bL];exact d _ _ _ _ h
  | .f (n+1)::p,h=>simp only [bL] at h;simp only [jG,bL];grind
  | .i n::p,h=>simp [bL] at h
 |slice t d=>
  intro ft a p q u f a' h
  match p,h with
  |[],h=>simp only [bL,az,aO] at h;simp_all
  | .f n::p,h=>simp [bL] at h
  | .i n::p,h=>
   cases ft with
   |leaf=>simp [bL] at h
   |eQ _ _=>simp [bL] at h
   |node ob cap g=>
    cases ob with
    |none=>simp [bL] at h
    |some b=>
     simp only [bL] at h;simp only [jG,bL];cases hk:g[n]? with
     |none=>rw [hk] at h;cases h
     |some k=>grind
 |arr m t _=>
  intro ft a p q u f a' h
  match p,h with
  |[],h=>simp only [bL,az,aO] at h;simp_all
  | .f n::p,h=>simp [bL] at h
  | .i n::s::p,h=>simp [bL] at h
  |[.i n],h=>
   cases q with
   |nil=>rw [eF,h];cases u<;>rfl
   |cons s q=>
    simp only [bL] at h;split at h;cases h
    ·rename_i c;simp only [az,aO] at h;obtain ⟨rfl,rfl,rfl⟩:=h;simp only [fc,gQ,jF] at c;have e:=c.1;simp only [jG,dJ,bL];cases t<;>first|(simp [Ty.agg] at e;done)|(cases s<;>simp [bL])
 |_=>
  intro ft a p q u f a' h;cases p with
  |nil=>simp only [bL,az,aO] at h;simp_all
  |cons s p=>simp [bL] at h
theorem tA {B:Nat→Option bl} {G:Nat→Gh} {b:Nat} {p q:aI} {u:Ty} {f:FT} {a:Option (Nat×Nat)} (h:ax B G b p=some (u,f,a)):ax B G b (p++q)=bL u f a q:=by
 unfold ax at*;split at h;exact acg _ _ _ _ _ h;cases h
theorem nw {B:Nat→Option bl} {G:Nat→Gh} {b:Nat} {p:aI} {u:Ty} {f:FT} {a:Option (Nat×Nat)} {x:bl} (c:B b=some x) (h:ax B G b p=some (u,f,a)):cE x.ty p=some u:=by
 rw [fR c] at h;exact Q4 _ _ _ _ h
section
variable {A:bY} {w:World} {R:Nat→Prop}
def iI (A:bY) (b:Nat) (t:Ty) (ft:FT) (a:Option (Nat×Nat)) (p:aI) (n:Nat):Prop:=
 match t with
 | .cons t r=>∀m q,A b (p++.f (n+m)::q)=bL (.cons t r) ft a (.f m::q)
 | .unit=>True
 |t=>∀q,A b (p++q)=bL t ft a q
theorem iI.head {b:Nat} {t r:Ty} {ft:FT} {a:Option (Nat×Nat)} {p:aI} {n:Nat} (h:iI A b (.cons t r) ft a p n):iI A b t ft.fst a (p++[.f n]) 0:=by
 unfold iI;split;intro m q;have:=h 0 (.f m::q);simp only [jK,bL] at this;simpa using this;trivial;intro q;have:=h 0 q;simp only [jK,bL] at this;simpa using this
theorem iI.tail {b:Nat} {t:Ty} {r:Ty} {ft:FT} {a:Option (Nat×Nat)} {p:aI} {n:Nat} (h:iI A b (.cons t r) ft a p n) (e:r=.unit∨∃c d,r=.cons c d):
 iI A b r ft.snd (a.map fun x=>(x.1,x.2+t.size)) p (n+1):=by
 rcases e with rfl|⟨c,d,rfl⟩
 trivial;intro m q;have:=h (m+1) q;simp only [bL] at this
 grind
theorem iI.TF {b:Nat} {t:Ty} {ft:FT} {a:Option (Nat×Nat)} {p:aI} (h:∀q,A b (p++q)=bL t ft a q):iI A b t ft a p 0:=by
 unfold iI
 grind
theorem Yd:∀(t:Ty) (p:aI) (u:Ty),t.cF→cE t p=some u→u.cF:=by
 intro t
 induction t with
 |cons t r c d=>
  intro p u h b
  match p,b with
  |[],b=>simp only [cE,az] at b;subst b;exact h
  | .f 0::p,b=>exact c p u h.1 b
  | .f (n+1)::p,b=>exact d (.f n::p) u h.2.1 b
  | .i n::p,b=>simp [cE] at b
 |slice t c=>
  intro p u h b
  match p,b with
  |[],b=>simp only [cE,az] at b;subst b;exact h
  | .f n::p,b=>simp [cE] at b
  | .i n::p,b=>exact c p u h b
 |arr m t c=>
  intro p u h b
  match p,b with
  |[],b=>simp only [cE,az] at b;subst b;exact h
  | .f n::p,b=>simp [cE] at b
  | .i n::s::p,b=>simp [cE] at b
  |[.i n],b=>
   simp only [cE] at b;split at b;cases b;simp only [az] at b;subst b;exact h
 |_=>
  intro p u h b;cases p with
  |nil=>simp only [cE,az] at b;subst b;exact h
  |cons s p=>simp [cE] at b
theorem y5:∀(t:Ty) (x:t.ai) (ft:FT) (cs:List Value) (b:Nat) (a:Option (Nat×Nat)) (p:aI) (n:Nat),t.cF→bb w t x ft cs→iI A b t ft a p n→(t.aQ=false→t.agg=false→n=0)→
 bH A w R (oh b t x p n) cs∧(oh b t x p n).agg=t.agg:=by
 intro t
 induction t with
 |cons t r C z=>
  intro x ft cs b a p n e h g _;simp only [oh];split;rename_i u;obtain ⟨f,rfl,_⟩:=bb.ms u h;exact ⟨Rd.gv u f,rfl⟩;obtain ⟨_,j,l,rfl,f,o⟩:=h;refine ⟨⟨j,l,rfl,(C x.1 _ j b a _ 0 e.1 f g.head (fun _ _=>rfl)).1,(z x.2 _ l b _ p (n+1) e.2.1 o (g.tail e.2.2) (fun q h4=>?_)).1⟩,rfl⟩;rcases e.2.2 with rfl|⟨c,d,rfl⟩
  simp [Ty.agg] at h4;simp [Ty.agg] at h4
 |slice t _=>
  intro x ft cs b a p n e h g y;obtain rfl:=y rfl rfl;obtain ⟨v,cap,D,rfl,rfl,f,o,q,h4⟩:=h;refine ⟨⟨t,v,cap,D,a,?_,by rw [q]⟩,rfl⟩;have:=g [];rw [eF] at this;exact this
 |unit=>intro x ft cs b a p n _ h _ _;exact ⟨h.2.2.2,rfl⟩
 |bG=>intro x ft cs b a p n _ h _ _;exact h.elim
 |int k=>intro x ft cs b a p n _ h _ _;exact ⟨⟨rfl,h.2.1,h.2.2.2⟩,rfl⟩
 |bool=>intro x ft cs b a p n _ h _ _;exact ⟨⟨rfl,h.2.1,h.2.2.2⟩,rfl⟩
 |bP=>intro x ft cs b a p n _ h _ _;exact ⟨⟨rfl,h.2.1,h.2.2.2⟩,rfl⟩
 |arr m t _=>
  intro x ft cs b a p n _ h _ _;simp only [oh];rw [ak h.1];exact ⟨⟨h.1,h.2.1,h.2.2.2⟩,rfl⟩
theorem YB:∀(c:TV) (t:Ty) (ft:FT) (cs:List Value) (b:Nat) (a:Option (Nat×Nat)) (p:aI) (n:Nat),t.cF→aW A w R c t ft cs→iI A b t ft a p n→(t.agg=false→n=0)→
 bH A w R (uY b c p n) cs∧(uY b c p n).agg=t.agg:=by
 intro c
 induction c with
 |ab u x=>
  intro t ft cs b a p n f h g l;obtain ⟨rfl,h⟩:=h;cases u with
  |cons u v=>exact y5 _ _ _ _ _ _ _ _ f h g (fun _ h=>(by simp [Ty.agg] at h))
  |unit=>exact ⟨h.2.2.2,rfl⟩
  |arr m u=>
   simp only [uY,oh];rw [ak h.1];exact ⟨⟨h.1,h.2.1,h.2.2.2⟩,rfl⟩
  |bG=>exact h.elim
  |slice u=>obtain rfl:=l rfl;exact y5 _ _ _ _ _ _ _ _ f h g (fun _ _=>rfl)
  |int _=>obtain rfl:=l rfl;exact y5 _ _ _ _ _ _ _ _ f h g (fun _ _=>rfl)
  |bool=>obtain rfl:=l rfl;exact y5 _ _ _ _ _ _ _ _ f h g (fun _ _=>rfl)
  |bP=>obtain rfl:=l rfl;exact y5 _ _ _ _ _ _ _ _ f h g (fun _ _=>rfl)
 |cons c d y z=>
  intro t ft cs b a p n f h g l;cases t<;>try exact h.elim
  obtain ⟨_,q,r,rfl,C,j,o⟩:=h;refine ⟨⟨q,r,rfl,(y _ _ q b a _ 0 f.1 j g.head (fun _=>rfl)).1,(z _ _ r b _ p (n+1) f.2.1 o (g.tail f.2.2) (fun h4=>?_)).1⟩,rfl⟩;rcases f.2.2 with e|⟨_,_,e⟩<;>rw [e] at h4<;>simp [Ty.agg] at h4
 |ad u x=>intro t ft cs b a p n _ h _ _;obtain ⟨rfl,_,h⟩:=h;exact ⟨h,rfl⟩
 |unit=>intro t ft cs b a p n _ h _ _;obtain ⟨rfl,_,h⟩:=h;exact ⟨h,rfl⟩
 |un=>
  intro t ft cs b a p n _ h _ _;obtain ⟨_,_,j,o⟩:=h
  match cs,o with
  |[v],_=>exact ⟨⟨v,rfl⟩,j.symm⟩
 |tup c _=>
  intro t ft cs b a p n _ h _ _;cases t<;>try exact h.elim
  rcases gk.out h with ⟨_,_,rfl,_,_,_,_,rfl,_⟩|⟨_,rfl,j⟩|⟨_,rfl,_,_,_,_,_,rfl,_⟩
  exact ⟨⟨_,rfl⟩,rfl⟩;obtain ⟨_,_,_,rfl,_⟩:=j.out;exact ⟨⟨_,rfl⟩,rfl⟩;exact ⟨⟨_,rfl⟩,rfl⟩
 |nil=>intro t ft cs b a p n _ h _ _;exact ⟨h.2.2.2,h.2.1.symm⟩
 |ref _ _=>intro t ft cs b a p n _ h _ _;exact ⟨h.2.2.2,h.2.1.symm⟩
 |sl _ _=>intro t ft cs b a p n _ h _ _;exact ⟨h.2.2.2,h.2.1.symm⟩
 |slw _ _ _ _=>intro t ft cs b a p n _ h _ _;exact ⟨h.2.2.2,h.2.1.symm⟩
 |bw _ _=>intro t ft cs b a p n _ h _ _;exact ⟨h.2.2.2,h.2.1.symm⟩
 |bV _ _ _=>intro t ft cs b a p n _ h _ _;exact ⟨h.2.2.2,h.2.1.symm⟩
 |mp _=>intro t ft cs b a p n _ h _ _;exact ⟨h.2.2.2,h.2.1.symm⟩
end
section
variable {ρ:Type} {P:Program} {E:ao} {F:Fr} {G:Nat→Gh} {s:St} {a:Act} {w:World}
def ch (F:Fr) (k:St→Option ρ) (r:ρ) (a:Act) (w:World):Prop:=∃G s,aA F G s a w∧k s=some r
def pk (P:Program) (K:Ty) (t:TypeId):Bool:=match P.underlying t with
 |some (.map c b)=>dS P K c&&dS P (.int .i64) b&&(decide (K=.int .i64)||decide (K=.arr 2 (.int .i64)))
 |_=>false
structure mc (P:Program) (E:ao):Prop where
 ty:∀t T,E.jh t=some T→bF P T t
 bC:∀t K,lk E.bC t=some K→pk P K t=true
structure dl (P:Program) (E:ao) (F:Fr):Prop extends mc P E where
 nt:E.nt=F.nt
theorem bF.cF {P:Program}:∀(T:Ty) (t:TypeId),bF P T t→T.cF:=by
 have bo:∀(r:Ty) (l:List Field) (o:Nat),cN P r l o=true→r=.unit∨∃c d,r=.cons c d:=by
  intro r l o h;cases r<;>cases l<;>simp [cN] at h⊢
 have q:∀(T:Ty),(∀(t:TypeId),bF P T t→T.cF)∧(∀l o,cN P T l o=true→T.cF):=by
  intro T
  induction T with
  |cons a r g j=>
   refine ⟨fun t h=>?_,fun l o h=>?_⟩;unfold bF at h;simp only [dS,bp] at h;obtain ⟨_,h⟩:=h;split at h;split at h;simp only [bp] at h;exact ⟨g.1 _ h.1.2,j.2 _ _ h.2,bo _ _ _ h.2⟩;cases h;cases h;cases l with
   |nil=>simp [cN] at h
   |cons f l=>
    simp only [cN,bp] at h;exact ⟨g.1 _ h.1.2,j.2 _ _ h.2,bo _ _ _ h.2⟩
  |slice T b=>
   refine ⟨fun t h=>?_,fun l o h=>by grind⟩;obtain ⟨e,_,h⟩:=bF.slice h;exact b.1 _ h
  |arr n T b=>
   refine ⟨fun t h=>?_,fun l o h=>by grind⟩;obtain ⟨e,_,h,_⟩:=bF.arr h;exact b.1 _ h
  |_=>exact ⟨fun t _=>trivial,fun l o _=>trivial⟩
 grind
theorem cA (h:aA F G s a w) (x:Operand):VR (ax s.box G) w F.R (s.ev x) (a.eval x):=by
 cases x with
 |tmp t=>exact h.tmps t
 |global g=>exact .inl rfl
 |func f=>exact .inr ⟨_,⟨[],rfl,rfl⟩,rfl⟩
 |const v=>
  simp only [St.ev,Act.eval];unfold Kp;split;exact .inr ⟨_,⟨rfl,trivial,rfl⟩,rfl⟩;exact .inr ⟨_,⟨rfl,trivial,rfl⟩,rfl⟩;rename_i b;split;rename_i c;exact .inr ⟨_,⟨rfl,pV c,rfl⟩,rfl⟩;exact .inl rfl;exact .inr ⟨_,rfl,rfl⟩;exact .inl rfl
theorem VR.cells {A:bY} {R:Nat→Prop} {v:TV} {x:Value} (h:VR A w R v x) (b:v≠ .un) (c:∀a,v≠ .tup a):∃cs,bH A w R v cs∧(if v.agg then x=.agg cs.toArray else cs=[x]):=by
 rw [nu c] at h;rcases h with h|h
 exact absurd h b;exact h
theorem dZ {G:Nat→Gh} {s:St} {w:World} (h:aA F G s a w) (b:dl P E F) {o:Oper} {tv:TV} {v:Value} (f:VR (ax s.box G) w F.R tv v) (c:∀d,o.dst=some d→d<E.nt) {k:St→Option ρ} {r:ρ}
 (hk:dp o s k tv=some r):ch F k r (a.put o.dst v) w:=by
 unfold dp at hk;cases e:o.dst with
 |none=>rw [e] at hk;exact ⟨G,s,h,hk⟩
 |some d=>rw [e] at hk;exact ⟨G,_,h.put (by rw [←b.nt];exact c d e) f,hk⟩
theorem c7 {o:Oper} {K:Act→World→Prop} {Q:Exit→Act→World→Prop} {v:Value} {w':World} (h:(execOp a.eval o).run P w=.ok (.value v) w') (b:K (a.put o.dst v) w'):o.wp P a w K Q:=by
 unfold Oper.wp;rw [h];exact b
theorem Ny {o:Oper} {K:Act→World→Prop} {Q:Exit→Act→World→Prop} {w':World} (h:(execOp a.eval o).run P w=.ok .skip w') (b:K (a.put o.dst undef) w'):o.wp P a w K Q:=by
 unfold Oper.wp;rw [h];exact b
theorem VR.bool {A:bY} {R:Nat→Prop} {b:Bool} {x:Value} (h:VR A w R (.ad .bool b) x):x=.bool b:=by
 rcases h with h|⟨cs,c,d⟩
 cases h;have c:cs=bE .bool b:=c.2.2;subst c;simpa [TV.agg,Ty.agg,bE] using d.symm
theorem VR.int {A:bY} {R:Nat→Prop} {c:IntKind} {n:Int} {x:Value} (h:VR A w R (.ad (.int c) n) x):x=.int c n:=by
 rcases h with h|⟨cs,b,d⟩
 cases h;have b:cs=bE (.int c) n:=b.2.2;subst b;simpa [TV.agg,Ty.agg,bE] using d.symm
theorem VR.bP {A:bY} {R:Nat→Prop} {l:List UInt8} {x:Value} (h:VR A w R (.ad .bP l) x):x=.string ⟨l.toArray⟩∧l.length≤eZ:=by
 rcases h with h|⟨cs,b,c⟩
 cases h;have d:cs=bE .bP l:=b.2.2;subst d;exact ⟨by simpa [TV.agg,Ty.agg,bE] using c.symm,b.2.1⟩
theorem pG {A:bY} {R:Nat→Prop} (b:Bool):VR A w R (.ad .bool b) (.bool b):=.inr ⟨_,⟨rfl,trivial,rfl⟩,rfl⟩
theorem g1 {A:bY} {R:Nat→Prop} (b:IntKind) (n:Int):VR A w R (.ad (.int b) n) (.int b n):=.inr ⟨_,⟨rfl,trivial,rfl⟩,rfl⟩
theorem Nt {A:bY} {R:Nat→Prop} {l:List UInt8} (h:l.length≤eZ):VR A w R (.ad .bP l) (.string ⟨l.toArray⟩):=.inr ⟨_,⟨rfl,h,rfl⟩,rfl⟩
theorem dH {A:bY} {R:Nat→Prop} {v:TV} {cs:List Value} {x:Value} (h:bH A w R v cs) (d:if v.agg then x=.agg cs.toArray else cs=[x]):VR A w R v x:=by
 have c:∀b,v≠ .tup b:=by intro b e;subst e;exact h
 rw [nu c];exact .inr ⟨cs,h,d⟩
theorem VR.b3 {A:bY} {R:Nat→Prop} {v:TV} {x:Value} (h:VR A w R v x) (b:v≠ .un) (c:∀a,v≠ .tup a) (d:v.agg=false):bH A w R v [x]:=by
 obtain ⟨cs,h4,h5⟩:=h.cells b c;simp_all
variable {Q:Exit→Act→World→Prop}
theorem Us (h:aA F G s a w) (c:dl P E F) {o:Oper} {x:Operand} (b:o.op=.move x∨o.op=.assign x) (e:∀d,o.dst=some d→d<E.nt) {k:St→Option ρ} {r:ρ} (hk:a2 E o s k=some r):
 o.wp P a w (ch F k r) Q:=by
 refine c7 (v:=a.eval x) (w':=w) (by unfold execOp;rcases b with b|b<;>rw [b]<;>rfl) (dZ h c (cA h x) e ?_);unfold a2 at hk
 grind
theorem ahX (h:aA F G s a w) (g:dl P E F) {o:Oper} {c x y:Operand} (f:o.op=.pick c x y) (j:∀d,o.dst=some d→d<E.nt) {k:St→Option ρ} {r:ρ} (hk:a2 E o s k=some r):
 o.wp P a w (ch F k r) Q:=by
 unfold a2 at hk;rw [f] at hk;simp only at hk;have b:=cA h c;split at hk;rename_i t e;rw [e] at b;have b:=b.bool;cases t;refine c7 (v:=a.eval y) (w':=w) (by unfold execOp;rw [f];simp [b,asBool]) (dZ h g (cA h y) j hk);refine c7 (v:=a.eval x) (w':=w) (by unfold execOp;rw [f];simp [b,asBool]) (dZ h g (cA h x) j hk);cases hk
theorem ait {t:TypeId} {T:Ty} (j:bF P T t) (c:T.agg=false) {b o:Nat} {v:Value} (f:At w b o 1 [v]):
 (Instr.loadAt t (.pointer (some ⟨b,o,none⟩))).run P w=.ok v w:=by
 obtain ⟨d,l,h⟩:=j.row;rw [c] at h;have e:(isAgg t).run P w=.ok false w:=by
  unfold isAgg;rw [Sem.run_bind,run_underlying l w];cases d<;>simp_all
 have g:w.cell? ⟨b,o,none⟩=some v:=by simpa using Vu f 0 v rfl
 simp [Instr.loadAt,Instr.sureAddr,loadVar,e,g]
theorem FB {t:TypeId} {T:Ty} (g:bF P T t) {b o:Nat} {cs:List Value} (c:At w b o T.size cs) (j:T.agg=false→T.size=1):
 ∃v,(Instr.loadAt t (.pointer (some ⟨b,o,none⟩))).run P w=.ok v w∧(if T.agg then v=.agg cs.toArray else cs=[v]):=by
 obtain ⟨d,n,h⟩:=g.row;obtain ⟨i,hi,l,_⟩:=g.hb;have f:=c.len;cases e:T.agg with
 |true=>exact ⟨_,run_loadAt_mid w b o t cs d (Vu c) n (by rw [h,e]) (by simp [hi,l,f]),rfl⟩
 |false=>
  rw [j e] at f c
  match cs,f with
  |[v],_=>exact ⟨v,ait g e c,rfl⟩
theorem mS:∀(T:Ty),T.agg=false→T.size=1:=by
 intro T h;cases T<;>first|rfl|(simp [Ty.agg] at h)
theorem afq (h:aA F G s a w) (D:dl P E F) {o:Oper} {t:TypeId} {x:Operand} (J:o.op=.load t x) (X:∀d,o.dst=some d→d<E.nt) {k:St→Option ρ} {r:ρ} (hk:a2 E o s k=some r):
 o.wp P a w (ch F k r) Q:=by
 unfold a2 at hk;rw [J] at hk;simp only [ea] at hk;have f:=cA h x;split at hk;rename_i T ag;have Y:=D.ty t T ag;unfold kV at hk;split at hk;rename_i b p e;rw [e] at f;have f:=f.b3 (by simp) (by simp) rfl;obtain ⟨u,ft,C,off,n,l⟩:=f;simp only [eK,eM] at l;unfold b6 at hk;split at hk;rename_i bx j;dsimp only at hk;split at hk;rename_i z;have z:cE bx.ty p=some T:=eU z;have g:=nw j n;rw [z] at g;obtain rfl:=bk g;obtain ⟨ab,ai,ah⟩:=(h.box b bx j).fv;obtain ⟨c',u,W,a',aa,ac,U,ae,af⟩:=aW.get bx.c bx.ty (G b).ft ab ((G b).bg.map (·,0)) p _ r ai (fun Z o e=>(ah Z o e).1) hk;rw [fR j,U] at n;simp only [az,aO] at n;obtain ⟨rfl,rfl,rfl⟩:=n;have I:=af C off rfl;have aj:=Yd _ _ _ (h.cF b bx j) z;obtain ⟨v,K,O⟩:=FB Y I (mS u);have ak:iI (ax s.box G) b u W (some (C,off)) p 0:=iI.TF (fun q=>tA (by rw [fR j];exact U));obtain ⟨am,an⟩:=YB c' u W aa b _ p 0 aj ae ak (fun _=>rfl);refine c7 (v:=v) (w':=w) (by unfold execOp;rw [J];simp [l,K]) (dZ h D (dH am (by rw [an];exact O)) X ac);cases hk;cases hk;rename_i u y e;rw [e] at f;have f:=f.b3 (by simp) (by simp) rfl;obtain ⟨C,off,c,l,ao,I,al⟩:=f;simp only [eK,eM] at l;split at hk;rename_i g;have g:u=T:=eU g;subst g;obtain ⟨v,K,O⟩:=FB Y I (mS u);exact c7 (v:=v) (w':=w) (by unfold execOp;rw [J];simp [l,K]) (dZ h D (dH (v:=.ad u y) al O) X hk);cases hk;cases hk;cases hk
end
section
variable {ρ:Type} {P:Program} {E:ao} {F:Fr} {G:Nat→Gh} {s:St} {a:Act} {w w2:World} {Q:Exit→Act→World→Prop}
theorem mf {A:bY} {R:Nat→Prop}:∀(t:Ty) (c:TV) (f:FT) (cs:List Value) (x:t.ai),aW A w R c t f cs→c.dy t=some x→∃j:FT,j.ae=f.ae∧bb w t x j cs:=by
 have I:∀(t u:Ty) (y:u.ai) (f:FT) (cs:List Value) (x:t.ai),t.aQ=true→aW A w R (.ad u y) t f cs→cM u t y=some x→∃j:FT,j.ae=f.ae∧bb w t x j cs:=by
  intro t u y f cs x aa g b;obtain ⟨rfl,rfl⟩:=e4 b;obtain ⟨_,h,W⟩:=g;obtain ⟨ag,ah⟩:=Rd.aQ aa W;exact ⟨f,rfl,by rw [ah];exact bb.gv aa ag h⟩
 have l:∀(t u:Ty) (y:u.ai) (f:FT) (cs:List Value) (x:t.ai),aW A w R (.ab u y) t f cs→cM u t y=some x→∃j:FT,j.ae=f.ae∧bb w t x j cs:=by
  intro t u y f cs x g b;obtain ⟨rfl,rfl⟩:=e4 b;exact ⟨f,rfl,g.2⟩
 intro t
 induction t with
 |int ao=>
  intro c f cs x g b;cases c with
  |ab u y=>exact l _ u y f cs x g (by simpa [TV.dy] using b)
  |ad u y=>exact I _ u y f cs x rfl g (by simpa [TV.dy] using b)
  |_=>simp [TV.dy] at b
 |bool=>
  intro c f cs x g b;cases c with
  |ab u y=>exact l _ u y f cs x g (by simpa [TV.dy] using b)
  |ad u y=>exact I _ u y f cs x rfl g (by simpa [TV.dy] using b)
  |_=>simp [TV.dy] at b
 |bP=>
  intro c f cs x g b;cases c with
  |ab u y=>exact l _ u y f cs x g (by simpa [TV.dy] using b)
  |ad u y=>exact I _ u y f cs x rfl g (by simpa [TV.dy] using b)
  |_=>simp [TV.dy] at b
 |bG=>
  intro c f cs x g b;cases c with
  |ab u y=>exact l _ u y f cs x g (by simpa [TV.dy] using b)
  |_=>simp [TV.dy] at b
 |arr n t _=>
  intro c f cs x g b;cases c with
  |ab u y=>exact l _ u y f cs x g (by simpa [TV.dy] using b)
  |_=>simp [TV.dy] at b
 |slice t _=>
  intro c f cs x g b;cases c with
  |ab u y=>exact l _ u y f cs x g (by simpa [TV.dy] using b)
  |nil=>
   simp only [TV.dy] at b;obtain rfl:=bk b;obtain ⟨_,_,h,X⟩:=g;exact ⟨.node none 0 [],by rw [h];rfl,none,0,[],rfl,X,cf _,bM _,rfl,rfl⟩
  |_=>simp [TV.dy] at b
 |unit=>
  intro c f cs x g b;cases c with
  |ab u y=>exact l _ u y f cs x g (by simpa [TV.dy] using b)
  |unit=>
   obtain ⟨_,h,X⟩:=g;exact ⟨f,rfl,rfl,trivial,h,X⟩
  |ad u y=>
   cases u with
   |unit=>
    obtain ⟨_,h,W⟩:=g;exact ⟨f,rfl,rfl,trivial,h,W.2.2⟩
   |_=>simp [TV.dy] at b
  |_=>simp [TV.dy] at b
 |cons t r af ac=>
  intro c f cs x g b;cases c with
  |ab u y=>exact l _ u y f cs x g (by simpa [TV.dy] using b)
  |cons a d=>
   simp only [TV.dy] at b;split at b;rename_i am J;split at b;rename_i an K;obtain rfl:=bk b;obtain ⟨aj,o,q,rfl,_,O,U⟩:=g;obtain ⟨v,C,Y⟩:=af a _ o _ O J;obtain ⟨z,D,Z⟩:=ac d _ q _ U K;exact ⟨.eQ v z,by rw [aj,←C,←D];rfl,rfl,o,q,rfl,Y,Z⟩;cases b;cases b
  |ad u y=>
   cases u with
   |cons al ak=>
    simp only [TV.dy] at b;split at b;rename_i am J;split at b;rename_i an K;obtain rfl:=bk b;obtain ⟨e,h,o,q,rfl,O,U⟩:=g;simp only [Ty.cons.injEq] at e;obtain ⟨rfl,rfl⟩:=e;obtain ⟨v,C,Y⟩:=af (.ad al y.1) .leaf o _ ⟨rfl,rfl,O⟩ J;obtain ⟨z,D,Z⟩:=ac (.ad ak y.2) .leaf q _ ⟨rfl,rfl,U⟩ K;refine ⟨.eQ v z,?_,rfl,o,q,rfl,Y,Z⟩;rw [h];show v.ae++z.ae=[];rw [C,D];rfl;cases b;cases b
   |_=>simp [TV.dy] at b
  |_=>simp [TV.dy] at b
theorem hL.cast {f b:FT} (h:hL F G s w f) (e:b.ae=f.ae):hL F G s w b:=
 ⟨by rw [e];exact h.b7,by rw [e];exact h.out,by rw [e];exact h.bK⟩
theorem agp {A:bY} {R:Nat→Prop} (t:Ty) (p:aI) {c:TV} {f:FT} {cs:List Value} (h:aW A w R c t f cs):∃d:FT,d.ae=f.ae∧aW A w R (pp t p c) t d cs:=by
 unfold pp;split;split;split;rename_i y q;obtain ⟨d,b,o⟩:=mf t _ f cs y h q;exact ⟨d,b,rfl,o⟩
 grind
 grind
 split;rename_i e;obtain ⟨rfl,l,n⟩:=h;obtain ⟨g,j⟩:=Rd.aQ e n;exact ⟨f,rfl,rfl,by rw [j];exact bb.gv e g l⟩
 grind
 grind
end
section
variable {ρ:Type} {P:Program} {E:ao} {F:Fr} {G:Nat→Gh} {s:St} {a:Act} {w:World} {Q:Exit→Act→World→Prop}
theorem aiw {t:TypeId} {T:Ty} (h:bF P T t) {b o:Nat} {v:Value} {cs:List Value} (d:w.there b o T.size) (n:cs.length=T.size) (l:v.cells.toList=cs) (g:eA cs):
 (Instr.storeAt t (.pointer (some ⟨b,o,none⟩)) v).run P w=.ok () (w.setCells b o cs):=by
 obtain ⟨i,hi,q,_⟩:=h.hb;have c:=run_storeCells_cells (P:=P) b o cs 0 w (fun j f=>by simpa using (d j (by omega)).1) (fun j f=>by simpa using (d j (by omega)).2) g;have e:v.cells.size=i.size:=by grind
 simp only [jK] at c;simp [Instr.storeAt,Instr.sureAddr,storeVar,sizeOf,typeInfo,hi,e,l,c]
theorem xN {v:TV} {x:Value} {cs:List Value} (b:if v.agg then x=.agg cs.toArray else cs=[x]) (c:v.agg=false→x.oneCell'=true):x.cells.toList=cs:=by
 split at b;subst b;rfl;rename_i d;subst b;have:=c (by simpa using d);cases x<;>first|rfl|simp [Value.oneCell'] at this
theorem XX (a1:dl P E F) {o:Oper} {t:TypeId} {x y:Operand} (a2:o.op=.store t x y) (an:o.dst=none) {T:Ty} (aq:bF P T t) {X:Nat} {ah:aI} (au:bH (ax s.box G) w F.R (.ref X ah) [a.eval x]) {cs:List Value}
 (J:if (s.ev y).agg then a.eval y=.agg cs.toArray else cs=[a.eval y]) {ai:Nat→Gh} {j:St} {c:TV} {f:FT} {κ:TV→TV} {k:St→Option ρ} {r:ρ}
 (h:(match κ (.ref X ah) with
  | .ref b p=>b6 j b fun x=>if (x.cm&&p.isEmpty)|| !decide (cE x.ty p=some T) then none else bO x.c p (pp T p c) fun c'=>
   match c with
   | .ad u _=>if u.aQ then k (j.b4 b {x with c:=c'}) else k ((j.b4 b {x with c:=c'}).aw b p)
   |_=>k ((j.b4 b {x with c:=c'}).aw b p)
  |_=>none)=some r) (g:tt F G s a w κ T cs ai j c f):o.wp P a w (ch F k r) Q:=by
 have am:(a.eval y).cells.toList=cs:=xN J (fun I=>by
  rw [I] at J;simp only [hl,cL] at J;exact g.eA _ (by rw [J];simp))
 have ag:=g.F4 _ _ au
 try dsimp only at h
 split at h;rename_i b p aj;rw [aj] at ag;obtain ⟨u,a0,Y,off,l,av⟩:=ag;simp only [eK,eM] at av;unfold b6 at h;split at h;rename_i bx d
 try dsimp only at h
 split at h;cases h;rename_i ab;simp only [fc,hn,rK,gQ,rA,jF] at ab;obtain ⟨a4,ar⟩:=ab;have af:=nw d l;rw [ar] at af;obtain rfl:=bk af;obtain ⟨row,e,ay,az⟩:=g.rel.q3 l;have a3:=aiw aq (v:=a.eval y) (al2 ay az) (aW.len _ _ _ _ g.fv) am g.eA;refine Ny (w':=w.setCells Y off cs) (by unfold execOp;simp_all) ?_;have ap:a.put o.dst undef=a:=by rw [an];rfl
 rw [ap];obtain ⟨K,ak,Z⟩:=agp T p g.fv;have aa:=g.eH.cast ak;have a5:∀c',bO bx.c p (pp T p c) (fun c'=>some c')=some c'→∀(ae:k ((j.b4 b {bx with c:=c'}).aw b p)=some r),ch F k r a (w.setCells Y off cs):=by
  intro c' al ae;obtain ⟨C,D,O⟩:=Mn b p bx.c p (pp T p c) _ _ al;obtain rfl:=bk D;exact ⟨_,_,g.rel.XW d l Z aa (fun v=>v.aw b p) ((j.b4 b {bx with c:=C}).aw b p) C (fun n=>x3 _ b p n) (yT _ b p) (yU _ b p) (lv d C p)
   (fun A' w' q z v y W=>by subst q;exact VR.aw (tF (f:=K) (kl:=fun v=>v.aw b p) d l rfl (lv d C p)) z W)
   (fun A' w' q z c t ft cs I U=>by subst q;exact aW.aw (tF (f:=K) (kl:=fun v=>v.aw b p) d l rfl (lv d C p)) z c t ft cs I U) O,ae⟩
 obtain ⟨c',D,O⟩:=Mo bx.c p (pp T p c) _ r h;split at D;rename_i a6 a7;split at D;rename_i ao;obtain ⟨rfl,_,_⟩:=g.fv;have ac:=ae7 (kl:=fun v=>v) (f:=K) d l ao rfl (DZ d c');exact ⟨_,_,g.rel.XW d l Z aa (fun v=>v) (j.b4 b {bx with c:=c'}) c' (fun n=>rfl) (fun _ _=>rfl) rfl (DZ d c')
  (fun A' w' q z v y W=>by subst q;exact VR.mono ac z W)
  (fun A' w' q z c t ft cs I U=>by subst q;exact aW.mono ac z c t ft cs I U) O,D⟩
 simp_all;simp_all;cases h;cases h
theorem alH (h:aA F G s a w) (d:dl P E F) {o:Oper} {t:TypeId} {x y:Operand} (g:o.op=.store t x y) (n:o.dst=none) {k:St→Option ρ} {r:ρ} (hk:a2 E o s k=some r):
 o.wp P a w (ch F k r) Q:=by
 unfold a2 at hk;rw [g] at hk;simp only [ea] at hk;have b:=cA h x;have v:=cA h y;split at hk;rename_i T l;have u:=d.ty t T l;unfold lQ at hk;split at hk;rename_i K O e0;rw [e0] at b;have b:=b.b3 (by simp) (by simp) rfl;have D:s.ev y≠ .un:=by intro e;rw [e] at hk;cases T<;>simp [ct] at hk
 have C:∀c,s.ev y≠ .tup c:=by intro c e;rw [e] at hk;cases T<;>simp [ct] at hk
 obtain ⟨cs,z,I⟩:=v.cells D C;obtain ⟨J,U,c,f,κ,q,j⟩:=oY T (s.ev y) G s cs _ r h z hk;exact XX d g n u b I q j;cases hk;cases hk
theorem Q5 {A:bY} {R:Nat→Prop}:∀(t:Ty) (v:TV) (c:TV) (cs:List Value),bH A w R v cs→gS t v=some c→∃f:FT,f.ae=[]∧aW A w R c t f cs∧eA cs:=by
 have ad:∀(t u:Ty) (x:u.ai) (c:TV) (cs:List Value),bH A w R (.ad u x) cs→(if decide (u=t) then some (TV.ad u x) else none)=some c→∃f:FT,f.ae=[]∧aW A w R c t f cs∧eA cs:=by
  intro t u x c cs h g;split at g;rename_i e;have e:u=t:=eU e;obtain rfl:=bk g;exact ⟨.leaf,rfl,⟨e,rfl,h⟩,Rd.eA _ _ _ h⟩;cases g
 intro t
 induction t with
 |cons t u X Y=>
  intro v c cs h g;cases v with
  |cons x d=>
   simp only [gS] at g;obtain ⟨n,o,rfl,J,K⟩:=h;split at g;rotate_left;cases g;rename_i x' W;split at g;rotate_left;cases g;rename_i C O;obtain rfl:=bk g;obtain ⟨D,q,l,a3⟩:=X x x' n J W;obtain ⟨I,r,y,z⟩:=Y d C o K O;exact ⟨.eQ D I,by simp [FT.ae,q,r],⟨rfl,n,o,rfl,aW.len _ _ _ _ l,l,y⟩,uz a3 z⟩
  |ad j x=>exact ad _ j x c cs h (by simpa [gS] using g)
  |_=>simp [gS] at g
 |slice t _=>
  intro v c cs h g;cases v with
  |nil=>
   simp only [gS,az] at g;subst g;obtain rfl:=h;exact ⟨.node none 0 [],rfl,⟨rfl,none,0,[],rfl,rfl,cf _,by simp [eZ],rfl,rfl⟩,mH rfl⟩
  |sl b p=>
   simp only [gS,az] at g;subst g;refine ⟨.leaf,rfl,⟨rfl,rfl,rfl,h⟩,?_⟩;obtain ⟨ab,Z,cap,aa,a',_,rfl⟩:=h;exact mH rfl
  |ad j x=>exact ad _ j x c cs h (by simpa [gS] using g)
  |_=>simp [gS] at g
 |unit=>
  intro v c cs h g;cases v with
  |unit=>
   simp only [gS,az] at g;subst g;exact ⟨.leaf,rfl,⟨rfl,rfl,h⟩,by rw [show cs=[] from h];intro v U;cases U⟩
  |ad j x=>exact ad _ j x c cs h (by simpa [gS] using g)
  |_=>simp [gS] at g
 |_=>
  intro v c cs h g;cases v with
  |ad j x=>exact ad _ j x c cs h (by simpa [gS] using g)
  |_=>simp [gS] at g
theorem alF (h:aA F G s a w) (g:dl P E F) {o:Oper} {t:TypeId} {x y:Operand} (u:o.op=.store t x y) (n:o.dst=none) {k:St→Option ρ} {r:ρ} {T:Ty} (j:E.jh t=some T) (hk:lP s T (s.ev x) (s.ev y) k=some r):
 o.wp P a w (ch F k r) Q:=by
 have d:=cA h x;have z:=cA h y;unfold lP at hk;split at hk;rotate_left;cases hk;rename_i K O e0;rw [e0] at d;have d:=d.b3 (by simp) (by simp) rfl;split at hk;rotate_left;cases hk;rename_i c b;have I:s.ev y≠ .un:=by intro e;rw [e] at b;cases T<;>simp [gS] at b
 have D:∀c,s.ev y≠ .tup c:=by intro c e;rw [e] at b;cases T<;>simp [gS] at b
 obtain ⟨cs,C,J⟩:=z.cells I D;obtain ⟨f,q,l,v⟩:=Q5 T _ c cs C b;exact XX (κ:=id) g u n (g.ty t T j) d J hk (tt.still h l q v)
theorem af8 (h:aA F G s a w) (q:dl P E F) {o:Oper} {x:Operand} (n:o.op=.nilCheck x) (z:∀d,o.dst=some d→d<E.nt) {k:St→Option ρ} {r:ρ} (hk:a2 E o s k=some r):
 o.wp P a w (ch F k r) Q:=by
 unfold a2 at hk;rw [n] at hk;simp only at hk;have g:=cA h x;split at hk;rename_i b p e;rw [e] at g;have l:=g.b3 (by simp) (by simp) rfl;obtain ⟨u,D,C,off,I,j⟩:=l;simp only [eK,eM] at j;exact c7 (v:=a.eval x) (w':=w) (by unfold execOp;rw [n];simp [j]) (dZ h q g z hk);rename_i u y e;rw [e] at g;have l:=g.b3 (by simp) (by simp) rfl;obtain ⟨C,off,c,j,_⟩:=l;simp only [eK,eM] at j;exact c7 (v:=a.eval x) (w':=w) (by unfold execOp;rw [n];simp [j]) (dZ h q g z hk);rename_i f c e;rw [e] at g;have l:=g.b3 (by simp) (by simp) rfl;obtain ⟨vs,_,j⟩:=l;simp only [eK,eM] at j;exact c7 (v:=a.eval x) (w':=w) (by unfold execOp;rw [n];simp [j]) (dZ h q g z hk);cases hk
theorem VI {t:TypeId} {T u:Ty} (q:bF P T t) {n:Nat} (r:cE T [.f n]=some u) (b o:Nat):
 (Instr.fieldAt t (.pointer (some ⟨b,o,none⟩)) n).run P w=.ok (.pointer (some ⟨b,o+eJ T n,none⟩)) w:=by
 obtain ⟨v,f,c,d,e,h4,h5⟩:=q.struct r;obtain ⟨i,hi,l,_⟩:=h5.hb;have h:¬i.size=0:=by rw [l];exact h4
 have g:(⟨b,o,none⟩:Addr).add f.offset=⟨b,o+eJ T n,none⟩:=by rw [Addr.add_mid,e]
 have j:(fieldPlace ⟨b,o,none⟩ f).run P w=.ok ⟨b,o+eJ T n,none⟩ w:=by
  unfold fieldPlace;simp [sizeOf,typeInfo,hi,h,g]
 unfold Instr.fieldAt;simp [run_underlying c,d,Instr.sureAddr,j]
theorem ach:∀(T:Ty) (ft:FT) (a:Option (Nat×Nat)) (n:Nat) (u:Ty),cE T [.f n]=some u→∃c,bL T ft a [.f n]=some (u,c,a.map fun x=>(x.1,x.2+eJ T n)):=by
 intro T
 induction T with
 |cons t r _ d=>
  intro ft a n u b;cases n with
  |zero=>
   have b:t=u:=by cases t<;>simpa [cE] using b
   subst b;refine ⟨ft.fst,?_⟩;have:bL t ft.fst a []=some (t,ft.fst,a):=by cases t<;>rfl
   simp only [bL,eJ,this];cases a<;>simp
  |succ n=>
   obtain ⟨c,h⟩:=d ft.snd (a.map fun x=>(x.1,x.2+t.size)) n u (by simpa [cE] using b);refine ⟨c,?_⟩;simp only [bL,h,eJ];cases a<;>simp;omega
 |_=>intro ft a n u b;simp [cE] at b
theorem Rd.field {R:Nat→Prop}:∀(T:Ty) (x:T.ai) (cs:List Value) (n:Nat) (k:(u:Ty)→u.ai→Option ρ) (r:ρ),Rd w R T x cs→cq T x [.f n] k=some r→
 ∃(u:Ty) (y:u.ai),k u y=some r∧cE T [.f n]=some u∧Rd w R u y (sub cs (eJ T n) u.size)∧eJ T n+u.size≤T.size:=by
 intro T
 induction T with
 |cons t c _ C=>
  intro x cs n k r h b;obtain ⟨e,d,rfl,g,v⟩:=h;have j:=Rd.len _ _ _ g;cases n with
  |zero=>
   have z:k t x.1=some r:=by
    have:∀(t:Ty) (x:t.ai),cq t x [] k=k t x:=by intro t x;cases t<;>rfl
    simpa [cq,this] using b
   refine ⟨t,x.1,z,by cases t<;>rfl,?_,by simp [eJ,Ty.size]⟩;simpa [sub,eJ,List.take_left' j] using g
  |succ n=>
   obtain ⟨u,y,l,o,q,D⟩:=C x.2 d n k r v (by simpa [cq] using b);refine ⟨u,y,l,by simpa [cE] using o,?_,by simp [eJ,Ty.size];omega⟩;have:sub (e++d) (eJ (.cons t c) (n+1)) u.size=sub d (eJ c n) u.size:=by
    unfold sub;rw [show eJ (.cons t c) (n+1)=e.length+eJ c n by rw [j];rfl,List.drop_length_add_append]
   rw [this];exact q
 |_=>intro x cs n k r h b;simp [cq] at b
theorem adU (h:aA F G s a w) (C:dl P E F) {o:Oper} {t:TypeId} {x:Operand} {n:Nat} (D:o.op=.fieldAddr t x n) (U:∀d,o.dst=some d→d<E.nt) {k:St→Option ρ} {r:ρ} (hk:a2 E o s k=some r):
 o.wp P a w (ch F k r) Q:=by
 unfold a2 at hk;rw [D] at hk;simp only [ea] at hk;have q:=cA h x;split at hk;rename_i T af;have W:=C.ty t T af;split at hk;rename_i b p e;rw [e] at q;have J:=q.b3 (by simp) (by simp) rfl;obtain ⟨u,ac,j,off,O,l⟩:=J;simp only [eK,eM] at l;unfold b6 at hk;split at hk;rename_i bx ah
 try dsimp only at hk
 split at hk;rename_i I;have I:cE bx.ty p=some T:=eU I;have g:=nw ah O;rw [I] at g;obtain rfl:=bk g;split at hk;rename_i v X;obtain ⟨K,ai⟩:=ach T ac (some (j,off)) n v X;have ad:ax s.box G b (p++[.f n])=some (v,K,some (j,off+eJ T n)):=by rw [tA O];exact ai
 refine c7 (w':=w) (by unfold execOp;rw [D];simp [l,VI W X];rfl) (dZ h C ?_ U hk);exact dH (v:=.ref b (p++[.f n])) (cs:=[_]) ⟨v,K,j,off+eJ T n,ad,rfl⟩ rfl;cases hk;cases hk;cases hk;rename_i u y e;rw [e] at q;have J:=q.b3 (by simp) (by simp) rfl;obtain ⟨j,off,c,l,ae,ag,aj⟩:=J;simp only [eK,eM] at l;split at hk;rename_i g;have g:u=T:=eU g;subst g;obtain ⟨v,z,Y,Z,aa,ab⟩:=Rd.field u y c n _ r aj hk;refine c7 (w':=w) (by unfold execOp;rw [D];simp [l,VI W Z];rfl) (dZ h C ?_ U Y);exact dH (v:=.bw v z) (cs:=[_]) ⟨j,off+eJ u n,_,rfl,ae,ag.sub _ _ ab,aa⟩ rfl;cases hk;cases hk;cases hk
end
def RR (F:Fr) (G:Nat→Gh) (s:St):Nat→Prop:=fun b=>F.R b∨∃i bx,s.box i=some bx∧b∈(G i).ae
section
variable {ρ:Type} {P:Program} {E:ao} {F:Fr} {G:Nat→Gh} {s:St} {a:Act} {w:World} {Q:Exit→Act→World→Prop}
theorem aA.FJ (h:aA F G s a w) {b:Nat} {bx:bl} (n:s.box b=some bx) {p:aI} {k:TV→Option ρ} {r:ρ} (hk:dd bx.c p k=some r) {t:Ty} {d:Option Nat} {cap:Nat} {j:List FT} {q:Option (Nat×Nat)}
 (g:ax s.box G b p=some (.slice t,.node d cap j,q)):
 ∃c' f,k c'=some r∧aW (ax s.box G) w F.R c' (.slice t) (.node d cap j) f∧(∀x∈(FT.node d cap j).ae,x∈(G b).ae):=by
 obtain ⟨y,I,D⟩:=(h.box b bx n).fv;obtain ⟨c',u,O,a',f,z,l,C,K⟩:=aW.get bx.c bx.ty (G b).ft y ((G b).bg.map (·,0)) p _ r I (fun v o e=>(D v o e).1) hk;rw [fR n,l] at g;simp only [az,aO] at g;obtain ⟨rfl,rfl,rfl⟩:=g;exact ⟨c',f,z,C,fun x J=>by simp only [Gh.ae,aZ];exact .inr ((gm _ _ _ _ l).1 x J)⟩
theorem TY (h:aA F G s a w) {b:Nat} {bx:bl} (l:s.box b=some bx) {p:aI} {k:Nat→Option ρ} {r:ρ} (hk:jX s (.sl b p) k=some r) {t:Ty} {g:Option Nat} {cap:Nat} {f:List FT} {n:Option (Nat×Nat)}
 (v:ax s.box G b p=some (.slice t,.node g cap f,n)):k f.length=some r∧(g=none→f.length=0):=by
 simp only [jX,b6,l] at hk;obtain ⟨c',C,c,j,_⟩:=h.FJ l hk v;split at c;rename_i u y;obtain ⟨e,o⟩:=j;simp only [Ty.slice.injEq] at e;subst e;obtain ⟨_,_,_,d,_,h6,h4,h5,q⟩:=o
 grind
 ·rcases gk.out j with ⟨xs,_,rfl,x,z,D,d,_,h6,h4,h5,_,q⟩|⟨_,rfl,_⟩|⟨_,rfl,_⟩
  rotate_left;cases c;cases c;simp only [FT.node.injEq] at d;obtain ⟨rfl,rfl,rfl⟩:=d;refine ⟨by rw [h5];exact c,fun e=>?_⟩;simp_all
 cases c
theorem TZ (h:aA F G s a w) {v:TV} {x:Value} (g:VR (ax s.box G) w F.R v x) {k:Nat→Option ρ} {r:ρ} (hk:jX s v k=some r):
 ∃n f cap,k n=some r∧x=.slice f n cap∧n≤eZ∧n≤cap:=by
 unfold jX at hk;split at hk;have:=g.b3 (by simp) (by simp) rfl;have:[x]=[Value.slice none 0 0]:=this
 grind
 have:=g.b3 (by simp) (by simp) rfl;obtain ⟨f,cap,K,q,_⟩:=this
 grind
 rename_i b p;obtain ⟨t,C,cap,I,f,z,l⟩:=g.b3 (by simp) (by simp) rfl;simp only [eK,eM] at l;unfold b6 at hk;split at hk;rename_i bx D;obtain ⟨c',J,d,o,_⟩:=h.FJ D hk z;split at d;rename_i u y;obtain ⟨e,q⟩:=o;simp only [Ty.slice.injEq] at e;subst e;obtain ⟨_,_,_,j,_,h6,h4,h5,_⟩:=q
 grind
 ·rcases gk.out o with ⟨xs,_,rfl,_,_,_,j,_,h6,h4,h5,_,_⟩|⟨_,rfl,_⟩|⟨_,rfl,_⟩
  rotate_left;cases d;cases d;simp only [FT.node.injEq] at j;obtain ⟨rfl,rfl,rfl⟩:=j;exact ⟨_,_,_,d,by rw [l,h5],h4,h6⟩
 cases d;cases hk;obtain ⟨t,C,cap,I,f,z,U,a',c,l,O,_⟩:=g.b3 (by simp) (by simp) rfl
 grind
 cases hk
theorem ue {n:Nat} {i:Int} {k:Nat→Option ρ} {r:ρ} (h:gJ n i k=some r):∃m:Nat,i=m∧m<n∧k m=some r:=by
 unfold gJ at h;split at h;rename_i m;split at h;rename_i b;exact ⟨m,rfl,Nat.lt_of_succ_le (pV b),h⟩;cases h;cases h
theorem KG {α:Type} {l:List α} {i:Int} {y:α} (h:pb l i=some y):∃m:Nat,i=m∧l[m]?=some y:=by
 unfold pb at h;split at h
 grind
 cases h
theorem lu {A:bY} {R:Nat→Prop} {v:TV} {x:Value} (c:VR A w R v x) {k:IntKind→Int→Option ρ} {r:ρ} (h:asInt v k=some r):∃b n,x=.int b n∧k b n=some r:=by
 unfold asInt at h;split at h;exact ⟨_,_,c.int,h⟩;cases h
theorem run_indexAt_slice {t:TypeId} {T:Ty} (h:bF P (.slice T) t) {b o len cap:Nat} {l:IntKind} {m:Nat} (f:m<len):
 (Instr.indexAt t (.slice (some ⟨b,o,none⟩) len cap) (.int l m)).run P w=.ok (.pointer (some ⟨b,o+m*T.size,none⟩)) w:=by
 obtain ⟨e,j,d⟩:=h.slice;obtain ⟨i,hi,g,_⟩:=d.hb;have c:(⟨b,o,none⟩:Addr).add (m*T.size)=⟨b,o+m*T.size,none⟩:=Addr.add_mid _ _ _;unfold Instr.indexAt;simp [asIntOf,run_underlying j,f,sizeOf,typeInfo,hi,g,c]
theorem ais {t:TypeId} {T:Ty} {n:Nat} (h:bF P (.arr n T) t) {b o:Nat} {l:IntKind} {m:Nat} (f:m<n):
 (Instr.indexAt t (.pointer (some ⟨b,o,none⟩)) (.int l m)).run P w=.ok (.pointer (some ⟨b,o+m*T.size,none⟩)) w:=by
 obtain ⟨e,j,d,_⟩:=h.arr;obtain ⟨i,hi,g,_⟩:=d.hb;have c:(⟨b,o,none⟩:Addr).add (m*T.size)=⟨b,o+m*T.size,none⟩:=Addr.add_mid _ _ _;unfold Instr.indexAt;simp [asIntOf,run_underlying j,f,sizeOf,typeInfo,hi,g,c,Instr.sureAddr]
theorem aeJ (h:aA F G s a w) (W:dl P E F) {o:Oper} {t:TypeId} {x y:Operand} (Y:o.op=.indexAddr t x y) (aa:∀d,o.dst=some d→d<E.nt) {k:St→Option ρ} {r:ρ} (hk:a2 E o s k=some r):
 o.wp P a w (ch F k r) Q:=by
 unfold a2 at hk;rw [Y] at hk;simp only [ea] at hk;have q:=cA h x;have an:=cA h y;split at hk;rename_i T aj;have ab:=W.ty t T aj;unfold nK at hk;obtain ⟨au,i,ac,ak⟩:=lu an hk;clear hk;revert ak;intro hk;split at hk;rename_i u xs e;rw [e] at q;split at hk;rename_i f;have f:T=.slice u:=eU f;subst f;cases ae:pb (α:=u.ai) xs i with
 |some z=>
  rw [ae] at hk;obtain ⟨m,rfl,g⟩:=KG ae;obtain ⟨af,cap,I,ap,ag⟩:=q.b3 (by simp) (by simp) rfl;simp only [eK,eM] at I;have X:m<List.length (α:=u.ai) xs:=(bR.1 g).1;obtain ⟨b,ao,rfl,ah,h4⟩:=ag (by grind);obtain ⟨c,Z,al⟩:=h4 m z g;refine c7 (w':=w) (by unfold execOp;rw [Y];simp [I,ac,run_indexAt_slice ab X];rfl) (dZ h W ?_ aa hk);exact dH (v:=.bw u z) (cs:=[_]) ⟨b,ao+m*u.size,c,rfl,ah,Z,al⟩ rfl
 |none=>rw [ae] at hk;cases hk
 cases hk;rename_i b p e;rw [e] at q;unfold b6 at hk;split at hk;rename_i bx J
 try dsimp only at hk
 split at hk;rename_i j;have j:cE bx.ty p=some T:=eU j;obtain ⟨u,K,cap,D,af,l,C⟩:=q.b3 (by simp) (by simp) rfl;simp only [eK,eM] at C;have f:=nw J l;rw [j] at f;obtain rfl:=bk f;obtain ⟨hk,ar⟩:=TY h J hk l;obtain ⟨m,rfl,g,hk⟩:=ue hk;have ad:D[m]?=some (D[m]'g):=aT g;cases K with
 |none=>
  simp_all
 |some K=>
  have U:ax s.box G b (p++[.i m])=some (u,D[m]'g,some (K,m*u.size)):=by
   rw [tA l];simp only [bL,ad]
  refine c7 (w':=w) (by unfold execOp;rw [Y];simp [C,ac,run_indexAt_slice ab g];rfl) (dZ h W ?_ aa hk);exact dH (v:=.ref b (p++[.i m])) (cs:=[_]) ⟨u,_,K,m*u.size,U,rfl⟩ rfl
 cases hk;cases hk;rename_i b p lo n e;rw [e] at q;unfold b6 at hk;split at hk;rename_i bx J
 try dsimp only at hk
 split at hk;rename_i j;have j:cE bx.ty p=some T:=eU j;obtain ⟨u,K,cap,D,af,l,aq,a',c',C,am⟩:=q.b3 (by simp) (by simp) rfl;simp only [eK,eM] at C;have f:=nw J l;rw [j] at f;obtain rfl:=bk f;obtain ⟨m,rfl,g,hk⟩:=ue hk;obtain ⟨O,rfl,rfl⟩:=am.2 (by omega);have X:lo+m<D.length:=by omega
 have ad:D[lo+m]?=some (D[lo+m]'X):=aT X;have U:ax s.box G b (p++[.i (lo+m)])=some (u,D[lo+m]'X,some (O,(lo+m)*u.size)):=by
  rw [tA l];simp only [bL,ad]
 refine c7 (w':=w) (by unfold execOp;rw [Y];simp [C,ac,run_indexAt_slice ab g];rfl) (dZ h W ?_ aa hk);exact dH (v:=.ref b (p++[.i (lo+m)])) (cs:=[_]) ⟨u,_,O,lo*u.size+m*u.size,by rw [←Nat.add_mul];exact U,rfl⟩ rfl;cases hk;cases hk;rename_i b p e;rw [e] at q;unfold b6 at hk;split at hk;rename_i bx J
 try dsimp only at hk
 split at hk;rename_i j;have j:cE bx.ty p=some T:=eU j;obtain ⟨u,ft,O,off,l,C⟩:=q.b3 (by simp) (by simp) rfl;simp only [eK,eM] at C;have f:=nw J l;rw [j] at f;obtain rfl:=bk f;cases T with
 |arr n v=>
  try dsimp only at hk
  split at hk;cases hk;rename_i Z;simp only [fc,gQ,jF] at Z;obtain ⟨m,rfl,g,hk⟩:=ue hk;have I:1<n:=by
   rcases Nat.lt_or_ge 1 n with I|I
   exact I;have:=u6 I;simp_all
  have U:ax s.box G b (p++[.i m])=some (v,.leaf,some (O,off+m*v.size)):=by
   rw [tA l];simp only [bL,Z.1,k7];simp_all
  refine c7 (w':=w) (by unfold execOp;rw [Y];simp [C,ac,ais ab g];rfl) (dZ h W ?_ aa hk);exact dH (v:=.ref b (p++[.i m])) (cs:=[_]) ⟨v,_,O,off+m*v.size,U,rfl⟩ rfl
 |_=>cases hk
 cases hk;cases hk;cases hk;cases hk
end
section
variable {ρ:Type} {P:Program} {E:ao} {F:Fr} {G:Nat→Gh} {s:St} {a:Act} {w:World} {Q:Exit→Act→World→Prop}
theorem MC (h:aA F G s a w) {t:Ty} {v:TV} {x:Value} (I:VR (ax s.box G) w F.R v x) {k:List t.ai→Option ρ} {r:ρ} (hk:hj s t v k=some r):
 ∃xs:List t.ai,k xs=some r∧Rd w (RR F G s) (.slice t) xs [x]:=by
 unfold hj at hk;split at hk;have:[x]=[Value.slice none 0 0]:=I.b3 (by simp) (by simp) rfl;simp only [eK,eM] at this;subst this;exact ⟨[],hk,none,0,rfl,⟨cf _,by simp [eZ]⟩,fun h=>absurd rfl h⟩;rename_i u y;split at hk;rename_i xs f;obtain ⟨rfl,rfl⟩:=e4 f;exact ⟨_,hk,Rd.bQ (fun b W=>.inl W) (fun _ _=>rfl) _ _ _ (I.b3 (by simp) (by simp) rfl)⟩;cases hk;rename_i b p;obtain ⟨ay,ag,cap,av,af,U,J⟩:=I.b3 (by simp) (by simp) rfl;simp only [eK,eM] at J;unfold b6 at hk;split at hk;rename_i bx j;obtain ⟨c',ak,d,C,D⟩:=h.FJ j hk U;split at d;rename_i u y;split at d;rename_i xs f;obtain ⟨rfl,rfl⟩:=e4 f;obtain ⟨e,l⟩:=C;simp only [Ty.slice.injEq] at e;subst e;have aa:=bb.rd (R:=RR F G s) _ _ _ _ (fun K X=>.inr ⟨b,bx,j,D K X⟩) l;refine ⟨_,d,?_⟩;obtain ⟨_,_,_,g,h5,_,_,h6,_⟩:=l;simp_all;cases d;rename_i u y;split at d;rename_i xs f;obtain ⟨rfl,rfl⟩:=e4 f;rcases gk.out C with ⟨_,_,q,_⟩|⟨_,q,_⟩|⟨zs,q,am⟩
 cases q;cases q;obtain ⟨Y,ap⟩:=TV.ad.inj q;simp only [Ty.slice.injEq] at Y;subst Y;obtain rfl:=eq_of_heq ap;obtain ⟨O,aj,a4,g,_,_,h5,h6,o,_,h8⟩:=am;simp only [FT.node.injEq] at g;obtain ⟨rfl,rfl,rfl⟩:=g;refine ⟨_,d,some ⟨O,0,none⟩,cap,by rw [J,o];rfl,⟨h5,h6⟩,fun _=>⟨O,0,rfl,.inr ⟨b,bx,j,D O (by simp [FT.ae])⟩,fun i z ab=>?_⟩⟩;obtain ⟨c,a2,an⟩:=h8 i z ab;exact ⟨c,by simp_all,Rd.bQ (fun b W=>.inl W) (fun _ _=>rfl) _ _ _ an⟩;cases d;cases d;cases hk;rename_i b p lo n;obtain ⟨ay,ag,cap,av,af,U,aq,a',c,J,ao,ar⟩:=I.b3 (by simp) (by simp) rfl;simp only [eK,eM] at J;unfold b6 at hk;split at hk;rename_i bx j;obtain ⟨c',ak,d,C,D⟩:=h.FJ j hk U;split at d;rename_i u y;split at d;rename_i xs f;obtain ⟨rfl,rfl⟩:=e4 f;obtain ⟨e,l⟩:=C;simp only [Ty.slice.injEq] at e;subst e;have aa:=bb.rd (R:=RR F G s) _ _ _ _ (fun K X=>.inr ⟨b,bx,j,D K X⟩) l;refine ⟨_,d,?_⟩;obtain ⟨_,_,_,g,h5,_,_,h6,_⟩:=l;simp only [FT.node.injEq] at g;obtain ⟨rfl,rfl,rfl⟩:=g;obtain ⟨a0,aj,o,h8,h9⟩:=aa;rw [h5] at o;simp only [eK,Value.slice.injEq,eM] at o;obtain ⟨rfl,_,rfl⟩:=o;have Z:((List.drop (α:=t.ai) lo y).take n).length=n:=by
  grind
 refine ⟨a',c,by simp_all,⟨by rw [Z];exact ao.1,by rw [Z];exact aq.2⟩,fun a3=>?_⟩;have al:0<n:=by
  grind
 obtain ⟨ah,rfl,rfl⟩:=ar al;have au:(show List t.ai from y)≠[]:=by
  grind
 obtain ⟨a1,a5,ac,aw,a6⟩:=h9 au;simp only [cx,az,Addr.mk.injEq,eM] at ac;obtain ⟨rfl,rfl⟩:=ac;refine ⟨ah,lo*t.size,rfl,aw,fun i z ab=>?_⟩
 grind
 cases d;cases d;cases hk;cases hk
theorem Fv (h:aA F G s a w):∀(t:Ty) (v:TV) (cs:List Value) (k:t.ai→Option ρ) (r:ρ),bH (ax s.box G) w F.R v cs→dT s t v k=some r→
 ∃x:t.ai,k x=some r∧Rd w (RR F G s) t x cs:=by
 intro t;have g:∀(t u:Ty) (x:u.ai) (cs:List Value) (k:t.ai→Option ρ) (r:ρ),bH (ax s.box G) w F.R (.ad u x) cs→(∃y,cM u t x=some y∧k y=some r)→∃y:t.ai,k y=some r∧Rd w (RR F G s) t y cs:=by
  intro t u x cs k r e ⟨y,l,hk⟩;obtain ⟨rfl,rfl⟩:=e4 l;exact ⟨_,hk,Rd.bQ (fun b J=>.inl J) (fun _ _=>rfl) _ _ _ e⟩
 induction t with
 |slice t _=>
  intro v cs k r e hk;have hk:hj s t v k=some r:=by cases v<;>simpa [dT] using hk
  have j:∃x,cs=[x]∧v.agg=false:=by
   cases v with
   |ad u x=>
    simp only [hj] at hk;split at hk;rename_i xs l;obtain ⟨rfl,rfl⟩:=e4 l;obtain ⟨X,cap,rfl,_⟩:=e;exact ⟨_,rfl,rfl⟩;cases hk
   |nil=>exact ⟨_,e,rfl⟩
   |sl b p=>obtain ⟨_,_,_,_,_,_,rfl⟩:=e;exact ⟨_,rfl,rfl⟩
   |slw b p lo n=>obtain ⟨_,_,_,_,_,_,_,_,_,rfl,_⟩:=e;exact ⟨_,rfl,rfl⟩
   |_=>simp [hj] at hk
  obtain ⟨x,rfl,I⟩:=j;exact MC h (dH e (by rw [I];rfl)) hk
 |cons t u K O=>
  intro v cs k r e hk;cases v with
  |cons c d=>
   obtain ⟨o,q,rfl,j,D⟩:=e;simp only [dT] at hk;obtain ⟨x,z,U⟩:=K c o _ r j hk;obtain ⟨y,C,W⟩:=O d q _ r D z;exact ⟨(x,y),C,o,q,rfl,U,W⟩
  |ad f x=>exact g _ f x cs k r e (by simp only [dT] at hk;grind)
  |_=>simp [dT] at hk
 |unit=>
  intro v cs k r e hk;cases v with
  |unit=>exact ⟨(),by simpa [dT] using hk,⟨rfl,trivial,e⟩⟩
  |ad f x=>exact g _ f x cs k r e (by simp only [dT] at hk;grind)
  |_=>simp [dT] at hk
 |_=>
  intro v cs k r e hk;cases v with
  |ad f x=>exact g _ f x cs k r e (by simp only [dT] at hk;grind)
  |_=>simp [dT] at hk
end
section
variable {ρ:Type} {P:Program} {E:ao} {F:Fr} {G:Nat→Gh} {s:St} {a:Act} {w:World} {Q:Exit→Act→World→Prop}
theorem acK {op:BinOp} {c d:IntKind} {x y:Int} {k:TV→Option ρ} {r:ρ} (b:MA op=true∨c=d) (h:ki op c x y k=some r) (t:TypeId):
 ∃tv v,k tv=some r∧(binOp op t (.int c x) (.int d y)).run P w=.ok v w∧∀(A:bY) (R:Nat→Prop),VR A w R tv v:=by
 cases op
 case shl=>
  simp only [ki] at h;split at h;rename_i n;refine ⟨_,_,h,?_,fun A R=>g1 _ _⟩;simp [binOp,Op.shift];intro h;omega;cases h
 case shr=>
  simp only [ki] at h;split at h;rename_i n;refine ⟨_,_,h,?_,fun A R=>g1 _ _⟩;simp [binOp,Op.shift];intro h;omega;cases h
 all_goals (rcases b with b|rfl;· simp [MA] at b)
 case quo=>
  simp only [ki] at h;split at h;cases h;exact ⟨_,_,h,(by simp [binOp,Op.intDiv];intro h;omega),fun A R=>g1 _ _⟩;exact ⟨_,_,h,by simp [binOp,Op.intDiv],fun A R=>g1 _ _⟩
 case rem=>
  simp only [ki] at h;split at h;cases h;exact ⟨_,_,h,(by simp [binOp,Op.intDiv];intro h;omega),fun A R=>g1 _ _⟩;exact ⟨_,_,h,by simp [binOp,Op.intDiv],fun A R=>g1 _ _⟩
 case add=>exact ⟨_,_,h,by simp [binOp,Op.intArith],fun A R=>g1 _ _⟩
 case sub=>exact ⟨_,_,h,by simp [binOp,Op.intArith],fun A R=>g1 _ _⟩
 case mul=>exact ⟨_,_,h,by simp [binOp,Op.intArith],fun A R=>g1 _ _⟩
 case and=>exact ⟨_,_,h,by simp [binOp,Op.intBits],fun A R=>g1 _ _⟩
 case or=>exact ⟨_,_,h,by simp [binOp,Op.intBits],fun A R=>g1 _ _⟩
 case xor=>exact ⟨_,_,h,by simp [binOp,Op.intBits],fun A R=>g1 _ _⟩
 case andNot=>simp [ki,Kk] at h
 all_goals
  simp only [ki,Kk] at h;exact ⟨_,_,h,by simp [binOp,Op.intCmp],fun A R=>pG _⟩
theorem adI (op:BinOp) (t:TypeId) (x y:Operand) (k k':IntKind) (m n:Int):(eqGuard op t x y (.int k m) (.int k' n)).run P w=.ok () w:=by
 cases op<;>simp [eqGuard]
theorem Kw (op:BinOp) (t:TypeId) (x y:Operand) (m n:ByteArray):(eqGuard op t x y (.string m) (.string n)).run P w=.ok () w:=by
 cases op<;>simp [eqGuard]
theorem Tj (op:BinOp) (t:TypeId) (x y:Operand) (m n:Bool):(eqGuard op t x y (.bool m) (.bool n)).run P w=.ok () w:=by
 cases op<;>simp [eqGuard]
theorem toList_mk (l:List UInt8):(ByteArray.mk l.toArray).toList=l:=by
 simp_all
theorem ain (t:TypeId) (l b:List UInt8) (d:l.length+b.length≤bu):(binOp .add t (.string ⟨l.toArray⟩) (.string ⟨b.toArray⟩)).run P w=.ok (.string ⟨(l++b).toArray⟩) w:=by
 have c:∀m:List UInt8,(ByteArray.mk m.toArray).size=m.length:=fun m=>by simp [ByteArray.size]
 rw [binOp_string_add];simp only [Op.stringOp];rw [c,c,aj (by simp [IntKind.max,IntKind.signed,IntKind.bits];unfold bu at d;omega)];simp only [Sem.run_pure];congr 2
theorem aix (t:TypeId) (l b:List UInt8):(binOp .eql t (.string ⟨l.toArray⟩) (.string ⟨b.toArray⟩)).run P w=.ok (.bool (l==b)) w:=by
 simp [binOp_string_eql]
theorem aiy (t:TypeId) (l b:List UInt8):(binOp .neq t (.string ⟨l.toArray⟩) (.string ⟨b.toArray⟩)).run P w=.ok (.bool (!(l==b))) w:=by
 simp [binOp_string_neq]
theorem Fh:∀{T:Ty},T.plain=true→T.aQ=true
 | .int _,_=>rfl
 | .bool,_=>rfl
 | .bP,_=>rfl
 | .unit,_=>rfl
 | .cons _ _,h=>by simp only [Ty.plain,bp] at h;simp only [Ty.aQ,bp];exact ⟨Fh h.1,Fh h.2⟩
 | .bG,h=>by simp [Ty.plain] at h
 | .slice _,h=>by simp [Ty.plain] at h
 | .arr _ _,h=>by simp [Ty.plain] at h
theorem tU:∀(T:Ty) (x:T.ai),T.plain=true→(bE T x).length=T.size
 | .int _,_,_=>rfl
 | .bool,_,_=>rfl
 | .bP,_,_=>rfl
 | .unit,_,_=>rfl
 | .cons t r,x,h=>by
  simp only [Ty.plain,bp] at h;simp [bE,Ty.size,tU t x.1 h.1,tU r x.2 h.2]
 | .bG,_,h=>by simp [Ty.plain] at h
 | .slice _,_,h=>by simp [Ty.plain] at h
 | .arr _ _,_,h=>by simp [Ty.plain] at h
def ku (T:Ty) (cs:List Value):Value:=if T.agg then .agg cs.toArray else cs.headD undef
theorem FC {T:Ty} {t:TypeId} (g:bF P T t) {pre cs post:List Value} (f:cs.length=T.size) (j:T.agg=false→T.size=1):
 (part t (pre++cs++post).toArray pre.length).run P w=.ok (ku T cs) w:=by
 obtain ⟨d,h,e⟩:=g.row;obtain ⟨i,hi,l,_⟩:=g.hb;unfold part;cases b:T.agg with
 |true=>
  have c:(isAgg t).run P w=.ok true w:=by
   unfold isAgg;rw [Sem.run_bind,run_underlying h w];rw [b] at e;cases d<;>simp_all
  simp only [Sem.run_bind,c,Result.andThen_ok,b5,sizeOf,typeInfo,Sem.run_pure,hi,run_program,l];congr 1;simp only [ku,b,b5];simp_all
 |false=>
  have c:(isAgg t).run P w=.ok false w:=by
   unfold isAgg;rw [Sem.run_bind,run_underlying h w];rw [b] at e;cases d<;>simp_all
  rw [j b] at f
  match cs,f with
  |[v],_=>
   simp only [Sem.run_bind,c,Result.andThen_ok,hl,cL];simp [ku,b]
theorem adJ:∀(T:Ty),(∀(d:Nat) (t:TypeId) (x y:T.ai),T.plain=true→T≠ .unit→T.mN<d→bF P T t→∀w,(Op.equalIn d t (ku T (bE T x)) (ku T (bE T y))).run P w=.ok (iS T x y) w)∧
 (∀(d o:Nat) (l:List Field) (x y:T.ai) (pre c:List Value),T.plain=true→T.mN≤d→cN P T l o=true→pre.length=o→c.length=o→∀w,(Op.eqFields d (pre++bE T x).toArray (c++bE T y).toArray l).run P w=.ok (iS T x y) w):=by
 intro T
 induction T with
 |cons t r af ae=>
  have step:∀(d o:Nat) (f:Field) (l:List Field) (x y:(Ty.cons t r).ai) (pre c:List Value),(Ty.cons t r).plain=true→(Ty.cons t r).mN≤d→f.offset=o→t.size≠0→f.name≠ "_" →bF P t f.type→cN P r l (o+t.size)=true→pre.length=o→c.length=o→
   ∀w,(Op.eqFields d (pre++bE (.cons t r) x).toArray (c++bE (.cons t r) y).toArray (f::l)).run P w=.ok (iS (.cons t r) x y) w:=by
   intro d o f l x y pre c j u z ab ac h4 h5 q C w;simp only [Ty.plain,bp] at j;simp only [Ty.mN] at u;have ad:t≠ .unit:=by intro e;subst e;exact ab rfl
   have I:d=(d-1)+1:=by omega
   have ah:=FC (w:=w) h4 (pre:=pre) (post:=bE r x.2) (tU t x.1 j.1) (mS t);have aj:=FC (w:=w) h4 (pre:=c) (post:=bE r y.2) (tU t y.1 j.1) (mS t);have v:=(af.1) d f.type x.1 y.1 j.1 ad (by omega) h4 w;have D:=(ae.2) d (o+t.size) l x.2 y.2 (pre++bE t x.1) (c++bE t y.1) j.2 (by omega) h5 (by simp [q,tU t x.1 j.1]) (by simp [C,tU t y.1 j.1]) w;simp only [bE];rw [←c6,←c6];simp only [Op.eqFields,ac,ne_eq,not_false_eq_true,b5,Sem.run_bind];rw [z,←q,ah];simp only [Result.andThen_ok];rw [q,←C,aj];simp only [Result.andThen_ok,v,Sem.run_ite];simp only [iS];cases iS t x.1 y.1 with
   |false=>simp
   |true=>
    grind
  refine ⟨fun d O x y j _ u b w=>?_,fun d o l x y pre c j u g q C w=>?_⟩;have ak:=b;unfold bF at b;simp only [dS,bp] at b;obtain ⟨⟨⟨_,z⟩,_⟩,h⟩:=b;split at h;rename_i U K;split at h;rename_i f l q;simp only [bp,ff,hn,h7,bne_iff_ne] at h;obtain ⟨⟨⟨⟨W,X⟩,Y⟩,Z⟩,aa⟩:=h;have J:P.fieldsOf O=U:=by simp [Program.fieldsOf,K]
  have I:d=(d-1)+1:=by omega
  rw [I];simp only [ku,Ty.agg,b5];rw [run_equalIn_struct w (d-1) O _ _ (by rw [J];exact K) (by simpa using z),J,q];exact step (d-1) 0 f l x y [] [] j (by omega) W X Y Z (by simpa using aa) rfl rfl w;cases h;cases h;cases l with
  |nil=>simp [cN] at g
  |cons f l=>
   simp only [cN,bp,ff,hn,h7,bne_iff_ne] at g
   grind
 |unit=>
  refine ⟨fun d t x y _ h=>absurd rfl h,fun d o l x y pre c _ _ g _ _ w=>?_⟩;cases l with
  |nil=>rfl
  |cons f l=>simp [cN] at g
 |int ag=>
  refine ⟨fun d t x y _ _ u b w=>?_,fun d o l x y pre c _ _ g=>by cases l<;>simp [cN] at g⟩;unfold bF at b;simp only [dS,bp] at b;obtain ⟨_,h⟩:=b;split at h;rename_i k' hk;rw [show d=(d-1)+1 by omega];exact run_equalIn_int w (d-1) t ag k' x y hk;cases h
 |bool=>
  refine ⟨fun d t x y _ _ u b w=>?_,fun d o l x y pre c _ _ g=>by cases l<;>simp [cN] at g⟩;unfold bF at b;simp only [dS,bp] at b;obtain ⟨_,h⟩:=b;split at h;rename_i hk;rw [show d=(d-1)+1 by omega];exact run_equalIn_bool' w (d-1) t x y hk;cases h
 |bP=>
  refine ⟨fun d t x y _ _ u b w=>?_,fun d o l x y pre c _ _ g=>by cases l<;>simp [cN] at g⟩;unfold bF at b;simp only [dS,bp] at b;obtain ⟨_,h⟩:=b;split at h;rename_i hk;rw [show d=(d-1)+1 by omega];have:=run_equalIn_string w (d-1) t ⟨List.toArray (α:=UInt8) x⟩ ⟨List.toArray (α:=UInt8) y⟩ hk;have v:(ByteArray.mk (List.toArray (α:=UInt8) x)).toList=x:=toList_mk x;have D:(ByteArray.mk (List.toArray (α:=UInt8) y)).toList=y:=toList_mk y;rw [v,D] at this;exact this;cases h
 |bG=>exact ⟨fun d t x y h=>by simp [Ty.plain] at h,fun d o l x y pre c h=>by simp [Ty.plain] at h⟩
 |slice t _=>exact ⟨fun d t x y h=>by simp [Ty.plain] at h,fun d o l x y pre c h=>by simp [Ty.plain] at h⟩
 |arr n t _=>exact ⟨fun d t x y h=>by simp [Ty.plain] at h,fun d o l x y pre c h=>by simp [Ty.plain] at h⟩
theorem acM {A:bY} {R:Nat→Prop} (X:∀t T,E.jh t=some T→bF P T t) {op:BinOp} {t:TypeId} {u v:TV} {x y:Value} {ox oy:Operand} (j:VR A w R u x) (o:VR A w R v y) {k:TV→Option ρ} {r:ρ} (h:tD op (E.jh t) u v k=some r):
 ∃tv z,k tv=some r∧(eqGuard op t ox oy x y).run P w=.ok () w∧(binOp op t x y).run P w=.ok z w∧VR A w R tv z:=by
 unfold tD at h;split at h;rename_i ak m al n;obtain rfl:=j.int;obtain rfl:=o.int;split at h;rename_i d;obtain ⟨tv,z,aa,ab,ac⟩:=acK (by simpa using d) h t;exact ⟨tv,z,aa,adI _ _ _ _ _ _ _ _,ab,ac A R⟩;cases h;rename_i l c;obtain ⟨rfl,ai⟩:=j.bP;obtain ⟨rfl,aj⟩:=o.bP;split at h;split at h;rename_i g;have g:List.length (α:=UInt8) l+List.length (α:=UInt8) c≤bu:=eU g;exact ⟨_,_,h,Kw _ _ _ _ _ _,ain t l c g,Nt (l:=List.append (α:=UInt8) l c) (by
  have e:(List.append (α:=UInt8) l c).length=List.length (α:=UInt8) l+List.length (α:=UInt8) c:=cw;rw [e];unfold eZ;unfold bu at g;omega)⟩
 cases h;exact ⟨_,_,h,Kw _ _ _ _ _ _,aix t l c,pG _⟩;exact ⟨_,_,h,Kw _ _ _ _ _ _,aiy t l c,pG _⟩;cases h;rename_i b W;obtain rfl:=j.bool;obtain rfl:=o.bool;split at h;cases h;rename_i d;have C:E.jh t=some .bool:=by simpa using d
 have f:=X t _ C;have Z:P.underlying t=some .bool:=by
  unfold bF at f;simp only [dS,bp] at f
  grind
 split at h;exact ⟨_,_,h,Tj _ _ _ _ _ _,run_eql_bool w t b W Z,pG _⟩;exact ⟨_,_,h,Tj _ _ _ _ _ _,run_neq_bool w t b W Z,pG _⟩;cases h;rename_i O U m am n;split at h;rename_i d;simp only [bp,kG] at d;obtain ⟨⟨I,ae⟩,C⟩:=d;split at h;rename_i an ad;obtain ⟨rfl,rfl⟩:=e4 ad;have f:=X t _ C;have Y:P.eqGuardType P.depth t=false:=by
  have q:=f;unfold bF at q;simp only [dS,bp] at q;simpa using q.1.2
 obtain ⟨cs,af,J⟩:=j.cells (by simp) (by simp);obtain ⟨ah,ag,K⟩:=o.cells (by simp) (by simp);obtain ⟨_,rfl⟩:=Rd.aQ (Fh I) af;obtain ⟨_,rfl⟩:=Rd.aQ (Fh I) ag;have J:x=.agg (bE (.cons O U) m).toArray:=J;have K:y=.agg (bE (.cons O U) n).toArray:=K;subst J K;have D:=((adJ (P:=P) (.cons O U)).1 10000 t m n I (by simp) (by have:=pV ae;omega) f) w;simp only [ku,Ty.agg,b5] at D;split at h;refine ⟨_,_,h,run_eqGuard_agg w _ t ox oy _ _ Y,?_,pG _⟩;rw [run_eql_struct,D];rfl;refine ⟨_,_,h,run_eqGuard_agg w _ t ox oy _ _ Y,?_,pG _⟩;rw [run_neq_struct,D];rfl;cases h;cases h;cases h;cases h
theorem acN (h:aA F G s a w) (b:dl P E F) {o:Oper} {op:BinOp} {t n:TypeId} {x y:Operand} (c:o.op=.binOp op t x y n) (l:∀d,o.dst=some d→d<E.nt) {k:St→Option ρ} {r:ρ} (hk:a2 E o s k=some r):
 o.wp P a w (ch F k r) Q:=by
 unfold a2 at hk;rw [c] at hk;simp only at hk;obtain ⟨tv,z,e,f,g,j⟩:=acM b.ty (ox:=x) (oy:=y) (cA h x) (cA h y) hk;exact c7 (v:=z) (w':=w) (by unfold execOp;rw [c];simp [f,g]) (dZ h b j l e)
theorem amf (h:aA F G s a w) (g:dl P E F) {o:Oper} {op:UnOp} {t:TypeId} {x:Operand} (f:o.op=.unOp op t x) (j:∀d,o.dst=some d→d<E.nt) {k:St→Option ρ} {r:ρ} (hk:a2 E o s k=some r):
 o.wp P a w (ch F k r) Q:=by
 unfold a2 at hk;rw [f] at hk;simp only at hk;have c:=cA h x;split at hk;rename_i b e;rw [e] at c;have:=c.bool;exact c7 (v:=.bool (!b)) (w':=w) (by unfold execOp;rw [f];simp [this,Op.unary]) (dZ h g (pG _) j hk);rename_i l n e;rw [e] at c;have:=c.int;simp only [ki] at hk;exact c7 (v:=.int l (l.wrap ((0:Int)-(show Int from n)))) (w':=w) (by unfold execOp;rw [f];simp [this,Op.unary,Op.intArith]) (dZ h g (g1 _ _) j hk);cases hk
end
section
variable {ρ:Type} {P:Program} {E:ao} {F:Fr} {G:Nat→Gh} {s:St} {a:Act} {w w2:World} {Q:Exit→Act→World→Prop}
theorem q2 {K:Ty} {t:TypeId} (h:pk P K t=true):∃c b,P.underlying t=some (.map c b)∧bF P K c∧bF P (.int .i64) b∧iY K:=by
 unfold pk at h;split at h;rename_i c b d;simp only [bp,fc,kG] at h;exact ⟨c,b,d,h.1.1,h.1.2,h.2⟩;cases h
theorem bF.i64 {t:TypeId} (h:bF P (.int .i64) t):P.underlying t=some (.int .i64):=by
 simp only [bF,dS,bp] at h
 grind
theorem VJ {e:TypeId} (b:P.underlying e=some (.int .i64)) (cs:Array Value) (n:Nat) (v:Value) (d:cs[n]?=some v) (w:World):(part e cs n).run P w=.ok v w:=by
 unfold part;have c:(isAgg e).run P w=.ok false w:=by
  unfold isAgg;rw [Sem.run_bind,run_underlying b w];rfl
 simp_all
theorem VH {b:TypeId} (h:P.underlying b=some (.int .i64)) (em:Bool) (n:Nat) (x:Int) (w:World):(Instr.checkKey em (n+1) b (.int .i64 x)).run P w=.ok () w:=by
 unfold Instr.checkKey;simp [run_underlying h]
theorem yH {K:Ty} {e:TypeId} (hk:iY K) (d:bF P K e) (x:K.ai) (l:dm K x) (em:Bool) (w:World):(Instr.checkKey em 10000 e (e8 K x)).run P w=.ok () w:=by
 rcases hk with rfl|rfl
 exact VH d.i64 em 9999 x w;obtain ⟨e0,j,b,n⟩:=d.arr;obtain ⟨o,f,h,_,_⟩:=b.hb;have g:List.length (α:=Int) x=2:=l.1
 match x,g with
 |[p,q],_=>
  rw [show (10000:Nat)=9999+1 from rfl,Instr.checkKey];simp only [Sem.run_bind,run_underlying j,Result.andThen_ok,e8,bE,dh,gC,k8,List.flatten_nil,eF,g5];simp only [Std.Legacy.Range.forIn_eq_forIn_range',Std.Legacy.Range.size,Nat.sub_zero,Nat.add_sub_cancel,Nat.div_one,List.range'_succ,List.range'_zero,List.forIn_cons,List.forIn_nil];have c:∀x,(Instr.checkKey em 9999 e0 (.int .i64 x)).run P w=.ok () w:=fun x=>VH b.i64 em 9998 x w
  simp [sizeOf,typeInfo,f,h,Ty.size,VJ b.i64];rw [c p,Result.andThen_ok,c q,Result.andThen_ok]
theorem aip {K:Ty} {c:TypeId} (hk:iY K) (g:bF P K c) (x y:K.ai) (v:dm K x) (z:dm K y) (w:World):(Op.equal c (e8 K x) (e8 K y)).run P w=.ok (lD K x y) w:=by
 rcases hk with rfl|rfl
 exact run_equalIn_int w 9999 c .i64 .i64 x y g.i64;obtain ⟨e0,u,b,C⟩:=g.arr;obtain ⟨D,l,r,_,_⟩:=b.hb;have n:List.length (α:=Int) x=2:=v.1;have o:List.length (α:=Int) y=2:=z.1
 match x,n,y,o with
 |[p,q],_,[d,e],_=>
  unfold Op.equal Op.maxDepth;rw [show (10000:Nat)=9999+1 from rfl,Op.equalIn];simp only [Sem.run_bind,run_underlying u,Result.andThen_ok,e8,bE,dh,gC,k8,List.flatten_nil,eF,g5];simp only [Std.Legacy.Range.forIn_eq_forIn_range',Std.Legacy.Range.size,Nat.sub_zero,Nat.add_sub_cancel,Nat.div_one,List.range'_succ,List.range'_zero,List.forIn_cons,List.forIn_nil];have f:∀x y,(Op.equalIn 9999 e0 (.int .i64 x) (.int .i64 y)).run P w=.ok (x==y) w:=fun x y=>run_equalIn_int w 9998 e0 .i64 .i64 x y b.i64
  simp [sizeOf,typeInfo,l,r,Ty.size,VJ b.i64,lD];rw [f p d,Result.andThen_ok,f q e,Result.andThen_ok];change _=Result.ok (((show Int from p)==d)&&(((show Int from q)==e)&&true)) w;generalize ((show Int from p)==d)=h;generalize ((show Int from q)==e)=j;cases h<;>cases j<;>rfl
def hT (K:Ty) (key:K.ai):Nat→List (K.ai×Int×Unit)→Option (Nat×Int)
 |_,[]=>none
 |i,e::r=>if lD K key e.1 then some (i,e.2.1) else hT K key (i+1) r
def s5 (K:Ty) (xs:List (K.ai×Int×Unit)) (b:Array MapEntry):Prop:=
 b.size=xs.length∧∀(i:Nat) (x:K.ai×Int×Unit),xs[i]?=some x→dm K x.1∧∃e,b[i]?=some e∧e.key=e8 K x.1∧e.val=.int .i64 x.2.1∧e.born=i
theorem ad4 {K:Ty} {d:TypeId} (hk:iY K) (o:bF P K d) (key:K.ai) (q:dm K key) (w:World):∀(xs:List (K.ai×Int×Unit)) (b:List MapEntry) (i:Nat),b.length=xs.length→
 (∀(i:Nat) (x:K.ai×Int×Unit),xs[i]?=some x→dm K x.1∧∃e,b[i]?=some e∧e.key=e8 K x.1∧e.val=.int .i64 x.2.1)→
 (Instr.findAsking d (e8 K key) b i).run P w=.ok ((hT K key i xs).map fun x=>(x.1,.int .i64 x.2)) w:=by
 intro xs
 induction xs with
 |nil=>
  intro b i c _;obtain rfl:=hI.1 c;rfl
 |cons x xs u=>
  intro b i c h;cases b with
  |nil=>cases c
  |cons e b=>
   obtain ⟨f,v,n,g,l⟩:=h 0 x rfl;obtain rfl:=bk n;rw [Instr.findAsking,Sem.run_bind,g,aip hk o key x.1 q f,Result.andThen_ok,hT];cases lD K key x.1 with
   |true=>simp [l]
   |false=>
    simp only [hl,cL];exact u b (i+1) (by simpa using c) fun j y r=>h (j+1) y r
theorem ad3 (key:Int):∀(xs:List (Int×Int×Unit)) (b:List MapEntry) (i:Nat),b.length=xs.length→
 (∀(i:Nat) (x:Int×Int×Unit),xs[i]?=some x→∃e,b[i]?=some e∧e.key=.int .i64 x.1∧e.val=.int .i64 x.2.1)→
 Instr.findNow (.int .i64) (.int .i64 key) b i=some ((hT (.int .i64) key i xs).map fun x=>(x.1,.int .i64 x.2)):=by
 intro xs
 induction xs with
 |nil=>
  intro b i c _;obtain rfl:=hI.1 c;rfl
 |cons x xs n=>
  intro b i c h;cases b with
  |nil=>cases c
  |cons e b=>
   obtain ⟨o,g,d,f⟩:=h 0 x rfl;obtain rfl:=bk g;rw [Instr.findNow,d];simp only [Instr.sameNow,b5];change _=some (Option.map _ (if (key==x.1) then some (i,x.2.1) else hT (.int .i64) key (i+1) xs));cases key==x.1 with
   |true=>simp [f]
   |false=>
    simp only [hl,cL];exact n b (i+1) (by simpa using c) fun j y l=>h (j+1) y l
theorem xW {K:Ty} {n:TypeId} (hk:iY K) (g:bF P K n) (key:K.ai) (d:dm K key) (w:World) {xs:List (K.ai×Int×Unit)} {b:Array MapEntry} (h:s5 K xs b):
 (Instr.findKey n (e8 K key) b.toList).run P w=.ok ((hT K key 0 xs).map fun x=>(x.1,.int .i64 x.2)) w:=by
 obtain ⟨c,q⟩:=h;have c:b.toList.length=xs.length:=by simpa using c
 have j:∀(i:Nat) (x:K.ai×Int×Unit),xs[i]?=some x→dm K x.1∧∃e,b.toList[i]?=some e∧e.key=e8 K x.1∧e.val=.int .i64 x.2.1:=fun i x d=>by
  grind
 unfold Instr.findKey;rcases hk with rfl|rfl
 rw [Sem.run_bind,run_underlying g.i64,Result.andThen_ok];have:=ad3 key xs b.toList 0 c fun i x d=>(j i x d).2
 rw [show Instr.findNow (.int .i64) (e8 (.int .i64) key) b.toList 0=_ from this];rfl;obtain ⟨e0,o,_⟩:=g.arr;rw [Sem.run_bind,run_underlying o,Result.andThen_ok];cases f:b.toList with
 |nil=>
  rw [f] at c;obtain rfl:=hI.1 c.symm;rfl
 |cons e l=>
  rw [←f];have:Instr.findNow (.array 2 e0) (e8 (.arr 2 (.int .i64)) key) b.toList 0=none:=by rw [f];rfl
  rw [this];exact ad4 (.inr rfl) g key d w xs b.toList 0 c j
theorem ES {K:Ty} (key:K.ai):∀(xs:List (K.ai×Int×Unit)) (i:Nat),((hT K key i xs).map Prod.snd).getD 0=c0 K key xs
 |[],_=>rfl
 |x::xs,i=>by
  rw [hT,c0];split;rfl;exact ES key xs (i+1)
theorem lj.row {w:World} {K:Ty} {xs:List (K.ai×Int×Unit)} {ft:FT} {cs:List Value} (h:lj w (eI K) xs ft cs):iY K∧∃b c,ft=.node (some b) 0 []∧cs=[.map (some b)]∧w.heap[b]?=some (.map c c.size)∧s5 K xs c:=by
 obtain ⟨d,b,c,e,f,h4,h5,h6⟩:=h;exact ⟨d,b,c,e,f,h4,h5,h6⟩
theorem ym (h:aA F G s a w) {b:Nat} {x:Value} (z:VR (ax s.box G) w F.R (.mp b) x) {K:Ty} {bx:bl} (l:s.box b=some bx) {k:List (K.ai×Int×Unit)→Option ρ} {r:ρ} (hk:iv K bx.c k=some r):
 ∃(xs:List (K.ai×Int×Unit)) (d:Nat) (f:Array MapEntry),k xs=some r∧bx.c=.tup (.ab (.slice (eI K)) xs)∧bx.ty=.slice (eI K)∧x=.map (some d)∧(G b).ft=.node (some d) 0 []∧w.heap[d]?=some (.map f f.size)∧iY K∧s5 K xs f:=by
 unfold iv at hk;split at hk;rotate_left;cases hk;rename_i u xs q;split at hk;rotate_left;cases hk;rename_i y D;obtain ⟨rfl,rfl⟩:=e4 D;obtain ⟨cs,j,_⟩:=(h.box b bx l).fv;rw [q] at j;obtain ⟨t,J,cap,Y,I,g,C⟩:=z.b3 (by simp) (by simp) rfl;simp only [eK,eM] at C;have n:ax s.box G b []=some (bx.ty,(G b).ft,(G b).bg.map (·,0)):=by
  simp only [ax,l];cases bx.ty<;>simp [bL]
 rw [n] at g;simp only [az,aO] at g;obtain ⟨v,X,_⟩:=g;rw [v] at j;obtain ⟨e,o⟩:=(show _∧_ from j);subst e;obtain ⟨W,d,f,O,_,U,h4⟩:=o.row
 grind
theorem KV {A:bY} {R:Nat→Prop} {K:Ty} (f:iY K) {v:TV} {x:Value} (d:VR A w R v x) {k:K.ai→Option ρ} {r:ρ} (hk:kq K v k=some r):∃key,k key=some r∧x=e8 K key∧dm K key:=by
 unfold kq at hk;split at hk;rotate_left;cases hk;split at hk;rotate_left;cases hk;rename_i y g;obtain ⟨rfl,rfl⟩:=e4 g;refine ⟨_,hk,?_⟩;rcases d with d|⟨cs,e,b⟩
 cases d;rcases f with rfl|rfl
 obtain ⟨_,c,rfl⟩:=e;simp only [TV.agg,Ty.agg,hl,cL,bE,eK,eM] at b;exact ⟨b.symm,c⟩;obtain ⟨_,c,rfl⟩:=e;simp only [TV.agg,Ty.agg,b5] at b;exact ⟨b,c⟩
theorem afs (h:aA F G s a w) (f:dl P E F) {o:Oper} {t:TypeId} {m x:Operand} {ok:Bool} (j:o.op=.lookup t m x ok) (I:∀d,o.dst=some d→d<E.nt) {k:St→Option ρ} {r:ρ} (hk:a2 E o s k=some r):
 o.wp P a w (ch F k r) Q:=by
 unfold a2 at hk;rw [j] at hk;simp only at hk;split at hk;rotate_left;cases hk;rename_i K b y Y;obtain ⟨ah,ag,ab,l,aa,c⟩:=q2 (f.bC t K y);have n:=cA h m;rw [Y] at n;unfold b6 at hk;split at hk;rotate_left;cases hk;rename_i bx D;obtain ⟨xs,u,e,U,_,_,ac,_,O,_,C⟩:=ym h n D hk;obtain ⟨key,W,X,g⟩:=KV c (cA h x) U;refine c7 (v:=.int .i64 (c0 K key xs)) (w':=w) ?_ (dZ h f (g1 _ _) I W);obtain ⟨i,hi,_,_,ad⟩:=aa.hb;obtain ⟨z,af,ai,z3⟩:=ad rfl;have ae:z=.int .i64 0:=by
  cases z<;>simp_all [Value.cells,fb,EA,Ty.agg]
 unfold execOp;rw [j];simp only [Sem.run_bind];have Z:(Instr.lookup t (a.eval m) (a.eval x) false).run P w=.ok (.int .i64 (c0 K key xs)) w:=by
  unfold Instr.lookup;rw [ac,X];simp only [Sem.run_bind,run_underlying ab,Result.andThen_ok];have J:(getObj u).run P w=.ok (.map e e.size) w:=by
   simp [getObj,Sem.run,O]
  rw [J];simp only [Result.andThen_ok,Sem.run_bind,Sem.run_pure,yH c l key g,xW c l key g w C];rw [←ES key xs 0];cases hT K key 0 xs with
  |none=>simp [zeroValue,typeInfo,hi,af,ae]
  |some q=>simp
 rw [Z];rfl
theorem KW {K:Ty} (b:iY K) {x y:K.ai} (h:lD K x y=true):x=y:=by
 rcases b with rfl|rfl
 exact eq_of_beq (α:=Int) h;exact eq_of_beq (α:=List Int) h
theorem uw {K:Ty} (f:iY K) (key:K.ai) (v:Int):∀(xs:List (K.ai×Int×Unit)) (n:Nat),
 (hT K key n xs=none∧dC K key v xs=xs++[(key,v,())])∨∃i y,i<xs.length∧hT K key n xs=some (n+i,y)∧dC K key v xs=xs.set i (key,v,())∧∀x,xs[i]?=some x→x.1=key
 |[],n=>.inl ⟨rfl,rfl⟩
 |e::r,n=>by
  rw [hT,dC];cases hk:lD K key e.1 with
  |true=>
   refine .inr ⟨0,e.2.1,by simp,by simp,by simp,fun x b=>?_⟩;obtain rfl:=bk b;exact (KW f hk).symm
  |false=>
   simp only [hl,cL];rcases uw f key v r (n+1) with ⟨c,d⟩|⟨i,y,c,d,g,h4⟩
   simp_all;exact .inr ⟨i+1,y,by simpa using c,by rw [d];simp;omega,by rw [g];rfl,fun x b=>h4 x (by simpa using b)⟩
theorem VN {K:Ty} (b:iY K) (x:K.ai) (d:dm K x):Instr.sameBits 10000 (e8 K x) (e8 K x)=true:=by
 rcases b with rfl|rfl
 simp only [e8,Instr.sameBits,bp]
 grind
 have c:List.length (α:=Int) x=2:=d.1
 match x,c with
 |[p,q],_=>
  simp only [e8,bE,dh,gC,k8,List.flatten_nil,eF,g5];rw [show (10000:Nat)=9999+1 from rfl,Instr.sameBits];simp [Instr.sameBits]
  grind
theorem aA.Ll (h:aA F G s a w) {b:Nat} {x:bl} (l:s.box b=some x) (z:x.cm=true) {f:Nat} (K:(G b).ft=.node (some f) 0 []) (o:Obj) {c:TV}
 (aa:∀A:bY,aW A {w with heap:=w.heap.setIfInBounds f o} F.R c x.ty (G b).ft [.map (some f)]):aA F G (s.b4 b {x with c:=c}) a {w with heap:=w.heap.setIfInBounds f o}:=by
 have X:ax s.box G b []=some (x.ty,(G b).ft,(G b).bg.map (·,0)):=by
  simp only [ax,l];cases x.ty<;>simp [bL]
 have U:f∈(G b).ae:=by simp [Gh.ae,K,FT.ae]
 obtain ⟨ad,ag,ah⟩:=h.bK b x l f U;have W:∀d,d≠f→({w with heap:=w.heap.setIfInBounds f o}:World).heap[d]?=w.heap[d]?:=fun d g=>by
  grind
 have Y:G=fun j=>if j=b then ⟨(G b).bg,bt x.ty (G b).ft [] (G b).ft⟩ else G j:=by
  funext j;have:bt x.ty (G b).ft [] (G b).ft=(G b).ft:=by cases x.ty<;>rfl
  rw [this];split;rename_i e;rw [e];rfl
 have J:=DZ l c;have O:ia (ax s.box G) (ax (s.b4 b {x with c:=c}).box G):=by
  intro C q t ft af e;refine ⟨ft,?_,rfl⟩;unfold ax at e⊢;rw [J];by_cases D:C=b;subst D;rw [l] at e;simpa [bl.with] using e;rw [aj D];cases u:s.box C with
  |none=>rw [u] at e;cases e
  |some y=>rw [u] at e;simpa [bl.with] using e
 have I:∀d,F.R d→({w with heap:=w.heap.setIfInBounds f o}:World).heap[d]?=w.heap[d]?:=fun d g=>W d fun e=>ad (e▸g)
 have r:=h.box b x l;unfold dF at r;rw [ak z] at r;refine h.xS l X (fun v=>v) Y (fun n=>rfl) (fun i n=>rfl) rfl J (fun v y z=>VR.mono O I z) (fun c t ft cs Z ab=>aW.mono O I c t ft cs Z ab) ?_ ⟨by simp,rfl,rfl⟩ ?_ ?_ ?_ (fun d g=>.inl g) ?_ (fun _ _=>by cases x.ty<;>rfl);unfold dF;rw [ak (show (x.with c).cm=true from z)];exact ⟨r.1,r.2.1,_,aa _⟩;intro j y u ac d g;exact W d fun e=>h.dc b j x y l ac (fV u) f U (e▸g)
 grind
 rw [K];simp [FT.ae,FT.bq];intro d g;have:=h.bK b x l d (by simp only [Gh.ae,aZ];exact .inr g)
 grind
theorem afB (h:aA F G s a w) (ae:dl P E F) {o:Oper} {t:TypeId} {m x v:Operand} (ap:o.op=.mapUpdate t m x v) {k:St→Option ρ} {r:ρ} (hk:a2 E o s k=some r):
 o.wp P a w (ch F k r) Q:=by
 unfold a2 at hk;rw [ap] at hk;simp only at hk;split at hk;rotate_left;cases hk;rename_i K b y aj af ao av;obtain ⟨a0,ax,Z,I,az,d⟩:=q2 (ae.bC t K af);have aa:=cA h m;rw [ao] at aa;have u:=cA h v;rw [av] at u;have u:=u.int;unfold b6 at hk;split at hk;rotate_left;cases hk;rename_i bx W
 try dsimp only at hk
 split at hk;rotate_left;cases hk;rename_i au;obtain ⟨xs,U,C,al,_,ar,f,X,D,_,ag⟩:=ym h aa W hk;obtain ⟨key,am,Y,l⟩:=KV d (cA h x) al;have aq:=VN d key l;obtain ⟨n,O⟩:=ag;have ac:∀g,s5 K (dC K key y xs) g→(Instr.mapUpdate t (a.eval m) (a.eval x) (a.eval v)).run P w=.ok () {w with heap:=w.heap.setIfInBounds U (.map g g.size)}→o.wp P a w (ch F k r) Q:=by
  intro g ah ay;have hrel:=h.Ll W au X (.map g g.size) (c:=.tup (.ab (.slice (eI K)) (show List (K.ai×Int×Unit) from dC K key y xs))) fun A=>by
   rw [ar,X];refine ⟨rfl,d,U,g,rfl,rfl,?_,ah⟩
   grind
  refine Ny ?_ ⟨G,_,(by rw [aj];exact hrel),am⟩;unfold execOp;simp_all
 rcases uw d key y xs 0 with ⟨J,q⟩|⟨i,z,J,q,ad,h4⟩
 refine ac (C.push {key:=e8 K key,val:=.int .i64 y,born:=C.size}) ⟨by rw [q];simp [n],fun i x f=>?_⟩ ?_;rw [q] at f;by_cases hi:i<xs.length
 grind
 rw [List.getElem?_append_right (by omega)] at f;have ak:i=xs.length:=by
  grind
 subst ak;simp at f;subst f;exact ⟨l,{key:=e8 K key,val:=.int .i64 y,born:=C.size},by rw [←n];simp,rfl,rfl,n⟩;unfold Instr.mapUpdate;rw [f,Y,u];simp only [Sem.run_bind,run_underlying Z,Result.andThen_ok,Go.MapKept.run_getObj_map D,yH d I key l,xW d I key l w ⟨n,O⟩,J,rJ];rw [Go.MapKept.run_setObj_map _ D];simp;refine ac (C.modify i fun e=>{e with key:=e8 K key,val:=.int .i64 y}) ⟨by rw [ad];simp [n],fun j x f=>?_⟩ ?_
 grind
 unfold Instr.mapUpdate;rw [f,Y,u];rw [eL] at q;obtain ⟨a1,e,aw,a3,a4,a5⟩:=O i _ (aT J);have an:e.key=e8 K key:=by simp_all
 simp only [Sem.run_bind,run_underlying Z,Result.andThen_ok,Go.MapKept.run_getObj_map D,yH d I key l,xW d I key l w ⟨n,O⟩,q,cx,aw,rI,an,Instr.keyThatStays,aq,b5,Sem.run_pure];rw [Go.MapKept.run_setObj_map _ D];simp
theorem afA (h:aA F G s a w) {t:TypeId} {K:Ty} (q:pk P K t=true) {b:Nat} {x:Value} (v:VR (ax s.box G) w F.R (.mp b) x) {k:List (K.ai×Int×Unit)→Option ρ} {r:ρ}
 (hk:(b6 s b fun x=>iv K x.c k)=some r):∃(xs:List (K.ai×Int×Unit)) (e:Nat) (d:Array MapEntry),k xs=some r∧x=.map (some e)∧w.heap[e]?=some (.map d d.size)∧d.size=xs.length∧∃g f,P.underlying t=some (.map g f):=by
 obtain ⟨g,f,u,_⟩:=q2 q;unfold b6 at hk;split at hk;rotate_left;cases hk;rename_i bx o;obtain ⟨xs,e,d,j,_,_,l,_,n,_,h4⟩:=ym h v o hk;exact ⟨xs,e,d,j,l,n,h4.1,g,f,u⟩
end
end Go.TM
