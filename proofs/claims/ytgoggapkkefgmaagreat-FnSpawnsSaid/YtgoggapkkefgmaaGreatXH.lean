/- PROVED HERE: the row FnSpawnsSaid as it is given: FnSpawns answers true for all codes; it asks for nothing more. Part 8 of 8 (the theorem stands in the last one; here: the law and the row). Own names are shortened. -/
import Derived.OpenShut
import Derived.ProofKit
import Derived.SizedLaws
import Derived.Test.YtgoggapkkefgmaaGreatRows
import Derived.Test.YtgoggapkkefgmaaGreatXG
set_option autoImplicit false
set_option linter.unusedVariables false
set_option linter.unusedSimpArgs false
set_option linter.constructorNameAsVariable false
namespace Go.Proofs.YtgoggapkkefgmaaGreat
set_option maxRecDepth 100000
open Go.TM Go.bz
variable {N:Nat}
theorem UO {l:List cC} (h:hN l) (o:5000≤N):CK N l=some ((true,()),()):=by
 obtain ⟨q,e,d⟩:=h;rw [YX];refine kw (fun m i=>vX (vI N) N m l i) _ 0 l.length (fun m i _ hi=>?_) (fun m=>?_) (bM _) (by omega);have b:=aT hi;obtain ⟨r,u,v⟩:=e _ (cY hi);rw [V2,ar,aL (by omega),a7,b,aa,a6 (x:=l[i].2.1-1) (by omega) (by omega),fZ,aa,ba (by omega)];simp only [Bool.not_true,cond_false];rw [fZ,aa,ba (by omega)];unfold Gl;simp only [Bool.not_true,cond_false];have n:r2 (vI N) N m l i false=vX (vI N) N m l ((i+1:Nat):Int):=by
  unfold r2;rw [cond_false,aM (by omega)]
 cases i with
 |zero=>simp_all
 |succ j=>
  have c:=aT (show j<l.length by omega);obtain ⟨f,g⟩:=Mh l d j _ _ c b;rw [aL (by omega),lV (by omega),show (((j+1:Nat):Int)-1)=(j:Int) by omega];simp only [a7,c,aa]
  grind
 rw [V2,ar,aE (by omega),aiG,ar,ba (by omega)]
theorem ahf {l:List cC} (h:hN l) (O:5000≤N):Iy N l=some ((hc l,()),()):=by
 obtain ⟨X,C,W⟩:=h;rw [aae];have I:=b0 (n:=l.length) (Q:=fun m i=>∀s:LI,s=hc (l.take i)→Cc (vQ N) N m l s i=some ((hc l,()),())) (fun m s d=>by
  rw [WC,ar,aE (by omega),ajx,d,fD]) (fun m i hi J s d=>by
  have x:=aT hi;obtain ⟨K,ad,ae⟩:=C _ (cY hi);rw [WC,ar,aL (by omega),a7,x,aa];obtain ⟨a,o⟩:=hp K;obtain ⟨b,f⟩:=hp (show 0≤l[i].2.1 by omega);have cZ:=b0 (n:=b) (Q:=fun M j=>∀t:LI,a≤j→t.length=64→(∀p,p<64→t[p]?=some (if a≤p∧p<j then mE l[i] else bj (l.take i) p))→
   Cd (Bu (vQ N) N m) N M l i l[i] t j=some ((hc l,()),())) (fun M t y g c=>by
   rw [WD,f,aE (by omega),ajy,aM (by omega)];refine J t (lW fun p=>?_);rw [iD,x];by_cases q:p<64;rw [c p q,us _ q,fW,VF,o,f];simp_all;rw [g2 (by omega),g2 (by rw [yk];omega)]) (fun M j y ac t U g c=>by
   rw [WD,f,aL (by omega),bz.ud (by omega),bi,c j (by omega),aa];have r:∀(v:Int),v=mE l[i]→∀e,e.length=64→(∀p,p<64→e[p]?=if p=j then some v else t[p]?)→AQ (Bu (vQ N) N m) N M l i l[i] j e=some ((hc l,()),()):=by
    intro v ab e Z Y;unfold AQ;rw [aM (by omega)]
    grind
   cases u:(l[i]).2.2.1;rw [cond_false];refine r 1 (by simp [mE,u]) _ (by simpa using g) (fun p D=>?_)
   grind
   rw [av,bz.ud (by omega),bi,kC (by omega),aa];refine r 2 (by simp [mE,u]) _ (by simpa using g) (fun p D=>?_)
   grind)
  have z:=cZ a N (by omega) (by omega) s (cf _) (by rw [d,yk]) (fun p c=>by
   rw [d,us _ c,aj (by omega)])
  rw [o];exact z)
 exact I 0 N (bM _) (by omega) (List.replicate 64 0) (by rfl)
theorem agQ {l:List cC} (h:hN l) {p:Nat} (c:p<64) (b:5000≤N):H8 N l (p:Int)=some ((decide (bj l p>0),(bj l p==2,())),()):=by
 rw [ZH,UO h b,aa];dsimp only;rw [Bool.not_true,cond_false,fZ,aa,ef (by omega) (by omega)];unfold Gv;dsimp only;rw [Bool.not_true,cond_false,ahf h b,aa];dsimp only;rw [a7,us _ c,aa]
theorem agS {p:Nat} (b:p<64):Ib N (p:Int)=some ((((p/16:Nat):Int),(((p/4%4:Nat):Int),(((p%4:Nat):Int),()))),()):=by
 rw [ZK,fZ,aa,ef (by omega) (by omega)];dsimp only;rw [Bool.not_true,cond_false];simp only [pM (show 0≤(p:Int) by omega),jl (show 0≤(p:Int) by omega)];rw [a6 (by omega) (by omega),a6 (by omega) (by omega),jl (by omega)];simp
theorem aoj {m:M} (h:fg m.mem) {f k:Nat} (b:f<m.mem.length) (hk:k<4):s7 N m.d (f:Int) (k:Int)=some ((bX m.mem f k,(true,())),()):=by
 have l:=h.hi;obtain ⟨c,_⟩:=gb b;have e:=(h.row b).1;have j:m.d.1[f]?=some (row m.mem f):=c;have g:=(h.bX b hk).1;rw [O1,show ln m.d.1=(m.mem.length:Int) from rfl,a6 (by omega) (by omega),fZ,aa,ef (by omega) (by omega)];dsimp only;rw [Bool.not_true,cond_false,a7,show m.mem[f]?=some (row m.mem f) from c,aa,ar,e,a6 (by decide) (by decide),fZ,aa,ef (by omega) (by omega)];unfold Gp;dsimp only;rw [Bool.not_true,cond_false,a7,show m.mem[f]?=some (row m.mem f) from c,aa,a7,g,aa]
theorem agx {m:M} (h:fg m.mem) (k:Int):s7 N m.d (-1) k=some ((0,(false,())),()):=by
 have b:=h.hi;rw [O1,show ln m.d.1=(m.mem.length:Int) from rfl,a6 (by omega) (by omega),fZ,aa,bm (by omega)];rfl
def tQ:Option Nat→Int×Bool×Unit
 |none=>(0,false,())
 |some q=>((q:Int),true,())
theorem UP {m:M} {g:G} (h:ee m g) {s p:Nat} (I:s<4) (C:p<64) (X:5000≤N):CM N m.d (s:Int) (p:Int)=some ((tQ (g.tb (20+(64*s+p)/4)),())):=by
 have Y:=h.mm.hi;have Z:=h.rp.c1 s (by omega);have n:=h.rp.c1 (4+4*s+p/16) (by omega);have u:4*s+4+p/16=4+4*s+p/16:=by omega
 have e:4*(4+4*s+p/16)+4+p/4%4=20+(64*s+p)/4:=by omega
 obtain ⟨K,y⟩:∃k,N=k+1+1+1:=⟨N-3,by omega⟩
 rw [Y3,agS C,aa,a7,show m.d.2.2.2.2.2.2.1=m.af from rfl,eT (by have:=h.len;omega),aa,h.rp.fB s I];generalize o:(((((p/16:Nat):Int),(((p/4%4:Nat):Int),(((p%4:Nat):Int),()))),()):gF)=v;have J:v.1.1=((p/16:Nat):Int):=by rw [←o]
 have O:v.1.2.1=((p/4%4:Nat):Int):=by rw [←o]
 rw [show ∀x i,vZ (vK N) N N m.d v x i=vZ (vK N) N (K+1+1+1) m.d v x i from fun x i=>by rw [←y]];have j:ln ([v.1.1,v.1.2.1]:List Int)=2:=rfl;rw [MJ,j,ba (by decide),av,iW (by simp),bi];dsimp only [List.getElem?_cons_zero];rw [aa,J];cases l:g.tb s with
 |none=>
  have b:g.tb (4+4*s+p/16)=none:=by grind
  have c:g.tb (20+(64*s+p)/4)=none:=by rw [←e];exact n b _ (by omega)
  rw [show tI none= -1 from rfl,agx h.mm,aa,c];unfold vj;dsimp only;rw [ed,av,av,Mu];rfl
 |some r=>
  have D:=h.lt s r (by omega) l;have U:=h.rp.cZ s (by omega) (p/16) (by omega) r l;rw [show tI (some r)=(r:Int) from rfl,aoj h.mm D (by omega),aa,U,u];dsimp only;rw [Bool.not_true,cond_false];unfold vj;cases b:g.tb (4+4*s+p/16) with
  |none=>
   have c:g.tb (20+(64*s+p)/4)=none:=by rw [←e];exact n b _ (by omega)
   rw [show tW none=0 from rfl,ba (by decide),av,Mu,c];rfl
  |some f=>
   have z:=h.lt _ f (by omega) b;have W:=h.rp.cZ (4+4*s+p/16) (by omega) (p/4%4) (by omega) f b;rw [show tW (some f)=(f:Int)+1 from rfl,aE (by omega),a6 (x:=(f:Int)+1-1) (by omega) (by omega),show (f:Int)+1-1=f by omega,a6 (x:=0+1) (by decide) (by decide)];rw [MJ,j,ba (by decide),av,show (0+1:Int)=1 from rfl,iX (by simp),bi];dsimp only [List.getElem?_cons_zero,List.getElem?_cons_succ];rw [aa,O,aoj h.mm z (by omega),aa,W,e];dsimp only;rw [Bool.not_true,cond_false];unfold vj;cases c:g.tb (20+(64*s+p)/4) with
   |none=>
    rw [show tW none=0 from rfl,ba (by decide),av,Mu];rfl
   |some q=>
    have ab:=h.lt _ q (by omega) c;rw [show tW (some q)=(q:Int)+1 from rfl,aE (by omega),a6 (x:=(q:Int)+1-1) (by omega) (by omega),show (q:Int)+1-1=q by omega,a6 (x:=1+1) (by decide) (by decide)];rw [MJ,j,aE (by decide),aiL];rfl
theorem adg {α:Type} (b:Bool) {x y:α} (h:y=x):cond b x y=x:=by cases b;exact h;rfl
theorem ahg {e:E} (h:e.ok):Iz N e.t=some ((true,()),()):=by
 rw [aaf,tg,aa];by_cases b:e=.no;subst b;rfl;dsimp only;refine adg _ ?_;cases e with
 |no=>exact absurd rfl b
 |pg f w r=>
  have h:f<32:=h;rw [eY];dsimp only;rw [show ((-1:Int)== -1)=true from rfl,av,fZ,aa,ef (by omega) (by omega)]
 |sl i=>
  have h:i<16:=h;rw [g9];dsimp only;rw [show ((i:Int)== -1)=false from by simp_all,cond_false,show ((-1:Int)== -1)=true from rfl,av,fZ,aa,ef (by omega) (by omega)];rfl
theorem agT {e:E} (h:e.ok):Ic N e.t=some ((e.w,(true,())),()):=by
 rw [ZL,ahg h,aa];dsimp only;rw [Bool.not_true,cond_false,ZU];cases e with
 |no=>rfl
 |pg f w r=>
  have h:f<32:=h;rw [eY];dsimp only [E.w];rw [aE (by omega),aE (by omega)];have b:wi (8*(f:Int))=8*f:=a6 (by omega) (by omega);have w2:wi (1+8*(f:Int))=1+8*f:=a6 (by omega) (by omega);have c:wi (1+8*(f:Int)+2)=1+8*f+2:=a6 (by omega) (by omega);have d:wi (1+8*(f:Int)+4)=1+8*f+4:=a6 (by omega) (by omega);have g:wi (1+8*(f:Int)+2+4)=1+8*f+2+4:=a6 (by omega) (by omega);rw [b,w2,c,d,g];cases w<;>cases r<;>simp
 |sl i=>
  have h:i<16:=h;rw [g9];dsimp only [E.w];rw [aL (by omega),a6 (x:=4*(i:Int)) (by omega) (by omega),a6 (by omega) (by omega)];rfl
theorem ah3 {f:Nat} (h:f<32) (w r:Bool):(Int.tmod (E.w (.pg f w r)) 2==1)=true∧Int.fdiv (E.w (.pg f w r)) (2^(min 3 (IntKind.i64.bits)))=(f:Int)∧
 ((wi ((BitVec.ofInt (IntKind.i64.bits) (E.w (.pg f w r))&&&BitVec.ofInt (IntKind.i64.bits) 2).toNat:Int)) !=0)=w∧((wi ((BitVec.ofInt (IntKind.i64.bits) (E.w (.pg f w r))&&&BitVec.ofInt (IntKind.i64.bits) 4).toNat:Int)) !=0)=r:=by
 have key:((List.range 32).all fun f=>[true,false].all fun w=>[true,false].all fun r=>(Int.tmod (E.w (.pg f w r)) 2==1)&&(Int.fdiv (E.w (.pg f w r)) (2^(min 3 64))==(f:Int))&&
  (((wi ((BitVec.ofInt 64 (E.w (.pg f w r))&&&BitVec.ofInt 64 2).toNat:Int)) !=0)==w)&&(((wi ((BitVec.ofInt 64 (E.w (.pg f w r))&&&BitVec.ofInt 64 4).toNat:Int)) !=0)==r))=true:=by decide
 have:=dE.1 (dE.1 (dE.1 key f (by simpa using h)) w (by cases w<;>simp)) r (by cases r<;>simp);simp only [bp,ff] at this;obtain ⟨⟨⟨b,c⟩,d⟩,e⟩:=this;exact ⟨by rw [b];rfl,c,d,e⟩
theorem ah4 {i:Nat} (h:i<16):(Int.tmod (E.w (.sl i)) 2==1)=false∧(Int.tmod (E.w (.sl i)) 4==2)=true∧Int.fdiv (E.w (.sl i)) (2^(min 2 (IntKind.i64.bits)))=(i:Int):=by
 have key:((List.range 16).all fun i=> !(Int.tmod (E.w (.sl i)) 2==1)&&(Int.tmod (E.w (.sl i)) 4==2)&&(Int.fdiv (E.w (.sl i)) (2^(min 2 64))==(i:Int)))=true:=by decide
 have:=dE.1 key i (by simpa using h);simp only [bp,hn] at this;obtain ⟨⟨b,c⟩,d⟩:=this;exact ⟨b,c,eq_of_beq d⟩
theorem UQ {e:E} (h:e.ok):CN N e.w=some ((e.t,(true,())),()):=by
 have l:=E.Nu (e:=e);have b:vm N e.w e.t=some ((e.t,(true,())),()):=by
  unfold vm;rw [agT h,aa];simp_all
 rw [Y5,tg,aa,aE (by omega)];cases e with
 |no=>exact b
 |pg f w r=>
  obtain ⟨c,d,g,j⟩:=ah3 (show f<32 from h) w r;rw [c,av,d,g,j];exact b
 |sl i=>
  obtain ⟨c,d,g⟩:=ah4 (show i<16 from h);rw [c,cond_false,d,av,g];exact b
theorem Kv (e:E):iS hO (show ib from e.t) (show ib from (-1,-1,false,false,()))=decide (e=.no):=by
 cases e with
 |no=>rfl
 |pg f w r=>
  rw [bm (by simp),eY];show ((f:Int)== -1&&_)=false;simp_all
 |sl i=>
  rw [bm (by simp),g9];show ((-1:Int)== -1&&((i:Int)== -1&&_))=false;simp_all
theorem agt {m:M} {g:G} {z s:Nat} (h:ap m g z) (l:s<4) (x:5000≤N):HO N m.d (s:Int)=some ((true,()),()):=by
 have J:=ee.of h;have U:m.af[s]?=some (ay m.af s):=eT (by rw [h.sp.len];exact l);rw [YY];refine kw (fun e i=>vY (vJ N) N e m.d (s:Int) i) _ 0 64 (fun e p _ D=>?_) (fun e=>?_) (bM _) (by omega);have j:p0 (vJ N) N e m.d (s:Int) (p:Int)=vY (vJ N) N e m.d (s:Int) ((p+1:Nat):Int):=by
  unfold p0;rw [aM (by omega)]
 rw [V3,aL (by omega),UP J l D x,aa];cases I:g.tb (20+(64*s+p)/4) with
 |none=>
  dsimp only [tQ];simp_all
 |some q=>
  have O:=J.lt _ q (by omega) I;have n:64*s+p<256:=by omega
  have K:=h.mo n;have C:=h.rp.leaf ((64*s+p)/4) (by omega) (p%4) (by omega) q I;rw [show 4*((64*s+p)/4)+p%4=64*s+p by omega] at C;dsimp only [tQ];rw [Bool.not_true,cond_false,jl (by omega),show ((p:Int)%4)=((p%4:Nat):Int) by omega,aoj h.mm O (by omega),aa,C];dsimp only;rw [UQ K,aa,a7,U,aa,agQ (show hN (ay m.af s).2.2.1 from h.sp.hY s l) D x,aa];dsimp only;rw [Bool.not_true,cond_false,tg,aa];dsimp only;refine Eq.trans (dx (fun b=>cond (!b) _ _) (Kv (g.en (64*s+p)))) ?_;have u:(64*s+p)/64=s:=by omega
  have v:(64*s+p)%64=p:=by omega
  cases y:g.en (64*s+p) with
  |no=>
   rw [ba rfl];dsimp only [Bool.not_true,cond_false,E.t];exact j
  |pg f w r=>
   obtain ⟨_,c,o⟩:=h.eo.pg _ n f w r y;rw [u,v] at c o;have c:bj (ay m.af s).2.2.1 p>0:=c;rw [bm (by simp),ed,av,ba c,Bool.not_true,cond_false,eY];dsimp only;cases w with
   |true=>
    have o:bj (ay m.af s).2.2.1 p=2:=o rfl;simp_all
   |false=>exact j
  |sl i=>
   obtain ⟨_,c⟩:=h.eo.sl _ n i y;rw [u,v] at c;have c:bj (ay m.af s).2.2.1 p>0:=c;rw [bm (by simp),ed,av,ba c,Bool.not_true,cond_false,g9];exact j
 rw [V3,aE (by decide),aiH]
theorem agE (l:List Int) (x:Int) (g:l.length≤1000) (f:5000≤N):∃j:Int,HY N l x=some ((j,()),())∧(0≤j↔x∈l):=by
 rw [Zn];have key:=b0 (n:=l.length) (Q:=fun m i=>∃j:Int,BZ (Bl N) N m l x (i:Int)=some ((j,()),())∧(0≤j↔x∈l.drop i)) (fun m=>?_) (fun m i hi d=>?_) 0 N (bM _) (by omega);simpa using key;refine ⟨-1,by rw [Wl,ar,aE (by omega),ai6],?_⟩;simp;rw [Wl,ar,aL (by omega),a7,aT hi,aa];by_cases e:x=l[i];rw [show (x==l[i])=true from by simpa using e,av,ai5];exact ⟨i,rfl,by rw [kc hi,cy];omega⟩;rw [show (x==l[i])=false from by simpa using e,cond_false,aM (by omega)];obtain ⟨j,b,c⟩:=d;exact ⟨j,b,by rw [c,kc hi,cy];simp_all⟩
theorem LM (l:List Int) (x:Int) (d:l.length≤1000) (c:5000≤N):xl N l x=some ((decide (x∈l),()),()):=by
 obtain ⟨j,b,e⟩:=agE (N:=N) l x d c;rw [abd,b,aa];simp_all
def cI (tb:Nat→Option Nat) (l:List Nat):List Int:=(l.filter fun x=>(tb x).isSome).map fun x=>tI (tb x)
theorem rf (tb:Nat→Option Nat) (l b:List Nat):cI tb (l++b)=cI tb l++cI tb b:=by simp [cI]
theorem MW {tb:Nat→Option Nat} {l:List Nat} (h:∀x∈l,tb x=none):cI tb l=[]:=by
 unfold cI;simp_all
theorem MV {m:M} {g:G} (h:ee m g) {l:List Nat} (o:∀y∈l,y<84) {x f:Nat} (q:x<84) (n:g.tb x=some f) (d:(f:Int)∈cI g.tb l):x∈l:=by
 unfold cI at d;obtain ⟨y,r,e⟩:=b9.1 d;obtain ⟨j,u⟩:=dB.1 r;obtain ⟨b,c⟩:=ou.1 u;rw [c] at e;obtain rfl:b=f:=by have e:(b:Int)=f:=e;omega
 rw [h.inj x y b q (o y j) n c];exact j
theorem uR (tb:Nat→Option Nat) (l:List Nat):(cI tb l).length≤l.length:=by
 unfold cI
 grind
theorem yn {l:List Nat} (b:l.Nodup) (c:∀y∈l,y<84):l.length≤84:=by
 have:=uy (l.map fun x:Nat=>(x:Int)) 84 (by grind) fun x d=>by
  grind
 simpa using this
def ik (x:Nat):List Nat:=x::(List.range 4).map fun k=>4*x+4+k
def e5 (s:Nat):List Nat:=s::(List.range 4).flatMap fun k=>ik (4*s+4+k)
theorem alO {m:M} {g:G} (h:ee m g) {x f:Nat} (q:x<84) (b:g.tb x=some f) {l:List Nat} (n:∀y∈l,y<84) (c:(l++[x]).Nodup) (r:5000≤N):
 IP N m.d (f:Int) 3 (cI g.tb l)=some ((true,()),(cI g.tb (l++[x]),())):=by
 have C:=h.mm.hi;have j:=h.lt x f q b;have D:=yn (cn.1 c).1 n;have I:=uR g.tb l;have v:¬(f:Int)∈cI g.tb l:=fun u=>(cn.1 c).2.2 x (MV h n q b u) x (by simp) rfl
 obtain ⟨z,_⟩:=gb j;have o:=(h.mm.row j).1;rw [aaV,show ln m.d.1=(m.mem.length:Int) from rfl,a6 (by omega) (by omega),fZ,aa,ef (by omega) (by omega)];dsimp only;rw [Bool.not_true,cond_false,LM _ _ (by omega) r,aa,bm v];unfold GP;rw [cond_false,cd (by simp;omega),a7,show m.mem[f]?=some (row m.mem f) from z,aa];have e:cI g.tb l++[(f:Int)]=cI g.tb (l++[x]):=by rw [rf];congr 1;simp [cI,b,tI]
 rw [e];refine kw (fun k i=>Cp (Hr N) N k m.d 3 (row m.mem f) (cI g.tb (l++[x])) i) _ 0 4 (fun k i _ hi=>?_) (fun k=>?_) (bM _) (by omega);rw [Xp,ar,o,aL (by omega),a7,aT (by omega),aa,aE (by decide)];unfold A7;rw [cond_false,aM (by omega)];rw [Xp,ar,o,aE (by decide),akw]
theorem alP {m:M} {g:G} (h:ee m g) {x f:Nat} (Y:x<20) (j:g.tb x=some f) {l:List Nat} (z:∀y∈l,y<84) (o:(l++ik x).Nodup) (u:5000≤N):
 IQ N m.d (f:Int) 2 (cI g.tb l)=some ((true,()),(cI g.tb (l++ik x),())):=by
 have ab:=h.mm.hi;have q:=h.lt x f (by omega) j;have ac:=yn (cn.1 o).1 z;have ad:=uR g.tb l;have K:¬(f:Int)∈cI g.tb l:=fun J=>(cn.1 o).2.2 x (MV h z (by omega) j J) x (by simp [ik]) rfl
 obtain ⟨O,_⟩:=gb q;have C:=(h.mm.row q).1;rw [aaW,show ln m.d.1=(m.mem.length:Int) from rfl,a6 (by omega) (by omega),fZ,aa,ef (by omega) (by omega)];dsimp only;rw [Bool.not_true,cond_false,LM _ _ (by omega) u,aa,bm K];unfold GQ;rw [cond_false,cd (by simp;omega),a7,show m.mem[f]?=some (row m.mem f) from O,aa];have e:cI g.tb l++[(f:Int)]=cI g.tb (l++x::(List.range 0).map fun k=>4*x+4+k):=by rw [rf];congr 1;simp [cI,j,tI]
 rw [e];refine b0 (n:=4) (Q:=fun k i=>Cq (Hs N) N k m.d 2 (row m.mem f) (cI g.tb (l++x::(List.range i).map fun k=>4*x+4+k)) i=some ((true,()),(cI g.tb (l++ik x),()))) (fun k=>?_) (fun k i hi r=>?_) 0 N (bM _) (by omega);rw [Xq,ar,C,aE (by decide),akx];rfl;have W:=(h.mm.bX q hi).1;have X:=h.rp.cZ x Y i hi f j;have U:((l++x::(List.range i).map fun k=>4*x+4+k)++[4*x+4+i]).Nodup:=by
  have c:(l++x::(List.range i).map fun k=>4*x+4+k)++[4*x+4+i]=l++x::(List.range (i+1)).map fun k=>4*x+4+k:=by simp [gD]
  rw [c];exact o.sublist (List.Sublist.append_left (List.Sublist.cons_cons _ ((List.range_sublist.2 (by omega)).map _)) _)
 have c:(l++x::(List.range i).map fun k=>4*x+4+k)++[4*x+4+i]=l++x::(List.range (i+1)).map fun k=>4*x+4+k:=by simp [gD]
 have I:∀y∈(l++x::(List.range i).map fun k=>4*x+4+k),y<84:=by
  intro y D;simp only [aZ,cy,b9,et] at D
  grind
 rw [Xq,ar,C,aL (by omega),a7,W,aa,ba (by decide),av,X];cases v:g.tb (4*x+4+i) with
 |none=>
  rw [show (tW none !=0)=false from rfl,cond_false];unfold vC;rw [cond_false,aM (by omega)];rw [←c,rf,MW (l:=[4*x+4+i]) (fun y D=>by simp_all),eF] at r;exact r
 |some b=>
  have Z:=h.lt _ b (by omega) v;rw [show tW (some b)=(b:Int)+1 from rfl,show ((b:Int)+1 !=0)=true from by rw [bne_iff_ne];omega,av,a6 (x:=(b:Int)+1-1) (by omega) (by omega),show (b:Int)+1-1=b by omega,a6 (x:=2+1) (by decide) (by decide),
   show (2+1:Int)=3 from rfl,alO h (by omega) v I U u,aa]
  unfold vC;dsimp only;rw [Bool.not_true,cond_false,aM (by omega),c];exact r
theorem lA {α:Type} (F:Nat→List α) (i:Nat):(List.range (i+1)).flatMap F=(List.range i).flatMap F++F i:=by simp [gD]
theorem tX {α:Type} (F:Nat→List α) {i n:Nat} (h:i≤n):((List.range i).flatMap F).Sublist ((List.range n).flatMap F):=by
 induction n with
 |zero=>
  simp_all
 |succ n b=>
  by_cases e:i=n+1;simp_all;rw [lA];grind
theorem adt {m:M} {g:G} (h:ee m g) {x:Nat} (d:x<20) (b:g.tb x=none):cI g.tb (ik x)=[]:=MW fun y c=>by
 simp only [ik,cy,b9,et] at c;rcases c with rfl|⟨k,hk,rfl⟩
 exact b;exact h.rp.c1 x d b k hk
theorem Tg {m:M} {g:G} (h:ee m g) {s:Nat} (f:s<4) (d:g.tb s=none):cI g.tb (e5 s)=[]:=MW fun y b=>by
 simp only [e5,cy,m1,et] at b;rcases b with rfl|⟨k,hk,b⟩
 exact d;have c:=h.rp.c1 s (by omega) d k hk;simp only [ik,cy,b9,et] at b;rcases b with rfl|⟨j,e,rfl⟩
 exact c;exact h.rp.c1 _ (by omega) c j e
theorem XZ {m:M} {g:G} (h:ee m g) {x f:Nat} (af:x<4) (c:g.tb x=some f) {l:List Nat} (z:∀y∈l,y<84) (u:(l++e5 x).Nodup) (D:5000≤N):
 xi N m.d (f:Int) 1 (cI g.tb l)=some ((true,()),(cI g.tb (l++e5 x),())):=by
 have ab:=h.mm.hi;have v:=h.lt x f (by omega) c;have ad:=yn (cn.1 u).1 z;have ae:=uR g.tb l;have O:¬(f:Int)∈cI g.tb l:=fun K=>(cn.1 u).2.2 x (MV h z (by omega) c K) x (by simp [e5]) rfl
 obtain ⟨U,_⟩:=gb v;have I:=(h.mm.row v).1;rw [aaX,show ln m.d.1=(m.mem.length:Int) from rfl,a6 (by omega) (by omega),fZ,aa,ef (by omega) (by omega)];dsimp only;rw [Bool.not_true,cond_false,LM _ _ (by omega) D,aa,bm O];unfold GR;rw [cond_false,cd (by simp;omega),a7,show m.mem[f]?=some (row m.mem f) from U,aa];have e:cI g.tb l++[(f:Int)]=cI g.tb (l++x::(List.range 0).flatMap fun k=>ik (4*x+4+k)):=by rw [rf];congr 1;simp [cI,c,tI]
 rw [e];refine b0 (n:=4) (Q:=fun k i=>Cr (Ht N) N k m.d 1 (row m.mem f) (cI g.tb (l++x::(List.range i).flatMap fun k=>ik (4*x+4+k))) i=some ((true,()),(cI g.tb (l++e5 x),()))) (fun k=>?_) (fun k i hi C=>?_) 0 N (bM _) (by omega);rw [Xr,ar,I,aE (by decide),aky];rfl;have X:=(h.mm.bX v hi).1;have Y:=h.rp.cZ x (by omega) i hi f c;have q:(l++x::(List.range i).flatMap fun k=>ik (4*x+4+k))++ik (4*x+4+i)=l++x::(List.range (i+1)).flatMap fun k=>ik (4*x+4+k):=by rw [lA];simp
 have W:((l++x::(List.range i).flatMap fun k=>ik (4*x+4+k))++ik (4*x+4+i)).Nodup:=by
  rw [q];exact u.sublist (List.Sublist.append_left (List.Sublist.cons_cons _ (tX _ (by omega))) _)
 have J:∀y∈(l++x::(List.range i).flatMap fun k=>ik (4*x+4+k)),y<84:=by
  intro y o;simp only [aZ,cy,m1,et,ik,b9] at o;rcases o with o|rfl|⟨k,hk,rfl|⟨j,ac,rfl⟩⟩
  exact z y o;omega;omega;omega
 rw [Xr,ar,I,aL (by omega),a7,X,aa,ba (by decide),av,Y];cases r:g.tb (4*x+4+i) with
 |none=>
  rw [show (tW none !=0)=false from rfl,cond_false];unfold vD;rw [cond_false,aM (by omega)];rw [←q,rf,adt h (by omega) r,eF] at C;exact C
 |some b=>
  have Z:=h.lt _ b (by omega) r;rw [show tW (some b)=(b:Int)+1 from rfl,show ((b:Int)+1 !=0)=true from by rw [bne_iff_ne];omega,av,a6 (x:=(b:Int)+1-1) (by omega) (by omega),show (b:Int)+1-1=b by omega,a6 (x:=1+1) (by decide) (by decide),
   show (1+1:Int)=2 from rfl,alP h (by omega) r J W D,aa]
  unfold vD;dsimp only;rw [Bool.not_true,cond_false,aM (by omega),q];exact C
theorem ah0 {l:List Int} (h:∃x∈l,x≠0) (g:l.length≤1000) (f:5000≤N):HP N l=some ((true,()),()):=by
 have key:∃j:Nat,H9 N l=some (((j:Int),()),()):=by
  rw [ZI];refine b0 (n:=l.length) (Q:=fun m i=>(∃x∈l.drop i,x≠0)→∃j:Nat,B4 (Hb N) N m l (i:Int)=some (((j:Int),()),())) (fun m b=>?_) (fun m i hi d b=>?_) 0 N (bM _) (by omega) h;simp at b;rw [alr,ar,aL (by omega),a7,aT hi,aa,Y0,aa];by_cases e:l[i]=0;rw [show (l[i] !=0)=false from by rw [e];rfl,cond_false,aM (by omega)];refine d ?_;obtain ⟨x,c,o⟩:=b;rw [kc hi,cy] at c
  grind
  rw [show (l[i] !=0)=true from by simpa using e,av,ajh];exact ⟨i,rfl⟩
 obtain ⟨j,b⟩:=key;rw [YZ,b,aa,ba (by dsimp only;omega)]
def kk:List Nat:=(List.range 4).flatMap e5
theorem xU:kk.Nodup:=by decide
theorem ml (x:Nat):x∈kk↔x<84:=by
 have b:(kk.all fun x=>decide (x<84))=true:=by decide
 have c:((List.range 84).all fun x=>decide (x∈kk))=true:=by decide
 grind
theorem alQ {m:M} {g:G} (h:ap m g 84) (C:5000≤N):wI (BG N) N N m.d (cI g.tb kk) 0=some ((true,()),()):=by
 have K:=ee.of h;have an:=uR g.tb kk;have al:kk.length=84:=by decide
 have J:∀x∈cI g.tb kk,∃y f,y<84∧g.tb y=some f∧x=(f:Int):=by
  intro x j;unfold cI at j;obtain ⟨y,l,rfl⟩:=b9.1 j;obtain ⟨ae,ag⟩:=dB.1 l;obtain ⟨f,c⟩:=ou.1 ag;exact ⟨y,f,(ml y).1 ae,c,by rw [c];rfl⟩
 refine kw (fun k i=>wI (BG N) N k m.d (cI g.tb kk) i) _ 0 (cI g.tb kk).length (fun k i _ hi=>?_) (fun k=>?_) (bM _) (by omega);have j:=aT hi;obtain ⟨y,f,l,c,e⟩:=J _ (cY hi);have n:=K.lt y f l c;obtain ⟨ad,_⟩:=gb n;have am:=(h.mm.row n).1;rw [Xk,ar,aL (by omega),bf hi,bi,j,aa,e,a7,show m.d.1[f]?=some (row m.mem f) from ad,aa,ah0 ?_ (by omega) C,aa];dsimp only;rw [Bool.not_true,cond_false,aM (by omega)];obtain ⟨ah,ai⟩:=h.nz y l (by omega) (by rw [c];simp);by_cases O:y<20;obtain ⟨k,hk,v⟩:=ah O;refine ⟨bX m.mem f k,cS (h.mm.bX n hk).1,?_⟩;rw [h.rp.cZ y O k hk f c];cases u:g.tb (4*y+4+k) with
 |none=>exact absurd u v
 |some q=>show (q:Int)+1≠0;omega
 obtain ⟨k,hk,v⟩:=ai (by omega);refine ⟨bX m.mem f k,cS (h.mm.bX n hk).1,?_⟩;rw [h.rp.leaf (y-20) (by omega) k hk f (by simp_all)];cases u:g.en (4*(y-20)+k) with
 |no=>exact absurd u v
 |pg aj w r=>simp only [E.w];omega
 |sl i=>simp only [E.w];omega
 have ak:=h.fS;rw [Xk,ar,aE (by omega),akr,show ln m.d.2.2.2.2.2.2.1=4 from by rw [ar];show (m.af.length:Int)=4;rw [h.sp.len];rfl];rw [show ((4:Int)==4)=true from rfl,av,yz (by omega) (by omega) ?_ ?_ C,aa];unfold cI List.Nodup;rw [iC];refine (xU.filter _).imp_of_mem fun {a b} U Z Y e=>?_
 obtain ⟨W,X⟩:=dB.1 U;obtain ⟨ab,ac⟩:=dB.1 Z;obtain ⟨o,D⟩:=ou.1 X;obtain ⟨z,I⟩:=ou.1 ac;rw [D,I] at e;obtain rfl:o=z:=by have e:(o:Int)=z:=e;omega
 exact Y (K.inj a b o ((ml a).1 W) ((ml b).1 ab) D I);intro x;constructor;intro j;obtain ⟨y,f,l,c,rfl⟩:=J x j;exact (fo (by decide) f).2 ((h.tx.fN f).2 ⟨y,l,c⟩);intro j;obtain ⟨f,rfl⟩:=pd j;obtain ⟨y,l,c⟩:=(h.tx.fN f).1 ((fo (by decide) f).1 j);unfold cI;exact b9.2 ⟨y,dB.2 ⟨(ml y).2 l,by rw [c];rfl⟩,by rw [c];rfl⟩
theorem ahy {m:M} {g:G} (h:ap m g 84) (c:5000≤N):IM N m.d=some ((true,()),()):=by
 have q:=ee.of h;have v:=h.sp.len;have l:ln m.d.2.2.2.2.2.2.1=4:=by rw [ar];simp_all
 rw [aaQ];refine b0 (n:=4) (Q:=fun k s=>Cn (BF N) N k m.d (cI g.tb ((List.range s).flatMap e5)) (s:Int)=some ((true,()),())) (fun k=>?_) (fun k s b e=>?_) 0 N (bM _) (by omega);rw [Xj,l,aE (by decide),akq];exact alQ h c;have I:m.d.2.2.2.2.2.2.1[s]?=some (ay m.af s):=eT (sp:=m.af) (by rw [v];exact b);have D:=h.rp.fB s b;have C:hN (ay m.af s).2.2.1:=h.sp.hY s b;have r:se (BF N) N k m.d (cI g.tb ((List.range s).flatMap e5)) (s:Int) (ay m.af s) false=some ((true,()),()):=by
  unfold se;rw [cond_false,D];cases o:g.tb s with
  |none=>
   rw [show (tI none != -1)=false from rfl,cond_false];unfold vB;rw [cond_false,aM (by omega)];rw [lA,rf,Tg q b o,eF] at e;exact e
  |some f=>
   have z:((List.range s).flatMap e5++e5 s).Nodup:=by
    rw [←lA];exact xU.sublist (tX e5 (by omega))
   have x:∀y∈(List.range s).flatMap e5,y<84:=fun y J=>(ml y).1 ((tX e5 (show s≤4 by omega)).subset J)
   rw [show (tI (some f) != -1)=true from by rw [bne_iff_ne];show (f:Int)≠ -1;omega,av,show tI (some f)=(f:Int) from rfl,XZ q b o x z c,aa];dsimp only;rw [Bool.not_true,cond_false,agt h b c,aa];unfold vB;dsimp only;rw [Bool.not_true,cond_false,aM (by omega),←lA];exact e
 rw [Xj,l,aL (by omega),a7,I,aa,UO C c,aa];dsimp only;rw [Bool.not_true,cond_false];cases u:(ay m.af s).1 with
 |true=>simp_all
 |false=>
  obtain ⟨K,j⟩:=h.sp.hv s b u;have j:(ay m.af s).2.2.1=[]:=j;rw [ed,av,K,show ((-1:Int) != -1)=false from rfl,cond_false,j,ar,bm (by simp),r]
theorem LK {m:M} {g:G} (h:cz m g) {s p:Nat} (o:s<4) (l:p<64) (f:5000≤N):xh N m.d (s:Int) (p:Int)=some (((g.en (64*s+p)).t,()),()):=by
 have e:=h.toee;rw [aaT,UP e o l f,aa];cases b:g.tb (20+(64*s+p)/4) with
 |none=>
  have:=h.rp.hS ((64*s+p)/4) (by omega) b (p%4) (by omega);rw [show 4*((64*s+p)/4)+p%4=64*s+p by omega] at this;rw [this,tg];rfl
 |some q=>
  have n:=e.lt _ q (by omega) b;have j:=h.ok (64*s+p) (by omega);have c:=h.rp.leaf ((64*s+p)/4) (by omega) (p%4) (by omega) q b;rw [show 4*((64*s+p)/4)+p%4=64*s+p by omega] at c;dsimp only [tQ];rw [Bool.not_true,cond_false,jl (by omega),show ((p:Int)%4)=((p%4:Nat):Int) by omega,aoj h.mm n (by omega),aa,c];dsimp only;rw [UQ j,aa,Bool.not_true,cond_false,cond_false]
theorem agv (a b:List Int) (g:a.length≤1000) (h:b.length≤1000) (f:5000≤N):CL N [a,b]=some ((a++b,()),()):=by
 obtain ⟨K,rfl⟩:∃k,N=k+1+1+1:=⟨N-3,by omega⟩
 have c:ln [a,b]=2:=rfl;have d:∀{ρ:Type} {k:List Int→Option ρ},gi [a,b] 0 k=k a:=fun {ρ k}=>rfl
 have e:∀{ρ:Type} {k:List Int→Option ρ},gi [a,b] 1 k=k b:=fun {ρ k}=>rfl
 rw [Y2,MH,c,ba (by decide),av,d,ar,a6 (x:=0+(a.length:Int)) (by omega) (by omega),aE (by omega),a6 (x:=0+1) (by decide) (by decide),
  MH,c,ba (by decide),av,show (0+1:Int)=1 from rfl,e,ar,a6 (x:=0+(a.length:Int)+(b.length:Int)) (by omega) (by omega),aE (by omega),a6 (x:=1+1) (by decide) (by decide),
  MH,c,aE (by decide),aiJ]
 unfold Ew;rw [ba (show (0:Int)≤0+(a.length:Int)+(b.length:Int) by omega),ba (show 0+(a.length:Int)+(b.length:Int)≤4294967296 by omega)];dsimp only [Bool.and_self];rw [MI,c,ba (by decide),av,d,cd (by simp;omega),dJ,a6 (x:=0+1) (by decide) (by decide),
  MI,c,ba (by decide),av,show (0+1:Int)=1 from rfl,e,cd (by omega),a6 (x:=1+1) (by decide) (by decide),
  MI,c,aE (by decide),aiK]
 rfl
theorem agR {x:dL} {en:Nat→E} {i:Nat} (f:kg en) (g:x.1=(cJ en i:Int)) (b:x.1=0→x.2.1=[]) (d:x.1≠0→x.2.1.length=4∧∀v∈x.2.1,0≤v∧v≤100000) (e:5000≤N):Ia N x=some ((true,()),()):=by
 rw [ZJ];by_cases c:x.1=0;rw [show (x.1==0)=true from by simpa using c,av,b c];rfl;have:=Ko f i;rw [show (x.1==0)=false from by simpa using c,cond_false,fZ,aa,ba (by omega)];dsimp only;rw [av,UY (d c) e,aa]
theorem agu {sl:List dL} {en:Nat→E} (h:jN sl en) (e:kg en) (d:5000≤N):HQ N sl=some ((true,()),()):=by
 have f:=h.len;rw [Y1];refine kw (fun m i=>BO (GY N) N m sl i) _ 0 sl.length (fun m i _ hi=>?_) (fun m=>?_) (bM _) (by omega);have c:=aT hi;have b:=cY hi;rw [V4,ar,aL (by omega),a7,c,aa,agR e (h.cJ i _ c) (h.zero _ b) (h.held _ b) d,aa];dsimp only;rw [Bool.not_true,cond_false,aM (by omega)];rw [V4,ar,aE (by omega),aiI,ar,ba (by omega)]
abbrev KI:Ty:=.int .i64
abbrev gR:=List (Int×Int×Unit)
def gI (k:Int) (xs:gR):Int:=c0 KI k xs
def pI (k v:Int) (xs:gR):gR:=dC KI k v xs
theorem Vk (k v:Int):pI k v []=[(k,v,())]:=rfl
theorem x2 (k:Int) (e:Int×Int×Unit) (xs:gR):gI k (e::xs)=if k=e.1 then e.2.1 else gI k xs:=by
 show (if (k==e.1)=true then e.2.1 else gI k xs)=_;simp_all
theorem Vj (k v:Int) (e:Int×Int×Unit) (xs:gR):pI k v (e::xs)=if k=e.1 then (k,v,())::xs else e::pI k v xs:=by
 show (if (k==e.1)=true then ((k,v,())::xs:gR) else e::pI k v xs)=_;simp_all
structure hr (xs:gR) (c:Int→Nat):Prop where
 nd:(xs.map (·.1)).Nodup
 val:∀k:Int,gI k xs=(c k:Int)
 key:∀k,k∈xs.map (·.1)↔0<c k
theorem hr.nil:hr [] fun _=>0:=⟨h3,fun _=>rfl,fun k=>by simp⟩
theorem Tu (k v:Int):∀(xs:gR) (j:Int),gI j (pI k v xs)=if j=k then v else gI j xs
 |[],j=>by rw [Vk,x2]
 |e::xs,j=>by
  rw [Vj];by_cases c:k=e.1;rw [ak c,x2,x2];simp_all;rw [aj c,x2,x2,Tu k v xs j];omega
theorem KY (k v:Int):∀xs:gR,(pI k v xs).map (·.1)=if k∈xs.map (·.1) then xs.map (·.1) else xs.map (·.1)++[k]
 |[]=>by rw [Vk];simp
 |e::xs=>by
  rw [Vj];by_cases c:k=e.1;simp_all;rw [aj c,dh,KY k v xs]
  grind
theorem hr.up {xs:gR} {c c':Int→Nat} (h:hr xs c) {k:Int} (hk:c k<100000) (f:∀j,c' j=if j=k then c j+1 else c j):hr (pI k (wi (gI k xs+1)) xs) c':=by
 have e:wi (gI k xs+1)=((c k+1:Nat):Int):=by rw [h.val,a6 (by omega) (by omega)];rfl
 refine ⟨?_,fun j=>?_,fun j=>?_⟩;rw [KY];by_cases d:k∈xs.map (·.1);rw [ak d];exact h.nd;rw [aj d];exact cn.2 ⟨h.nd,by simp,fun a g b l e=>d (by simp_all)⟩;rw [Tu,e,f];by_cases d:j=k;simp_all;rw [aj d,aj d];exact h.val j;rw [KY,f];by_cases d:k∈xs.map (·.1);rw [ak d,h.key];by_cases e:j=k;subst e;rw [ak rfl];have:=(h.key j).1 d;omega;rw [aj e];rw [aj d,aZ,h.key]
 grind
def EC (e:E) (k:Int):Bool:=match e with
 | .sl i=>(i:Int)==k
 |_=>false
def il (e:E) (k:Int):Bool:=match e with
 | .pg f _ _=>(f:Int)==k
 |_=>false
def uf (e:E) (k:Int):Bool:=match e with
 | .pg f true _=>(f:Int)==k
 |_=>false
def cB (en:Nat→E) (q:E→Int→Bool) (b:Nat) (k:Int):Nat:=((List.range b).filter fun y=>q (en y) k).length
theorem SR (en:Nat→E) (q:E→Int→Bool) (b:Nat) (k:Int):cB en q (b+1) k=if q (en b) k then cB en q b k+1 else cB en q b k:=by
 unfold cB;rw [gD,hG,cw]
 grind
theorem acU (en:Nat→E) (q:E→Int→Bool) (b:Nat) (k:Int):cB en q b k≤b:=Nat.le_trans (gA _ _) (by simp)
theorem hr.skip {en:Nat→E} {q:E→Int→Bool} {b:Nat} {xs:gR} (h:hr xs (cB en q b)) (c:∀k,q (en b) k=false):hr xs (cB en q (b+1)):=by
 have:cB en q (b+1)=cB en q b:=funext fun k=>by rw [SR,c k];rfl
 rw [this];exact h
theorem hr.step {en:Nat→E} {q:E→Int→Bool} {b:Nat} {xs:gR} (h:hr xs (cB en q b)) (e:b<1000) {c:Int} (d:∀k,q (en b) k=(c==k)):hr (pI c (wi (gI c xs+1)) xs) (cB en q (b+1)):=
 h.up (by have:=acU en q b c;omega) fun j=>by
  rw [SR,d]
  grind
structure hK (en:Nat→E) (b:Nat) (xs c zs:gR):Prop where
 sl:hr xs (cB en EC b)
 fr:hr c (cB en il b)
 wr:hr zs (cB en uf b)
theorem hK.no {en:Nat→E} {b:Nat} {xs d zs:gR} (h:hK en b xs d zs) (c:en b=.no):hK en (b+1) xs d zs:=
 ⟨h.sl.skip fun k=>by rw [c];rfl,h.fr.skip fun k=>by rw [c];rfl,h.wr.skip fun k=>by rw [c];rfl⟩
theorem hK.UD {en:Nat→E} {b:Nat} {xs d zs:gR} (h:hK en b xs d zs):∀n,(∀p,p<n→en (b+p)=.no)→hK en (b+n) xs d zs
 |0,_=>h
 |n+1,c=>(hK.UD h n fun p e=>c p (by omega)).no (c n (by omega))
theorem Td {m:M} {g:G} {z:Nat} (h:ap m g z) {s:Nat} (c:s<4) (l:(ay m.af s).1=false):∀p,p<64→g.en (64*s+p)=.no:=by
 intro p o;have b:=(h.sp.hv s c l).1;rw [h.rp.fB s c] at b;have d:g.tb s=none:=by
  cases j:g.tb s with
  |none=>rfl
  |some f=>rw [j] at b;have b:(f:Int)= -1:=b;omega
 have e:=h.rp.c1 s (by omega) d (p/16) (by omega);have n:=h.rp.c1 (4*s+4+p/16) (by omega) e (p/4%4) (by omega);have h4:=h.rp.hS ((64*s+p)/4) (by omega) (by grind) (p%4) (by omega)
 grind
theorem ans {m:M} {g:G} {z:Nat} (h:ap m g z) {s:Nat} (ad:s<4) {k:KT bA} (Z:5000≤N):∀p v,p≤64→64-p<v→∀xs j zs:gR,hK g.en (64*s+p) xs j zs→
 ∃l o q,hK g.en (64*s+64) l o q∧wL k N v m.d (s:Int) xs j zs (p:Int)=xx k m.d (s:Int) l o q:=by
 have ab:cz m g:=⟨ee.of h,fun y ae=>h.mo ae⟩;refine b0 (n:=64) (Q:=fun v p=>∀xs j zs:gR,hK g.en (64*s+p) xs j zs→∃l o q,hK g.en (64*s+64) l o q∧wL k N v m.d (s:Int) xs j zs (p:Int)=xx k m.d (s:Int) l o q) (fun v xs j zs u=>?_) (fun v p ac af xs j zs u=>?_);exact ⟨xs,j,zs,u,by rw [Xo,aE (by decide)]⟩;have Y:∀{l o q:gR},hK g.en (64*s+p+1) l o q→∃J K O,hK g.en (64*s+64) J K O∧pN k N v m.d (s:Int) (p:Int) l o q=xx k m.d (s:Int) J K O:=by
  intro l o q U;obtain ⟨a,b,c,D,I⟩:=af l o q U;exact ⟨a,b,c,D,by unfold pN;rw [aM (by omega)];exact I⟩
 have C:64*s+p<1000:=by omega
 have ag:∀e:E,g.en (64*s+p)=e→∃l o q,hK g.en (64*s+p+1) l o q∧(cond (!decide (e=.no)) (yE N e.t xs j zs fun ah ai aj=>(pN k N v m.d (s:Int) (p:Int) ah ai aj)) (pN k N v m.d (s:Int) (p:Int) xs j zs))=pN k N v m.d (s:Int) (p:Int) l o q:=by
  intro e x;cases e with
  |no=>exact ⟨xs,j,zs,u.no x,by simp_all⟩
  |sl i=>
   refine ⟨pI i (wi (gI i xs+1)) xs,j,zs,⟨u.sl.step C fun k=>by rw [x];rfl,u.fr.skip fun k=>by rw [x];rfl,u.wr.skip fun k=>by rw [x];rfl⟩,?_⟩;rw [bm (by simp),ed,av,g9];unfold yE;dsimp only;rw [aL (by omega)];rfl
  |pg f w r=>
   cases w with
   |true=>
    refine ⟨xs,pI f (wi (gI f j+1)) j,pI f (wi (gI f zs+1)) zs,⟨u.sl.skip fun k=>by rw [x];rfl,u.fr.step C fun k=>by rw [x];rfl,u.wr.step C fun k=>by rw [x];rfl⟩,?_⟩;rw [bm (by simp),ed,av,eY];unfold yE;dsimp only;rw [aE (by decide),av];rfl
   |false=>
    refine ⟨xs,pI f (wi (gI f j+1)) j,zs,⟨u.sl.skip fun k=>by rw [x];rfl,u.fr.step C fun k=>by rw [x];rfl,u.wr.skip fun k=>by rw [x];rfl⟩,?_⟩;rw [bm (by simp),ed,av,eY];unfold yE;dsimp only;rw [aE (by decide),cond_false];rfl
 obtain ⟨l,o,q,W,X⟩:=ag _ rfl;obtain ⟨a,b,c,D,I⟩:=Y W;refine ⟨a,b,c,D,?_⟩;rw [Xo,aL (by omega),LK ab ad ac Z,aa,tg,aa,←I,←X];exact dx (fun b=>cond (!b) _ _) (Kv (g.en (64*s+p)))
theorem ant {m:M} {g:G} {z:Nat} (h:ap m g z) {k:KT bA} (D:5000≤N):∀s f,s≤4→4-s<f→∀xs e zs:gR,hK g.en (64*s) xs e zs→
 ∃j l o,hK g.en 256 j l o∧wK k N f m.d xs e zs (s:Int)=DL k m.d j l o:=by
 have v:ln m.d.2.2.2.2.2.2.1=4:=by rw [ar];show (m.af.length:Int)=4;rw [h.sp.len];rfl
 refine b0 (n:=4) (Q:=fun f s=>∀xs e zs:gR,hK g.en (64*s) xs e zs→∃j l o,hK g.en 256 j l o∧wK k N f m.d xs e zs (s:Int)=DL k m.d j l o) (fun f xs e zs q=>?_) (fun f s r x xs e zs q=>?_);exact ⟨xs,e,zs,q,by rw [Xn,v,aE (by decide)]⟩;have J:m.d.2.2.2.2.2.2.1[s]?=some (ay m.af s):=eT (sp:=m.af) (by rw [h.sp.len];exact r);rw [Xn,v,aL (by omega),a7,J,aa];cases I:(ay m.af s).1 with
 |false=>
  have U:=q.UD 64 (Td h r I);obtain ⟨a,b,c,y,u⟩:=x xs e zs (by omega);refine ⟨a,b,c,y,?_⟩;rw [ed,av];unfold A6;rw [aM (by omega)];exact u
 |true=>
  obtain ⟨a,b,c,y,u⟩:=ans (N:=N) h r (k:=Hq k N f) D 0 N (by omega) (by omega) xs e zs q;obtain ⟨a',C,c',K,O⟩:=x a b c (by omega);refine ⟨a',C,c',K,?_⟩;rw [Bool.not_true,cond_false];refine Eq.trans u ?_;rw [akv];unfold A6;rw [aM (by omega)];exact O
theorem aeR (e:E) (i:Nat):EC e (i:Int)=decide (e=.sl i):=by
 cases e with
 |sl j=>
  show ((j:Int)==(i:Int))=_
  grind
 |_=>simp [EC]
theorem Km (en:Nat→E) (i:Nat):cB en EC 256 (i:Int)=cJ en i:=by
 unfold cB cJ;congr 1;exact rD fun y _=>aeR _ _
theorem tL {en:Nat→E} {q:E→Int→Bool} {k:Int}:0<cB en q 256 k↔∃y,y<256∧q (en y) k=true:=by
 unfold cB;simp_all
theorem qQ {e:E} {k:Int}:il e k=true↔∃f w r,e=.pg f w r∧k=(f:Int):=by
 cases e with
 |pg f w r=>
  show ((f:Int)==k)=true↔_
  grind
 |_=>simp [il]
theorem aeS {e:E} {k:Int}:uf e k=true↔∃f r,e=.pg f true r∧k=(f:Int):=by
 cases e with
 |pg f w r=>
  cases w with
  |true=>
   show ((f:Int)==k)=true↔_
   grind
  |false=>simp [uf]
 |_=>simp [uf]
theorem aeg {en:Nat→E} (h:kg en) {k:Int} (q:0<cB en uf 256 k):cB en il 256 k≤1:=by
 obtain ⟨y,u,o⟩:=tL.1 q;obtain ⟨f,r,e,rfl⟩:=aeS.1 o;unfold cB;have:∀z∈(List.range 256).filter fun z=>il (en z) (f:Int),z=y:=by
  intro z d;rw [dB] at d;have v:z<256:=by simpa using d.1
  obtain ⟨n,w',C,j,D⟩:=qQ.1 d.2;obtain rfl:f=n:=by omega
  apply ho;intro c;have:=(h.pg y z f true r w' C u v e j).2 (fun x=>c x.symm);cases this
 have g:((List.range 256).filter fun z=>il (en z) (f:Int)).Nodup:=u5.filter _;generalize (List.range 256).filter (fun z=>il (en z) (f:Int))=l at this g
 match l,this,g with
 |[],_,_=>simp
 |[a],_,_=>simp
 |a::b::l,I,J=>
  simp_all
theorem hr.len {xs:gR} {c:Int→Nat} (h:hr xs c) {l:List Int} (b:l.Nodup) (d:∀k,k∈l↔0<c k):xs.length=l.length:=by
 have e:=(zf h.nd b).2 fun k=>(h.key k).trans (d k).symm
 simpa using e.length_eq
theorem ahz {m:M} {g:G} {z:Nat} (h:ap m g z) (D:5000≤N):IN N m.d=some ((true,()),()):=by
 have ai:=h.fS;have aq:=h.sl.len;obtain ⟨xs,q,zs,I,e⟩:=ant (N:=N) h (k:=Hp N) D 0 N (by omega) (by omega) [] [] [] ⟨hr.nil,hr.nil,hr.nil⟩;rw [aaR];refine Eq.trans e ?_;rw [aku,show m.d.2.2.2.2.2.2.2.1=m.aD from rfl,agu h.sl h.pg D,aa];dsimp only;rw [Bool.not_true,cond_false]
 let o:Nat→Nat:=fun i=>((List.range i).filter fun j=>decide (0<cJ g.en j)).length
 have ac:xs.length=o m.aD.length:=by
  rw [I.sl.len (l:=((List.range m.aD.length).filter fun j=>decide (0<cJ g.en j)).map fun j:Nat=>(j:Int)) ?_ ?_,c2];unfold List.Nodup;rw [iC];exact (u5.filter _).imp fun h=>by omega
  intro k;rw [b9];constructor;rintro ⟨j,Y,rfl⟩;rw [dB] at Y;rw [Km];simpa using Y.2;intro hk;obtain ⟨y,C,b⟩:=tL.1 hk;cases J:g.en y with
  |sl i=>
   rw [J] at b;have b:((i:Int)==k)=true:=b;have b:(i:Int)=k:=by simpa using b
   refine ⟨i,dB.2 ⟨by simpa using (h.eo.sl y C i J).1,?_⟩,b⟩;rw [←b,Km] at hk;simpa using hk
  |_=>rw [J] at b;cases b
 have ad:q.length=(cG m.st 5).length:=I.fr.len (x4 _ _) fun k=>by
  constructor;intro hk;obtain ⟨f,rfl⟩:=pd hk;obtain ⟨y,w,r,C,W⟩:=h.mp f ((fo (by decide) f).1 hk);exact tL.2 ⟨y,C,qQ.2 ⟨f,w,r,W,rfl⟩⟩;intro hk;obtain ⟨y,C,b⟩:=tL.1 hk;obtain ⟨f,w,r,W,rfl⟩:=qQ.1 b;exact (fo (by decide) f).2 (h.eo.pg y C f w r W).1
 refine b0 (n:=m.aD.length) (Q:=fun U i=>Co (Ho N) N U m.d xs q zs ((o i:Nat):Int) (i:Int)=some ((true,()),())) (fun U=>?_) (fun U i hi O=>?_) 0 N (bM _) (by omega);rw [Xl,show ln m.d.2.2.2.2.2.2.2.1=(m.aD.length:Int) from rfl,aE (by omega),aks,yx m 5 (by omega) D,aa];have an:=nI m.st 5;generalize ag:(((cG m.st 5,()),()):cT)=v;have Z:v.1.1=cG m.st 5:=by rw [←ag]
 refine kw (fun k i=>wJ (sG N) N k m.d v xs q zs ((o m.aD.length:Nat):Int) i) _ 0 (cG m.st 5).length (fun k i _ hi=>?_) (fun k=>?_) (bM _) (by omega);have u:=aT hi;obtain ⟨f,X⟩:=pd (cY hi);have af:=(fo (st:=m.st) (v:=5) (by decide) f).1 (by grind);obtain ⟨y,w,r,C,J⟩:=h.mp f af;have ao:0<cB g.en il 256 (f:Int):=tL.2 ⟨y,C,qQ.2 ⟨f,w,r,J,rfl⟩⟩;have al:sf (sG N) N k m.d xs q zs ((o m.aD.length:Nat):Int) v (i:Int) false=wJ (sG N) N k m.d v xs q zs ((o m.aD.length:Nat):Int) ((i+1:Nat):Int):=by
  unfold sf;rw [cond_false,aM (by omega)]
 rw [Xm,Z,ar,aL (by omega),bf hi,bi,u,aa,X];show cond (gI (f:Int) q==0) _ (cond (decide (gI (f:Int) zs>0)) (sf (sG N) N k m.d xs q zs ((o m.aD.length:Nat):Int) v (i:Int) (decide (gI (f:Int) q>1))) _)=_;rw [I.fr.val,I.wr.val,show (((cB g.en il 256 (f:Int):Nat):Int)==0)=false from by grind,cond_false];by_cases ah:0<cB g.en uf 256 (f:Int);have:=aeg h.pg ah
 grind
 simp_all;have ae:=mB h;rw [cw] at ae;rw [Xm,Z,ar,aE (by omega),akt,ar,ac,l0,av,yx m 5 (by omega) D,aa,ar,ad];dsimp only;rw [ar,l0,av];rw [show CL N [m.aK,m.bn]=_ from agv _ _ (by omega) (by omega) D,aa];dsimp only;rw [yz (by omega) (by simp;omega) h.ls.b7 (fun x=>?_) D,aa];rw [h.ls.mem];constructor;rintro ⟨f,rfl,X⟩;exact (fo (by decide) f).2 X;intro u;obtain ⟨f,rfl⟩:=pd u;exact ⟨f,rfl,(fo (by decide) f).1 u⟩;have u:m.aD[i]?=some m.aD[i]:=aT hi;have ab:=h.sl.cJ i _ u;have am:o i≤i:=Nat.le_trans (gA _ _) (by simp);have K:o (i+1)=if 0<cJ g.en i then o i+1 else o i:=by
  show ((List.range (i+1)).filter _).length=_;rw [gD,hG,cw]
  grind
 rw [Xl,show ln m.d.2.2.2.2.2.2.2.1=(m.aD.length:Int) from rfl,aL (by omega),a7,show m.d.2.2.2.2.2.2.2.1[i]?=some m.aD[i] from u,aa];show cond (gI (i:Int) xs !=m.aD[i].1) _ _=_;rw [I.sl.val,Km,ab,kf,cond_false];unfold GO;by_cases c:0<cJ g.en i;rw [ak c] at K;rw [K] at O;rw [aL (by omega),aM (by omega),aM (by omega)];exact O;rw [aj c] at K;rw [K] at O;rw [aE (by omega),aM (by omega)];exact O
theorem agw {m:M} {g:G} (h:ap m g 84) (b:5000≤N):HR N m.d=some ((true,()),()):=by
 rw [Y7,ahw h b,aa];dsimp only;rw [av,ahx h b,aa];dsimp only;rw [av,ahy h b,aa];dsimp only;rw [av,ahz h b,aa]
theorem Ge (l:LI) (h:l.length≤1000):pQ N l=some ((l,()),()):=by
 rw [apK,cd (by simp;omega)];rfl
theorem aqa (l:bh) (h:l.length≤1000) (d:∀r∈l,r.length≤1000) (e:5000≤N):aoq N l=some ((l,()),()):=by
 rw [apJ,yj (fun k acc i=>an4 (anV N) N k l acc i) (fun acc=>aoA (anV N) l acc) l id ?_ ?_ (by omega),aqq,List.map_id];intro c acc i x b f;have hi:=(bR.1 b).1;rw [apr,ar,aL (by omega),a7,b,aa,Ge _ (d _ (cS b)),aa,cd (by simp;omega),aM (by omega)];rfl;intro c acc;rw [apr,ar,aE (by omega)]
theorem aqb (l:List a1) (h:l.length≤1000) (d:∀r∈l,r.2.2.1.length≤1000) (e:5000≤N):aor N l=some ((l,()),()):=by
 rw [apL,yj (fun k acc i=>an5 (anW N) N k l acc i) (fun acc=>aoB (anW N) l acc) l id ?_ ?_ (by omega),aqr,List.map_id];intro c acc i x b f;have hi:=(bR.1 b).1;have:=d _ (cS b);rw [aps,ar,aL (by omega),a7,b,aa,cd (by simp;omega),cd (by simp;omega),aM (by omega)];rfl;intro c acc;rw [aps,ar,aE (by omega)]
theorem aqc (l:List br) (h:l.length≤1000) (d:∀r∈l,r.2.1.length≤1000) (e:5000≤N):aos N l=some ((l,()),()):=by
 rw [apM,yj (fun k acc i=>an6 (anX N) N k l acc i) (fun acc=>aoC (anX N) l acc) l id ?_ ?_ (by omega),aqs,List.map_id];intro c acc i x b f;have hi:=(bR.1 b).1;rw [apt,ar,aL (by omega),a7,b,aa,Ge _ (d _ (cS b)),aa,cd (by simp;omega),aM (by omega)];rfl;intro c acc;rw [apt,ar,aE (by omega)]
theorem aqh (m:M) (h:Pf m) (b:5000≤N):Gb N m.d=some ((m.d,()),()):=by
 rw [apV,aqa _ h.mem.1 h.mem.2 b,aa,Ge _ h.st,aa,cd (by have:=h.bI;simp;omega),aqb _ h.aC.1 h.aC.2 b,aa,cd (by have:=h.au;simp;omega),aqc _ h.aD.1 h.aD.2 b,aa,Ge _ h.aK,aa,Ge _ h.bn,aa];rw [yj (fun k acc i=>aob (an0 N) N k m.d ((m.mem,()),()) ((m.st,()),()) ((m.aC,()),()) ((m.aD,()),()) ((m.aK,()),()) ((m.bn,()),()) acc i) (fun acc=>aoE (an0 N) m.d ((m.mem,()),()) ((m.st,()),()) ((m.aC,()),()) ((m.aD,()),()) ((m.aK,()),()) ((m.bn,()),()) acc) m.af id ?_ ?_ (by have:=h.af.1;omega),aqA,List.map_id];rfl;intro e acc i x c g;have hi:=(bR.1 c).1;have f:=h.af.1;have:=h.af.2 _ (cS c);rw [apz,show ln m.d.2.2.2.2.2.2.1=(m.af.length:Int) from rfl,aL (by omega),a7,show m.d.2.2.2.2.2.2.1[i]?=some x from c,aa,cd (by simp;omega),cd (by simp;omega),aM (by omega)];rfl;intro e acc;rw [apz,show ln m.d.2.2.2.2.2.2.1=(m.af.length:Int) from rfl,aE (by omega)]
theorem aqo (l:List dt) (b:l.length=4) (d:5000≤N):aot N l=some ((Er l,()),()):=by
 rw [apN];have step:∀(T s:Nat),s<4→pP (pO N) N (T+1) l (s:Int)=cond (!(ay l s).1) (some (((s:Int),()),())) (pP (pO N) N T l ((s+1:Nat):Int)):=by
  intro T s e;rw [apu,ar,b,aL (by omega),a7,eT (by omega),aa,apO,aa,aqt,aM (by omega)]
 obtain ⟨K,c⟩:∃k,N=k+1+1+1+1+1:=⟨N-5,by omega⟩
 rw [show pP (pO N) N N l 0=pP (pO N) N (K+1+1+1+1+1) l ((0:Nat):Int) by rw [←c];rfl];rw [step _ 0 (by omega),step _ 1 (by omega),step _ 2 (by omega),step _ 3 (by omega),apu,ar,b,aE (by omega),aqu];unfold Er o9
 grind
theorem aqd {m:M} {g:G} (h:ap m g 84) (b:5000≤N):aou N m.d=match o9 m.af with
 |none=>some ((m.d,(0,(2,()))),())
 |some s=>some (({m with af:=m.af.set s (true,(ay m.af s).2)}.d,((s:Int),(0,()))),()):=by
 rw [apQ,agw h b,aa];dsimp only;rw [Bool.not_true,cond_false,apW,show m.d.2.2.2.2.2.2.1=m.af from rfl,aqo _ h.sp.len b,aa,aa,aqh m (alb h) b];unfold Er;cases c:o9 m.af with
 |none=>rfl
 |some s=>
  have e:=h.sp.len;have f:=(Ky c).1;dsimp only;rw [aE (by omega),aa];dsimp only;rw [bf (by omega),bi,eT (by omega),aa]
theorem ap9 {m:M} {g:G} {z:Nat} (h:ap m g z) {x y:bZ} (f:x∈m.au) (l:y∈m.au) (e:x.1=y.1):x=y:=by
 obtain ⟨i,hi,rfl⟩:=pR.1 f;obtain ⟨j,b,rfl⟩:=pR.1 l;have d:=ld.1 h.kr.pn;rcases Nat.lt_trichotomy i j with c|rfl|c
 have:=d i j hi b c;omega;rfl;have:=d j i b hi c;omega
def m4 (x:bZ) (w:Nat):Nat×Nat:=if x.2.2.1= -1 then ((x.2.1+(w:Int)/4).toNat,w%4) else (x.2.1.toNat,(x.2.2.1*cH x.2.2.2.2.1+(w:Int)).toNat)
theorem aqm {m:M} {g:G} {z:Nat} (h:ap m g z) {x:bZ} (b:x∈m.au) {w:Nat} (C:(w:Int)<x.2.2.2.2.1) (r:5000≤N):
 w7 N m.d x.1 (w:Int)=some ((((m4 x w).1:Int),(((m4 x w).2:Int),(true,()))),())∧(m4 x w).2<4∧(m4 x w).1<m.mem.length:=by
 have ha:=h.kr.nX;have O:=h.fS;have K:1≤x.2.2.2.2.1∧x.2.2.2.2.1≤32:=by
  by_cases c:x.2.2.1= -1;obtain ⟨h5,J,_⟩:=h.kr.j3 x b c;omega;obtain ⟨_,_,_,_,_,_,q,h4,_⟩:=h.kr.jA x b c;omega
 rw [Zb];rcases U1 (N:=N) m x.1 (by omega) r with ⟨_,e⟩|⟨i,o,e,n,y⟩
 exact absurd rfl (e x b);obtain rfl:=ap9 h (cS n) b y;rw [e,aa];dsimp only;rw [aE (by omega),a7,n,aa,dn,aa];dsimp only;rw [a6 (by omega) (by omega),ef (by omega) (by omega),Bool.not_true];unfold vn;rw [cond_false,a7];dsimp only;rw [n,aa];unfold m4;rcases ap.agj h b (w:=(w:Int)) (by omega) C with ⟨j,f,k,l,hk,v,I⟩|⟨j,q,h4,f,k,l,hk,v,D⟩
 have u:=h.sn.lt (f:=f) (by omega);rw [ak j];dsimp only;rw [j,ba (by decide),av,pM (by omega),jl (by omega),a6 (x:=(w:Int)/4) (by omega) (by omega),l,hk,a6 (by omega) (by omega)];refine ⟨?_,by omega,by omega⟩;rw [show ((f:Int)).toNat=f from rfl,show w%4=k by omega];have u:=h.sn.lt (f:=f) (by omega);have U:0≤o.2.2.1*cH o.2.2.2.2.1:=Int.mul_nonneg j (by unfold cH;omega);rw [aj (by omega)];dsimp only;rw [aE (by omega),LB q h4 r,aa];dsimp only;rw [a6 (x:=o.2.2.1*cH o.2.2.2.2.1) (by omega) (by omega),hk,a6 (by omega) (by omega),l];exact ⟨rfl,by omega,by omega⟩
def oj (l:LI):Bool:=l.all fun x=>x==0
theorem aoJ (l:LI) (f:l.length≤1000) (e:5000≤N):rH N l=some ((oj l,()),()):=by
 rw [apP];refine b0 (n:=l.length) (Q:=fun b i=>an7 (anY N) N b l (i:Int)=some ((oj (l.drop i),()),())) (fun b=>?_) (fun b i hi d=>?_) 0 N (bM _) (by omega);rw [apv,ar,aE (by omega),aqw,List.drop_length];rfl;rw [apv,ar,aL (by omega),a7,aT hi,aa,kc hi];by_cases c:l[i]=0;rw [show (l[i] !=0)=false from by rw [c];rfl,cond_false,aM (by omega),d];simp [oj,c];rw [show (l[i] !=0)=true from by simpa using c,av,aqv,show oj (l[i]::l.drop (i+1))=false from by unfold oj;rw [List.all_cons,show (l[i]==0)=false from by simpa using c];rfl]
def pW (m:M) (g:G) (y:Nat):LI:=match g.en y with
 | .no=>[]
 | .pg f _ _=>row m.mem f
 | .sl i=>(m.aD.getD i (0,[],())).2.1
theorem app {m:M} {g:G} {z:Nat} (h:ap m g z) {y:Nat} (e:y<256):(pW m g y).length≤4:=by
 unfold pW;cases b:g.en y with
 |no=>simp
 |pg f w r=>
  have:=(h.mm.row (h.sn.lt (f:=f) (by rw [(h.eo.pg y e f w r b).1];decide))).1;exact Nat.le_of_eq this
 |sl i=>
  have hi:=(h.eo.sl y e i b).1;dsimp only;rw [List.getD_eq_getElem?_getD,aT hi];have d:=cY hi;show m.aD[i].2.1.length≤4;by_cases c:m.aD[i].1=0;rw [h.sl.zero _ d c];simp;exact Nat.le_of_eq (h.sl.held _ d c).1
def kD (m:M) (g:G) (b:Nat):List fO:=((List.range b).filter fun y=> !oj (pW m g y)).map fun y:Nat=>(((y/64:Nat):Int),((y%64:Nat):Int),pW m g y,())
theorem aqi (m:M) (g:G) (b:Nat):kD m g (b+1)=if oj (pW m g b) then kD m g b else kD m g b++[(((b/64:Nat):Int),((b%64:Nat):Int),pW m g b,())]:=by
 unfold kD;rw [gD,hG,e2];by_cases c:oj (pW m g b)=true<;>simp [c]
theorem apq (m:M) (g:G) (b:Nat):(kD m g b).length≤b:=by
 unfold kD;rw [c2];exact Nat.le_trans (gA _ _) (by simp)
theorem aqk {m:M} {g:G} {z:Nat} (h:ap m g z) {s:Nat} (J:s<4) {k:KT Gc} {al:List Bool} {rg:List (List ca)} {u v:bS} (o:5000≤N):
 y9 k N N m.d al rg (s:Int) u v (kD m g (64*s)) 0=Gd k m.d al rg (s:Int) u v (kD m g (64*s+64)):=by
 have C:cz m g:=⟨ee.of h,fun y O=>h.mo O⟩;refine b0 (n:=64) (Q:=fun c p=>y9 k N c m.d al rg (s:Int) u v (kD m g (64*s+p)) (p:Int)=Gd k m.d al rg (s:Int) u v (kD m g (64*s+64))) (fun c=>?_) (fun c p I j=>?_) 0 N (bM _) (by omega);rw [apB,aE (by decide)];have U:=apq m g (64*s+p);have e:=app h (y:=64*s+p) (by omega);rw [show 64*s+(p+1)=64*s+p+1 by omega,aqi,show (64*s+p)/64=s by omega,show (64*s+p)%64=p by omega] at j;have x:cond (!oj (pW m g (64*s+p))) (gd (Nat.ble (List.length (kD m g (64*s+p))+List.length ([(((s:Nat):Int),(((p:Nat):Int),(pW m g (64*s+p),())))]:List fO)) bu) (m0 k N c m.d al rg (s:Int) u v (p:Int) (kD m g (64*s+p)++[(((s:Nat):Int),(((p:Nat):Int),(pW m g (64*s+p),())))]))) (m0 k N c m.d al rg (s:Int) u v (p:Int) (kD m g (64*s+p)))=Gd k m.d al rg (s:Int) u v (kD m g (64*s+64)):=by
  unfold m0;cases q:oj (pW m g (64*s+p)) with
  |true=>
   rw [q,ak rfl] at j;rw [Bool.not_true,cond_false,aM (by omega)];exact j
  |false=>
   rw [q,aj (by simp)] at j;rw [ed,av,cd (by simp;omega),aM (by omega)];exact j
 rw [apB,aL (by omega),kx C J I,aa];rw [←x];unfold pW at e⊢;cases l:g.en (64*s+p) with
 |no=>
  refine Eq.trans (dx (fun b=>cond b _ _) (show decide ((-1:Int)≥0)=false from rfl)) ?_;rw [cond_false];refine Eq.trans (dx (fun b=>cond b _ _) (show decide ((-1:Int)≥0)=false from rfl)) ?_;rw [cond_false,aoJ _ (by simp) o,aa]
 |pg f w r=>
  have D:=h.sn.lt (f:=f) (by rw [(h.eo.pg _ (by omega) f w r l).1];decide);rw [l] at e;dsimp only at e;rw [eY];dsimp only;rw [aL (by omega),a7,show m.d.1[f]?=some (row m.mem f) from (gb D).1,aa,cd (by simp;omega),aE (by decide),aoJ _ (by simp;omega) o,aa];rfl
 |sl i=>
  have hi:=(h.eo.sl _ (by omega) i l).1;rw [l] at e;dsimp only at e;have K:m.d.2.2.2.2.2.2.2.1[i]?=some (m.aD.getD i (0,[],())):=by
   show m.aD[i]?=_;rw [List.getD_eq_getElem?_getD,aT hi];rfl
  rw [g9];dsimp only;rw [aE (by decide),aL (by omega),a7,K,aa,cd (by rw [List.length_nil];omega),aoJ _ (by rw [dJ];omega) o,aa];rfl
def m3 (m:M) (x:bZ) (b:Nat):LI:=(List.range b).map fun w=>bX m.mem (m4 x w).1 (m4 x w).2
def aoi (m:M) (x:bZ):br:=(x.1,m3 m x x.2.2.2.2.1.toNat,())
def plain (m:M) (g:G):kd:=((List.range 4).map fun s=>(ay m.af s).1,(List.range 4).map fun s=>(ay m.af s).2.2.1,kD m g 256,m.au.map (aoi m),m.next,())
theorem aql {m:M} {g:G} {z:Nat} (h:ap m g z) {i:Nat} {x:bZ} (o:m.au[i]?=some x) {k:KT Gc} {al:List Bool} {rg:List (List ca)} {pg:List fO} {ob:List br} (r:5000≤N):
 zd k N N m.d al rg pg ob (i:Int) x [] 0=aog k m.d al rg pg ob (i:Int) x (m3 m x x.2.2.2.2.1.toNat):=by
 have f:=cS o;have D:1≤x.2.2.2.2.1∧x.2.2.2.2.1≤32:=by
  by_cases c:x.2.2.1= -1;obtain ⟨h5,C,_⟩:=h.kr.j3 x f c;omega;obtain ⟨_,_,_,_,_,_,y,h4,_⟩:=h.kr.jA x f c;omega
 have j:m.d.2.2.2.2.1[i]?=some x:=o;refine b0 (n:=x.2.2.2.2.1.toNat) (Q:=fun b w=>zd k N b m.d al rg pg ob (i:Int) x (m3 m x w) (w:Int)=aog k m.d al rg pg ob (i:Int) x (m3 m x x.2.2.2.2.1.toNat)) (fun b=>?_) (fun b w I v=>?_) 0 N (bM _) (by omega);rw [apD,a7,j,aa,aE (by omega)];obtain ⟨e,hk,l⟩:=aqm h f (w:=w) (by omega) r;have q:m3 m x (w+1)=m3 m x w++[bX m.mem (m4 x w).1 (m4 x w).2]:=by
  unfold m3;rw [gD,e2];rfl
 have u:(m3 m x w).length=w:=by unfold m3;simp
 rw [apD,a7,j,aa,aL (by omega),e,aa];dsimp only;rw [a7,show m.d.1[(m4 x w).1]?=some (row m.mem (m4 x w).1) from (gb l).1,aa,a7,(h.mm.bX l hk).1,aa,cd (by rw [u];simp;omega),aM (by omega),←q];exact v
theorem aqj {m:M} {g:G} {z:Nat} (h:ap m g z) {al:List Bool} {rg:List (List ca)} {pg:List fO} (f:5000≤N):
 za (u3 N) N N m.d al rg pg [] 0=some (((al,(rg,(pg,(m.au.map (aoi m),(m.next,()))))),(true,())),()):=by
 have ha:=h.kr.nX;have e:=yj (N:=N) (fun b acc i=>za (u3 N) N b m.d al rg pg acc i) (fun acc=>aoF (u3 N) m.d al rg pg acc) m.au (aoi m) (fun b acc i x c j=>?_) (fun b acc=>?_) (by omega);rw [e,aqD];have hi:=(bR.1 c).1;rw [apC,show ln m.d.2.2.2.2.1=(m.au.length:Int) from rfl,aL (by omega),a7,show m.d.2.2.2.2.1[i]?=some x from c,aa,aql h c f,aqE,cd (by simp;omega),aM (by omega)];rfl;rw [apC,show ln m.d.2.2.2.2.1=(m.au.length:Int) from rfl,aE (by omega)]
theorem apo {m:M} {g:G} (h:ap m g 84) (c:5000≤N):aof N m.d=some ((plain m g,(true,())),()):=by
 have f:ln m.d.2.2.2.2.2.2.1=4:=by rw [ar];show (m.af.length:Int)=4;rw [h.sp.len];rfl
 rw [apX,mI h c,aa];dsimp only;rw [Bool.not_true,cond_false];refine b0 (n:=4) (Q:=fun b s=>aoc (aoo N) N b m.d ((List.range s).map fun s=>(ay m.af s).1) ((List.range s).map fun s=>(ay m.af s).2.2.1) (kD m g (64*s)) (s:Int)=some ((plain m g,(true,())),())) (fun b=>?_) (fun b s e l=>?_) 0 N (bM _) (by omega);rw [apA,f,aE (by decide),aqB,aqj h c];rfl;have j:m.d.2.2.2.2.2.2.1[s]?=some (ay m.af s):=eT (sp:=m.af) (by rw [h.sp.len];exact e);have o:(ay m.af s).2.2.1.length≤12:=(h.sp.hY s e).1;rw [apA,f,aL (by omega),a7,j,aa,cd (by simp;omega),a7,j,aa,cd (by simp;omega),cd (by simp;omega),aqk h e c,aqC,aM (by omega)];rw [gD,e2,e2,show 64*(s+1)=64*s+64 by omega] at l;exact l
structure PB (p:kd):Prop where
 al:p.1.length≤1000
 rg:p.2.1.length≤1000∧∀l∈p.2.1,l.length≤1000
 pg:p.2.2.1.length≤1000∧∀x∈p.2.2.1,x.2.2.1.length≤1000
 ob:p.2.2.2.1.length≤1000∧∀x∈p.2.2.2.1,x.2.1.length≤1000
theorem aqn {m:M} {g:G} {z:Nat} (h:ap m g z):PB (plain m g):=by
 have ha:=h.kr.nX;have u:=apq m g 256;refine ⟨by simp [plain],⟨by simp [plain],fun l e=>?_⟩,⟨by show (kD m g 256).length≤1000;omega,fun x b=>?_⟩,⟨by show (m.au.map (aoi m)).length≤1000;rw [c2];omega,fun x b=>?_⟩⟩;obtain ⟨s,f,rfl⟩:=b9.1 e;have:(ay m.af s).2.2.1.length≤12:=(h.sp.hY s (by simpa using f)).1;omega;obtain ⟨y,j,rfl⟩:=b9.1 b;have:=app h (y:=y) (by simpa using (dB.1 j).1);show (pW m g y).length≤1000;omega;obtain ⟨o,d,rfl⟩:=b9.1 b;show (m3 m o _).length≤1000;unfold m3;rw [c2,List.length_range];have r:o.2.2.2.2.1≤32:=by
  by_cases c:o.2.2.1= -1;obtain ⟨h5,q,_⟩:=h.kr.j3 o d c;omega;obtain ⟨_,_,_,_,_,_,n,h4,_⟩:=h.kr.jA o d c;omega
 omega
theorem ap8 (x:ca):iS e3 x x=true:=by
 obtain ⟨a,b,c,u⟩:=x;show (a==a&&(b==b&&(c==c&&true)))=true;simp
theorem aqp {p:kd} (h:PB p) (f:5000≤N):aoy N p p=some ((true,()),()):=by
 have v:=h.al;have x:=h.rg.1;have y:=h.pg.1;have h4:=h.ob.1;have g:∀{α:Type} (l:List α),(ln l !=ln l)=false:=fun l=>by simp
 rw [apY];simp only [g,cond_false];unfold rB;rw [show (p.2.2.2.2.1 !=p.2.2.2.2.1)=false from by simp,cond_false];have q:E3 (an3 N) N N p p 0=some ((true,()),()):=by
  refine kw (fun b i=>E3 (an3 N) N b p p i) _ 0 p.2.2.2.1.length (fun b i _ hi=>?_) (fun b=>?_) (bM _) (by omega);have c:=aT hi;have d:=h.ob.2 _ (cY hi);rw [apI,ar,aL (by omega)];simp only [a7,c,aa];rw [show (p.2.2.2.1[i].1 !=p.2.2.2.1[i].1)=false from by simp,cond_false,yy _ d f,aa];unfold aol;dsimp only;rw [Bool.not_true,cond_false,aM (by omega)];rw [apI,ar,aE (by omega),aqJ]
 have o:zg (an2 N) N N p p 0=some ((true,()),()):=by
  refine kw (fun b i=>zg (an2 N) N b p p i) _ 0 p.2.2.1.length (fun b i _ hi=>?_) (fun b=>?_) (bM _) (by omega);have c:=aT hi;have d:=h.pg.2 _ (cY hi);rw [apH,ar,aL (by omega)];simp only [a7,c,aa];rw [show (p.2.2.1[i].1 !=p.2.2.1[i].1)=false from by simp,cond_false,show (p.2.2.1[i].2.1 !=p.2.2.1[i].2.1)=false from by simp,cond_false,yy _ d f,aa];unfold anU;dsimp only;rw [Bool.not_true,cond_false,aM (by omega)];rw [apH,ar,aE (by omega),aqI,q]
 have n:ze (rE N) N N p p 0=some ((true,()),()):=by
  refine kw (fun b i=>ze (rE N) N b p p i) _ 0 p.2.1.length (fun b i _ hi=>?_) (fun b=>?_) (bM _) (by omega);have c:=aT hi;have d:=h.rg.2 _ (cY hi);rw [apF,ar,aL (by omega)];simp only [a7,c,aa];rw [g,cond_false];refine Eq.trans (kw (fun e j=>aoe (an1 (rE N) N b) N e p p (i:Int) j) (aoG (an1 (rE N) N b) p p (i:Int)) 0 p.2.1[i].length (fun e j _ r=>?_) (fun e=>?_) (bM _) (by omega)) ?_;have u:=aT r;rw [apG,a7,c,aa,ar,aL (by omega)];simp only [a7,c,u,aa];rw [ap8,Bool.not_true,cond_false,aM (by omega)];rw [apG,a7,c,aa,ar,aE (by omega)];rw [aqH,aM (by omega)];rw [apF,ar,aE (by omega),aqG,o]
 refine kw (fun b i=>aod (aop N) N b p p i) _ 0 p.1.length (fun b i _ hi=>?_) (fun b=>?_) (bM _) (by omega);have c:=aT hi;rw [apE,ar,aL (by omega)];simp only [a7,c,aa];rw [show (!(p.1[i]==p.1[i]))=false from by simp,cond_false,aM (by omega)];rw [apE,ar,aE (by omega),aqF,n]
theorem aqe {m c:M} {g g':G} (h:ap m g 84) (f:ap c g' 84) (e:plain m g=plain c g') (b:5000≤N):aov N m.d c.d=some ((true,()),()):=by
 rw [apR,apo h b,aa,apo f b,aa];dsimp only;rw [av,av,←e,aqp (aqn h) b,aa]
theorem aqg (l:LI) (e:l.length≤1000) (d:5000≤N):aox N l l=some ((true,()),()):=by
 rw [apT,show (ln l !=ln l)=false from by simp,cond_false];refine kw (fun b i=>an9 (aon N) N b l l i) _ 0 l.length (fun b i _ hi=>?_) (fun b=>?_) (bM _) (by omega);have c:=aT hi;rw [apx,ar,aL (by omega),a7,c,aa,a7,c,aa,show (l[i] !=l[i])=false from by simp,cond_false,aM (by omega)];rw [apx,ar,aE (by omega),aqy]
theorem aqf (l:bh) (f:l.length≤1000) (e:∀r∈l,r.length≤1000) (d:5000≤N):aow N l l=some ((true,()),()):=by
 rw [apS,show (ln l !=ln l)=false from by simp,cond_false];refine kw (fun b i=>an8 (aom N) N b l l i) _ 0 l.length (fun b i _ hi=>?_) (fun b=>?_) (bM _) (by omega);have c:=aT hi;rw [apw,ar,aL (by omega),a7,c,aa,a7,c,aa,aqg _ (e _ (cY hi)) d,aa];dsimp only;rw [Bool.not_true,cond_false,aM (by omega)];rw [apw,ar,aE (by omega),aqx]
theorem p4 (a:LI) (b:5000≤N):P4 N a=some ((true,()),()):=by
 rw [apU,abn,aa];dsimp only;by_cases l:ln a>1048576;rw [ba l,av];rw [bm l,cond_false];rw [ar] at l;obtain ⟨m,g,y,h,e⟩:=E2 (N:=N) (a:=a) (by omega) b;rw [e,aa];dsimp only;rw [aqd h b,agY h b];cases z:o9 m.af with
 |none=>
  rw [aa,aa];dsimp only;rw [show ((2:Int) !=2)=false from rfl,cond_false,show ((2:Int) !=0)=true from rfl,av,aqe h h rfl b,aa];rfl
 |some s=>
  have C:=h.sp.len;obtain ⟨o,n,v⟩:=Ky z;have O:s<m.d.2.2.2.2.2.2.1.length:=by show s<m.af.length;omega
  have x:=h.sp.hv s o n;have u:(ay m.af s).2=(-1,[],()):=by
   obtain ⟨f,c⟩:=x;have c:(ay m.af s).2.2.1=[]:=c;revert f c;generalize (ay m.af s).2=w;intro f c;obtain ⟨X,w2,Y⟩:=w;dsimp only at f c;rw [f,c]
  have hi:=ap.spawn h o n;rw [aa,aa];dsimp only;rw [show ((0:Int) !=0)=false from rfl,cond_false,cond_false,u];have q:∀t,t<4→m.d.2.2.2.2.2.2.1[t]?=some (ay m.af t):=fun t U=>eT (sp:=m.af) (by rw [C];exact U)
  refine Eq.trans (kw (fun j i=>aoa (anZ N) N j ((m.d,(y,())),()) (({m with af:=m.af.set s (true,-1,[],())}.d,((s:Int),(0,()))),()) i) (aoD (anZ N) ((m.d,(y,())),()) (({m with af:=m.af.set s (true,-1,[],())}.d,((s:Int),(0,()))),())) 0 s (fun j i _ hi=>?_) (fun j=>?_) (bM _) (by omega)) ?_;rw [apy];dsimp only;rw [aL (by omega),bf (show i<m.d.2.2.2.2.2.2.1.length by omega),bi,q i (by omega),aa,v i hi,Bool.not_true,cond_false,aM (by omega)];rw [apy];dsimp only;rw [aE (by omega)];have D:(m.af.set s (true,-1,[],()))[s]?=some (true,-1,[],()):=by
   rw [kC (by omega)]
  have I:s<(m.af.set s (true,-1,[],())).length:=by rw [dI];omega
  rw [aqz];dsimp only;rw [bf O,bi,q s o,aa,n,ed,av];simp only [bf I,bi,D,aa];rw [av,show (ln ([]:List cC)==0)=true from rfl,av];have J:=mI (N:=N) hi b;rw [show kK N _=_ from J,aa];dsimp only;have W:=h.fS;rw [av,aqf m.mem (by omega) (fun r K=>by rw [(h.mm.mQ r K).1];decide) b,aa]
end Go.Proofs.YtgoggapkkefgmaaGreat
namespace Go.Proofs.YtgoggapkkefgmaaGreat
open Go.ChangeShapes Go.WideShapes Go.ChangeAt Go.RowKit Go.TM
theorem ab:ownKnob Tryz.prog.godebug=none:=by kernel_rfl
theorem ae3:laidOutB Tryz.prog=true:=by kernel_rfl
theorem aer {E:ao} {n:Nat} {b:List PM} {rt:List Ty} {fn:Func} {ds:List D} {v:kM rt×kM (lG b)} (h:aS E n b rt fn ds=some v):aB.g (aP E n b rt fn) ds=some (o7 rt v.1,o7 (lG b) v.2):=by
 unfold aB.g aP;simp only;rw [h]
set_option maxRecDepth 100000 in
theorem ae4 (N:Nat) (b:5000≤N):∀ds,Dj [.slice (.int .u8)] ds→aB.g (c4 N) ds=some ([⟨.bool,true⟩],[]):=by
 intro ds h;cases ds with
 |nil=>exact h.elim
 |cons d ds=>
  cases ds with
  |cons _ _=>exact h.2.elim
  |nil=>
   obtain ⟨⟨x,e,c⟩,_⟩:=h;subst e;exact aer (p4 x b)
set_option maxRecDepth 100000 in
theorem ae5 (os:Os) (started:os.Started) (H:Type) (enc:TypeId×Value→H):
 ReturnsInHanded {} Tryz.checked os 4 .any (Rows.fnSpawnsSpec.pre6 enc Tryz.prog Tryz.f4 Rows.fnSpawnsRow.domain false) (Rows.fnSpawnsSpec.post enc Tryz.prog Tryz.f4 false true false false):=by
 refine returnsInHanded_of_change_sized (C:=Tryz.checked) ab started (by kernel_rfl) Tryz.func4
  (ChangeSpec.witness6 (enc:=enc) (C:=Tryz.checked) false ⟨#[],#[.slice none 0 0],[]⟩ 8 (by kernel_rfl) (by kernel_rfl) (by kernel_rfl) (by kernel_rfl)) ?_
 intro W bg args ds b before g c j f _;exact adj (h:=(c4 5000).h) (v4 5000) Tryz.call4 (ae4 5000 (cf _)) rfl rfl (fun ds e=>by match ds,e with|[d],_=>rfl) (by kernel_rfl) rfl Tryz.underlying4 ae3 W bg args ds b before g c f
theorem spawns_holds:Rows.FnSpawnsSaid:=
 OpenClaim.holds_of_wide 4 Tryz.f4 rfl rfl rfl rfl rfl rfl rfl ⟨rfl,rfl,rfl,rfl,rfl⟩ rfl rfl rfl rfl rfl (by kernel_rfl) Tryz.func4 (by kernel_rfl)
  (eU (by kernel_rfl)) (by unfold Func.isWrapper;first|(rw [ak (by decide+kernel)];kernel_rfl)|(rw [aj (by decide+kernel)];exact ⟨rfl,rfl⟩))
  (fun os started H enc _=>ae5 os started H enc)
#print axioms spawns_holds
end Go.Proofs.YtgoggapkkefgmaaGreat
