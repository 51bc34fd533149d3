/- PROVED HERE: the row FnCensusSaid as it is given: FnCensus answers true for all codes; it asks for nothing more. Part 8 of 8 (the theorem stands in the last one; here: the law and the row). Own names are shortened. -/
import Derived.OpenShut
import Derived.ProofKit
import Derived.SizedLaws
import Derived.Test.YtgoggapkkefgmaaGreatRows
import Derived.Test.YtgoggapkkefgmaaGreatXG
set_option autoImplicit false
set_option linter.unusedVariables false
set_option linter.unusedSimpArgs false
set_option linter.constructorNameAsVariable false
namespace Go.Proofs.YtgoggapkkefgmaaGreat
set_option maxRecDepth 100000
open Go.TM Go.bz
variable {N:Nat}
theorem UO {l:List cC} (h:hN l) (o:5000≤N):CK N l=some ((true,()),()):=by
 obtain ⟨q,e,d⟩:=h;rw [YX];refine kw (fun m i=>vX (vI N) N m l i) _ 0 l.length (fun m i _ hi=>?_) (fun m=>?_) (bM _) (by omega);have b:=aT hi;obtain ⟨r,u,v⟩:=e _ (cY hi);rw [V2,ar,aL (by omega),a7,b,aa,a6 (x:=l[i].2.1-1) (by omega) (by omega),fZ,aa,ba (by omega)];simp only [Bool.not_true,cond_false];rw [fZ,aa,ba (by omega)];unfold Gl;simp only [Bool.not_true,cond_false];have n:r2 (vI N) N m l i false=vX (vI N) N m l ((i+1:Nat):Int):=by
  unfold r2;rw [cond_false,aM (by omega)]
 cases i with
 |zero=>simp_all
 |succ j=>
  have c:=aT (show j<l.length by omega);obtain ⟨f,g⟩:=Mh l d j _ _ c b;rw [aL (by omega),lV (by omega),show (((j+1:Nat):Int)-1)=(j:Int) by omega];simp only [a7,c,aa]
  grind
 rw [V2,ar,aE (by omega),aiG,ar,ba (by omega)]
theorem ahf {l:List cC} (h:hN l) (O:5000≤N):Iy N l=some ((hc l,()),()):=by
 obtain ⟨X,C,W⟩:=h;rw [aae];have I:=b0 (n:=l.length) (Q:=fun m i=>∀s:LI,s=hc (l.take i)→Cc (vQ N) N m l s i=some ((hc l,()),())) (fun m s d=>by
  rw [WC,ar,aE (by omega),ajx,d,fD]) (fun m i hi J s d=>by
  have x:=aT hi;obtain ⟨K,ad,ae⟩:=C _ (cY hi);rw [WC,ar,aL (by omega),a7,x,aa];obtain ⟨a,o⟩:=hp K;obtain ⟨b,f⟩:=hp (show 0≤l[i].2.1 by omega);have cZ:=b0 (n:=b) (Q:=fun M j=>∀t:LI,a≤j→t.length=64→(∀p,p<64→t[p]?=some (if a≤p∧p<j then mE l[i] else bj (l.take i) p))→
   Cd (Bu (vQ N) N m) N M l i l[i] t j=some ((hc l,()),())) (fun M t y g c=>by
   rw [WD,f,aE (by omega),ajy,aM (by omega)];refine J t (lW fun p=>?_);rw [iD,x];by_cases q:p<64;rw [c p q,us _ q,fW,VF,o,f];simp_all;rw [g2 (by omega),g2 (by rw [yk];omega)]) (fun M j y ac t U g c=>by
   rw [WD,f,aL (by omega),bz.ud (by omega),bi,c j (by omega),aa];have r:∀(v:Int),v=mE l[i]→∀e,e.length=64→(∀p,p<64→e[p]?=if p=j then some v else t[p]?)→AQ (Bu (vQ N) N m) N M l i l[i] j e=some ((hc l,()),()):=by
    intro v ab e Z Y;unfold AQ;rw [aM (by omega)]
    grind
   cases u:(l[i]).2.2.1;rw [cond_false];refine r 1 (by simp [mE,u]) _ (by simpa using g) (fun p D=>?_)
   grind
   rw [av,bz.ud (by omega),bi,kC (by omega),aa];refine r 2 (by simp [mE,u]) _ (by simpa using g) (fun p D=>?_)
   grind)
  have z:=cZ a N (by omega) (by omega) s (cf _) (by rw [d,yk]) (fun p c=>by
   rw [d,us _ c,aj (by omega)])
  rw [o];exact z)
 exact I 0 N (bM _) (by omega) (List.replicate 64 0) (by rfl)
theorem agQ {l:List cC} (h:hN l) {p:Nat} (c:p<64) (b:5000≤N):H8 N l (p:Int)=some ((decide (bj l p>0),(bj l p==2,())),()):=by
 rw [ZH,UO h b,aa];dsimp only;rw [Bool.not_true,cond_false,fZ,aa,ef (by omega) (by omega)];unfold Gv;dsimp only;rw [Bool.not_true,cond_false,ahf h b,aa];dsimp only;rw [a7,us _ c,aa]
theorem agS {p:Nat} (b:p<64):Ib N (p:Int)=some ((((p/16:Nat):Int),(((p/4%4:Nat):Int),(((p%4:Nat):Int),()))),()):=by
 rw [ZK,fZ,aa,ef (by omega) (by omega)];dsimp only;rw [Bool.not_true,cond_false];simp only [pM (show 0≤(p:Int) by omega),jl (show 0≤(p:Int) by omega)];rw [a6 (by omega) (by omega),a6 (by omega) (by omega),jl (by omega)];simp
theorem E4 {m:M} (h:fg m.mem) {f k:Nat} (b:f<m.mem.length) (hk:k<4):s7 N m.d (f:Int) (k:Int)=some ((bX m.mem f k,(true,())),()):=by
 have l:=h.hi;obtain ⟨c,_⟩:=gb b;have e:=(h.row b).1;have j:m.d.1[f]?=some (row m.mem f):=c;have g:=(h.bX b hk).1;rw [O1,show ln m.d.1=(m.mem.length:Int) from rfl,a6 (by omega) (by omega),fZ,aa,ef (by omega) (by omega)];dsimp only;rw [Bool.not_true,cond_false,a7,show m.mem[f]?=some (row m.mem f) from c,aa,ar,e,a6 (by decide) (by decide),fZ,aa,ef (by omega) (by omega)];unfold Gp;dsimp only;rw [Bool.not_true,cond_false,a7,show m.mem[f]?=some (row m.mem f) from c,aa,a7,g,aa]
theorem agx {m:M} (h:fg m.mem) (k:Int):s7 N m.d (-1) k=some ((0,(false,())),()):=by
 have b:=h.hi;rw [O1,show ln m.d.1=(m.mem.length:Int) from rfl,a6 (by omega) (by omega),fZ,aa,bm (by omega)];rfl
def tQ:Option Nat→Int×Bool×Unit
 |none=>(0,false,())
 |some q=>((q:Int),true,())
theorem UP {m:M} {g:G} (h:ee m g) {s p:Nat} (I:s<4) (C:p<64) (X:5000≤N):CM N m.d (s:Int) (p:Int)=some ((tQ (g.tb (20+(64*s+p)/4)),())):=by
 have Y:=h.mm.hi;have Z:=h.rp.c1 s (by omega);have n:=h.rp.c1 (4+4*s+p/16) (by omega);have u:4*s+4+p/16=4+4*s+p/16:=by omega
 have e:4*(4+4*s+p/16)+4+p/4%4=20+(64*s+p)/4:=by omega
 obtain ⟨K,y⟩:∃k,N=k+1+1+1:=⟨N-3,by omega⟩
 rw [Y3,agS C,aa,a7,show m.d.2.2.2.2.2.2.1=m.af from rfl,eT (by have:=h.len;omega),aa,h.rp.fB s I];generalize o:(((((p/16:Nat):Int),(((p/4%4:Nat):Int),(((p%4:Nat):Int),()))),()):gF)=v;have J:v.1.1=((p/16:Nat):Int):=by rw [←o]
 have O:v.1.2.1=((p/4%4:Nat):Int):=by rw [←o]
 rw [show ∀x i,vZ (vK N) N N m.d v x i=vZ (vK N) N (K+1+1+1) m.d v x i from fun x i=>by rw [←y]];have j:ln ([v.1.1,v.1.2.1]:List Int)=2:=rfl;rw [MJ,j,ba (by decide),av,iW (by simp),bi];dsimp only [List.getElem?_cons_zero];rw [aa,J];cases l:g.tb s with
 |none=>
  have b:g.tb (4+4*s+p/16)=none:=by grind
  have c:g.tb (20+(64*s+p)/4)=none:=by rw [←e];exact n b _ (by omega)
  rw [show tI none= -1 from rfl,agx h.mm,aa,c];unfold vj;dsimp only;rw [ed,av,av,Mu];rfl
 |some r=>
  have D:=h.lt s r (by omega) l;have U:=h.rp.cZ s (by omega) (p/16) (by omega) r l;rw [show tI (some r)=(r:Int) from rfl,E4 h.mm D (by omega),aa,U,u];dsimp only;rw [Bool.not_true,cond_false];unfold vj;cases b:g.tb (4+4*s+p/16) with
  |none=>
   have c:g.tb (20+(64*s+p)/4)=none:=by rw [←e];exact n b _ (by omega)
   rw [show tW none=0 from rfl,ba (by decide),av,Mu,c];rfl
  |some f=>
   have z:=h.lt _ f (by omega) b;have W:=h.rp.cZ (4+4*s+p/16) (by omega) (p/4%4) (by omega) f b;rw [show tW (some f)=(f:Int)+1 from rfl,aE (by omega),a6 (x:=(f:Int)+1-1) (by omega) (by omega),show (f:Int)+1-1=f by omega,a6 (x:=0+1) (by decide) (by decide)];rw [MJ,j,ba (by decide),av,show (0+1:Int)=1 from rfl,iX (by simp),bi];dsimp only [List.getElem?_cons_zero,List.getElem?_cons_succ];rw [aa,O,E4 h.mm z (by omega),aa,W,e];dsimp only;rw [Bool.not_true,cond_false];unfold vj;cases c:g.tb (20+(64*s+p)/4) with
   |none=>
    rw [show tW none=0 from rfl,ba (by decide),av,Mu];rfl
   |some q=>
    have ab:=h.lt _ q (by omega) c;rw [show tW (some q)=(q:Int)+1 from rfl,aE (by omega),a6 (x:=(q:Int)+1-1) (by omega) (by omega),show (q:Int)+1-1=q by omega,a6 (x:=1+1) (by decide) (by decide)];rw [MJ,j,aE (by decide),aiL];rfl
theorem adg {α:Type} (b:Bool) {x y:α} (h:y=x):cond b x y=x:=by cases b;exact h;rfl
theorem ahg {e:E} (h:e.ok):Iz N e.t=some ((true,()),()):=by
 rw [aaf,tg,aa];by_cases b:e=.no;subst b;rfl;dsimp only;refine adg _ ?_;cases e with
 |no=>exact absurd rfl b
 |pg f w r=>
  have h:f<32:=h;rw [eY];dsimp only;rw [show ((-1:Int)== -1)=true from rfl,av,fZ,aa,ef (by omega) (by omega)]
 |sl i=>
  have h:i<16:=h;rw [g9];dsimp only;rw [show ((i:Int)== -1)=false from by simp_all,cond_false,show ((-1:Int)== -1)=true from rfl,av,fZ,aa,ef (by omega) (by omega)];rfl
theorem agT {e:E} (h:e.ok):Ic N e.t=some ((e.w,(true,())),()):=by
 rw [ZL,ahg h,aa];dsimp only;rw [Bool.not_true,cond_false,ZU];cases e with
 |no=>rfl
 |pg f w r=>
  have h:f<32:=h;rw [eY];dsimp only [E.w];rw [aE (by omega),aE (by omega)];have b:wi (8*(f:Int))=8*f:=a6 (by omega) (by omega);have w2:wi (1+8*(f:Int))=1+8*f:=a6 (by omega) (by omega);have c:wi (1+8*(f:Int)+2)=1+8*f+2:=a6 (by omega) (by omega);have d:wi (1+8*(f:Int)+4)=1+8*f+4:=a6 (by omega) (by omega);have g:wi (1+8*(f:Int)+2+4)=1+8*f+2+4:=a6 (by omega) (by omega);rw [b,w2,c,d,g];cases w<;>cases r<;>simp
 |sl i=>
  have h:i<16:=h;rw [g9];dsimp only [E.w];rw [aL (by omega),a6 (x:=4*(i:Int)) (by omega) (by omega),a6 (by omega) (by omega)];rfl
theorem ah3 {f:Nat} (h:f<32) (w r:Bool):(Int.tmod (E.w (.pg f w r)) 2==1)=true∧Int.fdiv (E.w (.pg f w r)) (2^(min 3 (IntKind.i64.bits)))=(f:Int)∧
 ((wi ((BitVec.ofInt (IntKind.i64.bits) (E.w (.pg f w r))&&&BitVec.ofInt (IntKind.i64.bits) 2).toNat:Int)) !=0)=w∧((wi ((BitVec.ofInt (IntKind.i64.bits) (E.w (.pg f w r))&&&BitVec.ofInt (IntKind.i64.bits) 4).toNat:Int)) !=0)=r:=by
 have key:((List.range 32).all fun f=>[true,false].all fun w=>[true,false].all fun r=>(Int.tmod (E.w (.pg f w r)) 2==1)&&(Int.fdiv (E.w (.pg f w r)) (2^(min 3 64))==(f:Int))&&
  (((wi ((BitVec.ofInt 64 (E.w (.pg f w r))&&&BitVec.ofInt 64 2).toNat:Int)) !=0)==w)&&(((wi ((BitVec.ofInt 64 (E.w (.pg f w r))&&&BitVec.ofInt 64 4).toNat:Int)) !=0)==r))=true:=by decide
 have:=dE.1 (dE.1 (dE.1 key f (by simpa using h)) w (by cases w<;>simp)) r (by cases r<;>simp);simp only [bp,ff] at this;obtain ⟨⟨⟨b,c⟩,d⟩,e⟩:=this;exact ⟨by rw [b];rfl,c,d,e⟩
theorem ah4 {i:Nat} (h:i<16):(Int.tmod (E.w (.sl i)) 2==1)=false∧(Int.tmod (E.w (.sl i)) 4==2)=true∧Int.fdiv (E.w (.sl i)) (2^(min 2 (IntKind.i64.bits)))=(i:Int):=by
 have key:((List.range 16).all fun i=> !(Int.tmod (E.w (.sl i)) 2==1)&&(Int.tmod (E.w (.sl i)) 4==2)&&(Int.fdiv (E.w (.sl i)) (2^(min 2 64))==(i:Int)))=true:=by decide
 have:=dE.1 key i (by simpa using h);simp only [bp,hn] at this;obtain ⟨⟨b,c⟩,d⟩:=this;exact ⟨b,c,eq_of_beq d⟩
theorem UQ {e:E} (h:e.ok):CN N e.w=some ((e.t,(true,())),()):=by
 have l:=E.Nu (e:=e);have b:vm N e.w e.t=some ((e.t,(true,())),()):=by
  unfold vm;rw [agT h,aa];simp_all
 rw [Y5,tg,aa,aE (by omega)];cases e with
 |no=>exact b
 |pg f w r=>
  obtain ⟨c,d,g,j⟩:=ah3 (show f<32 from h) w r;rw [c,av,d,g,j];exact b
 |sl i=>
  obtain ⟨c,d,g⟩:=ah4 (show i<16 from h);rw [c,cond_false,d,av,g];exact b
theorem Kv (e:E):iS hO (show ib from e.t) (show ib from (-1,-1,false,false,()))=decide (e=.no):=by
 cases e with
 |no=>rfl
 |pg f w r=>
  rw [bm (by simp),eY];show ((f:Int)== -1&&_)=false;simp_all
 |sl i=>
  rw [bm (by simp),g9];show ((-1:Int)== -1&&((i:Int)== -1&&_))=false;simp_all
theorem agt {m:M} {g:G} {z s:Nat} (h:ap m g z) (l:s<4) (x:5000≤N):HO N m.d (s:Int)=some ((true,()),()):=by
 have J:=ee.of h;have U:m.af[s]?=some (ay m.af s):=eT (by rw [h.sp.len];exact l);rw [YY];refine kw (fun e i=>vY (vJ N) N e m.d (s:Int) i) _ 0 64 (fun e p _ D=>?_) (fun e=>?_) (bM _) (by omega);have j:p0 (vJ N) N e m.d (s:Int) (p:Int)=vY (vJ N) N e m.d (s:Int) ((p+1:Nat):Int):=by
  unfold p0;rw [aM (by omega)]
 rw [V3,aL (by omega),UP J l D x,aa];cases I:g.tb (20+(64*s+p)/4) with
 |none=>
  dsimp only [tQ];simp_all
 |some q=>
  have O:=J.lt _ q (by omega) I;have n:64*s+p<256:=by omega
  have K:=h.mo n;have C:=h.rp.leaf ((64*s+p)/4) (by omega) (p%4) (by omega) q I;rw [show 4*((64*s+p)/4)+p%4=64*s+p by omega] at C;dsimp only [tQ];rw [Bool.not_true,cond_false,jl (by omega),show ((p:Int)%4)=((p%4:Nat):Int) by omega,E4 h.mm O (by omega),aa,C];dsimp only;rw [UQ K,aa,a7,U,aa,agQ (show hN (ay m.af s).2.2.1 from h.sp.hY s l) D x,aa];dsimp only;rw [Bool.not_true,cond_false,tg,aa];dsimp only;refine Eq.trans (dx (fun b=>cond (!b) _ _) (Kv (g.en (64*s+p)))) ?_;have u:(64*s+p)/64=s:=by omega
  have v:(64*s+p)%64=p:=by omega
  cases y:g.en (64*s+p) with
  |no=>
   rw [ba rfl];dsimp only [Bool.not_true,cond_false,E.t];exact j
  |pg f w r=>
   obtain ⟨_,c,o⟩:=h.eo.pg _ n f w r y;rw [u,v] at c o;have c:bj (ay m.af s).2.2.1 p>0:=c;rw [bm (by simp),ed,av,ba c,Bool.not_true,cond_false,eY];dsimp only;cases w with
   |true=>
    have o:bj (ay m.af s).2.2.1 p=2:=o rfl;simp_all
   |false=>exact j
  |sl i=>
   obtain ⟨_,c⟩:=h.eo.sl _ n i y;rw [u,v] at c;have c:bj (ay m.af s).2.2.1 p>0:=c;rw [bm (by simp),ed,av,ba c,Bool.not_true,cond_false,g9];exact j
 rw [V3,aE (by decide),aiH]
theorem agE (l:List Int) (x:Int) (g:l.length≤1000) (f:5000≤N):∃j:Int,HY N l x=some ((j,()),())∧(0≤j↔x∈l):=by
 rw [Zn];have key:=b0 (n:=l.length) (Q:=fun m i=>∃j:Int,BZ (Bl N) N m l x (i:Int)=some ((j,()),())∧(0≤j↔x∈l.drop i)) (fun m=>?_) (fun m i hi d=>?_) 0 N (bM _) (by omega);simpa using key;refine ⟨-1,by rw [Wl,ar,aE (by omega),ai6],?_⟩;simp;rw [Wl,ar,aL (by omega),a7,aT hi,aa];by_cases e:x=l[i];rw [show (x==l[i])=true from by simpa using e,av,ai5];exact ⟨i,rfl,by rw [kc hi,cy];omega⟩;rw [show (x==l[i])=false from by simpa using e,cond_false,aM (by omega)];obtain ⟨j,b,c⟩:=d;exact ⟨j,b,by rw [c,kc hi,cy];simp_all⟩
theorem LM (l:List Int) (x:Int) (d:l.length≤1000) (c:5000≤N):xl N l x=some ((decide (x∈l),()),()):=by
 obtain ⟨j,b,e⟩:=agE (N:=N) l x d c;rw [abd,b,aa];simp_all
def cI (tb:Nat→Option Nat) (l:List Nat):List Int:=(l.filter fun x=>(tb x).isSome).map fun x=>tI (tb x)
theorem rf (tb:Nat→Option Nat) (l b:List Nat):cI tb (l++b)=cI tb l++cI tb b:=by simp [cI]
theorem MW {tb:Nat→Option Nat} {l:List Nat} (h:∀x∈l,tb x=none):cI tb l=[]:=by
 unfold cI;simp_all
theorem MV {m:M} {g:G} (h:ee m g) {l:List Nat} (o:∀y∈l,y<84) {x f:Nat} (q:x<84) (n:g.tb x=some f) (d:(f:Int)∈cI g.tb l):x∈l:=by
 unfold cI at d;obtain ⟨y,r,e⟩:=b9.1 d;obtain ⟨j,u⟩:=dB.1 r;obtain ⟨b,c⟩:=ou.1 u;rw [c] at e;obtain rfl:b=f:=by have e:(b:Int)=f:=e;omega
 rw [h.inj x y b q (o y j) n c];exact j
theorem uR (tb:Nat→Option Nat) (l:List Nat):(cI tb l).length≤l.length:=by
 unfold cI
 grind
theorem yn {l:List Nat} (b:l.Nodup) (c:∀y∈l,y<84):l.length≤84:=by
 have:=uy (l.map fun x:Nat=>(x:Int)) 84 (by grind) fun x d=>by
  grind
 simpa using this
def ik (x:Nat):List Nat:=x::(List.range 4).map fun k=>4*x+4+k
def e5 (s:Nat):List Nat:=s::(List.range 4).flatMap fun k=>ik (4*s+4+k)
theorem alO {m:M} {g:G} (h:ee m g) {x f:Nat} (q:x<84) (b:g.tb x=some f) {l:List Nat} (n:∀y∈l,y<84) (c:(l++[x]).Nodup) (r:5000≤N):
 IP N m.d (f:Int) 3 (cI g.tb l)=some ((true,()),(cI g.tb (l++[x]),())):=by
 have C:=h.mm.hi;have j:=h.lt x f q b;have D:=yn (cn.1 c).1 n;have I:=uR g.tb l;have v:¬(f:Int)∈cI g.tb l:=fun u=>(cn.1 c).2.2 x (MV h n q b u) x (by simp) rfl
 obtain ⟨z,_⟩:=gb j;have o:=(h.mm.row j).1;rw [aaV,show ln m.d.1=(m.mem.length:Int) from rfl,a6 (by omega) (by omega),fZ,aa,ef (by omega) (by omega)];dsimp only;rw [Bool.not_true,cond_false,LM _ _ (by omega) r,aa,bm v];unfold GP;rw [cond_false,cd (by simp;omega),a7,show m.mem[f]?=some (row m.mem f) from z,aa];have e:cI g.tb l++[(f:Int)]=cI g.tb (l++[x]):=by rw [rf];congr 1;simp [cI,b,tI]
 rw [e];refine kw (fun k i=>Cp (Hr N) N k m.d 3 (row m.mem f) (cI g.tb (l++[x])) i) _ 0 4 (fun k i _ hi=>?_) (fun k=>?_) (bM _) (by omega);rw [Xp,ar,o,aL (by omega),a7,aT (by omega),aa,aE (by decide)];unfold A7;rw [cond_false,aM (by omega)];rw [Xp,ar,o,aE (by decide),akw]
theorem alP {m:M} {g:G} (h:ee m g) {x f:Nat} (Y:x<20) (j:g.tb x=some f) {l:List Nat} (z:∀y∈l,y<84) (o:(l++ik x).Nodup) (u:5000≤N):
 IQ N m.d (f:Int) 2 (cI g.tb l)=some ((true,()),(cI g.tb (l++ik x),())):=by
 have ab:=h.mm.hi;have q:=h.lt x f (by omega) j;have ac:=yn (cn.1 o).1 z;have ad:=uR g.tb l;have K:¬(f:Int)∈cI g.tb l:=fun J=>(cn.1 o).2.2 x (MV h z (by omega) j J) x (by simp [ik]) rfl
 obtain ⟨O,_⟩:=gb q;have C:=(h.mm.row q).1;rw [aaW,show ln m.d.1=(m.mem.length:Int) from rfl,a6 (by omega) (by omega),fZ,aa,ef (by omega) (by omega)];dsimp only;rw [Bool.not_true,cond_false,LM _ _ (by omega) u,aa,bm K];unfold GQ;rw [cond_false,cd (by simp;omega),a7,show m.mem[f]?=some (row m.mem f) from O,aa];have e:cI g.tb l++[(f:Int)]=cI g.tb (l++x::(List.range 0).map fun k=>4*x+4+k):=by rw [rf];congr 1;simp [cI,j,tI]
 rw [e];refine b0 (n:=4) (Q:=fun k i=>Cq (Hs N) N k m.d 2 (row m.mem f) (cI g.tb (l++x::(List.range i).map fun k=>4*x+4+k)) i=some ((true,()),(cI g.tb (l++ik x),()))) (fun k=>?_) (fun k i hi r=>?_) 0 N (bM _) (by omega);rw [Xq,ar,C,aE (by decide),akx];rfl;have W:=(h.mm.bX q hi).1;have X:=h.rp.cZ x Y i hi f j;have U:((l++x::(List.range i).map fun k=>4*x+4+k)++[4*x+4+i]).Nodup:=by
  have c:(l++x::(List.range i).map fun k=>4*x+4+k)++[4*x+4+i]=l++x::(List.range (i+1)).map fun k=>4*x+4+k:=by simp [gD]
  rw [c];exact o.sublist (List.Sublist.append_left (List.Sublist.cons_cons _ ((List.range_sublist.2 (by omega)).map _)) _)
 have c:(l++x::(List.range i).map fun k=>4*x+4+k)++[4*x+4+i]=l++x::(List.range (i+1)).map fun k=>4*x+4+k:=by simp [gD]
 have I:∀y∈(l++x::(List.range i).map fun k=>4*x+4+k),y<84:=by
  intro y D;simp only [aZ,cy,b9,et] at D
  grind
 rw [Xq,ar,C,aL (by omega),a7,W,aa,ba (by decide),av,X];cases v:g.tb (4*x+4+i) with
 |none=>
  rw [show (tW none !=0)=false from rfl,cond_false];unfold vC;rw [cond_false,aM (by omega)];rw [←c,rf,MW (l:=[4*x+4+i]) (fun y D=>by simp_all),eF] at r;exact r
 |some b=>
  have Z:=h.lt _ b (by omega) v;rw [show tW (some b)=(b:Int)+1 from rfl,show ((b:Int)+1 !=0)=true from by rw [bne_iff_ne];omega,av,a6 (x:=(b:Int)+1-1) (by omega) (by omega),show (b:Int)+1-1=b by omega,a6 (x:=2+1) (by decide) (by decide),
   show (2+1:Int)=3 from rfl,alO h (by omega) v I U u,aa]
  unfold vC;dsimp only;rw [Bool.not_true,cond_false,aM (by omega),c];exact r
theorem lA {α:Type} (F:Nat→List α) (i:Nat):(List.range (i+1)).flatMap F=(List.range i).flatMap F++F i:=by simp [gD]
theorem tX {α:Type} (F:Nat→List α) {i n:Nat} (h:i≤n):((List.range i).flatMap F).Sublist ((List.range n).flatMap F):=by
 induction n with
 |zero=>
  simp_all
 |succ n b=>
  by_cases e:i=n+1;simp_all;rw [lA];grind
theorem adt {m:M} {g:G} (h:ee m g) {x:Nat} (d:x<20) (b:g.tb x=none):cI g.tb (ik x)=[]:=MW fun y c=>by
 simp only [ik,cy,b9,et] at c;rcases c with rfl|⟨k,hk,rfl⟩
 exact b;exact h.rp.c1 x d b k hk
theorem Tg {m:M} {g:G} (h:ee m g) {s:Nat} (f:s<4) (d:g.tb s=none):cI g.tb (e5 s)=[]:=MW fun y b=>by
 simp only [e5,cy,m1,et] at b;rcases b with rfl|⟨k,hk,b⟩
 exact d;have c:=h.rp.c1 s (by omega) d k hk;simp only [ik,cy,b9,et] at b;rcases b with rfl|⟨j,e,rfl⟩
 exact c;exact h.rp.c1 _ (by omega) c j e
theorem XZ {m:M} {g:G} (h:ee m g) {x f:Nat} (af:x<4) (c:g.tb x=some f) {l:List Nat} (z:∀y∈l,y<84) (u:(l++e5 x).Nodup) (D:5000≤N):
 xi N m.d (f:Int) 1 (cI g.tb l)=some ((true,()),(cI g.tb (l++e5 x),())):=by
 have ab:=h.mm.hi;have v:=h.lt x f (by omega) c;have ad:=yn (cn.1 u).1 z;have ae:=uR g.tb l;have O:¬(f:Int)∈cI g.tb l:=fun K=>(cn.1 u).2.2 x (MV h z (by omega) c K) x (by simp [e5]) rfl
 obtain ⟨U,_⟩:=gb v;have I:=(h.mm.row v).1;rw [aaX,show ln m.d.1=(m.mem.length:Int) from rfl,a6 (by omega) (by omega),fZ,aa,ef (by omega) (by omega)];dsimp only;rw [Bool.not_true,cond_false,LM _ _ (by omega) D,aa,bm O];unfold GR;rw [cond_false,cd (by simp;omega),a7,show m.mem[f]?=some (row m.mem f) from U,aa];have e:cI g.tb l++[(f:Int)]=cI g.tb (l++x::(List.range 0).flatMap fun k=>ik (4*x+4+k)):=by rw [rf];congr 1;simp [cI,c,tI]
 rw [e];refine b0 (n:=4) (Q:=fun k i=>Cr (Ht N) N k m.d 1 (row m.mem f) (cI g.tb (l++x::(List.range i).flatMap fun k=>ik (4*x+4+k))) i=some ((true,()),(cI g.tb (l++e5 x),()))) (fun k=>?_) (fun k i hi C=>?_) 0 N (bM _) (by omega);rw [Xr,ar,I,aE (by decide),aky];rfl;have X:=(h.mm.bX v hi).1;have Y:=h.rp.cZ x (by omega) i hi f c;have q:(l++x::(List.range i).flatMap fun k=>ik (4*x+4+k))++ik (4*x+4+i)=l++x::(List.range (i+1)).flatMap fun k=>ik (4*x+4+k):=by rw [lA];simp
 have W:((l++x::(List.range i).flatMap fun k=>ik (4*x+4+k))++ik (4*x+4+i)).Nodup:=by
  rw [q];exact u.sublist (List.Sublist.append_left (List.Sublist.cons_cons _ (tX _ (by omega))) _)
 have J:∀y∈(l++x::(List.range i).flatMap fun k=>ik (4*x+4+k)),y<84:=by
  intro y o;simp only [aZ,cy,m1,et,ik,b9] at o;rcases o with o|rfl|⟨k,hk,rfl|⟨j,ac,rfl⟩⟩
  exact z y o;omega;omega;omega
 rw [Xr,ar,I,aL (by omega),a7,X,aa,ba (by decide),av,Y];cases r:g.tb (4*x+4+i) with
 |none=>
  rw [show (tW none !=0)=false from rfl,cond_false];unfold vD;rw [cond_false,aM (by omega)];rw [←q,rf,adt h (by omega) r,eF] at C;exact C
 |some b=>
  have Z:=h.lt _ b (by omega) r;rw [show tW (some b)=(b:Int)+1 from rfl,show ((b:Int)+1 !=0)=true from by rw [bne_iff_ne];omega,av,a6 (x:=(b:Int)+1-1) (by omega) (by omega),show (b:Int)+1-1=b by omega,a6 (x:=1+1) (by decide) (by decide),
   show (1+1:Int)=2 from rfl,alP h (by omega) r J W D,aa]
  unfold vD;dsimp only;rw [Bool.not_true,cond_false,aM (by omega),q];exact C
theorem ah0 {l:List Int} (h:∃x∈l,x≠0) (g:l.length≤1000) (f:5000≤N):HP N l=some ((true,()),()):=by
 have key:∃j:Nat,H9 N l=some (((j:Int),()),()):=by
  rw [ZI];refine b0 (n:=l.length) (Q:=fun m i=>(∃x∈l.drop i,x≠0)→∃j:Nat,B4 (Hb N) N m l (i:Int)=some (((j:Int),()),())) (fun m b=>?_) (fun m i hi d b=>?_) 0 N (bM _) (by omega) h;simp at b;rw [alr,ar,aL (by omega),a7,aT hi,aa,Y0,aa];by_cases e:l[i]=0;rw [show (l[i] !=0)=false from by rw [e];rfl,cond_false,aM (by omega)];refine d ?_;obtain ⟨x,c,o⟩:=b;rw [kc hi,cy] at c
  grind
  rw [show (l[i] !=0)=true from by simpa using e,av,ajh];exact ⟨i,rfl⟩
 obtain ⟨j,b⟩:=key;rw [YZ,b,aa,ba (by dsimp only;omega)]
def kk:List Nat:=(List.range 4).flatMap e5
theorem xU:kk.Nodup:=by decide
theorem ml (x:Nat):x∈kk↔x<84:=by
 have b:(kk.all fun x=>decide (x<84))=true:=by decide
 have c:((List.range 84).all fun x=>decide (x∈kk))=true:=by decide
 grind
theorem alQ {m:M} {g:G} (h:ap m g 84) (C:5000≤N):wI (BG N) N N m.d (cI g.tb kk) 0=some ((true,()),()):=by
 have K:=ee.of h;have an:=uR g.tb kk;have al:kk.length=84:=by decide
 have J:∀x∈cI g.tb kk,∃y f,y<84∧g.tb y=some f∧x=(f:Int):=by
  intro x j;unfold cI at j;obtain ⟨y,l,rfl⟩:=b9.1 j;obtain ⟨ae,ag⟩:=dB.1 l;obtain ⟨f,c⟩:=ou.1 ag;exact ⟨y,f,(ml y).1 ae,c,by rw [c];rfl⟩
 refine kw (fun k i=>wI (BG N) N k m.d (cI g.tb kk) i) _ 0 (cI g.tb kk).length (fun k i _ hi=>?_) (fun k=>?_) (bM _) (by omega);have j:=aT hi;obtain ⟨y,f,l,c,e⟩:=J _ (cY hi);have n:=K.lt y f l c;obtain ⟨ad,_⟩:=gb n;have am:=(h.mm.row n).1;rw [Xk,ar,aL (by omega),bf hi,bi,j,aa,e,a7,show m.d.1[f]?=some (row m.mem f) from ad,aa,ah0 ?_ (by omega) C,aa];dsimp only;rw [Bool.not_true,cond_false,aM (by omega)];obtain ⟨ah,ai⟩:=h.nz y l (by omega) (by rw [c];simp);by_cases O:y<20;obtain ⟨k,hk,v⟩:=ah O;refine ⟨bX m.mem f k,fO (h.mm.bX n hk).1,?_⟩;rw [h.rp.cZ y O k hk f c];cases u:g.tb (4*y+4+k) with
 |none=>exact absurd u v
 |some q=>show (q:Int)+1≠0;omega
 obtain ⟨k,hk,v⟩:=ai (by omega);refine ⟨bX m.mem f k,fO (h.mm.bX n hk).1,?_⟩;rw [h.rp.leaf (y-20) (by omega) k hk f (by simp_all)];cases u:g.en (4*(y-20)+k) with
 |no=>exact absurd u v
 |pg aj w r=>simp only [E.w];omega
 |sl i=>simp only [E.w];omega
 have ak:=h.fS;rw [Xk,ar,aE (by omega),akr,show ln m.d.2.2.2.2.2.2.1=4 from by rw [ar];show (m.af.length:Int)=4;rw [h.sp.len];rfl];rw [show ((4:Int)==4)=true from rfl,av,yz (by omega) (by omega) ?_ ?_ C,aa];unfold cI List.Nodup;rw [iC];refine (xU.filter _).imp_of_mem fun {a b} U Z Y e=>?_
 obtain ⟨W,X⟩:=dB.1 U;obtain ⟨ab,ac⟩:=dB.1 Z;obtain ⟨o,D⟩:=ou.1 X;obtain ⟨z,I⟩:=ou.1 ac;rw [D,I] at e;obtain rfl:o=z:=by have e:(o:Int)=z:=e;omega
 exact Y (K.inj a b o ((ml a).1 W) ((ml b).1 ab) D I);intro x;constructor;intro j;obtain ⟨y,f,l,c,rfl⟩:=J x j;exact (fo (by decide) f).2 ((h.tx.fN f).2 ⟨y,l,c⟩);intro j;obtain ⟨f,rfl⟩:=pd j;obtain ⟨y,l,c⟩:=(h.tx.fN f).1 ((fo (by decide) f).1 j);unfold cI;exact b9.2 ⟨y,dB.2 ⟨(ml y).2 l,by rw [c];rfl⟩,by rw [c];rfl⟩
theorem ahy {m:M} {g:G} (h:ap m g 84) (c:5000≤N):IM N m.d=some ((true,()),()):=by
 have q:=ee.of h;have v:=h.sp.len;have l:ln m.d.2.2.2.2.2.2.1=4:=by rw [ar];simp_all
 rw [aaQ];refine b0 (n:=4) (Q:=fun k s=>Cn (BF N) N k m.d (cI g.tb ((List.range s).flatMap e5)) (s:Int)=some ((true,()),())) (fun k=>?_) (fun k s b e=>?_) 0 N (bM _) (by omega);rw [Xj,l,aE (by decide),akq];exact alQ h c;have I:m.d.2.2.2.2.2.2.1[s]?=some (ay m.af s):=eT (sp:=m.af) (by rw [v];exact b);have D:=h.rp.fB s b;have C:hN (ay m.af s).2.2.1:=h.sp.hY s b;have r:se (BF N) N k m.d (cI g.tb ((List.range s).flatMap e5)) (s:Int) (ay m.af s) false=some ((true,()),()):=by
  unfold se;rw [cond_false,D];cases o:g.tb s with
  |none=>
   rw [show (tI none != -1)=false from rfl,cond_false];unfold vB;rw [cond_false,aM (by omega)];rw [lA,rf,Tg q b o,eF] at e;exact e
  |some f=>
   have z:((List.range s).flatMap e5++e5 s).Nodup:=by
    rw [←lA];exact xU.sublist (tX e5 (by omega))
   have x:∀y∈(List.range s).flatMap e5,y<84:=fun y J=>(ml y).1 ((tX e5 (show s≤4 by omega)).subset J)
   rw [show (tI (some f) != -1)=true from by rw [bne_iff_ne];show (f:Int)≠ -1;omega,av,show tI (some f)=(f:Int) from rfl,XZ q b o x z c,aa];dsimp only;rw [Bool.not_true,cond_false,agt h b c,aa];unfold vB;dsimp only;rw [Bool.not_true,cond_false,aM (by omega),←lA];exact e
 rw [Xj,l,aL (by omega),a7,I,aa,UO C c,aa];dsimp only;rw [Bool.not_true,cond_false];cases u:(ay m.af s).1 with
 |true=>simp_all
 |false=>
  obtain ⟨K,j⟩:=h.sp.hv s b u;have j:(ay m.af s).2.2.1=[]:=j;rw [ed,av,K,show ((-1:Int) != -1)=false from rfl,cond_false,j,ar,bm (by simp),r]
theorem LK {m:M} {g:G} (h:cz m g) {s p:Nat} (o:s<4) (l:p<64) (f:5000≤N):xh N m.d (s:Int) (p:Int)=some (((g.en (64*s+p)).t,()),()):=by
 have e:=h.toee;rw [aaT,UP e o l f,aa];cases b:g.tb (20+(64*s+p)/4) with
 |none=>
  have:=h.rp.hS ((64*s+p)/4) (by omega) b (p%4) (by omega);rw [show 4*((64*s+p)/4)+p%4=64*s+p by omega] at this;rw [this,tg];rfl
 |some q=>
  have n:=e.lt _ q (by omega) b;have j:=h.ok (64*s+p) (by omega);have c:=h.rp.leaf ((64*s+p)/4) (by omega) (p%4) (by omega) q b;rw [show 4*((64*s+p)/4)+p%4=64*s+p by omega] at c;dsimp only [tQ];rw [Bool.not_true,cond_false,jl (by omega),show ((p:Int)%4)=((p%4:Nat):Int) by omega,E4 h.mm n (by omega),aa,c];dsimp only;rw [UQ j,aa,Bool.not_true,cond_false,cond_false]
theorem agv (a b:List Int) (g:a.length≤1000) (h:b.length≤1000) (f:5000≤N):CL N [a,b]=some ((a++b,()),()):=by
 obtain ⟨K,rfl⟩:∃k,N=k+1+1+1:=⟨N-3,by omega⟩
 have c:ln [a,b]=2:=rfl;have d:∀{ρ:Type} {k:List Int→Option ρ},gi [a,b] 0 k=k a:=fun {ρ k}=>rfl
 have e:∀{ρ:Type} {k:List Int→Option ρ},gi [a,b] 1 k=k b:=fun {ρ k}=>rfl
 rw [Y2,MH,c,ba (by decide),av,d,ar,a6 (x:=0+(a.length:Int)) (by omega) (by omega),aE (by omega),a6 (x:=0+1) (by decide) (by decide),
  MH,c,ba (by decide),av,show (0+1:Int)=1 from rfl,e,ar,a6 (x:=0+(a.length:Int)+(b.length:Int)) (by omega) (by omega),aE (by omega),a6 (x:=1+1) (by decide) (by decide),
  MH,c,aE (by decide),aiJ]
 unfold Ew;rw [ba (show (0:Int)≤0+(a.length:Int)+(b.length:Int) by omega),ba (show 0+(a.length:Int)+(b.length:Int)≤4294967296 by omega)];dsimp only [Bool.and_self];rw [MI,c,ba (by decide),av,d,cd (by simp;omega),dJ,a6 (x:=0+1) (by decide) (by decide),
  MI,c,ba (by decide),av,show (0+1:Int)=1 from rfl,e,cd (by omega),a6 (x:=1+1) (by decide) (by decide),
  MI,c,aE (by decide),aiK]
 rfl
theorem agR {x:dL} {en:Nat→E} {i:Nat} (f:kg en) (g:x.1=(cJ en i:Int)) (b:x.1=0→x.2.1=[]) (d:x.1≠0→x.2.1.length=4∧∀v∈x.2.1,0≤v∧v≤100000) (e:5000≤N):Ia N x=some ((true,()),()):=by
 rw [ZJ];by_cases c:x.1=0;rw [show (x.1==0)=true from by simpa using c,av,b c];rfl;have:=Ko f i;rw [show (x.1==0)=false from by simpa using c,cond_false,fZ,aa,ba (by omega)];dsimp only;rw [av,UY (d c) e,aa]
theorem agu {sl:List dL} {en:Nat→E} (h:jN sl en) (e:kg en) (d:5000≤N):HQ N sl=some ((true,()),()):=by
 have f:=h.len;rw [Y1];refine kw (fun m i=>BO (GY N) N m sl i) _ 0 sl.length (fun m i _ hi=>?_) (fun m=>?_) (bM _) (by omega);have c:=aT hi;have b:=cY hi;rw [V4,ar,aL (by omega),a7,c,aa,agR e (h.cJ i _ c) (h.zero _ b) (h.held _ b) d,aa];dsimp only;rw [Bool.not_true,cond_false,aM (by omega)];rw [V4,ar,aE (by omega),aiI,ar,ba (by omega)]
abbrev KI:Ty:=.int .i64
abbrev gR:=List (Int×Int×Unit)
def gI (k:Int) (xs:gR):Int:=c0 KI k xs
def pI (k v:Int) (xs:gR):gR:=dC KI k v xs
theorem Vk (k v:Int):pI k v []=[(k,v,())]:=rfl
theorem x2 (k:Int) (e:Int×Int×Unit) (xs:gR):gI k (e::xs)=if k=e.1 then e.2.1 else gI k xs:=by
 show (if (k==e.1)=true then e.2.1 else gI k xs)=_;simp_all
theorem Vj (k v:Int) (e:Int×Int×Unit) (xs:gR):pI k v (e::xs)=if k=e.1 then (k,v,())::xs else e::pI k v xs:=by
 show (if (k==e.1)=true then ((k,v,())::xs:gR) else e::pI k v xs)=_;simp_all
structure hr (xs:gR) (c:Int→Nat):Prop where
 nd:(xs.map (·.1)).Nodup
 val:∀k:Int,gI k xs=(c k:Int)
 key:∀k,k∈xs.map (·.1)↔0<c k
theorem hr.nil:hr [] fun _=>0:=⟨h3,fun _=>rfl,fun k=>by simp⟩
theorem Tu (k v:Int):∀(xs:gR) (j:Int),gI j (pI k v xs)=if j=k then v else gI j xs
 |[],j=>by rw [Vk,x2]
 |e::xs,j=>by
  rw [Vj];by_cases c:k=e.1;rw [ak c,x2,x2];simp_all;rw [aj c,x2,x2,Tu k v xs j];omega
theorem KY (k v:Int):∀xs:gR,(pI k v xs).map (·.1)=if k∈xs.map (·.1) then xs.map (·.1) else xs.map (·.1)++[k]
 |[]=>by rw [Vk];simp
 |e::xs=>by
  rw [Vj];by_cases c:k=e.1;simp_all;rw [aj c,dh,KY k v xs]
  grind
theorem hr.up {xs:gR} {c c':Int→Nat} (h:hr xs c) {k:Int} (hk:c k<100000) (f:∀j,c' j=if j=k then c j+1 else c j):hr (pI k (wi (gI k xs+1)) xs) c':=by
 have e:wi (gI k xs+1)=((c k+1:Nat):Int):=by rw [h.val,a6 (by omega) (by omega)];rfl
 refine ⟨?_,fun j=>?_,fun j=>?_⟩;rw [KY];by_cases d:k∈xs.map (·.1);rw [ak d];exact h.nd;rw [aj d];exact cn.2 ⟨h.nd,by simp,fun a g b l e=>d (by simp_all)⟩;rw [Tu,e,f];by_cases d:j=k;simp_all;rw [aj d,aj d];exact h.val j;rw [KY,f];by_cases d:k∈xs.map (·.1);rw [ak d,h.key];by_cases e:j=k;subst e;rw [ak rfl];have:=(h.key j).1 d;omega;rw [aj e];rw [aj d,aZ,h.key]
 grind
def EC (e:E) (k:Int):Bool:=match e with
 | .sl i=>(i:Int)==k
 |_=>false
def il (e:E) (k:Int):Bool:=match e with
 | .pg f _ _=>(f:Int)==k
 |_=>false
def uf (e:E) (k:Int):Bool:=match e with
 | .pg f true _=>(f:Int)==k
 |_=>false
def cB (en:Nat→E) (q:E→Int→Bool) (b:Nat) (k:Int):Nat:=((List.range b).filter fun y=>q (en y) k).length
theorem SR (en:Nat→E) (q:E→Int→Bool) (b:Nat) (k:Int):cB en q (b+1) k=if q (en b) k then cB en q b k+1 else cB en q b k:=by
 unfold cB;rw [gD,hG,cw]
 grind
theorem acU (en:Nat→E) (q:E→Int→Bool) (b:Nat) (k:Int):cB en q b k≤b:=Nat.le_trans (gA _ _) (by simp)
theorem hr.skip {en:Nat→E} {q:E→Int→Bool} {b:Nat} {xs:gR} (h:hr xs (cB en q b)) (c:∀k,q (en b) k=false):hr xs (cB en q (b+1)):=by
 have:cB en q (b+1)=cB en q b:=funext fun k=>by rw [SR,c k];rfl
 rw [this];exact h
theorem hr.step {en:Nat→E} {q:E→Int→Bool} {b:Nat} {xs:gR} (h:hr xs (cB en q b)) (e:b<1000) {c:Int} (d:∀k,q (en b) k=(c==k)):hr (pI c (wi (gI c xs+1)) xs) (cB en q (b+1)):=
 h.up (by have:=acU en q b c;omega) fun j=>by
  rw [SR,d]
  grind
structure hK (en:Nat→E) (b:Nat) (xs c zs:gR):Prop where
 sl:hr xs (cB en EC b)
 fr:hr c (cB en il b)
 wr:hr zs (cB en uf b)
theorem hK.no {en:Nat→E} {b:Nat} {xs d zs:gR} (h:hK en b xs d zs) (c:en b=.no):hK en (b+1) xs d zs:=
 ⟨h.sl.skip fun k=>by rw [c];rfl,h.fr.skip fun k=>by rw [c];rfl,h.wr.skip fun k=>by rw [c];rfl⟩
theorem hK.UD {en:Nat→E} {b:Nat} {xs d zs:gR} (h:hK en b xs d zs):∀n,(∀p,p<n→en (b+p)=.no)→hK en (b+n) xs d zs
 |0,_=>h
 |n+1,c=>(hK.UD h n fun p e=>c p (by omega)).no (c n (by omega))
theorem Td {m:M} {g:G} {z:Nat} (h:ap m g z) {s:Nat} (c:s<4) (l:(ay m.af s).1=false):∀p,p<64→g.en (64*s+p)=.no:=by
 intro p o;have b:=(h.sp.hv s c l).1;rw [h.rp.fB s c] at b;have d:g.tb s=none:=by
  cases j:g.tb s with
  |none=>rfl
  |some f=>rw [j] at b;have b:(f:Int)= -1:=b;omega
 have e:=h.rp.c1 s (by omega) d (p/16) (by omega);have n:=h.rp.c1 (4*s+4+p/16) (by omega) e (p/4%4) (by omega);have h4:=h.rp.hS ((64*s+p)/4) (by omega) (by grind) (p%4) (by omega)
 grind
theorem ans {m:M} {g:G} {z:Nat} (h:ap m g z) {s:Nat} (ad:s<4) {k:KT bA} (Z:5000≤N):∀p v,p≤64→64-p<v→∀xs j zs:gR,hK g.en (64*s+p) xs j zs→
 ∃l o q,hK g.en (64*s+64) l o q∧wL k N v m.d (s:Int) xs j zs (p:Int)=xx k m.d (s:Int) l o q:=by
 have ab:cz m g:=⟨ee.of h,fun y ae=>h.mo ae⟩;refine b0 (n:=64) (Q:=fun v p=>∀xs j zs:gR,hK g.en (64*s+p) xs j zs→∃l o q,hK g.en (64*s+64) l o q∧wL k N v m.d (s:Int) xs j zs (p:Int)=xx k m.d (s:Int) l o q) (fun v xs j zs u=>?_) (fun v p ac af xs j zs u=>?_);exact ⟨xs,j,zs,u,by rw [Xo,aE (by decide)]⟩;have Y:∀{l o q:gR},hK g.en (64*s+p+1) l o q→∃J K O,hK g.en (64*s+64) J K O∧p4 k N v m.d (s:Int) (p:Int) l o q=xx k m.d (s:Int) J K O:=by
  intro l o q U;obtain ⟨a,b,c,D,I⟩:=af l o q U;exact ⟨a,b,c,D,by unfold p4;rw [aM (by omega)];exact I⟩
 have C:64*s+p<1000:=by omega
 have ag:∀e:E,g.en (64*s+p)=e→∃l o q,hK g.en (64*s+p+1) l o q∧(cond (!decide (e=.no)) (yE N e.t xs j zs fun ah ai aj=>(p4 k N v m.d (s:Int) (p:Int) ah ai aj)) (p4 k N v m.d (s:Int) (p:Int) xs j zs))=p4 k N v m.d (s:Int) (p:Int) l o q:=by
  intro e x;cases e with
  |no=>exact ⟨xs,j,zs,u.no x,by simp_all⟩
  |sl i=>
   refine ⟨pI i (wi (gI i xs+1)) xs,j,zs,⟨u.sl.step C fun k=>by rw [x];rfl,u.fr.skip fun k=>by rw [x];rfl,u.wr.skip fun k=>by rw [x];rfl⟩,?_⟩;rw [bm (by simp),ed,av,g9];unfold yE;dsimp only;rw [aL (by omega)];rfl
  |pg f w r=>
   cases w with
   |true=>
    refine ⟨xs,pI f (wi (gI f j+1)) j,pI f (wi (gI f zs+1)) zs,⟨u.sl.skip fun k=>by rw [x];rfl,u.fr.step C fun k=>by rw [x];rfl,u.wr.step C fun k=>by rw [x];rfl⟩,?_⟩;rw [bm (by simp),ed,av,eY];unfold yE;dsimp only;rw [aE (by decide),av];rfl
   |false=>
    refine ⟨xs,pI f (wi (gI f j+1)) j,zs,⟨u.sl.skip fun k=>by rw [x];rfl,u.fr.step C fun k=>by rw [x];rfl,u.wr.skip fun k=>by rw [x];rfl⟩,?_⟩;rw [bm (by simp),ed,av,eY];unfold yE;dsimp only;rw [aE (by decide),cond_false];rfl
 obtain ⟨l,o,q,W,X⟩:=ag _ rfl;obtain ⟨a,b,c,D,I⟩:=Y W;refine ⟨a,b,c,D,?_⟩;rw [Xo,aL (by omega),LK ab ad ac Z,aa,tg,aa,←I,←X];exact dx (fun b=>cond (!b) _ _) (Kv (g.en (64*s+p)))
theorem ant {m:M} {g:G} {z:Nat} (h:ap m g z) {k:KT bA} (D:5000≤N):∀s f,s≤4→4-s<f→∀xs e zs:gR,hK g.en (64*s) xs e zs→
 ∃j l o,hK g.en 256 j l o∧wK k N f m.d xs e zs (s:Int)=DL k m.d j l o:=by
 have v:ln m.d.2.2.2.2.2.2.1=4:=by rw [ar];show (m.af.length:Int)=4;rw [h.sp.len];rfl
 refine b0 (n:=4) (Q:=fun f s=>∀xs e zs:gR,hK g.en (64*s) xs e zs→∃j l o,hK g.en 256 j l o∧wK k N f m.d xs e zs (s:Int)=DL k m.d j l o) (fun f xs e zs q=>?_) (fun f s r x xs e zs q=>?_);exact ⟨xs,e,zs,q,by rw [Xn,v,aE (by decide)]⟩;have J:m.d.2.2.2.2.2.2.1[s]?=some (ay m.af s):=eT (sp:=m.af) (by rw [h.sp.len];exact r);rw [Xn,v,aL (by omega),a7,J,aa];cases I:(ay m.af s).1 with
 |false=>
  have U:=q.UD 64 (Td h r I);obtain ⟨a,b,c,y,u⟩:=x xs e zs (by omega);refine ⟨a,b,c,y,?_⟩;rw [ed,av];unfold A6;rw [aM (by omega)];exact u
 |true=>
  obtain ⟨a,b,c,y,u⟩:=ans (N:=N) h r (k:=Hq k N f) D 0 N (by omega) (by omega) xs e zs q;obtain ⟨a',C,c',K,O⟩:=x a b c (by omega);refine ⟨a',C,c',K,?_⟩;rw [Bool.not_true,cond_false];refine Eq.trans u ?_;rw [akv];unfold A6;rw [aM (by omega)];exact O
theorem aeR (e:E) (i:Nat):EC e (i:Int)=decide (e=.sl i):=by
 cases e with
 |sl j=>
  show ((j:Int)==(i:Int))=_
  grind
 |_=>simp [EC]
theorem Km (en:Nat→E) (i:Nat):cB en EC 256 (i:Int)=cJ en i:=by
 unfold cB cJ;congr 1;exact rD fun y _=>aeR _ _
theorem tL {en:Nat→E} {q:E→Int→Bool} {k:Int}:0<cB en q 256 k↔∃y,y<256∧q (en y) k=true:=by
 unfold cB;simp_all
theorem qQ {e:E} {k:Int}:il e k=true↔∃f w r,e=.pg f w r∧k=(f:Int):=by
 cases e with
 |pg f w r=>
  show ((f:Int)==k)=true↔_
  grind
 |_=>simp [il]
theorem aeS {e:E} {k:Int}:uf e k=true↔∃f r,e=.pg f true r∧k=(f:Int):=by
 cases e with
 |pg f w r=>
  cases w with
  |true=>
   show ((f:Int)==k)=true↔_
   grind
  |false=>simp [uf]
 |_=>simp [uf]
theorem aeg {en:Nat→E} (h:kg en) {k:Int} (q:0<cB en uf 256 k):cB en il 256 k≤1:=by
 obtain ⟨y,u,o⟩:=tL.1 q;obtain ⟨f,r,e,rfl⟩:=aeS.1 o;unfold cB;have:∀z∈(List.range 256).filter fun z=>il (en z) (f:Int),z=y:=by
  intro z d;rw [dB] at d;have v:z<256:=by simpa using d.1
  obtain ⟨n,w',C,j,D⟩:=qQ.1 d.2;obtain rfl:f=n:=by omega
  apply ho;intro c;have:=(h.pg y z f true r w' C u v e j).2 (fun x=>c x.symm);cases this
 have g:((List.range 256).filter fun z=>il (en z) (f:Int)).Nodup:=u5.filter _;generalize (List.range 256).filter (fun z=>il (en z) (f:Int))=l at this g
 match l,this,g with
 |[],_,_=>simp
 |[a],_,_=>simp
 |a::b::l,I,J=>
  simp_all
theorem hr.len {xs:gR} {c:Int→Nat} (h:hr xs c) {l:List Int} (b:l.Nodup) (d:∀k,k∈l↔0<c k):xs.length=l.length:=by
 have e:=(zf h.nd b).2 fun k=>(h.key k).trans (d k).symm
 simpa using e.length_eq
theorem ahz {m:M} {g:G} {z:Nat} (h:ap m g z) (D:5000≤N):IN N m.d=some ((true,()),()):=by
 have ai:=h.fS;have aq:=h.sl.len;obtain ⟨xs,q,zs,I,e⟩:=ant (N:=N) h (k:=Hp N) D 0 N (by omega) (by omega) [] [] [] ⟨hr.nil,hr.nil,hr.nil⟩;rw [aaR];refine Eq.trans e ?_;rw [aku,show m.d.2.2.2.2.2.2.2.1=m.aD from rfl,agu h.sl h.pg D,aa];dsimp only;rw [Bool.not_true,cond_false]
 let o:Nat→Nat:=fun i=>((List.range i).filter fun j=>decide (0<cJ g.en j)).length
 have ac:xs.length=o m.aD.length:=by
  rw [I.sl.len (l:=((List.range m.aD.length).filter fun j=>decide (0<cJ g.en j)).map fun j:Nat=>(j:Int)) ?_ ?_,c2];unfold List.Nodup;rw [iC];exact (u5.filter _).imp fun h=>by omega
  intro k;rw [b9];constructor;rintro ⟨j,Y,rfl⟩;rw [dB] at Y;rw [Km];simpa using Y.2;intro hk;obtain ⟨y,C,b⟩:=tL.1 hk;cases J:g.en y with
  |sl i=>
   rw [J] at b;have b:((i:Int)==k)=true:=b;have b:(i:Int)=k:=by simpa using b
   refine ⟨i,dB.2 ⟨by simpa using (h.eo.sl y C i J).1,?_⟩,b⟩;rw [←b,Km] at hk;simpa using hk
  |_=>rw [J] at b;cases b
 have ad:q.length=(cG m.st 5).length:=I.fr.len (x4 _ _) fun k=>by
  constructor;intro hk;obtain ⟨f,rfl⟩:=pd hk;obtain ⟨y,w,r,C,W⟩:=h.mp f ((fo (by decide) f).1 hk);exact tL.2 ⟨y,C,qQ.2 ⟨f,w,r,W,rfl⟩⟩;intro hk;obtain ⟨y,C,b⟩:=tL.1 hk;obtain ⟨f,w,r,W,rfl⟩:=qQ.1 b;exact (fo (by decide) f).2 (h.eo.pg y C f w r W).1
 refine b0 (n:=m.aD.length) (Q:=fun U i=>Co (Ho N) N U m.d xs q zs ((o i:Nat):Int) (i:Int)=some ((true,()),())) (fun U=>?_) (fun U i hi O=>?_) 0 N (bM _) (by omega);rw [Xl,show ln m.d.2.2.2.2.2.2.2.1=(m.aD.length:Int) from rfl,aE (by omega),aks,yx m 5 (by omega) D,aa];have an:=nI m.st 5;generalize ag:(((cG m.st 5,()),()):cT)=v;have Z:v.1.1=cG m.st 5:=by rw [←ag]
 refine kw (fun k i=>wJ (sG N) N k m.d v xs q zs ((o m.aD.length:Nat):Int) i) _ 0 (cG m.st 5).length (fun k i _ hi=>?_) (fun k=>?_) (bM _) (by omega);have u:=aT hi;obtain ⟨f,X⟩:=pd (cY hi);have af:=(fo (st:=m.st) (v:=5) (by decide) f).1 (by grind);obtain ⟨y,w,r,C,J⟩:=h.mp f af;have ao:0<cB g.en il 256 (f:Int):=tL.2 ⟨y,C,qQ.2 ⟨f,w,r,J,rfl⟩⟩;have al:sf (sG N) N k m.d xs q zs ((o m.aD.length:Nat):Int) v (i:Int) false=wJ (sG N) N k m.d v xs q zs ((o m.aD.length:Nat):Int) ((i+1:Nat):Int):=by
  unfold sf;rw [cond_false,aM (by omega)]
 rw [Xm,Z,ar,aL (by omega),bf hi,bi,u,aa,X];show cond (gI (f:Int) q==0) _ (cond (decide (gI (f:Int) zs>0)) (sf (sG N) N k m.d xs q zs ((o m.aD.length:Nat):Int) v (i:Int) (decide (gI (f:Int) q>1))) _)=_;rw [I.fr.val,I.wr.val,show (((cB g.en il 256 (f:Int):Nat):Int)==0)=false from by grind,cond_false];by_cases ah:0<cB g.en uf 256 (f:Int);have:=aeg h.pg ah
 grind
 simp_all;have ae:=mB h;rw [cw] at ae;rw [Xm,Z,ar,aE (by omega),akt,ar,ac,l0,av,yx m 5 (by omega) D,aa,ar,ad];dsimp only;rw [ar,l0,av];rw [show CL N [m.aK,m.bn]=_ from agv _ _ (by omega) (by omega) D,aa];dsimp only;rw [yz (by omega) (by simp;omega) h.ls.b7 (fun x=>?_) D,aa];rw [h.ls.mem];constructor;rintro ⟨f,rfl,X⟩;exact (fo (by decide) f).2 X;intro u;obtain ⟨f,rfl⟩:=pd u;exact ⟨f,rfl,(fo (by decide) f).1 u⟩;have u:m.aD[i]?=some m.aD[i]:=aT hi;have ab:=h.sl.cJ i _ u;have am:o i≤i:=Nat.le_trans (gA _ _) (by simp);have K:o (i+1)=if 0<cJ g.en i then o i+1 else o i:=by
  show ((List.range (i+1)).filter _).length=_;rw [gD,hG,cw]
  grind
 rw [Xl,show ln m.d.2.2.2.2.2.2.2.1=(m.aD.length:Int) from rfl,aL (by omega),a7,show m.d.2.2.2.2.2.2.2.1[i]?=some m.aD[i] from u,aa];show cond (gI (i:Int) xs !=m.aD[i].1) _ _=_;rw [I.sl.val,Km,ab,kf,cond_false];unfold GO;by_cases c:0<cJ g.en i;rw [ak c] at K;rw [K] at O;rw [aL (by omega),aM (by omega),aM (by omega)];exact O;rw [aj c] at K;rw [K] at O;rw [aE (by omega),aM (by omega)];exact O
theorem agw {m:M} {g:G} (h:ap m g 84) (b:5000≤N):HR N m.d=some ((true,()),()):=by
 rw [Y7,ahw h b,aa];dsimp only;rw [av,ahx h b,aa];dsimp only;rw [av,ahy h b,aa];dsimp only;rw [av,ahz h b,aa]
theorem agU {m:M} {g:G} {z:Nat} (h:ap m g z) (v:Int) (b:5000≤N):Ie N m.d v=some ((((cG m.st v).length:Int),()),()):=by
 have c:=h.fS;rw [ZP,yx m v (by omega) b,aa];rfl
theorem agF {m:M} {g:G} {z:Nat} (h:ap m g z) {s:Nat} (b:s<4) (q:5000≤N):HZ N m.d (s:Int)=some (((cI g.tb (e5 s)).mergeSort (fun x y=>decide (x≤y)),()),()):=by
 have n:=ee.of h;have u:ln m.d.2.2.2.2.2.2.1=4:=by rw [ar];show (m.af.length:Int)=4;rw [h.sp.len];rfl
 have v:m.d.2.2.2.2.2.2.1[s]?=some (ay m.af s):=eT (sp:=m.af) (by rw [h.sp.len];exact b);have e:([]++e5 s).Nodup:=by
  have o:(e5 s).Sublist kk:=by
   have:=tX e5 (show s+1≤4 by omega);rw [lA] at this;exact (List.sublist_append_right _ _).trans this
  exact xU.sublist o
 rw [Zv,u,a6 (by decide) (by decide),fZ,aa,ef (by omega) (by omega)];dsimp only;rw [Bool.not_true,cond_false];simp only [a7];rw [show m.af[s]?=some (ay m.af s) from v];simp only [aa];rw [h.rp.fB s b];cases j:g.tb s with
 |none=>
  rw [show (tI none== -1)=true from rfl,av,Tg n b j,List.mergeSort_nil]
 |some f=>
  have C:=uR g.tb (e5 s);have r:=yn e (by
   intro y c;rw [dJ] at c;exact (ml y).1 (by
    have:=tX e5 (show s+1≤4 by omega);rw [lA] at this;exact ((List.sublist_append_right _ _).trans this).subset c))
  rw [dJ] at r;have t3:=XZ (N:=N) n b j (l:=[]) (fun y c=>by cases c) e q;rw [dJ] at t3;rw [show (tI (some f)== -1)=false from by rw [h7];show (f:Int)≠ -1;omega,cond_false,show tI (some f)=(f:Int) from rfl,show xi N m.d (f:Int) 1 ([]:List Int)=_ from t3,aa];dsimp only;rw [Bool.not_true,cond_false];unfold xj uO;rw [show Nat.ble (cI g.tb (e5 s)).length bu=true from u6 (by unfold bu;omega)];rfl
def ei (en:Nat→E) (f:Int) (b:Nat):bh:=((List.range b).filter fun y=>il (en y) f).map fun y:Nat=>[((y/64:Nat):Int),((y%64:Nat):Int)]
theorem Lt (en:Nat→E) (f:Int) (b:Nat):ei en f (b+1)=if il (en b) f then ei en f b++[[((b/64:Nat):Int),((b%64:Nat):Int)]] else ei en f b:=by
 unfold ei;rw [gD,hG,e2]
 grind
theorem EU (en:Nat→E) (f:Int) (b:Nat):(ei en f b).length≤b:=by
 unfold ei
 grind
theorem Ut {en:Nat→E} {f:Int} {b:Nat}:∀n,(∀p,p<n→en (b+p)=.no)→ei en f (b+n)=ei en f b
 |0,_=>rfl
 |n+1,h=>by
  rw [show b+(n+1)=b+n+1 from rfl,Lt,h n (by omega),Ut n fun p c=>h p (by omega)];rfl
theorem afE {m:M} {g:G} {z:Nat} (h:ap m g z) {s:Nat} (D:s<4) {f:Int} {k:KT fG} (q:5000≤N):∀p c,p≤64→64-p<c→
 v7 k N c m.d f (s:Int) (ei g.en f (64*s+p)) (p:Int)=tu k m.d f (s:Int) (ei g.en f (64*s+64)):=by
 have v:cz m g:=⟨ee.of h,fun y I=>h.mo I⟩;refine b0 (n:=64) (Q:=fun c p=>v7 k N c m.d f (s:Int) (ei g.en f (64*s+p)) (p:Int)=tu k m.d f (s:Int) (ei g.en f (64*s+64))) (fun c=>?_) (fun c p C J=>?_);rw [We,aE (by decide)];have O:=EU g.en f (64*s+p);have j:r4 k N c m.d f (s:Int) (p:Int) (ei g.en f (64*s+p+1))=tu k m.d f (s:Int) (ei g.en f (64*s+64)):=by
  unfold r4;rw [aM (by omega)];exact J
 have K:∀e:E,g.en (64*s+p)=e→(cond (!decide (e=.no)) (Fl N (s:Int) (p:Int) e.t f (ei g.en f (64*s+p)) fun w=>(r4 k N c m.d f (s:Int) (p:Int) w)) (r4 k N c m.d f (s:Int) (p:Int) (ei g.en f (64*s+p))))=tu k m.d f (s:Int) (ei g.en f (64*s+64)):=by
  intro e x;rw [Lt,x] at j;cases e with
  |no=>rw [ba rfl];exact j
  |sl i=>
   rw [bm (by simp),ed,av,g9];unfold Fl;dsimp only;rw [show ((i:Int)== -1)=false from by simp_all,cond_false];exact j
  |pg l w r=>
   rw [bm (by simp),ed,av,eY];unfold Fl;dsimp only;rw [show ((-1:Int)== -1)=true from rfl,av];unfold Gq;have o:il (.pg l w r) f=((l:Int)==f):=rfl;rw [o] at j;cases u:((l:Int)==f) with
   |false=>simp_all
   |true=>
    rw [u,ak rfl,show (64*s+p)/64=s by omega,show (64*s+p)%64=p by omega] at j;rw [av,cd (by simp;omega)];exact j
 rw [We,aL (by omega),LK v D C q,aa,tg,aa,←K _ rfl];exact dx (fun b=>cond (!b) _ _) (Kv (g.en (64*s+p)))
theorem agy {m:M} {g:G} {z:Nat} (h:ap m g z) (f:Int) (l:5000≤N):HS N m.d f=some ((ei g.en f 256,()),()):=by
 have j:ln m.d.2.2.2.2.2.2.1=4:=by rw [ar];show (m.af.length:Int)=4;rw [h.sp.len];rfl
 rw [Zg];refine b0 (n:=4) (Q:=fun c s=>BX (G2 N) N c m.d f (ei g.en f (64*s)) (s:Int)=some ((ei g.en f 256,()),())) (fun c=>?_) (fun c s e b=>?_) 0 N (bM _) (by omega);rw [Wd,j,aE (by decide),aiV];have q:m.d.2.2.2.2.2.2.1[s]?=some (ay m.af s):=eT (sp:=m.af) (by rw [h.sp.len];exact e);rw [show 64*(s+1)=64*s+64 by omega] at b;rw [Wd,j,aL (by omega),a7,q,aa];cases o:(ay m.af s).1 with
 |false=>
  rw [Ut 64 (Td h e o)] at b;rw [ed,av];unfold AK;rw [aM (by omega)];exact b
 |true=>
  rw [Bool.not_true,cond_false];refine Eq.trans (afE h e l 0 N (by omega) (by omega)) ?_;rw [aiW];unfold AK;rw [aM (by omega)];exact b
def cA (sl:List dL) (i:Nat):Nat:=((sl.take i).filter fun s=>decide (s.1>0)).length
theorem ao4 (sl:List dL) (i:Nat):cA sl i≤i:=by
 unfold cA;exact Nat.le_trans (gA _ _) (by rw [List.length_take];omega)
theorem ao5 {sl:List dL} {i:Nat} {x:dL} (h:sl[i]?=some x):cA sl (i+1)=if decide (x.1>0) then cA sl i+1 else cA sl i:=by
 unfold cA;rw [iD,h,hG,cw];by_cases c:x.1>0<;>simp [c]
def cS (en:Nat→E) (l:LI) (i:Nat):Nat:=((l.take i).filter fun f=>decide ((ei en f 256).length>1)).length
theorem aoA (en:Nat→E) (l:LI) (i:Nat):cS en l i≤l.length:=by
 unfold cS;exact Nat.le_trans (gA _ _) (by rw [List.length_take];omega)
theorem ao6 {en:Nat→E} {l:LI} {i:Nat} {x:Int} (h:l[i]?=some x):cS en l (i+1)=if decide ((ei en x 256).length>1) then cS en l i+1 else cS en l i:=by
 unfold cS;rw [iD,h,hG,cw];by_cases c:(ei en x 256).length>1<;>simp [c]
theorem apj {m:M} {g:G} {z:Nat} (h:ap m g z) (f:Int) (b:5000≤N):an4 N m.d f=some ((((ei g.en f 256).length:Int),()),()):=by
 rw [aoY,agy h f b,aa];rfl
def anR (m:M) (g:G):m4:=(((cG m.st 0).length:Int),((cG m.st 1).length:Int),((cG m.st 2).length:Int),((cG m.st 3).length:Int),((cG m.st 4).length:Int),((cG m.st 5).length:Int),(cA m.aD m.aD.length:Int),(cS g.en (cG m.st 5) (cG m.st 5).length:Int),())
theorem apf {m:M} {g:G} (h:ap m g 84) (j:5000≤N):an1 N m.d=some ((anR m g,(true,())),()):=by
 have o:=h.sl.len;have q:=h.fS;have u:=h.sn.len;have r:=nI m.st 5;rw [aoS,agw h j,aa];dsimp only;rw [Bool.not_true,cond_false];simp only [agU h _ j,aa];refine b0 (n:=m.aD.length) (Q:=fun e i=>Ge (anX N) N e m.d (((cG m.st 0).length:Int),((cG m.st 1).length:Int),((cG m.st 2).length:Int),((cG m.st 3).length:Int),((cG m.st 4).length:Int),((cG m.st 5).length:Int),(cA m.aD i:Int),0,()) (i:Int)=some ((anR m g,(true,())),())) (fun e=>?_) (fun e i hi b=>?_) 0 N (bM _) (by omega);rw [aoK,show ln m.d.2.2.2.2.2.2.2.1=(m.aD.length:Int) from rfl,aE (by omega),apn,yx m 5 (by omega) j,aa];refine b0 (n:=(cG m.st 5).length) (Q:=fun e i=>Gf (anY N) N e m.d ((cG m.st 5,()),()) (((cG m.st 0).length:Int),((cG m.st 1).length:Int),((cG m.st 2).length:Int),((cG m.st 3).length:Int),((cG m.st 4).length:Int),((cG m.st 5).length:Int),(cA m.aD m.aD.length:Int),(cS g.en (cG m.st 5) i:Int),()) (i:Int)=some ((anR m g,(true,())),())) (fun e=>?_) (fun e i hi b=>?_) 0 N (bM _) (by omega);rw [aoL];dsimp only;rw [ar,aE (by omega),apo];rfl;have f:=aT hi;have l:=aoA g.en (cG m.st 5) i;rw [ao6 (en:=g.en) f] at b;rw [aoL];dsimp only;rw [ar,aL (by omega),bf hi,bi,f,aa,apj h _ j,aa];unfold anW;dsimp only;by_cases c:(ei g.en (cG m.st 5)[i] 256).length>1;rw [ak (ba c)] at b;rw [aL (by omega),aM (by omega),aM (by omega)];exact b;rw [aj (by simpa using c)] at b;rw [aE (by omega),aM (by omega)];exact b;have f:=aT hi;have l:=ao4 m.aD i;rw [ao5 f] at b;rw [aoK,show ln m.d.2.2.2.2.2.2.2.1=(m.aD.length:Int) from rfl,aL (by omega),a7,show m.d.2.2.2.2.2.2.2.1[i]?=some m.aD[i] from f,aa];unfold anV;dsimp only;by_cases c:m.aD[i].1>0;rw [ak (ba c)] at b;rw [ba c,av,aM (by omega),aM (by omega)];exact b;rw [aj (by simpa using c)] at b;rw [bm c,cond_false,aM (by omega)];exact b
theorem apy {st:List Int} (b:Nat) (h:∀f,f<b→0≤aq st f∧aq st f≤5):
 ((List.range b).filter fun f=>aq st f==0).length+((List.range b).filter fun f=>aq st f==1).length+((List.range b).filter fun f=>aq st f==2).length+((List.range b).filter fun f=>aq st f==3).length+((List.range b).filter fun f=>aq st f==4).length+((List.range b).filter fun f=>aq st f==5).length=b:=by
 induction b with
 |zero=>rfl
 |succ b c=>
  have c:=c fun f j=>h f (by omega)
  obtain ⟨g,h5⟩:=h b (by omega);simp only [gD,hG,cw];have d:aq st b=0∨aq st b=1∨aq st b=2∨aq st b=3∨aq st b=4∨aq st b=5:=by omega
  rcases d with e|e|e|e|e|e<;>simp [e]<;>omega
def la:Nat→Nat→Nat
 |0,_=>0
 |j+1,w=>w%2+la j (w/2)
theorem aoI:∀l:List dr,(∀r∈l,∃k:Nat,r.2.1=(k:Int)∧k≤3)→(l.flatMap cQ).length/8+la 3 ((l.flatMap cQ).length%8)≤l.length
 |[],_=>by decide
 |r::l,h=>by
  have c:=aoI l fun q b=>h q (by simp [b])
  obtain ⟨k,hk,d⟩:=h r (by simp);have e:(cQ r).length=2^k:=by unfold cQ;simp [hk]
  rw [List.flatMap_cons,cw,e,hH];generalize (l.flatMap cQ).length=n at c⊢;have key:∀k,k<4→∀r,r<8→(2^k+r)/8+la 3 ((2^k+r)%8)≤la 3 r+1:=by decide
  have:=key k (by omega) (n%8) (by omega);rw [show (2^k+n)/8=n/8+(2^k+n%8)/8 by omega,show (2^k+n)%8=(2^k+n%8)%8 by omega];omega
theorem aoH {m:M}:∀(j w x b:Nat),w<2^j→j<b→w<8→x+w<1000→P3 (Gc N) N b m.d (x:Int) (w:Int)=an7 (Gc N) m.d ((x+la j w:Nat):Int)
 |0,w,x,b,e,f,_,h=>by
  obtain ⟨n,rfl⟩:∃n,b=n+1:=⟨b-1,by omega⟩
  obtain rfl:w=0:=by omega
  rw [aob,aE (by decide)];rfl
 |j+1,w,x,b,e,f,h8,h=>by
  obtain ⟨n,rfl⟩:∃n,b=n+1:=⟨b-1,by omega⟩
  by_cases c:w=0;subst c;have g:∀j,la j 0=0:=fun j=>by induction j<;>simp_all [la]
  rw [aob,aE (by decide),g];rfl;rw [Nat.pow_succ] at e;rw [aob,aL (by omega),show Int.tmod (w:Int) 2=((w%2:Nat):Int) from rfl,show Int.tdiv (w:Int) 2=((w/2:Nat):Int) from rfl,a6 (by omega) (by omega),a6 (by omega) (by omega),show (x:Int)+((w%2:Nat):Int)=((x+w%2:Nat):Int) by omega,
   aoH j (w/2) (x+w%2) n (by omega) (by omega) (by omega) (by omega),show x+w%2+la j (w/2)=x+la (j+1) w from by simp only [la];omega]
theorem apg {m:M} {g:G} (h:ap m g 84) (c:5000≤N):∃y:Nat,an2 N m.d=some (((y:Int),()),()):=by
 have l:=h.fS;have u:=h.sn.len;have j:=nI m.st 0;have q:=h.mm.m8;have f:m.bI.flatMap cQ=cG m.st 0:=by
  rw [h.fr];unfold ez je;rw [aiA (by omega) _ _ (by omega)];unfold cG;rw [List.range_eq_range'];rfl
 have b:=aoI m.bI fun r b=>by
  rw [h.fr] at b;obtain ⟨⟨a,k,rfl,e,_⟩,_⟩:=VL (by omega) _ _ r b;exact ⟨k,rfl,e⟩
 have o:m.bI.length≤1000:=by
  rw [h.fr];exact Nat.le_trans (aiC _ _) (by omega)
 rw [f] at b;rw [aoT,agw h c,aa];dsimp only;rw [Bool.not_true,cond_false,agU h 0 c,aa];dsimp only;generalize (cG m.st 0).length=n at b j;rw [show Int.tdiv (n:Int) 8=((n/8:Nat):Int) from rfl,show Int.tmod (n:Int) 8=((n%8:Nat):Int) from rfl,a6 (by omega) (by omega),aoH 3 (n%8) (n/8) N (by omega) (by omega) (by omega) (by omega),app,show ln m.d.2.2.1=(m.bI.length:Int) from rfl,a6 (by omega) (by omega)];exact ⟨m.bI.length-(n/8+la 3 (n%8)),by congr 3;omega⟩
def k9 (l:bh) (s:Int):Bool:=l.any fun x=>x[0]?==some s
def ow (m:M) (g:G) (f s:Nat):Bool:=(ay m.af s).1&&(k9 (ei g.en (f:Int) 256) (s:Int)||decide ((f:Int)∈cI g.tb (e5 s)))
def lc (m:M) (g:G) (f:Nat):LI:=((List.range 4).filter (ow m g f)).map fun s:Nat=>(s:Int)
theorem aoD {en:Nat→E} {f:Int}:∀x∈ei en f 256,x≠[]:=by
 intro x b;obtain ⟨y,_,rfl⟩:=b9.1 b;simp
theorem apk (l:bh) (s:Int) (g:∀x∈l,x≠[]) (q:l.length≤1000) (o:5000≤N):an5 N l s=some ((k9 l s,()),()):=by
 have key:∃j:Int,an0 N l s=some ((j,()),())∧decide (j≥0)=k9 l s:=by
  rw [aoR];refine b0 (n:=l.length) (Q:=fun b i=>∃j:Int,Gd (Gb N) N b l s (i:Int)=some ((j,()),())∧decide (j≥0)=k9 (l.drop i) s) (fun b=>?_) (fun b i hi h=>?_) 0 N (bM _) (by omega);exact ⟨-1,by rw [aoJ,ar,aE (by omega),apm],by rw [List.drop_length];rfl⟩;have f:=g _ (cY hi);rw [aoJ,ar,aL (by omega),a7,aT hi,aa,kc hi];rw [ao0];revert f;generalize l[i]=x;intro f;cases x with
  |nil=>exact absurd rfl f
  |cons a t=>
   rw [ao9,List.getElem?_cons_zero,aa,aa];dsimp only;by_cases c:a=s;subst c;rw [l0,av,apl];exact ⟨_,rfl,by rw [ba (by omega)];simp [k9]⟩;rw [show (a==s)=false from by simpa using c,cond_false,aM (by omega)];obtain ⟨j,d,e⟩:=h;exact ⟨j,d,by rw [e];simp [k9,c]⟩
 obtain ⟨j,d,e⟩:=key;rw [aoZ,d,aa];dsimp only;rw [e]
theorem aph {m:M} {g:G} (h:ap m g 84) (f:Nat) (j:5000≤N):an3 N m.d (f:Int)=some ((lc m g f,()),()):=by
 have n:ln m.d.2.2.2.2.2.2.1=4:=by rw [ar];show (m.af.length:Int)=4;rw [h.sp.len];rfl
 have y:=EU g.en (f:Int) 256;rw [aoU,agw h j,aa];dsimp only;rw [Bool.not_true,cond_false,agy h _ j,aa];have e:=Eo (N:=N) (fun c acc i=>pX (pP N) N c m.d (f:Int) ((ei g.en (f:Int) 256,()),()) acc i) (fun acc=>an8 (pP N) m.d (f:Int) ((ei g.en (f:Int) 256,()),()) acc) 4 (ow m g f) (fun s:Nat=>(s:Int)) (fun c acc s o u=>?_) (fun c acc=>?_) (by omega);rw [e,apq];rfl;have q:m.d.2.2.2.2.2.2.1[s]?=some (ay m.af s):=eT (sp:=m.af) (by rw [h.sp.len];exact o);have C:=uR g.tb (e5 s);have x:(e5 s).length=21:=by
  have r:s=0∨s=1∨s=2∨s=3:=by omega
  rcases r with rfl|rfl|rfl|rfl<;>rfl
 have l:∀b,rB (pP N) N c m.d (f:Int) ((ei g.en (f:Int) 256,()),()) acc (s:Int) b=pX (pP N) N c m.d (f:Int) ((ei g.en (f:Int) 256,()),()) (if b then acc++[(s:Int)] else acc) ((s+1:Nat):Int):=by
  intro b;unfold rB;cases b with
  |true=>rw [av,cd (by simp;omega),aM (by omega),ak rfl]
  |false=>rw [cond_false,aM (by omega),aj (by simp)]
 rw [aoM,n,aL (by omega),a7,q,aa,apk _ _ aoD (by omega) j,aa];unfold ow;dsimp only;cases v:(ay m.af s).1 with
 |false=>rw [cond_false,l];rfl
 |true=>
  rw [av];cases z:k9 (ei g.en (f:Int) 256) (s:Int) with
  |true=>rw [av,l];rfl
  |false=>
   rw [cond_false,agF h o j,aa,LM _ _ (by rw [List.length_mergeSort];omega) j,aa,l];simp only [List.mem_mergeSort,mZ,k7]
 rw [aoM,n,aE (by decide)]
theorem apb (e:E) (f:Nat):b2 e f=il e (f:Int):=by
 cases e with
 |pg a w r=>
  show (a==f)=((a:Int)==(f:Int));rw [gO,ff,ff];omega
 |_=>rfl
theorem apc (en:Nat→E) (f:Nat):(bC en f).map yI=ei en (f:Int) 256:=by
 unfold bC ei;rw [rD fun y _=>apb (en y) f];rfl
theorem apw {m:M} {g:G} (h:ee m g) {s:Nat} (v:s<4) (f:Nat) (r:f<32):decide ((f:Int)∈FK ((tn g.tb s).map (fr g.tb)))=decide ((f:Int)∈cI g.tb (e5 s)):=by
 rw [decide_eq_decide];have q:(f:Int)∈FK ((tn g.tb s).map (fr g.tb))↔(f:Int)∈(tn g.tb s).map (fr g.tb):=by
  unfold FK;constructor;intro n;obtain ⟨y,z,e⟩:=b9.1 n;obtain ⟨_,C⟩:=dB.1 z;rw [←e];exact eU C;intro n;exact b9.2 ⟨f,dB.2 ⟨by simpa using r,ba n⟩,rfl⟩
 rw [q];unfold cI;simp only [b9,dB,uv v];constructor;rintro ⟨x,⟨l,b⟩,e⟩;refine ⟨x,⟨?_,by cases u:g.tb x with|none=>exact absurd u l|some _=>rfl⟩,e⟩;simp only [e5,ik,cy,m1,et,b9];rcases b with rfl|⟨k,hk,rfl⟩|⟨y,k,j,hk,d,rfl,_,rfl⟩
 exact .inl rfl;exact .inr ⟨k,hk,.inl rfl⟩;exact .inr ⟨k,hk,.inr ⟨j,d,rfl⟩⟩;rintro ⟨x,⟨l,b⟩,e⟩;have o:g.tb x≠none:=fun c=>by rw [c] at b;cases b
 refine ⟨x,⟨o,?_⟩,e⟩;simp only [e5,ik,cy,m1,et,b9] at l;rcases l with rfl|⟨k,hk,rfl|⟨j,d,rfl⟩⟩
 exact .inl rfl;exact .inr (.inl ⟨k,hk,rfl⟩);exact .inr (.inr ⟨_,k,j,hk,d,rfl,fun c=>o (h.rp.c1 _ (by omega) c j d),rfl⟩)
theorem apv {m:M} {f:Int} {out:LI} {s:Int} {k:KT cT} {mp:bh} (o:∀x∈mp,x≠[]) (r:mp.length≤1000) (b:Bool) (q:5000≤N):
 rH k N N m.d f ((mp,()),()) out s b 0=anQ k m.d f ((mp,()),()) out s (b||k9 mp s):=by
 refine Eq.trans ?_ (b0 (n:=mp.length) (Q:=fun e i=>rH k N e m.d f ((mp,()),()) out s (b||k9 (mp.take i) s) (i:Int)=anQ k m.d f ((mp,()),()) out s (b||k9 mp s)) (fun e=>?_) (fun e i hi c=>?_) 0 N (bM _) (by omega));rw [List.take_zero];simp [k9];rw [aoP];dsimp only;rw [ar,aE (by omega),fD];have j:=aT hi;have g:=o _ (cY hi);have l:k9 (mp.take (i+1)) s=(k9 (mp.take i) s||(mp[i][0]?==some s)):=by
  unfold k9;rw [iD,j,List.any_append];simp
 rw [l,←Bool.or_assoc] at c;rw [aoP];dsimp only;rw [ar,aL (by omega)];cases h:(b||k9 (mp.take i) s) with
 |true=>
  rw [h,Bool.true_or] at c;unfold ze;rw [av,aM (by omega)];exact c
 |false=>
  rw [h,k7] at c;rw [cond_false];simp only [bf hi,bi,j,aa];revert c g;generalize mp[i]=x;intro c g;cases x with
  |nil=>exact absurd rfl g
  |cons a t=>
   rw [iW (by simp),List.getElem?_cons_zero,aa];unfold ze;rw [aM (by omega),←c];congr 1
theorem apx (tb:Nat→Option Nat) (s:Nat):(tn tb s).length≤1000:=by
 have b:∀x,(eh tb x).length≤4:=fun x=>by
  unfold eh;rw [c2];exact Nat.le_trans (gA _ _) (by simp)
 have c:∀l:List Nat,(l.flatMap (eh tb)).length≤4*l.length:=fun l=>by
  induction l with
  |nil=>simp
  |cons a l e=>
   have:=b a;rw [List.flatMap_cons,cw,hH];omega
 unfold tn;have d:=b s;have h4:=c (eh tb s);have h5:=gA (fun x=>(tb x).isSome) [s];simp only [cw,hH,List.length_nil] at*;omega
theorem api {m:M} {g:G} (h:ap m g 84) (f:Nat) (r:f<32) (c:5000≤N):anP N m.d (f:Int)=some ((lc m g f,()),()):=by
 have o:ln m.d.2.2.2.2.2.2.1=4:=by rw [ar];show (m.af.length:Int)=4;rw [h.sp.len];rfl
 have C:=EU g.en (f:Int) 256;have q:=ee.of h;rw [aoW,mI h c,aa];dsimp only;rw [Bool.not_true,cond_false,LJ h f c,aa,apc];have e:=Eo (N:=N) (fun j acc i=>p3 (pQ N) N j m.d (f:Int) ((ei g.en (f:Int) 256,()),()) acc i) (fun acc=>an9 (pQ N) m.d (f:Int) ((ei g.en (f:Int) 256,()),()) acc) 4 (ow m g f) (fun s:Nat=>(s:Int)) (fun j acc s l y=>?_) (fun j acc=>?_) (by omega);rw [e,aps];rfl;have v:m.d.2.2.2.2.2.2.1[s]?=some (ay m.af s):=eT (sp:=m.af) (by rw [h.sp.len];exact l);have n:∀b,zg (pQ N) N j m.d (f:Int) ((ei g.en (f:Int) 256,()),()) acc (s:Int) b=p3 (pQ N) N j m.d (f:Int) ((ei g.en (f:Int) 256,()),()) (if b then acc++[(s:Int)] else acc) ((s+1:Nat):Int):=by
  intro b;unfold zg;cases b with
  |true=>rw [av,cd (by simp;omega),aM (by omega),ak rfl]
  |false=>rw [cond_false,aM (by omega),aj (by simp)]
 have x:=apx g.tb s;have u:(FK ((tn g.tb s).map (fr g.tb))).length≤1000:=by
  unfold FK;rw [c2];exact Nat.le_trans (gA _ _) (by simp)
 rw [aoO,o,aL (by omega),ao1,agC q l c,aa];dsimp only;rw [LL _ (by rw [c2];exact x) c,aa,aa,uC _ _ u c,aa,apv aoD (by omega) _ c,apt,a7,v,aa,apw q l f r,Bool.or_comm];unfold ow;cases z:(k9 (ei g.en (f:Int) 256) (s:Int)||decide ((f:Int)∈cI g.tb (e5 s))) with
 |true=>rw [av,n,Bool.and_true]
 |false=>rw [cond_false,n,Bool.and_false]
 rw [aoO,o,aE (by decide)]
theorem aoG (l:LI) (e:l.length≤1000) (d:5000≤N):ads N l l=some ((true,()),()):=by
 rw [aoV,show (ln l !=ln l)=false from by simp,cond_false];refine kw (fun b i=>Ta (anZ N) N b l l i) _ 0 l.length (fun b i _ hi=>?_) (fun b=>?_) (bM _) (by omega);have c:=aT hi;rw [aoN,ar,aL (by omega),a7,c,aa,a7,c,aa,show (l[i] !=l[i])=false from by simp,cond_false,aM (by omega)];rw [aoN,ar,aE (by omega),apr]
theorem apd {x:Nat} (h:x<84):∃s,s<4∧x∈e5 s:=by
 have:=(ml x).2 h;unfold kk at this;obtain ⟨s,b,c⟩:=m1.1 this;exact ⟨s,by simpa using b,c⟩
theorem ao8 {s t x:Nat} (e:s<4) (f:t<4) (b:x∈e5 s) (d:x∈e5 t):s=t:=by
 have key:∀s,s<4→∀t,t<4→s≠t→(e5 s).all (fun x=> !(e5 t).contains x)=true:=by decide
 apply ho;intro c;have:=dE.1 (key s e t f c) x b;simp only [List.contains_eq_mem,d] at this;cases this
theorem aoa {s x:Nat} (b:s<4) (c:x∈e5 s):x<84:=(ml x).1 (m1.2 ⟨s,by simpa using b,c⟩)
theorem aoC {tb:Nat→Option Nat} {l:List Nat} {f:Nat}:(f:Int)∈cI tb l↔∃x∈l,tb x=some f:=by
 unfold cI;simp only [b9,dB];constructor;rintro ⟨x,⟨b,d⟩,e⟩;obtain ⟨q,c⟩:=ou.1 d;rw [c] at e;obtain rfl:q=f:=by have e:(q:Int)=f:=e;omega
 exact ⟨x,b,c⟩;rintro ⟨x,b,e⟩;exact ⟨x,⟨b,by rw [e];rfl⟩,by rw [e];rfl⟩
theorem apa {en:Nat→E} {f s:Nat} (j:s<4):k9 (ei en (f:Int) 256) (s:Int)=true↔∃y w r,y<256∧y/64=s∧en y=.pg f w r:=by
 unfold k9 ei;rw [List.any_map,List.any_eq_true];constructor;rintro ⟨y,g,e⟩;obtain ⟨b,d⟩:=dB.1 g;obtain ⟨q,w,r,c,h⟩:=qQ.1 d;obtain rfl:f=q:=by omega
 exact ⟨y,w,r,by simpa using b,by simp at e;omega,c⟩;rintro ⟨y,w,r,b,rfl,c⟩;exact ⟨y,dB.2 ⟨by simpa using b,qQ.2 ⟨f,w,r,c,rfl⟩⟩,by simp⟩
theorem anS {m:M} {g:G} (h:ap m g 84) {f s:Nat} (b:s<4):ow m g f s=true↔(∃y w r,y<256∧y/64=s∧g.en y=.pg f w r)∨∃x∈e5 s,g.tb x=some f:=by
 unfold ow;rw [bp,fc,apa b,gE,aoC];constructor;exact fun c=>c.2
 intro c;refine ⟨?_,c⟩;cases l:(ay m.af s).1 with
 |true=>rfl
 |false=>
  rcases c with ⟨y,w,r,v,rfl,e⟩|⟨x,u,e⟩
  have:=Td h b l (y%64) (by omega);rw [show 64*(y/64)+y%64=y by omega,e] at this;cases this;have d:=(h.sp.hv s b l).1;rw [h.rp.fB s b] at d;have n:=Tg (ee.of h) b (by cases o:g.tb s with|none=>rfl|some q=>rw [o] at d;have d:(q:Int)= -1:=d;omega);have j:=aoC.2 ⟨x,u,e⟩;rw [n] at j;cases j
theorem aoF {m:M} {g:G} (h:ap m g 84) {f:Nat}:0<(lc m g f).length↔aq m.st f=5∨aq m.st f=4:=by
 unfold lc;rw [c2,List.length_pos_iff_exists_mem];constructor;rintro ⟨s,d⟩;obtain ⟨c,l⟩:=dB.1 d;have c:s<4:=by simpa using c
 rcases (anS h c).1 l with ⟨y,w,r,j,_,b⟩|⟨x,e,b⟩
 exact .inl (h.eo.pg y j f w r b).1;exact .inr ((h.tx.fN f).2 ⟨x,aoa c e,b⟩);rintro (h5|h4);obtain ⟨y,w,r,j,b⟩:=h.mp f h5;exact ⟨y/64,dB.2 ⟨by simp;omega,(anS h (by omega)).2 (.inl ⟨y,w,r,j,rfl,b⟩)⟩⟩;obtain ⟨x,e,b⟩:=(h.tx.fN f).1 h4;obtain ⟨s,d,n⟩:=apd e;exact ⟨s,dB.2 ⟨by simpa using d,(anS h d).2 (.inr ⟨x,n,b⟩)⟩⟩
theorem ape {m:M} {g:G} (h:ap m g 84) {f:Nat} (h4:aq m.st f=4):(lc m g f).length=1:=by
 have e:=(aoF h).2 (.inr h4);unfold lc at e⊢;rw [c2] at e⊢;have c:((List.range 4).filter (ow m g f)).Nodup:=u5.filter _;have d:∀s∈(List.range 4).filter (ow m g f),∀t∈(List.range 4).filter (ow m g f),s=t:=by
  have n:∀s∈(List.range 4).filter (ow m g f),s<4∧∃x∈e5 s,g.tb x=some f:=by
   intro s o;obtain ⟨j,C⟩:=dB.1 o;have j:s<4:=by simpa using j
   refine ⟨j,?_⟩;rcases (anS h j).1 C with ⟨y,w,r,K,_,D⟩|n
   have:=(h.eo.pg y K f w r D).1;omega;exact n
  intro s o t I;obtain ⟨q,x,v,J⟩:=n s o;obtain ⟨u,y,z,O⟩:=n t I;obtain rfl:=h.tx.inj x y f (aoa q v) (aoa u z) J O;exact ao8 q u v z
 revert e c d;generalize (List.range 4).filter (ow m g f)=l;intro e c d
 match l,e,c,d with
 |[_],_,_,_=>rfl
 |a::b::l,_,c,d=>
  have:=d a (by simp) b (by simp);subst this;simp at c
theorem aoE (m:M) (g:G) (f:Nat):(lc m g f).length≤1000:=by
 unfold lc;rw [c2];exact Nat.le_trans (gA _ _) (by simp)
theorem p5 (a:LI) (b:5000≤N):P5 N a=some ((true,()),()):=by
 rw [aoX,abn,aa];dsimp only;by_cases r:ln a>1048576;rw [ba r,av];rw [bm r,cond_false];rw [ar] at r;obtain ⟨m,g,y,hi,e⟩:=E2 (N:=N) (a:=a) (by omega) b;have K:=hi.fS;have h8:=hi.mm.lo;have U:=hi.sn.len;have J:=apy (st:=m.st) m.st.length fun f D=>⟨(hi.sn.val f (by omega)).1,(hi.sn.val f (by omega)).2.1⟩
 have h:∀v,(cG m.st v).length=((List.range m.st.length).filter fun f=>aq m.st f==v).length:=fun v=>by unfold cG;rw [c2]
 rw [←h 0,←h 1,←h 2,←h 3,←h 4,←h 5] at J;have hk:(cG m.st 1).length=2:=by
  rw [List.Perm.length_eq ((zf (x4 m.st 1) (by decide:([0,1]:LI).Nodup)).2 fun x=>?_)];rfl;constructor;intro l;obtain ⟨f,rfl⟩:=pd l;have n:=(fo (by decide) f).1 l;have:f<m.st.length:=Decidable.byContradiction fun c=>by
   unfold aq at n;rw [List.getD_eq_getElem?_getD,g2 (by omega)] at n;cases n
  have:=((hi.sn.val f (by omega)).2.2).1 n;simp;omega;intro l;simp only [cy,pS,or_false] at l;rcases l with rfl|rfl
  exact (fo (by decide) 0).2 (((hi.sn.val 0 (by omega)).2.2).2 (by omega));exact (fo (by decide) 1).2 (((hi.sn.val 1 (by omega)).2.2).2 (by omega))
 have O:=aoA g.en (cG m.st 5) (cG m.st 5).length;obtain ⟨q,I⟩:=apg hi b;rw [e,aa];dsimp only;rw [apf hi b,aa];unfold anR;dsimp only;rw [Bool.not_true,cond_false,a6 (x:=((cG m.st 0).length:Int)+((cG m.st 1).length:Int)) (by omega) (by omega),a6 (x:=((cG m.st 0).length:Int)+((cG m.st 1).length:Int)+((cG m.st 2).length:Int)) (by omega) (by omega),a6 (x:=((cG m.st 0).length:Int)+((cG m.st 1).length:Int)+((cG m.st 2).length:Int)+((cG m.st 3).length:Int)) (by omega) (by omega),a6 (x:=((cG m.st 0).length:Int)+((cG m.st 1).length:Int)+((cG m.st 2).length:Int)+((cG m.st 3).length:Int)+((cG m.st 4).length:Int)) (by omega) (by omega),a6 (x:=((cG m.st 0).length:Int)+((cG m.st 1).length:Int)+((cG m.st 2).length:Int)+((cG m.st 3).length:Int)+((cG m.st 4).length:Int)+((cG m.st 5).length:Int)) (by omega) (by omega)];rw [show ln m.d.1=(m.mem.length:Int) from rfl,show (((cG m.st 0).length:Int)+((cG m.st 1).length:Int)+((cG m.st 2).length:Int)+((cG m.st 3).length:Int)+((cG m.st 4).length:Int)+((cG m.st 5).length:Int) !=(m.mem.length:Int))=false from by rw [bne_eq_false_iff_eq];omega,cond_false,show (((cG m.st 1).length:Int) !=2)=false from by rw [hk];rfl,cond_false,aE (by omega),I,aa];dsimp only;rw [bm (by omega)];unfold pO;rw [cond_false];refine kw (fun j i=>r3 (rE N) N j ((m.d,(y,())),()) i) _ 0 m.mem.length (fun j f _ D=>?_) (fun j=>?_) (bM _) (by omega);have z:m.d.2.1[f]?=some (aq m.st f):=by
  unfold aq;rw [List.getD_eq_getElem?_getD];show m.st[f]?=_;rw [aT (by omega)];rfl
 have u:f<m.d.2.1.length:=by show f<m.st.length;omega
 have C:=api (N:=N) hi f (by omega) b;have o:E3 (rE N) N j ((m.d,(y,())),()) (f:Int) ((lc m g f,()),()) (decide (aq m.st f=5∨aq m.st f=4))=r3 (rE N) N j ((m.d,(y,())),()) ((f+1:Nat):Int):=by
  unfold E3;dsimp only;rw [show (decide (ln (lc m g f)>0)==decide (aq m.st f=5∨aq m.st f=4))=true from by rw [ff,decide_eq_decide,←aoF hi,ar];omega,Bool.not_true,cond_false,bf u,bi,z,aa];by_cases c:aq m.st f=4;rw [show (aq m.st f==4)=true from by simpa using c,av,ar,ape hi c,show (((1:Nat):Int) !=1)=false from rfl,cond_false,C,aa];dsimp only;rw [aoG _ (aoE m g f) b,aa];unfold pN;dsimp only;rw [Bool.not_true,cond_false,aM (by omega)];rw [show (aq m.st f==4)=false from by simpa using c,cond_false,C,aa];dsimp only;rw [aoG _ (aoE m g f) b,aa];unfold pN;dsimp only;rw [Bool.not_true,cond_false,aM (by omega)]
 rw [aoQ,show ln ((m.d,(y,())),()).1.1.1=(m.mem.length:Int) from rfl,aL (by omega),aph hi f b,aa,bf u,bi,z,aa];by_cases c:aq m.st f=5;rw [show (aq m.st f==5)=true from by simpa using c,av];rw [ba (.inl c)] at o;exact o;rw [show (aq m.st f==5)=false from by simpa using c,cond_false,bf u,bi,z,aa];rw [show decide (aq m.st f=5∨aq m.st f=4)=(aq m.st f==4) from by rw [gO,gE,ff];omega] at o;exact o;rw [aoQ,show ln ((m.d,(y,())),()).1.1.1=(m.mem.length:Int) from rfl,aE (by omega),apu]
end Go.Proofs.YtgoggapkkefgmaaGreat
namespace Go.Proofs.YtgoggapkkefgmaaGreat
open Go.ChangeShapes Go.WideShapes Go.ChangeAt Go.RowKit Go.TM
theorem ab:ownKnob Tryz.prog.godebug=none:=by kernel_rfl
theorem ae3:laidOutB Tryz.prog=true:=by kernel_rfl
theorem aer {E:ao} {n:Nat} {b:List PM} {rt:List Ty} {fn:Func} {ds:List D} {v:kM rt×kM (lG b)} (h:aS E n b rt fn ds=some v):aB.g (aP E n b rt fn) ds=some (o7 rt v.1,o7 (lG b) v.2):=by
 unfold aB.g aP;simp only;rw [h]
set_option maxRecDepth 100000 in
theorem ae4 (N:Nat) (b:5000≤N):∀ds,Dj [.slice (.int .u8)] ds→aB.g (c5 N) ds=some ([⟨.bool,true⟩],[]):=by
 intro ds h;cases ds with
 |nil=>exact h.elim
 |cons d ds=>
  cases ds with
  |cons _ _=>exact h.2.elim
  |nil=>
   obtain ⟨⟨x,e,c⟩,_⟩:=h;subst e;exact aer (p5 x b)
set_option maxRecDepth 100000 in
theorem ae5 (os:Os) (started:os.Started) (H:Type) (enc:TypeId×Value→H):
 ReturnsInHanded {} Tryz.checked os 5 .any (Rows.fnCensusSpec.pre6 enc Tryz.prog Tryz.f5 Rows.fnCensusRow.domain false) (Rows.fnCensusSpec.post enc Tryz.prog Tryz.f5 false true false false):=by
 refine returnsInHanded_of_change_sized (C:=Tryz.checked) ab started (by kernel_rfl) Tryz.func5
  (ChangeSpec.witness6 (enc:=enc) (C:=Tryz.checked) false ⟨#[],#[.slice none 0 0],[]⟩ 8 (by kernel_rfl) (by kernel_rfl) (by kernel_rfl) (by kernel_rfl)) ?_
 intro W bg args ds b before g c j f _;exact adj (h:=(c5 5000).h) (v5 5000) Tryz.call5 (ae4 5000 (cf _)) rfl rfl (fun ds e=>by match ds,e with|[d],_=>rfl) (by kernel_rfl) rfl Tryz.underlying4 ae3 W bg args ds b before g c f
theorem census_holds:Rows.FnCensusSaid:=
 OpenClaim.holds_of_wide 5 Tryz.f5 rfl rfl rfl rfl rfl rfl rfl ⟨rfl,rfl,rfl,rfl,rfl⟩ rfl rfl rfl rfl rfl (by kernel_rfl) Tryz.func5 (by kernel_rfl)
  (eU (by kernel_rfl)) (by unfold Func.isWrapper;first|(rw [ak (by decide+kernel)];kernel_rfl)|(rw [aj (by decide+kernel)];exact ⟨rfl,rfl⟩))
  (fun os started H enc _=>ae5 os started H enc)
#print axioms census_holds
end Go.Proofs.YtgoggapkkefgmaaGreat
