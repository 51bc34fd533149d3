/- PROVED HERE: the row FnMapsSaid as it is given: FnMaps answers true for all codes; it asks for nothing more. Part 8 of 8 (the theorem stands in the last one; here: the law and the row). Own names are shortened. -/
import Derived.OpenShut
import Derived.ProofKit
import Derived.SizedLaws
import Derived.Test.YtgoggapkkefgmaaGreatRows
import Derived.Test.YtgoggapkkefgmaaGreatXG
set_option autoImplicit false
set_option linter.unusedVariables false
set_option linter.unusedSimpArgs false
set_option linter.constructorNameAsVariable false
namespace Go.Proofs.YtgoggapkkefgmaaGreat
set_option maxRecDepth 100000
open Go.TM Go.bz
variable {N:Nat}
theorem UO {l:List cC} (h:hN l) (o:5000≤N):CK N l=some ((true,()),()):=by
 obtain ⟨q,e,d⟩:=h;rw [YX];refine kw (fun m i=>vX (vI N) N m l i) _ 0 l.length (fun m i _ hi=>?_) (fun m=>?_) (bM _) (by omega);have b:=aT hi;obtain ⟨r,u,v⟩:=e _ (cY hi);rw [V2,ar,aL (by omega),a7,b,aa,a6 (x:=l[i].2.1-1) (by omega) (by omega),fZ,aa,ba (by omega)];simp only [Bool.not_true,cond_false];rw [fZ,aa,ba (by omega)];unfold Gl;simp only [Bool.not_true,cond_false];have n:r2 (vI N) N m l i false=vX (vI N) N m l ((i+1:Nat):Int):=by
  unfold r2;rw [cond_false,aM (by omega)]
 cases i with
 |zero=>simp_all
 |succ j=>
  have c:=aT (show j<l.length by omega);obtain ⟨f,g⟩:=Mh l d j _ _ c b;rw [aL (by omega),lV (by omega),show (((j+1:Nat):Int)-1)=(j:Int) by omega];simp only [a7,c,aa]
  grind
 rw [V2,ar,aE (by omega),aiG,ar,ba (by omega)]
theorem ahf {l:List cC} (h:hN l) (O:5000≤N):Iy N l=some ((hc l,()),()):=by
 obtain ⟨X,C,W⟩:=h;rw [aae];have I:=b0 (n:=l.length) (Q:=fun m i=>∀s:LI,s=hc (l.take i)→Cc (vQ N) N m l s i=some ((hc l,()),())) (fun m s d=>by
  rw [WC,ar,aE (by omega),ajx,d,fD]) (fun m i hi J s d=>by
  have x:=aT hi;obtain ⟨K,ad,ae⟩:=C _ (cY hi);rw [WC,ar,aL (by omega),a7,x,aa];obtain ⟨a,o⟩:=hp K;obtain ⟨b,f⟩:=hp (show 0≤l[i].2.1 by omega);have cZ:=b0 (n:=b) (Q:=fun M j=>∀t:LI,a≤j→t.length=64→(∀p,p<64→t[p]?=some (if a≤p∧p<j then mE l[i] else bj (l.take i) p))→
   Cd (Bu (vQ N) N m) N M l i l[i] t j=some ((hc l,()),())) (fun M t y g c=>by
   rw [WD,f,aE (by omega),ajy,aM (by omega)];refine J t (lW fun p=>?_);rw [iD,x];by_cases q:p<64;rw [c p q,us _ q,fW,VF,o,f];simp_all;rw [g2 (by omega),g2 (by rw [yk];omega)]) (fun M j y ac t U g c=>by
   rw [WD,f,aL (by omega),bz.ud (by omega),bi,c j (by omega),aa];have r:∀(v:Int),v=mE l[i]→∀e,e.length=64→(∀p,p<64→e[p]?=if p=j then some v else t[p]?)→AQ (Bu (vQ N) N m) N M l i l[i] j e=some ((hc l,()),()):=by
    intro v ab e Z Y;unfold AQ;rw [aM (by omega)]
    grind
   cases u:(l[i]).2.2.1;rw [cond_false];refine r 1 (by simp [mE,u]) _ (by simpa using g) (fun p D=>?_)
   grind
   rw [av,bz.ud (by omega),bi,kC (by omega),aa];refine r 2 (by simp [mE,u]) _ (by simpa using g) (fun p D=>?_)
   grind)
  have z:=cZ a N (by omega) (by omega) s (cf _) (by rw [d,yk]) (fun p c=>by
   rw [d,us _ c,aj (by omega)])
  rw [o];exact z)
 exact I 0 N (bM _) (by omega) (List.replicate 64 0) (by rfl)
theorem agQ {l:List cC} (h:hN l) {p:Nat} (c:p<64) (b:5000≤N):H8 N l (p:Int)=some ((decide (bj l p>0),(bj l p==2,())),()):=by
 rw [ZH,UO h b,aa];dsimp only;rw [Bool.not_true,cond_false,fZ,aa,ef (by omega) (by omega)];unfold Gv;dsimp only;rw [Bool.not_true,cond_false,ahf h b,aa];dsimp only;rw [a7,us _ c,aa]
theorem agS {p:Nat} (b:p<64):Ib N (p:Int)=some ((((p/16:Nat):Int),(((p/4%4:Nat):Int),(((p%4:Nat):Int),()))),()):=by
 rw [ZK,fZ,aa,ef (by omega) (by omega)];dsimp only;rw [Bool.not_true,cond_false];simp only [pM (show 0≤(p:Int) by omega),jl (show 0≤(p:Int) by omega)];rw [a6 (by omega) (by omega),a6 (by omega) (by omega),jl (by omega)];simp
theorem E4 {m:M} (h:fg m.mem) {f k:Nat} (b:f<m.mem.length) (hk:k<4):s7 N m.d (f:Int) (k:Int)=some ((bX m.mem f k,(true,())),()):=by
 have l:=h.hi;obtain ⟨c,_⟩:=gb b;have e:=(h.row b).1;have j:m.d.1[f]?=some (row m.mem f):=c;have g:=(h.bX b hk).1;rw [O1,show ln m.d.1=(m.mem.length:Int) from rfl,a6 (by omega) (by omega),fZ,aa,ef (by omega) (by omega)];dsimp only;rw [Bool.not_true,cond_false,a7,show m.mem[f]?=some (row m.mem f) from c,aa,ar,e,a6 (by decide) (by decide),fZ,aa,ef (by omega) (by omega)];unfold Gp;dsimp only;rw [Bool.not_true,cond_false,a7,show m.mem[f]?=some (row m.mem f) from c,aa,a7,g,aa]
theorem agx {m:M} (h:fg m.mem) (k:Int):s7 N m.d (-1) k=some ((0,(false,())),()):=by
 have b:=h.hi;rw [O1,show ln m.d.1=(m.mem.length:Int) from rfl,a6 (by omega) (by omega),fZ,aa,bm (by omega)];rfl
def tQ:Option Nat→Int×Bool×Unit
 |none=>(0,false,())
 |some q=>((q:Int),true,())
theorem UP {m:M} {g:G} (h:ee m g) {s p:Nat} (I:s<4) (C:p<64) (X:5000≤N):CM N m.d (s:Int) (p:Int)=some ((tQ (g.tb (20+(64*s+p)/4)),())):=by
 have Y:=h.mm.hi;have Z:=h.rp.c1 s (by omega);have n:=h.rp.c1 (4+4*s+p/16) (by omega);have u:4*s+4+p/16=4+4*s+p/16:=by omega
 have e:4*(4+4*s+p/16)+4+p/4%4=20+(64*s+p)/4:=by omega
 obtain ⟨K,y⟩:∃k,N=k+1+1+1:=⟨N-3,by omega⟩
 rw [Y3,agS C,aa,a7,show m.d.2.2.2.2.2.2.1=m.af from rfl,eT (by have:=h.len;omega),aa,h.rp.fB s I];generalize o:(((((p/16:Nat):Int),(((p/4%4:Nat):Int),(((p%4:Nat):Int),()))),()):gF)=v;have J:v.1.1=((p/16:Nat):Int):=by rw [←o]
 have O:v.1.2.1=((p/4%4:Nat):Int):=by rw [←o]
 rw [show ∀x i,vZ (vK N) N N m.d v x i=vZ (vK N) N (K+1+1+1) m.d v x i from fun x i=>by rw [←y]];have j:ln ([v.1.1,v.1.2.1]:List Int)=2:=rfl;rw [MJ,j,ba (by decide),av,iW (by simp),bi];dsimp only [List.getElem?_cons_zero];rw [aa,J];cases l:g.tb s with
 |none=>
  have b:g.tb (4+4*s+p/16)=none:=by grind
  have c:g.tb (20+(64*s+p)/4)=none:=by rw [←e];exact n b _ (by omega)
  rw [show tI none= -1 from rfl,agx h.mm,aa,c];unfold vj;dsimp only;rw [ed,av,av,Mu];rfl
 |some r=>
  have D:=h.lt s r (by omega) l;have U:=h.rp.cZ s (by omega) (p/16) (by omega) r l;rw [show tI (some r)=(r:Int) from rfl,E4 h.mm D (by omega),aa,U,u];dsimp only;rw [Bool.not_true,cond_false];unfold vj;cases b:g.tb (4+4*s+p/16) with
  |none=>
   have c:g.tb (20+(64*s+p)/4)=none:=by rw [←e];exact n b _ (by omega)
   rw [show tW none=0 from rfl,ba (by decide),av,Mu,c];rfl
  |some f=>
   have z:=h.lt _ f (by omega) b;have W:=h.rp.cZ (4+4*s+p/16) (by omega) (p/4%4) (by omega) f b;rw [show tW (some f)=(f:Int)+1 from rfl,aE (by omega),a6 (x:=(f:Int)+1-1) (by omega) (by omega),show (f:Int)+1-1=f by omega,a6 (x:=0+1) (by decide) (by decide)];rw [MJ,j,ba (by decide),av,show (0+1:Int)=1 from rfl,iX (by simp),bi];dsimp only [List.getElem?_cons_zero,List.getElem?_cons_succ];rw [aa,O,E4 h.mm z (by omega),aa,W,e];dsimp only;rw [Bool.not_true,cond_false];unfold vj;cases c:g.tb (20+(64*s+p)/4) with
   |none=>
    rw [show tW none=0 from rfl,ba (by decide),av,Mu];rfl
   |some q=>
    have ab:=h.lt _ q (by omega) c;rw [show tW (some q)=(q:Int)+1 from rfl,aE (by omega),a6 (x:=(q:Int)+1-1) (by omega) (by omega),show (q:Int)+1-1=q by omega,a6 (x:=1+1) (by decide) (by decide)];rw [MJ,j,aE (by decide),aiL];rfl
theorem adg {α:Type} (b:Bool) {x y:α} (h:y=x):cond b x y=x:=by cases b;exact h;rfl
theorem ahg {e:E} (h:e.ok):Iz N e.t=some ((true,()),()):=by
 rw [aaf,tg,aa];by_cases b:e=.no;subst b;rfl;dsimp only;refine adg _ ?_;cases e with
 |no=>exact absurd rfl b
 |pg f w r=>
  have h:f<32:=h;rw [eY];dsimp only;rw [show ((-1:Int)== -1)=true from rfl,av,fZ,aa,ef (by omega) (by omega)]
 |sl i=>
  have h:i<16:=h;rw [g9];dsimp only;rw [show ((i:Int)== -1)=false from by simp_all,cond_false,show ((-1:Int)== -1)=true from rfl,av,fZ,aa,ef (by omega) (by omega)];rfl
theorem agT {e:E} (h:e.ok):Ic N e.t=some ((e.w,(true,())),()):=by
 rw [ZL,ahg h,aa];dsimp only;rw [Bool.not_true,cond_false,ZU];cases e with
 |no=>rfl
 |pg f w r=>
  have h:f<32:=h;rw [eY];dsimp only [E.w];rw [aE (by omega),aE (by omega)];have b:wi (8*(f:Int))=8*f:=a6 (by omega) (by omega);have w2:wi (1+8*(f:Int))=1+8*f:=a6 (by omega) (by omega);have c:wi (1+8*(f:Int)+2)=1+8*f+2:=a6 (by omega) (by omega);have d:wi (1+8*(f:Int)+4)=1+8*f+4:=a6 (by omega) (by omega);have g:wi (1+8*(f:Int)+2+4)=1+8*f+2+4:=a6 (by omega) (by omega);rw [b,w2,c,d,g];cases w<;>cases r<;>simp
 |sl i=>
  have h:i<16:=h;rw [g9];dsimp only [E.w];rw [aL (by omega),a6 (x:=4*(i:Int)) (by omega) (by omega),a6 (by omega) (by omega)];rfl
theorem ah3 {f:Nat} (h:f<32) (w r:Bool):(Int.tmod (E.w (.pg f w r)) 2==1)=true∧Int.fdiv (E.w (.pg f w r)) (2^(min 3 (IntKind.i64.bits)))=(f:Int)∧
 ((wi ((BitVec.ofInt (IntKind.i64.bits) (E.w (.pg f w r))&&&BitVec.ofInt (IntKind.i64.bits) 2).toNat:Int)) !=0)=w∧((wi ((BitVec.ofInt (IntKind.i64.bits) (E.w (.pg f w r))&&&BitVec.ofInt (IntKind.i64.bits) 4).toNat:Int)) !=0)=r:=by
 have key:((List.range 32).all fun f=>[true,false].all fun w=>[true,false].all fun r=>(Int.tmod (E.w (.pg f w r)) 2==1)&&(Int.fdiv (E.w (.pg f w r)) (2^(min 3 64))==(f:Int))&&
  (((wi ((BitVec.ofInt 64 (E.w (.pg f w r))&&&BitVec.ofInt 64 2).toNat:Int)) !=0)==w)&&(((wi ((BitVec.ofInt 64 (E.w (.pg f w r))&&&BitVec.ofInt 64 4).toNat:Int)) !=0)==r))=true:=by decide
 have:=dE.1 (dE.1 (dE.1 key f (by simpa using h)) w (by cases w<;>simp)) r (by cases r<;>simp);simp only [bp,ff] at this;obtain ⟨⟨⟨b,c⟩,d⟩,e⟩:=this;exact ⟨by rw [b];rfl,c,d,e⟩
theorem ah4 {i:Nat} (h:i<16):(Int.tmod (E.w (.sl i)) 2==1)=false∧(Int.tmod (E.w (.sl i)) 4==2)=true∧Int.fdiv (E.w (.sl i)) (2^(min 2 (IntKind.i64.bits)))=(i:Int):=by
 have key:((List.range 16).all fun i=> !(Int.tmod (E.w (.sl i)) 2==1)&&(Int.tmod (E.w (.sl i)) 4==2)&&(Int.fdiv (E.w (.sl i)) (2^(min 2 64))==(i:Int)))=true:=by decide
 have:=dE.1 key i (by simpa using h);simp only [bp,hn] at this;obtain ⟨⟨b,c⟩,d⟩:=this;exact ⟨b,c,eq_of_beq d⟩
theorem UQ {e:E} (h:e.ok):CN N e.w=some ((e.t,(true,())),()):=by
 have l:=E.Nu (e:=e);have b:vm N e.w e.t=some ((e.t,(true,())),()):=by
  unfold vm;rw [agT h,aa];simp_all
 rw [Y5,tg,aa,aE (by omega)];cases e with
 |no=>exact b
 |pg f w r=>
  obtain ⟨c,d,g,j⟩:=ah3 (show f<32 from h) w r;rw [c,av,d,g,j];exact b
 |sl i=>
  obtain ⟨c,d,g⟩:=ah4 (show i<16 from h);rw [c,cond_false,d,av,g];exact b
theorem Kv (e:E):iS hO (show ib from e.t) (show ib from (-1,-1,false,false,()))=decide (e=.no):=by
 cases e with
 |no=>rfl
 |pg f w r=>
  rw [bm (by simp),eY];show ((f:Int)== -1&&_)=false;simp_all
 |sl i=>
  rw [bm (by simp),g9];show ((-1:Int)== -1&&((i:Int)== -1&&_))=false;simp_all
theorem agt {m:M} {g:G} {z s:Nat} (h:ap m g z) (l:s<4) (x:5000≤N):HO N m.d (s:Int)=some ((true,()),()):=by
 have J:=ee.of h;have U:m.af[s]?=some (ay m.af s):=eT (by rw [h.sp.len];exact l);rw [YY];refine kw (fun e i=>vY (vJ N) N e m.d (s:Int) i) _ 0 64 (fun e p _ D=>?_) (fun e=>?_) (bM _) (by omega);have j:p0 (vJ N) N e m.d (s:Int) (p:Int)=vY (vJ N) N e m.d (s:Int) ((p+1:Nat):Int):=by
  unfold p0;rw [aM (by omega)]
 rw [V3,aL (by omega),UP J l D x,aa];cases I:g.tb (20+(64*s+p)/4) with
 |none=>
  dsimp only [tQ];simp_all
 |some q=>
  have O:=J.lt _ q (by omega) I;have n:64*s+p<256:=by omega
  have K:=h.mo n;have C:=h.rp.leaf ((64*s+p)/4) (by omega) (p%4) (by omega) q I;rw [show 4*((64*s+p)/4)+p%4=64*s+p by omega] at C;dsimp only [tQ];rw [Bool.not_true,cond_false,jl (by omega),show ((p:Int)%4)=((p%4:Nat):Int) by omega,E4 h.mm O (by omega),aa,C];dsimp only;rw [UQ K,aa,a7,U,aa,agQ (show hN (ay m.af s).2.2.1 from h.sp.hY s l) D x,aa];dsimp only;rw [Bool.not_true,cond_false,tg,aa];dsimp only;refine Eq.trans (dx (fun b=>cond (!b) _ _) (Kv (g.en (64*s+p)))) ?_;have u:(64*s+p)/64=s:=by omega
  have v:(64*s+p)%64=p:=by omega
  cases y:g.en (64*s+p) with
  |no=>
   rw [ba rfl];dsimp only [Bool.not_true,cond_false,E.t];exact j
  |pg f w r=>
   obtain ⟨_,c,o⟩:=h.eo.pg _ n f w r y;rw [u,v] at c o;have c:bj (ay m.af s).2.2.1 p>0:=c;rw [bm (by simp),ed,av,ba c,Bool.not_true,cond_false,eY];dsimp only;cases w with
   |true=>
    have o:bj (ay m.af s).2.2.1 p=2:=o rfl;simp_all
   |false=>exact j
  |sl i=>
   obtain ⟨_,c⟩:=h.eo.sl _ n i y;rw [u,v] at c;have c:bj (ay m.af s).2.2.1 p>0:=c;rw [bm (by simp),ed,av,ba c,Bool.not_true,cond_false,g9];exact j
 rw [V3,aE (by decide),aiH]
theorem agE (l:List Int) (x:Int) (g:l.length≤1000) (f:5000≤N):∃j:Int,HY N l x=some ((j,()),())∧(0≤j↔x∈l):=by
 rw [Zn];have key:=b0 (n:=l.length) (Q:=fun m i=>∃j:Int,BZ (Bl N) N m l x (i:Int)=some ((j,()),())∧(0≤j↔x∈l.drop i)) (fun m=>?_) (fun m i hi d=>?_) 0 N (bM _) (by omega);simpa using key;refine ⟨-1,by rw [Wl,ar,aE (by omega),ai6],?_⟩;simp;rw [Wl,ar,aL (by omega),a7,aT hi,aa];by_cases e:x=l[i];rw [show (x==l[i])=true from by simpa using e,av,ai5];exact ⟨i,rfl,by rw [kc hi,cy];omega⟩;rw [show (x==l[i])=false from by simpa using e,cond_false,aM (by omega)];obtain ⟨j,b,c⟩:=d;exact ⟨j,b,by rw [c,kc hi,cy];simp_all⟩
theorem LM (l:List Int) (x:Int) (d:l.length≤1000) (c:5000≤N):xl N l x=some ((decide (x∈l),()),()):=by
 obtain ⟨j,b,e⟩:=agE (N:=N) l x d c;rw [abd,b,aa];simp_all
def cI (tb:Nat→Option Nat) (l:List Nat):List Int:=(l.filter fun x=>(tb x).isSome).map fun x=>tI (tb x)
theorem rf (tb:Nat→Option Nat) (l b:List Nat):cI tb (l++b)=cI tb l++cI tb b:=by simp [cI]
theorem MW {tb:Nat→Option Nat} {l:List Nat} (h:∀x∈l,tb x=none):cI tb l=[]:=by
 unfold cI;simp_all
theorem MV {m:M} {g:G} (h:ee m g) {l:List Nat} (o:∀y∈l,y<84) {x f:Nat} (q:x<84) (n:g.tb x=some f) (d:(f:Int)∈cI g.tb l):x∈l:=by
 unfold cI at d;obtain ⟨y,r,e⟩:=b9.1 d;obtain ⟨j,u⟩:=dB.1 r;obtain ⟨b,c⟩:=ou.1 u;rw [c] at e;obtain rfl:b=f:=by have e:(b:Int)=f:=e;omega
 rw [h.inj x y b q (o y j) n c];exact j
theorem uR (tb:Nat→Option Nat) (l:List Nat):(cI tb l).length≤l.length:=by
 unfold cI
 grind
theorem yn {l:List Nat} (b:l.Nodup) (c:∀y∈l,y<84):l.length≤84:=by
 have:=uy (l.map fun x:Nat=>(x:Int)) 84 (by grind) fun x d=>by
  grind
 simpa using this
def ik (x:Nat):List Nat:=x::(List.range 4).map fun k=>4*x+4+k
def e5 (s:Nat):List Nat:=s::(List.range 4).flatMap fun k=>ik (4*s+4+k)
theorem alO {m:M} {g:G} (h:ee m g) {x f:Nat} (q:x<84) (b:g.tb x=some f) {l:List Nat} (n:∀y∈l,y<84) (c:(l++[x]).Nodup) (r:5000≤N):
 IP N m.d (f:Int) 3 (cI g.tb l)=some ((true,()),(cI g.tb (l++[x]),())):=by
 have C:=h.mm.hi;have j:=h.lt x f q b;have D:=yn (cn.1 c).1 n;have I:=uR g.tb l;have v:¬(f:Int)∈cI g.tb l:=fun u=>(cn.1 c).2.2 x (MV h n q b u) x (by simp) rfl
 obtain ⟨z,_⟩:=gb j;have o:=(h.mm.row j).1;rw [aaV,show ln m.d.1=(m.mem.length:Int) from rfl,a6 (by omega) (by omega),fZ,aa,ef (by omega) (by omega)];dsimp only;rw [Bool.not_true,cond_false,LM _ _ (by omega) r,aa,bm v];unfold GP;rw [cond_false,cd (by simp;omega),a7,show m.mem[f]?=some (row m.mem f) from z,aa];have e:cI g.tb l++[(f:Int)]=cI g.tb (l++[x]):=by rw [rf];congr 1;simp [cI,b,tI]
 rw [e];refine kw (fun k i=>Cp (Hr N) N k m.d 3 (row m.mem f) (cI g.tb (l++[x])) i) _ 0 4 (fun k i _ hi=>?_) (fun k=>?_) (bM _) (by omega);rw [Xp,ar,o,aL (by omega),a7,aT (by omega),aa,aE (by decide)];unfold A7;rw [cond_false,aM (by omega)];rw [Xp,ar,o,aE (by decide),akw]
theorem alP {m:M} {g:G} (h:ee m g) {x f:Nat} (Y:x<20) (j:g.tb x=some f) {l:List Nat} (z:∀y∈l,y<84) (o:(l++ik x).Nodup) (u:5000≤N):
 IQ N m.d (f:Int) 2 (cI g.tb l)=some ((true,()),(cI g.tb (l++ik x),())):=by
 have ab:=h.mm.hi;have q:=h.lt x f (by omega) j;have ac:=yn (cn.1 o).1 z;have ad:=uR g.tb l;have K:¬(f:Int)∈cI g.tb l:=fun J=>(cn.1 o).2.2 x (MV h z (by omega) j J) x (by simp [ik]) rfl
 obtain ⟨O,_⟩:=gb q;have C:=(h.mm.row q).1;rw [aaW,show ln m.d.1=(m.mem.length:Int) from rfl,a6 (by omega) (by omega),fZ,aa,ef (by omega) (by omega)];dsimp only;rw [Bool.not_true,cond_false,LM _ _ (by omega) u,aa,bm K];unfold GQ;rw [cond_false,cd (by simp;omega),a7,show m.mem[f]?=some (row m.mem f) from O,aa];have e:cI g.tb l++[(f:Int)]=cI g.tb (l++x::(List.range 0).map fun k=>4*x+4+k):=by rw [rf];congr 1;simp [cI,j,tI]
 rw [e];refine b0 (n:=4) (Q:=fun k i=>Cq (Hs N) N k m.d 2 (row m.mem f) (cI g.tb (l++x::(List.range i).map fun k=>4*x+4+k)) i=some ((true,()),(cI g.tb (l++ik x),()))) (fun k=>?_) (fun k i hi r=>?_) 0 N (bM _) (by omega);rw [Xq,ar,C,aE (by decide),akx];rfl;have W:=(h.mm.bX q hi).1;have X:=h.rp.cZ x Y i hi f j;have U:((l++x::(List.range i).map fun k=>4*x+4+k)++[4*x+4+i]).Nodup:=by
  have c:(l++x::(List.range i).map fun k=>4*x+4+k)++[4*x+4+i]=l++x::(List.range (i+1)).map fun k=>4*x+4+k:=by simp [gD]
  rw [c];exact o.sublist (List.Sublist.append_left (List.Sublist.cons_cons _ ((List.range_sublist.2 (by omega)).map _)) _)
 have c:(l++x::(List.range i).map fun k=>4*x+4+k)++[4*x+4+i]=l++x::(List.range (i+1)).map fun k=>4*x+4+k:=by simp [gD]
 have I:∀y∈(l++x::(List.range i).map fun k=>4*x+4+k),y<84:=by
  intro y D;simp only [aZ,cy,b9,et] at D
  grind
 rw [Xq,ar,C,aL (by omega),a7,W,aa,ba (by decide),av,X];cases v:g.tb (4*x+4+i) with
 |none=>
  rw [show (tW none !=0)=false from rfl,cond_false];unfold vC;rw [cond_false,aM (by omega)];rw [←c,rf,MW (l:=[4*x+4+i]) (fun y D=>by simp_all),eF] at r;exact r
 |some b=>
  have Z:=h.lt _ b (by omega) v;rw [show tW (some b)=(b:Int)+1 from rfl,show ((b:Int)+1 !=0)=true from by rw [bne_iff_ne];omega,av,a6 (x:=(b:Int)+1-1) (by omega) (by omega),show (b:Int)+1-1=b by omega,a6 (x:=2+1) (by decide) (by decide),
   show (2+1:Int)=3 from rfl,alO h (by omega) v I U u,aa]
  unfold vC;dsimp only;rw [Bool.not_true,cond_false,aM (by omega),c];exact r
theorem lA {α:Type} (F:Nat→List α) (i:Nat):(List.range (i+1)).flatMap F=(List.range i).flatMap F++F i:=by simp [gD]
theorem tX {α:Type} (F:Nat→List α) {i n:Nat} (h:i≤n):((List.range i).flatMap F).Sublist ((List.range n).flatMap F):=by
 induction n with
 |zero=>
  simp_all
 |succ n b=>
  by_cases e:i=n+1;simp_all;rw [lA];grind
theorem adt {m:M} {g:G} (h:ee m g) {x:Nat} (d:x<20) (b:g.tb x=none):cI g.tb (ik x)=[]:=MW fun y c=>by
 simp only [ik,cy,b9,et] at c;rcases c with rfl|⟨k,hk,rfl⟩
 exact b;exact h.rp.c1 x d b k hk
theorem Tg {m:M} {g:G} (h:ee m g) {s:Nat} (f:s<4) (d:g.tb s=none):cI g.tb (e5 s)=[]:=MW fun y b=>by
 simp only [e5,cy,m1,et] at b;rcases b with rfl|⟨k,hk,b⟩
 exact d;have c:=h.rp.c1 s (by omega) d k hk;simp only [ik,cy,b9,et] at b;rcases b with rfl|⟨j,e,rfl⟩
 exact c;exact h.rp.c1 _ (by omega) c j e
theorem XZ {m:M} {g:G} (h:ee m g) {x f:Nat} (af:x<4) (c:g.tb x=some f) {l:List Nat} (z:∀y∈l,y<84) (u:(l++e5 x).Nodup) (D:5000≤N):
 xi N m.d (f:Int) 1 (cI g.tb l)=some ((true,()),(cI g.tb (l++e5 x),())):=by
 have ab:=h.mm.hi;have v:=h.lt x f (by omega) c;have ad:=yn (cn.1 u).1 z;have ae:=uR g.tb l;have O:¬(f:Int)∈cI g.tb l:=fun K=>(cn.1 u).2.2 x (MV h z (by omega) c K) x (by simp [e5]) rfl
 obtain ⟨U,_⟩:=gb v;have I:=(h.mm.row v).1;rw [aaX,show ln m.d.1=(m.mem.length:Int) from rfl,a6 (by omega) (by omega),fZ,aa,ef (by omega) (by omega)];dsimp only;rw [Bool.not_true,cond_false,LM _ _ (by omega) D,aa,bm O];unfold GR;rw [cond_false,cd (by simp;omega),a7,show m.mem[f]?=some (row m.mem f) from U,aa];have e:cI g.tb l++[(f:Int)]=cI g.tb (l++x::(List.range 0).flatMap fun k=>ik (4*x+4+k)):=by rw [rf];congr 1;simp [cI,c,tI]
 rw [e];refine b0 (n:=4) (Q:=fun k i=>Cr (Ht N) N k m.d 1 (row m.mem f) (cI g.tb (l++x::(List.range i).flatMap fun k=>ik (4*x+4+k))) i=some ((true,()),(cI g.tb (l++e5 x),()))) (fun k=>?_) (fun k i hi C=>?_) 0 N (bM _) (by omega);rw [Xr,ar,I,aE (by decide),aky];rfl;have X:=(h.mm.bX v hi).1;have Y:=h.rp.cZ x (by omega) i hi f c;have q:(l++x::(List.range i).flatMap fun k=>ik (4*x+4+k))++ik (4*x+4+i)=l++x::(List.range (i+1)).flatMap fun k=>ik (4*x+4+k):=by rw [lA];simp
 have W:((l++x::(List.range i).flatMap fun k=>ik (4*x+4+k))++ik (4*x+4+i)).Nodup:=by
  rw [q];exact u.sublist (List.Sublist.append_left (List.Sublist.cons_cons _ (tX _ (by omega))) _)
 have J:∀y∈(l++x::(List.range i).flatMap fun k=>ik (4*x+4+k)),y<84:=by
  intro y o;simp only [aZ,cy,m1,et,ik,b9] at o;rcases o with o|rfl|⟨k,hk,rfl|⟨j,ac,rfl⟩⟩
  exact z y o;omega;omega;omega
 rw [Xr,ar,I,aL (by omega),a7,X,aa,ba (by decide),av,Y];cases r:g.tb (4*x+4+i) with
 |none=>
  rw [show (tW none !=0)=false from rfl,cond_false];unfold vD;rw [cond_false,aM (by omega)];rw [←q,rf,adt h (by omega) r,eF] at C;exact C
 |some b=>
  have Z:=h.lt _ b (by omega) r;rw [show tW (some b)=(b:Int)+1 from rfl,show ((b:Int)+1 !=0)=true from by rw [bne_iff_ne];omega,av,a6 (x:=(b:Int)+1-1) (by omega) (by omega),show (b:Int)+1-1=b by omega,a6 (x:=1+1) (by decide) (by decide),
   show (1+1:Int)=2 from rfl,alP h (by omega) r J W D,aa]
  unfold vD;dsimp only;rw [Bool.not_true,cond_false,aM (by omega),q];exact C
theorem ah0 {l:List Int} (h:∃x∈l,x≠0) (g:l.length≤1000) (f:5000≤N):HP N l=some ((true,()),()):=by
 have key:∃j:Nat,H9 N l=some (((j:Int),()),()):=by
  rw [ZI];refine b0 (n:=l.length) (Q:=fun m i=>(∃x∈l.drop i,x≠0)→∃j:Nat,B4 (Hb N) N m l (i:Int)=some (((j:Int),()),())) (fun m b=>?_) (fun m i hi d b=>?_) 0 N (bM _) (by omega) h;simp at b;rw [alr,ar,aL (by omega),a7,aT hi,aa,Y0,aa];by_cases e:l[i]=0;rw [show (l[i] !=0)=false from by rw [e];rfl,cond_false,aM (by omega)];refine d ?_;obtain ⟨x,c,o⟩:=b;rw [kc hi,cy] at c
  grind
  rw [show (l[i] !=0)=true from by simpa using e,av,ajh];exact ⟨i,rfl⟩
 obtain ⟨j,b⟩:=key;rw [YZ,b,aa,ba (by dsimp only;omega)]
def kk:List Nat:=(List.range 4).flatMap e5
theorem xU:kk.Nodup:=by decide
theorem ml (x:Nat):x∈kk↔x<84:=by
 have b:(kk.all fun x=>decide (x<84))=true:=by decide
 have c:((List.range 84).all fun x=>decide (x∈kk))=true:=by decide
 grind
theorem alQ {m:M} {g:G} (h:ap m g 84) (C:5000≤N):wI (BG N) N N m.d (cI g.tb kk) 0=some ((true,()),()):=by
 have K:=ee.of h;have an:=uR g.tb kk;have al:kk.length=84:=by decide
 have J:∀x∈cI g.tb kk,∃y f,y<84∧g.tb y=some f∧x=(f:Int):=by
  intro x j;unfold cI at j;obtain ⟨y,l,rfl⟩:=b9.1 j;obtain ⟨ae,ag⟩:=dB.1 l;obtain ⟨f,c⟩:=ou.1 ag;exact ⟨y,f,(ml y).1 ae,c,by rw [c];rfl⟩
 refine kw (fun k i=>wI (BG N) N k m.d (cI g.tb kk) i) _ 0 (cI g.tb kk).length (fun k i _ hi=>?_) (fun k=>?_) (bM _) (by omega);have j:=aT hi;obtain ⟨y,f,l,c,e⟩:=J _ (cY hi);have n:=K.lt y f l c;obtain ⟨ad,_⟩:=gb n;have am:=(h.mm.row n).1;rw [Xk,ar,aL (by omega),bf hi,bi,j,aa,e,a7,show m.d.1[f]?=some (row m.mem f) from ad,aa,ah0 ?_ (by omega) C,aa];dsimp only;rw [Bool.not_true,cond_false,aM (by omega)];obtain ⟨ah,ai⟩:=h.nz y l (by omega) (by rw [c];simp);by_cases O:y<20;obtain ⟨k,hk,v⟩:=ah O;refine ⟨bX m.mem f k,cS (h.mm.bX n hk).1,?_⟩;rw [h.rp.cZ y O k hk f c];cases u:g.tb (4*y+4+k) with
 |none=>exact absurd u v
 |some q=>show (q:Int)+1≠0;omega
 obtain ⟨k,hk,v⟩:=ai (by omega);refine ⟨bX m.mem f k,cS (h.mm.bX n hk).1,?_⟩;rw [h.rp.leaf (y-20) (by omega) k hk f (by simp_all)];cases u:g.en (4*(y-20)+k) with
 |no=>exact absurd u v
 |pg aj w r=>simp only [E.w];omega
 |sl i=>simp only [E.w];omega
 have ak:=h.fS;rw [Xk,ar,aE (by omega),akr,show ln m.d.2.2.2.2.2.2.1=4 from by rw [ar];show (m.af.length:Int)=4;rw [h.sp.len];rfl];rw [show ((4:Int)==4)=true from rfl,av,yz (by omega) (by omega) ?_ ?_ C,aa];unfold cI List.Nodup;rw [iC];refine (xU.filter _).imp_of_mem fun {a b} U Z Y e=>?_
 obtain ⟨W,X⟩:=dB.1 U;obtain ⟨ab,ac⟩:=dB.1 Z;obtain ⟨o,D⟩:=ou.1 X;obtain ⟨z,I⟩:=ou.1 ac;rw [D,I] at e;obtain rfl:o=z:=by have e:(o:Int)=z:=e;omega
 exact Y (K.inj a b o ((ml a).1 W) ((ml b).1 ab) D I);intro x;constructor;intro j;obtain ⟨y,f,l,c,rfl⟩:=J x j;exact (fo (by decide) f).2 ((h.tx.fN f).2 ⟨y,l,c⟩);intro j;obtain ⟨f,rfl⟩:=pd j;obtain ⟨y,l,c⟩:=(h.tx.fN f).1 ((fo (by decide) f).1 j);unfold cI;exact b9.2 ⟨y,dB.2 ⟨(ml y).2 l,by rw [c];rfl⟩,by rw [c];rfl⟩
theorem ahy {m:M} {g:G} (h:ap m g 84) (c:5000≤N):IM N m.d=some ((true,()),()):=by
 have q:=ee.of h;have v:=h.sp.len;have l:ln m.d.2.2.2.2.2.2.1=4:=by rw [ar];simp_all
 rw [aaQ];refine b0 (n:=4) (Q:=fun k s=>Cn (BF N) N k m.d (cI g.tb ((List.range s).flatMap e5)) (s:Int)=some ((true,()),())) (fun k=>?_) (fun k s b e=>?_) 0 N (bM _) (by omega);rw [Xj,l,aE (by decide),akq];exact alQ h c;have I:m.d.2.2.2.2.2.2.1[s]?=some (ay m.af s):=eT (sp:=m.af) (by rw [v];exact b);have D:=h.rp.fB s b;have C:hN (ay m.af s).2.2.1:=h.sp.hY s b;have r:se (BF N) N k m.d (cI g.tb ((List.range s).flatMap e5)) (s:Int) (ay m.af s) false=some ((true,()),()):=by
  unfold se;rw [cond_false,D];cases o:g.tb s with
  |none=>
   rw [show (tI none != -1)=false from rfl,cond_false];unfold vB;rw [cond_false,aM (by omega)];rw [lA,rf,Tg q b o,eF] at e;exact e
  |some f=>
   have z:((List.range s).flatMap e5++e5 s).Nodup:=by
    rw [←lA];exact xU.sublist (tX e5 (by omega))
   have x:∀y∈(List.range s).flatMap e5,y<84:=fun y J=>(ml y).1 ((tX e5 (show s≤4 by omega)).subset J)
   rw [show (tI (some f) != -1)=true from by rw [bne_iff_ne];show (f:Int)≠ -1;omega,av,show tI (some f)=(f:Int) from rfl,XZ q b o x z c,aa];dsimp only;rw [Bool.not_true,cond_false,agt h b c,aa];unfold vB;dsimp only;rw [Bool.not_true,cond_false,aM (by omega),←lA];exact e
 rw [Xj,l,aL (by omega),a7,I,aa,UO C c,aa];dsimp only;rw [Bool.not_true,cond_false];cases u:(ay m.af s).1 with
 |true=>simp_all
 |false=>
  obtain ⟨K,j⟩:=h.sp.hv s b u;have j:(ay m.af s).2.2.1=[]:=j;rw [ed,av,K,show ((-1:Int) != -1)=false from rfl,cond_false,j,ar,bm (by simp),r]
theorem LK {m:M} {g:G} (h:cz m g) {s p:Nat} (o:s<4) (l:p<64) (f:5000≤N):xh N m.d (s:Int) (p:Int)=some (((g.en (64*s+p)).t,()),()):=by
 have e:=h.toee;rw [aaT,UP e o l f,aa];cases b:g.tb (20+(64*s+p)/4) with
 |none=>
  have:=h.rp.hS ((64*s+p)/4) (by omega) b (p%4) (by omega);rw [show 4*((64*s+p)/4)+p%4=64*s+p by omega] at this;rw [this,tg];rfl
 |some q=>
  have n:=e.lt _ q (by omega) b;have j:=h.ok (64*s+p) (by omega);have c:=h.rp.leaf ((64*s+p)/4) (by omega) (p%4) (by omega) q b;rw [show 4*((64*s+p)/4)+p%4=64*s+p by omega] at c;dsimp only [tQ];rw [Bool.not_true,cond_false,jl (by omega),show ((p:Int)%4)=((p%4:Nat):Int) by omega,E4 h.mm n (by omega),aa,c];dsimp only;rw [UQ j,aa,Bool.not_true,cond_false,cond_false]
theorem agv (a b:List Int) (g:a.length≤1000) (h:b.length≤1000) (f:5000≤N):CL N [a,b]=some ((a++b,()),()):=by
 obtain ⟨K,rfl⟩:∃k,N=k+1+1+1:=⟨N-3,by omega⟩
 have c:ln [a,b]=2:=rfl;have d:∀{ρ:Type} {k:List Int→Option ρ},gi [a,b] 0 k=k a:=fun {ρ k}=>rfl
 have e:∀{ρ:Type} {k:List Int→Option ρ},gi [a,b] 1 k=k b:=fun {ρ k}=>rfl
 rw [Y2,MH,c,ba (by decide),av,d,ar,a6 (x:=0+(a.length:Int)) (by omega) (by omega),aE (by omega),a6 (x:=0+1) (by decide) (by decide),
  MH,c,ba (by decide),av,show (0+1:Int)=1 from rfl,e,ar,a6 (x:=0+(a.length:Int)+(b.length:Int)) (by omega) (by omega),aE (by omega),a6 (x:=1+1) (by decide) (by decide),
  MH,c,aE (by decide),aiJ]
 unfold Ew;rw [ba (show (0:Int)≤0+(a.length:Int)+(b.length:Int) by omega),ba (show 0+(a.length:Int)+(b.length:Int)≤4294967296 by omega)];dsimp only [Bool.and_self];rw [MI,c,ba (by decide),av,d,cd (by simp;omega),dJ,a6 (x:=0+1) (by decide) (by decide),
  MI,c,ba (by decide),av,show (0+1:Int)=1 from rfl,e,cd (by omega),a6 (x:=1+1) (by decide) (by decide),
  MI,c,aE (by decide),aiK]
 rfl
theorem agR {x:dL} {en:Nat→E} {i:Nat} (f:kg en) (g:x.1=(cJ en i:Int)) (b:x.1=0→x.2.1=[]) (d:x.1≠0→x.2.1.length=4∧∀v∈x.2.1,0≤v∧v≤100000) (e:5000≤N):Ia N x=some ((true,()),()):=by
 rw [ZJ];by_cases c:x.1=0;rw [show (x.1==0)=true from by simpa using c,av,b c];rfl;have:=Ko f i;rw [show (x.1==0)=false from by simpa using c,cond_false,fZ,aa,ba (by omega)];dsimp only;rw [av,UY (d c) e,aa]
theorem agu {sl:List dL} {en:Nat→E} (h:jN sl en) (e:kg en) (d:5000≤N):HQ N sl=some ((true,()),()):=by
 have f:=h.len;rw [Y1];refine kw (fun m i=>BO (GY N) N m sl i) _ 0 sl.length (fun m i _ hi=>?_) (fun m=>?_) (bM _) (by omega);have c:=aT hi;have b:=cY hi;rw [V4,ar,aL (by omega),a7,c,aa,agR e (h.cJ i _ c) (h.zero _ b) (h.held _ b) d,aa];dsimp only;rw [Bool.not_true,cond_false,aM (by omega)];rw [V4,ar,aE (by omega),aiI,ar,ba (by omega)]
abbrev KI:Ty:=.int .i64
abbrev gR:=List (Int×Int×Unit)
def gI (k:Int) (xs:gR):Int:=c0 KI k xs
def pI (k v:Int) (xs:gR):gR:=dC KI k v xs
theorem Vk (k v:Int):pI k v []=[(k,v,())]:=rfl
theorem x2 (k:Int) (e:Int×Int×Unit) (xs:gR):gI k (e::xs)=if k=e.1 then e.2.1 else gI k xs:=by
 show (if (k==e.1)=true then e.2.1 else gI k xs)=_;simp_all
theorem Vj (k v:Int) (e:Int×Int×Unit) (xs:gR):pI k v (e::xs)=if k=e.1 then (k,v,())::xs else e::pI k v xs:=by
 show (if (k==e.1)=true then ((k,v,())::xs:gR) else e::pI k v xs)=_;simp_all
structure hr (xs:gR) (c:Int→Nat):Prop where
 nd:(xs.map (·.1)).Nodup
 val:∀k:Int,gI k xs=(c k:Int)
 key:∀k,k∈xs.map (·.1)↔0<c k
theorem hr.nil:hr [] fun _=>0:=⟨h3,fun _=>rfl,fun k=>by simp⟩
theorem Tu (k v:Int):∀(xs:gR) (j:Int),gI j (pI k v xs)=if j=k then v else gI j xs
 |[],j=>by rw [Vk,x2]
 |e::xs,j=>by
  rw [Vj];by_cases c:k=e.1;rw [ak c,x2,x2];simp_all;rw [aj c,x2,x2,Tu k v xs j];omega
theorem KY (k v:Int):∀xs:gR,(pI k v xs).map (·.1)=if k∈xs.map (·.1) then xs.map (·.1) else xs.map (·.1)++[k]
 |[]=>by rw [Vk];simp
 |e::xs=>by
  rw [Vj];by_cases c:k=e.1;simp_all;rw [aj c,dh,KY k v xs]
  grind
theorem hr.up {xs:gR} {c c':Int→Nat} (h:hr xs c) {k:Int} (hk:c k<100000) (f:∀j,c' j=if j=k then c j+1 else c j):hr (pI k (wi (gI k xs+1)) xs) c':=by
 have e:wi (gI k xs+1)=((c k+1:Nat):Int):=by rw [h.val,a6 (by omega) (by omega)];rfl
 refine ⟨?_,fun j=>?_,fun j=>?_⟩;rw [KY];by_cases d:k∈xs.map (·.1);rw [ak d];exact h.nd;rw [aj d];exact cn.2 ⟨h.nd,by simp,fun a g b l e=>d (by simp_all)⟩;rw [Tu,e,f];by_cases d:j=k;simp_all;rw [aj d,aj d];exact h.val j;rw [KY,f];by_cases d:k∈xs.map (·.1);rw [ak d,h.key];by_cases e:j=k;subst e;rw [ak rfl];have:=(h.key j).1 d;omega;rw [aj e];rw [aj d,aZ,h.key]
 grind
def EC (e:E) (k:Int):Bool:=match e with
 | .sl i=>(i:Int)==k
 |_=>false
def il (e:E) (k:Int):Bool:=match e with
 | .pg f _ _=>(f:Int)==k
 |_=>false
def uf (e:E) (k:Int):Bool:=match e with
 | .pg f true _=>(f:Int)==k
 |_=>false
def cB (en:Nat→E) (q:E→Int→Bool) (b:Nat) (k:Int):Nat:=((List.range b).filter fun y=>q (en y) k).length
theorem SR (en:Nat→E) (q:E→Int→Bool) (b:Nat) (k:Int):cB en q (b+1) k=if q (en b) k then cB en q b k+1 else cB en q b k:=by
 unfold cB;rw [gD,hG,cw]
 grind
theorem acU (en:Nat→E) (q:E→Int→Bool) (b:Nat) (k:Int):cB en q b k≤b:=Nat.le_trans (gA _ _) (by simp)
theorem hr.skip {en:Nat→E} {q:E→Int→Bool} {b:Nat} {xs:gR} (h:hr xs (cB en q b)) (c:∀k,q (en b) k=false):hr xs (cB en q (b+1)):=by
 have:cB en q (b+1)=cB en q b:=funext fun k=>by rw [SR,c k];rfl
 rw [this];exact h
theorem hr.step {en:Nat→E} {q:E→Int→Bool} {b:Nat} {xs:gR} (h:hr xs (cB en q b)) (e:b<1000) {c:Int} (d:∀k,q (en b) k=(c==k)):hr (pI c (wi (gI c xs+1)) xs) (cB en q (b+1)):=
 h.up (by have:=acU en q b c;omega) fun j=>by
  rw [SR,d]
  grind
structure hK (en:Nat→E) (b:Nat) (xs c zs:gR):Prop where
 sl:hr xs (cB en EC b)
 fr:hr c (cB en il b)
 wr:hr zs (cB en uf b)
theorem hK.no {en:Nat→E} {b:Nat} {xs d zs:gR} (h:hK en b xs d zs) (c:en b=.no):hK en (b+1) xs d zs:=
 ⟨h.sl.skip fun k=>by rw [c];rfl,h.fr.skip fun k=>by rw [c];rfl,h.wr.skip fun k=>by rw [c];rfl⟩
theorem hK.UD {en:Nat→E} {b:Nat} {xs d zs:gR} (h:hK en b xs d zs):∀n,(∀p,p<n→en (b+p)=.no)→hK en (b+n) xs d zs
 |0,_=>h
 |n+1,c=>(hK.UD h n fun p e=>c p (by omega)).no (c n (by omega))
theorem Td {m:M} {g:G} {z:Nat} (h:ap m g z) {s:Nat} (c:s<4) (l:(ay m.af s).1=false):∀p,p<64→g.en (64*s+p)=.no:=by
 intro p o;have b:=(h.sp.hv s c l).1;rw [h.rp.fB s c] at b;have d:g.tb s=none:=by
  cases j:g.tb s with
  |none=>rfl
  |some f=>rw [j] at b;have b:(f:Int)= -1:=b;omega
 have e:=h.rp.c1 s (by omega) d (p/16) (by omega);have n:=h.rp.c1 (4*s+4+p/16) (by omega) e (p/4%4) (by omega);have h4:=h.rp.hS ((64*s+p)/4) (by omega) (by grind) (p%4) (by omega)
 grind
theorem ans {m:M} {g:G} {z:Nat} (h:ap m g z) {s:Nat} (ad:s<4) {k:KT bA} (Z:5000≤N):∀p v,p≤64→64-p<v→∀xs j zs:gR,hK g.en (64*s+p) xs j zs→
 ∃l o q,hK g.en (64*s+64) l o q∧wL k N v m.d (s:Int) xs j zs (p:Int)=xx k m.d (s:Int) l o q:=by
 have ab:cz m g:=⟨ee.of h,fun y ae=>h.mo ae⟩;refine b0 (n:=64) (Q:=fun v p=>∀xs j zs:gR,hK g.en (64*s+p) xs j zs→∃l o q,hK g.en (64*s+64) l o q∧wL k N v m.d (s:Int) xs j zs (p:Int)=xx k m.d (s:Int) l o q) (fun v xs j zs u=>?_) (fun v p ac af xs j zs u=>?_);exact ⟨xs,j,zs,u,by rw [Xo,aE (by decide)]⟩;have Y:∀{l o q:gR},hK g.en (64*s+p+1) l o q→∃J K O,hK g.en (64*s+64) J K O∧p4 k N v m.d (s:Int) (p:Int) l o q=xx k m.d (s:Int) J K O:=by
  intro l o q U;obtain ⟨a,b,c,D,I⟩:=af l o q U;exact ⟨a,b,c,D,by unfold p4;rw [aM (by omega)];exact I⟩
 have C:64*s+p<1000:=by omega
 have ag:∀e:E,g.en (64*s+p)=e→∃l o q,hK g.en (64*s+p+1) l o q∧(cond (!decide (e=.no)) (yE N e.t xs j zs fun ah ai aj=>(p4 k N v m.d (s:Int) (p:Int) ah ai aj)) (p4 k N v m.d (s:Int) (p:Int) xs j zs))=p4 k N v m.d (s:Int) (p:Int) l o q:=by
  intro e x;cases e with
  |no=>exact ⟨xs,j,zs,u.no x,by simp_all⟩
  |sl i=>
   refine ⟨pI i (wi (gI i xs+1)) xs,j,zs,⟨u.sl.step C fun k=>by rw [x];rfl,u.fr.skip fun k=>by rw [x];rfl,u.wr.skip fun k=>by rw [x];rfl⟩,?_⟩;rw [bm (by simp),ed,av,g9];unfold yE;dsimp only;rw [aL (by omega)];rfl
  |pg f w r=>
   cases w with
   |true=>
    refine ⟨xs,pI f (wi (gI f j+1)) j,pI f (wi (gI f zs+1)) zs,⟨u.sl.skip fun k=>by rw [x];rfl,u.fr.step C fun k=>by rw [x];rfl,u.wr.step C fun k=>by rw [x];rfl⟩,?_⟩;rw [bm (by simp),ed,av,eY];unfold yE;dsimp only;rw [aE (by decide),av];rfl
   |false=>
    refine ⟨xs,pI f (wi (gI f j+1)) j,zs,⟨u.sl.skip fun k=>by rw [x];rfl,u.fr.step C fun k=>by rw [x];rfl,u.wr.skip fun k=>by rw [x];rfl⟩,?_⟩;rw [bm (by simp),ed,av,eY];unfold yE;dsimp only;rw [aE (by decide),cond_false];rfl
 obtain ⟨l,o,q,W,X⟩:=ag _ rfl;obtain ⟨a,b,c,D,I⟩:=Y W;refine ⟨a,b,c,D,?_⟩;rw [Xo,aL (by omega),LK ab ad ac Z,aa,tg,aa,←I,←X];exact dx (fun b=>cond (!b) _ _) (Kv (g.en (64*s+p)))
theorem ant {m:M} {g:G} {z:Nat} (h:ap m g z) {k:KT bA} (D:5000≤N):∀s f,s≤4→4-s<f→∀xs e zs:gR,hK g.en (64*s) xs e zs→
 ∃j l o,hK g.en 256 j l o∧wK k N f m.d xs e zs (s:Int)=DL k m.d j l o:=by
 have v:ln m.d.2.2.2.2.2.2.1=4:=by rw [ar];show (m.af.length:Int)=4;rw [h.sp.len];rfl
 refine b0 (n:=4) (Q:=fun f s=>∀xs e zs:gR,hK g.en (64*s) xs e zs→∃j l o,hK g.en 256 j l o∧wK k N f m.d xs e zs (s:Int)=DL k m.d j l o) (fun f xs e zs q=>?_) (fun f s r x xs e zs q=>?_);exact ⟨xs,e,zs,q,by rw [Xn,v,aE (by decide)]⟩;have J:m.d.2.2.2.2.2.2.1[s]?=some (ay m.af s):=eT (sp:=m.af) (by rw [h.sp.len];exact r);rw [Xn,v,aL (by omega),a7,J,aa];cases I:(ay m.af s).1 with
 |false=>
  have U:=q.UD 64 (Td h r I);obtain ⟨a,b,c,y,u⟩:=x xs e zs (by omega);refine ⟨a,b,c,y,?_⟩;rw [ed,av];unfold A6;rw [aM (by omega)];exact u
 |true=>
  obtain ⟨a,b,c,y,u⟩:=ans (N:=N) h r (k:=Hq k N f) D 0 N (by omega) (by omega) xs e zs q;obtain ⟨a',C,c',K,O⟩:=x a b c (by omega);refine ⟨a',C,c',K,?_⟩;rw [Bool.not_true,cond_false];refine Eq.trans u ?_;rw [akv];unfold A6;rw [aM (by omega)];exact O
theorem aeR (e:E) (i:Nat):EC e (i:Int)=decide (e=.sl i):=by
 cases e with
 |sl j=>
  show ((j:Int)==(i:Int))=_
  grind
 |_=>simp [EC]
theorem Km (en:Nat→E) (i:Nat):cB en EC 256 (i:Int)=cJ en i:=by
 unfold cB cJ;congr 1;exact rD fun y _=>aeR _ _
theorem tL {en:Nat→E} {q:E→Int→Bool} {k:Int}:0<cB en q 256 k↔∃y,y<256∧q (en y) k=true:=by
 unfold cB;simp_all
theorem qQ {e:E} {k:Int}:il e k=true↔∃f w r,e=.pg f w r∧k=(f:Int):=by
 cases e with
 |pg f w r=>
  show ((f:Int)==k)=true↔_
  grind
 |_=>simp [il]
theorem aeS {e:E} {k:Int}:uf e k=true↔∃f r,e=.pg f true r∧k=(f:Int):=by
 cases e with
 |pg f w r=>
  cases w with
  |true=>
   show ((f:Int)==k)=true↔_
   grind
  |false=>simp [uf]
 |_=>simp [uf]
theorem aeg {en:Nat→E} (h:kg en) {k:Int} (q:0<cB en uf 256 k):cB en il 256 k≤1:=by
 obtain ⟨y,u,o⟩:=tL.1 q;obtain ⟨f,r,e,rfl⟩:=aeS.1 o;unfold cB;have:∀z∈(List.range 256).filter fun z=>il (en z) (f:Int),z=y:=by
  intro z d;rw [dB] at d;have v:z<256:=by simpa using d.1
  obtain ⟨n,w',C,j,D⟩:=qQ.1 d.2;obtain rfl:f=n:=by omega
  apply ho;intro c;have:=(h.pg y z f true r w' C u v e j).2 (fun x=>c x.symm);cases this
 have g:((List.range 256).filter fun z=>il (en z) (f:Int)).Nodup:=u5.filter _;generalize (List.range 256).filter (fun z=>il (en z) (f:Int))=l at this g
 match l,this,g with
 |[],_,_=>simp
 |[a],_,_=>simp
 |a::b::l,I,J=>
  simp_all
theorem hr.len {xs:gR} {c:Int→Nat} (h:hr xs c) {l:List Int} (b:l.Nodup) (d:∀k,k∈l↔0<c k):xs.length=l.length:=by
 have e:=(zf h.nd b).2 fun k=>(h.key k).trans (d k).symm
 simpa using e.length_eq
theorem ahz {m:M} {g:G} {z:Nat} (h:ap m g z) (D:5000≤N):IN N m.d=some ((true,()),()):=by
 have ai:=h.fS;have aq:=h.sl.len;obtain ⟨xs,q,zs,I,e⟩:=ant (N:=N) h (k:=Hp N) D 0 N (by omega) (by omega) [] [] [] ⟨hr.nil,hr.nil,hr.nil⟩;rw [aaR];refine Eq.trans e ?_;rw [aku,show m.d.2.2.2.2.2.2.2.1=m.aD from rfl,agu h.sl h.pg D,aa];dsimp only;rw [Bool.not_true,cond_false]
 let o:Nat→Nat:=fun i=>((List.range i).filter fun j=>decide (0<cJ g.en j)).length
 have ac:xs.length=o m.aD.length:=by
  rw [I.sl.len (l:=((List.range m.aD.length).filter fun j=>decide (0<cJ g.en j)).map fun j:Nat=>(j:Int)) ?_ ?_,c2];unfold List.Nodup;rw [iC];exact (u5.filter _).imp fun h=>by omega
  intro k;rw [b9];constructor;rintro ⟨j,Y,rfl⟩;rw [dB] at Y;rw [Km];simpa using Y.2;intro hk;obtain ⟨y,C,b⟩:=tL.1 hk;cases J:g.en y with
  |sl i=>
   rw [J] at b;have b:((i:Int)==k)=true:=b;have b:(i:Int)=k:=by simpa using b
   refine ⟨i,dB.2 ⟨by simpa using (h.eo.sl y C i J).1,?_⟩,b⟩;rw [←b,Km] at hk;simpa using hk
  |_=>rw [J] at b;cases b
 have ad:q.length=(cG m.st 5).length:=I.fr.len (x4 _ _) fun k=>by
  constructor;intro hk;obtain ⟨f,rfl⟩:=pd hk;obtain ⟨y,w,r,C,W⟩:=h.mp f ((fo (by decide) f).1 hk);exact tL.2 ⟨y,C,qQ.2 ⟨f,w,r,W,rfl⟩⟩;intro hk;obtain ⟨y,C,b⟩:=tL.1 hk;obtain ⟨f,w,r,W,rfl⟩:=qQ.1 b;exact (fo (by decide) f).2 (h.eo.pg y C f w r W).1
 refine b0 (n:=m.aD.length) (Q:=fun U i=>Co (Ho N) N U m.d xs q zs ((o i:Nat):Int) (i:Int)=some ((true,()),())) (fun U=>?_) (fun U i hi O=>?_) 0 N (bM _) (by omega);rw [Xl,show ln m.d.2.2.2.2.2.2.2.1=(m.aD.length:Int) from rfl,aE (by omega),aks,yx m 5 (by omega) D,aa];have an:=nI m.st 5;generalize ag:(((cG m.st 5,()),()):cT)=v;have Z:v.1.1=cG m.st 5:=by rw [←ag]
 refine kw (fun k i=>wJ (sG N) N k m.d v xs q zs ((o m.aD.length:Nat):Int) i) _ 0 (cG m.st 5).length (fun k i _ hi=>?_) (fun k=>?_) (bM _) (by omega);have u:=aT hi;obtain ⟨f,X⟩:=pd (cY hi);have af:=(fo (st:=m.st) (v:=5) (by decide) f).1 (by grind);obtain ⟨y,w,r,C,J⟩:=h.mp f af;have ao:0<cB g.en il 256 (f:Int):=tL.2 ⟨y,C,qQ.2 ⟨f,w,r,J,rfl⟩⟩;have al:sf (sG N) N k m.d xs q zs ((o m.aD.length:Nat):Int) v (i:Int) false=wJ (sG N) N k m.d v xs q zs ((o m.aD.length:Nat):Int) ((i+1:Nat):Int):=by
  unfold sf;rw [cond_false,aM (by omega)]
 rw [Xm,Z,ar,aL (by omega),bf hi,bi,u,aa,X];show cond (gI (f:Int) q==0) _ (cond (decide (gI (f:Int) zs>0)) (sf (sG N) N k m.d xs q zs ((o m.aD.length:Nat):Int) v (i:Int) (decide (gI (f:Int) q>1))) _)=_;rw [I.fr.val,I.wr.val,show (((cB g.en il 256 (f:Int):Nat):Int)==0)=false from by grind,cond_false];by_cases ah:0<cB g.en uf 256 (f:Int);have:=aeg h.pg ah
 grind
 simp_all;have ae:=mB h;rw [cw] at ae;rw [Xm,Z,ar,aE (by omega),akt,ar,ac,l0,av,yx m 5 (by omega) D,aa,ar,ad];dsimp only;rw [ar,l0,av];rw [show CL N [m.aK,m.bn]=_ from agv _ _ (by omega) (by omega) D,aa];dsimp only;rw [yz (by omega) (by simp;omega) h.ls.b7 (fun x=>?_) D,aa];rw [h.ls.mem];constructor;rintro ⟨f,rfl,X⟩;exact (fo (by decide) f).2 X;intro u;obtain ⟨f,rfl⟩:=pd u;exact ⟨f,rfl,(fo (by decide) f).1 u⟩;have u:m.aD[i]?=some m.aD[i]:=aT hi;have ab:=h.sl.cJ i _ u;have am:o i≤i:=Nat.le_trans (gA _ _) (by simp);have K:o (i+1)=if 0<cJ g.en i then o i+1 else o i:=by
  show ((List.range (i+1)).filter _).length=_;rw [gD,hG,cw]
  grind
 rw [Xl,show ln m.d.2.2.2.2.2.2.2.1=(m.aD.length:Int) from rfl,aL (by omega),a7,show m.d.2.2.2.2.2.2.2.1[i]?=some m.aD[i] from u,aa];show cond (gI (i:Int) xs !=m.aD[i].1) _ _=_;rw [I.sl.val,Km,ab,kf,cond_false];unfold GO;by_cases c:0<cJ g.en i;rw [ak c] at K;rw [K] at O;rw [aL (by omega),aM (by omega),aM (by omega)];exact O;rw [aj c] at K;rw [K] at O;rw [aE (by omega),aM (by omega)];exact O
theorem agw {m:M} {g:G} (h:ap m g 84) (b:5000≤N):HR N m.d=some ((true,()),()):=by
 rw [Y7,ahw h b,aa];dsimp only;rw [av,ahx h b,aa];dsimp only;rw [av,ahy h b,aa];dsimp only;rw [av,ahz h b,aa]
theorem UU {m:M} {g:G} {z:Nat} (h:ap m g z) {s p:Nat} (j:s<4) (f:p<64) (b:5000≤N):CP N m.d (s:Int) (p:Int)=some (((g.en (64*s+p)).t,()),()):=by
 have e:ln m.d.2.2.2.2.2.2.1=4:=by rw [ar];show (m.af.length:Int)=4;rw [h.sp.len];rfl
 have c:cz m g:=⟨ee.of h,fun y l=>h.mo l⟩;rw [Zo,e,a6 (by decide) (by decide),fZ,aa,ef (by omega) (by omega)];dsimp only;rw [Bool.not_true,cond_false,fZ,aa,ef (by omega) (by omega)];unfold Gs;dsimp only;rw [Bool.not_true,cond_false,LK c j f b,aa]
theorem agU {m:M} {g:G} {z:Nat} (h:ap m g z) (v:Int) (b:5000≤N):Ie N m.d v=some ((((cG m.st v).length:Int),()),()):=by
 have c:=h.fS;rw [ZP,yx m v (by omega) b,aa];rfl
theorem agF {m:M} {g:G} {z:Nat} (h:ap m g z) {s:Nat} (b:s<4) (q:5000≤N):HZ N m.d (s:Int)=some (((cI g.tb (e5 s)).mergeSort (fun x y=>decide (x≤y)),()),()):=by
 have n:=ee.of h;have u:ln m.d.2.2.2.2.2.2.1=4:=by rw [ar];show (m.af.length:Int)=4;rw [h.sp.len];rfl
 have v:m.d.2.2.2.2.2.2.1[s]?=some (ay m.af s):=eT (sp:=m.af) (by rw [h.sp.len];exact b);have e:([]++e5 s).Nodup:=by
  have o:(e5 s).Sublist kk:=by
   have:=tX e5 (show s+1≤4 by omega);rw [lA] at this;exact (List.sublist_append_right _ _).trans this
  exact xU.sublist o
 rw [Zv,u,a6 (by decide) (by decide),fZ,aa,ef (by omega) (by omega)];dsimp only;rw [Bool.not_true,cond_false];simp only [a7];rw [show m.af[s]?=some (ay m.af s) from v];simp only [aa];rw [h.rp.fB s b];cases j:g.tb s with
 |none=>
  rw [show (tI none== -1)=true from rfl,av,Tg n b j,List.mergeSort_nil]
 |some f=>
  have C:=uR g.tb (e5 s);have r:=yn e (by
   intro y c;rw [dJ] at c;exact (ml y).1 (by
    have:=tX e5 (show s+1≤4 by omega);rw [lA] at this;exact ((List.sublist_append_right _ _).trans this).subset c))
  rw [dJ] at r;have t3:=XZ (N:=N) n b j (l:=[]) (fun y c=>by cases c) e q;rw [dJ] at t3;rw [show (tI (some f)== -1)=false from by rw [h7];show (f:Int)≠ -1;omega,cond_false,show tI (some f)=(f:Int) from rfl,show xi N m.d (f:Int) 1 ([]:List Int)=_ from t3,aa];dsimp only;rw [Bool.not_true,cond_false];unfold xj uO;rw [show Nat.ble (cI g.tb (e5 s)).length bu=true from u6 (by unfold bu;omega)];rfl
def ei (en:Nat→E) (f:Int) (b:Nat):bh:=((List.range b).filter fun y=>il (en y) f).map fun y:Nat=>[((y/64:Nat):Int),((y%64:Nat):Int)]
theorem Lt (en:Nat→E) (f:Int) (b:Nat):ei en f (b+1)=if il (en b) f then ei en f b++[[((b/64:Nat):Int),((b%64:Nat):Int)]] else ei en f b:=by
 unfold ei;rw [gD,hG,e2]
 grind
theorem EU (en:Nat→E) (f:Int) (b:Nat):(ei en f b).length≤b:=by
 unfold ei
 grind
theorem Ut {en:Nat→E} {f:Int} {b:Nat}:∀n,(∀p,p<n→en (b+p)=.no)→ei en f (b+n)=ei en f b
 |0,_=>rfl
 |n+1,h=>by
  rw [show b+(n+1)=b+n+1 from rfl,Lt,h n (by omega),Ut n fun p c=>h p (by omega)];rfl
theorem afE {m:M} {g:G} {z:Nat} (h:ap m g z) {s:Nat} (D:s<4) {f:Int} {k:KT fG} (q:5000≤N):∀p c,p≤64→64-p<c→
 v7 k N c m.d f (s:Int) (ei g.en f (64*s+p)) (p:Int)=tu k m.d f (s:Int) (ei g.en f (64*s+64)):=by
 have v:cz m g:=⟨ee.of h,fun y I=>h.mo I⟩;refine b0 (n:=64) (Q:=fun c p=>v7 k N c m.d f (s:Int) (ei g.en f (64*s+p)) (p:Int)=tu k m.d f (s:Int) (ei g.en f (64*s+64))) (fun c=>?_) (fun c p C J=>?_);rw [We,aE (by decide)];have O:=EU g.en f (64*s+p);have j:r4 k N c m.d f (s:Int) (p:Int) (ei g.en f (64*s+p+1))=tu k m.d f (s:Int) (ei g.en f (64*s+64)):=by
  unfold r4;rw [aM (by omega)];exact J
 have K:∀e:E,g.en (64*s+p)=e→(cond (!decide (e=.no)) (Fl N (s:Int) (p:Int) e.t f (ei g.en f (64*s+p)) fun w=>(r4 k N c m.d f (s:Int) (p:Int) w)) (r4 k N c m.d f (s:Int) (p:Int) (ei g.en f (64*s+p))))=tu k m.d f (s:Int) (ei g.en f (64*s+64)):=by
  intro e x;rw [Lt,x] at j;cases e with
  |no=>rw [ba rfl];exact j
  |sl i=>
   rw [bm (by simp),ed,av,g9];unfold Fl;dsimp only;rw [show ((i:Int)== -1)=false from by simp_all,cond_false];exact j
  |pg l w r=>
   rw [bm (by simp),ed,av,eY];unfold Fl;dsimp only;rw [show ((-1:Int)== -1)=true from rfl,av];unfold Gq;have o:il (.pg l w r) f=((l:Int)==f):=rfl;rw [o] at j;cases u:((l:Int)==f) with
   |false=>simp_all
   |true=>
    rw [u,ak rfl,show (64*s+p)/64=s by omega,show (64*s+p)%64=p by omega] at j;rw [av,cd (by simp;omega)];exact j
 rw [We,aL (by omega),LK v D C q,aa,tg,aa,←K _ rfl];exact dx (fun b=>cond (!b) _ _) (Kv (g.en (64*s+p)))
theorem agy {m:M} {g:G} {z:Nat} (h:ap m g z) (f:Int) (l:5000≤N):HS N m.d f=some ((ei g.en f 256,()),()):=by
 have j:ln m.d.2.2.2.2.2.2.1=4:=by rw [ar];show (m.af.length:Int)=4;rw [h.sp.len];rfl
 rw [Zg];refine b0 (n:=4) (Q:=fun c s=>BX (G2 N) N c m.d f (ei g.en f (64*s)) (s:Int)=some ((ei g.en f 256,()),())) (fun c=>?_) (fun c s e b=>?_) 0 N (bM _) (by omega);rw [Wd,j,aE (by decide),aiV];have q:m.d.2.2.2.2.2.2.1[s]?=some (ay m.af s):=eT (sp:=m.af) (by rw [h.sp.len];exact e);rw [show 64*(s+1)=64*s+64 by omega] at b;rw [Wd,j,aL (by omega),a7,q,aa];cases o:(ay m.af s).1 with
 |false=>
  rw [Ut 64 (Td h e o)] at b;rw [ed,av];unfold AK;rw [aM (by omega)];exact b
 |true=>
  rw [Bool.not_true,cond_false];refine Eq.trans (afE h e l 0 N (by omega) (by omega)) ?_;rw [aiW];unfold AK;rw [aM (by omega)];exact b
theorem afS {en:Nat→E} {f:Int} {j:Nat} {x:LI} (h:(ei en f 256)[j]?=some x):∃y,y<256∧il (en y) f=true∧x=[((y/64:Nat):Int),((y%64:Nat):Int)]:=by
 obtain ⟨y,b,rfl⟩:=b9.1 (cS h)
 grind
theorem Uu {en:Nat→E} {f:Int}:0<(ei en f 256).length↔∃y,y<256∧il (en y) f=true:=by
 unfold ei;simp_all
def nN:E→Bool
 | .pg _ _ _=>true
 |_=>false
theorem afT {en:Nat→E} {n:Nat} (h:∀y,y<256→∀f w r,en y=.pg f w r→f<n) (b:Nat) (j:b≤256):((List.range n).map fun f:Nat=>(ei en (f:Int) b).length).sum=((List.range b).filter fun y=>nN (en y)).length:=by
 induction b with
 |zero=>
  have e:∀l:List Nat,(l.map fun _=>0).sum=0:=fun l=>by induction l<;>simp_all
  simp [ei,e]
 |succ b d=>
  have d:=d (by omega);rw [gD,hG,cw,←d];have key:∀k,k≤n→((List.range k).map fun f:Nat=>(ei en (f:Int) (b+1)).length).sum=((List.range k).map fun f:Nat=>(ei en (f:Int) b).length).sum+(match en b with
   | .pg f _ _=>if f<k then 1 else 0
   |_=>0):=by
   intro k
   induction k with
   |zero=>intro _;cases en b<;>simp
   |succ k g=>
    intro hk;simp only [gD,e2,oq,dh,gC,List.sum_cons,List.sum_nil,jK];rw [g (by omega),Lt];cases c:en b with
    |pg f w r=>
     rw [show il (.pg f w r) (k:Int)=((f:Int)==(k:Int)) from rfl]
     grind
    |_=>simp [il]
  rw [key n (cf _)];congr 1;cases c:en b with
  |pg f w r=>simp [nN,h b (by omega) f w r c,c]
  |_=>simp [nN,c]
theorem aee {m:M} {g:G} {z:Nat} (h:ap m g z) {y:bZ} {k:KT bA} {f:Nat} {n:Int} (r:5000≤N) (v:fG) (j:v.1.1=ei g.en (f:Int) 256) (v3:fF) (C:v3.1.1=m.d):
 wC k N N v v3 n (f:Int) 0=Jt k v v3 n (f:Int):=by
 have I:=EU g.en (f:Int) 256;refine kw (fun c i=>wC k N c v v3 n (f:Int) i) _ 0 (ei g.en (f:Int) 256).length (fun c i _ hi=>?_) (fun c=>?_) (bM _) (by omega);have l:=aT hi;obtain ⟨w,J,x,e⟩:=afS l;obtain ⟨o,a,b,u,D⟩:=qQ.1 x;rw [Xc,j,C,ar,aL (by omega)];simp only [bf hi,bi,l,aa];rw [e];have q:=UU (N:=N) h (s:=w/64) (p:=w%64) (by omega) (by omega) r;rw [show 64*(w/64)+w%64=w by omega,u,eY] at q;rw [show (ln [((w/64:Nat):Int),((w%64:Nat):Int)] !=2)=false from rfl,cond_false,iW (by simp)];dsimp only [List.getElem?_cons_zero];rw [aa,iX (by simp)];dsimp only [List.getElem?_cons_zero,List.getElem?_cons_succ];rw [aa,q,aa];dsimp only;rw [show ((o:Int) !=(f:Int))=false from by simp_all];unfold GK;rw [cond_false,aM (by omega)];rw [Xc,j,ar,aE (by omega)]
theorem aeh {m:M} {g:G} {z:Nat} (h:ap m g z) {k:KT bA} (v:5000≤N) (v3:fF) (e:v3.1.1=m.d):
 wB k N N v3 0 0=DF k v3 ((((List.range m.mem.length).map fun f:Nat=>(ei g.en (f:Int) 256).length).sum:Nat):Int):=by
 have U:=h.fS;have ab:=h.sn.len;have J:∀b,b≤m.mem.length→((List.range b).map fun f:Nat=>(ei g.en (f:Int) 256).length).sum≤256*b:=by
  intro b
  induction b with
  |zero=>intro _;simp
  |succ b c=>
   intro x;have:=c (by omega);have O:=EU g.en (b:Int) 256;rw [gD,e2,oq]
   grind
 refine b0 (n:=m.mem.length) (Q:=fun j f=>wB k N j v3 ((((List.range f).map fun f:Nat=>(ei g.en (f:Int) 256).length).sum:Nat):Int) (f:Int)=DF k v3 ((((List.range m.mem.length).map fun f:Nat=>(ei g.en (f:Int) 256).length).sum:Nat):Int)) (fun j=>?_) (fun j f W c=>?_) 0 N (bM _) (by omega);rw [Xb,e,show ln m.d.1=(m.mem.length:Int) from rfl,aE (by omega)];have Z:=J f (by omega);have X:=EU g.en (f:Int) 256;have I:m.st[f]?=some (aq m.st f):=by unfold aq;simp_all
 rw [gD,e2,oq] at c;simp only [dh,gC,List.sum_cons,List.sum_nil,jK] at c;rw [Xb,e,show ln m.d.1=(m.mem.length:Int) from rfl,aL (by omega),agy h (f:Int) v,aa,aee (y:=(0,0,0,0,0,())) h v _ rfl v3 e,akj,e];rw [show ∀{q:Nat→Option bA},ix m.d.2.1 (f:Int) q=q f from fun {q}=>bf (l:=m.st) (by omega) q,bi,show m.d.2.1[f]?=some (aq m.st f) from I,aa];have x:(decide (ln (ei g.en (f:Int) 256)>0)==(aq m.st f==5))=true:=by
  rw [ff,gO,gE,ff,ar];constructor;intro Y;obtain ⟨y,u,D⟩:=(Uu (en:=g.en) (f:=(f:Int))).1 (by omega);obtain ⟨C,w,r,o,K⟩:=qQ.1 D;obtain rfl:f=C:=by omega
  exact (h.eo.pg y u f w r o).1;intro h5;obtain ⟨y,w,r,u,o⟩:=h.mp f h5;have:=(Uu (en:=g.en) (f:=(f:Int))).2 ⟨y,u,qQ.2 ⟨f,w,r,o,rfl⟩⟩;omega
 dsimp only;rw [x,Bool.not_true,cond_false,ar,a6 (by omega) (by omega),aM (by omega)];rw [←c];congr 1
def pB (en:Nat→E) (b:Nat):Nat:=((List.range b).filter fun y=>nN (en y)).length
theorem ahK (en:Nat→E) (b:Nat):pB en (b+1)=if nN (en b) then pB en b+1 else pB en b:=by
 unfold pB;rw [gD,hG,cw]
 grind
theorem ahJ (en:Nat→E) (b:Nat):pB en b≤b:=Nat.le_trans (gA _ _) (by simp)
theorem adH (e:E):iS hO (show ib from e.t) (show ib from e.t)=true:=by
 obtain ⟨a,b,c,d,u⟩:=e.t;show (a==a&&(b==b&&(c==c&&(d==d&&true))))=true;simp
theorem alj {m:M} {g:G} {z:Nat} (h:ap m g z) {k:KT bA} {s:Nat} (q:s<4) {n:Int} {e:LI} (u:5000≤N) (v3:fF) (x:v3.1.1=m.d):
 wF k N N v3 n e (s:Int) ((pB g.en (64*s):Nat):Int) 0=DI k v3 n e (s:Int) ((pB g.en (64*s+64):Nat):Int):=by
 have v:cz m g:=⟨ee.of h,fun y C=>h.mo C⟩;refine b0 (n:=64) (Q:=fun j p=>wF k N j v3 n e (s:Int) ((pB g.en (64*s+p):Nat):Int) (p:Int)=DI k v3 n e (s:Int) ((pB g.en (64*s+64):Nat):Int)) (fun j=>?_) (fun j p l c=>?_) 0 N (bM _) (by omega);rw [Xf,aE (by decide)];have D:=ahJ g.en (64*s+p);rw [show 64*s+(p+1)=64*s+p+1 by omega,ahK] at c;rw [Xf,aL (by omega),x,UU h q l u,aa,kx v q l,aa];refine Eq.trans (dx (fun b=>cond (!b) _ _) (adH (g.en (64*s+p)))) ?_;rw [Bool.not_true,cond_false];unfold GM;cases o:g.en (64*s+p) with
 |pg f w r=>
  rw [o,ak (show nN (.pg f w r)=true from rfl)] at c;rw [eY,ba (by dsimp only;omega),av,aM (by omega),aM (by omega)];exact c
 |_=>
  rw [o,aj (by simp [nN])] at c;refine Eq.trans (dx (fun b=>cond b _ _) (show decide ((-1:Int)≥0)=false from rfl)) ?_;rw [cond_false,aM (by omega)];exact c
theorem agJ (l:LI) (a:Int) (f:l.length≤1000) (d:5000≤N):H4 N l a=some ((decide (a∈l),()),()):=by
 rw [ZF];refine b0 (n:=l.length) (Q:=fun b i=>B2 (Bo N) N b l a (i:Int)=some ((decide (a∈l.drop i),()),())) (fun b=>?_) (fun b i hi c=>?_) 0 N (bM _) (by omega);rw [Wq,ar,aE (by omega),ajf,List.drop_length];rfl;rw [Wq,ar,aL (by omega),a7,aT hi,aa,kc hi];by_cases e:l[i]=a;rw [show (l[i]==a)=true from by simpa using e,av,aje,ba (by rw [e];simp)];rw [show (l[i]==a)=false from by simpa using e,cond_false,aM (by omega),c]
 grind
theorem alZ {m:M} {g:G} {z:Nat} (h:ap m g z) {k:KT bA} {n j s:Int} {b ts:LI} (y:5000≤N) (v3:fF) (O:v3.1.1=m.d) (v:cT) (q:v.1.1=ts) (X:(b++ts).Nodup) (C:∀x∈ts,∃f:Nat,x=f∧aq m.st f=4) (I:(b++ts).length≤84):
 wE k N N v3 v n j s b 0=DH k v3 v n j s (b++ts):=by
 have ab:=h.sn.len;have W:=h.fS;rw [cw] at I;refine Eq.trans ?_ (b0 (n:=ts.length) (Q:=fun o i=>wE k N o v3 v n j s (b++ts.take i) (i:Int)=DH k v3 v n j s (b++ts)) (fun o=>?_) (fun o i hi U=>?_) 0 N (bM _) (by omega));simp_all;rw [Xe,q,ar,aE (by omega),fD];obtain ⟨f,e,h4⟩:=C _ (cY hi);have D:f<m.st.length:=Decidable.byContradiction fun c=>by
  unfold aq at h4;simp_all
 have K:m.d.2.1[f]?=some 4:=by
  rw [←h4];unfold aq;simp_all
 have u:b++ts.take i++[(f:Int)]=b++ts.take (i+1):=by
  rw [iD,aT hi,e,c6];rfl
 have J:¬(f:Int)∈b++ts.take i:=by
  have Z:(b++ts.take i++[(f:Int)]).Nodup:=by
   grind
  grind
 have r:ts[i]?=some (f:Int):=by simp_all
 have Y:(b++ts.take i).length≤84:=by grind
 rw [Xe,q,ar,aL (by omega)];simp only [bf hi,bi,r,aa];rw [agJ _ _ (by omega) y,aa,bm J];dsimp only;rw [cond_false,O,bf (l:=m.d.2.1) D,K,aa];unfold GL;rw [show ((4:Int) !=4)=false from rfl,cond_false,q,bf hi,bi,r,aa,cd (by grind),u,aM (by omega)];exact U
theorem X6 {m:M} {g:G} (C:ee m g) {l:List Nat} (z:l.Nodup) (j:∀y∈l,y<84):(cI g.tb l).Nodup:=by
 unfold cI List.Nodup;rw [iC];refine (z.filter _).imp_of_mem fun {a b} n u r e=>?_
 obtain ⟨o,q⟩:=dB.1 n;obtain ⟨v,x⟩:=dB.1 u;obtain ⟨c,f⟩:=ou.1 q;obtain ⟨d,h⟩:=ou.1 x;rw [f,h] at e;obtain rfl:c=d:=by have e:(c:Int)=d:=e;omega
 exact r (C.inj a b c (j a o) (j b v) f h)
def h0 (g:G) (s:Nat):LI:=(List.range s).flatMap fun s=>(cI g.tb (e5 s)).mergeSort (fun x y=>decide (x≤y))
theorem X5 (g:G) (s:Nat):(h0 g s).Perm (cI g.tb ((List.range s).flatMap e5)):=by
 induction s with
 |zero=>exact List.Perm.refl _
 |succ s b=>
  unfold h0;rw [lA,lA,rf];exact List.Perm.append b (List.mergeSort_perm _ _)
theorem al0 {m:M} {g:G} (h:ap m g 84) {k:KT bA} (c:5000≤N) (v3:fF) (l:v3.1.1=m.d) (n:Int):
 wD k N N v3 n [] 0 0=DG k v3 n ((pB g.en 256:Nat):Int) (h0 g 4):=by
 have D:=ee.of h;refine b0 (n:=4) (Q:=fun b s=>wD k N b v3 n (h0 g s) ((pB g.en (64*s):Nat):Int) (s:Int)=DG k v3 n ((pB g.en 256:Nat):Int) (h0 g 4)) (fun b=>?_) (fun b s z J=>?_) 0 N (bM _) (by omega);rw [Xd,aE (by decide)];have C:((List.range (s+1)).flatMap e5).Sublist kk:=tX e5 (by omega);have j:∀y∈(List.range (s+1)).flatMap e5,y<84:=fun y q=>(ml y).1 (C.subset q)
 have u:((List.range (s+1)).flatMap e5).Nodup:=xU.sublist C;have e:h0 g s++(cI g.tb (e5 s)).mergeSort (fun x y=>decide (x≤y))=h0 g (s+1):=by
  unfold h0;rw [lA]
 have v:=X5 g (s+1);have U:=v.length_eq;have K:=uR g.tb ((List.range (s+1)).flatMap e5);have O:=yn u j;rw [Xd,aL (by omega),l,agF h z c,aa,alZ h c v3 l _ rfl (by rw [e];exact v.nodup_iff.2 (X6 D u j)) ?_ (by rw [e];omega),akl,e,alj h z c v3 l,akm,aM (by omega)];exact J;intro x o;rw [List.mem_mergeSort] at o;unfold cI at o;obtain ⟨y,q,rfl⟩:=b9.1 o;obtain ⟨W,I⟩:=dB.1 q;obtain ⟨f,r⟩:=ou.1 I;refine ⟨f,by rw [r];rfl,(h.tx.fN f).2 ⟨y,j y ?_,r⟩⟩
 grind
theorem al1 {m:M} {g:G} (h:ap m g 84):(h0 g 4).length=(cG m.st 4).length:=by
 have j:=ee.of h;have e:(h0 g 4).Perm (cI g.tb kk):=X5 g 4;rw [e.length_eq];apply List.Perm.length_eq;rw [zf (X6 j xU fun y c=>(ml y).1 c) (x4 m.st 4)];intro x;constructor;intro d;obtain ⟨y,c,rfl⟩:=b9.1 d;obtain ⟨l,n⟩:=dB.1 c;obtain ⟨f,b⟩:=ou.1 n;rw [b];exact (fo (by decide) f).2 ((h.tx.fN f).2 ⟨y,(ml y).1 l,b⟩);intro d;obtain ⟨f,rfl⟩:=pd d;obtain ⟨y,c,b⟩:=(h.tx.fN f).1 ((fo (by decide) f).1 d);exact b9.2 ⟨y,dB.2 ⟨(ml y).2 c,by rw [b];rfl⟩,by rw [b];rfl⟩
theorem p3 (a:LI) (b:5000≤N):P3 N a=some ((true,()),()):=by
 rw [aaO,abn,aa];dsimp only;by_cases d:ln a>1048576;simp_all;rw [bm d,cond_false];rw [ar] at d;obtain ⟨m,g,y,hi,e⟩:=E2 (N:=N) (a:=a) (by omega) b;rw [e,aa];dsimp only;rw [agw hi b,aa];dsimp only;have j:∀y,y<256→∀f w r,g.en y=.pg f w r→f<m.mem.length:=by
  intro y l f w r h;have h5:=(hi.eo.pg y l f w r h).1;have n:=hi.sn.len;apply Decidable.byContradiction;intro c;unfold aq at h5;simp_all
 rw [Bool.not_true,cond_false,aeh hi b _ rfl,aki,al0 hi b _ rfl,akk,afT j 256 (cf _)];rw [show (((((List.range 256).filter fun y=>nN (g.en y)).length:Nat):Int)==((pB g.en 256:Nat):Int))=true from by unfold pB;simp,av,agU hi 4 b,aa,ar,al1 hi];simp_all
end Go.Proofs.YtgoggapkkefgmaaGreat
namespace Go.Proofs.YtgoggapkkefgmaaGreat
open Go.ChangeShapes Go.WideShapes Go.ChangeAt Go.RowKit Go.TM
theorem ab:ownKnob Tryz.prog.godebug=none:=by kernel_rfl
theorem ae3:laidOutB Tryz.prog=true:=by kernel_rfl
theorem aer {E:ao} {n:Nat} {b:List PM} {rt:List Ty} {fn:Func} {ds:List D} {v:kM rt×kM (lG b)} (h:aS E n b rt fn ds=some v):aB.g (aP E n b rt fn) ds=some (o7 rt v.1,o7 (lG b) v.2):=by
 unfold aB.g aP;simp only;rw [h]
set_option maxRecDepth 100000 in
theorem ae4 (N:Nat) (b:5000≤N):∀ds,Dj [.slice (.int .u8)] ds→aB.g (c3 N) ds=some ([⟨.bool,true⟩],[]):=by
 intro ds h;cases ds with
 |nil=>exact h.elim
 |cons d ds=>
  cases ds with
  |cons _ _=>exact h.2.elim
  |nil=>
   obtain ⟨⟨x,e,c⟩,_⟩:=h;subst e;exact aer (p3 x b)
set_option maxRecDepth 100000 in
theorem ae5 (os:Os) (started:os.Started) (H:Type) (enc:TypeId×Value→H):
 ReturnsInHanded {} Tryz.checked os 3 .any (Rows.fnMapsSpec.pre6 enc Tryz.prog Tryz.f3 Rows.fnMapsRow.domain false) (Rows.fnMapsSpec.post enc Tryz.prog Tryz.f3 false true false false):=by
 refine returnsInHanded_of_change_sized (C:=Tryz.checked) ab started (by kernel_rfl) Tryz.func3
  (ChangeSpec.witness6 (enc:=enc) (C:=Tryz.checked) false ⟨#[],#[.slice none 0 0],[]⟩ 8 (by kernel_rfl) (by kernel_rfl) (by kernel_rfl) (by kernel_rfl)) ?_
 intro W bg args ds b before g c j f _;exact adj (h:=(c3 5000).h) (v3 5000) Tryz.call3 (ae4 5000 (cf _)) rfl rfl (fun ds e=>by match ds,e with|[d],_=>rfl) (by kernel_rfl) rfl Tryz.underlying4 ae3 W bg args ds b before g c f
theorem maps_holds:Rows.FnMapsSaid:=
 OpenClaim.holds_of_wide 3 Tryz.f3 rfl rfl rfl rfl rfl rfl rfl ⟨rfl,rfl,rfl,rfl,rfl⟩ rfl rfl rfl rfl rfl (by kernel_rfl) Tryz.func3 (by kernel_rfl)
  (eU (by kernel_rfl)) (by unfold Func.isWrapper;first|(rw [ak (by decide+kernel)];kernel_rfl)|(rw [aj (by decide+kernel)];exact ⟨rfl,rfl⟩))
  (fun os started H enc _=>ae5 os started H enc)
#print axioms maps_holds
end Go.Proofs.YtgoggapkkefgmaaGreat
